/- Part 17 of the texts: abstract values over the walk; contracts. -/
import Derived.Test.YtgopgjnfhkoomaaGreatBu16
import Derived.Test.YtgopgjnfhkoomaaGreatRows
set_option linter.unusedVariables false
set_option linter.unusedSimpArgs false
namespace Go.Abs
theorem wE{α β:Type}{G:α->β->α}(g:α->Nat)(h:∀x a,g (G x a)<=g x+1):∀(l:List β) (x:α),g (l.foldl G x)<=g x+l.length
 | [],x=>ar _
 |a::l,x=>by
  have h1:=wE g h l (G x a)
  have h2:=h x a
  simp only[cT,bf]
  omega
theorem KH{al:List (Nm×Nt)}{x:Fs}{a:Nt}{f:dm}(h:f∈(mo al x a).rs):f∈x.rs\/f.c8=a.c8/\f.marks.length=f.names.length/\f.names=(eM x.marks a.nm).getD []:=by
 unfold mo at h
 simp only at h
 split at h
 ·rw[(kT (kl al x a)).2.1]at h;exact .inl h
 ·rcases bm.1 h with h|h
  ·exact .inl h
  ·rw[bp.1 h];exact .inr ⟨rfl,by simp,rfl⟩
theorem KI(al:List (Nm×Nt))(x:Fs)(a:Nt):(nt al x a).rs=x.rs:=by
 unfold nt
 simp only
 split
 ·exact(kT (kl al x a)).2.1
 ·rfl
theorem Xj{b:l8}{l:List Nt}{Q:fT->Prop}(hq:∀a∈l,Q a.c8)(he:(pg b l).1=0):(oV b l).aS.length<=400/\(oV b l).reads.length<=400/\(gW (oV b l).dh).1=0/\(oV b l).ig.length<=400/\∀f∈(oV b l).aS,Q f.c8/\f.marks.length<=64/\f.names.length<=64:=by
 obtain⟨h1,h2,_,_⟩:=C6 he
 have hS:∀ks,(fg l ks).length<=400:=fun ks=>bT (zb l ks) h2
 unfold oV
 simp only
 generalize mI l=al
 obtain⟨x2,Ql⟩:∃x,x=(fg l [5]).foldl (rk al) ((fg l [1,3]).foldl mm (K0 b)):=⟨_,rfl⟩
 have k2:kp x2=kp (K0 b):=by rw[Ql,lW kp (Ft al),lW kp B4]
 rw[<-Ql]
 obtain⟨x3,Qm⟩:∃x,x=(fg l [2]).foldl (lJ al) x2:=⟨_,rfl⟩
 have k3:rH x3/\x3.rs=[]/\x3.rr=[]/\x3.st=b.dh:=by
  obtain⟨m2,r2,q2,s2⟩:=kT k2
  rw[Qm]
  refine l5 (fun x=>rH x/\x.rs=[]/\x.rr=[]/\x.st=b.dh) _ _ (fun x a _ h=>?_) ⟨fun m L h=>(by rw[m2]at h;cases h),r2,q2,s2⟩
  obtain⟨g1,_,g2,g3,g4⟩:=u9 al x a h.1
  exact⟨g1,g2.trans h.2.1,g3.trans h.2.2.1,g4.trans h.2.2.2⟩
 rw[<-Qm]
 obtain⟨x4,UR⟩:∃x,x=(fg l [6]).foldl (gY al) x3:=⟨_,rfl⟩
 have k4:kp x4=kp x3:=by rw[UR];exact lW kp (xf al) _ _
 obtain⟨m4,r4,q4,s4⟩:=kT k4
 rw[<-UR]
 obtain⟨x5,T_⟩:∃x,x=(fg l [1]).foldl (mo al) x4:=⟨_,rfl⟩
 have c5:x5.rs.length<=400:=by
  have h3:=wE (G:=mo al) (fun x=>x.rs.length) (fun x a=>(nR al x a).2.1) (fg l [1]) x4
  have h4:=hS [1]
  rw[<-T_]at h3
  simp only[r4,k3.2.1,bM]at h3
  omega
 have k5:rH x5/\x5.rr=[]/\x5.st=b.dh/\∀f∈x5.rs,Q f.c8/\f.marks.length<=64/\f.names.length<=64:=by
  rw[T_]
  refine l5 (fun x=>rH x/\x.rr=[]/\x.st=b.dh/\∀f∈x.rs,Q f.c8/\f.marks.length<=64/\f.names.length<=64) _ _ (fun x a ha h=>?_) ⟨fun m L h=>k3.1 m L (by rw[<-m4];exact h),q4.trans k3.2.2.1,s4.trans k3.2.2.2,fun f hf=>by rw[r4,k3.2.1]at hf;cases hf⟩
  obtain⟨g1,_,g3,g4⟩:=nR al x a
  refine⟨fun m L hm=>h.1 m L (by rw[<-g1];exact hm),g3.trans h.2.1,g4.trans h.2.2.1,fun f hf=>?_⟩
  rcases KH hf with hf|⟨e1,e2,e3⟩
  ·exact h.2.2.2 f hf
  ·have K_:f.names.length<=64:=by
    rw[e3]
    cases hk:eM x.marks a.nm with
    |none=>simp
    |some L=>exact h.1 _ _ hk
   exact⟨e1▸hq a (zQ ha).1,by omega,K_⟩
 rw[<-T_]
 obtain⟨x6,US⟩:∃x,x=(fg l [4]).foldl (nt al) x5:=⟨_,rfl⟩
 have k6:x6.rr=[]/\x6.rs=x5.rs/\pO b.dh x6.st:=by
  rw[US]
  refine l5 (fun x=>x.rr=[]/\x.rs=x5.rs/\pO b.dh x.st) _ _ (fun x a _ h=>⟨(B5 al x a).trans h.1,(KI al x a).trans h.2.1,h.2.2.raise al a⟩) ⟨k5.2.1,rfl,by rw[k5.2.2.1];exact⟨h1.1,rfl⟩⟩
 rw[<-US]
 obtain⟨x7,UT⟩:∃x,x=(fg l [3]).foldl qk x6:=⟨_,rfl⟩
 have c7:x7.rr.length<=400:=by
  have h3:=wE (G:=qk) (fun x=>x.rr.length) (fun x a=>dS (Fu x a).2.2.1) (fg l [3]) x6
  have h4:=hS [3]
  rw[<-UT]at h3
  simp only[k6.1,bM]at h3
  omega
 have k7:x7.rs=x5.rs/\pO b.dh x7.st:=by
  rw[UT]
  exact l5 (fun x:Fs=>x.rs=x5.rs/\pO b.dh x.st) _ _ (fun x a _ h=>h) k6.2
 rw[<-UT]
 obtain⟨h5,h6⟩:=wy al l (x7,[])
 obtain⟨_,h7,h8,h9⟩:=kT h6
 simp only[bM]at h5
 rw[h7,h8,h9,k7.1]
 exact⟨c5,c7,k7.2.ok,by omega,k5.2.2.2⟩
end Go.Abs
namespace Go.Proofs.YtgopgjnfhkoomaaGreat
open Go.Abs
open Nat (reduceAdd reduceSub reduceLT reduceLeDiff reduceMul reduceEqDiff)
set_option maxHeartbeats 4000000
set_option maxRecDepth 100000
theorem Uf(b:l8)(r:FU)(w:Int):(pI b r w).aS.length<=r.aS.length/\(pI b r w).reads.length<=r.reads.length/\∀f∈(pI b r w).aS,f∈r.aS:=by
 have h:=wD (r.aS.filter fun f=>f.week==w)
 refine⟨?_,bK _ _,fun f hf=>(cM.1 (h.mem_iff.1 hf)).1⟩
 show(sB _).length<=_
 rw[h.length_eq]
 exact bK _ _
structure WkQ(b:l8)(w:Wk):Prop where
 sz:Ny w
 g:UN w
 ck:Pure Tryz.prog 26 [.agg w.cs] (n 0)
 tk:w.base.bD=b.bD
 tm:w.base.term=b.term
 fs:∀f∈w.aS,qC f.c8=true
 t8:b.bD<=8
theorem FA(b:l8)(l:List Nt)(wk:Int)(hb:mq b)(hl:pK l):∃(r:FU) (w:Wk) (ok:Bool),Pure Tryz.prog 6 [.agg b.cs,Ad l,n wk] (.iu [.agg r.cs,.agg w.cs,bl ok])/\(ok=true->WkQ b w)/\w.aS.length<9223372036854775808:=by
 have h1:=NP l hl
 have h2:=va b hb
 have h3:=KB b hb l hl
 by_cases g1:Qr l=true/\Fy b=true
 ·obtain⟨g1,g2⟩:=g1
  rw[g1]at h1
  rw[g2]at h2
  by_cases ha:lV b [l]=0
  ·have hE:sS b l=(oV b l,0):=by unfold sS;rw[if_neg (by omega)]
   rw[hE]at h3
   obtain⟨z1,z2,z3,z4,z5⟩:=Xj (Q:=rq) (fun a ha=>hl.2 a ha) ((BI ha).2 l (by simp))
   generalize oV b l=r at*
   obtain⟨y1,y2⟩:=tL z3
   have wS:ql r.dh:=⟨by omega,fun s hs=>by have:=y2 s hs;omega⟩
   have h4:=NS b hb r (by omega) (by omega) wS (by omega) fun f hf=>⟨(z5 f hf).1,by have:=(z5 f hf).2.1;omega,by have:=(z5 f hf).2.2;omega⟩
   by_cases g3:Qs b r=true
   ·rw[g3]at h4
    unfold Qs at g3
    simp only[ak,decide_eq_true_eq,bt]at g3
    have OO:∀f∈r.aS,f.c8.trace.length<=12/\f.c8.eu.length<=8/\f.c8.rates.length<=5/\f.c8.stops.length<=4:=fun f hf=>Qq (g3.1.1.2 f hf).1
    obtain⟨l1,l2,l3⟩:=Uf b r wk
    have h5:=KC Ua b hb r wk (Nat.lt_of_le_of_lt (bK _ _) (by omega)) (by omega) (fun s hs=>by have:=y2 s hs;omega) (fun f hf=>by
     have a1:=OO f hf
     have a2:=z5 f hf
     exact⟨⟨by omega,by omega,by omega,by omega⟩,by omega,by omega⟩) (by omega) (by omega)
    by_cases g4:(mW b r wk).2=0
    ·have hW:mW b r wk=(pI b r wk,0):=by
      unfold mW at g4|-
      split at g4
      ·cases g4
      split at g4
      ·cases g4
      split at g4
      ·cases g4
      rename_i q1 q2 q3
      rw[if_neg q1,if_neg q2,if_neg q3]
     rw[hW]at h5
     have hz:Ny (pI b r wk):=by
      refine⟨wS,?_,by omega,by omega,fun f hf=>?_⟩
      ·show r.dh.length<=_
       omega
      ·have a1:=OO f (l3 f hf)
       have a2:=z5 f (l3 f hf)
       exact⟨by omega,by omega,by omega,by omega,by omega⟩
     obtain⟨e,h6,h7⟩:=DF _ hz
     have ht:(pI b r wk).base.bD=b.bD:=rfl
     have ZR:(pI b r wk).base.term=b.term:=rfl
     have ht3:∀f∈(pI b r wk).aS,qC f.c8=true:=fun f hf=>(g3.1.1.2 f (l3 f hf)).1
     have ht4:b.bD<=8:=by
      unfold Fy at g2
      rw[ak,decide_eq_true_eq]at g2
      exact g2.1.2
     generalize pI b r wk=w at*
     refine⟨r,w,decide (e=0),?_,fun h=>?_,by omega⟩
     ·clear OO z5 g3 ht ZR ht3 ht4
      refine jX Tryz.f6.eq_1 [] [.w (adQ 0 12) [1,7,8] 2 9] ?_
      refine Ay (aa @h1 (aa @h2 (aa @h3 (aa @h4 (aa @h5 @h6))))) ?_;intros
      all_goals exact bO.mY ⟨bO.pure (HE r),bO.pure (.agg (IG w)),bO.eq (by simp[*]) (by simp),trivial⟩
     ·have e0:=of_decide_eq_true h
      rw[e0]at h6
      exact⟨hz,h7 e0,h6,ht,ZR,ht3,ht4⟩
    ·have Cb:(mW b r wk).1.aS.length<9223372036854775808:=by
      unfold mW
      split
      ·decide
      split
      ·decide
      split
      ·decide
      ·exact Nat.lt_of_le_of_lt l1 (by omega)
     generalize(mW b r wk).2=e at*
     generalize(mW b r wk).1=w at*
     refine⟨r,w,false,?_,(fun h=>by cases h),Cb⟩
     clear OO z5 g3
     have hd:decide (e=0)=false:=decide_eq_false g4
     refine jX Tryz.f6.eq_1 [] [.w (adQ 0 12) [1,7,8] 2 9] ?_
     refine Az @hd (aa @h1 (aa @h2 (aa @h3 (aa @h4 @h5)))) ?_;intros
     all_goals exact bO.mY ⟨bO.pure (HE r),bO.pure (.agg (IG w)),bO.eq (by simp[*]) (by simp),trivial⟩
   ·rw[Bool.not_eq_true]at g3
    rw[g3]at h4
    refine⟨Jy,Pd,false,?_,(fun h=>by cases h),by decide⟩
    clear z5
    refine jX Tryz.f6.eq_1 [] [.w (adQ 0 12) [1,7,8] 2 9] ?_
    refine Ay (aa @h1 (aa @h2 (aa @h3 @h4))) ?_;intros
    all_goals exact bO.mY ⟨bO.mX ⟨bO.g_,bO.g_,bO.g_,bO.g_,trivial⟩,bO.mX ⟨bO.g_,bO.pure (by simp),bO.pure (by simp),bO.pure (by simp),bO.pure (by simp),bO.pure (by simp),bO.pure (by simp),bO.g_,bO.g_,trivial⟩,bO.pure (by simp),trivial⟩
  ·have hE:sS b l=(Jy,lV b [l]):=by unfold sS;rw[if_pos ha]
   rw[hE]at h3
   generalize lV b [l]=e at*
   have hd:decide (e=0)=false:=decide_eq_false ha
   refine⟨Jy,Pd,false,?_,(fun h=>by cases h),by decide⟩
   refine jX Tryz.f6.eq_1 [] [.w (adQ 0 12) [1,7,8] 2 9] ?_
   refine Az @hd (aa @h1 (aa @h2 @h3)) ?_;intros
   all_goals exact bO.mY ⟨bO.mX ⟨bO.g_,bO.g_,bO.g_,bO.g_,trivial⟩,bO.mX ⟨bO.g_,bO.pure (by simp),bO.pure (by simp),bO.pure (by simp),bO.pure (by simp),bO.pure (by simp),bO.pure (by simp),bO.g_,bO.g_,trivial⟩,bO.pure (by simp),trivial⟩
 ·refine⟨Jy,Pd,false,?_,(fun h=>by cases h),by decide⟩
  refine jX Tryz.f6.eq_1 [] [.w (adQ 0 12) [1,7,8] 2 9] ?_
  generalize Qr l=q1 at*
  generalize Fy b=q2 at*
  cases q1 with
  |false=>
   refine Ay @h1 ?_;intros
   all_goals exact bO.mY ⟨bO.mX ⟨bO.g_,bO.g_,bO.g_,bO.g_,trivial⟩,bO.mX ⟨bO.g_,bO.pure (by simp),bO.pure (by simp),bO.pure (by simp),bO.pure (by simp),bO.pure (by simp),bO.pure (by simp),bO.g_,bO.g_,trivial⟩,bO.pure (by simp),trivial⟩
  |true=>
   cases q2 with
   |true=>exact absurd ⟨rfl,rfl⟩ g1
   |false=>
    refine Ay (aa @h1 @h2) ?_;intros
    all_goals exact bO.mY ⟨bO.mX ⟨bO.g_,bO.g_,bO.g_,bO.g_,trivial⟩,bO.mX ⟨bO.g_,bO.pure (by simp),bO.pure (by simp),bO.pure (by simp),bO.pure (by simp),bO.pure (by simp),bO.pure (by simp),bO.g_,bO.g_,trivial⟩,bO.pure (by simp),trivial⟩
end Go.Proofs.YtgopgjnfhkoomaaGreat
