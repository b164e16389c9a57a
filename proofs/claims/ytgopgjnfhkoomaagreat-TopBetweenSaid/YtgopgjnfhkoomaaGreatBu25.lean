/- Part 25 of the texts: what is wrong with a mark or a reading of a week. -/
import Derived.Test.YtgopgjnfhkoomaaGreatBu17
import Derived.Test.YtgopgjnfhkoomaaGreatRows
set_option linter.unusedVariables false
set_option linter.unusedSimpArgs false
namespace Go.Proofs.YtgopgjnfhkoomaaGreat
open Go.Abs
open Nat (reduceAdd reduceSub reduceLT reduceLeDiff reduceMul reduceEqDiff)
set_option maxHeartbeats 4000000
set_option maxRecDepth 100000
theorem Pz{α γ:Type}{l:List α}{a:α}{k:Nat}{g:α×Nat->List γ}(h:l[k]?=some a):(l.take (k+1)).zipIdx.flatMap g=(l.take k).zipIdx.flatMap g++g (a,k):=by
 have hk:=(ai.1 h).1
 rw[ey h,List.zipIdx_append,iD]
 simp[Bj (Nat.le_of_lt hk)]
theorem QI{α γ:Type}{c:Nat}{g:α×Nat->List γ}(l:List α)(h:∀k a,l[k]?=some a->(g (a,k)).length<=c):∀k,k<=l.length->((l.take k).zipIdx.flatMap g).length<=c*k:=fun k=>by
 induction k with
 |zero=>intro _;simp
 |succ k ih=>
  intro hk
  have e:l[k]?=some l[k]:=ae (by omega)
  have h1:=ih (by omega)
  have h2:=h k _ e
  rw[Pz e,aM,Nat.mul_add];omega
theorem QJ{α γ:Type}{l:List α}{g:α×Nat->List γ}:(l.zipIdx.flatMap g).length=0↔∀k a,l[k]?=some a->g (a,k)=[]:=by
 rw[cd,List.flatMap_eq_nil_iff]
 exact⟨fun h k a e=>h (a,k) (List.mem_zipIdx_iff_getElem?.2 e),fun h p hp=>h p.2 p.1 (List.mem_zipIdx_iff_getElem?.1 hp)⟩
abbrev Cl3:=Int×Int×Int
abbrev clS(c:Cl3):List AV:=[n c.1,n c.2.1,n c.2.2]
abbrev FI(l:List Cr):AV:=.sl 4 (l.map Ub)
def mkR(r:Cr)(i:Nat)(p:Mk×Nat):List Cl3:=if Fz [p.1.bD] (r.tk.getD p.1.en.toNat 0)then []else [(1,i,p.2)]
def adb(p:(dm×Cr)×Nat):List Cl3:=p.1.1.marks.zipIdx.flatMap (mkR p.1.2 p.2)
def rdR(d:Rd)(k:Nat)(p:(dm×Cr)×Nat):List Cl3:=if p.1.1.fB=d.fB/\Fz [d.levels] (p.1.2.nq.getD d.tick.toNat 0)=false then [(2,0,k)]else []
def ac3(fl:List (dm×Cr))(p:Rd×Nat):List Cl3:=fl.zipIdx.flatMap (rdR p.1 p.2)
def wrT(w:Wk)(l:List Cr):List Cl3:=(w.aS.zip l).zipIdx.flatMap adb++w.reads.zipIdx.flatMap (ac3 (w.aS.zip l))
theorem Wp(w:Wk)(l:List Cr)(hl:l.length=w.aS.length)(hn:w.aS.length<=64)(hr:w.reads.length<=64)(hm:∀(i:Nat) (f:dm) (r:Cr),w.aS[i]?=some f->l[i]?=some r->f.marks.length<=64/\(∀m∈f.marks,0<=m.en/\m.en.toNat<r.tk.length)/\∀d∈w.reads,0<=d.tick/\d.tick.toNat<r.nq.length):Pure Tryz.prog 43 [.agg w.cs,FI l] (.sl 3 ((wrT w l).map clS))/\(wrT w l).length<=10000:=by
 obtain⟨fl,Dd⟩:∃fl,fl=w.aS.zip l:=⟨_,rfl⟩
 have R6:fl.length=w.aS.length:=by rw[Dd,oG];omega
 have hfg:∀(i:Nat) (f:dm) (r:Cr),w.aS[i]?=some f->l[i]?=some r->fl[i]?=some (f,r):=fun i f r h1 h2=>by
  rw[Dd];exact(ir (z:=(f,r))).2 ⟨h1,h2⟩
 have KU:∀(i:Nat) (f:dm) (r:Cr),fl[i]?=some (f,r)->f.marks.length<=64:=fun i f r h=>by
  rw[Dd]at h
  obtain⟨h1,h2⟩:=(ir (z:=(f,r))).1 h
  exact(hm i f r h1 h2).1
 have Rw:∀(r:Cr) (i:Nat) (p:Mk×Nat),(mkR r i p).length<=1:=fun r i p=>by unfold mkR;split<;>simp
 have JO:∀(d:Rd) (k:Nat) (p:(dm×Cr)×Nat),(rdR d k p).length<=1:=fun r i p=>by unfold rdR;split<;>simp
 obtain⟨A,hA⟩:∃A:Nat->List Cl3,∀i,A i=(fl.take i).zipIdx.flatMap adb:=⟨_,fun _=>rfl⟩
 have hA0:A 0=[]:=by rw[hA];rfl
 have ZV:∀i,i<=fl.length->(A i).length<=64*i:=fun i hi=>by
  rw[hA]
  refine QI _ (fun k a e=>?_) i hi
  have h1:=QI (g:=mkR a.2 k) a.1.marks (fun j m _=>Rw _ _ _) a.1.marks.length (ar _)
  have h2:=KU k a.1 a.2 e
  rw[aI]at h1
  show(a.1.marks.zipIdx.flatMap (mkR a.2 k)).length<=64
  omega
 obtain⟨C,hC⟩:∃C:Nat->List Cl3,∀k,C k=A fl.length++(w.reads.take k).zipIdx.flatMap (ac3 fl):=⟨_,fun _=>rfl⟩
 have hC0:C 0=A fl.length:=by rw[hC];simp
 have hCl:∀k,k<=w.reads.length->(C k).length<=4096+64*k:=fun k hk=>by
  rw[hC,aM]
  have h1:=ZV fl.length (ar _)
  have h2:=QI (g:=ac3 fl) w.reads (c:=64) (fun k d e=>by
   have h3:=QI (g:=rdR d k) fl (fun j m _=>JO _ _ _) fl.length (ar _)
   rw[aI]at h3
   show(fl.zipIdx.flatMap (rdR d k)).length<=64
   omega) k hk
  omega
 have hCe:wrT w l=C w.reads.length:=by rw[hC,hA,aI,aI,Dd];rfl
 rw[hCe]
 refine⟨?_,by have:=hCl w.reads.length (ar _);omega⟩
 refine jX Tryz.f43.eq_1 [] [.l [1,2,5,9],.l [1,2,5,9,10,11],.d 25,.l [1,2,5,6],.l [1,2,5,6,7],.d 14] ?_
 have hpc:∀r:Cr,bC (.agg (Ub r)):=fun r=>.agg fun c hc=>by
  simp only[Ub,aC,au,or_false]at hc
  rcases hc with rfl|rfl|rfl|rfl<;>simp
 refine Au ?_;intros
 refine aR.oC 222 3 5 rfl ?_
 obtain⟨ob,ic⟩:∃ob:List Cl3->Ob,∀x,ob x=⟨222,3,x.map clS,none⟩:=⟨_,fun _=>rfl⟩
 refine aR.mT (α:={x:Nat×aG//x.1<=fl.length}) [5,6] (fun x=>[(5,.own 0 0 (A x.1.1).length),(6,n x.1.1)]) (fun x=>some [ob (A x.1.1)]::x.1.2) (fun x=>fl.length-x.1.1) ⟨(0,[]),aQ _⟩ ?_ ?_ ?_
 ·simp only[hA0,bM]
  (simp only[zN,zT,zV,zS,zU,dC,ex,bu,bN,elems,cells,scalar,dH,bL,aX,aU,bJ,bI,Nat.reduceBEq,reduceAdd,reduceSub,reduceLT,reduceLeDiff,reduceMul,reduceEqDiff,reduceIte];try simp)
 ·simp only[hA0,ic];rfl
 rintro⟨⟨i,ν⟩,hi⟩
 simp only at hi
 simp only
 by_cases bP:i<w.aS.length
 ·obtain⟨f,hf⟩:∃f,w.aS[i]?=some f:=⟨_,ae bP⟩
  obtain⟨r,hcr⟩:∃r,l[i]?=some r:=⟨_,ae (by omega)⟩
  have cX:(w.aS.map dm.cs).getD i []=dm.cs f:=getD_map hf
  have zJ:(l.map Ub).getD i []=Ub r:=getD_map hcr
  obtain⟨m1,m2,m3⟩:=hm i f r hf hcr
  obtain⟨B,hB⟩:∃B:Nat->List Cl3,∀k,B k=A i++(f.marks.take k).zipIdx.flatMap (mkR r i):=⟨_,fun _=>rfl⟩
  have hB0:B 0=A i:=by rw[hB];simp
  have hBe:B f.marks.length=A (i+1):=by
   rw[hB,aI,hA,hA,Pz (hfg i f r hf hcr)];rfl
  have qF:∀k,k<=f.marks.length->(B k).length<=64*i+k:=fun k hk=>by
   rw[hB,aM]
   have h1:=ZV i hi
   have h2:=QI (g:=mkR r i) f.marks (fun j m _=>Rw _ _ _) k hk
   omega
  have hBs:∀k m,f.marks[k]?=some m->B (k+1)=B k++mkR r i (m,k):=fun k m e=>by rw[hB,hB,Pz e,aW]
  rw[<-hB0]
  clear hB hB0 hA
  refine Ax @cX ?_;intros
  refine aR.le (α:={x:Nat×aG//x.1<=f.marks.length}) [5,7] (fun x=>[(5,.own 0 0 (B x.1.1).length),(7,n x.1.1)]) (fun x=>some [ob (B x.1.1)]::x.1.2) (fun x=>f.marks.length-x.1.1) ⟨(0,ν),aQ _⟩ ?_ ?_
  ·simp only
  rintro⟨⟨k,μ⟩,hk⟩
  simp only at hk
  simp only
  have l7:=qF k hk
  by_cases qz:k<f.marks.length
  ·obtain⟨m,Rh⟩:∃m,f.marks[k]?=some m:=⟨_,ae qz⟩
   have CR:(f.marks.map Mk.cs).getD k []=Mk.cs m:=getD_map Rh
   obtain⟨g1,g2⟩:=m2 m (ao Rh)
   have q:=Bf (l:=r.tk) (i:=m.en.toNat) g2
   have hIn:=zY [m.bD] (by simp) (r.tk.getD m.en.toNat 0)
   have l_:=hBs k m Rh
   unfold mkR at l_
   simp only at l_
   generalize Fz [m.bD] (r.tk.getD m.en.toNat 0)=b at*
   generalize r.tk.getD m.en.toNat 0=X at*
   have hE:((B k).map clS).length=(B k).length:=by simp
   have acB:∀x,ob (B k++[x])=⟨222,3,(B k).map clS++[clS x],none⟩:=fun x=>by rw[ic];simp
   have hlx:∀x:Cl3,(B k++[x]).length=(B k).length+1:=fun x=>by simp
   have L4:=ic (B k)
   cases b with
   |true=>
    rw[if_pos rfl,bb]at l_
    generalize hG:ob (B k)=G at*
    refine Az (aa @cX (aa @zJ (aa @CR @q))) @hIn ?_;intros
    exact⟨⟨(k+1,_),qz⟩,by simp[l_],by simp only[l_,hG];rfl,by simp only;omega⟩
   |false=>
    rw[if_neg (by simp)]at l_
    generalize(B k).map clS=E at*
    generalize(B k).length=L at*
    rw[L4]
    refine Az (aa @cX (aa @zJ (aa @CR (aa @q @hE)))) @hIn ?_;intros
    exact⟨⟨(k+1,_),qz⟩,by simp[l_,hlx],by simp only[l_,acB];rfl,by simp only;omega⟩
  ·obtain rfl:k=f.marks.length:=by omega
   rw[hBe]
   generalize hG:ob (A (i+1))=G at*
   refine Ax @cX ?_;intros
   exact⟨⟨(i+1,_),by omega⟩,by simp,by simp only[hG];rfl,by simp only;omega⟩
 ·obtain rfl:i=fl.length:=by omega
  rw[<-hC0]
  generalize hG:ob (C 0)=G at*
  refine Au ?_;intros
  refine aR.le (α:={x:Nat×aG//x.1<=w.reads.length}) [5,9] (fun x=>[(5,.own 0 0 (C x.1.1).length),(9,n x.1.1)]) (fun x=>some [ob (C x.1.1)]::x.1.2) (fun x=>w.reads.length-x.1.1) ⟨(0,ν),aQ _⟩ ?_ ?_
  ·simp only[hG]
  clear hG G
  rintro⟨⟨i,ν⟩,hi⟩
  simp only at hi
  simp only
  by_cases qz:i<w.reads.length
  ·obtain⟨d,hd⟩:∃d,w.reads[i]?=some d:=⟨_,ae qz⟩
   have cX:(w.reads.map Rd.cs).getD i []=Rd.cs d:=getD_map hd
   have hdm:=ao hd
   obtain⟨B,hB⟩:∃B:Nat->List Cl3,∀k,B k=C i++(fl.take k).zipIdx.flatMap (rdR d i):=⟨_,fun _=>rfl⟩
   have hB0:B 0=C i:=by rw[hB];simp
   have hBe:B fl.length=C (i+1):=by
    rw[hB,aI,hC,hC,Pz hd,aW];rfl
   have qF:∀k,k<=fl.length->(B k).length<=4096+64*i+k:=fun k hk=>by
    rw[hB,aM]
    have h1:=hCl i hi
    have h2:=QI (g:=rdR d i) fl (fun j m _=>JO _ _ _) k hk
    omega
   have hBs:∀k p,fl[k]?=some p->B (k+1)=B k++rdR d i (p,k):=fun k m e=>by rw[hB,hB,Pz e,aW]
   rw[<-hB0]
   clear hB hB0 hC
   generalize hG:ob (B 0)=G at*
   refine Ax @cX ?_;intros
   refine aR.le (α:={x:Nat×aG//x.1<=fl.length}) [5,11] (fun x=>[(5,.own 0 0 (B x.1.1).length),(11,n x.1.1)]) (fun x=>some [ob (B x.1.1)]::(ν++some [⟨71,5,[d.cs],none⟩]::x.1.2)) (fun x=>fl.length-x.1.1) ⟨(0,[]),aQ _⟩ ?_ ?_
   ·simp only[hG]
   clear hG G
   rintro⟨⟨k,μ⟩,hk⟩
   simp only at hk
   simp only
   have hX:∀(a:Option (List Ob)) (o:Ob) (r:aG),aG.at (a::(ν++some [o]::r)) (List.length ν+1) 0=some o:=fun a o r=>by rw[cQ,dV];rfl
   have l7:=qF k hk
   by_cases my:k<fl.length
   ·obtain⟨f,hf⟩:∃f,w.aS[k]?=some f:=⟨_,ae (by omega)⟩
    obtain⟨r,hcr⟩:∃r,l[k]?=some r:=⟨_,ae (by omega)⟩
    have zJ:(w.aS.map dm.cs).getD k []=dm.cs f:=getD_map hf
    have CR:(l.map Ub).getD k []=Ub r:=getD_map hcr
    obtain⟨g1,g2⟩:=(hm k f r hf hcr).2.2 d hdm
    have q:=Bf (l:=r.nq) (i:=d.tick.toNat) g2
    have hIn:=zY [d.levels] (by simp) (r.nq.getD d.tick.toNat 0)
    have l_:=hBs k _ (hfg k f r hf hcr)
    unfold rdR at l_
    simp only at l_
    generalize Fz [d.levels] (r.nq.getD d.tick.toNat 0)=b at*
    generalize r.nq.getD d.tick.toNat 0=X at*
    have hE:((B k).map clS).length=(B k).length:=by simp
    have acB:∀x,ob (B k++[x])=⟨222,3,(B k).map clS++[clS x],none⟩:=fun x=>by rw[ic];simp
    have hlx:∀x:Cl3,(B k++[x]).length=(B k).length+1:=fun x=>by simp
    have L4:=ic (B k)
    clear hm hBe qF hBs hfg KU Rw JO ZV hCl
    replace acB:=Yb.mk acB
    replace hlx:=Yb.mk hlx
    by_cases mQ:f.fB=d.fB/\b=false
    ·rw[if_pos mQ]at l_
     obtain⟨mQ,rfl⟩:=mQ
     generalize(B k).map clS=E at*
     generalize(B k).length=L at*
     rw[L4]
     clear L4
     replace l_:=Yb.mk l_
     have XZ:decide (f.fB=d.fB)=true:=decide_eq_true mQ
     clear mQ
     iterate 3
      refine aeg (aa @zN (aa @hX (aa @zJ (aa @CR (aa @q (aa @hE @XZ)))))) @hIn ?_;intros
      all_goals try(exfalso;omega)
     refine Az (aa @zN (aa @hX (aa @zJ (aa @CR (aa @q (aa @hE @XZ)))))) @hIn ?_;intros
     all_goals try contradiction
     exact⟨⟨(k+1,_),my⟩,by simp[l_.out,hlx.out],by simp only[l_.out,acB.out];rfl,by simp only;omega⟩
    ·rw[if_neg mQ,bb]at l_
     generalize hG:ob (B k)=G at*
     clear L4
     replace l_:=Yb.mk l_
     by_cases aaF:f.fB=d.fB
     ·obtain rfl:b=true:=by
       cases b with
       |true=>rfl
       |false=>exact absurd ⟨aaF,rfl⟩ mQ
      clear mQ
      have XZ:decide (f.fB=d.fB)=true:=decide_eq_true aaF
      clear aaF
      iterate 3
       refine aeg (aa @zN (aa @hX (aa @zJ (aa @CR (aa @q @XZ))))) @hIn ?_;intros
       all_goals try(exfalso;omega)
      refine Az (aa @zN (aa @hX (aa @zJ (aa @CR (aa @q @XZ))))) @hIn ?_;intros
      all_goals try contradiction
      exact⟨⟨(k+1,_),my⟩,by simp[l_.out],by simp only[l_.out,hG];rfl,by simp only;omega⟩
     ·clear mQ
      have XZ:decide (f.fB=d.fB)=false:=decide_eq_false aaF
      iterate 3
       refine aeg (aa @zN (aa @hX (aa @zJ (aa @CR (aa @q @XZ))))) @hIn ?_;intros
       all_goals try(exfalso;omega)
      refine Az (aa @zN (aa @hX (aa @zJ (aa @CR (aa @q @XZ))))) @hIn ?_;intros
      all_goals try contradiction
      exact⟨⟨(k+1,_),my⟩,by simp[l_.out],by simp only[l_.out,hG];rfl,by simp only;omega⟩
   ·obtain rfl:k=fl.length:=by omega
    rw[hBe]
    generalize hG:ob (C (i+1))=G at*
    iterate 3
     refine adM ?_;intros
     all_goals try(exfalso;omega)
    refine Au ?_;intros
    exact⟨⟨(i+1,_),by omega⟩,by simp,by simp only[hG];rfl,by simp only;omega⟩
  ·obtain rfl:i=w.reads.length:=by omega
   have ow:=hCl w.reads.length hi
   refine Au ?_;intros
   exact bO.gZ (T:=222) (cs:=clS) (by rw[ic];rfl) rfl (by decide) (fun a c hc=>by simp only[clS,aC,au,or_false]at hc;rcases hc with rfl|rfl|rfl<;>simp) (fun a=>rfl)
end Go.Proofs.YtgopgjnfhkoomaaGreat
