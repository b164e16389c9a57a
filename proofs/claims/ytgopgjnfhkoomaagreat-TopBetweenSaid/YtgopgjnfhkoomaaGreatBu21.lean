/- Part 21 of the texts: abstract values over the walk; contracts. -/
import Derived.Test.YtgopgjnfhkoomaaGreatBu20
import Derived.Test.YtgopgjnfhkoomaaGreatRows
set_option linter.unusedVariables false
set_option linter.unusedSimpArgs false
namespace Go.Proofs.YtgopgjnfhkoomaaGreat
open Go.Abs
open Nat (reduceAdd reduceSub reduceLT reduceLeDiff reduceMul reduceEqDiff)
set_option maxHeartbeats 4000000
set_option maxRecDepth 100000
theorem aag{l:List j3}{id:Int}(h:(gI l id).2=0):(gI l id).1<l.length:=by
 unfold gI at h|-
 split at h
 ·exact absurd h (by assumption)
 ·rename_i hc
  rw[if_neg hc]
  cases hf:l.findIdx? fun s=>s.id==id with
  |none=>rw[hf]at h;cases h
  |some i=>exact(List.findIdx?_eq_some_iff_findIdx_eq.1 hf).1
structure Kg(w:Wk):Prop where
 ok:zG w
 sn:w.aS.length<=64
 TM:∀f∈w.aS,p' w f<=4000
 st:∀f∈w.aS,(gI w.base.dh f.fB).2=0
 sz:ql w.base.dh
 one:∀s∈w.base.dh,H7 s
 tm:0<=w.base.term/\w.base.term<=w.base.bD
 wk:inr w.week 0 10000
 wd:abI w.base.fixed w.base.each
noncomputable abbrev Fl(w:Wk)(f:dm):j3:=w.base.dh.getD (gI w.base.dh f.fB).1 default
noncomputable def XD(w:Wk)(f:dm):aeR:=⟨.bZ (A7 (tW w f f.fB)) 0,Fl w f,CI (Fl w f) w.week,jI [] (KG (tW w f f.fB) (tkA (tW w f f.fB)) w.base.term.toNat)⟩
noncomputable def CJ(w:Wk):List aeR:=w.aS.map (XD w)
noncomputable def bdW(w:Wk):List (List Int):=(CJ w).map fun a=>(CJ w).map fun b=>G2 w.base.fixed w.base.each a.st b.st
def rgF(w:Wk)(S:List aeR)(B:List (List Int)):List AV:=[KY w.base.dh,n w.base.fixed,n w.base.each,n w.base.term,n w.base.bD,n w.base.tF,n w.week,X9 w.aS,Jw w.reads,.sl 1 (S.map fun s=>[.bZ s.cs 0]),.sl 1 (B.map fun r=>[l9 r])]
theorem Fm{w:Wk}(hw:Kg w){f:dm}(hf:f∈w.aS):w.base.dh[(gI w.base.dh f.fB).1]?=some (Fl w f)/\H7 (Fl w f):=by
 have h:=fh (default:j3) (aag (hw.st f hf))
 exact⟨h,hw.one _ (ao h)⟩
theorem aah(w:Wk)(f:dm):bC (.bZ (XD w f).cs 0):=.bZ fun x hx=>by
 simp only[aeR.cs,XD,aC,au,or_false]at hx
 rcases hx with rfl|rfl|rfl|rfl|rfl|rfl|rfl|rfl<;>simp
theorem abY{w:Wk}{S:List aeR}{B:List (List Int)}(hSp:∀s∈S,bC (.bZ s.cs 0)):bC (.bZ (rgF w S B) 0):=.bZ fun x hx=>by
 simp only[rgF,aC,au,or_false]at hx
 rcases hx with rfl|rfl|rfl|rfl|rfl|rfl|rfl|rfl|rfl|rfl|rfl
 all_goals first
  |(simp;done)
  |(refine bC.sl fun e he c hc=>?_
    obtain⟨s,hs,rfl⟩:=aO.1 he
    rw[bp.1 hc];exact hSp s hs)
  |(refine bC.sl fun e he c hc=>?_
    obtain⟨s,hs,rfl⟩:=aO.1 he
    rw[bp.1 hc];simp)
theorem XE(w:Wk)(hw:Kg w):Pure Tryz.prog 98 [.agg w.cs] (.iu [.bZ (rgF w (CJ w) (bdW w)) 0,n 0]):=by
 refine et 140 (jo [jx 1 38 9 0,jw 2 (.mv (.c (.pointer none))),jc 3 0] [1] (jo [jk 18 9 1,jw 19 (.build [.slice none 0 0,.int .i64 0,.int .i64 0,.int .i64 0,.int .i64 0,.int .i64 0,.int .i64 0,.slice none 0 0,.slice none 0 0,.slice none 0 0,.slice none 0 0] [(0,9,(.t 18))]),jw 20 (.box true 130 11 (.t 19)),jm 4 20] [1,4] (jo [jn 5] [1,4,5] (.seq (jo [jf 21 7 1,jl 22 21,je 23 22,jc 24 0] [1,4,5,22,23,24] (.block 0 (.loop (jo [jt .lss 25 24 23] [1,4,5,22,23,24,25] (.seq (.cond (.t 25) .skip (.exit 0)) (.seq (.block 1 (jo [jm 26 24,ji 27 24 22 24,jk 28 24 27,jw 7 (.alloc 66 24 z24),jm 6 26,js 24 7 28] [1,4,5,6,7,22,23,24] (jo [jk 30 9 1,jm 31 6,jy 32 31 [30,31],jm 29 32,jz 33 0 29,jz 34 1 29,jm 8 33,jm 9 34] [1,4,5,7,8,9,22,23,24] (.seq (jo [jm 35 9,ju .neq 36 35 0] [1,4,5,7,8,9,22,23,24,36] (.cond (.t 36) (jo [jm 37 9,jw 2 (.mv (.c (.pointer none))),jm 3 37] [2,3] .ret) .skip)) (jo [jf 39 0 1,jf 40 0 39,jl 41 40,jf 42 2 7,jl 43 42,jy 44 12 [41,43],jm 38 44,jz 45 0 38,jz 46 1 38,jm 10 45,jm 11 46] [1,4,5,8,10,22,23,24] (jo [jm 47 8,jf 48 0 1,jf 49 0 48,jl 50 49,jm 51 10,ji 52 4 50 51,jk 53 4 52,jw 54 (.build [.pointer none,.int .i64 0,.int .i64 0,.int .i64 0,.slice none 0 0,.int .i64 0,.int .i64 0,.slice none 0 0] [(0,1,(.t 47)),(1,4,(.t 53))]),jw 55 (.box true 133 8 (.t 54)),jm 12 55] [1,4,5,8,12,22,23,24] (.seq (.jC (List.range 14) [10] 1 [jm 57 12,jm 58 12,jw 59 (.dY (.t 58)),jf 60 1 59,jk 61 4 60,jf 62 6 1,jl 63 62,jy 64 172 [61,63],jm 56 64,jz 65 0 56,jz 66 1 56,jw 67 (.dY (.t 57)),jf 68 5 67] [js 2 68 65] [1,4,5,8,12,22,23,24]) (jo [jm 69 12,jm 70 8,jf 71 0 1,jf 72 3 71,jl 73 72,jf 74 0 1,jf 75 3 74,jl 76 75,jw 77 (.call (.f 49) [(.t 70),(.t 73),(.t 76),(.c (.slice none 0 0)),(.c (.bool true))]),jw 78 (.dY (.t 69)),jf 79 7 78,js 1 79 77] [1,4,5,12,22,23,24] (jo [jm 80 4,jm 81 4,jw 82 (.dY (.t 81)),jf 83 9 82,jl 84 83,jm 85 12,jw 86 (.jR false 126 1 1 [.pointer none] [(0,1,(.t 85))]),jw 87 (.app 126 1 8 (.t 84) (.t 86)),jw 88 (.dY (.t 80)),jf 89 9 88,js 1 89 87] [1,4,5,12,22,23,24] (.ops [jm 90 5,jm 91 12,jw 92 (.dY (.t 91)),jf 93 1 92,jk 94 4 93,jw 95 (.jR false 118 4 1 [.int .i64 0,.int .i64 0,.int .i64 0,.slice none 0 0] [(0,4,(.t 94))]),jw 96 (.app 118 4 48 (.t 90) (.t 95)),jm 5 96] [1,4,5,22,23,24])))))))))) (.ops [ju .add 97 24 1,jm 24 97] [1,4,5,22,23,24]))))))) (.seq (jo [jm 98 5,je 99 98,jc 100 0] [1,4,5,99,100] (.block 2 (.loop (jo [jt .lss 101 100 99] [1,4,5,99,100,101] (.seq (.cond (.t 101) .skip (.exit 2)) (.seq (.block 3 (jo [jm 102 100,jm 13 102] [1,4,5,13,99,100] (jo [jn 14] [1,4,5,13,14,99,100] (.seq (jo [jm 103 5,je 104 103,jc 105 0] [1,4,5,13,14,99,100,104,105] (.block 4 (.loop (jo [jt .lss 106 105 104] [1,4,5,13,14,99,100,104,105,106] (.seq (.cond (.t 106) .skip (.exit 4)) (.seq (.block 5 (jo [jm 107 105,jm 15 107] [1,4,5,13,14,15,99,100,104,105] (.seq (.draw [jf 109 0 1,jf 110 1 109,jk 111 2 110,jm 112 5,jm 113 13,ji 114 4 112 113,jk 115 4 114,jm 116 5,jm 117 15,ji 118 4 116 117,jk 119 4 118,jy 120 173 [111,115,119],jm 108 120,jz 121 0 108,jz 122 1 108,jm 16 121,jm 17 122] [] [1,4,5,13,14,16,99,100,104,105]) (.ops [jm 123 14,jm 124 16,jw 125 (.jR false 3 1 1 [.int .i64 0] [(0,1,(.t 124))]),jw 126 (.app 3 1 8 (.t 123) (.t 125)),jm 14 126] [1,4,5,13,14,99,100,104,105])))) (.ops [ju .add 127 105 1,jm 105 127] [1,4,5,13,14,99,100,104,105]))))))) (.ops [jm 128 4,jm 129 4,jw 130 (.dY (.t 129)),jf 131 10 130,jl 132 131,jm 133 14,jw 134 (.jR false 28 1 1 [.slice none 0 0] [(0,1,(.t 133))]),jw 135 (.app 28 1 24 (.t 132) (.t 134)),jw 136 (.dY (.t 128)),jf 137 10 136,js 1 137 135] [1,4,5,99,100]))))) (.ops [ju .add 138 100 1,jm 100 138] [1,4,5,99,100]))))))) (jo [jm 139 4,jm 2 139,jc 3 0] [2,3] .ret)))))) [.t 2,.t 3] Tryz.call98 Tryz.func98 ?_
 have hsn:=hw.sn
 obtain⟨S,hS⟩:∃S,S=CJ w:=⟨_,rfl⟩
 have tQ:S.length=w.aS.length:=by rw[hS];simp[CJ]
 have hSg:∀i f,w.aS[i]?=some f->S[i]?=some (XD w f):=fun i f h=>by rw[hS,CJ,aV,h];rfl
 have hB:bdW w=S.map fun a=>S.map fun b=>G2 w.base.fixed w.base.each a.st b.st:=by rw[hS];rfl
 have jN:∀s∈S,H7 s.st:=fun s hs=>by
  rw[hS]at hs
  obtain⟨f,hf,rfl⟩:=aO.1 hs
  exact(Fm hw hf).2
 have hSp:∀s∈S,bC (.bZ s.cs 0):=fun s hs=>by
  rw[hS]at hs
  obtain⟨f,hf,rfl⟩:=aO.1 hs
  exact aah w f
 rw[hB,<-hS]
 clear hS hB
 obtain⟨rg,XQ⟩:∃rg:AV->AV->Ob,∀a b,rg a b=⟨130,11,[[KY w.base.dh,n w.base.fixed,n w.base.each,n w.base.term,n w.base.bD,n w.base.tF,n w.week,X9 w.aS,Jw w.reads,a,b]],none⟩:=⟨_,fun _ _=>rfl⟩
 refine Au ?_;intros
 refine aR.lH 126 1 (f:=0) (i:=0) (e:=0) (j:=9) rfl (by simp) rfl ?_
 refine aR.oC 118 4 5 rfl ?_
 refine aR.le (α:={x:Nat×aG//x.1<=w.aS.length}) [5,24] (fun x=>[(5,.own 2 0 x.1.1),(24,n x.1.1)]) (fun x=>some [rg (.own 1 0 x.1.1) (.v (.slice none 0 0))]::some [⟨126,1,(S.take x.1.1).map (fun s=>[.bZ s.cs 0]),none⟩]::some [⟨118,4,(S.take x.1.1).map (fun s=>s.st.cs),none⟩]::x.1.2) (fun x=>w.aS.length-x.1.1) ⟨(0,[]),aQ _⟩ ?_ ?_
 ·simp only[XQ];rfl
 rintro⟨⟨i,ν⟩,hi⟩
 simp only at hi
 simp only
 have xM:((S.take i).map fun s=>[AV.bZ s.cs 0]).length=i:=by simp;omega
 have CY:((S.take i).map fun s=>s.st.cs).length=i:=by simp;omega
 by_cases bP:i<w.aS.length
 ·obtain⟨f,hf⟩:∃f,w.aS[i]?=some f:=⟨_,ae bP⟩
  have KU:=ao hf
  have cX:(w.aS.map dm.cs).getD i []=dm.cs f:=getD_map hf
  have hC:=qd w hw.ok i f hf
  rw[if_neg (by have:=hw.TM f KU;omega)]at hC
  have Yn:=Nv hw.ok KU (hw.TM f KU) f.fB
  have cn:=kO w.base.dh hw.sz f.fB
  rw[hw.st f KU]at cn
  obtain⟨g1,g2⟩:=Fm hw KU
  have zJ:(w.base.dh.map j3.cs).getD (gI w.base.dh f.fB).1 []=j3.cs (Fl w f):=getD_map g1
  have UH:=aag (hw.st f KU)
  have hH:=abe (Fl w f) w.week g2 hw.wk
  have hLv:=aab (tW w f f.fB) Yn w.base.term.toNat (by show((w.base.term.toNat:Nat):Int)<=w.base.bD;have:=hw.tm;omega) w.base.term
  rw[show((w.base.term.toNat:Nat):Int)=w.base.term by have:=hw.tm;omega]at hLv
  have Dn:=kf (tW w f f.fB) 0
  have hSi:=hSg i f hf
  have O_:(S.take (i+1)).map (fun s=>[AV.bZ s.cs 0])=(S.take i).map (fun s=>[AV.bZ s.cs 0])++[[.bZ (XD w f).cs 0]]:=by rw[ey hSi];simp
  have hn2:(S.take (i+1)).map (fun s=>s.st.cs)=(S.take i).map (fun s=>s.st.cs)++[(Fl w f).cs]:=by rw[ey hSi,di];rfl
  have vx:(XD w f).cs=[.bZ (A7 (tW w f f.fB)) 0,n (Fl w f).id,n (Fl w f).x,n (Fl w f).y,Rl (Fl w f).cz,n (CI (Fl w f) w.week).lo,n (CI (Fl w f) w.week).hi,iT (jI [] (KG (tW w f f.fB) (tkA (tW w f f.fB)) w.base.term.toNat))]:=rfl
  rw[vx]at O_
  generalize jI [] (KG (tW w f f.fB) (tkA (tW w f f.fB)) w.base.term.toNat)=J at*
  generalize CI (Fl w f) w.week=H at*
  generalize A7 (tW w f f.fB)=X at*
  generalize Fl w f=s at*
  generalize(gI w.base.dh f.fB).1=q at*
  generalize(S.take i).map (fun s=>[AV.bZ s.cs 0])=A1 at*
  generalize(S.take i).map (fun s=>s.st.cs)=A2 at*
  generalize XF:(S.take (i+1)).map (fun s=>[AV.bZ s.cs 0])=B1 at*
  generalize hB2:(S.take (i+1)).map (fun s=>s.st.cs)=B2 at*
  iterate 19
   refine aeg (aa @XQ (aa @cX @zJ)) (aa @hC (aa @cn (aa @hH @hLv))) ?_;intros
   all_goals try(exfalso;omega)
  have hX:∀(a b c d:Option (List Ob)) (o:Ob) (r:aG),aG.at (a::b::c::(ν++d::some [o]::r)) (List.length ν+4) 0=some o:=fun a b c d o r=>by rw[cQ,cQ,cQ,dR];rfl
  refine aR.H' (t:=12) (f:=ν.length+4) (n:=1) (e:=0) (j:=0) (o:=⟨133,8,[[.bZ X 0,n s.id,n s.x,n s.y,Rl s.cz,n H.lo,n H.hi,iT J]],none⟩) rfl ?_ rfl (by decide) ?_
  ·exact hX _ _ _ _ _ []
  refine aR.pQ (σ':=some [rg (.own 1 0 i) (.v (.slice none 0 0))]::some [⟨126,1,A1,none⟩]::some [⟨118,4,A2,none⟩]::(ν++[some [⟨66,24,[f.cs],none⟩],none])) ?_ ?_
  ·simp[gone,XQ]
  have Ss:bC (.bZ [AV.bZ X 0,n s.id,n s.x,n s.y,Rl s.cz,n H.lo,n H.hi,iT J] 0):=.bZ fun x hx=>by
   simp only[aC,au,or_false]at hx
   rcases hx with rfl|rfl|rfl|rfl|rfl|rfl|rfl|rfl<;>simp[Dn]
  refine Ax (aa @XQ (aa @xM @CY)) ?_;intros
  exact⟨⟨(i+1,_),bP⟩,by simp,by simp only[XF,hB2,O_,hn2,XQ];rfl,by simp only;omega⟩
 ·obtain rfl:i=w.aS.length:=by omega
  rw[show S.take w.aS.length=S from cD (by omega)]at xM CY|-
  refine adM ?_;intros
  refine adM ?_;intros
  all_goals try(exfalso;omega)
  refine aR.H_ (t:=5) (f:=2) (n:=w.aS.length) (o:=⟨118,4,S.map (fun s=>s.st.cs),none⟩) rfl rfl CY (by simp) ?_
  refine aR.sm (f:=1) (n:=w.aS.length) (h:=0) (e:=0) (j:=9) (o:=⟨126,1,S.map (fun s=>[.bZ s.cs 0]),none⟩) (oh:=rg (.own 1 0 w.aS.length) (.v (.slice none 0 0))) rfl xM (by simp) rfl (by decide) (by rw[XQ]) (by rw[XQ];simp) (by rw[XQ];rfl) ?_
  obtain⟨SL,hSL⟩:∃SL,SL=AV.sl 1 (S.map fun s=>[.bZ s.cs 0]):=⟨_,rfl⟩
  refine aR.pQ (σ':=some [rg SL (.v (.slice none 0 0))]::none::none::ν) (by rw[hSL];simp[gone,XQ,aG.cZ]) ?_
  refine Au ?_;intros
  refine aR.lH 28 1 (f:=0) (i:=0) (e:=0) (j:=10) rfl (by rw[XQ];simp) (by rw[XQ];rfl) ?_
  obtain⟨BB,hBB⟩:∃BB:List (List Int),BB=S.map fun a=>S.map fun b=>G2 w.base.fixed w.base.each a.st b.st:=⟨_,rfl⟩
  have qF:BB.length=S.length:=by rw[hBB];simp
  rw[<-hBB]
  refine aR.le (α:={x:Nat×aG//x.1<=S.length}) [100] (fun x=>[(100,n x.1.1)]) (fun x=>some [rg SL (.own (ν.length+3) 0 x.1.1)]::none::none::(ν++some [⟨28,1,(BB.take x.1.1).map (fun r=>[l9 r]),none⟩]::x.1.2)) (fun x=>S.length-x.1.1) ⟨(0,[]),aQ _⟩ ?_ ?_
  ·simp only[XQ];simp[aG.cZ]
  rintro⟨⟨i,μ⟩,hi⟩
  simp only at hi
  simp only
  have xe:((BB.take i).map fun r=>[l9 r]).length=i:=by simp;omega
  have hX:∀(a:Option (List Ob)) (o:Ob) (r:aG),aG.at (a::none::none::(ν++some [o]::r)) (List.length ν+3) 0=some o:=fun a o r=>by rw[cQ,cQ,cQ,dV];rfl
  have hU:∀(a:Option (List Ob)) (o o':Ob) (r:aG),aG.cZ (a::none::none::(ν++some [o]::r)) (List.length ν+3) 0 o'=a::none::none::(ν++some [o']::r):=fun a o o' r=>by simp[aG.cZ]
  by_cases bP:i<S.length
  ·obtain⟨s,hs⟩:∃s,S[i]?=some s:=⟨_,ae bP⟩
   have sN:=jN s (ao hs)
   have cX:(S.map fun s=>s.st.cs).getD i []=s.st.cs:=getD_map hs
   have hg:BB[i]?=some (S.map fun b=>G2 w.base.fixed w.base.each s.st b.st):=by rw[hBB,aV,hs];rfl
   have l_:=ey hg
   obtain⟨V,hV⟩:∃V,V=S.map fun b=>G2 w.base.fixed w.base.each s.st b.st:=⟨_,rfl⟩
   have YC:V.length=S.length:=by rw[hV];simp
   rw[<-hV]at l_
   have hVg:∀k (b:aeR),S[k]?=some b->V[k]?=some (G2 w.base.fixed w.base.each s.st b.st):=fun k b h=>by rw[hV,aV,h];rfl
   clear hV
   refine Au ?_;intros
   refine aR.oC 3 1 14 rfl ?_
   obtain⟨G,hG⟩:∃G,G=List.length ν+(List.length μ+4):=⟨_,rfl⟩
   refine aR.mT (α:={k:Nat//k<=S.length}) [14,105] (fun k=>[(14,.own G 0 k.1),(105,n k.1)]) (fun k=>some [rg SL (.own (ν.length+3) 0 i)]::none::none::(ν++some [⟨28,1,(BB.take i).map (fun r=>[l9 r]),none⟩]::(μ++[some [Q2 (V.take k.1)]]))) (fun k=>S.length-k.1) ⟨0,aQ _⟩ ?_ ?_ ?_
   ·(simp only[zN,zT,zV,zS,zU,dC,ex,bu,bN,elems,cells,scalar,dH,bL,aX,aU,bJ,bI,Nat.reduceBEq,reduceAdd,reduceSub,reduceLT,reduceLeDiff,reduceMul,reduceEqDiff,reduceIte];try simp)
    try rw[hG]
   ·simp
   rintro⟨k,hk⟩
   simp only
   have RA:∀(a b:Option (List Ob)) (o:Ob) (r:aG),aG.at (a::none::none::(ν++b::(μ++some [o]::r))) G 0=some o:=fun a b o r=>by
    rw[hG,show List.length ν+(List.length μ+4)=List.length ν+(List.length μ+1)+1+1+1 by omega,cQ,cQ,cQ,dR,cQ,dV];rfl
   have Yt:∀(a b:Option (List Ob)) (o o':Ob) (r:aG),aG.cZ (a::none::none::(ν++b::(μ++some [o]::r))) G 0 o'=a::none::none::(ν++b::(μ++some [o']::r)):=fun a b o o' r=>by
    have e:a::none::none::(ν++b::(μ++some [o]::r))=(a::none::none::(ν++b::μ))++some [o]::r:=by simp
    have e2:G=List.length (a::none::none::(ν++b::μ))+0:=by rw[hG];simp;omega
    rw[e,e2,fC];simp[aG.cZ]
   by_cases qz:k<S.length
   ·obtain⟨b,hb⟩:∃b,S[k]?=some b:=⟨_,ae qz⟩
    have ic:=jN b (ao hb)
    have zJ:(S.map fun s=>s.st.cs).getD k []=b.st.cs:=getD_map hb
    have hW:=abb w.base.fixed w.base.each s.st b.st hw.wd sN ic
    have hn2:=ey (hVg k b hb)
    have hl3:(V.take k).length=k:=by rw[bH];omega
    generalize G2 w.base.fixed w.base.each s.st b.st=z at*
    generalize V.take k=A at*
    generalize hA':V.take (k+1)=A' at*
    refine Az (aa @RA (aa @Yt (aa @cX (aa @zJ @hl3)))) @hW ?_;intros
    exact⟨⟨k+1,qz⟩,by simp,by simp only[hA',hn2];simp,by simp only;omega⟩
   ·obtain rfl:k=S.length:=by omega
    rw[show V.take S.length=V from cD (by omega)]
    refine adM ?_;intros
    refine adM ?_;intros
    all_goals try(exfalso;omega)
    refine aR.H_ (t:=14) (f:=G) (n:=S.length) (o:=Q2 V) rfl (RA _ _ _ []) (by simp[YC]) (by simp) ?_
    refine aR.pQ (σ':=some [rg SL (.own (ν.length+3) 0 i)]::none::none::(ν++some [⟨28,1,(BB.take i).map (fun r=>[l9 r]),none⟩]::(μ++[none]))) ?_ ?_
    ·have e1:some [rg SL (.own (ν.length+3) 0 i)]::none::none::(ν++some [⟨28,1,(BB.take i).map (fun r=>[l9 r]),none⟩]::(μ++[some [Q2 V]]))=(some [rg SL (.own (ν.length+3) 0 i)]::none::none::(ν++some [⟨28,1,(BB.take i).map (fun r=>[l9 r]),none⟩]::μ))++[some [Q2 V]]:=by simp
     have e2:G=(some [rg SL (.own (ν.length+3) 0 i)]::none::none::(ν++some [(⟨28,1,(BB.take i).map (fun r=>[l9 r]),none⟩:Ob)]::μ)).length+0:=by rw[hG];simp;omega
     rw[e1,e2,zc]
     simp[gone]
    generalize XU:(BB.take i).map (fun r=>[l9 r])=C1 at*
    generalize XV:BB.take (i+1)=C2 at*
    refine Ax (aa @XQ (aa @hX (aa @hU @xe))) ?_;intros
    exact⟨⟨(i+1,_),bP⟩,by simp,by simp only[XV,l_,XQ,di,XU];rfl,by simp only;omega⟩
  ·obtain rfl:i=S.length:=by omega
   rw[show BB.take S.length=BB from cD (by omega)]
   refine adM ?_;intros
   refine adM ?_;intros
   all_goals try(exfalso;omega)
   refine aR.sm (f:=ν.length+3) (n:=S.length) (h:=0) (e:=0) (j:=10) (o:=⟨28,1,BB.map (fun r=>[l9 r]),none⟩) (oh:=rg SL (.own (ν.length+3) 0 S.length)) (hX _ _ _) (by simp[qF]) (by simp) rfl (by omega) (by rw[XQ]) (by rw[XQ];simp) (by rw[XQ];rfl) ?_
   refine aR.pQ (σ':=some [rg SL (.sl 1 (BB.map fun r=>[l9 r]))]::none::none::(ν++none::μ)) (by simp[gone,XQ,aG.cZ]) ?_
   refine aR.H' (t:=4) (f:=0) (n:=1) (e:=0) (j:=0) (o:=rg SL (.sl 1 (BB.map fun r=>[l9 r]))) rfl rfl (by rw[XQ];rfl) (by decide) ?_
   have hRF:(rg SL (.sl 1 (BB.map fun r=>[l9 r]))).es.getD 0 []=rgF w S BB:=by rw[XQ,hSL];rfl
   have hpR:=abY (w:=w) (B:=BB) hSp
   rw[hRF]
   generalize rgF w S BB=RF at*
   refine Au ?_;intros
   exact bO.eq rfl (by simp[hpR])
theorem acP{w:Wk}(hw:Kg w):RgI (rgF w (CJ w) (bdW w)) (CJ w) (bdW w):=by
 have hm:∀s∈CJ w,∃f∈w.aS,XD w f=s:=fun s hs=>aO.1 hs
 have jN:∀s∈CJ w,H7 s.st:=fun s hs=>by
  obtain⟨f,hf,rfl⟩:=hm s hs
  exact(Fm hw hf).2
 refine⟨abY fun s hs=>?_,rfl,rfl,by unfold CJ;rw[aF];exact hw.sn,by simp[bdW],fun r hr=>?_,fun s hs=>?_⟩
 ·obtain⟨f,hf,rfl⟩:=hm s hs
  exact aah w f
 ·obtain⟨a,ha,rfl⟩:=aO.1 hr
  refine⟨by simp,fun x hx=>?_⟩
  obtain⟨b,hb,rfl⟩:=aO.1 hx
  have:=XS hw.wd (tC (jN a ha)).2.1 (tC (jN b hb)).2.1
  exact⟨this.1,this.2.1⟩
 ·obtain⟨f,hf,rfl⟩:=hm s hs
  have:=Ti (tC (Fm hw hf).2).2.2 hw.wk.1
  exact⟨aah w f,this⟩
theorem acQ{w:Wk}(hw:Kg w)(h0:w.aS≠[]):RgL (CJ w):=by
 refine⟨by simpa[CJ]using h0,fun s hs=>?_⟩
 obtain⟨f,hf,rfl⟩:=aO.1 hs
 have hc:=Nv hw.ok hf (hw.TM f hf) f.fB
 exact Hr (aaa hc (acr hc (by show((w.base.term.toNat:Nat):Int)<=w.base.bD;have:=hw.tm;omega)))
theorem aby(w:Wk)(t:Int):Pure Tryz.prog 47 [.agg w.cs,n t] (bl (decide (0<=t/\t<=w.base.bD))):=by
 refine jX Tryz.f47.eq_1 [] [] ?_
 refine Ay (sq ⟨0,w.base.bD⟩ t) ?_;intros
 all_goals exact Fq
theorem abz(w:Wk)(hw:Kg w)(i:Nat)(hi:i<w.aS.length):Pure Tryz.prog 45 [.bZ w.cs 0,.bZ [n i] 0,.bZ [n w.base.term] 0] (bl true):=by
 refine jX Tryz.f45.eq_1 [] [] ?_
 have h1:=rG w i hw.ok.sn
 rw[decide_eq_true (show(0:Int)<=(i:Int)/\(i:Int)<(w.aS.length:Int) by omega)]at h1
 have h2:=aby w w.base.term
 rw[decide_eq_true hw.tm]at h2
 refine Ay (aa @h1 @h2) ?_;intros
 all_goals try contradiction
 all_goals exact Fq
inductive acA(w:Wk)(i:Nat)(f:dm):AV->aG->Prop
 |mk(m:List Sp)(hm:m.length<=202001)(h:∀u r,QH (CJ w) (bdW w) u->Fit (tW w f f.fB) r->f.c8.eC.zero.lo<=r.zero->r.zero<=f.c8.eC.zero.hi->(u5 (r.L w.base.term) (CI (Fl w f) w.week)).lo<=u.getD i 0->u.getD i 0<=(u5 (r.L w.base.term) (CI (Fl w f) w.week)).hi->Mem (r.L w.base.term) m)(ν:aG):acA w i f (.iu [iT m,n 0]) ν
theorem abA(w:Wk)(hw:Kg w)(i:Nat)(f:dm)(hf:w.aS[i]?=some f):eY Tryz.prog 48 [.bZ (rgF w (CJ w) (bdW w)) 0,.bZ [n i] 0,.bZ [n w.base.term] 0,.bZ w.cs 0] [] (acA w i f):=by
 refine qY 25 (jo [jn 5,jc 6 0] [0,1,2,3] (.seq (.jC [0,1,2,3,4,5,6,7,8,9,10,11,12,13,14,15,16,17,18,19] [0,1,2,3,4,5,6,7,8,9,10,11,12,13] 1 [jm 7 0,jw 8 (.dY (.t 7)),jf 9 9 8,jl 10 9,jl 11 1,ji 12 1 10 11,jl 13 12,jw 14 (.dY (.t 13)),jf 15 0 14,jl 16 15,jl 17 2,jf 18 0 3,jf 19 3 18,jl 20 19,jm 21 0,jl 22 1] [jy 23 50 [21,22],jw 24 (.call (.f 49) [(.t 16),(.t 17),(.t 20),(.t 23),(.c (.bool false))]),jm 5 24,jc 6 0] [5,6]) .ret)) [.t 5,.t 6] Tryz.call48 Tryz.func48 ?_
 have KU:=ao hf
 have bP:i<w.aS.length:=(ai.1 hf).1
 have h0:w.aS≠[]:=fun e=>by rw[e]at bP;exact absurd bP (aN _)
 have hR:=acP hw
 have hL:=acQ hw h0
 have hs:(CJ w)[i]?=some (XD w f):=by unfold CJ;rw[aV,hf];rfl
 have ht:=abQ _ _ _ hR hL i _ hs
 have hc:=Nv hw.ok KU (hw.TM f KU) f.fB
 obtain⟨k,hk⟩:∃k:Nat,w.base.term=k:=⟨w.base.term.toNat,by have:=hw.tm;omega⟩
 have hkt:(k:Int)<=(tW w f f.fB).bD:=by show(k:Int)<=w.base.bD;have:=hw.tm;omega
 have tQ:(CJ w).length=w.aS.length:=by simp[CJ]
 have hsn:=hw.sn
 have lh:∀m,MB m->(∀u l,QH (CJ w) (bdW w) u->Mem l (XD w f).tm->(u5 l (XD w f).h).lo<=u.getD i 0->u.getD i 0<=(u5 l (XD w f).h).hi->Mem l m)->∀ν,acA w i f (.iu [iT (jI [] (KG (tW w f f.fB) (tkB (tW w f f.fB) k m) k)),n 0]) ν:=fun m hm h ν=>by
  refine .mk _ (MC (Hr (aaa hc (acw hc hkt hm)))) (fun u r hu hr z1 z2 h1 h2=>?_) ν
  rw[tD,hk]
  refine acx hc hr z1 z2 hkt hm (h u _ hu ?_ (by rw[hk]at h1;exact h1) (by rw[hk]at h2;exact h2))
  show Mem (r.L k) (jI [] (KG (tW w f f.fB) (tkA (tW w f f.fB)) w.base.term.toNat))
  rw[tD,hk]
  exact XL hc hr z1 z2 hkt
 have cX:((CJ w).map fun s=>[AV.bZ s.cs 0]).getD i []=[.bZ (XD w f).cs 0]:=getD_map hs
 have vx:(XD w f).cs=[.bZ (A7 (tW w f f.fB)) 0,n (Fl w f).id,n (Fl w f).x,n (Fl w f).y,Rl (Fl w f).cz,n (CI (Fl w f) w.week).lo,n (CI (Fl w f) w.week).hi,iT (XD w f).tm]:=rfl
 rw[vx]at cX
 have h9:=hR.s
 have Dn:=hR.pv
 have hB:=fun m hm=>aac (tW w f f.fB) hc k hkt m hm
 rw[hk]
 generalize rgF w (CJ w) (bdW w)=RF at*
 refine Ax (aa @h9 @cX) ?_;intros
 refine .inr ⟨_,_,_,_,rfl,ht,?_⟩
 intro r σ' aau
 cases aau with
 |mk m hm h ν=>
 have hB:=hB m hm
 have hpx:=kf (tW w f f.fB) 0
 have lh:=Yb.mk (lh m hm h)
 generalize jI [] (KG (tW w f f.fB) (tkB (tW w f f.fB) k m) k)=J at*
 generalize hX:A7 (tW w f f.fB)=X at*
 generalize Fl w f=s at*
 refine Az @hk @hB ?_;intros
 exact lh.out _
theorem abB(w:Wk)(hw:Kg w)(mw:Pure Tryz.prog 26 [.agg w.cs] (n 0))(i:Nat)(f:dm)(hf:w.aS[i]?=some f)(u:List Int)(hu:QH (CJ w) (bdW w) u):eY Tryz.prog 44 [.agg w.cs,.fn (.func 45) [] [.bZ w.cs 0,.bZ [n i] 0,.bZ [n w.base.term] 0],.fn (.func 48) [] [.bZ [n i] 0,.bZ [n w.base.term] 0,.bZ w.cs 0]] [] (acA w i f):=by
 refine Fi Tryz.f44.eq_1 [] [] ?_
 have bP:i<w.aS.length:=(ai.1 hf).1
 have h0:w.aS≠[]:=fun e=>by rw[e]at bP;exact absurd bP (aN _)
 have hR:=acP hw
 have hL:=acQ hw h0
 have h1:=abz w hw i bP
 have h2:=XE w hw
 have h3:=abP _ _ _ hR hL u hu
 have h4:=abA w hw i f hf
 have Dn:=hR.pv
 have hpw:bC (.bZ w.cs 0):=.bZ (IG w)
 generalize rgF w (CJ w) (bdW w)=RF at*
 refine Ay (aa @mw (aa @h1 (aa @h2 @h3))) ?_;intros
 all_goals try contradiction
 refine .inr (.inl ⟨_,_,_,_,rfl,fun _=>⟨h4,?_⟩,fun h=>by cases h⟩)
 intro r σ' aau
 cases aau with
 |mk m hm h ν=>
 refine aH ?_
 refine adL ?_
 replace h:=Yb.mk h
 refine Au ?_;intros
 exact .mk m hm h.out _
theorem abR(w:Wk)(hw:Kg w)(mw:Pure Tryz.prog 26 [.agg w.cs] (n 0))(i:Nat)(f:dm)(hf:w.aS[i]?=some f)(u:List Int)(hu:QH (CJ w) (bdW w) u):eY Tryz.prog 14 [.agg w.cs,n i,n w.base.term] [] (acA w i f):=by
 refine Fi Tryz.f14.eq_1 [] [] ?_
 have h4:=abB w hw mw i f hf u hu
 refine Au ?_;intros
 all_goals try contradiction
 refine .inr (.inl ⟨_,_,_,_,rfl,fun _=>⟨h4,?_⟩,fun h=>by cases h⟩)
 intro r σ' aau
 cases aau with
 |mk m hm h ν=>
 refine aH ?_
 refine adL ?_
 replace h:=Yb.mk h
 refine Au ?_;intros
 exact .mk m hm h.out _
inductive acJ(w:Wk)(i:Nat)(f:dm)(σ:aG):AV->aG->Prop
 |mk(m:List Sp)(hm:m.length<=202001)(h:∀u r,QH (CJ w) (bdW w) u->Fit (tW w f f.fB) r->f.c8.eC.zero.lo<=r.zero->r.zero<=f.c8.eC.zero.hi->(u5 (r.L w.base.term) (CI (Fl w f) w.week)).lo<=u.getD i 0->u.getD i 0<=(u5 (r.L w.base.term) (CI (Fl w f) w.week)).hi->Mem (r.L w.base.term) m)(ν:aG):acJ w i f σ (.iu [iT m,n 0]) (σ++ν)
theorem abC(w:Wk)(hw:Kg w)(mw:Pure Tryz.prog 26 [.agg w.cs] (n 0))(i:Nat)(f:dm)(hf:w.aS[i]?=some f)(u:List Int)(hu:QH (CJ w) (bdW w) u)(σ:aG):eY Tryz.prog 14 [.agg w.cs,n i,n w.base.term] σ (acJ w i f σ):=by
 refine eY.lift (abR w hw mw i f hf u hu) (fun a ha=>?_) fun r ν hr=>?_
 ·simp only[aC,au,or_false]at ha
  rcases ha with rfl|rfl|rfl
  ·exact .agg (IG w)
  ·simp
  ·simp
 ·cases hr with
  |mk m hm h ν=>
  refine⟨.iu [iT m,n 0],List.replicate ν.length none,.pure (.iu fun c hc=>?_),⟨by simp,fun f i o2 h2=>?_⟩,.mk m hm h _⟩
  ·simp only[aC,au,or_false]at hc
   rcases hc with rfl|rfl<;>simp
  ·exfalso
   unfold aG.at at h2
   rw[fl]at h2
   split at h2<;>simp_all
end Go.Proofs.YtgopgjnfhkoomaaGreat
