/- For every base, notes, week and three courses the law TopBetween holds: of three weeks that can have been, the one that has at each station the middle one of the three levels at the term can have been, too, and its levels are told. Conditions: none but those of the given statement. -/
import Derived.Test.YtgopgjnfhkoomaaGreatBu23
import Derived.Test.YtgopgjnfhkoomaaGreatBu24
import Derived.Test.YtgopgjnfhkoomaaGreatRows
set_option linter.unusedVariables false
set_option linter.unusedSimpArgs false
namespace Go.Proofs.YtgopgjnfhkoomaaGreat
open Go.Abs
open Nat (reduceAdd reduceSub reduceLT reduceLeDiff reduceMul reduceEqDiff)
set_option maxHeartbeats 4000000
set_option maxRecDepth 100000
open Go.ChangeShapes Go.WideShapes Go.ChangeAt Go.RowKit
set_option maxRecDepth 100000 in
theorem acL(os:Os)(started:os.Started)(H:Type)(enc:TypeId×Value->H):ReturnsInHanded {} Tryz.checked os 4 .any (Rows.topBetweenSpec.pre6 enc Tryz.prog Tryz.f4 Rows.topBetweenRow.domain false) (Rows.topBetweenSpec.post enc Tryz.prog Tryz.f4 false true false false):=by
 refine returnsInHanded_of_change (C:=Tryz.checked) own started (by kernel_rfl) Tryz.func4
  (ChangeSpec.witness6 (enc:=enc) (C:=Tryz.checked) false ⟨#[],#[.agg #[.slice none 0 0,.int .i64 0,.int .i64 0,.int .i64 0,.int .i64 0,.int .i64 0],.slice none 0 0,.int .i64 0,.slice none 0 0,.slice none 0 0,.slice none 0 0],[]⟩ 8 (by kernel_rfl) (by kernel_rfl) (by kernel_rfl) (by kernel_rfl)) ?_
 intro W base args ds gs before RP hW qP _
 have Bc:∀(j:Nat) t v,Tryz.f4.params[j]?=some t->args[j]?=some v->Value.okWide Tryz.prog W .any base t v:=RP
 have hW':=hW
 obtain⟨p,q,hA0,hV,rfl,hfz,sK⟩:=hW
 have hA:DataW.TrodAll enc Tryz.prog W 0 (fun _=>true) true Tryz.f4.params.toList args.toList ds p:=hA0
 rw[Tryz.params4]at hA Bc
 obtain⟨v0,vs0,d0,ds0,p0,q0,nT,rfl,rfl,h0,r0⟩:=trodAll_cons hA
 obtain⟨v1,vs1,d1,ds1,p1,q1,rfl,rfl,rfl,h1,r1⟩:=trodAll_cons r0
 obtain⟨v2,XX,d2,ds2,p2,q2,rfl,rfl,rfl,h2,r2⟩:=trodAll_cons r1
 obtain⟨v3,vs3,d3,ds3,p3,q3,rfl,rfl,rfl,h3,r3⟩:=trodAll_cons r2
 obtain⟨v4,vs4,d4,ds4,p4,q4,rfl,rfl,rfl,h4,r4⟩:=trodAll_cons r3
 obtain⟨v5,vs5,d5,ds5,p5,q5,rfl,rfl,rfl,h5,r5⟩:=trodAll_cons r4
 obtain⟨rfl,rfl,rfl⟩:=trodAll_nil r5
 obtain rfl:args=#[v0,v1,v2,v3,v4,v5]:=by cases args;simp_all
 obtain⟨rfl,rfl⟩:=trodVars_none hV
 have lt0:∀x∈p0,x.block<W.heap.size:=by obtain⟨m,hm⟩:=h0;exact iK m _ _ _ hm
 have lt1:∀x∈p1,x.block<W.heap.size:=by obtain⟨m,hm⟩:=h1;exact iK m _ _ _ hm
 have lt2:∀x∈p2,x.block<W.heap.size:=by obtain⟨m,hm⟩:=h2;exact iK m _ _ _ hm
 have lt3:∀x∈p3,x.block<W.heap.size:=by obtain⟨m,hm⟩:=h3;exact iK m _ _ _ hm
 have lt4:∀x∈p4,x.block<W.heap.size:=by obtain⟨m,hm⟩:=h4;exact iK m _ _ _ hm
 have lt5:∀x∈p5,x.block<W.heap.size:=by obtain⟨m,hm⟩:=h5;exact iK m _ _ _ hm
 obtain⟨a0,Na,Y1⟩:=N4 (Bc 0 26 v0 rfl rfl) h0
 obtain⟨a1,xe,ha1⟩:=N5 (Bc 1 27 v1 rfl rfl) h1
 obtain⟨a2,ha2⟩:=okWide_int Tryz.underlying3 (Bc 2 3 v2 rfl rfl)
 obtain⟨a3,hb3,ha3⟩:=PE (Bc 3 75 v3 rfl rfl) h3
 obtain⟨a4,hb4,ha4⟩:=PE (Bc 4 75 v4 rfl rfl) h4
 obtain⟨a5,YJ,ha5⟩:=PE (Bc 5 75 v5 rfl rfl) h5
 clear hA0 RP
 refine(AK (PD a0 a1 a2 a3 a4 a5 Na xe hb3.1 hb4.1 YJ.1 hb3.2 hb4.2 YJ.2) W [v0,v1,v2,v3,v4,v5] rfl (fun i hi=>?_)).mono fun e W' ⟨x,he,hx,Ur⟩=>?_
 ·match i,hi with
  |0,_=>exact Y1
  |1,_=>exact ha1
  |2,_=>rw[ha2];exact .v _
  |3,_=>exact ha3
  |4,_=>exact ha4
  |5,_=>exact ha5
 subst he
 have PM:=hx.dz
 subst PM
 exact⟨_,rfl,_,_,_,[],_,[],hW',trodAll_mk1 (shut_bool Tryz.underlying4 _),(trodAll_cons_mk (Below.trod laidOut (by kernel_rfl) (of_decide_eq_true (by kernel_rfl)) h0 Ur lt0) (trodAll_cons_mk (Below.trod laidOut (by kernel_rfl) (of_decide_eq_true (by kernel_rfl)) h1 Ur lt1) (trodAll_cons_mk (Below.trod laidOut (by kernel_rfl) (of_decide_eq_true (by kernel_rfl)) h2 Ur lt2) (trodAll_cons_mk (Below.trod laidOut (by kernel_rfl) (of_decide_eq_true (by kernel_rfl)) h3 Ur lt3) (trodAll_cons_mk (Below.trod laidOut (by kernel_rfl) (of_decide_eq_true (by kernel_rfl)) h4 Ur lt4) (trodAll_cons_mk (Below.trod laidOut (by kernel_rfl) (of_decide_eq_true (by kernel_rfl)) h5 Ur lt5) trodAll_mk0)))))),rfl,Ur.frame _,fun h=>by cases h⟩
theorem adw:Rows.topBetweenRow.holds Tryz.pinned (OpenSpec.ofChange Rows.topBetweenSpec):=
 OpenClaim.holds_of_wide 4 Tryz.f4 rfl rfl rfl rfl rfl rfl rfl ⟨rfl,rfl,rfl,rfl,rfl⟩ rfl rfl rfl rfl rfl (by kernel_rfl) Tryz.func4 acM
  (of_decide_eq_true (by kernel_rfl)) (by unfold Func.isWrapper;first|(rw[if_pos (by decide+kernel)];kernel_rfl)|(rw[if_neg (by decide+kernel)];exact⟨rfl,rfl⟩))
  (fun os started H enc _=>acL os started H enc)
theorem proved:Rows.TopBetweenSaid:=adw
end Go.Proofs.YtgopgjnfhkoomaaGreat
