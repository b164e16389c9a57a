/- For every base, notes, week and course the law TopHomes holds: a station whose readings a possible course of a sheet has is among the sheet homes, and a sheet told as misfiled contradicts where it is filed. Conditions: none but those of the given statement. -/
import Derived.Test.YtgopgjnfhkoomaaGreatBt18
import Derived.Test.YtgopgjnfhkoomaaGreatRows
import Derived.WalkKit
import Derived.ProofKit
import Derived.OpenShut
import Derived.ShutString
import Derived.ChangeOld
import Derived.Below
set_option linter.unusedVariables false
set_option linter.unusedSimpArgs false
namespace Go.Proofs.YtgopgjnfhkoomaaGreat
open Go.Abs
open Nat (reduceAdd reduceSub reduceLT reduceLeDiff reduceMul reduceEqDiff)
set_option maxHeartbeats 4000000
set_option maxRecDepth 100000
open Go.ChangeShapes Go.WideShapes Go.ChangeAt Go.RowKit
set_option maxRecDepth 100000 in
theorem QI(os:Os)(started:os.Started)(H:Type)(enc:TypeId×Value->H):ReturnsInHanded {} Tryz.checked os 3 .any (Rows.topHomesSpec.pre6 enc Tryz.prog Tryz.f3 Rows.topHomesRow.domain false) (Rows.topHomesSpec.post enc Tryz.prog Tryz.f3 false true false false):=by
 refine returnsInHanded_of_change (C:=Tryz.checked) own started (by kernel_rfl) Tryz.func3
  (ChangeSpec.witness6 (enc:=enc) (C:=Tryz.checked) false ⟨#[],#[.agg #[.slice none 0 0,.int .i64 0,.int .i64 0,.int .i64 0,.int .i64 0,.int .i64 0],.slice none 0 0,.int .i64 0,.int .i64 0,.int .i64 0,.agg #[.int .i64 0,.slice none 0 0,.slice none 0 0,.slice none 0 0]],[]⟩ 8 (by kernel_rfl) (by kernel_rfl) (by kernel_rfl) (by kernel_rfl)) ?_
 intro W base args ds gs before RP hW qP _
 have Bc:∀(j:Nat) t v,Tryz.f3.params[j]?=some t->args[j]?=some v->Value.okWide Tryz.prog W .any base t v:=RP
 have hW':=hW
 obtain⟨p,q,hA0,hV,rfl,hfz,sK⟩:=hW
 have hA:DataW.TrodAll enc Tryz.prog W 0 (fun _=>true) true Tryz.f3.params.toList args.toList ds p:=hA0
 rw[Tryz.params3]at hA Bc
 obtain⟨v0,vs0,d0,ds0,p0,q0,nT,rfl,rfl,h0,r0⟩:=trodAll_cons hA
 obtain⟨v1,vs1,d1,ds1,p1,q1,rfl,rfl,rfl,h1,r1⟩:=trodAll_cons r0
 obtain⟨v2,XX,d2,ds2,p2,q2,rfl,rfl,rfl,h2,r2⟩:=trodAll_cons r1
 obtain⟨v3,vs3,d3,ds3,p3,q3,rfl,rfl,rfl,h3,r3⟩:=trodAll_cons r2
 obtain⟨v4,vs4,d4,ds4,p4,q4,rfl,rfl,rfl,h4,r4⟩:=trodAll_cons r3
 obtain⟨v5,vs5,d5,ds5,p5,q5,rfl,rfl,rfl,h5,r5⟩:=trodAll_cons r4
 obtain⟨rfl,rfl,rfl⟩:=trodAll_nil r5
 obtain rfl:args=#[v0,v1,v2,v3,v4,v5]:=by cases args;simp_all
 obtain⟨rfl,rfl⟩:=trodVars_none hV
 have lt0:∀x∈p0,x.block<W.heap.size:=by obtain⟨m,hm⟩:=h0;exact iK m _ _ _ hm
 have lt1:∀x∈p1,x.block<W.heap.size:=by obtain⟨m,hm⟩:=h1;exact iK m _ _ _ hm
 have lt2:∀x∈p2,x.block<W.heap.size:=by obtain⟨m,hm⟩:=h2;exact iK m _ _ _ hm
 have lt3:∀x∈p3,x.block<W.heap.size:=by obtain⟨m,hm⟩:=h3;exact iK m _ _ _ hm
 have lt4:∀x∈p4,x.block<W.heap.size:=by obtain⟨m,hm⟩:=h4;exact iK m _ _ _ hm
 have lt5:∀x∈p5,x.block<W.heap.size:=by obtain⟨m,hm⟩:=h5;exact iK m _ _ _ hm
 obtain⟨a0,hb0,Y1⟩:=N4 (Bc 0 26 v0 rfl rfl) h0
 obtain⟨a1,hb1,ha1⟩:=N5 (Bc 1 27 v1 rfl rfl) h1
 obtain⟨a2,ha2⟩:=okWide_int Tryz.underlying3 (Bc 2 3 v2 rfl rfl)
 obtain⟨a3,ha3⟩:=okWide_int Tryz.underlying3 (Bc 3 3 v3 rfl rfl)
 obtain⟨a4,ha4⟩:=okWide_int Tryz.underlying3 (Bc 4 3 v4 rfl rfl)
 obtain⟨a5,YJ,ha5⟩:=QH (Bc 5 30 v5 rfl rfl) h5
 clear hA0 RP
 refine(AK (Bj a0 a1 a2 a3 a4 a5 hb0 hb1 YJ.1 YJ.2.1 YJ.2.2) W [v0,v1,v2,v3,v4,v5] rfl (fun i hi=>?_)).mono fun e W' ⟨x,he,hx,Ur⟩=>?_
 ·match i,hi with
  |0,_=>exact Y1
  |1,_=>exact ha1
  |2,_=>rw[ha2];exact .v _
  |3,_=>rw[ha3];exact .v _
  |4,_=>rw[ha4];exact .v _
  |5,_=>exact ha5
 subst he
 have PM:=hx.dz
 subst PM
 exact⟨_,rfl,_,_,_,[],_,[],hW',trodAll_mk1 (shut_bool Tryz.underlying4 _),(trodAll_cons_mk (Below.trod laidOut (by kernel_rfl) (of_decide_eq_true (by kernel_rfl)) h0 Ur lt0) (trodAll_cons_mk (Below.trod laidOut (by kernel_rfl) (of_decide_eq_true (by kernel_rfl)) h1 Ur lt1) (trodAll_cons_mk (Below.trod laidOut (by kernel_rfl) (of_decide_eq_true (by kernel_rfl)) h2 Ur lt2) (trodAll_cons_mk (Below.trod laidOut (by kernel_rfl) (of_decide_eq_true (by kernel_rfl)) h3 Ur lt3) (trodAll_cons_mk (Below.trod laidOut (by kernel_rfl) (of_decide_eq_true (by kernel_rfl)) h4 Ur lt4) (trodAll_cons_mk (Below.trod laidOut (by kernel_rfl) (of_decide_eq_true (by kernel_rfl)) h5 Ur lt5) trodAll_mk0)))))),rfl,Ur.frame _,fun h=>by cases h⟩
theorem XA:(Rows.topHomesRow.wf (OpenSpec.ofChange Rows.topHomesSpec))=true:=by kernel_rfl
theorem XB:(Tryz.f3.params.all (Tryz.prog.readableRec ·))=true:=by kernel_rfl
theorem XC:(namedTie Tryz.prog Rows.topHomesRow.named Rows.topHomesSpec.vars)=true:=by kernel_rfl
theorem XD:((Rows.topHomesRow.inPlace==Tryz.prog.inPlace 3))=true:=by kernel_rfl
theorem XE:((Rows.topHomesRow.unfollowed==Tryz.prog.unfollowed 3))=true:=by kernel_rfl
theorem XF:((Rows.topHomesRow.recurses==Tryz.prog.recurses 3))=true:=by kernel_rfl
theorem XG:((Rows.topHomesRow.named==Tryz.prog.varsNamed 3))=true:=by kernel_rfl
theorem XH:((Rows.topHomesRow.maps==(Tryz.f3.params.toList++Rows.topHomesSpec.plain.varTypes Tryz.prog).any (Tryz.prog.mapsRec ·)))=true:=by kernel_rfl
theorem XI:((Rows.topHomesRow.ifaces==(Tryz.f3.params.toList++Rows.topHomesSpec.plain.varTypes Tryz.prog).any (Tryz.prog.ifacesRec ·)))=true:=by kernel_rfl
theorem XJ:((Rows.topHomesRow.mapsOut==Tryz.prog.mapsAmong Tryz.f3.resultTypes.toList))=true:=by kernel_rfl
theorem XK:((Rows.topHomesRow.loops==(Tryz.f3.params.toList++Rows.topHomesSpec.plain.varTypes Tryz.prog).any (Tryz.prog.loopsFrom ·)))=true:=by kernel_rfl
theorem XL:((Rows.topHomesRow.wideKeys==(Tryz.f3.params.toList++Rows.topHomesSpec.plain.varTypes Tryz.prog++Tryz.f3.resultTypes.toList).any (Tryz.prog.wideKeysFrom ·)))=true:=by kernel_rfl
theorem XM:(Rows.topHomesSpec.vars.all (Tryz.prog.varReadable ·))=true:=by kernel_rfl
theorem XN:(Tryz.f3.resultTypes.all (fun t=>Tryz.prog.readableRec t&&decide (t<Tryz.prog.types.size)))=true:=by kernel_rfl
theorem XO:((Rows.topHomesRow.ifacesOut==Tryz.f3.resultTypes.toList.any (Tryz.prog.ifacesRec ·)))=true:=by kernel_rfl
theorem XP:((Rows.topHomesRow.loopsOut==Tryz.f3.resultTypes.toList.any (Tryz.prog.loopsFrom ·)))=true:=by kernel_rfl
theorem XQ:((Rows.topHomesRow.veiled==(Tryz.f3.params.toList++Rows.topHomesSpec.plain.varTypes Tryz.prog++Tryz.f3.resultTypes.toList).any (Tryz.prog.veiledRec ·)))=true:=by kernel_rfl
theorem XR:(Rows.topHomesRow.veiledFits Tryz.prog Tryz.f3.params.toList (Tryz.f3.params.toList++Rows.topHomesSpec.plain.varTypes Tryz.prog++Tryz.f3.resultTypes.toList))=true:=by kernel_rfl
theorem QJ:joinedFacts Tryz.prog 3 Tryz.f3 Rows.topHomesSpec Rows.topHomesRow=true:=by
 unfold joinedFacts
 exact(iU (iU (iU (iU (iU (iU (iU (iU (iU (iU (iU (iU (iU (iU (iU (iU (iU (iU (iU (iU (iU (iU (iU (iU (iU (iU (iU (iU (iU (iU (iU XA laidOut) Xq) XB) XC) (by kernel_rfl)) Ul) (by kernel_rfl)) Um) XD) XE) XF) XG) XH) XI) XJ) XK) XL) XM) XN) XO) XP) Uo) (by kernel_rfl)) Up) Qz) Uq) Xs) (by kernel_rfl)) (by kernel_rfl)) XQ) XR)
theorem XS:Rows.topHomesRow.holds Tryz.pinned (OpenSpec.ofChange Rows.topHomesSpec):=
 OpenClaim.holds_of_wide 3 Tryz.f3 rfl rfl rfl rfl rfl rfl rfl ⟨rfl,rfl,rfl,rfl,rfl⟩ rfl rfl rfl rfl rfl (by kernel_rfl) Tryz.func3 QJ
  (of_decide_eq_true (by kernel_rfl)) (by unfold Func.isWrapper;first|(rw[if_pos (by decide+kernel)];kernel_rfl)|(rw[if_neg (by decide+kernel)];exact⟨rfl,rfl⟩))
  (fun os started H enc _=>QI os started H enc)
theorem proved:Rows.TopHomesSaid:=XS
end Go.Proofs.YtgopgjnfhkoomaaGreat
