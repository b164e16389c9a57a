/- the notes of two sets together do not depend on the order, those of three not on which come first; a set with itself is itself; a fork is told just where two sets fork -/
import Derived.Test.YtolgelipcgcbhaaGreatBb11
import Derived.Test.YtolgelipcgcbhaaGreatRows
import Derived.WalkKit
import Derived.ProofKit
import Derived.OpenShut
import Derived.ShutString
import Derived.ChangeOld
import Derived.Below
namespace Go.Proofs.YtolgelipcgcbhaaGreat
open Go.Abs
open Nat renaming reduceBEq→zq0,reduceAdd→zq1,reduceSub→zq2,reduceLT→zq3,reduceLeDiff→zq4,reduceMul→zq5,reduceEqDiff→zq6
set_option linter.unusedVariables false
set_option linter.unusedSimpArgs false
set_option maxHeartbeats 4000000
set_option maxRecDepth 100000
open Go.ChangeShapes Go.WideShapes Go.ChangeAt Go.RowKit
set_option maxRecDepth 100000 in
theorem lifted16 (os:Os) (started:os.Started) (H:Type) (enc:TypeId × Value→H) :
    ReturnsInHanded {} Tryz.checked os 16 .any (Rows.archiveUnionSpec.pre6 enc Tryz.prog Tryz.f16 Rows.archiveUnionRow.domain false) (Rows.archiveUnionSpec.post enc Tryz.prog Tryz.f16 false true false false):=by
  refine returnsInHanded_of_change (C:=Tryz.checked) own started (by kernel_rfl) Tryz.func16
    (ChangeSpec.witness6 (enc:=enc) (C:=Tryz.checked) false ⟨#[],#[.agg #[.slice none 0 0,.int .i64 0,.int .i64 0,.int .i64 0,.int .i64 0,.int .i64 0],.slice none 0 0,.slice none 0 0,.slice none 0 0],[]⟩ 8 (by kernel_rfl) (by kernel_rfl) (by kernel_rfl) (by kernel_rfl)) ?_
  intro W base args ds gs before hval0 hW hcnd _
  have hval:∀ (j:Nat) t v,Tryz.f16.params[j]?=some t→args[j]?=some v→Value.okWide Tryz.prog W .any base t v:=hval0
  have hW':=hW
  obtain ⟨p,q,hA0,hV,rfl,hfz,hnd⟩:=hW
  have hA:DataW.TrodAll enc Tryz.prog W 0 (fun _=>true) true Tryz.f16.params.toList args.toList ds p:=hA0
  rw [Tryz.params16] at hA hval
  obtain ⟨v0,vs0,d0,ds0,p0,q0,hargs,rfl,rfl,h0,r0⟩:=trodAll_cons hA
  obtain ⟨v1,vs1,d1,ds1,p1,q1,rfl,rfl,rfl,h1,r1⟩:=trodAll_cons r0
  obtain ⟨v2,vs2,d2,ds2,p2,q2,rfl,rfl,rfl,h2,r2⟩:=trodAll_cons r1
  obtain ⟨v3,vs3,d3,ds3,p3,q3,rfl,rfl,rfl,h3,r3⟩:=trodAll_cons r2
  obtain ⟨rfl,rfl,rfl⟩:=trodAll_nil r3
  obtain rfl:args=#[v0,v1,v2,v3]:=by cases args; simp_all
  obtain ⟨rfl,rfl⟩:=trodVars_none hV
  have lt0:∀ x∈p0,x.block < W.heap.size:=by obtain ⟨m,hm⟩:=h0; exact DataW.trod_lt m _ _ _ hm
  have lt1:∀ x∈p1,x.block < W.heap.size:=by obtain ⟨m,hm⟩:=h1; exact DataW.trod_lt m _ _ _ hm
  have lt2:∀ x∈p2,x.block < W.heap.size:=by obtain ⟨m,hm⟩:=h2; exact DataW.trod_lt m _ _ _ hm
  have lt3:∀ x∈p3,x.block < W.heap.size:=by obtain ⟨m,hm⟩:=h3; exact DataW.trod_lt m _ _ _ hm
  obtain ⟨a0,hb0,ha0⟩:=open_bse (hval 0 26 v0 rfl rfl) h0
  obtain ⟨a1,hb1,ha1⟩:=open_set (hval 1 27 v1 rfl rfl) h1
  obtain ⟨a2,hb2,ha2⟩:=open_set (hval 2 27 v2 rfl rfl) h2
  obtain ⟨a3,hb3,ha3⟩:=open_set (hval 3 27 v3 rfl rfl) h3
  clear hA0 hval0
  refine (below_of_pure (Union_spec a0 a1 a2 a3 hb0 hb1 hb2 hb3) W [v0,v1,v2,v3] rfl (fun i hi=>?_)).mono fun e W' ⟨x,he,hx,bel⟩=>?_
  · match i,hi with
    | 0,_=>exact ha0
    | 1,_=>exact ha1
    | 2,_=>exact ha2
    | 3,_=>exact ha3
  subst he
  have hx':=hx.inv_v
  subst hx'
  exact ⟨_,rfl,_,_,_,[],_,[],hW',trodAll_mk1 (shut_bool Tryz.underlying4 _),(trodAll_cons_mk (Below.trod laidOut (by kernel_rfl) (of_decide_eq_true (by kernel_rfl)) h0 bel lt0) (trodAll_cons_mk (Below.trod laidOut (by kernel_rfl) (of_decide_eq_true (by kernel_rfl)) h1 bel lt1) (trodAll_cons_mk (Below.trod laidOut (by kernel_rfl) (of_decide_eq_true (by kernel_rfl)) h2 bel lt2) (trodAll_cons_mk (Below.trod laidOut (by kernel_rfl) (of_decide_eq_true (by kernel_rfl)) h3 bel lt3) trodAll_mk0)))),rfl,bel.frame _,fun h=>by cases h⟩
theorem j_wf16:(Rows.archiveUnionRow.wf (OpenSpec.ofChange Rows.archiveUnionSpec))=true:=by kernel_rfl
theorem j_pa16:(Tryz.f16.params.all (Tryz.prog.readableRec ·))=true:=by kernel_rfl
theorem j_nt16:(namedTie Tryz.prog Rows.archiveUnionRow.named Rows.archiveUnionSpec.vars)=true:=by kernel_rfl
theorem j_ip16:((Rows.archiveUnionRow.inPlace == Tryz.prog.inPlace 16))=true:=by kernel_rfl
theorem j_uf16:((Rows.archiveUnionRow.unfollowed == Tryz.prog.unfollowed 16))=true:=by kernel_rfl
theorem j_rc16:((Rows.archiveUnionRow.recurses == Tryz.prog.recurses 16))=true:=by kernel_rfl
theorem j_nm16:((Rows.archiveUnionRow.named == Tryz.prog.varsNamed 16))=true:=by kernel_rfl
theorem j_mp16:((Rows.archiveUnionRow.maps == (Tryz.f16.params.toList++Rows.archiveUnionSpec.plain.varTypes Tryz.prog).any (Tryz.prog.mapsRec ·)))=true:=by kernel_rfl
theorem j_if16:((Rows.archiveUnionRow.ifaces == (Tryz.f16.params.toList++Rows.archiveUnionSpec.plain.varTypes Tryz.prog).any (Tryz.prog.ifacesRec ·)))=true:=by kernel_rfl
theorem j_mo16:((Rows.archiveUnionRow.mapsOut == Tryz.prog.mapsAmong Tryz.f16.resultTypes.toList))=true:=by kernel_rfl
theorem j_lo16:((Rows.archiveUnionRow.loops == (Tryz.f16.params.toList++Rows.archiveUnionSpec.plain.varTypes Tryz.prog).any (Tryz.prog.loopsFrom ·)))=true:=by kernel_rfl
theorem j_wk16:((Rows.archiveUnionRow.wideKeys == (Tryz.f16.params.toList++Rows.archiveUnionSpec.plain.varTypes Tryz.prog++Tryz.f16.resultTypes.toList).any (Tryz.prog.wideKeysFrom ·)))=true:=by kernel_rfl
theorem j_va16:(Rows.archiveUnionSpec.vars.all (Tryz.prog.varReadable ·))=true:=by kernel_rfl
theorem j_rt16:(Tryz.f16.resultTypes.all (fun t=>Tryz.prog.readableRec t && decide (t < Tryz.prog.types.size)))=true:=by kernel_rfl
theorem j_io16:((Rows.archiveUnionRow.ifacesOut == Tryz.f16.resultTypes.toList.any (Tryz.prog.ifacesRec ·)))=true:=by kernel_rfl
theorem j_lu16:((Rows.archiveUnionRow.loopsOut == Tryz.f16.resultTypes.toList.any (Tryz.prog.loopsFrom ·)))=true:=by kernel_rfl
theorem j_ve16:((Rows.archiveUnionRow.veiled == (Tryz.f16.params.toList++Rows.archiveUnionSpec.plain.varTypes Tryz.prog++Tryz.f16.resultTypes.toList).any (Tryz.prog.veiledRec ·)))=true:=by kernel_rfl
theorem j_vf16:(Rows.archiveUnionRow.veiledFits Tryz.prog Tryz.f16.params.toList (Tryz.f16.params.toList++Rows.archiveUnionSpec.plain.varTypes Tryz.prog++Tryz.f16.resultTypes.toList))=true:=by kernel_rfl
theorem joined16:joinedFacts Tryz.prog 16 Tryz.f16 Rows.archiveUnionSpec Rows.archiveUnionRow=true:=by
  unfold joinedFacts
  exact (bband (bband (bband (bband (bband (bband (bband (bband (bband (bband (bband (bband (bband (bband (bband (bband (bband (bband (bband (bband (bband (bband (bband (bband (bband (bband (bband (bband (bband (bband (bband j_wf16 laidOut) mapsR) j_pa16) j_nt16) (by kernel_rfl)) stopsN) (by kernel_rfl)) knobsN) j_ip16) j_uf16) j_rc16) j_nm16) j_mp16) j_if16) j_mo16) j_lo16) j_wk16) j_va16) j_rt16) j_io16) j_lu16) plainK) (by kernel_rfl)) heardS) entersM) liftsF) makeP) (by kernel_rfl)) (by kernel_rfl)) j_ve16) j_vf16)
theorem over16:Rows.archiveUnionRow.holds Tryz.pinned (OpenSpec.ofChange Rows.archiveUnionSpec) :=
  OpenClaim.holds_of_wide 16 Tryz.f16 rfl rfl rfl rfl rfl rfl rfl ⟨rfl,rfl,rfl,rfl,rfl⟩ rfl rfl rfl rfl rfl (by kernel_rfl) Tryz.func16 joined16
    (of_decide_eq_true (by kernel_rfl)) (by unfold Func.isWrapper; first | (rw [if_pos (by decide +kernel)]; kernel_rfl) | (rw [if_neg (by decide +kernel)]; exact ⟨rfl,rfl⟩))
    (fun os started H enc _=>lifted16 os started H enc)
theorem proved:Rows.ArchiveUnionSaid:=over16
end Go.Proofs.YtolgelipcgcbhaaGreat

