/- each sheet and each reading is in the week of its own, all weeks together have all of them, and in a week each station has the sheet that is filed so -/
import Derived.Test.YtolgelipcgcbhaaGreatBl12
import Derived.Test.YtolgelipcgcbhaaGreatRows
import Derived.WalkKit
import Derived.ProofKit
import Derived.OpenShut
import Derived.ShutString
import Derived.ChangeOld
import Derived.Below
namespace Go.Proofs.YtolgelipcgcbhaaGreat
open Go.Abs
open Nat (reduceAdd reduceSub reduceLT reduceLeDiff reduceMul reduceEqDiff)
set_option linter.unusedVariables false
set_option linter.unusedSimpArgs false
set_option maxHeartbeats 4000000
set_option maxRecDepth 100000
open Go.ChangeShapes Go.WideShapes Go.ChangeAt Go.RowKit
set_option maxRecDepth 100000 in
theorem lifted8 (os:Os) (started:os.Started) (H:Type) (enc:TypeId × Value→H) :
    ReturnsInHanded {} Tryz.checked os 8 .any (Rows.archiveWeeksSpec.pre6 enc Tryz.prog Tryz.f8 Rows.archiveWeeksRow.domain false) (Rows.archiveWeeksSpec.post enc Tryz.prog Tryz.f8 false true false false):=by
  refine returnsInHanded_of_change (C:=Tryz.checked) own started (by kernel_rfl) Tryz.func8
    (ChangeSpec.witness6 (enc:=enc) (C:=Tryz.checked) false ⟨#[],#[.agg #[.slice none 0 0,.int .i64 0,.int .i64 0,.int .i64 0,.int .i64 0,.int .i64 0],.slice none 0 0],[]⟩ 8 (by kernel_rfl) (by kernel_rfl) (by kernel_rfl) (by kernel_rfl)) ?_
  intro W base args ds gs before hval0 hW hcnd _
  have hval:∀ (j:Nat) t v,Tryz.f8.params[j]?=some t→args[j]?=some v→Value.okWide Tryz.prog W .any base t v:=hval0
  have hW':=hW
  obtain ⟨p,q,hA0,hV,rfl,hfz,hnd⟩:=hW
  have hA:DataW.TrodAll enc Tryz.prog W 0 (fun _=>true) true Tryz.f8.params.toList args.toList ds p:=hA0
  rw [Tryz.params8] at hA hval
  obtain ⟨v0,vs0,d0,ds0,p0,q0,hargs,rfl,rfl,h0,r0⟩:=trodAll_cons hA
  obtain ⟨v1,vs1,d1,ds1,p1,q1,rfl,rfl,rfl,h1,r1⟩:=trodAll_cons r0
  obtain ⟨rfl,rfl,rfl⟩:=trodAll_nil r1
  obtain rfl:args=#[v0,v1]:=by cases args; simp_all
  obtain ⟨rfl,rfl⟩:=trodVars_none hV
  have lt0:∀ x∈p0,x.block < W.heap.size:=by obtain ⟨m,hm⟩:=h0; exact DataW.trod_lt m _ _ _ hm
  have lt1:∀ x∈p1,x.block < W.heap.size:=by obtain ⟨m,hm⟩:=h1; exact DataW.trod_lt m _ _ _ hm
  obtain ⟨a0,hb0,ha0⟩:=open_bse (hval 0 26 v0 rfl rfl) h0
  obtain ⟨a1,hb1,ha1⟩:=open_set (hval 1 27 v1 rfl rfl) h1
  clear hA0 hval0
  refine (below_of_pure (Weeks_law a0 a1 hb0 hb1) W [v0,v1] rfl (fun i hi=>?_)).mono fun e W' ⟨x,he,hx,bel⟩=>?_
  · match i,hi with
    | 0,_=>exact ha0
    | 1,_=>exact ha1
  subst he
  have hx':=hx.inv_v
  subst hx'
  exact ⟨_,rfl,_,_,_,[],_,[],hW',trodAll_mk1 (shut_bool Tryz.underlying4 _),(trodAll_cons_mk (Below.trod laidOut (by kernel_rfl) (of_decide_eq_true (by kernel_rfl)) h0 bel lt0) (trodAll_cons_mk (Below.trod laidOut (by kernel_rfl) (of_decide_eq_true (by kernel_rfl)) h1 bel lt1) trodAll_mk0)),rfl,bel.frame _,fun h=>by cases h⟩
theorem j_wf8:(Rows.archiveWeeksRow.wf (OpenSpec.ofChange Rows.archiveWeeksSpec))=true:=by kernel_rfl
theorem j_pa8:(Tryz.f8.params.all (Tryz.prog.readableRec ·))=true:=by kernel_rfl
theorem j_nt8:(namedTie Tryz.prog Rows.archiveWeeksRow.named Rows.archiveWeeksSpec.vars)=true:=by kernel_rfl
theorem j_ip8:((Rows.archiveWeeksRow.inPlace == Tryz.prog.inPlace 8))=true:=by kernel_rfl
theorem j_uf8:((Rows.archiveWeeksRow.unfollowed == Tryz.prog.unfollowed 8))=true:=by kernel_rfl
theorem j_rc8:((Rows.archiveWeeksRow.recurses == Tryz.prog.recurses 8))=true:=by kernel_rfl
theorem j_nm8:((Rows.archiveWeeksRow.named == Tryz.prog.varsNamed 8))=true:=by kernel_rfl
theorem j_mp8:((Rows.archiveWeeksRow.maps == (Tryz.f8.params.toList++Rows.archiveWeeksSpec.plain.varTypes Tryz.prog).any (Tryz.prog.mapsRec ·)))=true:=by kernel_rfl
theorem j_if8:((Rows.archiveWeeksRow.ifaces == (Tryz.f8.params.toList++Rows.archiveWeeksSpec.plain.varTypes Tryz.prog).any (Tryz.prog.ifacesRec ·)))=true:=by kernel_rfl
theorem j_mo8:((Rows.archiveWeeksRow.mapsOut == Tryz.prog.mapsAmong Tryz.f8.resultTypes.toList))=true:=by kernel_rfl
theorem j_lo8:((Rows.archiveWeeksRow.loops == (Tryz.f8.params.toList++Rows.archiveWeeksSpec.plain.varTypes Tryz.prog).any (Tryz.prog.loopsFrom ·)))=true:=by kernel_rfl
theorem j_wk8:((Rows.archiveWeeksRow.wideKeys == (Tryz.f8.params.toList++Rows.archiveWeeksSpec.plain.varTypes Tryz.prog++Tryz.f8.resultTypes.toList).any (Tryz.prog.wideKeysFrom ·)))=true:=by kernel_rfl
theorem j_va8:(Rows.archiveWeeksSpec.vars.all (Tryz.prog.varReadable ·))=true:=by kernel_rfl
theorem j_rt8:(Tryz.f8.resultTypes.all (fun t=>Tryz.prog.readableRec t && decide (t < Tryz.prog.types.size)))=true:=by kernel_rfl
theorem j_io8:((Rows.archiveWeeksRow.ifacesOut == Tryz.f8.resultTypes.toList.any (Tryz.prog.ifacesRec ·)))=true:=by kernel_rfl
theorem j_lu8:((Rows.archiveWeeksRow.loopsOut == Tryz.f8.resultTypes.toList.any (Tryz.prog.loopsFrom ·)))=true:=by kernel_rfl
theorem j_ve8:((Rows.archiveWeeksRow.veiled == (Tryz.f8.params.toList++Rows.archiveWeeksSpec.plain.varTypes Tryz.prog++Tryz.f8.resultTypes.toList).any (Tryz.prog.veiledRec ·)))=true:=by kernel_rfl
theorem j_vf8:(Rows.archiveWeeksRow.veiledFits Tryz.prog Tryz.f8.params.toList (Tryz.f8.params.toList++Rows.archiveWeeksSpec.plain.varTypes Tryz.prog++Tryz.f8.resultTypes.toList))=true:=by kernel_rfl
theorem joined8:joinedFacts Tryz.prog 8 Tryz.f8 Rows.archiveWeeksSpec Rows.archiveWeeksRow=true:=by
  unfold joinedFacts
  exact (bband (bband (bband (bband (bband (bband (bband (bband (bband (bband (bband (bband (bband (bband (bband (bband (bband (bband (bband (bband (bband (bband (bband (bband (bband (bband (bband (bband (bband (bband (bband j_wf8 laidOut) mapsR) j_pa8) j_nt8) (by kernel_rfl)) stopsN) (by kernel_rfl)) knobsN) j_ip8) j_uf8) j_rc8) j_nm8) j_mp8) j_if8) j_mo8) j_lo8) j_wk8) j_va8) j_rt8) j_io8) j_lu8) plainK) (by kernel_rfl)) heardS) entersM) liftsF) makeP) (by kernel_rfl)) (by kernel_rfl)) j_ve8) j_vf8)
theorem over8:Rows.archiveWeeksRow.holds Tryz.pinned (OpenSpec.ofChange Rows.archiveWeeksSpec) :=
  OpenClaim.holds_of_wide 8 Tryz.f8 rfl rfl rfl rfl rfl rfl rfl ⟨rfl,rfl,rfl,rfl,rfl⟩ rfl rfl rfl rfl rfl (by kernel_rfl) Tryz.func8 joined8
    (of_decide_eq_true (by kernel_rfl)) (by unfold Func.isWrapper; first | (rw [if_pos (by decide +kernel)]; kernel_rfl) | (rw [if_neg (by decide +kernel)]; exact ⟨rfl,rfl⟩))
    (fun os started H enc _=>lifted8 os started H enc)
theorem proved:Rows.ArchiveWeeksSaid:=over8
end Go.Proofs.YtolgelipcgcbhaaGreat

