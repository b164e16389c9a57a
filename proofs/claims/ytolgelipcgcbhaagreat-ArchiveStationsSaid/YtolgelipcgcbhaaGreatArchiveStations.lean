/- a register has the stations of the base with all their heights, and of others just those that notes that stand have said -/
import Derived.Test.YtolgelipcgcbhaaGreatBk11
import Derived.Test.YtolgelipcgcbhaaGreatRows
import Derived.WalkKit
import Derived.ProofKit
import Derived.OpenShut
import Derived.ShutString
import Derived.ChangeOld
import Derived.Below
namespace Go.Proofs.YtolgelipcgcbhaaGreat
open Go.Abs
open Nat (reduceAdd reduceSub reduceLT reduceLeDiff reduceMul reduceEqDiff)
set_option linter.unusedVariables false
set_option linter.unusedSimpArgs false
set_option maxHeartbeats 4000000
set_option maxRecDepth 100000
open Go.ChangeShapes Go.WideShapes Go.ChangeAt Go.RowKit
set_option maxRecDepth 100000 in
theorem lifted14 (os:Os) (started:os.Started) (H:Type) (enc:TypeId × Value→H) :
    ReturnsInHanded {} Tryz.checked os 14 .any (Rows.archiveStationsSpec.pre6 enc Tryz.prog Tryz.f14 Rows.archiveStationsRow.domain false) (Rows.archiveStationsSpec.post enc Tryz.prog Tryz.f14 false true false false):=by
  refine returnsInHanded_of_change (C:=Tryz.checked) own started (by kernel_rfl) Tryz.func14
    (ChangeSpec.witness6 (enc:=enc) (C:=Tryz.checked) false ⟨#[],#[.agg #[.slice none 0 0,.int .i64 0,.int .i64 0,.int .i64 0,.int .i64 0,.int .i64 0],.slice none 0 0],[]⟩ 8 (by kernel_rfl) (by kernel_rfl) (by kernel_rfl) (by kernel_rfl)) ?_
  intro W base args ds gs before hval0 hW hcnd _
  have hval:∀ (j:Nat) t v,Tryz.f14.params[j]?=some t→args[j]?=some v→Value.okWide Tryz.prog W .any base t v:=hval0
  have hW':=hW
  obtain ⟨p,q,hA0,hV,rfl,hfz,hnd⟩:=hW
  have hA:DataW.TrodAll enc Tryz.prog W 0 (fun _=>true) true Tryz.f14.params.toList args.toList ds p:=hA0
  rw [Tryz.params14] at hA hval
  obtain ⟨v0,vs0,d0,ds0,p0,q0,hargs,rfl,rfl,h0,r0⟩:=trodAll_cons hA
  obtain ⟨v1,vs1,d1,ds1,p1,q1,rfl,rfl,rfl,h1,r1⟩:=trodAll_cons r0
  obtain ⟨rfl,rfl,rfl⟩:=trodAll_nil r1
  obtain rfl:args=#[v0,v1]:=by cases args; simp_all
  obtain ⟨rfl,rfl⟩:=trodVars_none hV
  have lt0:∀ x∈p0,x.block < W.heap.size:=by obtain ⟨m,hm⟩:=h0; exact DataW.trod_lt m _ _ _ hm
  have lt1:∀ x∈p1,x.block < W.heap.size:=by obtain ⟨m,hm⟩:=h1; exact DataW.trod_lt m _ _ _ hm
  obtain ⟨a0,hb0,ha0⟩:=open_bse (hval 0 26 v0 rfl rfl) h0
  obtain ⟨a1,hb1,ha1⟩:=open_set (hval 1 27 v1 rfl rfl) h1
  clear hA0 hval0
  refine (below_of_pure (Stations_spec a0 a1 hb0 hb1) W [v0,v1] rfl (fun i hi=>?_)).mono fun e W' ⟨x,he,hx,bel⟩=>?_
  · match i,hi with
    | 0,_=>exact ha0
    | 1,_=>exact ha1
  subst he
  have hx':=hx.inv_v
  subst hx'
  exact ⟨_,rfl,_,_,_,[],_,[],hW',trodAll_mk1 (shut_bool Tryz.underlying4 _),(trodAll_cons_mk (Below.trod laidOut (by kernel_rfl) (of_decide_eq_true (by kernel_rfl)) h0 bel lt0) (trodAll_cons_mk (Below.trod laidOut (by kernel_rfl) (of_decide_eq_true (by kernel_rfl)) h1 bel lt1) trodAll_mk0)),rfl,bel.frame _,fun h=>by cases h⟩
theorem j_wf14:(Rows.archiveStationsRow.wf (OpenSpec.ofChange Rows.archiveStationsSpec))=true:=by kernel_rfl
theorem j_pa14:(Tryz.f14.params.all (Tryz.prog.readableRec ·))=true:=by kernel_rfl
theorem j_nt14:(namedTie Tryz.prog Rows.archiveStationsRow.named Rows.archiveStationsSpec.vars)=true:=by kernel_rfl
theorem j_ip14:((Rows.archiveStationsRow.inPlace == Tryz.prog.inPlace 14))=true:=by kernel_rfl
theorem j_uf14:((Rows.archiveStationsRow.unfollowed == Tryz.prog.unfollowed 14))=true:=by kernel_rfl
theorem j_rc14:((Rows.archiveStationsRow.recurses == Tryz.prog.recurses 14))=true:=by kernel_rfl
theorem j_nm14:((Rows.archiveStationsRow.named == Tryz.prog.varsNamed 14))=true:=by kernel_rfl
theorem j_mp14:((Rows.archiveStationsRow.maps == (Tryz.f14.params.toList++Rows.archiveStationsSpec.plain.varTypes Tryz.prog).any (Tryz.prog.mapsRec ·)))=true:=by kernel_rfl
theorem j_if14:((Rows.archiveStationsRow.ifaces == (Tryz.f14.params.toList++Rows.archiveStationsSpec.plain.varTypes Tryz.prog).any (Tryz.prog.ifacesRec ·)))=true:=by kernel_rfl
theorem j_mo14:((Rows.archiveStationsRow.mapsOut == Tryz.prog.mapsAmong Tryz.f14.resultTypes.toList))=true:=by kernel_rfl
theorem j_lo14:((Rows.archiveStationsRow.loops == (Tryz.f14.params.toList++Rows.archiveStationsSpec.plain.varTypes Tryz.prog).any (Tryz.prog.loopsFrom ·)))=true:=by kernel_rfl
theorem j_wk14:((Rows.archiveStationsRow.wideKeys == (Tryz.f14.params.toList++Rows.archiveStationsSpec.plain.varTypes Tryz.prog++Tryz.f14.resultTypes.toList).any (Tryz.prog.wideKeysFrom ·)))=true:=by kernel_rfl
theorem j_va14:(Rows.archiveStationsSpec.vars.all (Tryz.prog.varReadable ·))=true:=by kernel_rfl
theorem j_rt14:(Tryz.f14.resultTypes.all (fun t=>Tryz.prog.readableRec t && decide (t < Tryz.prog.types.size)))=true:=by kernel_rfl
theorem j_io14:((Rows.archiveStationsRow.ifacesOut == Tryz.f14.resultTypes.toList.any (Tryz.prog.ifacesRec ·)))=true:=by kernel_rfl
theorem j_lu14:((Rows.archiveStationsRow.loopsOut == Tryz.f14.resultTypes.toList.any (Tryz.prog.loopsFrom ·)))=true:=by kernel_rfl
theorem j_ve14:((Rows.archiveStationsRow.veiled == (Tryz.f14.params.toList++Rows.archiveStationsSpec.plain.varTypes Tryz.prog++Tryz.f14.resultTypes.toList).any (Tryz.prog.veiledRec ·)))=true:=by kernel_rfl
theorem j_vf14:(Rows.archiveStationsRow.veiledFits Tryz.prog Tryz.f14.params.toList (Tryz.f14.params.toList++Rows.archiveStationsSpec.plain.varTypes Tryz.prog++Tryz.f14.resultTypes.toList))=true:=by kernel_rfl
theorem joined14:joinedFacts Tryz.prog 14 Tryz.f14 Rows.archiveStationsSpec Rows.archiveStationsRow=true:=by
  unfold joinedFacts
  exact (bband (bband (bband (bband (bband (bband (bband (bband (bband (bband (bband (bband (bband (bband (bband (bband (bband (bband (bband (bband (bband (bband (bband (bband (bband (bband (bband (bband (bband (bband (bband j_wf14 laidOut) mapsR) j_pa14) j_nt14) (by kernel_rfl)) stopsN) (by kernel_rfl)) knobsN) j_ip14) j_uf14) j_rc14) j_nm14) j_mp14) j_if14) j_mo14) j_lo14) j_wk14) j_va14) j_rt14) j_io14) j_lu14) plainK) (by kernel_rfl)) heardS) entersM) liftsF) makeP) (by kernel_rfl)) (by kernel_rfl)) j_ve14) j_vf14)
theorem over14:Rows.archiveStationsRow.holds Tryz.pinned (OpenSpec.ofChange Rows.archiveStationsSpec) :=
  OpenClaim.holds_of_wide 14 Tryz.f14 rfl rfl rfl rfl rfl rfl rfl ⟨rfl,rfl,rfl,rfl,rfl⟩ rfl rfl rfl rfl rfl (by kernel_rfl) Tryz.func14 joined14
    (of_decide_eq_true (by kernel_rfl)) (by unfold Func.isWrapper; first | (rw [if_pos (by decide +kernel)]; kernel_rfl) | (rw [if_neg (by decide +kernel)]; exact ⟨rfl,rfl⟩))
    (fun os started H enc _=>lifted14 os started H enc)
theorem proved:Rows.ArchiveStationsSaid:=over14
end Go.Proofs.YtolgelipcgcbhaaGreat

