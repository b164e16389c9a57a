/- a sheet is filed as the last one of its filings says, a mark is known as the last one of its corrections says -/
import Derived.Test.YtolgelipcgcbhaaGreatBj11
import Derived.Test.YtolgelipcgcbhaaGreatRows
import Derived.WalkKit
import Derived.ProofKit
import Derived.OpenShut
import Derived.ShutString
import Derived.ChangeOld
import Derived.Below
namespace Go.Proofs.YtolgelipcgcbhaaGreat
open Go.Abs
open Nat (reduceAdd reduceSub reduceLT reduceLeDiff reduceMul reduceEqDiff)
set_option linter.unusedVariables false
set_option linter.unusedSimpArgs false
set_option maxHeartbeats 4000000
set_option maxRecDepth 100000
open Go.ChangeShapes Go.WideShapes Go.ChangeAt Go.RowKit
set_option maxRecDepth 100000 in
theorem lifted5 (os:Os) (started:os.Started) (H:Type) (enc:TypeId × Value→H) :
    ReturnsInHanded {} Tryz.checked os 5 .any (Rows.archiveChainsSpec.pre6 enc Tryz.prog Tryz.f5 Rows.archiveChainsRow.domain false) (Rows.archiveChainsSpec.post enc Tryz.prog Tryz.f5 false true false false):=by
  refine returnsInHanded_of_change (C:=Tryz.checked) own started (by kernel_rfl) Tryz.func5
    (ChangeSpec.witness6 (enc:=enc) (C:=Tryz.checked) false ⟨#[],#[.agg #[.slice none 0 0,.int .i64 0,.int .i64 0,.int .i64 0,.int .i64 0,.int .i64 0],.slice none 0 0],[]⟩ 8 (by kernel_rfl) (by kernel_rfl) (by kernel_rfl) (by kernel_rfl)) ?_
  intro W base args ds gs before hval0 hW hcnd _
  have hval:∀ (j:Nat) t v,Tryz.f5.params[j]?=some t→args[j]?=some v→Value.okWide Tryz.prog W .any base t v:=hval0
  have hW':=hW
  obtain ⟨p,q,hA0,hV,rfl,hfz,hnd⟩:=hW
  have hA:DataW.TrodAll enc Tryz.prog W 0 (fun _=>true) true Tryz.f5.params.toList args.toList ds p:=hA0
  rw [Tryz.params5] at hA hval
  obtain ⟨v0,vs0,d0,ds0,p0,q0,hargs,rfl,rfl,h0,r0⟩:=trodAll_cons hA
  obtain ⟨v1,vs1,d1,ds1,p1,q1,rfl,rfl,rfl,h1,r1⟩:=trodAll_cons r0
  obtain ⟨rfl,rfl,rfl⟩:=trodAll_nil r1
  obtain rfl:args=#[v0,v1]:=by cases args; simp_all
  obtain ⟨rfl,rfl⟩:=trodVars_none hV
  have lt0:∀ x∈p0,x.block < W.heap.size:=by obtain ⟨m,hm⟩:=h0; exact DataW.trod_lt m _ _ _ hm
  have lt1:∀ x∈p1,x.block < W.heap.size:=by obtain ⟨m,hm⟩:=h1; exact DataW.trod_lt m _ _ _ hm
  obtain ⟨a0,hb0,ha0⟩:=open_bse (hval 0 26 v0 rfl rfl) h0
  obtain ⟨a1,hb1,ha1⟩:=open_set (hval 1 27 v1 rfl rfl) h1
  clear hA0 hval0
  refine (below_of_pure (Chains_spec a0 a1 hb0 hb1) W [v0,v1] rfl (fun i hi=>?_)).mono fun e W' ⟨x,he,hx,bel⟩=>?_
  · match i,hi with
    | 0,_=>exact ha0
    | 1,_=>exact ha1
  subst he
  have hx':=hx.inv_v
  subst hx'
  exact ⟨_,rfl,_,_,_,[],_,[],hW',trodAll_mk1 (shut_bool Tryz.underlying4 _),(trodAll_cons_mk (Below.trod laidOut (by kernel_rfl) (of_decide_eq_true (by kernel_rfl)) h0 bel lt0) (trodAll_cons_mk (Below.trod laidOut (by kernel_rfl) (of_decide_eq_true (by kernel_rfl)) h1 bel lt1) trodAll_mk0)),rfl,bel.frame _,fun h=>by cases h⟩
theorem j_wf5:(Rows.archiveChainsRow.wf (OpenSpec.ofChange Rows.archiveChainsSpec))=true:=by kernel_rfl
theorem j_pa5:(Tryz.f5.params.all (Tryz.prog.readableRec ·))=true:=by kernel_rfl
theorem j_nt5:(namedTie Tryz.prog Rows.archiveChainsRow.named Rows.archiveChainsSpec.vars)=true:=by kernel_rfl
theorem j_ip5:((Rows.archiveChainsRow.inPlace == Tryz.prog.inPlace 5))=true:=by kernel_rfl
theorem j_uf5:((Rows.archiveChainsRow.unfollowed == Tryz.prog.unfollowed 5))=true:=by kernel_rfl
theorem j_rc5:((Rows.archiveChainsRow.recurses == Tryz.prog.recurses 5))=true:=by kernel_rfl
theorem j_nm5:((Rows.archiveChainsRow.named == Tryz.prog.varsNamed 5))=true:=by kernel_rfl
theorem j_mp5:((Rows.archiveChainsRow.maps == (Tryz.f5.params.toList++Rows.archiveChainsSpec.plain.varTypes Tryz.prog).any (Tryz.prog.mapsRec ·)))=true:=by kernel_rfl
theorem j_if5:((Rows.archiveChainsRow.ifaces == (Tryz.f5.params.toList++Rows.archiveChainsSpec.plain.varTypes Tryz.prog).any (Tryz.prog.ifacesRec ·)))=true:=by kernel_rfl
theorem j_mo5:((Rows.archiveChainsRow.mapsOut == Tryz.prog.mapsAmong Tryz.f5.resultTypes.toList))=true:=by kernel_rfl
theorem j_lo5:((Rows.archiveChainsRow.loops == (Tryz.f5.params.toList++Rows.archiveChainsSpec.plain.varTypes Tryz.prog).any (Tryz.prog.loopsFrom ·)))=true:=by kernel_rfl
theorem j_wk5:((Rows.archiveChainsRow.wideKeys == (Tryz.f5.params.toList++Rows.archiveChainsSpec.plain.varTypes Tryz.prog++Tryz.f5.resultTypes.toList).any (Tryz.prog.wideKeysFrom ·)))=true:=by kernel_rfl
theorem j_va5:(Rows.archiveChainsSpec.vars.all (Tryz.prog.varReadable ·))=true:=by kernel_rfl
theorem j_rt5:(Tryz.f5.resultTypes.all (fun t=>Tryz.prog.readableRec t && decide (t < Tryz.prog.types.size)))=true:=by kernel_rfl
theorem j_io5:((Rows.archiveChainsRow.ifacesOut == Tryz.f5.resultTypes.toList.any (Tryz.prog.ifacesRec ·)))=true:=by kernel_rfl
theorem j_lu5:((Rows.archiveChainsRow.loopsOut == Tryz.f5.resultTypes.toList.any (Tryz.prog.loopsFrom ·)))=true:=by kernel_rfl
theorem j_ve5:((Rows.archiveChainsRow.veiled == (Tryz.f5.params.toList++Rows.archiveChainsSpec.plain.varTypes Tryz.prog++Tryz.f5.resultTypes.toList).any (Tryz.prog.veiledRec ·)))=true:=by kernel_rfl
theorem j_vf5:(Rows.archiveChainsRow.veiledFits Tryz.prog Tryz.f5.params.toList (Tryz.f5.params.toList++Rows.archiveChainsSpec.plain.varTypes Tryz.prog++Tryz.f5.resultTypes.toList))=true:=by kernel_rfl
theorem joined5:joinedFacts Tryz.prog 5 Tryz.f5 Rows.archiveChainsSpec Rows.archiveChainsRow=true:=by
  unfold joinedFacts
  exact (bband (bband (bband (bband (bband (bband (bband (bband (bband (bband (bband (bband (bband (bband (bband (bband (bband (bband (bband (bband (bband (bband (bband (bband (bband (bband (bband (bband (bband (bband (bband j_wf5 laidOut) mapsR) j_pa5) j_nt5) (by kernel_rfl)) stopsN) (by kernel_rfl)) knobsN) j_ip5) j_uf5) j_rc5) j_nm5) j_mp5) j_if5) j_mo5) j_lo5) j_wk5) j_va5) j_rt5) j_io5) j_lu5) plainK) (by kernel_rfl)) heardS) entersM) liftsF) makeP) (by kernel_rfl)) (by kernel_rfl)) j_ve5) j_vf5)
theorem over5:Rows.archiveChainsRow.holds Tryz.pinned (OpenSpec.ofChange Rows.archiveChainsSpec) :=
  OpenClaim.holds_of_wide 5 Tryz.f5 rfl rfl rfl rfl rfl rfl rfl ⟨rfl,rfl,rfl,rfl,rfl⟩ rfl rfl rfl rfl rfl (by kernel_rfl) Tryz.func5 joined5
    (of_decide_eq_true (by kernel_rfl)) (by unfold Func.isWrapper; first | (rw [if_pos (by decide +kernel)]; kernel_rfl) | (rw [if_neg (by decide +kernel)]; exact ⟨rfl,rfl⟩))
    (fun os started H enc _=>lifted5 os started H enc)
theorem proved:Rows.ArchiveChainsSaid:=over5
end Go.Proofs.YtolgelipcgcbhaaGreat

