/- a note that is withdrawn leaves the register as if it had not been -/
import Derived.Test.YtolgelipcgcbhaaGreatBh11
import Derived.Test.YtolgelipcgcbhaaGreatRows
import Derived.WalkKit
import Derived.ProofKit
import Derived.OpenShut
import Derived.ShutString
import Derived.ChangeOld
import Derived.Below
namespace Go.Proofs.YtolgelipcgcbhaaGreat
open Go.Abs
open Nat (reduceAdd reduceSub reduceLT reduceLeDiff reduceMul reduceEqDiff)
set_option linter.unusedVariables false
set_option linter.unusedSimpArgs false
set_option maxHeartbeats 4000000
set_option maxRecDepth 100000
open Go.ChangeShapes Go.WideShapes Go.ChangeAt Go.RowKit
set_option maxRecDepth 100000 in
theorem lifted6 (os:Os) (started:os.Started) (H:Type) (enc:TypeId × Value→H) :
    ReturnsInHanded {} Tryz.checked os 6 .any (Rows.archiveWithdrawnSpec.pre6 enc Tryz.prog Tryz.f6 Rows.archiveWithdrawnRow.domain false) (Rows.archiveWithdrawnSpec.post enc Tryz.prog Tryz.f6 false true false false):=by
  refine returnsInHanded_of_change (C:=Tryz.checked) own started (by kernel_rfl) Tryz.func6
    (ChangeSpec.witness6 (enc:=enc) (C:=Tryz.checked) false ⟨#[],#[.agg #[.slice none 0 0,.int .i64 0,.int .i64 0,.int .i64 0,.int .i64 0,.int .i64 0],.slice none 0 0,.int .i64 0],[]⟩ 8 (by kernel_rfl) (by kernel_rfl) (by kernel_rfl) (by kernel_rfl)) ?_
  intro W base args ds gs before hval0 hW hcnd _
  have hval:∀ (j:Nat) t v,Tryz.f6.params[j]?=some t→args[j]?=some v→Value.okWide Tryz.prog W .any base t v:=hval0
  have hW':=hW
  obtain ⟨p,q,hA0,hV,rfl,hfz,hnd⟩:=hW
  have hA:DataW.TrodAll enc Tryz.prog W 0 (fun _=>true) true Tryz.f6.params.toList args.toList ds p:=hA0
  rw [Tryz.params6] at hA hval
  obtain ⟨v0,vs0,d0,ds0,p0,q0,hargs,rfl,rfl,h0,r0⟩:=trodAll_cons hA
  obtain ⟨v1,vs1,d1,ds1,p1,q1,rfl,rfl,rfl,h1,r1⟩:=trodAll_cons r0
  obtain ⟨v2,vs2,d2,ds2,p2,q2,rfl,rfl,rfl,h2,r2⟩:=trodAll_cons r1
  obtain ⟨rfl,rfl,rfl⟩:=trodAll_nil r2
  obtain rfl:args=#[v0,v1,v2]:=by cases args; simp_all
  obtain ⟨rfl,rfl⟩:=trodVars_none hV
  have lt0:∀ x∈p0,x.block < W.heap.size:=by obtain ⟨m,hm⟩:=h0; exact DataW.trod_lt m _ _ _ hm
  have lt1:∀ x∈p1,x.block < W.heap.size:=by obtain ⟨m,hm⟩:=h1; exact DataW.trod_lt m _ _ _ hm
  have lt2:∀ x∈p2,x.block < W.heap.size:=by obtain ⟨m,hm⟩:=h2; exact DataW.trod_lt m _ _ _ hm
  obtain ⟨a0,hb0,ha0⟩:=open_bse (hval 0 26 v0 rfl rfl) h0
  obtain ⟨a1,hb1,ha1⟩:=open_set (hval 1 27 v1 rfl rfl) h1
  obtain ⟨a2,ha2⟩:=okWide_int Tryz.underlying3 (hval 2 3 v2 rfl rfl)
  clear hA0 hval0
  refine (below_of_pure (Withdrawn_spec a0 a1 a2 hb0 hb1) W [v0,v1,v2] rfl (fun i hi=>?_)).mono fun e W' ⟨x,he,hx,bel⟩=>?_
  · match i,hi with
    | 0,_=>exact ha0
    | 1,_=>exact ha1
    | 2,_=>rw [ha2]; exact .v _
  subst he
  have hx':=hx.inv_v
  subst hx'
  exact ⟨_,rfl,_,_,_,[],_,[],hW',trodAll_mk1 (shut_bool Tryz.underlying4 _),(trodAll_cons_mk (Below.trod laidOut (by kernel_rfl) (of_decide_eq_true (by kernel_rfl)) h0 bel lt0) (trodAll_cons_mk (Below.trod laidOut (by kernel_rfl) (of_decide_eq_true (by kernel_rfl)) h1 bel lt1) (trodAll_cons_mk (Below.trod laidOut (by kernel_rfl) (of_decide_eq_true (by kernel_rfl)) h2 bel lt2) trodAll_mk0))),rfl,bel.frame _,fun h=>by cases h⟩
theorem j_wf6:(Rows.archiveWithdrawnRow.wf (OpenSpec.ofChange Rows.archiveWithdrawnSpec))=true:=by kernel_rfl
theorem j_pa6:(Tryz.f6.params.all (Tryz.prog.readableRec ·))=true:=by kernel_rfl
theorem j_nt6:(namedTie Tryz.prog Rows.archiveWithdrawnRow.named Rows.archiveWithdrawnSpec.vars)=true:=by kernel_rfl
theorem j_ip6:((Rows.archiveWithdrawnRow.inPlace == Tryz.prog.inPlace 6))=true:=by kernel_rfl
theorem j_uf6:((Rows.archiveWithdrawnRow.unfollowed == Tryz.prog.unfollowed 6))=true:=by kernel_rfl
theorem j_rc6:((Rows.archiveWithdrawnRow.recurses == Tryz.prog.recurses 6))=true:=by kernel_rfl
theorem j_nm6:((Rows.archiveWithdrawnRow.named == Tryz.prog.varsNamed 6))=true:=by kernel_rfl
theorem j_mp6:((Rows.archiveWithdrawnRow.maps == (Tryz.f6.params.toList++Rows.archiveWithdrawnSpec.plain.varTypes Tryz.prog).any (Tryz.prog.mapsRec ·)))=true:=by kernel_rfl
theorem j_if6:((Rows.archiveWithdrawnRow.ifaces == (Tryz.f6.params.toList++Rows.archiveWithdrawnSpec.plain.varTypes Tryz.prog).any (Tryz.prog.ifacesRec ·)))=true:=by kernel_rfl
theorem j_mo6:((Rows.archiveWithdrawnRow.mapsOut == Tryz.prog.mapsAmong Tryz.f6.resultTypes.toList))=true:=by kernel_rfl
theorem j_lo6:((Rows.archiveWithdrawnRow.loops == (Tryz.f6.params.toList++Rows.archiveWithdrawnSpec.plain.varTypes Tryz.prog).any (Tryz.prog.loopsFrom ·)))=true:=by kernel_rfl
theorem j_wk6:((Rows.archiveWithdrawnRow.wideKeys == (Tryz.f6.params.toList++Rows.archiveWithdrawnSpec.plain.varTypes Tryz.prog++Tryz.f6.resultTypes.toList).any (Tryz.prog.wideKeysFrom ·)))=true:=by kernel_rfl
theorem j_va6:(Rows.archiveWithdrawnSpec.vars.all (Tryz.prog.varReadable ·))=true:=by kernel_rfl
theorem j_rt6:(Tryz.f6.resultTypes.all (fun t=>Tryz.prog.readableRec t && decide (t < Tryz.prog.types.size)))=true:=by kernel_rfl
theorem j_io6:((Rows.archiveWithdrawnRow.ifacesOut == Tryz.f6.resultTypes.toList.any (Tryz.prog.ifacesRec ·)))=true:=by kernel_rfl
theorem j_lu6:((Rows.archiveWithdrawnRow.loopsOut == Tryz.f6.resultTypes.toList.any (Tryz.prog.loopsFrom ·)))=true:=by kernel_rfl
theorem j_ve6:((Rows.archiveWithdrawnRow.veiled == (Tryz.f6.params.toList++Rows.archiveWithdrawnSpec.plain.varTypes Tryz.prog++Tryz.f6.resultTypes.toList).any (Tryz.prog.veiledRec ·)))=true:=by kernel_rfl
theorem j_vf6:(Rows.archiveWithdrawnRow.veiledFits Tryz.prog Tryz.f6.params.toList (Tryz.f6.params.toList++Rows.archiveWithdrawnSpec.plain.varTypes Tryz.prog++Tryz.f6.resultTypes.toList))=true:=by kernel_rfl
theorem joined6:joinedFacts Tryz.prog 6 Tryz.f6 Rows.archiveWithdrawnSpec Rows.archiveWithdrawnRow=true:=by
  unfold joinedFacts
  exact (bband (bband (bband (bband (bband (bband (bband (bband (bband (bband (bband (bband (bband (bband (bband (bband (bband (bband (bband (bband (bband (bband (bband (bband (bband (bband (bband (bband (bband (bband (bband j_wf6 laidOut) mapsR) j_pa6) j_nt6) (by kernel_rfl)) stopsN) (by kernel_rfl)) knobsN) j_ip6) j_uf6) j_rc6) j_nm6) j_mp6) j_if6) j_mo6) j_lo6) j_wk6) j_va6) j_rt6) j_io6) j_lu6) plainK) (by kernel_rfl)) heardS) entersM) liftsF) makeP) (by kernel_rfl)) (by kernel_rfl)) j_ve6) j_vf6)
theorem over6:Rows.archiveWithdrawnRow.holds Tryz.pinned (OpenSpec.ofChange Rows.archiveWithdrawnSpec) :=
  OpenClaim.holds_of_wide 6 Tryz.f6 rfl rfl rfl rfl rfl rfl rfl ⟨rfl,rfl,rfl,rfl,rfl⟩ rfl rfl rfl rfl rfl (by kernel_rfl) Tryz.func6 joined6
    (of_decide_eq_true (by kernel_rfl)) (by unfold Func.isWrapper; first | (rw [if_pos (by decide +kernel)]; kernel_rfl) | (rw [if_neg (by decide +kernel)]; exact ⟨rfl,rfl⟩))
    (fun os started H enc _=>lifted6 os started H enc)
theorem proved:Rows.ArchiveWithdrawnSaid:=over6
end Go.Proofs.YtolgelipcgcbhaaGreat

