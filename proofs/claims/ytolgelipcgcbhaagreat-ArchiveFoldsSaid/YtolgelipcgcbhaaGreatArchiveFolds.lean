/- registers, also as of a day and a time, and the filings and corrections of a note, are as specified -/
import Derived.Test.YtolgelipcgcbhaaGreatBn13
namespace Go.Proofs.YtolgelipcgcbhaaGreat
open Go.Abs
open Nat (reduceAdd reduceSub reduceLT reduceLeDiff reduceMul reduceEqDiff)
set_option linter.unusedVariables false
set_option linter.unusedSimpArgs false
set_option maxHeartbeats 4000000
set_option maxRecDepth 100000
open Go.ChangeShapes Go.WideShapes Go.ChangeAt Go.RowKit
set_option maxRecDepth 100000 in
theorem lifted3 (os:Os) (started:os.Started) (H:Type) (enc:TypeId × Value→H) :
    ReturnsInHanded {} Tryz.checked os 3 .any (Rows.archiveFoldsSpec.pre6 enc Tryz.prog Tryz.f3 Rows.archiveFoldsRow.domain false) (Rows.archiveFoldsSpec.post enc Tryz.prog Tryz.f3 false true false false):=by
  refine returnsInHanded_of_change (C:=Tryz.checked) own started (by kernel_rfl) Tryz.func3
    (ChangeSpec.witness6 (enc:=enc) (C:=Tryz.checked) false ⟨#[],#[.agg #[.slice none 0 0,.int .i64 0,.int .i64 0,.int .i64 0,.int .i64 0,.int .i64 0],.slice none 0 0,.int .i64 0,.int .i64 0,.agg #[.int .i64 0,.int .i64 0]],[]⟩ 8 (by kernel_rfl) (by kernel_rfl) (by kernel_rfl) (by kernel_rfl)) ?_
  intro W base args ds gs before hval0 hW hcnd _
  have hval:∀ (j:Nat) t v,Tryz.f3.params[j]?=some t→args[j]?=some v→Value.okWide Tryz.prog W .any base t v:=hval0
  have hW':=hW
  obtain ⟨p,q,hA0,hV,rfl,hfz,hnd⟩:=hW
  have hA:DataW.TrodAll enc Tryz.prog W 0 (fun _=>true) true Tryz.f3.params.toList args.toList ds p:=hA0
  rw [Tryz.params3] at hA hval
  obtain ⟨v0,vs0,d0,ds0,p0,q0,hargs,rfl,rfl,h0,r0⟩:=trodAll_cons hA
  obtain ⟨v1,vs1,d1,ds1,p1,q1,rfl,rfl,rfl,h1,r1⟩:=trodAll_cons r0
  obtain ⟨v2,vs2,d2,ds2,p2,q2,rfl,rfl,rfl,h2,r2⟩:=trodAll_cons r1
  obtain ⟨v3,vs3,d3,ds3,p3,q3,rfl,rfl,rfl,h3,r3⟩:=trodAll_cons r2
  obtain ⟨v4,vs4,d4,ds4,p4,q4,rfl,rfl,rfl,h4,r4⟩:=trodAll_cons r3
  obtain ⟨rfl,rfl,rfl⟩:=trodAll_nil r4
  obtain rfl:args=#[v0,v1,v2,v3,v4]:=by cases args; simp_all
  obtain ⟨rfl,rfl⟩:=trodVars_none hV
  have lt0:∀ x∈p0,x.block < W.heap.size:=by obtain ⟨m,hm⟩:=h0; exact DataW.trod_lt m _ _ _ hm
  have lt1:∀ x∈p1,x.block < W.heap.size:=by obtain ⟨m,hm⟩:=h1; exact DataW.trod_lt m _ _ _ hm
  have lt2:∀ x∈p2,x.block < W.heap.size:=by obtain ⟨m,hm⟩:=h2; exact DataW.trod_lt m _ _ _ hm
  have lt3:∀ x∈p3,x.block < W.heap.size:=by obtain ⟨m,hm⟩:=h3; exact DataW.trod_lt m _ _ _ hm
  have lt4:∀ x∈p4,x.block < W.heap.size:=by obtain ⟨m,hm⟩:=h4; exact DataW.trod_lt m _ _ _ hm
  obtain ⟨a0,hb0,ha0⟩:=open_bse (hval 0 26 v0 rfl rfl) h0
  obtain ⟨a1,hb1,ha1⟩:=open_set (hval 1 27 v1 rfl rfl) h1
  obtain ⟨a2,ha2⟩:=okWide_int Tryz.underlying3 (hval 2 3 v2 rfl rfl)
  obtain ⟨a3,ha3⟩:=okWide_int Tryz.underlying3 (hval 3 3 v3 rfl rfl)
  obtain ⟨a4,hb4,ha4⟩:=open_nm (hval 4 29 v4 rfl rfl) h4
  clear hA0 hval0
  refine (below_of_pure (Folds_law a0 a1 a2 a3 a4 hb0 hb1) W [v0,v1,v2,v3,v4] rfl (fun i hi=>?_)).mono fun e W' ⟨x,he,hx,bel⟩=>?_
  · match i,hi with
    | 0,_=>exact ha0
    | 1,_=>exact ha1
    | 2,_=>rw [ha2]; exact .v _
    | 3,_=>rw [ha3]; exact .v _
    | 4,_=>exact ha4
  subst he
  have hx':=hx.inv_v
  subst hx'
  exact ⟨_,rfl,_,_,_,[],_,[],hW',trodAll_mk1 (shut_bool Tryz.underlying4 _),(trodAll_cons_mk (Below.trod laidOut (by kernel_rfl) (of_decide_eq_true (by kernel_rfl)) h0 bel lt0) (trodAll_cons_mk (Below.trod laidOut (by kernel_rfl) (of_decide_eq_true (by kernel_rfl)) h1 bel lt1) (trodAll_cons_mk (Below.trod laidOut (by kernel_rfl) (of_decide_eq_true (by kernel_rfl)) h2 bel lt2) (trodAll_cons_mk (Below.trod laidOut (by kernel_rfl) (of_decide_eq_true (by kernel_rfl)) h3 bel lt3) (trodAll_cons_mk (Below.trod laidOut (by kernel_rfl) (of_decide_eq_true (by kernel_rfl)) h4 bel lt4) trodAll_mk0))))),rfl,bel.frame _,fun h=>by cases h⟩
theorem j_wf3:(Rows.archiveFoldsRow.wf (OpenSpec.ofChange Rows.archiveFoldsSpec))=true:=by kernel_rfl
theorem j_pa3:(Tryz.f3.params.all (Tryz.prog.readableRec ·))=true:=by kernel_rfl
theorem j_nt3:(namedTie Tryz.prog Rows.archiveFoldsRow.named Rows.archiveFoldsSpec.vars)=true:=by kernel_rfl
theorem j_ip3:((Rows.archiveFoldsRow.inPlace == Tryz.prog.inPlace 3))=true:=by kernel_rfl
theorem j_uf3:((Rows.archiveFoldsRow.unfollowed == Tryz.prog.unfollowed 3))=true:=by kernel_rfl
theorem j_rc3:((Rows.archiveFoldsRow.recurses == Tryz.prog.recurses 3))=true:=by kernel_rfl
theorem j_nm3:((Rows.archiveFoldsRow.named == Tryz.prog.varsNamed 3))=true:=by kernel_rfl
theorem j_mp3:((Rows.archiveFoldsRow.maps == (Tryz.f3.params.toList++Rows.archiveFoldsSpec.plain.varTypes Tryz.prog).any (Tryz.prog.mapsRec ·)))=true:=by kernel_rfl
theorem j_if3:((Rows.archiveFoldsRow.ifaces == (Tryz.f3.params.toList++Rows.archiveFoldsSpec.plain.varTypes Tryz.prog).any (Tryz.prog.ifacesRec ·)))=true:=by kernel_rfl
theorem j_mo3:((Rows.archiveFoldsRow.mapsOut == Tryz.prog.mapsAmong Tryz.f3.resultTypes.toList))=true:=by kernel_rfl
theorem j_lo3:((Rows.archiveFoldsRow.loops == (Tryz.f3.params.toList++Rows.archiveFoldsSpec.plain.varTypes Tryz.prog).any (Tryz.prog.loopsFrom ·)))=true:=by kernel_rfl
theorem j_wk3:((Rows.archiveFoldsRow.wideKeys == (Tryz.f3.params.toList++Rows.archiveFoldsSpec.plain.varTypes Tryz.prog++Tryz.f3.resultTypes.toList).any (Tryz.prog.wideKeysFrom ·)))=true:=by kernel_rfl
theorem j_va3:(Rows.archiveFoldsSpec.vars.all (Tryz.prog.varReadable ·))=true:=by kernel_rfl
theorem j_rt3:(Tryz.f3.resultTypes.all (fun t=>Tryz.prog.readableRec t && decide (t < Tryz.prog.types.size)))=true:=by kernel_rfl
theorem j_io3:((Rows.archiveFoldsRow.ifacesOut == Tryz.f3.resultTypes.toList.any (Tryz.prog.ifacesRec ·)))=true:=by kernel_rfl
theorem j_lu3:((Rows.archiveFoldsRow.loopsOut == Tryz.f3.resultTypes.toList.any (Tryz.prog.loopsFrom ·)))=true:=by kernel_rfl
theorem j_ve3:((Rows.archiveFoldsRow.veiled == (Tryz.f3.params.toList++Rows.archiveFoldsSpec.plain.varTypes Tryz.prog++Tryz.f3.resultTypes.toList).any (Tryz.prog.veiledRec ·)))=true:=by kernel_rfl
theorem j_vf3:(Rows.archiveFoldsRow.veiledFits Tryz.prog Tryz.f3.params.toList (Tryz.f3.params.toList++Rows.archiveFoldsSpec.plain.varTypes Tryz.prog++Tryz.f3.resultTypes.toList))=true:=by kernel_rfl
theorem joined3:joinedFacts Tryz.prog 3 Tryz.f3 Rows.archiveFoldsSpec Rows.archiveFoldsRow=true:=by
  unfold joinedFacts
  exact (bband (bband (bband (bband (bband (bband (bband (bband (bband (bband (bband (bband (bband (bband (bband (bband (bband (bband (bband (bband (bband (bband (bband (bband (bband (bband (bband (bband (bband (bband (bband j_wf3 laidOut) mapsR) j_pa3) j_nt3) (by kernel_rfl)) stopsN) (by kernel_rfl)) knobsN) j_ip3) j_uf3) j_rc3) j_nm3) j_mp3) j_if3) j_mo3) j_lo3) j_wk3) j_va3) j_rt3) j_io3) j_lu3) plainK) (by kernel_rfl)) heardS) entersM) liftsF) makeP) (by kernel_rfl)) (by kernel_rfl)) j_ve3) j_vf3)
theorem over3:Rows.archiveFoldsRow.holds Tryz.pinned (OpenSpec.ofChange Rows.archiveFoldsSpec) :=
  OpenClaim.holds_of_wide 3 Tryz.f3 rfl rfl rfl rfl rfl rfl rfl ⟨rfl,rfl,rfl,rfl,rfl⟩ rfl rfl rfl rfl rfl (by kernel_rfl) Tryz.func3 joined3
    (of_decide_eq_true (by kernel_rfl)) (by unfold Func.isWrapper; first | (rw [if_pos (by decide +kernel)]; kernel_rfl) | (rw [if_neg (by decide +kernel)]; exact ⟨rfl,rfl⟩))
    (fun os started H enc _=>lifted3 os started H enc)
theorem proved:Rows.ArchiveFoldsSaid:=over3
end Go.Proofs.YtolgelipcgcbhaaGreat

