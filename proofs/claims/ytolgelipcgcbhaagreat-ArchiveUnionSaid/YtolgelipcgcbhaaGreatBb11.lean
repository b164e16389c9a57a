/- Part 11 of the texts that the claim rests on: abstract values over the walk, and contracts of functions. -/
import Derived.Test.YtolgelipcgcbhaaGreatBb10
import Derived.Test.YtolgelipcgcbhaaGreatRows
import Derived.WalkKit
import Derived.ProofKit
import Derived.OpenShut
import Derived.ShutString
import Derived.ChangeOld
import Derived.Below
namespace Go.Proofs.YtolgelipcgcbhaaGreat
open Go.Abs
open Nat renaming reduceBEq→zq0,reduceAdd→zq1,reduceSub→zq2,reduceLT→zq3,reduceLeDiff→zq4,reduceMul→zq5,reduceEqDiff→zq6
set_option linter.unusedVariables false
set_option linter.unusedSimpArgs false
set_option maxHeartbeats 4000000
set_option maxRecDepth 100000
open Go.ChangeShapes Go.WideShapes Go.ChangeAt Go.RowKit
theorem own:ownKnob Tryz.prog.godebug=none:=by kernel_rfl
theorem laidOut:laidOutB Tryz.prog=true:=by kernel_rfl
theorem mapsR:mapsRowed Tryz.prog=true:=by kernel_rfl
theorem stopsN:(Tryz.prog.stops == [])=true:=by kernel_rfl
theorem knobsN:(Tryz.prog.stopKnobs == [])=true:=by kernel_rfl
theorem plainK:(Rows.archiveOrderRow.plainKeys == Tryz.prog.plainKeys)=true:=by kernel_rfl
theorem heardS:Tryz.prog.stopsHeard=true:=by kernel_rfl
theorem entersM:Tryz.prog.mayEnter=true:=by kernel_rfl
theorem liftsF:(Rows.archiveOrderRow.lifted == Tryz.prog.liftsFinal)=true:=by kernel_rfl
theorem makeP:(Tryz.prog.make == some Rows.archiveOrderRow.make)=true:=by kernel_rfl
theorem bband {a b:Bool} (h:a=true) (h':b=true):(a && b)=true:=by rw [h,h']; rfl
theorem cells3:Tryz.prog.cellsOf 3=1:=by kernel_rfl
theorem cells48:Tryz.prog.cellsOf 48=2:=by kernel_rfl
theorem cells226:Tryz.prog.cellsOf 226=3:=by kernel_rfl
theorem cells164:Tryz.prog.cellsOf 164=3:=by kernel_rfl
theorem cells50:Tryz.prog.cellsOf 50=10:=by kernel_rfl
theorem cells51:Tryz.prog.cellsOf 51=1:=by kernel_rfl
theorem cells52:Tryz.prog.cellsOf 52=1:=by kernel_rfl
theorem cells53:Tryz.prog.cellsOf 53=1:=by kernel_rfl
theorem cells54:Tryz.prog.cellsOf 54=1:=by kernel_rfl
theorem cells56:Tryz.prog.cellsOf 56=2:=by kernel_rfl
theorem cells58:Tryz.prog.cellsOf 58=4:=by kernel_rfl
theorem cells60:Tryz.prog.cellsOf 60=18:=by kernel_rfl
theorem cells62:Tryz.prog.cellsOf 62=3:=by kernel_rfl
theorem cells64:Tryz.prog.cellsOf 64=5:=by kernel_rfl
theorem cells66:Tryz.prog.cellsOf 66=3:=by kernel_rfl
theorem cells29:Tryz.prog.cellsOf 29=2:=by kernel_rfl
theorem cells68:Tryz.prog.cellsOf 68=38:=by kernel_rfl
theorem cells107:Tryz.prog.cellsOf 107=1:=by kernel_rfl
theorem cells109:Tryz.prog.cellsOf 109=4:=by kernel_rfl
theorem cells22:Tryz.prog.cellsOf 22=1:=by kernel_rfl
theorem cells24:Tryz.prog.cellsOf 24=2:=by kernel_rfl
theorem cells26:Tryz.prog.cellsOf 26=6:=by kernel_rfl
theorem op3:Opens Tryz.prog 3 Int (fun z=>[n z]) (fun _=>True):=(opens_int Tryz.underlying3).to id (fun _=>rfl) (fun _ _=>trivial)
theorem op48:Opens Tryz.prog 48 Sp Sp.cs (fun _=>True) :=
  (opens_struct Tryz.underlying48 cells48 (fun _=>rfl) (opensF_cons rfl cells3 op3 (fun _=>rfl) (opensF_cons rfl cells3 op3 (fun _=>rfl) (opensF_nil _)))).to (fun a=>⟨a.1,a.2.1⟩) (fun _=>rfl) (fun _ _=>trivial)
theorem op226:Opens Tryz.prog 226 Mk Mk.cs (fun _=>True) :=
  (opens_struct Tryz.underlying226 cells226 (fun _=>rfl) (opensF_cons rfl cells3 op3 (fun _=>rfl) (opensF_cons rfl cells48 op48 (fun _=>rfl) (opensF_nil _)))).to (fun a=>⟨a.1,a.2.1⟩) (fun _=>rfl) (fun _ _=>trivial)
theorem op62:Opens Tryz.prog 62 Mk Mk.cs (fun _=>True) :=
  (opens_struct Tryz.underlying62 cells62 (fun _=>rfl) (opensF_cons rfl cells3 op3 (fun _=>rfl) (opensF_cons rfl cells48 op48 (fun _=>rfl) (opensF_nil _)))).to (fun a=>⟨a.1,a.2.1⟩) (fun _=>rfl) (fun _ _=>trivial)
theorem op164:Opens Tryz.prog 164 Pt Pt.cs (fun _=>True) :=
  (opens_struct Tryz.underlying164 cells164 (fun _=>rfl) (opensF_cons rfl cells3 op3 (fun _=>rfl) (opensF_cons rfl cells3 op3 (fun _=>rfl) (opensF_cons rfl cells3 op3 (fun _=>rfl) (opensF_nil _))))).to (fun a=>⟨a.1,a.2.1,a.2.2.1⟩) (fun _=>rfl) (fun _ _=>trivial)
theorem op50:Opens Tryz.prog 50 Ppr Ppr.cs (fun _=>True) :=
  (opens_struct Tryz.underlying50 cells50 (fun _=>rfl) (opensF_cons rfl cells3 op3 (fun _=>rfl) (opensF_cons rfl cells3 op3 (fun _=>rfl) (opensF_cons rfl cells3 op3 (fun _=>rfl) (opensF_cons rfl cells3 op3 (fun _=>rfl) (opensF_cons rfl cells3 op3 (fun _=>rfl) (opensF_cons rfl cells3 op3 (fun _=>rfl) (opensF_cons rfl cells48 op48 (fun _=>rfl) (opensF_cons rfl cells48 op48 (fun _=>rfl) (opensF_nil _)))))))))).to (fun a=>⟨a.1,a.2.1,a.2.2.1,a.2.2.2.1,a.2.2.2.2.1,a.2.2.2.2.2.1,a.2.2.2.2.2.2.1,a.2.2.2.2.2.2.2.1⟩) (fun _=>rfl) (fun _ _=>trivial)
theorem op51:Opens Tryz.prog 51 (List Pt) (fun l=>[ptS l]) (fun l=>l.length < 9223372036854775808) :=
  (opens_slice Tryz.underlying51 cells164 (by decide) op164 (fun _=>rfl)).to id (fun _=>rfl) (fun _ h=>h.1)
theorem op52:Opens Tryz.prog 52 (List Int) (fun l=>[inS l]) (fun l=>l.length < 9223372036854775808) :=
  (opens_slice Tryz.underlying52 cells3 (by decide) op3 (fun _=>rfl)).to id (fun _=>rfl) (fun _ h=>h.1)
theorem op53:Opens Tryz.prog 53 (List Sp) (fun l=>[spnS l]) (fun l=>l.length < 9223372036854775808) :=
  (opens_slice Tryz.underlying53 cells48 (by decide) op48 (fun _=>rfl)).to id (fun _=>rfl) (fun _ h=>h.1)
theorem op54:Opens Tryz.prog 54 (List Mk) (fun l=>[mkS l]) (fun l=>l.length < 9223372036854775808) :=
  (opens_slice Tryz.underlying54 cells226 (by decide) op226 (fun _=>rfl)).to id (fun _=>rfl) (fun _ h=>h.1)
theorem op56:Opens Tryz.prog 56 (List Sp × List Mk) (fun d=>[spnS d.1,mkS d.2]) (fun d=>d.1.length < 9223372036854775808∧d.2.length < 9223372036854775808) :=
  (opens_struct Tryz.underlying56 cells56 (fun _=>rfl) (opensF_cons rfl cells53 op53 (fun _=>rfl) (opensF_cons rfl cells54 op54 (fun _=>rfl) (opensF_nil _)))).to (fun a=>⟨a.1,a.2.1⟩) (fun _=>rfl) (fun _ h=>⟨h.1,h.2.1⟩)
theorem op58:Opens Tryz.prog 58 Pn Pn.cs (fun _=>True) :=
  (opens_struct Tryz.underlying58 cells58 (fun _=>rfl) (opensF_cons rfl cells3 op3 (fun _=>rfl) (opensF_cons rfl cells48 op48 (fun _=>rfl) (opensF_cons rfl cells3 op3 (fun _=>rfl) (opensF_nil _))))).to (fun a=>⟨a.1,a.2.1,a.2.2.1⟩) (fun _=>rfl) (fun _ _=>trivial)
theorem op60:Opens Tryz.prog 60 Sht Sht.cs shtSz :=
  (opens_struct Tryz.underlying60 cells60 (fun _=>rfl) (opensF_cons rfl cells50 op50 (fun _=>rfl) (opensF_cons rfl cells51 op51 (fun _=>rfl) (opensF_cons rfl cells52 op52 (fun _=>rfl) (opensF_cons rfl cells56 op56 (fun _=>rfl) (opensF_cons rfl cells58 op58 (fun _=>rfl) (opensF_nil _))))))).to (fun a=>⟨a.1,a.2.1,a.2.2.1,a.2.2.2.1.1,a.2.2.2.1.2,a.2.2.2.2.1⟩) (fun _=>rfl) (fun _ h=>⟨h.2.1,h.2.2.1,h.2.2.2.1.1,h.2.2.2.1.2⟩)
theorem op64:Opens Tryz.prog 64 Rd Rd.cs (fun _=>True) :=
  (opens_struct Tryz.underlying64 cells64 (fun _=>rfl) (opensF_cons rfl cells3 op3 (fun _=>rfl) (opensF_cons rfl cells3 op3 (fun _=>rfl) (opensF_cons rfl cells3 op3 (fun _=>rfl) (opensF_cons rfl cells48 op48 (fun _=>rfl) (opensF_nil _)))))).to (fun a=>⟨a.1,a.2.1,a.2.2.1,a.2.2.2.1⟩) (fun _=>rfl) (fun _ _=>trivial)
theorem op66:Opens Tryz.prog 66 Hgt Hgt.cs (fun _=>True) :=
  (opens_struct Tryz.underlying66 cells66 (fun _=>rfl) (opensF_cons rfl cells3 op3 (fun _=>rfl) (opensF_cons rfl cells48 op48 (fun _=>rfl) (opensF_nil _)))).to (fun a=>⟨a.1,a.2.1⟩) (fun _=>rfl) (fun _ _=>trivial)
theorem op29:Opens Tryz.prog 29 Nm Nm.cs (fun _=>True) :=
  (opens_struct Tryz.underlying29 cells29 (fun _=>rfl) (opensF_cons rfl cells3 op3 (fun _=>rfl) (opensF_cons rfl cells3 op3 (fun _=>rfl) (opensF_nil _)))).to (fun a=>⟨a.1,a.2.1⟩) (fun _=>rfl) (fun _ _=>trivial)
theorem op68:Opens Tryz.prog 68 Nt Nt.cs ntSz :=
  (opens_struct Tryz.underlying68 cells68 (fun _=>rfl) (opensF_cons rfl cells3 op3 (fun _=>rfl) (opensF_cons rfl cells3 op3 (fun _=>rfl) (opensF_cons rfl cells3 op3 (fun _=>rfl) (opensF_cons rfl cells3 op3 (fun _=>rfl) (opensF_cons rfl cells3 op3 (fun _=>rfl) (opensF_cons rfl cells3 op3 (fun _=>rfl) (opensF_cons rfl cells3 op3 (fun _=>rfl) (opensF_cons rfl cells60 op60 (fun _=>rfl) (opensF_cons rfl cells62 op62 (fun _=>rfl) (opensF_cons rfl cells64 op64 (fun _=>rfl) (opensF_cons rfl cells66 op66 (fun _=>rfl) (opensF_cons rfl cells29 op29 (fun _=>rfl) (opensF_nil _)))))))))))))).to (fun a=>⟨a.1,a.2.1,a.2.2.1,a.2.2.2.1,a.2.2.2.2.1,a.2.2.2.2.2.1,a.2.2.2.2.2.2.1,a.2.2.2.2.2.2.2.1,a.2.2.2.2.2.2.2.2.1,a.2.2.2.2.2.2.2.2.2.1,a.2.2.2.2.2.2.2.2.2.2.1,a.2.2.2.2.2.2.2.2.2.2.2.1⟩) (fun _=>rfl) (fun _ h=>h.2.2.2.2.2.2.2.1)
theorem op27:Opens Tryz.prog 27 (List Nt) (fun l=>[ntS l]) setSz :=
  (opens_slice Tryz.underlying27 cells68 (by decide) op68 (fun _=>rfl)).to id (fun _=>rfl) (fun _ h=>h)
theorem op107:Opens Tryz.prog 107 (List Hgt) (fun l=>[hgS l]) (fun l=>l.length < 9223372036854775808) :=
  (opens_slice Tryz.underlying107 cells66 (by decide) op66 (fun _=>rfl)).to id (fun _=>rfl) (fun _ h=>h.1)
theorem op109:Opens Tryz.prog 109 Stn Stn.cs (fun s=>s.heights.length < 9223372036854775808) :=
  (opens_struct Tryz.underlying109 cells109 (fun _=>rfl) (opensF_cons rfl cells3 op3 (fun _=>rfl) (opensF_cons rfl cells3 op3 (fun _=>rfl) (opensF_cons rfl cells3 op3 (fun _=>rfl) (opensF_cons rfl cells107 op107 (fun _=>rfl) (opensF_nil _)))))).to (fun a=>⟨a.1,a.2.1,a.2.2.1,a.2.2.2.1⟩) (fun _=>rfl) (fun _ h=>h.2.2.2.1)
theorem op22:Opens Tryz.prog 22 (List Stn) (fun l=>[snS l]) stnSz :=
  (opens_slice Tryz.underlying22 cells109 (by decide) op109 (fun _=>rfl)).to id (fun _=>rfl) (fun _ h=>h)
theorem op24:Opens Tryz.prog 24 (Int × Int) (fun d=>[n d.1,n d.2]) (fun _=>True) :=
  (opens_struct Tryz.underlying24 cells24 (fun _=>rfl) (opensF_cons rfl cells3 op3 (fun _=>rfl) (opensF_cons rfl cells3 op3 (fun _=>rfl) (opensF_nil _)))).to (fun a=>⟨a.1,a.2.1⟩) (fun _=>rfl) (fun _ _=>trivial)
theorem op26:Opens Tryz.prog 26 Bse Bse.cs bseSz :=
  (opens_struct Tryz.underlying26 cells26 (fun _=>rfl) (opensF_cons rfl cells22 op22 (fun _=>rfl) (opensF_cons rfl cells24 op24 (fun _=>rfl) (opensF_cons rfl cells3 op3 (fun _=>rfl) (opensF_cons rfl cells3 op3 (fun _=>rfl) (opensF_cons rfl cells3 op3 (fun _=>rfl) (opensF_nil _))))))).to (fun a=>⟨a.1,a.2.1.1,a.2.1.2,a.2.2.1,a.2.2.2.1,a.2.2.2.2.1⟩) (fun _=>rfl) (fun _ h=>h.1)
section
variable {H:Type} {enc:TypeId × Value→H} {w:World} {r:Reach} {base b0:Nat} {sp:Nat→Bool} {held:Bool} {v:Value} {d:DataW H} {ps:List MemPlace}
theorem open_bse (h:Value.okWide Tryz.prog w r base 26 v) (hx:DataW.Trod enc Tryz.prog w b0 sp held 26 v d ps):∃ x:Bse,bseSz x∧RV w (fun _=>False) nob [] (.agg x.cs) v:=by
  obtain ⟨cs,rfl,_⟩:=okWide_struct Tryz.underlying26 h
  exact op26.agg hx
theorem open_set (h:Value.okWide Tryz.prog w r base 27 v) (hx:DataW.Trod enc Tryz.prog w b0 sp held 27 v d ps):∃ l:List Nt,setSz l∧RV w (fun _=>False) nob [] (ntS l) v:=by
  obtain ⟨a,len,cap,rfl⟩:=okWide_slice Tryz.underlying27 h
  exact op27.one rfl hx
end
end Go.Proofs.YtolgelipcgcbhaaGreat
