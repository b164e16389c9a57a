/- Part 24 of the texts: the types of the arguments are opened; the closed facts of the row. -/
import Derived.Test.YtgopgjnfhkoomaaGreatBu17
import Derived.Test.YtgopgjnfhkoomaaGreatRows
import Derived.WalkKit
import Derived.ProofKit
import Derived.OpenShut
import Derived.ShutString
import Derived.ChangeOld
import Derived.Below
set_option linter.unusedVariables false
set_option linter.unusedSimpArgs false
namespace Go.Proofs.YtgopgjnfhkoomaaGreat
open Go.Abs
open Nat (reduceAdd reduceSub reduceLT reduceLeDiff reduceMul reduceEqDiff)
set_option maxHeartbeats 4000000
set_option maxRecDepth 100000
abbrev zqSx(l:List Cr):AV:=.sl 4 (l.map Ub)
open Go.ChangeShapes Go.WideShapes Go.ChangeAt Go.RowKit
theorem own:ownKnob Tryz.prog.godebug=none:=by kernel_rfl
theorem laidOut:laidOutB Tryz.prog=true:=by kernel_rfl
theorem Xq:mapsRowed Tryz.prog=true:=by kernel_rfl
theorem Ul:(Tryz.prog.stops==[])=true:=by kernel_rfl
theorem Um:(Tryz.prog.stopKnobs==[])=true:=by kernel_rfl
theorem Uo:(Rows.topBetweenRow.plainKeys==Tryz.prog.plainKeys)=true:=by kernel_rfl
theorem Up:Tryz.prog.stopsHeard=true:=by kernel_rfl
theorem Qz:Tryz.prog.mayEnter=true:=by kernel_rfl
theorem Uq:(Rows.topBetweenRow.lifted==Tryz.prog.liftsFinal)=true:=by kernel_rfl
theorem Xs:(Tryz.prog.make==some Rows.topBetweenRow.make)=true:=by kernel_rfl
theorem iU{a b:Bool}(h:a=true)(h':b=true):(a&&b)=true:=by rw[h,h'];rfl
theorem e9:Tryz.prog.cellsOf 3=1:=by kernel_rfl
theorem nK:Tryz.prog.cellsOf 52=2:=by kernel_rfl
theorem FJ:Tryz.prog.cellsOf 111=3:=by kernel_rfl
theorem FK:Tryz.prog.cellsOf 207=3:=by kernel_rfl
theorem IT:Tryz.prog.cellsOf 54=10:=by kernel_rfl
theorem QA:Tryz.prog.cellsOf 55=1:=by kernel_rfl
theorem x_:Tryz.prog.cellsOf 28=1:=by kernel_rfl
theorem QB:Tryz.prog.cellsOf 56=1:=by kernel_rfl
theorem QC:Tryz.prog.cellsOf 57=1:=by kernel_rfl
theorem IU:Tryz.prog.cellsOf 59=2:=by kernel_rfl
theorem IV:Tryz.prog.cellsOf 61=4:=by kernel_rfl
theorem IW:Tryz.prog.cellsOf 63=18:=by kernel_rfl
theorem IX:Tryz.prog.cellsOf 68=3:=by kernel_rfl
theorem IY:Tryz.prog.cellsOf 71=5:=by kernel_rfl
theorem Ab:Tryz.prog.cellsOf 162=3:=by kernel_rfl
theorem IZ:Tryz.prog.cellsOf 50=2:=by kernel_rfl
theorem FM:Tryz.prog.cellsOf 164=38:=by kernel_rfl
theorem N3:Tryz.prog.cellsOf 116=1:=by kernel_rfl
theorem FN:Tryz.prog.cellsOf 118=4:=by kernel_rfl
theorem QD:Tryz.prog.cellsOf 22=1:=by kernel_rfl
theorem I0:Tryz.prog.cellsOf 24=2:=by kernel_rfl
theorem QE:Tryz.prog.cellsOf 26=6:=by kernel_rfl
theorem QF:Tryz.prog.cellsOf 30=4:=by kernel_rfl
theorem qm:gJ Tryz.prog 3 Int (fun z=>[n z]) (fun _=>True):=(JD Tryz.underlying3).to id (fun _=>rfl) (fun _ _=>trivial)
theorem FO:gJ Tryz.prog 52 Sp Sp.cs (fun _=>True):=
 (eD Tryz.underlying52 nK (fun _=>rfl) (bn rfl e9 qm (fun _=>rfl) (bn rfl e9 qm (fun _=>rfl) (fH _)))).to (fun a=>⟨a.1,a.2.1⟩) (fun _=>rfl) (fun _ _=>trivial)
theorem Xu:gJ Tryz.prog 111 Mk Mk.cs (fun _=>True):=
 (eD Tryz.underlying111 FJ (fun _=>rfl) (bn rfl e9 qm (fun _=>rfl) (bn rfl nK FO (fun _=>rfl) (fH _)))).to (fun a=>⟨a.1,a.2.1⟩) (fun _=>rfl) (fun _ _=>trivial)
theorem aaH:gJ Tryz.prog 68 Mk Mk.cs (fun _=>True):=
 (eD Tryz.underlying68 IX (fun _=>rfl) (bn rfl e9 qm (fun _=>rfl) (bn rfl nK FO (fun _=>rfl) (fH _)))).to (fun a=>⟨a.1,a.2.1⟩) (fun _=>rfl) (fun _ _=>trivial)
theorem Xv:gJ Tryz.prog 207 Pt Pt.cs (fun _=>True):=
 (eD Tryz.underlying207 FK (fun _=>rfl) (bn rfl e9 qm (fun _=>rfl) (bn rfl e9 qm (fun _=>rfl) (bn rfl e9 qm (fun _=>rfl) (fH _))))).to (fun a=>⟨a.1,a.2.1,a.2.2.1⟩) (fun _=>rfl) (fun _ _=>trivial)
theorem aaI:gJ Tryz.prog 54 AN AN.cs (fun _=>True):=
 (eD Tryz.underlying54 IT (fun _=>rfl) (bn rfl e9 qm (fun _=>rfl) (bn rfl e9 qm (fun _=>rfl) (bn rfl e9 qm (fun _=>rfl) (bn rfl e9 qm (fun _=>rfl) (bn rfl e9 qm (fun _=>rfl) (bn rfl e9 qm (fun _=>rfl) (bn rfl nK FO (fun _=>rfl) (bn rfl nK FO (fun _=>rfl) (fH _)))))))))).to (fun a=>⟨a.1,a.2.1,a.2.2.1,a.2.2.2.1,a.2.2.2.2.1,a.2.2.2.2.2.1,a.2.2.2.2.2.2.1,a.2.2.2.2.2.2.2.1⟩) (fun _=>rfl) (fun _ _=>trivial)
theorem aaJ:gJ Tryz.prog 55 (List Pt) (fun l=>[AO l]) (fun l=>l.length<9223372036854775808):=
 (kP Tryz.underlying55 FK (by decide) Xv (fun _=>rfl)).to id (fun _=>rfl) (fun _ h=>h.1)
theorem QG:gJ Tryz.prog 28 (List Int) (fun l=>[l9 l]) (fun l=>l.length<9223372036854775808):=
 (kP Tryz.underlying28 e9 (by decide) qm (fun _=>rfl)).to id (fun _=>rfl) (fun _ h=>h.1)
theorem aaK:gJ Tryz.prog 56 (List Sp) (fun l=>[ec l]) (fun l=>l.length<9223372036854775808):=
 (kP Tryz.underlying56 nK (by decide) FO (fun _=>rfl)).to id (fun _=>rfl) (fun _ h=>h.1)
theorem aaL:gJ Tryz.prog 57 (List Mk) (fun l=>[mb l]) (fun l=>l.length<9223372036854775808):=
 (kP Tryz.underlying57 FJ (by decide) Xu (fun _=>rfl)).to id (fun _=>rfl) (fun _ h=>h.1)
theorem aaM:gJ Tryz.prog 59 (List Sp×List Mk) (fun d=>[ec d.1,mb d.2]) (fun d=>d.1.length<9223372036854775808/\d.2.length<9223372036854775808):=
 (eD Tryz.underlying59 IU (fun _=>rfl) (bn rfl QB aaK (fun _=>rfl) (bn rfl QC aaL (fun _=>rfl) (fH _)))).to (fun a=>⟨a.1,a.2.1⟩) (fun _=>rfl) (fun _ h=>⟨h.1,h.2.1⟩)
theorem aaN:gJ Tryz.prog 61 Pn Pn.cs (fun _=>True):=
 (eD Tryz.underlying61 IV (fun _=>rfl) (bn rfl e9 qm (fun _=>rfl) (bn rfl nK FO (fun _=>rfl) (bn rfl e9 qm (fun _=>rfl) (fH _))))).to (fun a=>⟨a.1,a.2.1,a.2.2.1⟩) (fun _=>rfl) (fun _ _=>trivial)
theorem aaO:gJ Tryz.prog 63 fT fT.cs rq:=
 (eD Tryz.underlying63 IW (fun _=>rfl) (bn rfl IT aaI (fun _=>rfl) (bn rfl QA aaJ (fun _=>rfl) (bn rfl x_ QG (fun _=>rfl) (bn rfl IU aaM (fun _=>rfl) (bn rfl IV aaN (fun _=>rfl) (fH _))))))).to (fun a=>⟨a.1,a.2.1,a.2.2.1,a.2.2.2.1.1,a.2.2.2.1.2,a.2.2.2.2.1⟩) (fun _=>rfl) (fun _ h=>⟨h.2.1,h.2.2.1,h.2.2.2.1.1,h.2.2.2.1.2⟩)
theorem aaP:gJ Tryz.prog 71 Rd Rd.cs (fun _=>True):=
 (eD Tryz.underlying71 IY (fun _=>rfl) (bn rfl e9 qm (fun _=>rfl) (bn rfl e9 qm (fun _=>rfl) (bn rfl e9 qm (fun _=>rfl) (bn rfl nK FO (fun _=>rfl) (fH _)))))).to (fun a=>⟨a.1,a.2.1,a.2.2.1,a.2.2.2.1⟩) (fun _=>rfl) (fun _ _=>trivial)
theorem RO:gJ Tryz.prog 162 l4 l4.cs (fun _=>True):=
 (eD Tryz.underlying162 Ab (fun _=>rfl) (bn rfl e9 qm (fun _=>rfl) (bn rfl nK FO (fun _=>rfl) (fH _)))).to (fun a=>⟨a.1,a.2.1⟩) (fun _=>rfl) (fun _ _=>trivial)
theorem aaQ:gJ Tryz.prog 50 Nm Nm.cs (fun _=>True):=
 (eD Tryz.underlying50 IZ (fun _=>rfl) (bn rfl e9 qm (fun _=>rfl) (bn rfl e9 qm (fun _=>rfl) (fH _)))).to (fun a=>⟨a.1,a.2.1⟩) (fun _=>rfl) (fun _ _=>trivial)
theorem Xw:gJ Tryz.prog 164 Nt Nt.cs GC:=
 (eD Tryz.underlying164 FM (fun _=>rfl) (bn rfl e9 qm (fun _=>rfl) (bn rfl e9 qm (fun _=>rfl) (bn rfl e9 qm (fun _=>rfl) (bn rfl e9 qm (fun _=>rfl) (bn rfl e9 qm (fun _=>rfl) (bn rfl e9 qm (fun _=>rfl) (bn rfl e9 qm (fun _=>rfl) (bn rfl IW aaO (fun _=>rfl) (bn rfl IX aaH (fun _=>rfl) (bn rfl IY aaP (fun _=>rfl) (bn rfl Ab RO (fun _=>rfl) (bn rfl IZ aaQ (fun _=>rfl) (fH _)))))))))))))).to (fun a=>⟨a.1,a.2.1,a.2.2.1,a.2.2.2.1,a.2.2.2.2.1,a.2.2.2.2.2.1,a.2.2.2.2.2.2.1,a.2.2.2.2.2.2.2.1,a.2.2.2.2.2.2.2.2.1,a.2.2.2.2.2.2.2.2.2.1,a.2.2.2.2.2.2.2.2.2.2.1,a.2.2.2.2.2.2.2.2.2.2.2.1⟩) (fun _=>rfl) (fun _ h=>h.2.2.2.2.2.2.2.1)
theorem aaR:gJ Tryz.prog 27 (List Nt) (fun l=>[Ad l]) pK:=
 (kP Tryz.underlying27 FM (by decide) Xw (fun _=>rfl)).to id (fun _=>rfl) (fun _ h=>h)
theorem Xx:gJ Tryz.prog 116 (List l4) (fun l=>[Rl l]) (fun l=>l.length<9223372036854775808):=
 (kP Tryz.underlying116 Ab (by decide) RO (fun _=>rfl)).to id (fun _=>rfl) (fun _ h=>h.1)
theorem Xy:gJ Tryz.prog 118 j3 j3.cs (fun s=>s.cz.length<9223372036854775808):=
 (eD Tryz.underlying118 FN (fun _=>rfl) (bn rfl e9 qm (fun _=>rfl) (bn rfl e9 qm (fun _=>rfl) (bn rfl e9 qm (fun _=>rfl) (bn rfl N3 Xx (fun _=>rfl) (fH _)))))).to (fun a=>⟨a.1,a.2.1,a.2.2.1,a.2.2.2.1⟩) (fun _=>rfl) (fun _ h=>h.2.2.2.1)
theorem aaS:gJ Tryz.prog 22 (List j3) (fun l=>[KY l]) ql:=
 (kP Tryz.underlying22 FN (by decide) Xy (fun _=>rfl)).to id (fun _=>rfl) (fun _ h=>h)
theorem aaT:gJ Tryz.prog 24 (Int×Int) (fun d=>[n d.1,n d.2]) (fun _=>True):=
 (eD Tryz.underlying24 I0 (fun _=>rfl) (bn rfl e9 qm (fun _=>rfl) (bn rfl e9 qm (fun _=>rfl) (fH _)))).to (fun a=>⟨a.1,a.2.1⟩) (fun _=>rfl) (fun _ _=>trivial)
theorem aaU:gJ Tryz.prog 26 l8 l8.cs mq:=
 (eD Tryz.underlying26 QE (fun _=>rfl) (bn rfl QD aaS (fun _=>rfl) (bn rfl I0 aaT (fun _=>rfl) (bn rfl e9 qm (fun _=>rfl) (bn rfl e9 qm (fun _=>rfl) (bn rfl e9 qm (fun _=>rfl) (fH _))))))).to (fun a=>⟨a.1,a.2.1.1,a.2.1.2,a.2.2.1,a.2.2.2.1,a.2.2.2.2.1⟩) (fun _=>rfl) (fun _ h=>h.1)
abbrev Xz(r:Cr):Prop:=r.tk.length<9223372036854775808/\r.shown.length<9223372036854775808/\r.nq.length<9223372036854775808
theorem aaV:gJ Tryz.prog 30 Cr Ub Xz:=
 (eD Tryz.underlying30 QF (fun _=>rfl) (bn rfl e9 qm (fun _=>rfl) (bn rfl x_ QG (fun _=>rfl) (bn rfl x_ QG (fun _=>rfl) (bn rfl x_ QG (fun _=>rfl) (fH _)))))).to (fun a=>⟨a.1,a.2.1,a.2.2.1,a.2.2.2.1⟩) (fun _=>rfl) (fun _ h=>⟨h.2.1,h.2.2.1,h.2.2.2.1⟩)
abbrev abF(l:List Cr):Prop:=l.length<9223372036854775808/\∀r∈l,Xz r
theorem ac4:gJ Tryz.prog 75 (List Cr) (fun l=>[zqSx l]) abF:=
 (kP Tryz.underlying75 QF (by decide) aaV (fun _=>rfl)).to id (fun _=>rfl) (fun _ h=>h)
section
variable {H:Type} {enc:TypeId×Value->H} {w:World} {r:Reach} {base b0:Nat} {sp:Nat->Bool} {held:Bool} {v:Value} {d:DataW H} {ps:List MemPlace}
theorem N4(h:Value.okWide Tryz.prog w r base 26 v)(hx:DataW.Trod enc Tryz.prog w b0 sp held 26 v d ps):∃x:l8,mq x/\RV w (fun _=>False) sJ [] (.agg x.cs) v:=by
 obtain⟨cs,rfl,_⟩:=okWide_struct Tryz.underlying26 h
 exact aaU.agg hx
theorem N5(h:Value.okWide Tryz.prog w r base 27 v)(hx:DataW.Trod enc Tryz.prog w b0 sp held 27 v d ps):∃l:List Nt,pK l/\RV w (fun _=>False) sJ [] (Ad l) v:=by
 obtain⟨a,len,cap,rfl⟩:=okWide_slice Tryz.underlying27 h
 exact aaR.one rfl hx
theorem PE(h:Value.okWide Tryz.prog w r base 75 v)(hx:DataW.Trod enc Tryz.prog w b0 sp held 75 v d ps):∃l:List Cr,abF l/\RV w (fun _=>False) sJ [] (zqSx l) v:=by
 obtain⟨a,len,cap,rfl⟩:=okWide_slice Tryz.underlying75 h
 exact ac4.one rfl hx
end
theorem ade:(Rows.topBetweenRow.wf (OpenSpec.ofChange Rows.topBetweenSpec))=true:=by kernel_rfl
theorem adf:(Tryz.f4.params.all (Tryz.prog.readableRec ·))=true:=by kernel_rfl
theorem adg:(namedTie Tryz.prog Rows.topBetweenRow.named Rows.topBetweenSpec.vars)=true:=by kernel_rfl
theorem adh:((Rows.topBetweenRow.inPlace==Tryz.prog.inPlace 4))=true:=by kernel_rfl
theorem adi:((Rows.topBetweenRow.unfollowed==Tryz.prog.unfollowed 4))=true:=by kernel_rfl
theorem adj:((Rows.topBetweenRow.recurses==Tryz.prog.recurses 4))=true:=by kernel_rfl
theorem adk:((Rows.topBetweenRow.named==Tryz.prog.varsNamed 4))=true:=by kernel_rfl
theorem adl:((Rows.topBetweenRow.maps==(Tryz.f4.params.toList++Rows.topBetweenSpec.plain.varTypes Tryz.prog).any (Tryz.prog.mapsRec ·)))=true:=by kernel_rfl
theorem adm:((Rows.topBetweenRow.ifaces==(Tryz.f4.params.toList++Rows.topBetweenSpec.plain.varTypes Tryz.prog).any (Tryz.prog.ifacesRec ·)))=true:=by kernel_rfl
theorem adn:((Rows.topBetweenRow.mapsOut==Tryz.prog.mapsAmong Tryz.f4.resultTypes.toList))=true:=by kernel_rfl
theorem ado:((Rows.topBetweenRow.loops==(Tryz.f4.params.toList++Rows.topBetweenSpec.plain.varTypes Tryz.prog).any (Tryz.prog.loopsFrom ·)))=true:=by kernel_rfl
theorem adp:((Rows.topBetweenRow.wideKeys==(Tryz.f4.params.toList++Rows.topBetweenSpec.plain.varTypes Tryz.prog++Tryz.f4.resultTypes.toList).any (Tryz.prog.wideKeysFrom ·)))=true:=by kernel_rfl
theorem adq:(Rows.topBetweenSpec.vars.all (Tryz.prog.varReadable ·))=true:=by kernel_rfl
theorem adr:(Tryz.f4.resultTypes.all (fun t=>Tryz.prog.readableRec t&&decide (t<Tryz.prog.types.size)))=true:=by kernel_rfl
theorem ads:((Rows.topBetweenRow.ifacesOut==Tryz.f4.resultTypes.toList.any (Tryz.prog.ifacesRec ·)))=true:=by kernel_rfl
theorem adt:((Rows.topBetweenRow.loopsOut==Tryz.f4.resultTypes.toList.any (Tryz.prog.loopsFrom ·)))=true:=by kernel_rfl
theorem adu:((Rows.topBetweenRow.veiled==(Tryz.f4.params.toList++Rows.topBetweenSpec.plain.varTypes Tryz.prog++Tryz.f4.resultTypes.toList).any (Tryz.prog.veiledRec ·)))=true:=by kernel_rfl
theorem adv:(Rows.topBetweenRow.veiledFits Tryz.prog Tryz.f4.params.toList (Tryz.f4.params.toList++Rows.topBetweenSpec.plain.varTypes Tryz.prog++Tryz.f4.resultTypes.toList))=true:=by kernel_rfl
theorem acM:joinedFacts Tryz.prog 4 Tryz.f4 Rows.topBetweenSpec Rows.topBetweenRow=true:=by
 unfold joinedFacts
 exact(iU (iU (iU (iU (iU (iU (iU (iU (iU (iU (iU (iU (iU (iU (iU (iU (iU (iU (iU (iU (iU (iU (iU (iU (iU (iU (iU (iU (iU (iU (iU ade laidOut) Xq) adf) adg) (by kernel_rfl)) Ul) (by kernel_rfl)) Um) adh) adi) adj) adk) adl) adm) adn) ado) adp) adq) adr) ads) adt) Uo) (by kernel_rfl)) Up) Qz) Uq) Xs) (by kernel_rfl)) (by kernel_rfl)) adu) adv)
end Go.Proofs.YtgopgjnfhkoomaaGreat
