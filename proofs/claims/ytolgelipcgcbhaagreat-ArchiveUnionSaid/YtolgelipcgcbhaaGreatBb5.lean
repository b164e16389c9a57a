/- Part 5 of the texts that the claim rests on: abstract values over the walk, and contracts of functions. -/
import Derived.Test.YtolgelipcgcbhaaGreatBb4
import Derived.Test.YtolgelipcgcbhaaGreatRows
namespace Go.Proofs.YtolgelipcgcbhaaGreat
open Go.Abs
open Nat renaming reduceBEq→zq0,reduceAdd→zq1,reduceSub→zq2,reduceLT→zq3,reduceLeDiff→zq4,reduceMul→zq5,reduceEqDiff→zq6
set_option linter.unusedVariables false
set_option linter.unusedSimpArgs false
set_option maxHeartbeats 4000000
set_option maxRecDepth 100000
def c209:CF:=⟨8,
 (.seq (.ops [
 ⟨some 2,.mv (.c (.slice none 0 0)),none⟩] [0])
 (.seq (.seq (.ops [
 ⟨some 3,.mv (.t 0),none⟩,
 ⟨some 4,.nilq false (.t 3) (.c (.slice none 0 0)),none⟩] [0,4])
 (.cond (.t 4) (.seq (.ops [
 ⟨some 2,.mv (.c (.slice none 0 0)),none⟩] [2])
 .ret)
 .skip))
 (.seq (.ops [
 ⟨some 5,.bsl true 164 3 0 [] [],none⟩,
 ⟨some 6,.mv (.t 0),none⟩,
 ⟨some 7,.app 164 3 24 (.t 5) (.t 6),none⟩,
 ⟨some 2,.mv (.t 7),none⟩] [2])
 .ret))),
 [.t 2]⟩
theorem k209:chkF Tryz.prog Tryz.f209 c209=true:=by kernel_rfl
def c210:CF:=⟨8,
 (.seq (.ops [
 ⟨some 2,.mv (.c (.slice none 0 0)),none⟩] [0])
 (.seq (.seq (.ops [
 ⟨some 3,.mv (.t 0),none⟩,
 ⟨some 4,.nilq false (.t 3) (.c (.slice none 0 0)),none⟩] [0,4])
 (.cond (.t 4) (.seq (.ops [
 ⟨some 2,.mv (.c (.slice none 0 0)),none⟩] [2])
 .ret)
 .skip))
 (.seq (.ops [
 ⟨some 5,.bsl true 3 1 0 [] [],none⟩,
 ⟨some 6,.mv (.t 0),none⟩,
 ⟨some 7,.app 3 1 8 (.t 5) (.t 6),none⟩,
 ⟨some 2,.mv (.t 7),none⟩] [2])
 .ret))),
 [.t 2]⟩
theorem k210:chkF Tryz.prog Tryz.f210 c210=true:=by kernel_rfl
def c211:CF:=⟨8,
 (.seq (.ops [
 ⟨some 2,.mv (.c (.slice none 0 0)),none⟩] [0])
 (.seq (.seq (.ops [
 ⟨some 3,.mv (.t 0),none⟩,
 ⟨some 4,.nilq false (.t 3) (.c (.slice none 0 0)),none⟩] [0,4])
 (.cond (.t 4) (.seq (.ops [
 ⟨some 2,.mv (.c (.slice none 0 0)),none⟩] [2])
 .ret)
 .skip))
 (.seq (.ops [
 ⟨some 5,.bsl true 48 2 0 [] [],none⟩,
 ⟨some 6,.mv (.t 0),none⟩,
 ⟨some 7,.app 48 2 16 (.t 5) (.t 6),none⟩,
 ⟨some 2,.mv (.t 7),none⟩] [2])
 .ret))),
 [.t 2]⟩
theorem k211:chkF Tryz.prog Tryz.f211 c211=true:=by kernel_rfl
def c212:CF:=⟨8,
 (.seq (.ops [
 ⟨some 2,.mv (.c (.slice none 0 0)),none⟩] [0])
 (.seq (.seq (.ops [
 ⟨some 3,.mv (.t 0),none⟩,
 ⟨some 4,.nilq false (.t 3) (.c (.slice none 0 0)),none⟩] [0,4])
 (.cond (.t 4) (.seq (.ops [
 ⟨some 2,.mv (.c (.slice none 0 0)),none⟩] [2])
 .ret)
 .skip))
 (.seq (.ops [
 ⟨some 5,.bsl true 226 3 0 [] [],none⟩,
 ⟨some 6,.mv (.t 0),none⟩,
 ⟨some 7,.app 226 3 24 (.t 5) (.t 6),none⟩,
 ⟨some 2,.mv (.t 7),none⟩] [2])
 .ret))),
 [.t 2]⟩
theorem k212:chkF Tryz.prog Tryz.f212 c212=true:=by kernel_rfl
def c125:CF:=⟨8,
 (.seq (.ops [
 ⟨some 2,.mv (.c (.slice none 0 0)),none⟩] [0])
 (.seq (.seq (.ops [
 ⟨some 3,.mv (.t 0),none⟩,
 ⟨some 4,.nilq false (.t 3) (.c (.slice none 0 0)),none⟩] [0,4])
 (.cond (.t 4) (.seq (.ops [
 ⟨some 2,.mv (.c (.slice none 0 0)),none⟩] [2])
 .ret)
 .skip))
 (.seq (.ops [
 ⟨some 5,.bsl true 66 3 0 [] [],none⟩,
 ⟨some 6,.mv (.t 0),none⟩,
 ⟨some 7,.app 66 3 24 (.t 5) (.t 6),none⟩,
 ⟨some 2,.mv (.t 7),none⟩] [2])
 .ret))),
 [.t 2]⟩
theorem k125:chkF Tryz.prog Tryz.f125 c125=true:=by kernel_rfl
def c165:CF:=⟨8,
 (.seq (.ops [
 ⟨some 2,.mv (.c (.slice none 0 0)),none⟩] [0])
 (.seq (.seq (.ops [
 ⟨some 3,.mv (.t 0),none⟩,
 ⟨some 4,.nilq false (.t 3) (.c (.slice none 0 0)),none⟩] [0,4])
 (.cond (.t 4) (.seq (.ops [
 ⟨some 2,.mv (.c (.slice none 0 0)),none⟩] [2])
 .ret)
 .skip))
 (.seq (.ops [
 ⟨some 5,.bsl true 62 3 0 [] [],none⟩,
 ⟨some 6,.mv (.t 0),none⟩,
 ⟨some 7,.app 62 3 24 (.t 5) (.t 6),none⟩,
 ⟨some 2,.mv (.t 7),none⟩] [2])
 .ret))),
 [.t 2]⟩
theorem k165:chkF Tryz.prog Tryz.f165 c165=true:=by kernel_rfl
def c166:CF:=⟨8,
 (.seq (.ops [
 ⟨some 2,.mv (.c (.slice none 0 0)),none⟩] [0])
 (.seq (.seq (.ops [
 ⟨some 3,.mv (.t 0),none⟩,
 ⟨some 4,.nilq false (.t 3) (.c (.slice none 0 0)),none⟩] [0,4])
 (.cond (.t 4) (.seq (.ops [
 ⟨some 2,.mv (.c (.slice none 0 0)),none⟩] [2])
 .ret)
 .skip))
 (.seq (.ops [
 ⟨some 5,.bsl true 29 2 0 [] [],none⟩,
 ⟨some 6,.mv (.t 0),none⟩,
 ⟨some 7,.app 29 2 16 (.t 5) (.t 6),none⟩,
 ⟨some 2,.mv (.t 7),none⟩] [2])
 .ret))),
 [.t 2]⟩
theorem k166:chkF Tryz.prog Tryz.f166 c166=true:=by kernel_rfl
def c86:CF:=⟨8,
 (.seq (.ops [
 ⟨some 2,.mv (.c (.slice none 0 0)),none⟩] [0])
 (.seq (.seq (.ops [
 ⟨some 3,.mv (.t 0),none⟩,
 ⟨some 4,.nilq false (.t 3) (.c (.slice none 0 0)),none⟩] [0,4])
 (.cond (.t 4) (.seq (.ops [
 ⟨some 2,.mv (.c (.slice none 0 0)),none⟩] [2])
 .ret)
 .skip))
 (.seq (.ops [
 ⟨some 5,.bsl true 68 38 0 [] [],none⟩,
 ⟨some 6,.mv (.t 0),none⟩,
 ⟨some 7,.app 68 38 368 (.t 5) (.t 6),none⟩,
 ⟨some 2,.mv (.t 7),none⟩] [2])
 .ret))),
 [.t 2]⟩
theorem k86:chkF Tryz.prog Tryz.f86 c86=true:=by kernel_rfl
def c163:CF:=⟨8,
 (.seq (.ops [
 ⟨some 2,.mv (.c (.slice none 0 0)),none⟩] [0])
 (.seq (.seq (.ops [
 ⟨some 3,.mv (.t 0),none⟩,
 ⟨some 4,.nilq false (.t 3) (.c (.slice none 0 0)),none⟩] [0,4])
 (.cond (.t 4) (.seq (.ops [
 ⟨some 2,.mv (.c (.slice none 0 0)),none⟩] [2])
 .ret)
 .skip))
 (.seq (.ops [
 ⟨some 5,.bsl true 109 4 0 [] [],none⟩,
 ⟨some 6,.mv (.t 0),none⟩,
 ⟨some 7,.app 109 4 48 (.t 5) (.t 6),none⟩,
 ⟨some 2,.mv (.t 7),none⟩] [2])
 .ret))),
 [.t 2]⟩
theorem k163:chkF Tryz.prog Tryz.f163 c163=true:=by kernel_rfl
def c164:CF:=⟨22,
 (.seq (.ops [
 ⟨some 1,.box true 60 18 (.t 0),none⟩,
 ⟨some 2,.alloc 60 18 z18,none⟩] [1,2])
 (.seq (.draw [
 ⟨some 3,.faddr 10 (.t 1),none⟩,
 ⟨some 4,.load none (.t 3),none⟩,
 ⟨some 5,.call (.f 209) [(.t 4)],none⟩,
 ⟨some 6,.faddr 11 (.t 1),none⟩,
 ⟨some 7,.load none (.t 6),none⟩,
 ⟨some 8,.call (.f 210) [(.t 7)],none⟩,
 ⟨some 9,.faddr 10 (.t 1),none⟩] [
 ⟨none,.store 1 (.t 9) (.t 5),none⟩,
 ⟨some 10,.faddr 11 (.t 1),none⟩,
 ⟨none,.store 1 (.t 10) (.t 8),none⟩] [1,2])
 (.seq (.draw [
 ⟨some 11,.faddr 12 (.t 1),none⟩,
 ⟨some 12,.faddr 0 (.t 11),none⟩,
 ⟨some 13,.load none (.t 12),none⟩,
 ⟨some 14,.call (.f 211) [(.t 13)],none⟩,
 ⟨some 15,.faddr 12 (.t 1),none⟩,
 ⟨some 16,.faddr 1 (.t 15),none⟩,
 ⟨some 17,.load none (.t 16),none⟩,
 ⟨some 18,.call (.f 212) [(.t 17)],none⟩,
 ⟨some 19,.build [.slice none 0 0,.slice none 0 0] [(0,1,(.t 14)),(1,1,(.t 18))],none⟩,
 ⟨some 20,.faddr 12 (.t 1),none⟩] [
 ⟨none,.store 2 (.t 20) (.t 19),none⟩] [1,2])
 (.seq (.ops [
 ⟨some 21,.load (some 18) (.t 1),none⟩,
 ⟨none,.store 18 (.t 2) (.t 21),none⟩] [2])
 .ret)))),
 [.c 2 (some 18)]⟩
theorem k164:chkF Tryz.prog Tryz.f164 c164=true:=by kernel_rfl
def c98:CF:=⟨16,
 (.seq (.ops [
 ⟨some 1,.box true 72 24 (.t 0),none⟩,
 ⟨some 2,.alloc 72 24 z24,none⟩] [1,2])
 (.seq (.draw [
 ⟨some 3,.faddr 4 (.t 1),none⟩,
 ⟨some 4,.load (some 18) (.t 3),none⟩,
 ⟨some 5,.call (.f 164) [(.t 4)],none⟩,
 ⟨some 6,.faddr 22 (.t 1),none⟩,
 ⟨some 7,.load none (.t 6),none⟩,
 ⟨some 8,.call (.f 165) [(.t 7)],none⟩,
 ⟨some 9,.faddr 23 (.t 1),none⟩,
 ⟨some 10,.load none (.t 9),none⟩,
 ⟨some 11,.call (.f 166) [(.t 10)],none⟩,
 ⟨some 12,.faddr 4 (.t 1),none⟩] [
 ⟨none,.store 18 (.t 12) (.t 5),none⟩,
 ⟨some 13,.faddr 22 (.t 1),none⟩,
 ⟨none,.store 1 (.t 13) (.t 8),none⟩,
 ⟨some 14,.faddr 23 (.t 1),none⟩,
 ⟨none,.store 1 (.t 14) (.t 11),none⟩] [1,2])
 (.seq (.ops [
 ⟨some 15,.load (some 24) (.t 1),none⟩,
 ⟨none,.store 24 (.t 2) (.t 15),none⟩] [2])
 .ret))),
 [.c 2 (some 24)]⟩
theorem k98:chkF Tryz.prog Tryz.f98 c98=true:=by kernel_rfl
def c97:CF:=⟨24,
 (.seq (.ops [
 ⟨some 2,.mv (.c (.slice none 0 0)),none⟩] [0])
 (.seq (.ops [
 ⟨some 6,.mv (.t 0),none⟩,
 ⟨some 7,.call (.f 163) [(.t 6)],none⟩,
 ⟨some 3,.mv (.t 7),none⟩] [3])
 (.seq (.seq (.ops [
 ⟨some 8,.mv (.t 3),none⟩,
 ⟨some 9,.len (.t 8),none⟩,
 ⟨some 10,.mv (.c (.int .i64 0)),none⟩] [3,8,9,10])
 (.block 0 (.loop (.seq (.ops [
 ⟨some 11,.bin .lss (.t 10) (.t 9),none⟩] [3,8,9,10,11])
 (.seq (.cond (.t 11) .skip
 (.exit 0))
 (.seq (.block 1 (.seq (.ops [
 ⟨some 12,.mv (.t 10),none⟩,
 ⟨some 13,.iaddr 4 (.t 8) (.t 10),none⟩,
 ⟨some 14,.load (some 4) (.t 13),none⟩,
 ⟨some 5,.alloc 109 4 [.int .i64 0,.int .i64 0,.int .i64 0,.slice none 0 0],none⟩,
 ⟨some 4,.mv (.t 12),none⟩,
 ⟨none,.store 4 (.t 5) (.t 14),none⟩] [3,4,5,8,9,10])
 (.ops [
 ⟨some 15,.mv (.t 3),none⟩,
 ⟨some 16,.mv (.t 4),none⟩,
 ⟨some 17,.faddr 3 (.t 5),none⟩,
 ⟨some 18,.load none (.t 17),none⟩,
 ⟨some 19,.call (.f 125) [(.t 18)],none⟩,
 ⟨some 20,.iaddr 4 (.t 15) (.t 16),none⟩,
 ⟨some 21,.faddr 3 (.t 20),none⟩,
 ⟨none,.store 1 (.t 21) (.t 19),none⟩] [3,8,9,10])))
 (.ops [
 ⟨some 22,.bin .add (.t 10) (.c (.int .i64 1)),none⟩,
 ⟨some 10,.mv (.t 22),none⟩] [3,8,9,10])))))))
 (.seq (.ops [
 ⟨some 23,.mv (.t 3),none⟩,
 ⟨some 2,.mv (.t 23),none⟩] [2])
 .ret)))),
 [.t 2]⟩
theorem k97:chkF Tryz.prog Tryz.f97 c97=true:=by kernel_rfl
def c136:CF:=⟨8,
 (.seq (.ops [
 ⟨some 1,.box true 68 38 (.t 0),none⟩,
 ⟨some 2,.alloc 68 38 z38,none⟩] [1,2])
 (.seq (.ops [
 ⟨some 3,.faddr 7 (.t 1),none⟩,
 ⟨some 4,.load (some 18) (.t 3),none⟩,
 ⟨some 5,.call (.f 164) [(.t 4)],none⟩,
 ⟨some 6,.faddr 7 (.t 1),none⟩,
 ⟨none,.store 18 (.t 6) (.t 5),none⟩] [1,2])
 (.seq (.ops [
 ⟨some 7,.load (some 38) (.t 1),none⟩,
 ⟨none,.store 38 (.t 2) (.t 7),none⟩] [2])
 .ret))),
 [.c 2 (some 38)]⟩
theorem k136:chkF Tryz.prog Tryz.f136 c136=true:=by kernel_rfl
theorem rowsL {α:Type} {cs:α→List AV} {k:Nat} (hk:∀ a,(cs a).length=k) (l:List α):∀ e,e < l.length→((l.map cs).getD e []).length=k:=fun e he=>by
  obtain ⟨x,hx⟩:∃ x,l[e]?=some x:=⟨_,List.getElem?_eq_getElem he⟩
  rw [getD_map hx]; exact hk x
theorem byNil {f k:Nat} {r:AV} (nil:Pure Tryz.prog f [.v (.slice none 0 0)] r) (emp:∀ a cap,Pure Tryz.prog f [.v (.slice (some a) 0 cap)] r):Pure Tryz.prog f [.sl k []] r:=by
  refine ⟨nil.ent,fun X w xs hX hxl hr=>?_⟩
  match xs,hxl with
  | [x],_ =>
    have hx:=hr 0 (by simp)
    simp only [List.getD_cons_zero] at hx
    cases hx with
    | slnil=>exact nil.go X w _ hX rfl (fun i hi=>by obtain rfl:i=0:=(by simpa using hi); exact .v _)
    | slemp _ a cap=>exact (emp a cap).go X w _ hX rfl (fun i hi=>by obtain rfl:i=0:=(by simpa using hi); exact .v _)
    | sl _ _ b o cap x hcap hk hc hX' h1 hr'=>exact (emp _ cap).go X w _ hX rfl (fun i hi=>by obtain rfl:i=0:=(by simpa using hi); exact .v _)
theorem clonePt (l:List Pt) (hl:l.length * 24≤140737488355328):Pure Tryz.prog 209 [ptS l] (ptS l):=by
  have nil:Pure Tryz.prog 209 [.v (.slice none 0 0)] (ptS []):=by
    refine Pure.of_body Tryz.call209 Tryz.func209 k209 (Nat.le_of_ble_eq_true rfl) ?_
    unfold c209
    (repeat' ((first
 | refine vn rfl ?_
 | simp (disch:=omega) only [wr64,Int.zero_sub]
 | refine bo (fun _=>?_) fun _=>?_
 | refine im fun _=>?_
 | refine cF ?_
 | refine om ?_
 | refine an ?_
 | fail) <;> try simp only [zN,zT,zV,zS,zU,vcC,lateX,ex,strp,binA,elems,cells,scalar,eqC,keyA,intsA,lookA,ofVs,mpOf,zq0,zq1,zq2,zq3,zq4,zq5,zq6,reduceIte]))
    all_goals exact Frz.nil0
  have emp:∀ a cap,Pure Tryz.prog 209 [.v (.slice (some a) 0 cap)] (ptS []):=by
    intro a cap
    refine Pure.of_body Tryz.call209 Tryz.func209 k209 (Nat.le_of_ble_eq_true rfl) ?_
    unfold c209
    (repeat' ((first
 | refine vn rfl ?_
 | simp (disch:=omega) only [wr64,Int.zero_sub]
 | refine bo (fun _=>?_) fun _=>?_
 | refine im fun _=>?_
 | refine cF ?_
 | refine om ?_
 | refine an ?_
 | fail) <;> try simp only [zN,zT,zV,zS,zU,vcC,lateX,ex,strp,binA,elems,cells,scalar,eqC,keyA,intsA,lookA,ofVs,mpOf,zq0,zq1,zq2,zq3,zq4,zq5,zq6,reduceIte]))
    all_goals exact Frz.ownL (l:=[]) (cs:=Pt.cs) rfl rfl (by decide) (fun a c hc=>by simp at hc; rcases hc with rfl | rfl | rfl <;> simp) (fun a=>rfl)
  by_cases h0:l=[]
  · subst h0
    exact byNil nil emp
  · refine Pure.of_body Tryz.call209 Tryz.func209 k209 (Nat.le_of_ble_eq_true rfl) ?_
    unfold c209
    have hne:l.map Pt.cs≠[]:=by simpa using h0
    (repeat' ((first
 | refine vn rfl ?_
 | simp (disch:=omega) only [wr64,Int.zero_sub]
 | refine bo (fun _=>?_) fun _=>?_
 | refine im fun _=>?_
 | refine cF ?_
 | refine om ?_
 | refine an ?_
 | fail) <;> try simp only [zN,zT,zV,zS,zU,vcC,lateX,ex,strp,binA,elems,cells,scalar,eqC,keyA,intsA,lookA,ofVs,mpOf,zq0,zq1,zq2,zq3,zq4,zq5,zq6,reduceIte]))
    first
      | exact Frz.ownL (cs:=Pt.cs) rfl rfl (by decide) (fun a c hc=>by simp at hc; rcases hc with rfl | rfl | rfl <;> simp) (fun a=>rfl)
      | (refine ⟨⟨rowsL (cs:=Pt.cs) (fun a=>rfl) l,by omega⟩,?_⟩
         (repeat' ((first
 | refine vn rfl ?_
 | simp (disch:=omega) only [wr64,Int.zero_sub]
 | refine bo (fun _=>?_) fun _=>?_
 | refine im fun _=>?_
 | refine cF ?_
 | refine om ?_
 | refine an ?_
 | fail) <;> try simp only [zN, zT, zV, zS, zU, vcC, lateX, ex, strp, binA, elems, cells, scalar, eqC, keyA, intsA, lookA, ofVs, mpOf, zq0, zq1, zq2, zq3, zq4, zq5, zq6, reduceIte]))
         exact Frz.ownL (cs:=Pt.cs) rfl rfl (by decide) (fun a c hc=>by simp at hc; rcases hc with rfl | rfl | rfl <;> simp) (fun a=>rfl))
theorem cloneInt (l:List Int) (hl:l.length * 8≤140737488355328):Pure Tryz.prog 210 [inS l] (inS l):=by
  have nil:Pure Tryz.prog 210 [.v (.slice none 0 0)] (inS []):=by
    refine Pure.of_body Tryz.call210 Tryz.func210 k210 (Nat.le_of_ble_eq_true rfl) ?_
    unfold c210
    (repeat' ((first
 | refine vn rfl ?_
 | simp (disch:=omega) only [wr64,Int.zero_sub]
 | refine bo (fun _=>?_) fun _=>?_
 | refine im fun _=>?_
 | refine cF ?_
 | refine om ?_
 | refine an ?_
 | fail) <;> try simp only [zN,zT,zV,zS,zU,vcC,lateX,ex,strp,binA,elems,cells,scalar,eqC,keyA,intsA,lookA,ofVs,mpOf,zq0,zq1,zq2,zq3,zq4,zq5,zq6,reduceIte]))
    all_goals exact Frz.nil0
  have emp:∀ a cap,Pure Tryz.prog 210 [.v (.slice (some a) 0 cap)] (inS []):=by
    intro a cap
    refine Pure.of_body Tryz.call210 Tryz.func210 k210 (Nat.le_of_ble_eq_true rfl) ?_
    unfold c210
    (repeat' ((first
 | refine vn rfl ?_
 | simp (disch:=omega) only [wr64,Int.zero_sub]
 | refine bo (fun _=>?_) fun _=>?_
 | refine im fun _=>?_
 | refine cF ?_
 | refine om ?_
 | refine an ?_
 | fail) <;> try simp only [zN,zT,zV,zS,zU,vcC,lateX,ex,strp,binA,elems,cells,scalar,eqC,keyA,intsA,lookA,ofVs,mpOf,zq0,zq1,zq2,zq3,zq4,zq5,zq6,reduceIte]))
    all_goals exact Frz.ownL (l:=[]) (cs:=(fun z:Int=>[n z])) rfl rfl (by decide) (fun a c hc=>by simp at hc; subst hc; simp) (fun a=>rfl)
  by_cases h0:l=[]
  · subst h0
    exact byNil nil emp
  · refine Pure.of_body Tryz.call210 Tryz.func210 k210 (Nat.le_of_ble_eq_true rfl) ?_
    unfold c210
    have hne:l.map (fun z:Int=>[n z])≠[]:=by simpa using h0
    (repeat' ((first
 | refine vn rfl ?_
 | simp (disch:=omega) only [wr64,Int.zero_sub]
 | refine bo (fun _=>?_) fun _=>?_
 | refine im fun _=>?_
 | refine cF ?_
 | refine om ?_
 | refine an ?_
 | fail) <;> try simp only [zN,zT,zV,zS,zU,vcC,lateX,ex,strp,binA,elems,cells,scalar,eqC,keyA,intsA,lookA,ofVs,mpOf,zq0,zq1,zq2,zq3,zq4,zq5,zq6,reduceIte]))
    first
      | exact Frz.ownL (cs:=(fun z:Int=>[n z])) rfl rfl (by decide) (fun a c hc=>by simp at hc; subst hc; simp) (fun a=>rfl)
      | (refine ⟨⟨rowsL (cs:=(fun z:Int=>[n z])) (fun a=>rfl) l,by omega⟩,?_⟩
         (repeat' ((first
 | refine vn rfl ?_
 | simp (disch:=omega) only [wr64,Int.zero_sub]
 | refine bo (fun _=>?_) fun _=>?_
 | refine im fun _=>?_
 | refine cF ?_
 | refine om ?_
 | refine an ?_
 | fail) <;> try simp only [zN, zT, zV, zS, zU, vcC, lateX, ex, strp, binA, elems, cells, scalar, eqC, keyA, intsA, lookA, ofVs, mpOf, zq0, zq1, zq2, zq3, zq4, zq5, zq6, reduceIte]))
         exact Frz.ownL (cs:=(fun z:Int=>[n z])) rfl rfl (by decide) (fun a c hc=>by simp at hc; subst hc; simp) (fun a=>rfl))
theorem cloneSp (l:List Sp) (hl:l.length * 16≤140737488355328):Pure Tryz.prog 211 [spnS l] (spnS l):=by
  have nil:Pure Tryz.prog 211 [.v (.slice none 0 0)] (spnS []):=by
    refine Pure.of_body Tryz.call211 Tryz.func211 k211 (Nat.le_of_ble_eq_true rfl) ?_
    unfold c211
    (repeat' ((first
 | refine vn rfl ?_
 | simp (disch:=omega) only [wr64,Int.zero_sub]
 | refine bo (fun _=>?_) fun _=>?_
 | refine im fun _=>?_
 | refine cF ?_
 | refine om ?_
 | refine an ?_
 | fail) <;> try simp only [zN,zT,zV,zS,zU,vcC,lateX,ex,strp,binA,elems,cells,scalar,eqC,keyA,intsA,lookA,ofVs,mpOf,zq0,zq1,zq2,zq3,zq4,zq5,zq6,reduceIte]))
    all_goals exact Frz.nil0
  have emp:∀ a cap,Pure Tryz.prog 211 [.v (.slice (some a) 0 cap)] (spnS []):=by
    intro a cap
    refine Pure.of_body Tryz.call211 Tryz.func211 k211 (Nat.le_of_ble_eq_true rfl) ?_
    unfold c211
    (repeat' ((first
 | refine vn rfl ?_
 | simp (disch:=omega) only [wr64,Int.zero_sub]
 | refine bo (fun _=>?_) fun _=>?_
 | refine im fun _=>?_
 | refine cF ?_
 | refine om ?_
 | refine an ?_
 | fail) <;> try simp only [zN,zT,zV,zS,zU,vcC,lateX,ex,strp,binA,elems,cells,scalar,eqC,keyA,intsA,lookA,ofVs,mpOf,zq0,zq1,zq2,zq3,zq4,zq5,zq6,reduceIte]))
    all_goals exact Frz.ownL (l:=[]) (cs:=Sp.cs) rfl rfl (by decide) (fun a c hc=>by simp at hc; rcases hc with rfl | rfl <;> simp) (fun a=>rfl)
  by_cases h0:l=[]
  · subst h0
    exact byNil nil emp
  · refine Pure.of_body Tryz.call211 Tryz.func211 k211 (Nat.le_of_ble_eq_true rfl) ?_
    unfold c211
    have hne:l.map Sp.cs≠[]:=by simpa using h0
    (repeat' ((first
 | refine vn rfl ?_
 | simp (disch:=omega) only [wr64,Int.zero_sub]
 | refine bo (fun _=>?_) fun _=>?_
 | refine im fun _=>?_
 | refine cF ?_
 | refine om ?_
 | refine an ?_
 | fail) <;> try simp only [zN,zT,zV,zS,zU,vcC,lateX,ex,strp,binA,elems,cells,scalar,eqC,keyA,intsA,lookA,ofVs,mpOf,zq0,zq1,zq2,zq3,zq4,zq5,zq6,reduceIte]))
    first
      | exact Frz.ownL (cs:=Sp.cs) rfl rfl (by decide) (fun a c hc=>by simp at hc; rcases hc with rfl | rfl <;> simp) (fun a=>rfl)
      | (refine ⟨⟨rowsL (cs:=Sp.cs) (fun a=>rfl) l,by omega⟩,?_⟩
         (repeat' ((first
 | refine vn rfl ?_
 | simp (disch:=omega) only [wr64,Int.zero_sub]
 | refine bo (fun _=>?_) fun _=>?_
 | refine im fun _=>?_
 | refine cF ?_
 | refine om ?_
 | refine an ?_
 | fail) <;> try simp only [zN, zT, zV, zS, zU, vcC, lateX, ex, strp, binA, elems, cells, scalar, eqC, keyA, intsA, lookA, ofVs, mpOf, zq0, zq1, zq2, zq3, zq4, zq5, zq6, reduceIte]))
         exact Frz.ownL (cs:=Sp.cs) rfl rfl (by decide) (fun a c hc=>by simp at hc; rcases hc with rfl | rfl <;> simp) (fun a=>rfl))
theorem cloneSt (l:List Mk) (hl:l.length * 24≤140737488355328):Pure Tryz.prog 212 [mkS l] (mkS l):=by
  have nil:Pure Tryz.prog 212 [.v (.slice none 0 0)] (mkS []):=by
    refine Pure.of_body Tryz.call212 Tryz.func212 k212 (Nat.le_of_ble_eq_true rfl) ?_
    unfold c212
    (repeat' ((first
 | refine vn rfl ?_
 | simp (disch:=omega) only [wr64,Int.zero_sub]
 | refine bo (fun _=>?_) fun _=>?_
 | refine im fun _=>?_
 | refine cF ?_
 | refine om ?_
 | refine an ?_
 | fail) <;> try simp only [zN,zT,zV,zS,zU,vcC,lateX,ex,strp,binA,elems,cells,scalar,eqC,keyA,intsA,lookA,ofVs,mpOf,zq0,zq1,zq2,zq3,zq4,zq5,zq6,reduceIte]))
    all_goals exact Frz.nil0
  have emp:∀ a cap,Pure Tryz.prog 212 [.v (.slice (some a) 0 cap)] (mkS []):=by
    intro a cap
    refine Pure.of_body Tryz.call212 Tryz.func212 k212 (Nat.le_of_ble_eq_true rfl) ?_
    unfold c212
    (repeat' ((first
 | refine vn rfl ?_
 | simp (disch:=omega) only [wr64,Int.zero_sub]
 | refine bo (fun _=>?_) fun _=>?_
 | refine im fun _=>?_
 | refine cF ?_
 | refine om ?_
 | refine an ?_
 | fail) <;> try simp only [zN,zT,zV,zS,zU,vcC,lateX,ex,strp,binA,elems,cells,scalar,eqC,keyA,intsA,lookA,ofVs,mpOf,zq0,zq1,zq2,zq3,zq4,zq5,zq6,reduceIte]))
    all_goals exact Frz.ownL (l:=[]) (cs:=Mk.cs) rfl rfl (by decide) (fun a c hc=>by simp at hc; rcases hc with rfl | rfl | rfl <;> simp) (fun a=>rfl)
  by_cases h0:l=[]
  · subst h0
    exact byNil nil emp
  · refine Pure.of_body Tryz.call212 Tryz.func212 k212 (Nat.le_of_ble_eq_true rfl) ?_
    unfold c212
    have hne:l.map Mk.cs≠[]:=by simpa using h0
    (repeat' ((first
 | refine vn rfl ?_
 | simp (disch:=omega) only [wr64,Int.zero_sub]
 | refine bo (fun _=>?_) fun _=>?_
 | refine im fun _=>?_
 | refine cF ?_
 | refine om ?_
 | refine an ?_
 | fail) <;> try simp only [zN,zT,zV,zS,zU,vcC,lateX,ex,strp,binA,elems,cells,scalar,eqC,keyA,intsA,lookA,ofVs,mpOf,zq0,zq1,zq2,zq3,zq4,zq5,zq6,reduceIte]))
    first
      | exact Frz.ownL (cs:=Mk.cs) rfl rfl (by decide) (fun a c hc=>by simp at hc; rcases hc with rfl | rfl | rfl <;> simp) (fun a=>rfl)
      | (refine ⟨⟨rowsL (cs:=Mk.cs) (fun a=>rfl) l,by omega⟩,?_⟩
         (repeat' ((first
 | refine vn rfl ?_
 | simp (disch:=omega) only [wr64,Int.zero_sub]
 | refine bo (fun _=>?_) fun _=>?_
 | refine im fun _=>?_
 | refine cF ?_
 | refine om ?_
 | refine an ?_
 | fail) <;> try simp only [zN, zT, zV, zS, zU, vcC, lateX, ex, strp, binA, elems, cells, scalar, eqC, keyA, intsA, lookA, ofVs, mpOf, zq0, zq1, zq2, zq3, zq4, zq5, zq6, reduceIte]))
         exact Frz.ownL (cs:=Mk.cs) rfl rfl (by decide) (fun a c hc=>by simp at hc; rcases hc with rfl | rfl | rfl <;> simp) (fun a=>rfl))
theorem cloneHg (l:List Hgt) (hl:l.length * 24≤140737488355328):Pure Tryz.prog 125 [hgS l] (hgS l):=by
  have nil:Pure Tryz.prog 125 [.v (.slice none 0 0)] (hgS []):=by
    refine Pure.of_body Tryz.call125 Tryz.func125 k125 (Nat.le_of_ble_eq_true rfl) ?_
    unfold c125
    (repeat' ((first
 | refine vn rfl ?_
 | simp (disch:=omega) only [wr64,Int.zero_sub]
 | refine bo (fun _=>?_) fun _=>?_
 | refine im fun _=>?_
 | refine cF ?_
 | refine om ?_
 | refine an ?_
 | fail) <;> try simp only [zN,zT,zV,zS,zU,vcC,lateX,ex,strp,binA,elems,cells,scalar,eqC,keyA,intsA,lookA,ofVs,mpOf,zq0,zq1,zq2,zq3,zq4,zq5,zq6,reduceIte]))
    all_goals exact Frz.nil0
  have emp:∀ a cap,Pure Tryz.prog 125 [.v (.slice (some a) 0 cap)] (hgS []):=by
    intro a cap
    refine Pure.of_body Tryz.call125 Tryz.func125 k125 (Nat.le_of_ble_eq_true rfl) ?_
    unfold c125
    (repeat' ((first
 | refine vn rfl ?_
 | simp (disch:=omega) only [wr64,Int.zero_sub]
 | refine bo (fun _=>?_) fun _=>?_
 | refine im fun _=>?_
 | refine cF ?_
 | refine om ?_
 | refine an ?_
 | fail) <;> try simp only [zN,zT,zV,zS,zU,vcC,lateX,ex,strp,binA,elems,cells,scalar,eqC,keyA,intsA,lookA,ofVs,mpOf,zq0,zq1,zq2,zq3,zq4,zq5,zq6,reduceIte]))
    all_goals exact Frz.ownL (l:=[]) (cs:=Hgt.cs) rfl rfl (by decide) (fun a c hc=>by simp at hc; rcases hc with rfl | rfl | rfl <;> simp) (fun a=>rfl)
  by_cases h0:l=[]
  · subst h0
    exact byNil nil emp
  · refine Pure.of_body Tryz.call125 Tryz.func125 k125 (Nat.le_of_ble_eq_true rfl) ?_
    unfold c125
    have hne:l.map Hgt.cs≠[]:=by simpa using h0
    (repeat' ((first
 | refine vn rfl ?_
 | simp (disch:=omega) only [wr64,Int.zero_sub]
 | refine bo (fun _=>?_) fun _=>?_
 | refine im fun _=>?_
 | refine cF ?_
 | refine om ?_
 | refine an ?_
 | fail) <;> try simp only [zN,zT,zV,zS,zU,vcC,lateX,ex,strp,binA,elems,cells,scalar,eqC,keyA,intsA,lookA,ofVs,mpOf,zq0,zq1,zq2,zq3,zq4,zq5,zq6,reduceIte]))
    first
      | exact Frz.ownL (cs:=Hgt.cs) rfl rfl (by decide) (fun a c hc=>by simp at hc; rcases hc with rfl | rfl | rfl <;> simp) (fun a=>rfl)
      | (refine ⟨⟨rowsL (cs:=Hgt.cs) (fun a=>rfl) l,by omega⟩,?_⟩
         (repeat' ((first
 | refine vn rfl ?_
 | simp (disch:=omega) only [wr64,Int.zero_sub]
 | refine bo (fun _=>?_) fun _=>?_
 | refine im fun _=>?_
 | refine cF ?_
 | refine om ?_
 | refine an ?_
 | fail) <;> try simp only [zN, zT, zV, zS, zU, vcC, lateX, ex, strp, binA, elems, cells, scalar, eqC, keyA, intsA, lookA, ofVs, mpOf, zq0, zq1, zq2, zq3, zq4, zq5, zq6, reduceIte]))
         exact Frz.ownL (cs:=Hgt.cs) rfl rfl (by decide) (fun a c hc=>by simp at hc; rcases hc with rfl | rfl | rfl <;> simp) (fun a=>rfl))
theorem cloneMk (l:List Mk) (hl:l.length * 24≤140737488355328):Pure Tryz.prog 165 [mkS l] (mkS l):=by
  have nil:Pure Tryz.prog 165 [.v (.slice none 0 0)] (mkS []):=by
    refine Pure.of_body Tryz.call165 Tryz.func165 k165 (Nat.le_of_ble_eq_true rfl) ?_
    unfold c165
    (repeat' ((first
 | refine vn rfl ?_
 | simp (disch:=omega) only [wr64,Int.zero_sub]
 | refine bo (fun _=>?_) fun _=>?_
 | refine im fun _=>?_
 | refine cF ?_
 | refine om ?_
 | refine an ?_
 | fail) <;> try simp only [zN,zT,zV,zS,zU,vcC,lateX,ex,strp,binA,elems,cells,scalar,eqC,keyA,intsA,lookA,ofVs,mpOf,zq0,zq1,zq2,zq3,zq4,zq5,zq6,reduceIte]))
    all_goals exact Frz.nil0
  have emp:∀ a cap,Pure Tryz.prog 165 [.v (.slice (some a) 0 cap)] (mkS []):=by
    intro a cap
    refine Pure.of_body Tryz.call165 Tryz.func165 k165 (Nat.le_of_ble_eq_true rfl) ?_
    unfold c165
    (repeat' ((first
 | refine vn rfl ?_
 | simp (disch:=omega) only [wr64,Int.zero_sub]
 | refine bo (fun _=>?_) fun _=>?_
 | refine im fun _=>?_
 | refine cF ?_
 | refine om ?_
 | refine an ?_
 | fail) <;> try simp only [zN,zT,zV,zS,zU,vcC,lateX,ex,strp,binA,elems,cells,scalar,eqC,keyA,intsA,lookA,ofVs,mpOf,zq0,zq1,zq2,zq3,zq4,zq5,zq6,reduceIte]))
    all_goals exact Frz.ownL (l:=[]) (cs:=Mk.cs) rfl rfl (by decide) (fun a c hc=>by simp at hc; rcases hc with rfl | rfl | rfl <;> simp) (fun a=>rfl)
  by_cases h0:l=[]
  · subst h0
    exact byNil nil emp
  · refine Pure.of_body Tryz.call165 Tryz.func165 k165 (Nat.le_of_ble_eq_true rfl) ?_
    unfold c165
    have hne:l.map Mk.cs≠[]:=by simpa using h0
    (repeat' ((first
 | refine vn rfl ?_
 | simp (disch:=omega) only [wr64,Int.zero_sub]
 | refine bo (fun _=>?_) fun _=>?_
 | refine im fun _=>?_
 | refine cF ?_
 | refine om ?_
 | refine an ?_
 | fail) <;> try simp only [zN,zT,zV,zS,zU,vcC,lateX,ex,strp,binA,elems,cells,scalar,eqC,keyA,intsA,lookA,ofVs,mpOf,zq0,zq1,zq2,zq3,zq4,zq5,zq6,reduceIte]))
    first
      | exact Frz.ownL (cs:=Mk.cs) rfl rfl (by decide) (fun a c hc=>by simp at hc; rcases hc with rfl | rfl | rfl <;> simp) (fun a=>rfl)
      | (refine ⟨⟨rowsL (cs:=Mk.cs) (fun a=>rfl) l,by omega⟩,?_⟩
         (repeat' ((first
 | refine vn rfl ?_
 | simp (disch:=omega) only [wr64,Int.zero_sub]
 | refine bo (fun _=>?_) fun _=>?_
 | refine im fun _=>?_
 | refine cF ?_
 | refine om ?_
 | refine an ?_
 | fail) <;> try simp only [zN, zT, zV, zS, zU, vcC, lateX, ex, strp, binA, elems, cells, scalar, eqC, keyA, intsA, lookA, ofVs, mpOf, zq0, zq1, zq2, zq3, zq4, zq5, zq6, reduceIte]))
         exact Frz.ownL (cs:=Mk.cs) rfl rfl (by decide) (fun a c hc=>by simp at hc; rcases hc with rfl | rfl | rfl <;> simp) (fun a=>rfl))
theorem cloneNm (l:List Nm) (hl:l.length * 16≤140737488355328):Pure Tryz.prog 166 [nmS l] (nmS l):=by
  have nil:Pure Tryz.prog 166 [.v (.slice none 0 0)] (nmS []):=by
    refine Pure.of_body Tryz.call166 Tryz.func166 k166 (Nat.le_of_ble_eq_true rfl) ?_
    unfold c166
    (repeat' ((first
 | refine vn rfl ?_
 | simp (disch:=omega) only [wr64,Int.zero_sub]
 | refine bo (fun _=>?_) fun _=>?_
 | refine im fun _=>?_
 | refine cF ?_
 | refine om ?_
 | refine an ?_
 | fail) <;> try simp only [zN,zT,zV,zS,zU,vcC,lateX,ex,strp,binA,elems,cells,scalar,eqC,keyA,intsA,lookA,ofVs,mpOf,zq0,zq1,zq2,zq3,zq4,zq5,zq6,reduceIte]))
    all_goals exact Frz.nil0
  have emp:∀ a cap,Pure Tryz.prog 166 [.v (.slice (some a) 0 cap)] (nmS []):=by
    intro a cap
    refine Pure.of_body Tryz.call166 Tryz.func166 k166 (Nat.le_of_ble_eq_true rfl) ?_
    unfold c166
    (repeat' ((first
 | refine vn rfl ?_
 | simp (disch:=omega) only [wr64,Int.zero_sub]
 | refine bo (fun _=>?_) fun _=>?_
 | refine im fun _=>?_
 | refine cF ?_
 | refine om ?_
 | refine an ?_
 | fail) <;> try simp only [zN,zT,zV,zS,zU,vcC,lateX,ex,strp,binA,elems,cells,scalar,eqC,keyA,intsA,lookA,ofVs,mpOf,zq0,zq1,zq2,zq3,zq4,zq5,zq6,reduceIte]))
    all_goals exact Frz.ownL (l:=[]) (cs:=Nm.cs) rfl rfl (by decide) (fun a c hc=>by simp at hc; rcases hc with rfl | rfl <;> simp) (fun a=>rfl)
  by_cases h0:l=[]
  · subst h0
    exact byNil nil emp
  · refine Pure.of_body Tryz.call166 Tryz.func166 k166 (Nat.le_of_ble_eq_true rfl) ?_
    unfold c166
    have hne:l.map Nm.cs≠[]:=by simpa using h0
    (repeat' ((first
 | refine vn rfl ?_
 | simp (disch:=omega) only [wr64,Int.zero_sub]
 | refine bo (fun _=>?_) fun _=>?_
 | refine im fun _=>?_
 | refine cF ?_
 | refine om ?_
 | refine an ?_
 | fail) <;> try simp only [zN,zT,zV,zS,zU,vcC,lateX,ex,strp,binA,elems,cells,scalar,eqC,keyA,intsA,lookA,ofVs,mpOf,zq0,zq1,zq2,zq3,zq4,zq5,zq6,reduceIte]))
    first
      | exact Frz.ownL (cs:=Nm.cs) rfl rfl (by decide) (fun a c hc=>by simp at hc; rcases hc with rfl | rfl <;> simp) (fun a=>rfl)
      | (refine ⟨⟨rowsL (cs:=Nm.cs) (fun a=>rfl) l,by omega⟩,?_⟩
         (repeat' ((first
 | refine vn rfl ?_
 | simp (disch:=omega) only [wr64,Int.zero_sub]
 | refine bo (fun _=>?_) fun _=>?_
 | refine im fun _=>?_
 | refine cF ?_
 | refine om ?_
 | refine an ?_
 | fail) <;> try simp only [zN, zT, zV, zS, zU, vcC, lateX, ex, strp, binA, elems, cells, scalar, eqC, keyA, intsA, lookA, ofVs, mpOf, zq0, zq1, zq2, zq3, zq4, zq5, zq6, reduceIte]))
         exact Frz.ownL (cs:=Nm.cs) rfl rfl (by decide) (fun a c hc=>by simp at hc; rcases hc with rfl | rfl <;> simp) (fun a=>rfl))
def shtC (s:Sht):Prop:=s.trace.length * 24≤140737488355328∧s.blots.length * 8≤140737488355328∧s.rates.length * 16≤140737488355328∧s.stops.length * 24≤140737488355328
theorem copiedSheet_spec (s:Sht) (hs:shtC s):Pure Tryz.prog 164 [.agg s.cs] (.agg s.cs):=by
  refine Pure.of_body Tryz.call164 Tryz.func164 k164 (Nat.le_of_ble_eq_true rfl) ?_
  unfold c164
  obtain ⟨h1,h2,h3,h4⟩:=hs
  have hd:List.drop 1 (List.drop 11 s.cs)=[spnS s.rates,mkS s.stops,n s.pen.band,n s.pen.zero.lo,n s.pen.zero.hi,n s.pen.rate]:=rfl
  (repeat' ((first
 | refine vn rfl ?_
 | simp (disch:=omega) only [wr64,Int.zero_sub]
 | refine bo (fun _=>?_) fun _=>?_
 | refine im fun _=>?_
 | ((repeat refine si ?_); (first | ((first | refine .inl ⟨_,_,_,_,rfl,fun _=>pu (by first | exact clonePt s.trace h1 | exact cloneInt s.blots h2 | exact cloneSp s.rates h3 | exact cloneSt s.stops h4),?_⟩ | refine ⟨_,_,_,_,rfl,fun _=>pu (by first | exact clonePt s.trace h1 | exact cloneInt s.blots h2 | exact cloneSp s.rates h3 | exact cloneSt s.stops h4),?_⟩); (first | refine o1 ?_ | refine o2 ?_ | refine o3 ?_ | refine o4 ?_)) | refine .inl ⟨_,_,_,_,rfl,pu (by first | exact clonePt s.trace h1 | exact cloneInt s.blots h2 | exact cloneSp s.rates h3 | exact cloneSt s.stops h4),?_⟩))
 | refine cF ?_
 | refine om ?_
 | refine an ?_
 | fail) <;> try simp only [zN,zT,zV,zS,zU,vcC,lateX,ex,strp,binA,elems,cells,scalar,eqC,keyA,intsA,lookA,ofVs,mpOf,zq0,zq1,zq2,zq3,zq4,zq5,zq6,reduceIte,hd]))
  exact Frz.eq rfl (show PureV (.agg s.cs) from Sht.pa s)
theorem copied_spec (a:Nt) (hs:shtC a.sheet):Pure Tryz.prog 136 [.agg a.cs] (.agg a.cs):=by
  refine Pure.of_body Tryz.call136 Tryz.func136 k136 (Nat.le_of_ble_eq_true rfl) ?_
  unfold c136
  (repeat' ((first
 | refine vn rfl ?_
 | simp (disch:=omega) only [wr64,Int.zero_sub]
 | refine bo (fun _=>?_) fun _=>?_
 | refine im fun _=>?_
 | ((repeat refine si ?_); (first | ((first | refine .inl ⟨_,_,_,_,rfl,fun _=>pu (copiedSheet_spec a.sheet hs),?_⟩ | refine ⟨_,_,_,_,rfl,fun _=>pu (copiedSheet_spec a.sheet hs),?_⟩); (first | refine o1 ?_ | refine o2 ?_ | refine o3 ?_ | refine o4 ?_)) | refine .inl ⟨_,_,_,_,rfl,pu (copiedSheet_spec a.sheet hs),?_⟩))
 | refine cF ?_
 | refine om ?_
 | refine an ?_
 | fail) <;> try simp only [zN,zT,zV,zS,zU,vcC,lateX,ex,strp,binA,elems,cells,scalar,eqC,keyA,intsA,lookA,ofVs,mpOf,zq0,zq1,zq2,zq3,zq4,zq5,zq6,reduceIte]))
  exact (Frz.pure (Nt.pa a):Frz _ (.agg a.cs) (.agg a.cs))
def fldC (f:Fld):Prop:=shtC f.sheet∧f.marks.length * 24≤140737488355328∧f.names.length * 16≤140737488355328
theorem copiedFiled_spec (f:Fld) (hf:fldC f):Pure Tryz.prog 98 [.agg f.cs] (.agg f.cs):=by
  refine Pure.of_body Tryz.call98 Tryz.func98 k98 (Nat.le_of_ble_eq_true rfl) ?_
  unfold c98
  obtain ⟨h1,h2,h3⟩:=hf
  (repeat' ((first
 | refine vn rfl ?_
 | simp (disch:=omega) only [wr64,Int.zero_sub]
 | refine bo (fun _=>?_) fun _=>?_
 | refine im fun _=>?_
 | ((repeat refine si ?_); (first | ((first | refine .inl ⟨_,_,_,_,rfl,fun _=>pu (by first | exact copiedSheet_spec f.sheet h1 | exact cloneMk f.marks h2 | exact cloneNm f.names h3),?_⟩ | refine ⟨_,_,_,_,rfl,fun _=>pu (by first | exact copiedSheet_spec f.sheet h1 | exact cloneMk f.marks h2 | exact cloneNm f.names h3),?_⟩); (first | refine o1 ?_ | refine o2 ?_ | refine o3 ?_ | refine o4 ?_)) | refine .inl ⟨_,_,_,_,rfl,pu (by first | exact copiedSheet_spec f.sheet h1 | exact cloneMk f.marks h2 | exact cloneNm f.names h3),?_⟩))
 | refine cF ?_
 | refine om ?_
 | refine an ?_
 | fail) <;> try simp only [zN,zT,zV,zS,zU,vcC,lateX,ex,strp,binA,elems,cells,scalar,eqC,keyA,intsA,lookA,ofVs,mpOf,zq0,zq1,zq2,zq3,zq4,zq5,zq6,reduceIte]))
  exact (Frz.pure (Fld.pa f):Frz _ (.agg f.cs) (.agg f.cs))
inductive OwnAt (σ:Sto) (T k:Nat) (rows:List (List AV)):AV→Sto→Prop
  | mk (ν:Sto) {r:AV} {σ':Sto} (h:r=.own σ.length 0 rows.length) (h':σ'=σ++some [⟨T,k,rows,none⟩]::ν):OwnAt σ T k rows r σ'
theorem byNilD {f k:Nat} {σ:Sto} {R:AV→Sto→Prop} (nil:Does Tryz.prog f [.v (.slice none 0 0)] σ R) (emp:∀ a cap,Does Tryz.prog f [.v (.slice (some a) 0 cap)] σ R):Does Tryz.prog f [.sl k []] σ R:=by
  refine ⟨nil.ent,fun X β w xs hX hs hxl hr=>?_⟩
  match xs,hxl with
  | [x],_ =>
    have hx:=hr 0 (by simp)
    simp only [List.getD_cons_zero] at hx
    cases hx with
    | slnil=>exact nil.go X β w _ hX hs rfl (fun i hi=>by obtain rfl:i=0:=(by simpa using hi); exact .v _)
    | slemp _ a cap=>exact (emp a cap).go X β w _ hX hs rfl (fun i hi=>by obtain rfl:i=0:=(by simpa using hi); exact .v _)
    | sl _ _ b o cap x hcap hk hc hX' h1 hr'=>exact (emp _ cap).go X β w _ hX hs rfl (fun i hi=>by obtain rfl:i=0:=(by simpa using hi); exact .v _)
theorem cloneStn (l:List Stn) (hl:l.length * 48≤140737488355328) (σ:Sto):Does Tryz.prog 163 [snS l] σ (OwnAt σ 109 4 (l.map Stn.cs)):=by
  have nil:Does Tryz.prog 163 [.v (.slice none 0 0)] σ (OwnAt σ 109 4 []):=by
    refine Does.of_body Tryz.call163 Tryz.func163 k163 (Nat.le_of_ble_eq_true rfl) ?_
    unfold c163
    refine AWPC.of_vc ?_; simp only [zN,zS,zU,vcC,lateX,ex,strp,binA,elems,cells,scalar,eqC,keyA,intsA,lookA,ofVs,mpOf,zq0,zq1,zq2,zq3,zq4,zq5,zq6,reduceIte]
    refine AWPC.of_vc ?_; simp only [zN,zS,zU,vcC,lateX,ex,strp,binA,elems,cells,scalar,eqC,keyA,intsA,lookA,ofVs,mpOf,zq0,zq1,zq2,zq3,zq4,zq5,zq6,reduceIte]
    refine AWPC.of_vc ?_
    simp only [vcC]
    refine ⟨fun _=>?_,fun h=>by cases h⟩
    refine AWPC.of_vc ?_; simp only [zN,zS,zU,vcC,lateX,ex,strp,binA,elems,cells,scalar,eqC,keyA,intsA,lookA,ofVs,mpOf,zq0,zq1,zq2,zq3,zq4,zq5,zq6,reduceIte]
    refine AWPC.own0 109 4 2 rfl ?_
    refine AWPC.of_vc ?_; simp only [zN,zS,zU,vcC,lateX,ex,strp,binA,elems,cells,scalar,eqC,keyA,intsA,lookA,ofVs,mpOf,zq0,zq1,zq2,zq3,zq4,zq5,zq6,reduceIte]
    exact .mk [] rfl rfl
  have emp:∀ a cap,Does Tryz.prog 163 [.v (.slice (some a) 0 cap)] σ (OwnAt σ 109 4 []):=by
    intro a cap
    refine Does.of_body Tryz.call163 Tryz.func163 k163 (Nat.le_of_ble_eq_true rfl) ?_
    unfold c163
    (repeat' ((first
 | refine vn rfl ?_
 | simp (disch:=omega) only [wr64,Int.zero_sub]
 | refine bo (fun _=>?_) fun _=>?_
 | refine im fun _=>?_
 | refine cF ?_
 | refine om ?_
 | refine an ?_
 | fail) <;> try simp only [zN,zT,zV,zS,zU,vcC,lateX,ex,strp,binA,elems,cells,scalar,eqC,keyA,intsA,lookA,ofVs,mpOf,zq0,zq1,zq2,zq3,zq4,zq5,zq6,reduceIte]))
    all_goals exact .mk [] rfl rfl
  by_cases h0:l=[]
  · subst h0
    exact byNilD nil emp
  · refine Does.of_body Tryz.call163 Tryz.func163 k163 (Nat.le_of_ble_eq_true rfl) ?_
    unfold c163
    have hne:l.map Stn.cs≠[]:=by simpa using h0
    (repeat' ((first
 | refine vn rfl ?_
 | simp (disch:=omega) only [wr64,Int.zero_sub]
 | refine bo (fun _=>?_) fun _=>?_
 | refine im fun _=>?_
 | refine cF ?_
 | refine om ?_
 | refine an ?_
 | fail) <;> try simp only [zN,zT,zV,zS,zU,vcC,lateX,ex,strp,binA,elems,cells,scalar,eqC,keyA,intsA,lookA,ofVs,mpOf,zq0,zq1,zq2,zq3,zq4,zq5,zq6,reduceIte]))
    exact .mk [] (by simp) rfl
theorem copiedStations_does (l:List Stn) (hl:l.length * 48≤140737488355328) (hh:∀ s∈l,s.heights.length * 24≤140737488355328) (σ:Sto):Does Tryz.prog 97 [snS l] σ (OwnAt σ 109 4 (l.map Stn.cs)):=by
  refine Does.of_body Tryz.call97 Tryz.func97 k97 (Nat.le_of_ble_eq_true rfl) ?_
  unfold c97
  (repeat' ((first
 | refine vn rfl ?_
 | simp (disch:=omega) only [wr64,Int.zero_sub]
 | refine bo (fun _=>?_) fun _=>?_
 | refine im fun _=>?_
 | refine cF ?_
 | refine om ?_
 | refine an ?_
 | fail) <;> try simp only [zN,zT,zV,zS,zU,vcC,lateX,ex,strp,binA,elems,cells,scalar,eqC,keyA,intsA,lookA,ofVs,mpOf,zq0,zq1,zq2,zq3,zq4,zq5,zq6,reduceIte]))
  refine .inr (.inl ⟨_,_,_,_,rfl,fun _=>⟨cloneStn l hl σ,?_⟩,fun h=>by cases h⟩)
  rintro r σ' ⟨ν,rfl,rfl⟩
  refine owp_of_exs ?_
  simp only [zN,zT,zV,zS,zU,vcC,lateX,ex,strp,binA,elems,cells,scalar,eqC,keyA,intsA,lookA,ofVs,mpOf,zq0,zq1,zq2,zq3,zq4,zq5,zq6,reduceIte,List.length_map]
  obtain ⟨G,hG⟩:∃ G,G=List.length σ:=⟨_,rfl⟩
  rw [← hG]
  have hA:∀ (o:Ob) (μ:Sto),Sto.at (σ++some [o]::μ) G 0=some o:=fun o μ=>by rw [hG,at_app0]; rfl
  have hB:∀ (o o':Ob) (μ:Sto),Sto.upd (σ++some [o]::μ) G 0 o'=σ++some [o']::μ:=fun o o' μ=>by rw [hG]; simp [Sto.upd]
  have hG':List.length σ=G:=hG.symm
  have hC:∀ (f:Nat) (o:Ob) (μ:Sto),Sto.at (σ++some [o]::μ) (G+(f+1)) 0=Sto.at μ f 0:=fun f o μ=>by rw [hG,at_app]; rfl
  have hD:∀ (f:Nat) (o o':Ob) (μ:Sto),Sto.upd (σ++some [o]::μ) (G+(f+1)) 0 o'=σ++some [o]::Sto.upd μ f 0 o':=fun f o o' μ=>by rw [hG,upd_app]; simp [Sto.upd]; cases μ[f]? with
    | none=>rfl
    | some x=>cases x <;> rfl
  (repeat' ((first
 | refine vn rfl ?_
 | simp (disch:=omega) only [wr64,Int.zero_sub]
 | refine bo (fun _=>?_) fun _=>?_
 | refine im fun _=>?_
 | refine cF ?_
 | refine om ?_
 | refine an ?_
 | fail) <;> try simp only [zN,zT,zV,zS,zU,vcC,lateX,ex,strp,binA,elems,cells,scalar,eqC,keyA,intsA,lookA,ofVs,mpOf,zq0,zq1,zq2,zq3,zq4,zq5,zq6,reduceIte,hA,hB,List.length_map]))
  refine AWPC.loopE (α:={ x:Nat × Sto // x.1≤l.length }) [10] (fun x=>[(10,n x.1.1)]) (fun x=>σ++some [⟨109,4,l.map Stn.cs,none⟩]::x.1.2) (fun x=>l.length - x.1.1) ⟨(0,ν),by simp⟩ ?_ rfl ?_
  · (simp only [zN,zT,zV,zS,zU,vcC,lateX,ex,strp,binA,elems,cells,scalar,eqC,keyA,intsA,lookA,ofVs,mpOf,zq0,zq1,zq2,zq3,zq4,zq5,zq6,reduceIte]; try simp)
  · rintro ⟨⟨i,μ⟩,hi⟩
    simp only at hi
    by_cases hlt:i < l.length
    · have hs:(l.map Stn.cs).getD i []=Stn.cs (l.getD i default):=row default hlt
      have hset:(l.map Stn.cs).set i (Stn.cs (l.getD i default))=l.map Stn.cs:=by
        rw [List.getD_eq_getElem?_getD,List.getElem?_eq_getElem hlt,Option.getD_some,← List.map_set,List.set_getElem_self]
      have h3:=cloneHg (l.getD i default).heights (hh _ (List.mem_of_getElem? (getD_lt default hlt)))
      generalize l.getD i default=s at hs hset h3
      obtain ⟨s1,s2,s3,s4⟩:=s
      simp only [Stn.cs] at hs hset h3
      (repeat' ((first
 | refine vn rfl ?_
 | simp (disch:=omega) only [wr64,Int.zero_sub]
 | refine bo (fun _=>?_) fun _=>?_
 | refine im fun _=>?_
 | ((repeat refine si ?_); (first | ((first | refine .inl ⟨_,_,_,_,rfl,fun _=>pu h3,?_⟩ | refine ⟨_,_,_,_,rfl,fun _=>pu h3,?_⟩); (first | refine o1 ?_ | refine o2 ?_ | refine o3 ?_ | refine o4 ?_)) | refine .inl ⟨_,_,_,_,rfl,pu h3,?_⟩))
 | refine cF ?_
 | refine om ?_
 | refine an ?_
 | fail) <;> try simp only [zN,zT,zV,zS,zU,vcC,lateX,ex,strp,binA,elems,cells,scalar,eqC,keyA,intsA,lookA,ofVs,mpOf,zq0,zq1,zq2,zq3,zq4,zq5,zq6,reduceIte,hA,hB,hC,hD,hG',hs,hset,List.length_map,List.append_assoc,List.cons_append,List.nil_append]))
      all_goals try (exfalso; omega)
      exact ⟨⟨(i+1,_),hlt⟩,by simp,rfl,by simp only; omega⟩
    · obtain rfl:i=l.length:=by omega
      (repeat' ((first
 | refine vn rfl ?_
 | simp (disch:=omega) only [wr64,Int.zero_sub]
 | refine bo (fun _=>?_) fun _=>?_
 | refine im fun _=>?_
 | refine cF ?_
 | refine om ?_
 | refine an ?_
 | fail) <;> try simp only [zN,zT,zV,zS,zU,vcC,lateX,ex,strp,binA,elems,cells,scalar,eqC,keyA,intsA,lookA,ofVs,mpOf,zq0,zq1,zq2,zq3,zq4,zq5,zq6,reduceIte]))
      all_goals try (exfalso; omega)
      exact .mk μ (by simp [hG]) rfl
def c103:CF:=⟨19,
 (.seq (.ops [
 ⟨some 4,.mv (.c (.int .i64 0)),none⟩] [0,1])
 (.seq (.seq (.ops [
 ⟨some 6,.mv (.t 0),none⟩,
 ⟨some 7,.len (.t 6),none⟩,
 ⟨some 8,.mv (.c (.int .i64 0)),none⟩] [0,1,7,8])
 (.block 0 (.loop (.seq (.ops [
 ⟨some 9,.bin .lss (.t 8) (.t 7),none⟩] [0,1,7,8,9])
 (.seq (.cond (.t 9) .skip
 (.exit 0))
 (.seq (.block 1 (.seq (.ops [
 ⟨some 10,.mv (.t 8),none⟩,
 ⟨some 5,.mv (.t 10),none⟩] [0,1,5,7,8])
 (.seq (.ops [
 ⟨some 11,.mv (.t 1),none⟩,
 ⟨some 12,.mv (.t 0),none⟩,
 ⟨some 13,.mv (.t 5),none⟩,
 ⟨some 14,.iaddr 24 (.t 12) (.t 13),none⟩,
 ⟨some 15,.load (some 24) (.t 14),none⟩,
 ⟨some 16,.call (.t 11) [(.t 15)],none⟩] [0,1,5,7,8,16])
 (.cond (.t 16) (.seq (.ops [
 ⟨some 17,.mv (.t 5),none⟩,
 ⟨some 4,.mv (.t 17),none⟩] [4])
 .ret)
 .skip))))
 (.ops [
 ⟨some 18,.bin .add (.t 8) (.c (.int .i64 1)),none⟩,
 ⟨some 8,.mv (.t 18),none⟩] [0,1,7,8])))))))
 (.seq (.ops [
 ⟨some 4,.mv (.c (.int .i64 (-1))),none⟩] [4])
 .ret))),
 [.t 4]⟩
theorem k103:chkF Tryz.prog Tryz.f103 c103=true:=by kernel_rfl
def c102:CF:=⟨7,
 (.seq (.ops [
 ⟨some 2,.mv (.c (.int .i64 0)),none⟩,
 ⟨some 3,.mv (.c (.int .i64 0)),none⟩] [0])
 (.seq (.seq (.ops [
 ⟨some 4,.mv (.t 0),none⟩,
 ⟨some 5,.bin .lss (.t 4) (.c (.int .i64 0)),none⟩] [0,5])
 (.cond (.t 5) (.seq (.ops [
 ⟨some 2,.mv (.c (.int .i64 0)),none⟩,
 ⟨some 3,.mv (.c (.int .i64 3)),none⟩] [2,3])
 .ret)
 .skip))
 (.seq (.ops [
 ⟨some 6,.mv (.t 0),none⟩,
 ⟨some 2,.mv (.t 6),none⟩,
 ⟨some 3,.mv (.c (.int .i64 0)),none⟩] [2,3])
 .ret))),
 [.t 2,.t 3]⟩
theorem k102:chkF Tryz.prog Tryz.f102 c102=true:=by kernel_rfl
def c104:CF:=⟨15,
 (.seq (.ops [
 ⟨some 3,.box false 72 24 (.t 0),none⟩,
 ⟨some 4,.mv (.c (.bool false)),none⟩] [1,2,3])
 (.seq (.ops [
 ⟨some 5,.faddr 2 (.t 3),none⟩,
 ⟨some 6,.load none (.t 5),none⟩,
 ⟨some 7,.load none (.t 1),none⟩,
 ⟨some 8,.bin .eql (.t 6) (.t 7),none⟩,
 ⟨some 9,.mv (.t 8),none⟩,
 ⟨some 10,.faddr 3 (.t 3),some (9,true)⟩,
 ⟨some 11,.load none (.t 10),some (9,true)⟩,
 ⟨some 12,.load none (.t 2),some (9,true)⟩,
 ⟨some 13,.bin .eql (.t 11) (.t 12),some (9,true)⟩,
 ⟨some 14,.pick (.t 9) (.t 13) (.c (.bool false)),none⟩,
 ⟨some 4,.mv (.t 14),none⟩] [4])
 .ret)),
 [.t 4]⟩
theorem k104:chkF Tryz.prog Tryz.f104 c104=true:=by kernel_rfl
def c39:CF:=⟨15,
 (.seq (.ops [
 ⟨some 3,.box false 37 4 (.t 0),none⟩,
 ⟨some 4,.box false 3 1 (.t 1),none⟩,
 ⟨some 5,.box false 3 1 (.t 2),none⟩,
 ⟨some 6,.mv (.c (.int .i64 0)),none⟩,
 ⟨some 7,.mv (.c (.int .i64 0)),none⟩] [3,4,5])
 (.seq (.ops [
 ⟨some 8,.faddr 0 (.t 3),none⟩,
 ⟨some 9,.load none (.t 8),none⟩,
 ⟨some 10,.mkfn (.func 104) [] [(.t 4),(.t 5)],none⟩,
 ⟨some 11,.call (.f 103) [(.t 9),(.t 10)],none⟩,
 ⟨some 12,.call (.f 102) [(.t 11)],none⟩,
 ⟨some 13,.ext 0 (.t 12),none⟩,
 ⟨some 14,.ext 1 (.t 12),none⟩,
 ⟨some 6,.mv (.t 13),none⟩,
 ⟨some 7,.mv (.t 14),none⟩] [6,7])
 .ret)),
 [.t 6,.t 7]⟩
theorem k39:chkF Tryz.prog Tryz.f39 c39=true:=by kernel_rfl
theorem indexFd (f:Nat) (caps:List AV) (hcap:∀ c∈caps,PureV c) (q:Fld→Bool) (l:List Fld) (hl:l.length < 9223372036854775808) (hq:∀ x∈l,Pure Tryz.prog f ([.agg (Fld.cs x)]++caps) (bl (q x))):Pure Tryz.prog 103 [fdS l,.fn (.func f) [] caps] (n (fidx q 0 l)):=by
  refine Pure.of_body Tryz.call103 Tryz.func103 k103 (Nat.le_of_ble_eq_true rfl) ?_
  unfold c103
  (repeat' ((first
 | refine vn rfl ?_
 | simp (disch:=omega) only [wr64,Int.zero_sub]
 | refine bo (fun _=>?_) fun _=>?_
 | refine im fun _=>?_
 | refine cF ?_
 | refine om ?_
 | refine an ?_
 | fail) <;> try simp only [zN,zT,zV,zS,zU,vcC,lateX,ex,strp,binA,elems,cells,scalar,eqC,keyA,intsA,lookA,ofVs,mpOf,zq0,zq1,zq2,zq3,zq4,zq5,zq6,reduceIte]))
  refine AWPC.loopI 8 l.length (fun i=>fidx q i (l.drop i)=fidx q 0 l) (by simp) ?_ ?_
  · (simp only [zN,zT,zV,zS,zU,vcC,lateX,ex,strp,binA,elems,cells,scalar,eqC,keyA,intsA,lookA,ofVs,mpOf,zq0,zq1,zq2,zq3,zq4,zq5,zq6,reduceIte]; try simp)
  · intro i hi hI
    by_cases hlt:i < l.length
    · obtain ⟨x,hx⟩:∃ x,l[i]?=some x:=⟨_,List.getElem?_eq_getElem hlt⟩
      have hc:=hq x (List.mem_of_getElem? hx)
      rw [drop_cons hx,fidx] at hI
      (repeat' ((first
 | refine vn rfl ?_
 | simp (disch:=omega) only [wr64,Int.zero_sub]
 | refine bo (fun _=>?_) fun _=>?_
 | refine im fun _=>?_
 | refine cF ?_
 | refine om ?_
 | refine an ?_
 | fail) <;> try simp only [zN,zT,zV,zS,zU,vcC,lateX,ex,strp,binA,elems,cells,scalar,eqC,keyA,intsA,lookA,ofVs,mpOf,zq0,zq1,zq2,zq3,zq4,zq5,zq6,reduceIte,getD_map hx]))
      all_goals try (exfalso; omega)
      refine .inl ⟨_,_,_,_,rfl,fun _=>.of ?_ (hc),?_⟩
      · intro a ha
        simp only [List.nil_append,List.cons_append,List.mem_cons] at ha
        rcases ha with rfl | ha
        · simp
        · exact hcap a ha
      refine owp_of_exs ?_
      simp only [zN,zT,zV,zS,zU,vcC,lateX,ex,strp,binA,elems,cells,scalar,eqC,keyA,intsA,lookA,ofVs,mpOf,zq0,zq1,zq2,zq3,zq4,zq5,zq6,reduceIte]
      (repeat' ((first
 | refine vn rfl ?_
 | simp (disch:=omega) only [wr64,Int.zero_sub]
 | refine bo (fun _=>?_) fun _=>?_
 | refine im fun _=>?_
 | refine cF ?_
 | refine om ?_
 | refine an ?_
 | fail) <;> try simp only [zN,zT,zV,zS,zU,vcC,lateX,ex,strp,binA,elems,cells,scalar,eqC,keyA,intsA,lookA,ofVs,mpOf,zq0,zq1,zq2,zq3,zq4,zq5,zq6,reduceIte]))
      · rename_i h
        rw [h] at hI
        simp only [if_true] at hI
        rw [← hI]
        exact Frz.eq rfl (by simp)
      · rename_i h
        rw [h] at hI
        exact ⟨⟨i+1,hlt,by simpa using hI⟩,by simp,by simp only; omega⟩
    · obtain rfl:i=l.length:=by omega
      rw [List.drop_length,fidx] at hI
      (repeat' ((first
 | refine vn rfl ?_
 | simp (disch:=omega) only [wr64,Int.zero_sub]
 | refine bo (fun _=>?_) fun _=>?_
 | refine im fun _=>?_
 | refine cF ?_
 | refine om ?_
 | refine an ?_
 | fail) <;> try simp only [zN,zT,zV,zS,zU,vcC,lateX,ex,strp,binA,elems,cells,scalar,eqC,keyA,intsA,lookA,ofVs,mpOf,zq0,zq1,zq2,zq3,zq4,zq5,zq6,reduceIte]))
      all_goals try (exfalso; omega)
      rw [← hI]
      exact Frz.eq rfl (by simp)
theorem found_spec (o:Option Nat) (z:Int) (h:z=match o with | some j=>(j:Int) | none=>-1):Pure Tryz.prog 102 [n z] (.tup [n ((foundE o).1:Nat),n (foundE o).2]):=by
  refine Pure.of_body Tryz.call102 Tryz.func102 k102 (Nat.le_of_ble_eq_true rfl) ?_
  unfold c102
  cases o with
  | none =>
    subst h
    (repeat' ((first
 | refine vn rfl ?_
 | simp (disch:=omega) only [wr64,Int.zero_sub]
 | refine bo (fun _=>?_) fun _=>?_
 | refine im fun _=>?_
 | refine cF ?_
 | refine om ?_
 | refine an ?_
 | fail) <;> try simp only [zN,zT,zV,zS,zU,vcC,lateX,ex,strp,binA,elems,cells,scalar,eqC,keyA,intsA,lookA,ofVs,mpOf,zq0,zq1,zq2,zq3,zq4,zq5,zq6,reduceIte]))
    all_goals first | (exfalso; omega) | exact Frz.eq rfl (by simp [foundE])
  | some j =>
    subst h
    (repeat' ((first
 | refine vn rfl ?_
 | simp (disch:=omega) only [wr64,Int.zero_sub]
 | refine bo (fun _=>?_) fun _=>?_
 | refine im fun _=>?_
 | refine cF ?_
 | refine om ?_
 | refine an ?_
 | fail) <;> try simp only [zN,zT,zV,zS,zU,vcC,lateX,ex,strp,binA,elems,cells,scalar,eqC,keyA,intsA,lookA,ofVs,mpOf,zq0,zq1,zq2,zq3,zq4,zq5,zq6,reduceIte]))
    all_goals first | (exfalso; omega) | exact Frz.eq rfl (by simp [foundE])
theorem fidx_opt {α:Type} (q:α→Bool) (l:List α):fidx q 0 l=match l.findIdx? q with | some j=>(j:Int) | none=>-1:=by rw [fidx_find]; cases l.findIdx? q <;> simp
theorem SheetOf1_spec (s w:Int) (f:Fld):Pure Tryz.prog 104 [.agg f.cs,.iptr [n s] 0,.iptr [n w] 0] (bl (f.stn == s && f.week == w)):=by
  refine Pure.of_body Tryz.call104 Tryz.func104 k104 (Nat.le_of_ble_eq_true rfl) ?_
  unfold c104
  by_cases h1:f.stn=s <;> by_cases h2:f.week=w
  all_goals (
    (repeat' ((first
 | refine vn rfl ?_
 | simp (disch:=omega) only [wr64,Int.zero_sub]
 | refine bo (fun _=>?_) fun _=>?_
 | refine im fun _=>?_
 | refine cF ?_
 | refine om ?_
 | refine an ?_
 | fail) <;> try simp only [zN,zT,zV,zS,zU,vcC,lateX,ex,strp,binA,elems,cells,scalar,eqC,keyA,intsA,lookA,ofVs,mpOf,zq0,zq1,zq2,zq3,zq4,zq5,zq6,reduceIte,h1,h2]))
    all_goals first | (exfalso; omega) | exact Frz.eq (by simp [h1,h2]) (by simp))
theorem SheetOf_spec (r:Rgr) (hr:r.sheets.length < 9223372036854775808) (s w:Int):Pure Tryz.prog 39 [.agg r.cs,n s,n w] (.tup [n ((foundE (sheetAt r.sheets s w)).1:Nat),n (foundE (sheetAt r.sheets s w)).2]):=by
  refine Pure.of_body Tryz.call39 Tryz.func39 k39 (Nat.le_of_ble_eq_true rfl) ?_
  unfold c39
  have h:=indexFd 104 [.iptr [n s] 0,.iptr [n w] 0] (by simp) (fun x=>x.stn == s && x.week == w) r.sheets hr fun x _=>SheetOf1_spec s w x
  have h2:=fidx_opt (fun x:Fld=>x.stn == s && x.week == w) r.sheets
  generalize fidx (fun x:Fld=>x.stn == s && x.week == w) 0 r.sheets=z at h h2
  have h3:=found_spec (sheetAt r.sheets s w) z h2
  generalize foundE (sheetAt r.sheets s w)=q at h3
  (repeat' ((first
 | refine vn rfl ?_
 | simp (disch:=omega) only [wr64,Int.zero_sub]
 | refine bo (fun _=>?_) fun _=>?_
 | refine im fun _=>?_
 | ((repeat refine si ?_); (first | ((first | refine .inl ⟨_,_,_,_,rfl,fun _=>pu (by first | exact h | exact h3),?_⟩ | refine ⟨_,_,_,_,rfl,fun _=>pu (by first | exact h | exact h3),?_⟩); (first | refine o1 ?_ | refine o2 ?_ | refine o3 ?_ | refine o4 ?_)) | refine .inl ⟨_,_,_,_,rfl,pu (by first | exact h | exact h3),?_⟩))
 | refine cF ?_
 | refine om ?_
 | refine an ?_
 | fail) <;> try simp only [zN,zT,zV,zS,zU,vcC,lateX,ex,strp,binA,elems,cells,scalar,eqC,keyA,intsA,lookA,ofVs,mpOf,zq0,zq1,zq2,zq3,zq4,zq5,zq6,reduceIte]))
  exact Frz.eq rfl (by simp)
end Go.Proofs.YtolgelipcgcbhaaGreat
