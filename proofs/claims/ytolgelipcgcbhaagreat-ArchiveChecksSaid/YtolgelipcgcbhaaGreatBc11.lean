/- Part 11 of the texts that the claim rests on: abstract values over the walk, and contracts of functions. -/
import Derived.Test.YtolgelipcgcbhaaGreatBc10
import Derived.Shelf.SortM.Plain
import Derived.Shelf.SortM.SortNone
import Derived.Test.YtolgelipcgcbhaaGreatProg
import Derived.Test.YtolgelipcgcbhaaGreatRows
namespace Go.Proofs.YtolgelipcgcbhaaGreat
open Go.Shelf
def Tryz.laysSlM5_f94_ren:Go.Shelf.Ren:=⟨fun | 5=>94 | 8=>162 | 7=>161 | 19=>207 | 20=>208 | 10=>198 | 11=>199 | 12=>200 | 13=>201 | 14=>202 | 15=>203 | 16=>204 | 17=>205 | 18=>206 | 30=>233 | 31=>234 | 32=>235 | 33=>236 | 34=>237 | 35=>168 | 40=>250 | n=>n,fun | 23=>52 | 25=>3 | 3=>3 | 32=>210 | 22=>52 | 0=>0 | 44=>254 | 46=>256 | 4=>4 | 36=>246 | 35=>245 | 41=>251 | 5=>5 | 9=>9 | 53=>285 | 57=>289 | 63=>299 | 64=>300 | n=>n,fun | n=>n⟩
theorem Tryz.laysSlM5_f94:Go.Proofs.SlLaysM.n5 Tryz.prog Tryz.laysSlM5_f94_ren:={
  mixed:=by kernel_rfl
  f5:=⟨Tryz.f94.name,by decide,Tryz.func94.trans (congrArg some (by kernel_rfl))⟩
  f7:=⟨Tryz.f161.name,by decide,Tryz.func161.trans (congrArg some (by kernel_rfl))⟩
  f8:=Tryz.func162.trans (congrArg some (by kernel_rfl))
  f10:=⟨Tryz.f198.name,by decide,Tryz.func198.trans (congrArg some (by kernel_rfl))⟩
  f11:=⟨Tryz.f199.name,by decide,Tryz.func199.trans (congrArg some (by kernel_rfl))⟩
  f12:=⟨Tryz.f200.name,by decide,Tryz.func200.trans (congrArg some (by kernel_rfl))⟩
  f13:=⟨Tryz.f201.name,by decide,Tryz.func201.trans (congrArg some (by kernel_rfl))⟩
  f14:=⟨Tryz.f202.name,by decide,Tryz.func202.trans (congrArg some (by kernel_rfl))⟩
  f15:=⟨Tryz.f203.name,by decide,Tryz.func203.trans (congrArg some (by kernel_rfl))⟩
  f16:=⟨Tryz.f204.name,by decide,Tryz.func204.trans (congrArg some (by kernel_rfl))⟩
  f17:=⟨Tryz.f205.name,by decide,Tryz.func205.trans (congrArg some (by kernel_rfl))⟩
  f18:=⟨Tryz.f206.name,by decide,Tryz.func206.trans (congrArg some (by kernel_rfl))⟩
  f19:=Tryz.func207.trans (congrArg some (by kernel_rfl))
  f20:=Tryz.func208.trans (congrArg some (by kernel_rfl))
  f30:=⟨Tryz.f233.name,by decide,Tryz.func233.trans (congrArg some (by kernel_rfl))⟩
  f31:=Tryz.func234.trans (congrArg some (by kernel_rfl))
  f32:=Tryz.func235.trans (congrArg some (by kernel_rfl))
  f33:=⟨Tryz.f236.name,by decide,Tryz.func236.trans (congrArg some (by kernel_rfl))⟩
  f34:=⟨Tryz.f237.name,by decide,Tryz.func237.trans (congrArg some (by kernel_rfl))⟩
  f35:=⟨Tryz.f168.name,by decide,Tryz.func168.trans (congrArg some (by kernel_rfl))⟩
  f40:=⟨Tryz.f250.name,by decide,Tryz.func250.trans (congrArg some (by kernel_rfl))⟩
  t0:=Tryz.underlying0
  a0:=Tryz.isAgg0
  z0:=Tryz.sizeOf0
  v0:=Tryz.zeroValue0
  t3:=Tryz.underlying3
  a3:=Tryz.isAgg3
  z3:=Tryz.sizeOf3
  v3:=Tryz.zeroValue3
  t4:=Tryz.underlying4
  a4:=Tryz.isAgg4
  z4:=Tryz.sizeOf4
  v4:=Tryz.zeroValue4
  t5:=Tryz.underlying5
  a5:=Tryz.isAgg5
  z5:=Tryz.sizeOf5
  v5:=Tryz.zeroValue5
  t9:=Tryz.underlying9
  a9:=Tryz.isAgg9
  z9:=Tryz.sizeOf9
  v9:=Tryz.zeroValue9
  t22:=Tryz.underlying52
  a22:=Tryz.isAgg52
  z22:=Tryz.sizeOf52
  v22:=Tryz.zeroValue52
  t23:=Tryz.underlying52
  a23:=Tryz.isAgg52
  z23:=Tryz.sizeOf52
  v23:=Tryz.zeroValue52
  t25:=Tryz.underlying3
  a25:=Tryz.isAgg3
  z25:=Tryz.sizeOf3
  v25:=Tryz.zeroValue3
  t32:=Tryz.underlying210
  a32:=Tryz.isAgg210
  z32:=Tryz.sizeOf210
  v32:=Tryz.zeroValue210
  t35:=Tryz.underlying245
  a35:=Tryz.isAgg245
  z35:=Tryz.sizeOf245
  v35:=Tryz.zeroValue245
  t36:=Tryz.underlying246
  a36:=Tryz.isAgg246
  z36:=Tryz.sizeOf246
  v36:=Tryz.zeroValue246
  t41:=Tryz.underlying251
  a41:=Tryz.isAgg251
  z41:=Tryz.sizeOf251
  v41:=Tryz.zeroValue251
  t44:=Tryz.underlying254
  a44:=Tryz.isAgg254
  z44:=Tryz.sizeOf254
  v44:=Tryz.zeroValue254
  t46:=Tryz.underlying256
  a46:=Tryz.isAgg256
  z46:=Tryz.sizeOf256
  v46:=Tryz.zeroValue256
  t53:=Tryz.underlying285
  a53:=Tryz.isAgg285
  z53:=Tryz.sizeOf285
  v53:=Tryz.zeroValue285
  t57:=Tryz.underlying289
  a57:=Tryz.isAgg289
  z57:=Tryz.sizeOf289
  v57:=Tryz.zeroValue289
  t63:=Tryz.underlying299
  a63:=Tryz.isAgg299
  z63:=Tryz.sizeOf299
  v63:=Tryz.zeroValue299
  t64:=Tryz.underlying300
  a64:=Tryz.isAgg300
  z64:=Tryz.sizeOf300
  v64:=Tryz.zeroValue300 }
open Go.Sort Go.RowKit Go.Proofs in
theorem Tryz.slices_Sort_int (blk off cap:Nat) (zs:List Int) (w:World) (hH:Holds (Value.int .i64) w blk off zs.toArray) (hblk:blk < w.heap.size) (hsz:zs.length < 4611686018427387904) :
    Calls Tryz.prog 94 #[.slice (some ⟨blk,off,none⟩) zs.length cap] w fun e w' =>
      e=.returned (.tuple #[])∧∃ n os,w'=grow (putRow (Value.int .i64) (Sort.ahead w n) blk off (zs.mergeSort fun x y=>decide (x≤y)).toArray) os:=AnyM.slices_Sort_int Tryz.laysSlM5_f94 blk off cap zs w hH hblk hsz
open Go.RowKit Go.Sort Go.Proofs in
theorem Tryz.slices_Sort_int_none (p:Option Addr) (cap:Nat) (w:World) :
    Calls Tryz.prog 94 #[.slice p 0 cap] w fun e w'=>e=.returned (.tuple #[])∧w'=w:=AnyM.slices_Sort_int_none Tryz.laysSlM5_f94 p cap w
end Go.Proofs.YtolgelipcgcbhaaGreat
namespace Go.Proofs.YtolgelipcgcbhaaGreat
open Go.Abs
open Nat renaming reduceBEq→W0,reduceAdd→W1,reduceSub→W2,reduceLT→W3,reduceLeDiff→W4,reduceMul→W5,reduceEqDiff→W6
open Int renaming zero_sub→W7
open Go.Abs renaming vcC→Q0,lateX→Q1,strp→Q2,binA→Q3,elems→Q4,cells→Q5,scalar→Q6,eqC→Q7,keyA→Q8,intsA→Q9,lookA→QA,ofVs→QB,mpOf→QC
set_option linter.unusedVariables false
set_option linter.unusedSimpArgs false
set_option maxHeartbeats 4000000
set_option maxRecDepth 100000
def c95:CF:=⟨61,
 (.seq (.ops [
 ⟨some 2,.mv (.c (.slice none 0 0)),none⟩] [0])
 (.seq (.seq (.ops [
 ⟨some 6,.mv (.t 0),none⟩,
 ⟨some 7,.len (.t 6),none⟩,
 ⟨some 8,.bin .lss (.t 7) (.c (.int .i64 2)),none⟩] [0,8])
 (.cond (.t 8) (.seq (.ops [
 ⟨some 9,.mv (.t 0),none⟩,
 ⟨some 2,.mv (.t 9),none⟩] [2])
 .ret)
 .skip))
 (.seq (.seq (.ops [
 ⟨some 3,.mv (.c (.int .i64 1)),none⟩] [0,3])
 (.block 0 (.loop (.seq (.seq (.ops [
 ⟨some 10,.mv (.t 3),none⟩,
 ⟨some 11,.mv (.t 0),none⟩,
 ⟨some 12,.len (.t 11),none⟩,
 ⟨some 13,.bin .lss (.t 10) (.t 12),none⟩] [0,3,13])
 (.cond (.t 13) .skip
 (.exit 0)))
 (.seq (.block 1 (.seq (.draw [
 ⟨some 16,.mv (.t 0),none⟩,
 ⟨some 17,.mv (.t 3),none⟩,
 ⟨some 18,.iaddr 1 (.t 16) (.t 17),none⟩,
 ⟨some 19,.load none (.t 18),none⟩,
 ⟨some 20,.mv (.t 0),none⟩,
 ⟨some 21,.mv (.t 3),none⟩,
 ⟨some 22,.bin .sub (.t 21) (.c (.int .i64 1)),none⟩,
 ⟨some 23,.iaddr 1 (.t 20) (.t 22),none⟩,
 ⟨some 24,.load none (.t 23),none⟩,
 ⟨some 25,.bin .eql (.t 19) (.t 24),none⟩] [
 ] [0,3,25])
 (.cond (.t 25) (.seq (.ops [
 ⟨some 26,.mv (.t 0),none⟩,
 ⟨some 27,.mv (.t 3),none⟩,
 ⟨some 28,.subs 1 (.t 26) (.t 27),none⟩,
 ⟨some 4,.mv (.t 28),none⟩] [0,3,4])
 (.seq (.seq (.ops [
 ⟨some 5,.mv (.c (.int .i64 1)),none⟩] [0,3,4,5])
 (.block 2 (.loop (.seq (.seq (.ops [
 ⟨some 29,.mv (.t 5),none⟩,
 ⟨some 30,.mv (.t 4),none⟩,
 ⟨some 31,.len (.t 30),none⟩,
 ⟨some 32,.bin .lss (.t 29) (.t 31),none⟩] [0,3,4,5,32])
 (.cond (.t 32) .skip
 (.exit 2)))
 (.seq (.block 3 (.seq (.draw [
 ⟨some 35,.mv (.t 4),none⟩,
 ⟨some 36,.mv (.t 5),none⟩,
 ⟨some 37,.iaddr 1 (.t 35) (.t 36),none⟩,
 ⟨some 38,.load none (.t 37),none⟩,
 ⟨some 39,.mv (.t 4),none⟩,
 ⟨some 40,.mv (.t 5),none⟩,
 ⟨some 41,.bin .sub (.t 40) (.c (.int .i64 1)),none⟩,
 ⟨some 42,.iaddr 1 (.t 39) (.t 41),none⟩,
 ⟨some 43,.load none (.t 42),none⟩,
 ⟨some 44,.bin .neq (.t 38) (.t 43),none⟩] [
 ] [0,3,4,5,44])
 (.cond (.t 44) (.seq (.ops [
 ⟨some 45,.mv (.t 0),none⟩,
 ⟨some 46,.mv (.t 3),none⟩,
 ⟨some 47,.mv (.t 4),none⟩,
 ⟨some 48,.mv (.t 5),none⟩,
 ⟨some 49,.iaddr 1 (.t 47) (.t 48),none⟩,
 ⟨some 50,.load none (.t 49),none⟩,
 ⟨some 51,.iaddr 1 (.t 45) (.t 46),none⟩,
 ⟨none,.store 1 (.t 51) (.t 50),none⟩] [0,3,4,5])
 (.ops [
 ⟨some 52,.mv (.t 3),none⟩,
 ⟨some 53,.bin .add (.t 52) (.c (.int .i64 1)),none⟩,
 ⟨some 3,.mv (.t 53),none⟩] [0,3,4,5]))
 .skip)))
 (.ops [
 ⟨some 33,.mv (.t 5),none⟩,
 ⟨some 34,.bin .add (.t 33) (.c (.int .i64 1)),none⟩,
 ⟨some 5,.mv (.t 34),none⟩] [0,3,4,5]))))))
 (.seq (.ops [
 ⟨some 54,.mv (.t 0),none⟩,
 ⟨some 55,.mv (.t 3),none⟩,
 ⟨some 56,.subs 1 (.t 54) (.t 55),none⟩,
 ⟨none,.clr 3 1 [.int .i64 0] (.t 56),none⟩] [0,3])
 (.seq (.ops [
 ⟨some 57,.mv (.t 0),none⟩,
 ⟨some 58,.mv (.t 3),none⟩,
 ⟨some 59,.slice 1 (.t 57) none (some (.t 58)),none⟩,
 ⟨some 2,.mv (.t 59),none⟩] [2])
 .ret))))
 .skip)))
 (.ops [
 ⟨some 14,.mv (.t 3),none⟩,
 ⟨some 15,.bin .add (.t 14) (.c (.int .i64 1)),none⟩,
 ⟨some 3,.mv (.t 15),none⟩] [0,3]))))))
 (.seq (.ops [
 ⟨some 60,.mv (.t 0),none⟩,
 ⟨some 2,.mv (.t 60),none⟩] [2])
 .ret)))),
 [.t 2]⟩
theorem k95:chkF Tryz.prog Tryz.f95 c95=true:=by kernel_rfl
def c36:CF:=⟨39,
 (.seq (.ops [
 ⟨some 1,.box false 37 4 (.t 0),none⟩,
 ⟨some 2,.mv (.c (.slice none 0 0)),none⟩,
 ⟨some 3,.mv (.c (.int .i64 0)),none⟩] [1])
 (.seq (.ops [
 ⟨some 4,.mv (.c (.slice none 0 0)),none⟩] [1,4])
 (.seq (.seq (.ops [
 ⟨some 9,.faddr 0 (.t 1),none⟩,
 ⟨some 10,.load none (.t 9),none⟩,
 ⟨some 11,.len (.t 10),none⟩,
 ⟨some 12,.mv (.c (.int .i64 0)),none⟩] [1,4,10,11,12])
 (.block 0 (.loop (.seq (.ops [
 ⟨some 13,.bin .lss (.t 12) (.t 11),none⟩] [1,4,10,11,12,13])
 (.seq (.cond (.t 13) .skip
 (.exit 0))
 (.seq (.block 1 (.seq (.ops [
 ⟨some 14,.iaddr 24 (.t 10) (.t 12),none⟩,
 ⟨some 15,.load (some 24) (.t 14),none⟩,
 ⟨some 6,.alloc 72 24 z24,none⟩,
 ⟨none,.store 24 (.t 6) (.t 15),none⟩] [1,4,6,10,11,12])
 (.ops [
 ⟨some 16,.mv (.t 4),none⟩,
 ⟨some 17,.faddr 3 (.t 6),none⟩,
 ⟨some 18,.load none (.t 17),none⟩,
 ⟨some 19,.bsl false 3 1 1 [.int .i64 0] [(0,1,(.t 18))],none⟩,
 ⟨some 20,.app 3 1 8 (.t 16) (.t 19),none⟩,
 ⟨some 4,.mv (.t 20),none⟩] [1,4,10,11,12])))
 (.ops [
 ⟨some 21,.bin .add (.t 12) (.c (.int .i64 1)),none⟩,
 ⟨some 12,.mv (.t 21),none⟩] [1,4,10,11,12])))))))
 (.seq (.seq (.ops [
 ⟨some 22,.faddr 1 (.t 1),none⟩,
 ⟨some 23,.load none (.t 22),none⟩,
 ⟨some 24,.len (.t 23),none⟩,
 ⟨some 25,.mv (.c (.int .i64 0)),none⟩] [4,23,24,25])
 (.block 2 (.loop (.seq (.ops [
 ⟨some 26,.bin .lss (.t 25) (.t 24),none⟩] [4,23,24,25,26])
 (.seq (.cond (.t 26) .skip
 (.exit 2))
 (.seq (.block 3 (.seq (.ops [
 ⟨some 27,.iaddr 5 (.t 23) (.t 25),none⟩,
 ⟨some 28,.load (some 5) (.t 27),none⟩,
 ⟨some 8,.alloc 64 5 [.int .i64 0,.int .i64 0,.int .i64 0,.int .i64 0,.int .i64 0],none⟩,
 ⟨none,.store 5 (.t 8) (.t 28),none⟩] [4,8,23,24,25])
 (.ops [
 ⟨some 29,.mv (.t 4),none⟩,
 ⟨some 30,.faddr 1 (.t 8),none⟩,
 ⟨some 31,.load none (.t 30),none⟩,
 ⟨some 32,.bsl false 3 1 1 [.int .i64 0] [(0,1,(.t 31))],none⟩,
 ⟨some 33,.app 3 1 8 (.t 29) (.t 32),none⟩,
 ⟨some 4,.mv (.t 33),none⟩] [4,23,24,25])))
 (.ops [
 ⟨some 34,.bin .add (.t 25) (.c (.int .i64 1)),none⟩,
 ⟨some 25,.mv (.t 34),none⟩] [4,23,24,25])))))))
 (.seq (.ops [
 ⟨some 35,.mv (.t 4),none⟩,
 ⟨some 36,.call (.f 94) [(.t 35)],none⟩] [4])
 (.seq (.ops [
 ⟨some 37,.mv (.t 4),none⟩,
 ⟨some 38,.call (.f 95) [(.t 37)],none⟩,
 ⟨some 2,.mv (.t 38),none⟩,
 ⟨some 3,.mv (.c (.int .i64 0)),none⟩] [2,3])
 .ret)))))),
 [.t 2,.t 3]⟩
theorem k36:chkF Tryz.prog Tryz.f36 c36=true:=by kernel_rfl
theorem compI1_snoc (x:Int):∀ (r:List Int) (a:Int),compI1 a (r++[x])=if (r.getLast?).getD a=x then compI1 a r else compI1 a r++[x]
  | [],a=>by
    simp only [List.nil_append,compI1,List.getLast?_nil,Option.getD_none]
    by_cases h:a=x <;> simp [h]
  | b::r,a=>by
    have h:=compI1_snoc x r
    have e:((b::r).getLast?).getD a=(r.getLast?).getD b:=by
      cases r with
      | nil=>rfl
      | cons c s=>simp [List.getLast?_cons]
    rw [e]
    simp only [List.cons_append,compI1]
    by_cases hab:a=b
    · subst hab; rw [if_pos rfl,if_pos rfl,h]
    · rw [if_neg hab,if_neg hab,h]
      split <;> rfl
theorem compI_next {l:List Int} {j:Nat} (h0:0 < j) (hj:j < l.length):compI (l.take (j+1))=if l.getD (j - 1) 0=l.getD j 0 then compI (l.take j) else compI (l.take j)++[l.getD j 0]:=by
  cases l with
  | nil=>simp at hj
  | cons a r =>
    obtain ⟨i,rfl⟩:∃ i,j=i+1:=⟨j - 1,by omega⟩
    have hir:i < r.length:=by simpa using hj
    have e1:r.take (i+1)=r.take i++[r.getD i 0]:=by rw [List.take_add_one,getD_lt 0 hir]; rfl
    have e2:((r.take i).getLast?).getD a=(a::r).getD i 0:=by
      cases i with
      | zero=>rfl
      | succ i =>
        rw [List.take_add_one,getD_lt 0 (show i < r.length by omega)]
        simp
    rw [List.take_succ_cons,List.take_succ_cons]
    simp only [compI]
    rw [e1,compI1_snoc,e2]
    rfl
structure CmpS (l R:List Int) (k j:Nat):Prop where
  len:R.length=l.length
  pos:0 < k
  lt:k < j
  le:j≤l.length
  tk:R.take k=compI (l.take j)
  dr:R.drop (j - 1)=l.drop (j - 1)
theorem CmpS.get {l R:List Int} {k j:Nat} (h:CmpS l R k j) (i:Nat) (hi:j - 1≤i):R.getD i 0=l.getD i 0:=by
  have h1:(R.drop (j - 1))[i - (j - 1)]?=(l.drop (j - 1))[i - (j - 1)]?:=by rw [h.dr]
  rw [List.getElem?_drop,List.getElem?_drop,show j - 1+(i - (j - 1))=i by omega] at h1
  rw [List.getD_eq_getElem?_getD,List.getD_eq_getElem?_getD,h1]
theorem CmpS.drop1 {l R:List Int} {k j:Nat} (h:CmpS l R k j):R.drop j=l.drop j:=by
  have h1:(R.drop (j - 1)).drop 1=(l.drop (j - 1)).drop 1:=by rw [h.dr]
  have:=h.lt
  rw [List.drop_drop,List.drop_drop,show j - 1+1=j by omega] at h1
  exact h1
theorem CmpS.skip {l R:List Int} {k j:Nat} (h:CmpS l R k j) (hj:j < l.length) (e:l.getD (j - 1) 0=l.getD j 0):CmpS l R k (j+1) :=
  ⟨h.len,h.pos,by have:=h.lt; omega,hj,by rw [h.tk,compI_next (by have:=h.lt; omega) hj,if_pos e],by simpa using h.drop1⟩
theorem CmpS.keep {l R:List Int} {k j:Nat} (h:CmpS l R k j) (hj:j < l.length) (e:¬ l.getD (j - 1) 0=l.getD j 0):CmpS l (R.set k (l.getD j 0)) (k+1) (j+1):=by
  have hlt:=h.lt
  have hlen:=h.len
  refine ⟨by rw [List.length_set]; exact h.len,by omega,by omega,hj,?_,?_⟩
  · rw [List.take_add_one,List.getElem?_set_self (by omega),List.take_set_of_le (Nat.le_refl _),h.tk,compI_next (by omega) hj,if_neg e]; rfl
  · rw [Nat.add_sub_cancel,List.drop_set_of_lt (by omega)]; exact h.drop1
theorem CmpS.init {l:List Int} {k:Nat} (hk:0 < k) (hl:k < l.length) (h:compI (l.take k)=l.take k) (e:l.getD (k - 1) 0=l.getD k 0):CmpS l l k (k+1) :=
  ⟨rfl,hk,by omega,hl,by rw [compI_next hk hl,if_pos e,h],rfl⟩
theorem compact_does (σ:Sto) (f:Nat) (l:List Int) (hl:l.length < 9223372036854775808) (hf:σ.at f 0=some ⟨3,1,l.map (fun z=>[n z]),none⟩) :
    Does Tryz.prog 95 [.own f 0 l.length] σ (Left σ f (inS (compI l))):=by
  refine Does.of_body Tryz.call95 Tryz.func95 k95 (Nat.le_of_ble_eq_true rfl) ?_
  unfold c95
  by_cases h2:l.length < 2
  · have he:compI l=l:=by
      match l,h2 with
      | [],_=>rfl
      | [a],_=>rfl
    rw [he]
    refine AWPC.freeze1 (t:=0) (f:=f) (n:=l.length) (o:=⟨3,1,l.map (fun z=>[n z]),none⟩) rfl hf (by simp) (by simp) ?_
    (repeat' ((first|refine vn rfl ?_|simp (disch:=omega) only [wr64,W7]|refine bo (fun _=>?_) fun _=>?_|refine im fun _=>?_|refine cF ?_|refine om ?_|refine an ?_|fail) <;> try simp only [zN,zT,zV,zS,zU,Q0,Q1,ex,Q2,Q3,Q4,Q5,Q6,Q7,Q8,Q9,QA,QB,QC,W0,W1,W2,W3,W4,W5,W6,reduceIte]))
    all_goals try (exfalso; omega)
    exact .mk [] rfl (by simp)
  · (repeat' ((first|refine vn rfl ?_|simp (disch:=omega) only [wr64,W7]|refine bo (fun _=>?_) fun _=>?_|refine im fun _=>?_|refine cF ?_|refine om ?_|refine an ?_|fail) <;> try simp only [zN,zT,zV,zS,zU,Q0,Q1,ex,Q2,Q3,Q4,Q5,Q6,Q7,Q8,Q9,QA,QB,QC,W0,W1,W2,W3,W4,W5,W6,reduceIte,hf]))
    all_goals try (exfalso; omega)
    refine AWPC.loopS (α:={ k:Nat // 0 < k∧k≤l.length∧compI (l.take k)=l.take k }) [3] (fun k=>[(3,n k.1)]) (fun k=>l.length - k.1) ⟨1,by omega,by omega,by cases l with | nil=>rfl | cons a r=>rfl⟩ ?_ ?_
    · (simp only [zN,zT,zV,zS,zU,Q0,Q1,ex,Q2,Q3,Q4,Q5,Q6,Q7,Q8,Q9,QA,QB,QC,W0,W1,W2,W3,W4,W5,W6,reduceIte]; try simp)
    · rintro ⟨k,hk0,hkl,hc⟩
      simp only at hk0 hkl hc ⊢
      by_cases hlt:k < l.length
      · have hs1:(l.map fun z:Int=>[n z]).getD k []=[n (l.getD k 0)]:=row (f:=fun z:Int=>[n z]) 0 hlt
        have hs0:(l.map fun z:Int=>[n z]).getD ((k:Int) - 1).toNat []=[n (l.getD (k - 1) 0)]:=rowPrev (f:=fun z:Int=>[n z]) 0 hlt
        by_cases e:l.getD (k - 1) 0=l.getD k 0
        · have hI:=CmpS.init hk0 hlt hc e
          rw [e] at hs0
          (repeat' ((first|refine vn rfl ?_|simp (disch:=omega) only [wr64,W7]|refine bo (fun _=>?_) fun _=>?_|refine im fun _=>?_|refine cF ?_|refine om ?_|refine an ?_|fail) <;> try simp only [zN, zT, zV, zS, zU, Q0, Q1, ex, Q2, Q3, Q4, Q5, Q6, Q7, Q8, Q9, QA, QB, QC, W0, W1, W2, W3, W4, W5, W6, reduceIte, hf, hs1, hs0]))
          all_goals try (exfalso; omega)
          refine AWPC.loopE (α:={ x:Nat × Nat × List Int × Sto // 0 < x.2.1∧CmpS l x.2.2.1 x.1 (k+x.2.1) }) [3,5] (fun x=>[(3,n x.1.1),(5,n x.1.2.1)])
            (fun x=>σ.upd f 0 ⟨3,1,x.1.2.2.1.map (fun z=>[n z]),none⟩++x.1.2.2.2) (fun x=>l.length - k - x.1.2.1) ⟨(k,1,l,[]),Nat.one_pos,hI⟩ ?_ (by rw [upd_self hf,List.append_nil]) ?_
          · (simp only [zN,zT,zV,zS,zU,Q0,Q1,ex,Q2,Q3,Q4,Q5,Q6,Q7,Q8,Q9,QA,QB,QC,W0,W1,W2,W3,W4,W5,W6,reduceIte]; try simp)
          · rintro ⟨⟨i,j,R,μ⟩,hj0,hD⟩
            simp only at hj0 hD
            obtain ⟨U,hU⟩:∃ U,U=σ.upd f 0 ⟨3,1,R.map (fun z=>[n z]),none⟩:=⟨_,rfl⟩
            have hflt:=at_lt hf
            have hUl:List.length U=List.length σ:=by rw [hU,upd_length]
            have hA:∀ μ,Sto.at (U++μ) f 0=some ⟨3,1,R.map (fun z=>[n z]),none⟩:=fun μ=>by rw [at_appL (by omega),hU,at_upd_same hf]
            have hB:∀ o μ,Sto.upd (U++μ) f 0 o=σ.upd f 0 o++μ:=fun o μ=>by rw [upd_appL (by omega),hU,upd_upd hf]
            simp only [← hU]
            have hRl:=hD.len
            have hi1:=hD.lt
            by_cases hlt:k+j < l.length
            · have hr1:(R.map fun z:Int=>[n z]).getD (k+j) []=[n (R.getD (k+j) 0)]:=row (f:=fun z:Int=>[n z]) 0 (by omega)
              have hr0:(R.map fun z:Int=>[n z]).getD (k+((j:Int) - 1).toNat) []=[n (R.getD (k+j - 1) 0)]:=by
                rw [show k+((j:Int) - 1).toNat=k+j - 1 by omega]
                exact row (f:=fun z:Int=>[n z]) 0 (by omega)
              rw [hD.get _ (by omega)] at hr1 hr0
              have hw:IntKind.i64.wrap ((j:Int) - 1)=(j:Int) - 1:=by simp (disch:=omega) only [wr64,W7]
              have hsi:(R.map fun z:Int=>[n z]).getD i []=[n (R.getD i 0)]:=row (f:=fun z:Int=>[n z]) 0 (by omega)
              have hset:(R.map fun z:Int=>[n z]).set i [n (l.getD (k+j) 0)]=(R.set i (l.getD (k+j) 0)).map fun z:Int=>[n z]:=by rw [List.map_set]
              by_cases e:l.getD (k+j - 1) 0=l.getD (k+j) 0
              · have hN:=hD.skip hlt e
                rw [e] at hr0
                (repeat' ((first|refine vn rfl ?_|simp (disch:=omega) only [wr64,W7]|refine bo (fun _=>?_) fun _=>?_|refine im fun _=>?_|refine cF ?_|refine om ?_|refine an ?_|fail) <;> try simp only [zN, zT, zV, zS, zU, Q0, Q1, ex, Q2, Q3, Q4, Q5, Q6, Q7, Q8, Q9, QA, QB, QC, W0, W1, W2, W3, W4, W5, W6, reduceIte, hA, hB, hw, hr1, hr0, hRl, at_app, at_app0, upd_app, upd_app0, List.length_map, List.append_assoc, List.cons_append, List.nil_append]))
                all_goals try (exfalso; omega)
                exact ⟨⟨(i,j+1,R,μ),by simp,hN⟩,by simp,by simp [hU],by simp only; omega⟩
              · have hN:=hD.keep hlt e
                have e':¬ l.getD (k+j) 0=l.getD (k+j - 1) 0:=fun h=>e h.symm
                (repeat' ((first|refine vn rfl ?_|simp (disch:=omega) only [wr64,W7]|refine bo (fun _=>?_) fun _=>?_|refine im fun _=>?_|refine cF ?_|refine om ?_|refine an ?_|fail) <;> try simp only [zN, zT, zV, zS, zU, Q0, Q1, ex, Q2, Q3, Q4, Q5, Q6, Q7, Q8, Q9, QA, QB, QC, W0, W1, W2, W3, W4, W5, W6, reduceIte, hA, hB, hw, hr1, hr0, hRl, hsi, hset, e', at_app, at_app0, upd_app, upd_app0, List.length_map, List.append_assoc, List.cons_append, List.nil_append]))
                all_goals try (exfalso; omega)
                exact ⟨⟨(i+1,j+1,R.set i (l.getD (k+j) 0),μ),by simp,hN⟩,by simp,by simp,by simp only; omega⟩
            · have hjl:k+j=l.length:=by have:=hD.le; omega
              have hnl:¬ ((j:Int) < (l.length:Int) - (k:Int)):=by omega
              ((first|refine vn rfl ?_|simp (disch:=omega) only [wr64,W7]|refine bo (fun _=>?_) fun _=>?_|refine im fun _=>?_|refine cF ?_|refine om ?_|refine an ?_|fail) <;> try simp only [zN, zT, zV, zS, zU, Q0, Q1, ex, Q2, Q3, Q4, Q5, Q6, Q7, Q8, Q9, QA, QB, QC, W0, W1, W2, W3, W4, W5, W6, reduceIte, hA, hRl, hnl, List.length_map])
              ((first|refine vn rfl ?_|simp (disch:=omega) only [wr64,W7]|refine bo (fun _=>?_) fun _=>?_|refine im fun _=>?_|refine cF ?_|refine om ?_|refine an ?_|fail) <;> try simp only [zN, zT, zV, zS, zU, Q0, Q1, ex, Q2, Q3, Q4, Q5, Q6, Q7, Q8, Q9, QA, QB, QC, W0, W1, W2, W3, W4, W5, W6, reduceIte, hA, hRl, hnl, List.length_map])
              ((first|refine vn rfl ?_|simp (disch:=omega) only [wr64,W7]|refine bo (fun _=>?_) fun _=>?_|refine im fun _=>?_|refine cF ?_|refine om ?_|refine an ?_|fail) <;> try simp only [zN, zT, zV, zS, zU, Q0, Q1, ex, Q2, Q3, Q4, Q5, Q6, Q7, Q8, Q9, QA, QB, QC, W0, W1, W2, W3, W4, W5, W6, reduceIte, hA, hRl, hnl, List.length_map])
              ((first|refine vn rfl ?_|simp (disch:=omega) only [wr64,W7]|refine bo (fun _=>?_) fun _=>?_|refine im fun _=>?_|refine cF ?_|refine om ?_|refine an ?_|fail) <;> try simp only [zN, zT, zV, zS, zU, Q0, Q1, ex, Q2, Q3, Q4, Q5, Q6, Q7, Q8, Q9, QA, QB, QC, W0, W1, W2, W3, W4, W5, W6, reduceIte, hA, hRl, hnl, List.length_map])
              ((first|refine vn rfl ?_|simp (disch:=omega) only [wr64,W7]|refine bo (fun _=>?_) fun _=>?_|refine im fun _=>?_|refine cF ?_|refine om ?_|refine an ?_|fail) <;> try simp only [zN, zT, zV, zS, zU, Q0, Q1, ex, Q2, Q3, Q4, Q5, Q6, Q7, Q8, Q9, QA, QB, QC, W0, W1, W2, W3, W4, W5, W6, reduceIte, hA, hB, hRl, List.length_map])
              have hm1:(List.take i (R.map fun z:Int=>[n z])).length=i:=by rw [List.length_take,List.length_map]; omega
              have hfin:R.take i=compI l:=by rw [hD.tk,hjl,List.take_length]
              refine AWPC.freeze1 (t:=0) (f:=f) (n:=l.length) (o:=⟨3,1,List.take i (R.map fun z=>[n z])++List.replicate (l.length - i) [n 0],none⟩) rfl (by rw [at_appL (by rw [upd_length]; omega),at_upd_same hf])
                (by simp only [List.length_append,hm1,List.length_replicate]; omega) (by simp) ?_
              have hlen2:((List.take i (R.map fun z:Int=>[n z])++List.replicate (l.length - i) [n 0]).length:Int)=l.length:=by simp only [List.length_append,hm1,List.length_replicate]; omega
              have htk2:List.take i (List.take i (R.map fun z:Int=>[n z])++List.replicate (l.length - i) [n 0])=(compI l).map fun z:Int=>[n z]:=by
                rw [List.take_append_of_le_length (by omega),List.take_take,Nat.min_self,← List.map_take,hfin]
              generalize List.take i (R.map fun z:Int=>[n z])++List.replicate (l.length - i) [n 0]=es at hlen2 htk2
              (repeat' ((first|refine vn rfl ?_|simp (disch:=omega) only [wr64,W7]|refine bo (fun _=>?_) fun _=>?_|refine im fun _=>?_|refine cF ?_|refine om ?_|refine an ?_|fail) <;> try simp only [zN, zT, zV, zS, zU, Q0, Q1, ex, Q2, Q3, Q4, Q5, Q6, Q7, Q8, Q9, QA, QB, QC, W0, W1, W2, W3, W4, W5, W6, reduceIte, hlen2, htk2]))
              refine ⟨by simp [sideL,ov,gt,cnd],⟨by omega,by omega,by omega⟩,?_⟩
              (repeat' ((first|refine vn rfl ?_|simp (disch:=omega) only [wr64,W7]|refine bo (fun _=>?_) fun _=>?_|refine im fun _=>?_|refine cF ?_|refine om ?_|refine an ?_|fail) <;> try simp only [zN, zT, zV, zS, zU, Q0, Q1, ex, Q2, Q3, Q4, Q5, Q6, Q7, Q8, Q9, QA, QB, QC, W0, W1, W2, W3, W4, W5, W6, reduceIte]))
              exact .mk μ rfl (gone_upd hf)
        · have e':¬ l.getD k 0=l.getD (k - 1) 0:=fun h=>e h.symm
          have hN:compI (l.take (k+1))=l.take (k+1):=by rw [compI_next hk0 hlt,if_neg e,hc,List.take_add_one,getD_lt 0 hlt]; rfl
          (repeat' ((first|refine vn rfl ?_|simp (disch:=omega) only [wr64,W7]|refine bo (fun _=>?_) fun _=>?_|refine im fun _=>?_|refine cF ?_|refine om ?_|refine an ?_|fail) <;> try simp only [zN, zT, zV, zS, zU, Q0, Q1, ex, Q2, Q3, Q4, Q5, Q6, Q7, Q8, Q9, QA, QB, QC, W0, W1, W2, W3, W4, W5, W6, reduceIte, hf, hs1, hs0, e']))
          all_goals try (exfalso; omega)
          exact ⟨⟨k+1,by omega,hlt,hN⟩,by simp,by simp only; omega⟩
      · obtain rfl:k=l.length:=by omega
        rw [List.take_length] at hc
        rw [hc]
        refine AWPC.freeze1 (t:=0) (f:=f) (n:=l.length) (o:=⟨3,1,l.map (fun z=>[n z]),none⟩) rfl hf (by simp) (by simp) ?_
        (repeat' ((first|refine vn rfl ?_|simp (disch:=omega) only [wr64,W7]|refine bo (fun _=>?_) fun _=>?_|refine im fun _=>?_|refine cF ?_|refine om ?_|refine an ?_|fail) <;> try simp only [zN, zT, zV, zS, zU, Q0, Q1, ex, Q2, Q3, Q4, Q5, Q6, Q7, Q8, Q9, QA, QB, QC, W0, W1, W2, W3, W4, W5, W6, reduceIte]))
        all_goals try (exfalso; omega)
        exact .mk [] rfl (by simp)
theorem sortI_does (σ:Sto) (f:Nat) (l:List Int) (hf:σ.at f 0=some ⟨3,1,l.map (fun z=>[n z]),none⟩) (hl:l.length < 4611686018427387904) :
    Does Tryz.prog 94 [.own f 0 l.length] σ (fun _ σ'=>σ'=σ.upd f 0 ⟨3,1,(srtI l).map (fun z=>[n z]),none⟩) :=
  sort_ints Tryz.slices_Sort_int Tryz.slices_Sort_int_none Tryz.call94 σ f 3 l hf hl
theorem mapsnoc {α:Type} {g:α→Int} {l:List α} {i:Nat} (d:α) (h:i < l.length):(l.take (i+1)).map g=(l.take i).map g++[g (l.getD i d)]:=by rw [List.take_add_one,getD_lt d h]; simp
theorem Weeks_spec (r:Rgr) (hs:r.sheets.length < 1099511627776) (hr:r.reads.length < 1099511627776):Pure Tryz.prog 36 [.agg r.cs] (.tup [inS (weeksT r),n 0]):=by
  refine Pure.of_body Tryz.call36 Tryz.func36 k36 (Nat.le_of_ble_eq_true rfl) ?_
  unfold c36
  obtain ⟨d,hd⟩:∃ d:Fld,True:=⟨⟨nm0,0,0,sht0,[],[]⟩,trivial⟩
  (repeat' ((first|refine vn rfl ?_|simp (disch:=omega) only [wr64,W7]|refine bo (fun _=>?_) fun _=>?_|refine im fun _=>?_|refine cF ?_|refine om ?_|refine an ?_|fail) <;> try simp only [zN,zT,zV,zS,zU,Q0,Q1,ex,Q2,Q3,Q4,Q5,Q6,Q7,Q8,Q9,QA,QB,QC,W0,W1,W2,W3,W4,W5,W6,reduceIte]))
  refine AWPC.own0 3 1 4 rfl ?_
  refine AWPC.loopE (α:={ x:Nat × List Int × Sto // x.1≤r.sheets.length∧x.2.1=(r.sheets.take x.1).map Fld.week }) [4,12] (fun x=>[(4,.own 0 0 x.1.2.1.length),(12,n x.1.1)])
    (fun x=>some [⟨3,1,x.1.2.1.map (fun z=>[n z]),none⟩]::x.1.2.2) (fun x=>r.sheets.length - x.1.1) ⟨(0,[],[]),Nat.zero_le _,rfl⟩ ?_ rfl ?_
  · (simp only [zN,zT,zV,zS,zU,Q0,Q1,ex,Q2,Q3,Q4,Q5,Q6,Q7,Q8,Q9,QA,QB,QC,W0,W1,W2,W3,W4,W5,W6,reduceIte]; try simp)
  · rintro ⟨⟨i,W,ν⟩,hi,hW⟩
    simp only at hi hW
    have hWl:W.length=i:=by rw [hW,List.length_map,List.length_take]; omega
    generalize hM:W.map (fun z=>[n z])=M
    have hMl:M.length=i:=by rw [← hM,List.length_map]; exact hWl
    simp only [hM]
    by_cases hlt:i < r.sheets.length
    · have hx:(r.sheets.map Fld.cs).getD i []=Fld.cs (r.sheets.getD i d):=row d hlt
      have hN:=mapsnoc (g:=Fld.week) d hlt
      rw [← hW] at hN
      generalize r.sheets.getD i d=x at hx hN
      (repeat' ((first|refine vn rfl ?_|simp (disch:=omega) only [wr64,W7]|refine bo (fun _=>?_) fun _=>?_|refine im fun _=>?_|refine cF ?_|refine om ?_|refine an ?_|fail) <;> try simp only [zN,zT,zV,zS,zU,Q0,Q1,ex,Q2,Q3,Q4,Q5,Q6,Q7,Q8,Q9,QA,QB,QC,W0,W1,W2,W3,W4,W5,W6,reduceIte,hx,hMl,hWl]))
      all_goals try (exfalso; omega)
      refine ⟨⟨(i+1,W++[x.week],ν++[some [⟨72,24,[x.cs],none⟩]]),hlt,hN.symm⟩,?_,?_,by simp only; omega⟩
      · simp [hWl]
      · simp [← hM]
    · obtain rfl:i=r.sheets.length:=by omega
      rw [List.take_length] at hW
      (repeat' ((first|refine vn rfl ?_|simp (disch:=omega) only [wr64,W7]|refine bo (fun _=>?_) fun _=>?_|refine im fun _=>?_|refine cF ?_|refine om ?_|refine an ?_|fail) <;> try simp only [zN,zT,zV,zS,zU,Q0,Q1,ex,Q2,Q3,Q4,Q5,Q6,Q7,Q8,Q9,QA,QB,QC,W0,W1,W2,W3,W4,W5,W6,reduceIte,hWl]))
      all_goals try (exfalso; omega)
      refine AWPC.loopE (α:={ x:Nat × List Int × Sto // x.1≤r.reads.length∧x.2.1=r.sheets.map Fld.week++(r.reads.take x.1).map Rd.week }) [4,25] (fun x=>[(4,.own 0 0 x.1.2.1.length),(25,n x.1.1)])
        (fun x=>some [⟨3,1,x.1.2.1.map (fun z=>[n z]),none⟩]::x.1.2.2) (fun x=>r.reads.length - x.1.1) ⟨(0,W,ν),Nat.zero_le _,by simp [hW]⟩ ?_ (by rw [← hM]) ?_
      · simp only [hWl]; (simp only [zN,zT,zV,zS,zU,Q0,Q1,ex,Q2,Q3,Q4,Q5,Q6,Q7,Q8,Q9,QA,QB,QC,W0,W1,W2,W3,W4,W5,W6,reduceIte]; try simp)
      · rintro ⟨⟨i,V,ν⟩,hi,hV⟩
        simp only at hi hV
        have hVl:V.length=r.sheets.length+i:=by rw [hV,List.length_append,List.length_map,List.length_map,List.length_take]; omega
        by_cases hlt:i < r.reads.length
        · generalize hM:V.map (fun z=>[n z])=M
          have hMl:M.length=r.sheets.length+i:=by rw [← hM,List.length_map]; exact hVl
          simp only [hM]
          have hx:(r.reads.map Rd.cs).getD i []=Rd.cs (r.reads.getD i rd0):=row rd0 hlt
          have hN:=mapsnoc (g:=Rd.week) rd0 hlt
          generalize r.reads.getD i rd0=x at hx hN
          (repeat' ((first|refine vn rfl ?_|simp (disch:=omega) only [wr64,W7]|refine bo (fun _=>?_) fun _=>?_|refine im fun _=>?_|refine cF ?_|refine om ?_|refine an ?_|fail) <;> try simp only [zN, zT, zV, zS, zU, Q0, Q1, ex, Q2, Q3, Q4, Q5, Q6, Q7, Q8, Q9, QA, QB, QC, W0, W1, W2, W3, W4, W5, W6, reduceIte, hx, hMl, hVl]))
          all_goals try (exfalso; omega)
          refine ⟨⟨(i+1,V++[x.week],ν++[some [⟨64,5,[x.cs],none⟩]]),hlt,by simp only; rw [hN,hV,List.append_assoc]⟩,?_,?_,by simp only; omega⟩
          · simp [hVl,Nat.add_assoc]
          · simp [← hM]
        · obtain rfl:i=r.reads.length:=by omega
          rw [List.take_length] at hV
          rw [show weeksT r=compI (srtI V) by rw [hV]; rfl]
          have hSl:(srtI V).length=V.length:=(srtI_perm V).length_eq
          (repeat' ((first|refine vn rfl ?_|simp (disch:=omega) only [wr64,W7]|refine bo (fun _=>?_) fun _=>?_|refine im fun _=>?_|refine cF ?_|refine om ?_|refine an ?_|fail) <;> try simp only [zN, zT, zV, zS, zU, Q0, Q1, ex, Q2, Q3, Q4, Q5, Q6, Q7, Q8, Q9, QA, QB, QC, W0, W1, W2, W3, W4, W5, W6, reduceIte]))
          all_goals try (exfalso; omega)
          refine .inr (.inl ⟨_,_,_,_,rfl,fun _=>⟨sortI_does _ 0 V rfl (by omega),?_⟩,fun h=>by cases h⟩)
          rintro r1 σ1 rfl
          refine owp_of_exs ?_
          simp only [zN,zT,zV,zS,zU,Q0,Q1,ex,Q2,Q3,Q4,Q5,Q6,Q7,Q8,Q9,QA,QB,QC,W0,W1,W2,W3,W4,W5,W6,reduceIte]
          (repeat' ((first|refine vn rfl ?_|simp (disch:=omega) only [wr64,W7]|refine bo (fun _=>?_) fun _=>?_|refine im fun _=>?_|refine cF ?_|refine om ?_|refine an ?_|fail) <;> try simp only [zN, zT, zV, zS, zU, Q0, Q1, ex, Q2, Q3, Q4, Q5, Q6, Q7, Q8, Q9, QA, QB, QC, W0, W1, W2, W3, W4, W5, W6, reduceIte]))
          refine .inr (.inl ⟨_,_,_,_,rfl,fun _=>⟨by rw [← hSl]; exact compact_does _ 0 (srtI V) (by omega) rfl,?_⟩,fun h=>by cases h⟩)
          rintro r1 σ1 ⟨ν1,rfl,rfl⟩
          refine owp_of_exs ?_
          simp only [zN,zT,zV,zS,zU,Q0,Q1,ex,Q2,Q3,Q4,Q5,Q6,Q7,Q8,Q9,QA,QB,QC,W0,W1,W2,W3,W4,W5,W6,reduceIte]
          (repeat' ((first|refine vn rfl ?_|simp (disch:=omega) only [wr64,W7]|refine bo (fun _=>?_) fun _=>?_|refine im fun _=>?_|refine cF ?_|refine om ?_|refine an ?_|fail) <;> try simp only [zN, zT, zV, zS, zU, Q0, Q1, ex, Q2, Q3, Q4, Q5, Q6, Q7, Q8, Q9, QA, QB, QC, W0, W1, W2, W3, W4, W5, W6, reduceIte]))
          exact Frz.tupL ⟨Frz.pure (by simp),Frz.pure (by simp),trivial⟩
def c213:CF:=⟨53,
 (.seq (.ops [
 ⟨some 10,.mv (.t 1),none⟩,
 ⟨some 11,.bin .add (.t 10) (.c (.int .i64 1)),none⟩,
 ⟨some 8,.mv (.t 11),none⟩] [0,1,2,3,8])
 (.block 0 (.loop (.seq (.seq (.ops [
 ⟨some 12,.mv (.t 8),none⟩,
 ⟨some 13,.mv (.t 2),none⟩,
 ⟨some 14,.bin .lss (.t 12) (.t 13),none⟩] [0,1,2,3,8,14])
 (.cond (.t 14) .skip
 (.exit 0)))
 (.seq (.block 1 (.seq (.ops [
 ⟨some 17,.mv (.t 8),none⟩,
 ⟨some 9,.mv (.t 17),none⟩] [0,1,2,3,8,9])
 (.block 2 (.loop (.seq (.seq (.draw [
 ⟨some 18,.mv (.t 9),none⟩,
 ⟨some 19,.mv (.t 1),none⟩,
 ⟨some 20,.bin .gtr (.t 18) (.t 19),none⟩,
 ⟨some 21,.mv (.t 20),none⟩,
 ⟨some 22,.mv (.t 3),some (21,true)⟩,
 ⟨some 23,.mv (.t 0),some (21,true)⟩,
 ⟨some 24,.mv (.t 9),some (21,true)⟩,
 ⟨some 25,.iaddr 24 (.t 23) (.t 24),some (21,true)⟩,
 ⟨some 26,.load (some 24) (.t 25),some (21,true)⟩,
 ⟨some 27,.mv (.t 0),some (21,true)⟩,
 ⟨some 28,.mv (.t 9),some (21,true)⟩,
 ⟨some 29,.bin .sub (.t 28) (.c (.int .i64 1)),some (21,true)⟩,
 ⟨some 30,.iaddr 24 (.t 27) (.t 29),some (21,true)⟩,
 ⟨some 31,.load (some 24) (.t 30),some (21,true)⟩] [
 ⟨some 32,.call (.t 22) [(.t 26),(.t 31)],some (21,true)⟩,
 ⟨some 33,.bin .lss (.t 32) (.c (.int .i64 0)),some (21,true)⟩,
 ⟨some 34,.pick (.t 21) (.t 33) (.c (.bool false)),none⟩] [0,1,2,3,8,9,34])
 (.cond (.t 34) .skip
 (.exit 2)))
 (.seq (.block 3 (.draww [0,1,2,3,4,5,6,7,8,9,10,11,12,13,14,15,16,17] [2,3,4] 1 [
 ⟨some 37,.mv (.t 0),none⟩,
 ⟨some 38,.mv (.t 9),none⟩,
 ⟨some 39,.mv (.t 0),none⟩,
 ⟨some 40,.mv (.t 9),none⟩,
 ⟨some 41,.bin .sub (.t 40) (.c (.int .i64 1)),none⟩,
 ⟨some 42,.mv (.t 0),none⟩,
 ⟨some 43,.mv (.t 9),none⟩,
 ⟨some 44,.bin .sub (.t 43) (.c (.int .i64 1)),none⟩,
 ⟨some 45,.iaddr 24 (.t 42) (.t 44),none⟩,
 ⟨some 46,.load (some 24) (.t 45),none⟩,
 ⟨some 47,.mv (.t 0),none⟩,
 ⟨some 48,.mv (.t 9),none⟩,
 ⟨some 49,.iaddr 24 (.t 47) (.t 48),none⟩,
 ⟨some 50,.load (some 24) (.t 49),none⟩,
 ⟨some 51,.iaddr 24 (.t 37) (.t 38),none⟩] [
 ⟨none,.store 24 (.t 51) (.t 46),none⟩,
 ⟨some 52,.iaddr 24 (.t 39) (.t 41),none⟩,
 ⟨none,.store 24 (.t 52) (.t 50),none⟩] [0,1,2,3,8,9]))
 (.ops [
 ⟨some 35,.mv (.t 9),none⟩,
 ⟨some 36,.bin .sub (.t 35) (.c (.int .i64 1)),none⟩,
 ⟨some 9,.mv (.t 36),none⟩] [0,1,2,3,8,9])))))))
 (.ops [
 ⟨some 15,.mv (.t 8),none⟩,
 ⟨some 16,.bin .add (.t 15) (.c (.int .i64 1)),none⟩,
 ⟨some 8,.mv (.t 16),none⟩] [0,1,2,3,8])))))),
 []⟩
theorem k213:chkF Tryz.prog Tryz.f213 c213=true:=by kernel_rfl
def c167:CF:=⟨63,
 (.seq (.ops [
 ⟨some 6,.mv (.c (.int .i64 20)),none⟩] [0,1,2,6])
 (.seq (.ops [
 ⟨some 10,.mv (.t 6),none⟩,
 ⟨some 7,.mv (.c (.int .i64 0)),none⟩,
 ⟨some 8,.mv (.t 10),none⟩] [0,1,2,6,7,8])
 (.seq (.block 0 (.loop (.seq (.seq (.ops [
 ⟨some 11,.mv (.t 8),none⟩,
 ⟨some 12,.mv (.t 1),none⟩,
 ⟨some 13,.bin .leq (.t 11) (.t 12),none⟩] [0,1,2,6,7,8,13])
 (.cond (.t 13) .skip
 (.exit 0)))
 (.block 1 (.seq (.ops [
 ⟨some 14,.mv (.t 0),none⟩,
 ⟨some 15,.mv (.t 7),none⟩,
 ⟨some 16,.mv (.t 8),none⟩,
 ⟨some 17,.mv (.t 2),none⟩,
 ⟨some 18,.call (.f 213) [(.t 14),(.t 15),(.t 16),(.t 17)],none⟩] [0,1,2,6,8])
 (.seq (.ops [
 ⟨some 19,.mv (.t 8),none⟩,
 ⟨some 7,.mv (.t 19),none⟩] [0,1,2,6,7,8])
 (.ops [
 ⟨some 20,.mv (.t 8),none⟩,
 ⟨some 21,.mv (.t 6),none⟩,
 ⟨some 22,.bin .add (.t 20) (.t 21),none⟩,
 ⟨some 8,.mv (.t 22),none⟩] [0,1,2,6,7,8])))))))
 (.seq (.ops [
 ⟨some 23,.mv (.t 0),none⟩,
 ⟨some 24,.mv (.t 7),none⟩,
 ⟨some 25,.mv (.t 1),none⟩,
 ⟨some 26,.mv (.t 2),none⟩,
 ⟨some 27,.call (.f 213) [(.t 23),(.t 24),(.t 25),(.t 26)],none⟩] [0,1,2,6])
 (.block 2 (.loop (.seq (.seq (.ops [
 ⟨some 28,.mv (.t 6),none⟩,
 ⟨some 29,.mv (.t 1),none⟩,
 ⟨some 30,.bin .lss (.t 28) (.t 29),none⟩] [0,1,2,6,30])
 (.cond (.t 30) .skip
 (.exit 2)))
 (.block 3 (.seq (.ops [
 ⟨some 31,.mv (.t 6),none⟩,
 ⟨some 32,.bin .mul (.c (.int .i64 2)) (.t 31),none⟩,
 ⟨some 7,.mv (.c (.int .i64 0)),none⟩,
 ⟨some 8,.mv (.t 32),none⟩] [0,1,2,6,7,8])
 (.seq (.block 4 (.loop (.seq (.seq (.ops [
 ⟨some 33,.mv (.t 8),none⟩,
 ⟨some 34,.mv (.t 1),none⟩,
 ⟨some 35,.bin .leq (.t 33) (.t 34),none⟩] [0,1,2,6,7,8,35])
 (.cond (.t 35) .skip
 (.exit 4)))
 (.block 5 (.seq (.ops [
 ⟨some 36,.mv (.t 0),none⟩,
 ⟨some 37,.mv (.t 7),none⟩,
 ⟨some 38,.mv (.t 7),none⟩,
 ⟨some 39,.mv (.t 6),none⟩,
 ⟨some 40,.bin .add (.t 38) (.t 39),none⟩,
 ⟨some 41,.mv (.t 8),none⟩,
 ⟨some 42,.mv (.t 2),none⟩,
 ⟨some 43,.call (.f 214) [(.t 36),(.t 37),(.t 40),(.t 41),(.t 42)],none⟩] [0,1,2,6,8])
 (.seq (.ops [
 ⟨some 44,.mv (.t 8),none⟩,
 ⟨some 7,.mv (.t 44),none⟩] [0,1,2,6,7,8])
 (.ops [
 ⟨some 45,.mv (.t 8),none⟩,
 ⟨some 46,.mv (.t 6),none⟩,
 ⟨some 47,.bin .mul (.c (.int .i64 2)) (.t 46),none⟩,
 ⟨some 48,.bin .add (.t 45) (.t 47),none⟩,
 ⟨some 8,.mv (.t 48),none⟩] [0,1,2,6,7,8])))))))
 (.seq (.seq (.ops [
 ⟨some 49,.mv (.t 7),none⟩,
 ⟨some 50,.mv (.t 6),none⟩,
 ⟨some 51,.bin .add (.t 49) (.t 50),none⟩,
 ⟨some 9,.mv (.t 51),none⟩] [0,1,2,6,7,9])
 (.seq (.ops [
 ⟨some 52,.mv (.t 9),none⟩,
 ⟨some 53,.mv (.t 1),none⟩,
 ⟨some 54,.bin .lss (.t 52) (.t 53),none⟩] [0,1,2,6,7,9,54])
 (.cond (.t 54) (.ops [
 ⟨some 55,.mv (.t 0),none⟩,
 ⟨some 56,.mv (.t 7),none⟩,
 ⟨some 57,.mv (.t 9),none⟩,
 ⟨some 58,.mv (.t 1),none⟩,
 ⟨some 59,.mv (.t 2),none⟩,
 ⟨some 60,.call (.f 214) [(.t 55),(.t 56),(.t 57),(.t 58),(.t 59)],none⟩] [0,1,2,6])
 .skip)))
 (.ops [
 ⟨some 61,.mv (.t 6),none⟩,
 ⟨some 62,.bin .mul (.t 61) (.c (.int .i64 2)),none⟩,
 ⟨some 6,.mv (.t 62),none⟩] [0,1,2,6])))))))))))),
 []⟩
theorem k167:chkF Tryz.prog Tryz.f167 c167=true:=by kernel_rfl
def c99:CF:=⟨9,
 (.ops [
 ⟨some 4,.mv (.t 0),none⟩,
 ⟨some 5,.mv (.t 0),none⟩,
 ⟨some 6,.len (.t 5),none⟩,
 ⟨some 7,.mv (.t 1),none⟩,
 ⟨some 8,.call (.f 167) [(.t 4),(.t 6),(.t 7)],none⟩] []),
 []⟩
theorem k99:chkF Tryz.prog Tryz.f99 c99=true:=by kernel_rfl
def c37:CF:=⟨84,
 (.seq (.ops [
 ⟨some 3,.box false 26 6 (.t 0),none⟩,
 ⟨some 4,.box false 37 4 (.t 1),none⟩,
 ⟨some 6,.alloc 86 9 [.slice none 0 0,.int .i64 0,.int .i64 0,.int .i64 0,.int .i64 0,.int .i64 0,.int .i64 0,.slice none 0 0,.slice none 0 0],none⟩,
 ⟨some 7,.mv (.c (.int .i64 0)),none⟩] [2,3,4,6])
 (.seq (.seq (.ops [
 ⟨some 14,.load (some 6) (.t 3),none⟩,
 ⟨some 15,.call (.f 43) [(.t 14)],none⟩,
 ⟨some 8,.mv (.t 15),none⟩] [2,3,4,6,8])
 (.seq (.ops [
 ⟨some 16,.mv (.t 8),none⟩,
 ⟨some 17,.bin .neq (.t 16) (.c (.int .i64 0)),none⟩] [2,3,4,6,8,17])
 (.cond (.t 17) (.seq (.ops [
 ⟨some 18,.build [.slice none 0 0,.int .i64 0,.int .i64 0,.int .i64 0,.int .i64 0,.int .i64 0,.int .i64 0,.slice none 0 0,.slice none 0 0] [],none⟩,
 ⟨some 19,.mv (.t 8),none⟩,
 ⟨none,.store 9 (.t 6) (.t 18),none⟩,
 ⟨some 7,.mv (.t 19),none⟩] [6,7])
 .ret)
 .skip)))
 (.seq (.seq (.ops [
 ⟨some 20,.mv (.t 2),none⟩,
 ⟨some 21,.call (.f 96) [(.t 20),(.c (.int .i64 0)),(.c (.int .i64 10000))],none⟩,
 ⟨some 22,.un .not (.t 21),none⟩] [2,3,4,6,22])
 (.cond (.t 22) (.seq (.ops [
 ⟨some 23,.build [.slice none 0 0,.int .i64 0,.int .i64 0,.int .i64 0,.int .i64 0,.int .i64 0,.int .i64 0,.slice none 0 0,.slice none 0 0] [],none⟩,
 ⟨none,.store 9 (.t 6) (.t 23),none⟩,
 ⟨some 7,.mv (.c (.int .i64 1)),none⟩] [6,7])
 .ret)
 .skip))
 (.seq (.ops [
 ⟨some 24,.load (some 6) (.t 3),none⟩,
 ⟨some 25,.mv (.t 2),none⟩,
 ⟨some 26,.build [.slice none 0 0,.int .i64 0,.int .i64 0,.int .i64 0,.int .i64 0,.int .i64 0,.int .i64 0,.slice none 0 0,.slice none 0 0] [(0,6,(.t 24)),(6,1,(.t 25))],none⟩,
 ⟨some 9,.alloc 86 9 [.slice none 0 0,.int .i64 0,.int .i64 0,.int .i64 0,.int .i64 0,.int .i64 0,.int .i64 0,.slice none 0 0,.slice none 0 0],none⟩,
 ⟨none,.store 9 (.t 9) (.t 26),none⟩] [2,4,6,9])
 (.seq (.ops [
 ⟨some 27,.faddr 2 (.t 4),none⟩,
 ⟨some 28,.load none (.t 27),none⟩,
 ⟨some 29,.call (.f 97) [(.t 28)],none⟩,
 ⟨some 30,.faddr 0 (.t 9),none⟩,
 ⟨some 31,.faddr 0 (.t 30),none⟩,
 ⟨none,.store 1 (.t 31) (.t 29),none⟩] [2,4,6,9])
 (.seq (.seq (.ops [
 ⟨some 32,.faddr 0 (.t 4),none⟩,
 ⟨some 33,.load none (.t 32),none⟩,
 ⟨some 34,.len (.t 33),none⟩,
 ⟨some 35,.mv (.c (.int .i64 0)),none⟩] [2,4,6,9,33,34,35])
 (.block 0 (.loop (.seq (.ops [
 ⟨some 36,.bin .lss (.t 35) (.t 34),none⟩] [2,4,6,9,33,34,35,36])
 (.seq (.cond (.t 36) .skip
 (.exit 0))
 (.seq (.block 1 (.seq (.ops [
 ⟨some 37,.iaddr 24 (.t 33) (.t 35),none⟩,
 ⟨some 38,.load (some 24) (.t 37),none⟩,
 ⟨some 11,.alloc 72 24 z24,none⟩,
 ⟨none,.store 24 (.t 11) (.t 38),none⟩] [2,4,6,9,11,33,34,35])
 (.seq (.ops [
 ⟨some 39,.faddr 3 (.t 11),none⟩,
 ⟨some 40,.load none (.t 39),none⟩,
 ⟨some 41,.mv (.t 2),none⟩,
 ⟨some 42,.bin .eql (.t 40) (.t 41),none⟩] [2,4,6,9,11,33,34,35,42])
 (.cond (.t 42) (.draw [
 ⟨some 43,.faddr 7 (.t 9),none⟩,
 ⟨some 44,.load none (.t 43),none⟩,
 ⟨some 45,.load (some 24) (.t 11),none⟩,
 ⟨some 46,.call (.f 98) [(.t 45)],none⟩,
 ⟨some 47,.bsl false 72 24 1 z24 [(0,24,(.t 46))],none⟩] [
 ⟨some 48,.app 72 24 288 (.t 44) (.t 47),none⟩,
 ⟨some 49,.faddr 7 (.t 9),none⟩,
 ⟨none,.store 1 (.t 49) (.t 48),none⟩] [2,4,6,9,33,34,35])
 .skip))))
 (.ops [
 ⟨some 50,.bin .add (.t 35) (.c (.int .i64 1)),none⟩,
 ⟨some 35,.mv (.t 50),none⟩] [2,4,6,9,33,34,35])))))))
 (.seq (.ops [
 ⟨some 51,.faddr 7 (.t 9),none⟩,
 ⟨some 52,.load none (.t 51),none⟩,
 ⟨some 53,.call (.f 99) [(.t 52),(.f 100)],none⟩] [2,4,6,9])
 (.seq (.seq (.ops [
 ⟨some 54,.faddr 1 (.t 4),none⟩,
 ⟨some 55,.load none (.t 54),none⟩,
 ⟨some 56,.len (.t 55),none⟩,
 ⟨some 57,.mv (.c (.int .i64 0)),none⟩] [2,6,9,55,56,57])
 (.block 2 (.loop (.seq (.ops [
 ⟨some 58,.bin .lss (.t 57) (.t 56),none⟩] [2,6,9,55,56,57,58])
 (.seq (.cond (.t 58) .skip
 (.exit 2))
 (.seq (.block 3 (.seq (.ops [
 ⟨some 59,.iaddr 5 (.t 55) (.t 57),none⟩,
 ⟨some 60,.load (some 5) (.t 59),none⟩,
 ⟨some 13,.alloc 64 5 [.int .i64 0,.int .i64 0,.int .i64 0,.int .i64 0,.int .i64 0],none⟩,
 ⟨none,.store 5 (.t 13) (.t 60),none⟩] [2,6,9,13,55,56,57])
 (.seq (.ops [
 ⟨some 61,.faddr 1 (.t 13),none⟩,
 ⟨some 62,.load none (.t 61),none⟩,
 ⟨some 63,.mv (.t 2),none⟩,
 ⟨some 64,.bin .eql (.t 62) (.t 63),none⟩] [2,6,9,13,55,56,57,64])
 (.cond (.t 64) (.ops [
 ⟨some 65,.faddr 8 (.t 9),none⟩,
 ⟨some 66,.load none (.t 65),none⟩,
 ⟨some 67,.load (some 5) (.t 13),none⟩,
 ⟨some 68,.bsl false 64 5 1 [.int .i64 0,.int .i64 0,.int .i64 0,.int .i64 0,.int .i64 0] [(0,5,(.t 67))],none⟩,
 ⟨some 69,.app 64 5 40 (.t 66) (.t 68),none⟩,
 ⟨some 70,.faddr 8 (.t 9),none⟩,
 ⟨none,.store 1 (.t 70) (.t 69),none⟩] [2,6,9,55,56,57])
 .skip))))
 (.ops [
 ⟨some 71,.bin .add (.t 57) (.c (.int .i64 1)),none⟩,
 ⟨some 57,.mv (.t 71),none⟩] [2,6,9,55,56,57])))))))
 (.seq (.seq (.ops [
 ⟨some 72,.faddr 7 (.t 9),none⟩,
 ⟨some 73,.load none (.t 72),none⟩,
 ⟨some 74,.len (.t 73),none⟩,
 ⟨some 75,.bin .gtr (.t 74) (.c (.int .i64 64)),none⟩,
 ⟨some 76,.mv (.t 75),none⟩,
 ⟨some 77,.faddr 8 (.t 9),some (76,false)⟩,
 ⟨some 78,.load none (.t 77),some (76,false)⟩,
 ⟨some 79,.len (.t 78),some (76,false)⟩,
 ⟨some 80,.bin .gtr (.t 79) (.c (.int .i64 64)),some (76,false)⟩,
 ⟨some 81,.pick (.t 76) (.c (.bool true)) (.t 80),none⟩] [6,9,81])
 (.cond (.t 81) (.seq (.ops [
 ⟨some 82,.build [.slice none 0 0,.int .i64 0,.int .i64 0,.int .i64 0,.int .i64 0,.int .i64 0,.int .i64 0,.slice none 0 0,.slice none 0 0] [],none⟩,
 ⟨none,.store 9 (.t 6) (.t 82),none⟩,
 ⟨some 7,.mv (.c (.int .i64 2)),none⟩] [6,7])
 .ret)
 .skip))
 (.seq (.ops [
 ⟨some 83,.load (some 9) (.t 9),none⟩,
 ⟨none,.store 9 (.t 6) (.t 83),none⟩,
 ⟨some 7,.mv (.c (.int .i64 0)),none⟩] [6,7])
 .ret)))))))))),
 [.c 6 (some 9),.t 7]⟩
theorem k37:chkF Tryz.prog Tryz.f37 c37=true:=by kernel_rfl
def SortF (K:List Fld→Prop):Prop:=∀ (σ:Sto) (f:Nat) (l:List Fld),K l→σ.at f 0=some ⟨72,24,l.map Fld.cs,none⟩ →
  Does Tryz.prog 99 [.own f 0 l.length,.fn (.func 100) [] []] σ (fun _ σ'=>σ'=σ.upd f 0 ⟨72,24,(srtF l).map Fld.cs,none⟩)
theorem insertion0 (σ:Sto) (f:Nat) (m:Nat) (hm:m≤1):Does Tryz.prog 213 [.own f 0 m,n 0,n m,.fn (.func 100) [] []] σ (fun _ σ'=>σ'=σ):=by
  refine Does.of_body Tryz.call213 Tryz.func213 k213 (Nat.le_of_ble_eq_true rfl) ?_
  unfold c213
  (repeat' ((first|refine vn rfl ?_|simp (disch:=omega) only [wr64,W7]|refine bo (fun _=>?_) fun _=>?_|refine im fun _=>?_|refine cF ?_|refine om ?_|refine an ?_|fail) <;> try simp only [zN,zT,zV,zS,zU,Q0,Q1,ex,Q2,Q3,Q4,Q5,Q6,Q7,Q8,Q9,QA,QB,QC,W0,W1,W2,W3,W4,W5,W6,reduceIte]))
  refine AWPC.loopS (α:=Unit) [8] (fun _=>[(8,n 1)]) (fun _=>0) () ?_ ?_
  · (simp only [zN,zT,zV,zS,zU,Q0,Q1,ex,Q2,Q3,Q4,Q5,Q6,Q7,Q8,Q9,QA,QB,QC,W0,W1,W2,W3,W4,W5,W6,reduceIte]; try simp)
  · rintro ⟨⟩
    (repeat' ((first|refine vn rfl ?_|simp (disch:=omega) only [wr64,W7]|refine bo (fun _=>?_) fun _=>?_|refine im fun _=>?_|refine cF ?_|refine om ?_|refine an ?_|fail) <;> try simp only [zN,zT,zV,zS,zU,Q0,Q1,ex,Q2,Q3,Q4,Q5,Q6,Q7,Q8,Q9,QA,QB,QC,W0,W1,W2,W3,W4,W5,W6,reduceIte]))
    all_goals first | (exfalso; omega) | rfl
theorem stable0 (σ:Sto) (f:Nat) (m:Nat) (hm:m≤1):Does Tryz.prog 167 [.own f 0 m,n m,.fn (.func 100) [] []] σ (fun _ σ'=>σ'=σ):=by
  refine Does.of_body Tryz.call167 Tryz.func167 k167 (Nat.le_of_ble_eq_true rfl) ?_
  unfold c167
  have hm1:¬ (20≤(m:Int)):=by omega
  have hm2:¬ (20 < (m:Int)):=by omega
  (repeat' ((first|refine vn rfl ?_|simp (disch:=omega) only [wr64,W7]|refine bo (fun _=>?_) fun _=>?_|refine im fun _=>?_|refine cF ?_|refine om ?_|refine an ?_|fail) <;> try simp only [zN,zT,zV,zS,zU,Q0,Q1,ex,Q2,Q3,Q4,Q5,Q6,Q7,Q8,Q9,QA,QB,QC,W0,W1,W2,W3,W4,W5,W6,reduceIte]))
  refine AWPC.loopS (α:=Unit) [7,8] (fun _=>[(7,n 0),(8,n 20)]) (fun _=>0) () ?_ ?_
  · (simp only [zN,zT,zV,zS,zU,Q0,Q1,ex,Q2,Q3,Q4,Q5,Q6,Q7,Q8,Q9,QA,QB,QC,W0,W1,W2,W3,W4,W5,W6,reduceIte]; try simp)
  · rintro ⟨⟩
    (repeat' ((first|refine vn rfl ?_|simp (disch:=omega) only [wr64,W7]|refine bo (fun _=>?_) fun _=>?_|refine im fun _=>?_|refine cF ?_|refine om ?_|refine an ?_|fail) <;> try simp only [zN,zT,zV,zS,zU,Q0,Q1,ex,Q2,Q3,Q4,Q5,Q6,Q7,Q8,Q9,QA,QB,QC,W0,W1,W2,W3,W4,W5,W6,reduceIte,hm1]))
    all_goals try (exfalso; omega)
    refine .inr (.inl ⟨_,_,_,_,rfl,fun _=>⟨insertion0 σ f m hm,?_⟩,fun h=>by cases h⟩)
    rintro r σ' rfl
    refine owp_of_exs ?_
    simp only [zN,zT,zV,zS,zU,Q0,Q1,ex,Q2,Q3,Q4,Q5,Q6,Q7,Q8,Q9,QA,QB,QC,W0,W1,W2,W3,W4,W5,W6,reduceIte]
    (repeat' ((first|refine vn rfl ?_|simp (disch:=omega) only [wr64,W7]|refine bo (fun _=>?_) fun _=>?_|refine im fun _=>?_|refine cF ?_|refine om ?_|refine an ?_|fail) <;> try simp only [zN,zT,zV,zS,zU,Q0,Q1,ex,Q2,Q3,Q4,Q5,Q6,Q7,Q8,Q9,QA,QB,QC,W0,W1,W2,W3,W4,W5,W6,reduceIte]))
    refine AWPC.loopS (α:=Unit) [6] (fun _=>[(6,n 20)]) (fun _=>0) () ?_ ?_
    · (simp only [zN,zT,zV,zS,zU,Q0,Q1,ex,Q2,Q3,Q4,Q5,Q6,Q7,Q8,Q9,QA,QB,QC,W0,W1,W2,W3,W4,W5,W6,reduceIte]; try simp)
    · rintro ⟨⟩
      (repeat' ((first|refine vn rfl ?_|simp (disch:=omega) only [wr64,W7]|refine bo (fun _=>?_) fun _=>?_|refine im fun _=>?_|refine cF ?_|refine om ?_|refine an ?_|fail) <;> try simp only [zN,zT,zV,zS,zU,Q0,Q1,ex,Q2,Q3,Q4,Q5,Q6,Q7,Q8,Q9,QA,QB,QC,W0,W1,W2,W3,W4,W5,W6,reduceIte,hm2]))
      all_goals first | (exfalso; omega) | rfl
theorem srtF_few {l:List Fld} (h:l.length≤1):srtF l=l:=by
  cases l with
  | nil=>rfl
  | cons a r=>cases r with
    | nil=>rfl
    | cons x r=>simp only [List.length_cons] at h; omega
theorem sortF0:SortF fun l=>l.length≤1:=fun σ f l hl hf=>by
  refine Does.of_body Tryz.call99 Tryz.func99 k99 (Nat.le_of_ble_eq_true rfl) ?_
  unfold c99
  (repeat' ((first|refine vn rfl ?_|simp (disch:=omega) only [wr64,W7]|refine bo (fun _=>?_) fun _=>?_|refine im fun _=>?_|refine cF ?_|refine om ?_|refine an ?_|fail) <;> try simp only [zN,zT,zV,zS,zU,Q0,Q1,ex,Q2,Q3,Q4,Q5,Q6,Q7,Q8,Q9,QA,QB,QC,W0,W1,W2,W3,W4,W5,W6,reduceIte,hf,List.length_map]))
  refine .inr (.inl ⟨_,_,_,_,rfl,fun _=>⟨stable0 σ f _ hl,?_⟩,fun h=>by cases h⟩)
  rintro r σ' rfl
  refine owp_of_exs ?_
  simp only [zN,zT,zV,zS,zU,Q0,Q1,ex,Q2,Q3,Q4,Q5,Q6,Q7,Q8,Q9,QA,QB,QC,W0,W1,W2,W3,W4,W5,W6,reduceIte]
  rw [srtF_few hl]
  exact (upd_self hf).symm
theorem insF_perm (a:Fld):∀ l,(insF a l).Perm (a::l)
  | []=>.refl _
  | x::r=>by
    unfold insF
    split
    · exact .refl _
    · exact ((insF_perm a r).cons x).trans (.swap a x r)
theorem srtF_perm (l:List Fld):(srtF l).Perm l:=by
  have:∀ (l o:List Fld),(l.foldl (fun o a=>insF a o) o).Perm (l++o):=by
    intro l
    induction l with
    | nil=>exact fun o=>.refl _
    | cons a r ih=>exact fun o=>(ih _).trans (((insF_perm a o).append_left r).trans List.perm_middle)
  have:=this l []
  rwa [List.append_nil] at this
theorem WeekOf_of {K:List Fld→Prop} (hK:SortF K) (b:Bse) (hb:bseSz b) (r:Rgr) (w:Int) (hs:K (r.sheets.filter fun f=>f.week == w)) (hl:r.stns.length * 48≤140737488355328) (hh:∀ s∈r.stns,s.heights.length * 24≤140737488355328)
    (hfl:∀ f∈r.sheets,fldC f) (h1:r.sheets.length < 274877906944) (h2:r.reads.length < 1099511627776) :
    Pure Tryz.prog 37 [.agg b.cs,.agg r.cs,n w] (.tup [.agg (weekE b r w).1.cs,n (weekE b r w).2]):=by
  refine Pure.of_body Tryz.call37 Tryz.func37 k37 (Nat.le_of_ble_eq_true rfl) ?_
  unfold c37
  have hcb:=CheckBase_spec b hb
  by_cases hbok:b.ok
  · rw [if_pos hbok] at hcb
    by_cases hw:inr w 0 10000
    · simp only [inr] at hw
      ((first|refine vn rfl ?_|simp (disch:=omega) only [wr64,W7]|refine bo (fun _=>?_) fun _=>?_|refine im fun _=>?_|((repeat refine si ?_); (first|((first|refine .inl ⟨_,_,_,_,rfl,fun _=>pu (by first|exact hcb|exact within_a w 0 10000),?_⟩|refine ⟨_,_,_,_,rfl,fun _=>pu (by first|exact hcb|exact within_a w 0 10000),?_⟩); (first|refine o1 ?_|refine o2 ?_|refine o3 ?_|refine o4 ?_)) | refine .inl ⟨_,_,_,_,rfl,pu (by first|exact hcb|exact within_a w 0 10000),?_⟩))|refine cF ?_|refine om ?_|refine an ?_|fail) <;> try simp only [zN,zT,zV,zS,zU,Q0,Q1,ex,Q2,Q3,Q4,Q5,Q6,Q7,Q8,Q9,QA,QB,QC,W0,W1,W2,W3,W4,W5,W6,reduceIte])
      ((first|refine vn rfl ?_|simp (disch:=omega) only [wr64,W7]|refine bo (fun _=>?_) fun _=>?_|refine im fun _=>?_|((repeat refine si ?_); (first|((first|refine .inl ⟨_,_,_,_,rfl,fun _=>pu (by first|exact hcb|exact within_a w 0 10000),?_⟩|refine ⟨_,_,_,_,rfl,fun _=>pu (by first|exact hcb|exact within_a w 0 10000),?_⟩); (first|refine o1 ?_|refine o2 ?_|refine o3 ?_|refine o4 ?_)) | refine .inl ⟨_,_,_,_,rfl,pu (by first|exact hcb|exact within_a w 0 10000),?_⟩))|refine cF ?_|refine om ?_|refine an ?_|fail) <;> try simp only [zN,zT,zV,zS,zU,Q0,Q1,ex,Q2,Q3,Q4,Q5,Q6,Q7,Q8,Q9,QA,QB,QC,W0,W1,W2,W3,W4,W5,W6,reduceIte])
      ((first|refine vn rfl ?_|simp (disch:=omega) only [wr64,W7]|refine bo (fun _=>?_) fun _=>?_|refine im fun _=>?_|((repeat refine si ?_); (first|((first|refine .inl ⟨_,_,_,_,rfl,fun _=>pu (by first|exact hcb|exact within_a w 0 10000),?_⟩|refine ⟨_,_,_,_,rfl,fun _=>pu (by first|exact hcb|exact within_a w 0 10000),?_⟩); (first|refine o1 ?_|refine o2 ?_|refine o3 ?_|refine o4 ?_)) | refine .inl ⟨_,_,_,_,rfl,pu (by first|exact hcb|exact within_a w 0 10000),?_⟩))|refine cF ?_|refine om ?_|refine an ?_|fail) <;> try simp only [zN,zT,zV,zS,zU,Q0,Q1,ex,Q2,Q3,Q4,Q5,Q6,Q7,Q8,Q9,QA,QB,QC,W0,W1,W2,W3,W4,W5,W6,reduceIte])
      ((first|refine vn rfl ?_|simp (disch:=omega) only [wr64,W7]|refine bo (fun _=>?_) fun _=>?_|refine im fun _=>?_|((repeat refine si ?_); (first|((first|refine .inl ⟨_,_,_,_,rfl,fun _=>pu (by first|exact hcb|exact within_a w 0 10000),?_⟩|refine ⟨_,_,_,_,rfl,fun _=>pu (by first|exact hcb|exact within_a w 0 10000),?_⟩); (first|refine o1 ?_|refine o2 ?_|refine o3 ?_|refine o4 ?_)) | refine .inl ⟨_,_,_,_,rfl,pu (by first|exact hcb|exact within_a w 0 10000),?_⟩))|refine cF ?_|refine om ?_|refine an ?_|fail) <;> try simp only [zN,zT,zV,zS,zU,Q0,Q1,ex,Q2,Q3,Q4,Q5,Q6,Q7,Q8,Q9,QA,QB,QC,W0,W1,W2,W3,W4,W5,W6,reduceIte])
      ((first|refine vn rfl ?_|simp (disch:=omega) only [wr64,W7]|refine bo (fun _=>?_) fun _=>?_|refine im fun _=>?_|((repeat refine si ?_); (first|((first|refine .inl ⟨_,_,_,_,rfl,fun _=>pu (by first|exact hcb|exact within_a w 0 10000),?_⟩|refine ⟨_,_,_,_,rfl,fun _=>pu (by first|exact hcb|exact within_a w 0 10000),?_⟩); (first|refine o1 ?_|refine o2 ?_|refine o3 ?_|refine o4 ?_)) | refine .inl ⟨_,_,_,_,rfl,pu (by first|exact hcb|exact within_a w 0 10000),?_⟩))|refine cF ?_|refine om ?_|refine an ?_|fail) <;> try simp only [zN,zT,zV,zS,zU,Q0,Q1,ex,Q2,Q3,Q4,Q5,Q6,Q7,Q8,Q9,QA,QB,QC,W0,W1,W2,W3,W4,W5,W6,reduceIte])
      ((first|refine vn rfl ?_|simp (disch:=omega) only [wr64,W7]|refine bo (fun _=>?_) fun _=>?_|refine im fun _=>?_|((repeat refine si ?_); (first|((first|refine .inl ⟨_,_,_,_,rfl,fun _=>pu (by first|exact hcb|exact within_a w 0 10000),?_⟩|refine ⟨_,_,_,_,rfl,fun _=>pu (by first|exact hcb|exact within_a w 0 10000),?_⟩); (first|refine o1 ?_|refine o2 ?_|refine o3 ?_|refine o4 ?_)) | refine .inl ⟨_,_,_,_,rfl,pu (by first|exact hcb|exact within_a w 0 10000),?_⟩))|refine cF ?_|refine om ?_|refine an ?_|fail) <;> try simp only [zN,zT,zV,zS,zU,Q0,Q1,ex,Q2,Q3,Q4,Q5,Q6,Q7,Q8,Q9,QA,QB,QC,W0,W1,W2,W3,W4,W5,W6,reduceIte])
      ((first|refine vn rfl ?_|simp (disch:=omega) only [wr64,W7]|refine bo (fun _=>?_) fun _=>?_|refine im fun _=>?_|((repeat refine si ?_); (first|((first|refine .inl ⟨_,_,_,_,rfl,fun _=>pu (by first|exact hcb|exact within_a w 0 10000),?_⟩|refine ⟨_,_,_,_,rfl,fun _=>pu (by first|exact hcb|exact within_a w 0 10000),?_⟩); (first|refine o1 ?_|refine o2 ?_|refine o3 ?_|refine o4 ?_)) | refine .inl ⟨_,_,_,_,rfl,pu (by first|exact hcb|exact within_a w 0 10000),?_⟩))|refine cF ?_|refine om ?_|refine an ?_|fail) <;> try simp only [zN,zT,zV,zS,zU,Q0,Q1,ex,Q2,Q3,Q4,Q5,Q6,Q7,Q8,Q9,QA,QB,QC,W0,W1,W2,W3,W4,W5,W6,reduceIte])
      ((first|refine vn rfl ?_|simp (disch:=omega) only [wr64,W7]|refine bo (fun _=>?_) fun _=>?_|refine im fun _=>?_|((repeat refine si ?_); (first|((first|refine .inl ⟨_,_,_,_,rfl,fun _=>pu (by first|exact hcb|exact within_a w 0 10000),?_⟩|refine ⟨_,_,_,_,rfl,fun _=>pu (by first|exact hcb|exact within_a w 0 10000),?_⟩); (first|refine o1 ?_|refine o2 ?_|refine o3 ?_|refine o4 ?_)) | refine .inl ⟨_,_,_,_,rfl,pu (by first|exact hcb|exact within_a w 0 10000),?_⟩))|refine cF ?_|refine om ?_|refine an ?_|fail) <;> try simp only [zN,zT,zV,zS,zU,Q0,Q1,ex,Q2,Q3,Q4,Q5,Q6,Q7,Q8,Q9,QA,QB,QC,W0,W1,W2,W3,W4,W5,W6,reduceIte])
      ((first|refine vn rfl ?_|simp (disch:=omega) only [wr64,W7]|refine bo (fun _=>?_) fun _=>?_|refine im fun _=>?_|((repeat refine si ?_); (first|((first|refine .inl ⟨_,_,_,_,rfl,fun _=>pu (by first|exact hcb|exact within_a w 0 10000),?_⟩|refine ⟨_,_,_,_,rfl,fun _=>pu (by first|exact hcb|exact within_a w 0 10000),?_⟩); (first|refine o1 ?_|refine o2 ?_|refine o3 ?_|refine o4 ?_)) | refine .inl ⟨_,_,_,_,rfl,pu (by first|exact hcb|exact within_a w 0 10000),?_⟩))|refine cF ?_|refine om ?_|refine an ?_|fail) <;> try simp only [zN,zT,zV,zS,zU,Q0,Q1,ex,Q2,Q3,Q4,Q5,Q6,Q7,Q8,Q9,QA,QB,QC,W0,W1,W2,W3,W4,W5,W6,reduceIte])
      ((first|refine vn rfl ?_|simp (disch:=omega) only [wr64,W7]|refine bo (fun _=>?_) fun _=>?_|refine im fun _=>?_|((repeat refine si ?_); (first|((first|refine .inl ⟨_,_,_,_,rfl,fun _=>pu (by first|exact hcb|exact within_a w 0 10000),?_⟩|refine ⟨_,_,_,_,rfl,fun _=>pu (by first|exact hcb|exact within_a w 0 10000),?_⟩); (first|refine o1 ?_|refine o2 ?_|refine o3 ?_|refine o4 ?_)) | refine .inl ⟨_,_,_,_,rfl,pu (by first|exact hcb|exact within_a w 0 10000),?_⟩))|refine cF ?_|refine om ?_|refine an ?_|fail) <;> try simp only [zN,zT,zV,zS,zU,Q0,Q1,ex,Q2,Q3,Q4,Q5,Q6,Q7,Q8,Q9,QA,QB,QC,W0,W1,W2,W3,W4,W5,W6,reduceIte])
      all_goals try (exfalso; omega)
      ((first|refine vn rfl ?_|simp (disch:=omega) only [wr64,W7]|refine bo (fun _=>?_) fun _=>?_|refine im fun _=>?_|((repeat refine si ?_); (first|((first|refine .inl ⟨_,_,_,_,rfl,fun _=>pu (by first|exact hcb|exact within_a w 0 10000),?_⟩|refine ⟨_,_,_,_,rfl,fun _=>pu (by first|exact hcb|exact within_a w 0 10000),?_⟩); (first|refine o1 ?_|refine o2 ?_|refine o3 ?_|refine o4 ?_)) | refine .inl ⟨_,_,_,_,rfl,pu (by first|exact hcb|exact within_a w 0 10000),?_⟩))|refine cF ?_|refine om ?_|refine an ?_|fail) <;> try simp only [zN,zT,zV,zS,zU,Q0,Q1,ex,Q2,Q3,Q4,Q5,Q6,Q7,Q8,Q9,QA,QB,QC,W0,W1,W2,W3,W4,W5,W6,reduceIte])
      ((first|refine vn rfl ?_|simp (disch:=omega) only [wr64,W7]|refine bo (fun _=>?_) fun _=>?_|refine im fun _=>?_|((repeat refine si ?_); (first|((first|refine .inl ⟨_,_,_,_,rfl,fun _=>pu (by first|exact hcb|exact within_a w 0 10000),?_⟩|refine ⟨_,_,_,_,rfl,fun _=>pu (by first|exact hcb|exact within_a w 0 10000),?_⟩); (first|refine o1 ?_|refine o2 ?_|refine o3 ?_|refine o4 ?_)) | refine .inl ⟨_,_,_,_,rfl,pu (by first|exact hcb|exact within_a w 0 10000),?_⟩))|refine cF ?_|refine om ?_|refine an ?_|fail) <;> try simp only [zN,zT,zV,zS,zU,Q0,Q1,ex,Q2,Q3,Q4,Q5,Q6,Q7,Q8,Q9,QA,QB,QC,W0,W1,W2,W3,W4,W5,W6,reduceIte])
      refine AWPC.own0c 72 24 (f:=1) (i:=0) (e:=0) (j:=7) rfl (by simp) rfl ?_
      refine AWPC.own0c 64 5 (f:=1) (i:=0) (e:=0) (j:=8) rfl (by simp) rfl ?_
      refine AWPC.sto (σ':=[some [⟨86,9,[[.v (.slice none 0 0),n 0,n 0,n 0,n 0,n 0,n 0,.v (.slice none 0 0),.v (.slice none 0 0)]],none⟩],some [⟨86,9,[[snS b.stns,n b.fixed,n b.each,n b.term,n b.ticks,n b.clerks,n w,.own 2 0 0,.own 3 0 0]],none⟩],some [⟨72,24,[],none⟩],some [⟨64,5,[],none⟩]]) rfl ?_
      (repeat' ((first|refine vn rfl ?_|simp (disch:=omega) only [wr64,W7]|refine bo (fun _=>?_) fun _=>?_|refine im fun _=>?_|refine cF ?_|refine om ?_|refine an ?_|fail) <;> try simp only [zN,zT,zV,zS,zU,Q0,Q1,ex,Q2,Q3,Q4,Q5,Q6,Q7,Q8,Q9,QA,QB,QC,W0,W1,W2,W3,W4,W5,W6,reduceIte]))
      refine .inr (.inl ⟨_,_,_,_,rfl,fun _=>⟨copiedStations_does r.stns hl hh _,?_⟩,fun h=>by cases h⟩)
      rintro r1 σ1 ⟨ν,rfl,rfl⟩
      refine owp_of_exs ?_
      simp only [zN,zT,zV,zS,zU,Q0,Q1,ex,Q2,Q3,Q4,Q5,Q6,Q7,Q8,Q9,QA,QB,QC,W0,W1,W2,W3,W4,W5,W6,reduceIte,List.length_map]
      (repeat' ((first|refine vn rfl ?_|simp (disch:=omega) only [wr64,W7]|refine bo (fun _=>?_) fun _=>?_|refine im fun _=>?_|refine cF ?_|refine om ?_|refine an ?_|fail) <;> try simp only [zN,zT,zV,zS,zU,Q0,Q1,ex,Q2,Q3,Q4,Q5,Q6,Q7,Q8,Q9,QA,QB,QC,W0,W1,W2,W3,W4,W5,W6,reduceIte]))
      refine AWPC.loopE (α:={ x:Nat × List Fld × Sto // x.1≤r.sheets.length∧x.2.1=(r.sheets.take x.1).filter fun f=>f.week == w }) [35] (fun x=>[(35,n x.1.1)])
        (fun x=>some [⟨86,9,[[.v (.slice none 0 0),n 0,n 0,n 0,n 0,n 0,n 0,.v (.slice none 0 0),.v (.slice none 0 0)]],none⟩]::some [⟨86,9,[[.own 4 0 r.stns.length,n b.fixed,n b.each,n b.term,n b.ticks,n b.clerks,n w,.own 2 0 x.1.2.1.length,.own 3 0 0]],none⟩]::some [⟨72,24,x.1.2.1.map Fld.cs,none⟩]::some [⟨64,5,[],none⟩]::some [⟨109,4,r.stns.map Stn.cs,none⟩]::x.1.2.2)
        (fun x=>r.sheets.length - x.1.1) ⟨(0,[],ν),Nat.zero_le _,rfl⟩ ?_ rfl ?_
      · (simp only [zN,zT,zV,zS,zU,Q0,Q1,ex,Q2,Q3,Q4,Q5,Q6,Q7,Q8,Q9,QA,QB,QC,W0,W1,W2,W3,W4,W5,W6,reduceIte]; try simp)
      · rintro ⟨⟨i,S,μ⟩,hi,hS⟩
        simp only at hi hS
        obtain ⟨d,hd⟩:∃ d:Fld,True:=⟨⟨nm0,0,0,sht0,[],[]⟩,trivial⟩
        have hSl:S.length≤r.sheets.length:=by rw [hS]; exact Nat.le_trans (List.length_filter_le _ _) (by rw [List.length_take]; omega)
        by_cases hlt:i < r.sheets.length
        · generalize hM:S.map Fld.cs=M
          have hMl:M.length=S.length:=by rw [← hM,List.length_map]
          have hx:(r.sheets.map Fld.cs).getD i []=Fld.cs (r.sheets.getD i d):=row d hlt
          have hN:=filter_next (q:=fun f:Fld=>f.week == w) (getD_lt d hlt)
          rw [← hS] at hN
          have hcf:=copiedFiled_spec (r.sheets.getD i d) (hfl _ (List.mem_of_getElem? (getD_lt d hlt)))
          generalize r.sheets.getD i d=x at hx hN hcf
          by_cases hxw:x.week=w
          · rw [show (x.week == w)=true by simp [hxw],if_pos rfl] at hN
            (repeat' ((first|refine vn rfl ?_|simp (disch:=omega) only [wr64,W7]|refine bo (fun _=>?_) fun _=>?_|refine im fun _=>?_|((repeat refine si ?_); (first|((first|refine .inl ⟨_,_,_,_,rfl,fun _=>pu hcf,?_⟩|refine ⟨_,_,_,_,rfl,fun _=>pu hcf,?_⟩); (first|refine o1 ?_|refine o2 ?_|refine o3 ?_|refine o4 ?_)) | refine .inl ⟨_,_,_,_,rfl,pu hcf,?_⟩))|refine cF ?_|refine om ?_|refine an ?_|fail) <;> try simp only [zN, zT, zV, zS, zU, Q0, Q1, ex, Q2, Q3, Q4, Q5, Q6, Q7, Q8, Q9, QA, QB, QC, W0, W1, W2, W3, W4, W5, W6, reduceIte, hx, hMl, hxw]))
            all_goals try (exfalso; omega)
            refine ⟨⟨(i+1,S++[x],μ++[some [⟨72,24,[x.cs],none⟩]]),hlt,hN.symm⟩,by simp,?_,by simp only; omega⟩
            simp [← hM]
          · rw [show (x.week == w)=false by simp [hxw],if_neg (by decide)] at hN
            (repeat' ((first|refine vn rfl ?_|simp (disch:=omega) only [wr64,W7]|refine bo (fun _=>?_) fun _=>?_|refine im fun _=>?_|((repeat refine si ?_); (first|((first|refine .inl ⟨_,_,_,_,rfl,fun _=>pu hcf,?_⟩|refine ⟨_,_,_,_,rfl,fun _=>pu hcf,?_⟩); (first|refine o1 ?_|refine o2 ?_|refine o3 ?_|refine o4 ?_)) | refine .inl ⟨_,_,_,_,rfl,pu hcf,?_⟩))|refine cF ?_|refine om ?_|refine an ?_|fail) <;> try simp only [zN, zT, zV, zS, zU, Q0, Q1, ex, Q2, Q3, Q4, Q5, Q6, Q7, Q8, Q9, QA, QB, QC, W0, W1, W2, W3, W4, W5, W6, reduceIte, hx, hMl, hxw]))
            all_goals try (exfalso; omega)
            refine ⟨⟨(i+1,S,μ++[some [⟨72,24,[x.cs],none⟩]]),hlt,hN.symm⟩,by simp,?_,by simp only; omega⟩
            simp [← hM]
        · obtain rfl:i=r.sheets.length:=by omega
          rw [List.take_length] at hS
          (repeat' ((first|refine vn rfl ?_|simp (disch:=omega) only [wr64,W7]|refine bo (fun _=>?_) fun _=>?_|refine im fun _=>?_|refine cF ?_|refine om ?_|refine an ?_|fail) <;> try simp only [zN, zT, zV, zS, zU, Q0, Q1, ex, Q2, Q3, Q4, Q5, Q6, Q7, Q8, Q9, QA, QB, QC, W0, W1, W2, W3, W4, W5, W6, reduceIte]))
          all_goals try (exfalso; omega)
          refine .inr (.inl ⟨_,_,_,_,rfl,fun _=>⟨hK _ 2 S (by rw [hS]; exact hs) rfl,?_⟩,fun h=>by cases h⟩)
          rintro r1 σ1 rfl
          refine owp_of_exs ?_
          have hsp:(srtF S).length=S.length:=(srtF_perm S).length_eq
          simp only [zN,zT,zV,zS,zU,Q0,Q1,ex,Q2,Q3,Q4,Q5,Q6,Q7,Q8,Q9,QA,QB,QC,W0,W1,W2,W3,W4,W5,W6,reduceIte]
          generalize hT:srtF S=T at hsp
          rw [← hsp]
          rw [← hsp] at hSl
          (repeat' ((first|refine vn rfl ?_|simp (disch:=omega) only [wr64,W7]|refine bo (fun _=>?_) fun _=>?_|refine im fun _=>?_|refine cF ?_|refine om ?_|refine an ?_|fail) <;> try simp only [zN, zT, zV, zS, zU, Q0, Q1, ex, Q2, Q3, Q4, Q5, Q6, Q7, Q8, Q9, QA, QB, QC, W0, W1, W2, W3, W4, W5, W6, reduceIte]))
          refine AWPC.loopE (α:={ x:Nat × List Rd × Sto // x.1≤r.reads.length∧x.2.1=(r.reads.take x.1).filter fun f=>f.week == w }) [57] (fun x=>[(57,n x.1.1)])
            (fun x=>some [⟨86,9,[[.v (.slice none 0 0),n 0,n 0,n 0,n 0,n 0,n 0,.v (.slice none 0 0),.v (.slice none 0 0)]],none⟩]::some [⟨86,9,[[.own 4 0 r.stns.length,n b.fixed,n b.each,n b.term,n b.ticks,n b.clerks,n w,.own 2 0 T.length,.own 3 0 x.1.2.1.length]],none⟩]::some [⟨72,24,T.map Fld.cs,none⟩]::some [⟨64,5,x.1.2.1.map Rd.cs,none⟩]::some [⟨109,4,r.stns.map Stn.cs,none⟩]::x.1.2.2)
            (fun x=>r.reads.length - x.1.1) ⟨(0,[],μ),Nat.zero_le _,rfl⟩ ?_ rfl ?_
          · (simp only [zN,zT,zV,zS,zU,Q0,Q1,ex,Q2,Q3,Q4,Q5,Q6,Q7,Q8,Q9,QA,QB,QC,W0,W1,W2,W3,W4,W5,W6,reduceIte]; try simp)
          · rintro ⟨⟨i,R,μ⟩,hi,hR⟩
            simp only at hi hR
            have hRl:R.length≤r.reads.length:=by rw [hR]; exact Nat.le_trans (List.length_filter_le _ _) (by rw [List.length_take]; omega)
            by_cases hlt:i < r.reads.length
            · generalize hM:R.map Rd.cs=M
              have hMl:M.length=R.length:=by rw [← hM,List.length_map]
              have hx:(r.reads.map Rd.cs).getD i []=Rd.cs (r.reads.getD i rd0):=row rd0 hlt
              have hN:=filter_next (q:=fun f:Rd=>f.week == w) (getD_lt rd0 hlt)
              rw [← hR] at hN
              generalize r.reads.getD i rd0=x at hx hN
              by_cases hxw:x.week=w
              · rw [show (x.week == w)=true by simp [hxw],if_pos rfl] at hN
                (repeat' ((first|refine vn rfl ?_|simp (disch:=omega) only [wr64,W7]|refine bo (fun _=>?_) fun _=>?_|refine im fun _=>?_|refine cF ?_|refine om ?_|refine an ?_|fail) <;> try simp only [zN, zT, zV, zS, zU, Q0, Q1, ex, Q2, Q3, Q4, Q5, Q6, Q7, Q8, Q9, QA, QB, QC, W0, W1, W2, W3, W4, W5, W6, reduceIte, hx, hMl, hxw]))
                all_goals try (exfalso; omega)
                refine ⟨⟨(i+1,R++[x],μ++[some [⟨64,5,[x.cs],none⟩]]),hlt,hN.symm⟩,by simp,?_,by simp only; omega⟩
                simp [← hM,hxw]
              · rw [show (x.week == w)=false by simp [hxw],if_neg (by decide)] at hN
                (repeat' ((first|refine vn rfl ?_|simp (disch:=omega) only [wr64,W7]|refine bo (fun _=>?_) fun _=>?_|refine im fun _=>?_|refine cF ?_|refine om ?_|refine an ?_|fail) <;> try simp only [zN, zT, zV, zS, zU, Q0, Q1, ex, Q2, Q3, Q4, Q5, Q6, Q7, Q8, Q9, QA, QB, QC, W0, W1, W2, W3, W4, W5, W6, reduceIte, hx, hMl, hxw]))
                all_goals try (exfalso; omega)
                refine ⟨⟨(i+1,R,μ++[some [⟨64,5,[x.cs],none⟩]]),hlt,hN.symm⟩,by simp,?_,by simp only; omega⟩
                simp [← hM]
            · obtain rfl:i=r.reads.length:=by omega
              rw [List.take_length] at hR
              have hWT:weekT b r w=⟨{ b with stns:=r.stns },w,T,R⟩:=by unfold weekT; rw [hR,← hT,hS]
              by_cases h64:64 < T.length∨64 < R.length
              · have hE:weekE b r w=(wk0,2):=by unfold weekE; rw [if_neg (fun h=>h hbok),if_neg (fun h=>h hw),hWT]; exact if_pos h64
                rw [hE]
                (repeat' ((first|refine vn rfl ?_|simp (disch:=omega) only [wr64,W7]|refine bo (fun _=>?_) fun _=>?_|refine im fun _=>?_|refine cF ?_|refine om ?_|refine an ?_|fail) <;> try simp only [zN, zT, zV, zS, zU, Q0, Q1, ex, Q2, Q3, Q4, Q5, Q6, Q7, Q8, Q9, QA, QB, QC, W0, W1, W2, W3, W4, W5, W6, reduceIte]))
                all_goals try (exfalso; omega)
                all_goals exact Frz.tupL ⟨Frz.aggL ⟨Frz.nil0,Frz.pure (by simp),Frz.pure (by simp),Frz.pure (by simp),Frz.pure (by simp),Frz.pure (by simp),Frz.pure (by simp),Frz.nil0,Frz.nil0,trivial⟩,Frz.pure (by simp),trivial⟩
              · have hE:weekE b r w=(weekT b r w,0):=by unfold weekE; rw [if_neg (fun h=>h hbok),if_neg (fun h=>h hw),hWT]; exact if_neg h64
                rw [hE,hWT]
                (repeat' ((first|refine vn rfl ?_|simp (disch:=omega) only [wr64,W7]|refine bo (fun _=>?_) fun _=>?_|refine im fun _=>?_|refine cF ?_|refine om ?_|refine an ?_|fail) <;> try simp only [zN, zT, zV, zS, zU, Q0, Q1, ex, Q2, Q3, Q4, Q5, Q6, Q7, Q8, Q9, QA, QB, QC, W0, W1, W2, W3, W4, W5, W6, reduceIte]))
                all_goals try (exfalso; omega)
                all_goals exact Frz.tupL ⟨Frz.aggL ⟨Frz.ownL (T:=109) (cs:=Stn.cs) rfl rfl (by decide) sn_pc (fun a=>rfl),Frz.pure (by simp),Frz.pure (by simp),Frz.pure (by simp),Frz.pure (by simp),Frz.pure (by simp),Frz.pure (by simp),Frz.ownL (T:=72) (cs:=Fld.cs) rfl rfl (by decide) (fun a=>Fld.pc a) (fun a=>rfl),Frz.ownL (T:=64) (cs:=Rd.cs) rfl rfl (by decide) rd_pc (fun a=>rfl),trivial⟩,Frz.pure (by simp),trivial⟩
    · have hE:weekE b r w=(wk0,1):=by unfold weekE; rw [if_neg (fun h=>h hbok),if_pos hw]
      rw [hE]
      simp only [inr] at hw
      (repeat' ((first|refine vn rfl ?_|simp (disch:=omega) only [wr64,W7]|refine bo (fun _=>?_) fun _=>?_|refine im fun _=>?_|((repeat refine si ?_); (first|((first|refine .inl ⟨_,_,_,_,rfl,fun _=>pu (by first|exact hcb|exact within_a w 0 10000),?_⟩|refine ⟨_,_,_,_,rfl,fun _=>pu (by first|exact hcb|exact within_a w 0 10000),?_⟩); (first|refine o1 ?_|refine o2 ?_|refine o3 ?_|refine o4 ?_)) | refine .inl ⟨_,_,_,_,rfl,pu (by first|exact hcb|exact within_a w 0 10000),?_⟩))|refine cF ?_|refine om ?_|refine an ?_|fail) <;> try simp only [zN,zT,zV,zS,zU,Q0,Q1,ex,Q2,Q3,Q4,Q5,Q6,Q7,Q8,Q9,QA,QB,QC,W0,W1,W2,W3,W4,W5,W6,reduceIte]))
      all_goals try (exfalso; omega)
      all_goals exact Frz.tupL ⟨Frz.aggL ⟨Frz.nil0,Frz.pure (by simp),Frz.pure (by simp),Frz.pure (by simp),Frz.pure (by simp),Frz.pure (by simp),Frz.pure (by simp),Frz.nil0,Frz.nil0,trivial⟩,Frz.pure (by simp),trivial⟩
  · rw [if_neg hbok] at hcb
    have hE:weekE b r w=(wk0,100):=by unfold weekE; rw [if_pos hbok]
    rw [hE]
    (repeat' ((first|refine vn rfl ?_|simp (disch:=omega) only [wr64,W7]|refine bo (fun _=>?_) fun _=>?_|refine im fun _=>?_|((repeat refine si ?_); (first|((first|refine .inl ⟨_,_,_,_,rfl,fun _=>pu hcb,?_⟩|refine ⟨_,_,_,_,rfl,fun _=>pu hcb,?_⟩); (first|refine o1 ?_|refine o2 ?_|refine o3 ?_|refine o4 ?_)) | refine .inl ⟨_,_,_,_,rfl,pu hcb,?_⟩))|refine cF ?_|refine om ?_|refine an ?_|fail) <;> try simp only [zN,zT,zV,zS,zU,Q0,Q1,ex,Q2,Q3,Q4,Q5,Q6,Q7,Q8,Q9,QA,QB,QC,W0,W1,W2,W3,W4,W5,W6,reduceIte]))
    all_goals try (exfalso; omega)
    all_goals exact Frz.tupL ⟨Frz.aggL ⟨Frz.nil0,Frz.pure (by simp),Frz.pure (by simp),Frz.pure (by simp),Frz.pure (by simp),Frz.pure (by simp),Frz.pure (by simp),Frz.nil0,Frz.nil0,trivial⟩,Frz.pure (by simp),trivial⟩
def c28:CF:=⟨26,
 (.seq (.ops [
 ⟨some 4,.mv (.c (.bool false)),none⟩] [0,1])
 (.seq (.seq (.ops [
 ⟨some 6,.mv (.t 0),none⟩,
 ⟨some 7,.len (.t 6),none⟩,
 ⟨some 8,.mv (.t 1),none⟩,
 ⟨some 9,.len (.t 8),none⟩,
 ⟨some 10,.bin .neq (.t 7) (.t 9),none⟩] [0,1,10])
 (.cond (.t 10) (.seq (.ops [
 ⟨some 4,.mv (.c (.bool false)),none⟩] [4])
 .ret)
 .skip))
 (.seq (.seq (.ops [
 ⟨some 5,.mv (.c (.int .i64 0)),none⟩] [0,1,5])
 (.block 0 (.loop (.seq (.seq (.ops [
 ⟨some 11,.mv (.t 5),none⟩,
 ⟨some 12,.mv (.t 0),none⟩,
 ⟨some 13,.len (.t 12),none⟩,
 ⟨some 14,.bin .lss (.t 11) (.t 13),none⟩] [0,1,5,14])
 (.cond (.t 14) .skip
 (.exit 0)))
 (.seq (.block 1 (.seq (.draw [
 ⟨some 17,.mv (.t 0),none⟩,
 ⟨some 18,.mv (.t 5),none⟩,
 ⟨some 19,.iaddr 2 (.t 17) (.t 18),none⟩,
 ⟨some 20,.load (some 2) (.t 19),none⟩,
 ⟨some 21,.mv (.t 1),none⟩,
 ⟨some 22,.mv (.t 5),none⟩,
 ⟨some 23,.iaddr 2 (.t 21) (.t 22),none⟩,
 ⟨some 24,.load (some 2) (.t 23),none⟩,
 ⟨some 25,.eqs true [some .i64,some .i64] (.t 20) (.t 24),none⟩] [
 ] [0,1,5,25])
 (.cond (.t 25) (.seq (.ops [
 ⟨some 4,.mv (.c (.bool false)),none⟩] [4])
 .ret)
 .skip)))
 (.ops [
 ⟨some 15,.mv (.t 5),none⟩,
 ⟨some 16,.bin .add (.t 15) (.c (.int .i64 1)),none⟩,
 ⟨some 5,.mv (.t 16),none⟩] [0,1,5]))))))
 (.seq (.ops [
 ⟨some 4,.mv (.c (.bool true)),none⟩] [4])
 .ret)))),
 [.t 4]⟩
theorem k28:chkF Tryz.prog Tryz.f28 c28=true:=by kernel_rfl
def c68:CF:=⟨26,
 (.seq (.ops [
 ⟨some 4,.mv (.c (.bool false)),none⟩] [0,1])
 (.seq (.seq (.ops [
 ⟨some 6,.mv (.t 0),none⟩,
 ⟨some 7,.len (.t 6),none⟩,
 ⟨some 8,.mv (.t 1),none⟩,
 ⟨some 9,.len (.t 8),none⟩,
 ⟨some 10,.bin .neq (.t 7) (.t 9),none⟩] [0,1,10])
 (.cond (.t 10) (.seq (.ops [
 ⟨some 4,.mv (.c (.bool false)),none⟩] [4])
 .ret)
 .skip))
 (.seq (.seq (.ops [
 ⟨some 5,.mv (.c (.int .i64 0)),none⟩] [0,1,5])
 (.block 0 (.loop (.seq (.seq (.ops [
 ⟨some 11,.mv (.t 5),none⟩,
 ⟨some 12,.mv (.t 0),none⟩,
 ⟨some 13,.len (.t 12),none⟩,
 ⟨some 14,.bin .lss (.t 11) (.t 13),none⟩] [0,1,5,14])
 (.cond (.t 14) .skip
 (.exit 0)))
 (.seq (.block 1 (.seq (.draw [
 ⟨some 17,.mv (.t 0),none⟩,
 ⟨some 18,.mv (.t 5),none⟩,
 ⟨some 19,.iaddr 1 (.t 17) (.t 18),none⟩,
 ⟨some 20,.load none (.t 19),none⟩,
 ⟨some 21,.mv (.t 1),none⟩,
 ⟨some 22,.mv (.t 5),none⟩,
 ⟨some 23,.iaddr 1 (.t 21) (.t 22),none⟩,
 ⟨some 24,.load none (.t 23),none⟩,
 ⟨some 25,.bin .neq (.t 20) (.t 24),none⟩] [
 ] [0,1,5,25])
 (.cond (.t 25) (.seq (.ops [
 ⟨some 4,.mv (.c (.bool false)),none⟩] [4])
 .ret)
 .skip)))
 (.ops [
 ⟨some 15,.mv (.t 5),none⟩,
 ⟨some 16,.bin .add (.t 15) (.c (.int .i64 1)),none⟩,
 ⟨some 5,.mv (.t 16),none⟩] [0,1,5]))))))
 (.seq (.ops [
 ⟨some 4,.mv (.c (.bool true)),none⟩] [4])
 .ret)))),
 [.t 4]⟩
theorem k68:chkF Tryz.prog Tryz.f68 c68=true:=by kernel_rfl
def c77:CF:=⟨8,
 (.seq (.ops [
 ⟨some 0,.alloc 26 6 [.slice none 0 0,.int .i64 0,.int .i64 0,.int .i64 0,.int .i64 0,.int .i64 0],none⟩] [0])
 (.seq (.ops [
 ⟨some 1,.build [.int .i64 0,.int .i64 0] [(0,1,(.c (.int .i64 100))),(1,1,(.c (.int .i64 100)))],none⟩,
 ⟨some 2,.build [.int .i64 0,.int .i64 0,.int .i64 0] [(1,2,(.t 1))],none⟩,
 ⟨some 3,.bsl false 66 3 1 [.int .i64 0,.int .i64 0,.int .i64 0] [(0,3,(.t 2))],none⟩,
 ⟨some 4,.build [.int .i64 0,.int .i64 0,.int .i64 0,.slice none 0 0] [(0,1,(.c (.int .i64 5))),(3,1,(.t 3))],none⟩,
 ⟨some 5,.bsl false 109 4 1 [.int .i64 0,.int .i64 0,.int .i64 0,.slice none 0 0] [(0,4,(.t 4))],none⟩,
 ⟨some 6,.build [.int .i64 0,.int .i64 0] [(0,1,(.c (.int .i64 10)))],none⟩,
 ⟨some 7,.build [.slice none 0 0,.int .i64 0,.int .i64 0,.int .i64 0,.int .i64 0,.int .i64 0] [(0,1,(.t 5)),(1,2,(.t 6)),(3,1,(.c (.int .i64 50))),(4,1,(.c (.int .i64 100))),(5,1,(.c (.int .i64 2)))],none⟩,
 ⟨none,.store 6 (.t 0) (.t 7),none⟩] [0])
 .ret)),
 [.c 0 (some 6)]⟩
theorem k77:chkF Tryz.prog Tryz.f77 c77=true:=by kernel_rfl
def c79:CF:=⟨12,
 (.seq (.ops [
 ⟨some 6,.alloc 68 38 z38,none⟩] [0,1,2,6])
 (.seq (.ops [
 ⟨some 7,.mv (.t 0),none⟩,
 ⟨some 8,.mv (.t 0),none⟩,
 ⟨some 9,.mv (.t 1),none⟩,
 ⟨some 10,.mv (.t 2),none⟩,
 ⟨some 11,.build z38 [(0,1,(.c (.int .i64 1))),(1,1,(.t 7)),(2,1,(.t 8)),(3,1,(.t 9)),(4,1,(.t 10))],none⟩,
 ⟨none,.store 38 (.t 6) (.t 11),none⟩] [6])
 .ret)),
 [.c 6 (some 38)]⟩
theorem k79:chkF Tryz.prog Tryz.f79 c79=true:=by kernel_rfl
def c140:CF:=⟨12,
 (.seq (.ops [
 ⟨some 0,.alloc 60 18 z18,none⟩] [0])
 (.seq (.ops [
 ⟨some 2,.build [.int .i64 0,.int .i64 0] [(0,1,(.c (.int .i64 1000))),(1,1,(.c (.int .i64 1000)))],none⟩,
 ⟨some 1,.alloc 48 2 [.int .i64 0,.int .i64 0],none⟩,
 ⟨none,.store 2 (.t 1) (.t 2),none⟩] [0,1])
 (.seq (.ops [
 ⟨some 3,.load (some 2) (.t 1),none⟩,
 ⟨some 4,.load (some 2) (.t 1),none⟩,
 ⟨some 5,.build [.int .i64 0,.int .i64 0,.int .i64 0,.int .i64 0,.int .i64 0,.int .i64 0,.int .i64 0,.int .i64 0,.int .i64 0,.int .i64 0] [(0,1,(.c (.int .i64 100))),(1,1,(.c (.int .i64 1000))),(3,1,(.c (.int .i64 9600))),(4,1,(.c (.int .i64 10600))),(5,1,(.c (.int .i64 3))),(6,2,(.t 3)),(8,2,(.t 4))],none⟩,
 ⟨some 6,.build [.int .i64 0,.int .i64 0] [(0,1,(.c (.int .i64 1))),(1,1,(.c (.int .i64 2)))],none⟩,
 ⟨some 7,.build [.int .i64 0,.int .i64 0] [(0,1,(.c (.int .i64 1))),(1,1,(.c (.int .i64 2)))],none⟩,
 ⟨some 8,.bsl false 48 2 2 [.int .i64 0,.int .i64 0,.int .i64 0,.int .i64 0] [(0,2,(.t 6)),(2,2,(.t 7))],none⟩,
 ⟨some 9,.build [.slice none 0 0,.slice none 0 0] [(0,1,(.t 8))],none⟩,
 ⟨some 10,.build [.int .i64 0,.int .i64 0,.int .i64 0,.int .i64 0] [(0,1,(.c (.int .i64 1))),(3,1,(.c (.int .i64 10)))],none⟩,
 ⟨some 11,.build z18 [(0,10,(.t 5)),(12,2,(.t 9)),(14,4,(.t 10))],none⟩,
 ⟨none,.store 18 (.t 0) (.t 11),none⟩] [0])
 .ret))),
 [.c 0 (some 18)]⟩
theorem k140:chkF Tryz.prog Tryz.f140 c140=true:=by kernel_rfl
def c78:CF:=⟨52,
 (.seq (.ops [
 ⟨some 0,.mv (.c (.slice none 0 0)),none⟩] [])
 (.seq (.ops [
 ⟨some 2,.call (.f 79) [(.c (.int .i64 1)),(.c (.int .i64 10)),(.c (.int .i64 1))],none⟩,
 ⟨some 3,.call (.f 79) [(.c (.int .i64 2)),(.c (.int .i64 11)),(.c (.int .i64 2))],none⟩,
 ⟨some 4,.call (.f 79) [(.c (.int .i64 3)),(.c (.int .i64 12)),(.c (.int .i64 3))],none⟩,
 ⟨some 5,.call (.f 79) [(.c (.int .i64 4)),(.c (.int .i64 13)),(.c (.int .i64 6))],none⟩,
 ⟨some 6,.call (.f 79) [(.c (.int .i64 5)),(.c (.int .i64 14)),(.c (.int .i64 5))],none⟩,
 ⟨some 7,.bslt 68 38 5 [.int .i64 0,.int .i64 0,.int .i64 0,.int .i64 0,.int .i64 0,.int .i64 0,.int .i64 0,.int .i64 0,.int .i64 0,.int .i64 0,.int .i64 0,.int .i64 0,.int .i64 0,.int .i64 0,.int .i64 0,.int .i64 0,.int .i64 0,.slice none 0 0,.slice none 0 0,.slice none 0 0,.slice none 0 0,.int .i64 0,.int .i64 0,.int .i64 0,.int .i64 0,.int .i64 0,.int .i64 0,.int .i64 0,.int .i64 0,.int .i64 0,.int .i64 0,.int .i64 0,.int .i64 0,.int .i64 0,.int .i64 0,.int .i64 0,.int .i64 0,.int .i64 0,.int .i64 0,.int .i64 0,.int .i64 0,.int .i64 0,.int .i64 0,.int .i64 0,.int .i64 0,.int .i64 0,.int .i64 0,.int .i64 0,.int .i64 0,.int .i64 0,.int .i64 0,.int .i64 0,.int .i64 0,.int .i64 0,.int .i64 0,.slice none 0 0,.slice none 0 0,.slice none 0 0,.slice none 0 0,.int .i64 0,.int .i64 0,.int .i64 0,.int .i64 0,.int .i64 0,.int .i64 0,.int .i64 0,.int .i64 0,.int .i64 0,.int .i64 0,.int .i64 0,.int .i64 0,.int .i64 0,.int .i64 0,.int .i64 0,.int .i64 0,.int .i64 0,.int .i64 0,.int .i64 0,.int .i64 0,.int .i64 0,.int .i64 0,.int .i64 0,.int .i64 0,.int .i64 0,.int .i64 0,.int .i64 0,.int .i64 0,.int .i64 0,.int .i64 0,.int .i64 0,.int .i64 0,.int .i64 0,.int .i64 0,.slice none 0 0,.slice none 0 0,.slice none 0 0,.slice none 0 0,.int .i64 0,.int .i64 0,.int .i64 0,.int .i64 0,.int .i64 0,.int .i64 0,.int .i64 0,.int .i64 0,.int .i64 0,.int .i64 0,.int .i64 0,.int .i64 0,.int .i64 0,.int .i64 0,.int .i64 0,.int .i64 0,.int .i64 0,.int .i64 0,.int .i64 0,.int .i64 0,.int .i64 0,.int .i64 0,.int .i64 0,.int .i64 0,.int .i64 0,.int .i64 0,.int .i64 0,.int .i64 0,.int .i64 0,.int .i64 0,.int .i64 0,.int .i64 0,.int .i64 0,.int .i64 0,.slice none 0 0,.slice none 0 0,.slice none 0 0,.slice none 0 0,.int .i64 0,.int .i64 0,.int .i64 0,.int .i64 0,.int .i64 0,.int .i64 0,.int .i64 0,.int .i64 0,.int .i64 0,.int .i64 0,.int .i64 0,.int .i64 0,.int .i64 0,.int .i64 0,.int .i64 0,.int .i64 0,.int .i64 0,.int .i64 0,.int .i64 0,.int .i64 0,.int .i64 0,.int .i64 0,.int .i64 0,.int .i64 0,.int .i64 0,.int .i64 0,.int .i64 0,.int .i64 0,.int .i64 0,.int .i64 0,.int .i64 0,.int .i64 0,.int .i64 0,.int .i64 0,.slice none 0 0,.slice none 0 0,.slice none 0 0,.slice none 0 0,.int .i64 0,.int .i64 0,.int .i64 0,.int .i64 0,.int .i64 0,.int .i64 0,.int .i64 0,.int .i64 0,.int .i64 0,.int .i64 0,.int .i64 0,.int .i64 0,.int .i64 0,.int .i64 0,.int .i64 0,.int .i64 0,.int .i64 0] [(0,38,(.t 2)),(38,38,(.t 3)),(76,38,(.t 4)),(114,38,(.t 5)),(152,38,(.t 6))],none⟩,
 ⟨some 1,.mv (.t 7),none⟩] [1])
 (.seq (.ops [
 ⟨some 8,.mv (.t 1),none⟩,
 ⟨some 9,.iaddr 38 (.t 8) (.c (.int .i64 0)),none⟩,
 ⟨some 10,.faddr 5 (.t 9),none⟩,
 ⟨none,.store 1 (.t 10) (.c (.int .i64 5)),none⟩] [1])
 (.seq (.ops [
 ⟨some 11,.mv (.t 1),none⟩,
 ⟨some 12,.iaddr 38 (.t 11) (.c (.int .i64 0)),none⟩,
 ⟨some 13,.faddr 6 (.t 12),none⟩,
 ⟨none,.store 1 (.t 13) (.c (.int .i64 3)),none⟩] [1])
 (.seq (.ops [
 ⟨some 14,.mv (.t 1),none⟩,
 ⟨some 15,.call (.f 140) [],none⟩,
 ⟨some 16,.iaddr 38 (.t 14) (.c (.int .i64 0)),none⟩,
 ⟨some 17,.faddr 7 (.t 16),none⟩,
 ⟨none,.store 18 (.t 17) (.t 15),none⟩] [1])
 (.seq (.ops [
 ⟨some 18,.mv (.t 1),none⟩,
 ⟨some 19,.build [.int .i64 0,.int .i64 0] [(0,1,(.c (.int .i64 1))),(1,1,(.c (.int .i64 1)))],none⟩,
 ⟨some 20,.iaddr 38 (.t 18) (.c (.int .i64 1)),none⟩,
 ⟨some 21,.faddr 36 (.t 20),none⟩,
 ⟨none,.store 2 (.t 21) (.t 19),none⟩] [1])
 (.seq (.ops [
 ⟨some 22,.mv (.t 1),none⟩,
 ⟨some 23,.build [.int .i64 0,.int .i64 0] [(0,1,(.c (.int .i64 4))),(1,1,(.c (.int .i64 6)))],none⟩,
 ⟨some 24,.build [.int .i64 0,.int .i64 0,.int .i64 0] [(1,2,(.t 23))],none⟩,
 ⟨some 25,.iaddr 38 (.t 22) (.c (.int .i64 1)),none⟩,
 ⟨some 26,.faddr 25 (.t 25),none⟩,
 ⟨none,.store 3 (.t 26) (.t 24),none⟩] [1])
 (.seq (.ops [
 ⟨some 27,.mv (.t 1),none⟩,
 ⟨some 28,.build [.int .i64 0,.int .i64 0] [(0,1,(.c (.int .i64 10000))),(1,1,(.c (.int .i64 10010)))],none⟩,
 ⟨some 29,.build [.int .i64 0,.int .i64 0,.int .i64 0,.int .i64 0,.int .i64 0] [(0,1,(.c (.int .i64 5))),(1,1,(.c (.int .i64 3))),(2,1,(.c (.int .i64 20))),(3,2,(.t 28))],none⟩,
 ⟨some 30,.iaddr 38 (.t 27) (.c (.int .i64 2)),none⟩,
 ⟨some 31,.faddr 28 (.t 30),none⟩,
 ⟨none,.store 5 (.t 31) (.t 29),none⟩] [1])
 (.seq (.ops [
 ⟨some 32,.mv (.t 1),none⟩,
 ⟨some 33,.build [.int .i64 0,.int .i64 0] [(0,1,(.c (.int .i64 1))),(1,1,(.c (.int .i64 2)))],none⟩,
 ⟨some 34,.iaddr 38 (.t 32) (.c (.int .i64 3)),none⟩,
 ⟨some 35,.faddr 36 (.t 34),none⟩,
 ⟨none,.store 2 (.t 35) (.t 33),none⟩] [1])
 (.seq (.ops [
 ⟨some 36,.mv (.t 1),none⟩,
 ⟨some 37,.build [.int .i64 0,.int .i64 0] [(0,1,(.c (.int .i64 5))),(1,1,(.c (.int .i64 6)))],none⟩,
 ⟨some 38,.build [.int .i64 0,.int .i64 0,.int .i64 0] [(1,2,(.t 37))],none⟩,
 ⟨some 39,.iaddr 38 (.t 36) (.c (.int .i64 3)),none⟩,
 ⟨some 40,.faddr 25 (.t 39),none⟩,
 ⟨none,.store 3 (.t 40) (.t 38),none⟩] [1])
 (.seq (.ops [
 ⟨some 41,.mv (.t 1),none⟩,
 ⟨some 42,.build [.int .i64 0,.int .i64 0] [(0,1,(.c (.int .i64 1))),(1,1,(.c (.int .i64 1)))],none⟩,
 ⟨some 43,.iaddr 38 (.t 41) (.c (.int .i64 4)),none⟩,
 ⟨some 44,.faddr 36 (.t 43),none⟩,
 ⟨none,.store 2 (.t 44) (.t 42),none⟩] [1])
 (.seq (.ops [
 ⟨some 45,.mv (.t 1),none⟩,
 ⟨some 46,.iaddr 38 (.t 45) (.c (.int .i64 4)),none⟩,
 ⟨some 47,.faddr 5 (.t 46),none⟩,
 ⟨none,.store 1 (.t 47) (.c (.int .i64 5)),none⟩] [1])
 (.seq (.ops [
 ⟨some 48,.mv (.t 1),none⟩,
 ⟨some 49,.iaddr 38 (.t 48) (.c (.int .i64 4)),none⟩,
 ⟨some 50,.faddr 6 (.t 49),none⟩,
 ⟨none,.store 1 (.t 50) (.c (.int .i64 4)),none⟩] [1])
 (.seq (.ops [
 ⟨some 51,.mv (.t 1),none⟩,
 ⟨some 0,.mv (.t 51),none⟩] [0])
 .ret)))))))))))))),
 [.t 0]⟩
theorem k78:chkF Tryz.prog Tryz.f78 c78=true:=by kernel_rfl
def c18:CF:=⟨181,
 (.seq (.ops [
 ⟨some 0,.mv (.c (.bool false)),none⟩] [])
 (.seq (.ops [
 ⟨some 15,.call (.f 77) [],none⟩,
 ⟨some 16,.call (.f 78) [],none⟩,
 ⟨some 17,.call (.f 21) [(.t 15),(.t 16)],none⟩,
 ⟨some 14,.mv (.t 17),none⟩,
 ⟨some 18,.ext 0 (.t 14),none⟩,
 ⟨some 19,.ext 1 (.t 14),none⟩,
 ⟨some 1,.alloc 37 4 [.slice none 0 0,.slice none 0 0,.slice none 0 0,.slice none 0 0],none⟩,
 ⟨none,.store 4 (.t 1) (.t 18),none⟩,
 ⟨some 2,.mv (.t 19),none⟩] [1,2])
 (.seq (.ops [
 ⟨some 21,.call (.f 77) [],none⟩,
 ⟨some 22,.call (.f 78) [],none⟩,
 ⟨some 23,.call (.f 23) [(.t 21),(.t 22),(.c (.int .i64 11)),(.c (.int .i64 100))],none⟩,
 ⟨some 20,.mv (.t 23),none⟩,
 ⟨some 24,.ext 0 (.t 20),none⟩,
 ⟨some 25,.ext 1 (.t 20),none⟩,
 ⟨some 3,.alloc 37 4 [.slice none 0 0,.slice none 0 0,.slice none 0 0,.slice none 0 0],none⟩,
 ⟨none,.store 4 (.t 3) (.t 24),none⟩,
 ⟨some 4,.mv (.t 25),none⟩] [1,2,3,4])
 (.seq (.ops [
 ⟨some 27,.load (some 4) (.t 1),none⟩,
 ⟨some 28,.call (.f 36) [(.t 27)],none⟩,
 ⟨some 26,.mv (.t 28),none⟩,
 ⟨some 29,.ext 0 (.t 26),none⟩,
 ⟨some 30,.ext 1 (.t 26),none⟩,
 ⟨some 5,.mv (.t 29),none⟩,
 ⟨some 6,.mv (.t 30),none⟩] [1,2,3,4,5,6])
 (.seq (.ops [
 ⟨some 32,.call (.f 77) [],none⟩,
 ⟨some 33,.call (.f 78) [],none⟩,
 ⟨some 34,.build [.int .i64 0,.int .i64 0] [(0,1,(.c (.int .i64 1))),(1,1,(.c (.int .i64 2)))],none⟩,
 ⟨some 35,.call (.f 25) [(.t 32),(.t 33),(.t 34)],none⟩,
 ⟨some 31,.mv (.t 35),none⟩,
 ⟨some 36,.ext 0 (.t 31),none⟩,
 ⟨some 37,.ext 1 (.t 31),none⟩,
 ⟨some 7,.mv (.t 36),none⟩,
 ⟨some 8,.mv (.t 37),none⟩] [1,2,3,4,5,6,7,8])
 (.seq (.drawl 5 [
 ⟨some 39,.call (.f 77) [],none⟩,
 ⟨some 40,.load (some 4) (.t 1),none⟩,
 ⟨some 41,.call (.f 37) [(.t 39),(.t 40),(.c (.int .i64 3))],none⟩,
 ⟨some 38,.mv (.t 41),none⟩,
 ⟨some 42,.ext 0 (.t 38),none⟩,
 ⟨some 43,.ext 1 (.t 38),none⟩,
 ⟨some 9,.alloc 86 9 [.slice none 0 0,.int .i64 0,.int .i64 0,.int .i64 0,.int .i64 0,.int .i64 0,.int .i64 0,.slice none 0 0,.slice none 0 0],none⟩] [
 ⟨none,.store 9 (.t 9) (.t 42),none⟩,
 ⟨some 10,.mv (.t 43),none⟩] [1,2,3,4,5,6,7,8,9,10])
 (.seq (.ops [
 ⟨some 44,.call (.f 79) [(.c (.int .i64 6)),(.c (.int .i64 15)),(.c (.int .i64 7))],none⟩,
 ⟨some 11,.alloc 68 38 z38,none⟩,
 ⟨none,.store 38 (.t 11) (.t 44),none⟩] [1,2,3,4,5,6,7,8,9,10,11])
 (.seq (.ops [
 ⟨some 45,.build [.int .i64 0,.int .i64 0] [(0,1,(.c (.int .i64 1))),(1,1,(.c (.int .i64 1)))],none⟩,
 ⟨some 46,.faddr 36 (.t 11),none⟩,
 ⟨none,.store 2 (.t 46) (.t 45),none⟩] [1,2,3,4,5,6,7,8,9,10,11])
 (.seq (.drawl 8 [
 ⟨some 48,.call (.f 77) [],none⟩,
 ⟨some 49,.call (.f 78) [],none⟩,
 ⟨some 50,.load (some 38) (.t 11),none⟩,
 ⟨some 51,.bsl false 68 38 1 z38 [(0,38,(.t 50))],none⟩,
 ⟨some 52,.appi 68 38 368 (.t 49) (.t 51),none⟩,
 ⟨some 53,.call (.f 21) [(.t 48),(.t 52)],none⟩,
 ⟨some 47,.mv (.t 53),none⟩,
 ⟨some 54,.ext 0 (.t 47),none⟩,
 ⟨some 55,.ext 1 (.t 47),none⟩,
 ⟨some 12,.alloc 37 4 [.slice none 0 0,.slice none 0 0,.slice none 0 0,.slice none 0 0],none⟩] [
 ⟨none,.store 4 (.t 12) (.t 54),none⟩,
 ⟨some 13,.mv (.t 55),none⟩] [1,2,3,4,5,6,7,8,9,10,12,13])
 (.seq (.seq (.ops [
 ⟨some 56,.mv (.t 2),none⟩,
 ⟨some 57,.bin .neq (.t 56) (.c (.int .i64 0)),none⟩,
 ⟨some 58,.mv (.t 57),none⟩,
 ⟨some 59,.mv (.t 4),some (58,false)⟩,
 ⟨some 60,.bin .neq (.t 59) (.c (.int .i64 0)),some (58,false)⟩,
 ⟨some 61,.pick (.t 58) (.c (.bool true)) (.t 60),none⟩,
 ⟨some 62,.mv (.t 61),none⟩,
 ⟨some 63,.mv (.t 6),some (62,false)⟩,
 ⟨some 64,.bin .neq (.t 63) (.c (.int .i64 0)),some (62,false)⟩,
 ⟨some 65,.pick (.t 62) (.c (.bool true)) (.t 64),none⟩,
 ⟨some 66,.mv (.t 65),none⟩,
 ⟨some 67,.mv (.t 8),some (66,false)⟩,
 ⟨some 68,.bin .neq (.t 67) (.c (.int .i64 0)),some (66,false)⟩,
 ⟨some 69,.pick (.t 66) (.c (.bool true)) (.t 68),none⟩,
 ⟨some 70,.mv (.t 69),none⟩,
 ⟨some 71,.mv (.t 10),some (70,false)⟩,
 ⟨some 72,.bin .neq (.t 71) (.c (.int .i64 0)),some (70,false)⟩,
 ⟨some 73,.pick (.t 70) (.c (.bool true)) (.t 72),none⟩,
 ⟨some 74,.mv (.t 73),none⟩,
 ⟨some 75,.mv (.t 13),some (74,false)⟩,
 ⟨some 76,.bin .neq (.t 75) (.c (.int .i64 0)),some (74,false)⟩,
 ⟨some 77,.pick (.t 74) (.c (.bool true)) (.t 76),none⟩,
 ⟨some 78,.mv (.t 77),none⟩,
 ⟨some 79,.faddr 0 (.t 1),some (78,false)⟩,
 ⟨some 80,.load none (.t 79),some (78,false)⟩,
 ⟨some 81,.len (.t 80),some (78,false)⟩,
 ⟨some 82,.bin .neq (.t 81) (.c (.int .i64 1)),some (78,false)⟩,
 ⟨some 83,.pick (.t 78) (.c (.bool true)) (.t 82),none⟩,
 ⟨some 84,.mv (.t 83),none⟩,
 ⟨some 85,.faddr 0 (.t 1),some (84,false)⟩,
 ⟨some 86,.load none (.t 85),some (84,false)⟩,
 ⟨some 87,.iaddr 24 (.t 86) (.c (.int .i64 0)),some (84,false)⟩,
 ⟨some 88,.faddr 22 (.t 87),some (84,false)⟩,
 ⟨some 89,.load none (.t 88),some (84,false)⟩,
 ⟨some 90,.len (.t 89),some (84,false)⟩,
 ⟨some 91,.bin .neq (.t 90) (.c (.int .i64 1)),some (84,false)⟩,
 ⟨some 92,.pick (.t 84) (.c (.bool true)) (.t 91),none⟩,
 ⟨some 93,.mv (.t 92),none⟩,
 ⟨some 94,.faddr 0 (.t 3),some (93,false)⟩,
 ⟨some 95,.load none (.t 94),some (93,false)⟩,
 ⟨some 96,.len (.t 95),some (93,false)⟩,
 ⟨some 97,.bin .neq (.t 96) (.c (.int .i64 1)),some (93,false)⟩,
 ⟨some 98,.pick (.t 93) (.c (.bool true)) (.t 97),none⟩,
 ⟨some 99,.mv (.t 98),none⟩,
 ⟨some 100,.faddr 0 (.t 3),some (99,false)⟩,
 ⟨some 101,.load none (.t 100),some (99,false)⟩,
 ⟨some 102,.iaddr 24 (.t 101) (.c (.int .i64 0)),some (99,false)⟩,
 ⟨some 103,.faddr 22 (.t 102),some (99,false)⟩,
 ⟨some 104,.load none (.t 103),some (99,false)⟩,
 ⟨some 105,.len (.t 104),some (99,false)⟩,
 ⟨some 106,.bin .neq (.t 105) (.c (.int .i64 1)),some (99,false)⟩,
 ⟨some 107,.pick (.t 99) (.c (.bool true)) (.t 106),none⟩,
 ⟨some 108,.mv (.t 107),none⟩,
 ⟨some 109,.faddr 3 (.t 12),some (108,false)⟩,
 ⟨some 110,.load none (.t 109),some (108,false)⟩,
 ⟨some 111,.len (.t 110),some (108,false)⟩,
 ⟨some 112,.bin .neq (.t 111) (.c (.int .i64 3)),some (108,false)⟩,
 ⟨some 113,.pick (.t 108) (.c (.bool true)) (.t 112),none⟩] [1,3,5,7,9,12,113])
 (.cond (.t 113) (.seq (.ops [
 ⟨some 0,.mv (.c (.bool false)),none⟩] [0])
 .ret)
 .skip))
 (.seq (.ops [
 ⟨some 114,.faddr 0 (.t 1),none⟩,
 ⟨some 115,.load none (.t 114),none⟩,
 ⟨some 116,.iaddr 24 (.t 115) (.c (.int .i64 0)),none⟩,
 ⟨some 117,.faddr 3 (.t 116),none⟩,
 ⟨some 118,.load none (.t 117),none⟩,
 ⟨some 119,.bin .eql (.t 118) (.c (.int .i64 4)),none⟩,
 ⟨some 120,.mv (.t 119),none⟩,
 ⟨some 121,.faddr 0 (.t 1),some (120,true)⟩,
 ⟨some 122,.load none (.t 121),some (120,true)⟩,
 ⟨some 123,.iaddr 24 (.t 122) (.c (.int .i64 0)),some (120,true)⟩,
 ⟨some 124,.faddr 22 (.t 123),some (120,true)⟩,
 ⟨some 125,.load none (.t 124),some (120,true)⟩,
 ⟨some 126,.iaddr 3 (.t 125) (.c (.int .i64 0)),some (120,true)⟩,
 ⟨some 127,.faddr 1 (.t 126),some (120,true)⟩,
 ⟨some 128,.faddr 0 (.t 127),some (120,true)⟩,
 ⟨some 129,.load none (.t 128),some (120,true)⟩,
 ⟨some 130,.bin .eql (.t 129) (.c (.int .i64 5)),some (120,true)⟩,
 ⟨some 131,.pick (.t 120) (.t 130) (.c (.bool false)),none⟩,
 ⟨some 132,.mv (.t 131),none⟩,
 ⟨some 133,.faddr 0 (.t 3),some (132,true)⟩,
 ⟨some 134,.load none (.t 133),some (132,true)⟩,
 ⟨some 135,.iaddr 24 (.t 134) (.c (.int .i64 0)),some (132,true)⟩,
 ⟨some 136,.faddr 3 (.t 135),some (132,true)⟩,
 ⟨some 137,.load none (.t 136),some (132,true)⟩,
 ⟨some 138,.bin .eql (.t 137) (.c (.int .i64 3)),some (132,true)⟩,
 ⟨some 139,.pick (.t 132) (.t 138) (.c (.bool false)),none⟩,
 ⟨some 140,.mv (.t 139),none⟩,
 ⟨some 141,.faddr 0 (.t 3),some (140,true)⟩,
 ⟨some 142,.load none (.t 141),some (140,true)⟩,
 ⟨some 143,.iaddr 24 (.t 142) (.c (.int .i64 0)),some (140,true)⟩,
 ⟨some 144,.faddr 22 (.t 143),some (140,true)⟩,
 ⟨some 145,.load none (.t 144),some (140,true)⟩,
 ⟨some 146,.iaddr 3 (.t 145) (.c (.int .i64 0)),some (140,true)⟩,
 ⟨some 147,.faddr 1 (.t 146),some (140,true)⟩,
 ⟨some 148,.faddr 0 (.t 147),some (140,true)⟩,
 ⟨some 149,.load none (.t 148),some (140,true)⟩,
 ⟨some 150,.bin .eql (.t 149) (.c (.int .i64 4)),some (140,true)⟩,
 ⟨some 151,.pick (.t 140) (.t 150) (.c (.bool false)),none⟩,
 ⟨some 152,.mv (.t 151),none⟩,
 ⟨some 153,.mv (.t 5),some (152,true)⟩,
 ⟨some 154,.bsl false 3 1 2 [.int .i64 0,.int .i64 0] [(0,1,(.c (.int .i64 3))),(1,1,(.c (.int .i64 4)))],some (152,true)⟩,
 ⟨some 155,.call (.f 68) [(.t 153),(.t 154)],some (152,true)⟩,
 ⟨some 156,.pick (.t 152) (.t 155) (.c (.bool false)),none⟩,
 ⟨some 157,.mv (.t 156),none⟩,
 ⟨some 158,.mv (.t 7),some (157,true)⟩,
 ⟨some 159,.build [.int .i64 0,.int .i64 0] [(0,1,(.c (.int .i64 1))),(1,1,(.c (.int .i64 4)))],some (157,true)⟩,
 ⟨some 160,.bsl false 29 2 1 [.int .i64 0,.int .i64 0] [(0,2,(.t 159))],some (157,true)⟩,
 ⟨some 161,.call (.f 28) [(.t 158),(.t 160)],some (157,true)⟩,
 ⟨some 162,.pick (.t 157) (.t 161) (.c (.bool false)),none⟩,
 ⟨some 163,.mv (.t 162),none⟩,
 ⟨some 164,.faddr 7 (.t 9),some (163,true)⟩,
 ⟨some 165,.load none (.t 164),some (163,true)⟩,
 ⟨some 166,.len (.t 165),some (163,true)⟩,
 ⟨some 167,.bin .eql (.t 166) (.c (.int .i64 0)),some (163,true)⟩,
 ⟨some 168,.pick (.t 163) (.t 167) (.c (.bool false)),none⟩,
 ⟨some 169,.mv (.t 168),none⟩,
 ⟨some 170,.faddr 8 (.t 9),some (169,true)⟩,
 ⟨some 171,.load none (.t 170),some (169,true)⟩,
 ⟨some 172,.len (.t 171),some (169,true)⟩,
 ⟨some 173,.bin .eql (.t 172) (.c (.int .i64 1)),some (169,true)⟩,
 ⟨some 174,.pick (.t 169) (.t 173) (.c (.bool false)),none⟩,
 ⟨some 175,.mv (.t 174),none⟩,
 ⟨some 176,.faddr 0 (.t 12),some (175,true)⟩,
 ⟨some 177,.load none (.t 176),some (175,true)⟩,
 ⟨some 178,.len (.t 177),some (175,true)⟩,
 ⟨some 179,.bin .eql (.t 178) (.c (.int .i64 0)),some (175,true)⟩,
 ⟨some 180,.pick (.t 175) (.t 179) (.c (.bool false)),none⟩,
 ⟨some 0,.mv (.t 180),none⟩] [0])
 .ret))))))))))),
 [.t 0]⟩
theorem k18:chkF Tryz.prog Tryz.f18 c18=true:=by kernel_rfl
theorem sameNm (a b:List Nm) (ha:a.length < 9223372036854775808) (hb:b.length < 9223372036854775808):Pure Tryz.prog 28 [nmS a,nmS b] (bl (decide (a=b))):=by
  refine Pure.of_body Tryz.call28 Tryz.func28 k28 (Nat.le_of_ble_eq_true rfl) ?_
  unfold c28
  (repeat' ((first|refine vn rfl ?_|simp (disch:=omega) only [wr64,W7]|refine bo (fun _=>?_) fun _=>?_|refine im fun _=>?_|refine cF ?_|refine om ?_|refine an ?_|fail) <;> try simp only [zN,zT,zV,zS,zU,Q0,Q1,ex,Q2,Q3,Q4,Q5,Q6,Q7,Q8,Q9,QA,QB,QC,W0,W1,W2,W3,W4,W5,W6,reduceIte]))
  · rename_i h
    rw [decide_eq_false fun e=>by subst e; omega]; exact Frz.eq rfl (by simp)
  rename_i hne
  have hlen:a.length=b.length:=by omega
  refine AWPC.loopI 5 a.length (fun i=>a.take i=b.take i) (by simp) ?_ ?_
  · (simp only [zN,zT,zV,zS,zU,Q0,Q1,ex,Q2,Q3,Q4,Q5,Q6,Q7,Q8,Q9,QA,QB,QC,W0,W1,W2,W3,W4,W5,W6,reduceIte]; try simp)
  · intro i hi hI
    by_cases hlt:i < a.length
    · have hx:(a.map Nm.cs).getD i []=Nm.cs (a.getD i nm0):=row _ hlt
      have hy:(b.map Nm.cs).getD i []=Nm.cs (b.getD i nm0):=row _ (by omega)
      have hk:a.getD i nm0=b.getD i nm0↔a.take (i+1)=b.take (i+1):=by
        rw [List.take_add_one,List.take_add_one,hI,getD_lt nm0 hlt,getD_lt nm0 (show i < b.length by omega)]; simp
      generalize a.getD i nm0=x at hx hk
      generalize b.getD i nm0=y at hy hk
      obtain ⟨x1,x2⟩:=x
      obtain ⟨y1,y2⟩:=y
      simp only [Nm.mk.injEq] at hk
      (repeat' ((first|refine vn rfl ?_|simp (disch:=omega) only [wr64,W7]|refine bo (fun _=>?_) fun _=>?_|refine im fun _=>?_|refine cF ?_|refine om ?_|refine an ?_|fail) <;> try simp only [zN,zT,zV,zS,zU,Q0,Q1,ex,Q2,Q3,Q4,Q5,Q6,Q7,Q8,Q9,QA,QB,QC,W0,W1,W2,W3,W4,W5,W6,reduceIte,hx,hy]))
      all_goals try (exfalso; omega)
      · rename_i h
        rw [decide_eq_false fun e=>by
          have:=hk.2 (by rw [e])
          omega]
        exact Frz.eq rfl (by simp)
      · rename_i h
        exact ⟨⟨i+1,hlt,hk.1 (by omega)⟩,by simp,by simp only; omega⟩
    · obtain rfl:i=a.length:=by omega
      (repeat' ((first|refine vn rfl ?_|simp (disch:=omega) only [wr64,W7]|refine bo (fun _=>?_) fun _=>?_|refine im fun _=>?_|refine cF ?_|refine om ?_|refine an ?_|fail) <;> try simp only [zN,zT,zV,zS,zU,Q0,Q1,ex,Q2,Q3,Q4,Q5,Q6,Q7,Q8,Q9,QA,QB,QC,W0,W1,W2,W3,W4,W5,W6,reduceIte]))
      all_goals try (exfalso; omega)
      rw [List.take_length,hlen,List.take_length] at hI
      rw [decide_eq_true hI]
      exact Frz.eq rfl (by simp)
theorem sameInt (a b:List Int) (ha:a.length < 9223372036854775808) (hb:b.length < 9223372036854775808):Pure Tryz.prog 68 [inS a,inS b] (bl (decide (a=b))):=by
  refine Pure.of_body Tryz.call68 Tryz.func68 k68 (Nat.le_of_ble_eq_true rfl) ?_
  unfold c68
  (repeat' ((first|refine vn rfl ?_|simp (disch:=omega) only [wr64,W7]|refine bo (fun _=>?_) fun _=>?_|refine im fun _=>?_|refine cF ?_|refine om ?_|refine an ?_|fail) <;> try simp only [zN,zT,zV,zS,zU,Q0,Q1,ex,Q2,Q3,Q4,Q5,Q6,Q7,Q8,Q9,QA,QB,QC,W0,W1,W2,W3,W4,W5,W6,reduceIte]))
  · rename_i h
    rw [decide_eq_false fun e=>by subst e; omega]; exact Frz.eq rfl (by simp)
  rename_i hne
  have hlen:a.length=b.length:=by omega
  refine AWPC.loopI 5 a.length (fun i=>a.take i=b.take i) (by simp) ?_ ?_
  · (simp only [zN,zT,zV,zS,zU,Q0,Q1,ex,Q2,Q3,Q4,Q5,Q6,Q7,Q8,Q9,QA,QB,QC,W0,W1,W2,W3,W4,W5,W6,reduceIte]; try simp)
  · intro i hi hI
    by_cases hlt:i < a.length
    · have hx:(a.map (fun z=>[n z])).getD i []=(fun z=>[n z]) (a.getD i 0):=row _ hlt
      have hy:(b.map (fun z=>[n z])).getD i []=(fun z=>[n z]) (b.getD i 0):=row _ (by omega)
      have hk:a.getD i 0=b.getD i 0↔a.take (i+1)=b.take (i+1):=by
        rw [List.take_add_one,List.take_add_one,hI,getD_lt 0 hlt,getD_lt 0 (show i < b.length by omega)]; simp
      generalize a.getD i 0=x at hx hk
      generalize b.getD i 0=y at hy hk
      (repeat' ((first|refine vn rfl ?_|simp (disch:=omega) only [wr64,W7]|refine bo (fun _=>?_) fun _=>?_|refine im fun _=>?_|refine cF ?_|refine om ?_|refine an ?_|fail) <;> try simp only [zN,zT,zV,zS,zU,Q0,Q1,ex,Q2,Q3,Q4,Q5,Q6,Q7,Q8,Q9,QA,QB,QC,W0,W1,W2,W3,W4,W5,W6,reduceIte,hx,hy]))
      all_goals try (exfalso; omega)
      · rename_i h
        rw [decide_eq_false fun e=>by
          have:=hk.2 (by rw [e])
          omega]
        exact Frz.eq rfl (by simp)
      · rename_i h
        exact ⟨⟨i+1,hlt,hk.1 (by omega)⟩,by simp,by simp only; omega⟩
    · obtain rfl:i=a.length:=by omega
      (repeat' ((first|refine vn rfl ?_|simp (disch:=omega) only [wr64,W7]|refine bo (fun _=>?_) fun _=>?_|refine im fun _=>?_|refine cF ?_|refine om ?_|refine an ?_|fail) <;> try simp only [zN,zT,zV,zS,zU,Q0,Q1,ex,Q2,Q3,Q4,Q5,Q6,Q7,Q8,Q9,QA,QB,QC,W0,W1,W2,W3,W4,W5,W6,reduceIte]))
      all_goals try (exfalso; omega)
      rw [List.take_length,hlen,List.take_length] at hI
      rw [decide_eq_true hI]
      exact Frz.eq rfl (by simp)
def offB:Bse:=⟨[⟨5,0,0,[⟨0,⟨100,100⟩⟩]⟩],10,0,50,100,2⟩
def chartS:Sht:=⟨⟨100,1000,0,9600,10600,3,⟨1000,1000⟩,⟨1000,1000⟩⟩,[],[],[⟨1,2⟩,⟨1,2⟩],[],⟨1,⟨0,0⟩,10⟩⟩
def noteN (num day kind:Int):Nt:={ nt0 with clerk:=1,num:=num,clock:=num,day:=day,kind:=kind }
def sampL:List Nt:=[{ noteN 1 10 1 with stn:=5,week:=3,sheet:=chartS },{ noteN 2 11 2 with ref:=⟨1,1⟩,mark:=⟨0,⟨4,6⟩⟩ },{ noteN 3 12 3 with read:=⟨5,3,20,⟨10000,10010⟩⟩ },
  { noteN 4 13 6 with ref:=⟨1,2⟩,mark:=⟨0,⟨5,6⟩⟩ },{ noteN 5 14 5 with ref:=⟨1,1⟩,stn:=5,week:=4 }]
abbrev noteC (num day kind:Int):List AV:=[n 1,n num,n num,n day,n kind,n 0,n 0,n 0,n 0,n 0,n 0,n 0,n 0,n 0,n 0,n 0,n 0,.sl 3 [],.sl 1 [],.sl 2 [],.sl 3 [],n 0,n 0,n 0,n 0,n 0,n 0,n 0,n 0,n 0,n 0,n 0,n 0,n 0,n 0,n 0,n 0,n 0]
theorem office_spec:Pure Tryz.prog 77 [] (.agg offB.cs):=by
  refine Pure.of_body Tryz.call77 Tryz.func77 k77 (Nat.le_of_ble_eq_true rfl) ?_
  unfold c77
  (repeat' ((first|refine vn rfl ?_|simp (disch:=omega) only [wr64,W7]|refine bo (fun _=>?_) fun _=>?_|refine im fun _=>?_|refine cF ?_|refine om ?_|refine an ?_|fail) <;> try simp only [zN,zT,zV,zS,zU,Q0,Q1,ex,Q2,Q3,Q4,Q5,Q6,Q7,Q8,Q9,QA,QB,QC,W0,W1,W2,W3,W4,W5,W6,reduceIte]))
  exact Frz.aggL ⟨Frz.eq rfl (snS_pure offB.stns),Frz.eq rfl (PureV.v _),Frz.eq rfl (PureV.v _),Frz.eq rfl (PureV.v _),Frz.eq rfl (PureV.v _),Frz.eq rfl (PureV.v _),trivial⟩
theorem note_spec (num day kind:Int):Pure Tryz.prog 79 [n num,n day,n kind] (.agg (noteC num day kind)):=by
  refine Pure.of_body Tryz.call79 Tryz.func79 k79 (Nat.le_of_ble_eq_true rfl) ?_
  unfold c79
  (repeat' ((first|refine vn rfl ?_|simp (disch:=omega) only [wr64,W7]|refine bo (fun _=>?_) fun _=>?_|refine im fun _=>?_|refine cF ?_|refine om ?_|refine an ?_|fail) <;> try simp only [zN,zT,zV,zS,zU,Q0,Q1,ex,Q2,Q3,Q4,Q5,Q6,Q7,Q8,Q9,QA,QB,QC,W0,W1,W2,W3,W4,W5,W6,reduceIte]))
  exact Frz.aggL ⟨Frz.eq rfl (PureV.v _),Frz.eq rfl (PureV.v _),Frz.eq rfl (PureV.v _),Frz.eq rfl (PureV.v _),Frz.eq rfl (PureV.v _),Frz.eq rfl (PureV.v _),Frz.eq rfl (PureV.v _),Frz.eq rfl (PureV.v _),Frz.eq rfl (PureV.v _),Frz.eq rfl (PureV.v _),Frz.eq rfl (PureV.v _),Frz.eq rfl (PureV.v _),Frz.eq rfl (PureV.v _),Frz.eq rfl (PureV.v _),Frz.eq rfl (PureV.v _),Frz.eq rfl (PureV.v _),Frz.eq rfl (PureV.v _),Frz.nil0,Frz.nil0,Frz.nil0,Frz.nil0,Frz.eq rfl (PureV.v _),Frz.eq rfl (PureV.v _),Frz.eq rfl (PureV.v _),Frz.eq rfl (PureV.v _),Frz.eq rfl (PureV.v _),Frz.eq rfl (PureV.v _),Frz.eq rfl (PureV.v _),Frz.eq rfl (PureV.v _),Frz.eq rfl (PureV.v _),Frz.eq rfl (PureV.v _),Frz.eq rfl (PureV.v _),Frz.eq rfl (PureV.v _),Frz.eq rfl (PureV.v _),Frz.eq rfl (PureV.v _),Frz.eq rfl (PureV.v _),Frz.eq rfl (PureV.v _),Frz.eq rfl (PureV.v _),trivial⟩
theorem chart_spec:Pure Tryz.prog 140 [] (.agg chartS.cs):=by
  refine Pure.of_body Tryz.call140 Tryz.func140 k140 (Nat.le_of_ble_eq_true rfl) ?_
  unfold c140
  (repeat' ((first|refine vn rfl ?_|simp (disch:=omega) only [wr64,W7]|refine bo (fun _=>?_) fun _=>?_|refine im fun _=>?_|refine cF ?_|refine om ?_|refine an ?_|fail) <;> try simp only [zN,zT,zV,zS,zU,Q0,Q1,ex,Q2,Q3,Q4,Q5,Q6,Q7,Q8,Q9,QA,QB,QC,W0,W1,W2,W3,W4,W5,W6,reduceIte]))
  exact Frz.aggL ⟨Frz.eq rfl (PureV.v _),Frz.eq rfl (PureV.v _),Frz.eq rfl (PureV.v _),Frz.eq rfl (PureV.v _),Frz.eq rfl (PureV.v _),Frz.eq rfl (PureV.v _),Frz.eq rfl (PureV.v _),Frz.eq rfl (PureV.v _),Frz.eq rfl (PureV.v _),Frz.eq rfl (PureV.v _),Frz.nil0,Frz.nil0,Frz.eq rfl (PureV.sl fun e he c hc=>by simp at he; rcases he with rfl | rfl <;> (simp at hc; rcases hc with rfl | rfl <;> exact PureV.v _)),Frz.nil0,Frz.eq rfl (PureV.v _),Frz.eq rfl (PureV.v _),Frz.eq rfl (PureV.v _),Frz.eq rfl (PureV.v _),trivial⟩
theorem sampleF_spec:Pure Tryz.prog 78 [] (.fresh 38 (sampL.map Nt.cs)):=by
  refine Pure.of_body Tryz.call78 Tryz.func78 k78 (Nat.le_of_ble_eq_true rfl) ?_
  unfold c78
  (repeat' ((first|refine vn rfl ?_|simp (disch:=omega) only [wr64,W7]|refine bo (fun _=>?_) fun _=>?_|refine im fun _=>?_|((repeat refine si ?_); (first|((first|refine .inl ⟨_,_,_,_,rfl,fun _=>pu (by first|exact note_spec 1 10 1|exact note_spec 2 11 2|exact note_spec 3 12 3|exact note_spec 4 13 6|exact note_spec 5 14 5|exact chart_spec),?_⟩|refine ⟨_,_,_,_,rfl,fun _=>pu (by first|exact note_spec 1 10 1|exact note_spec 2 11 2|exact note_spec 3 12 3|exact note_spec 4 13 6|exact note_spec 5 14 5|exact chart_spec),?_⟩); (first|refine o1 ?_|refine o2 ?_|refine o3 ?_|refine o4 ?_)) | refine .inl ⟨_,_,_,_,rfl,pu (by first|exact note_spec 1 10 1|exact note_spec 2 11 2|exact note_spec 3 12 3|exact note_spec 4 13 6|exact note_spec 5 14 5|exact chart_spec),?_⟩))|refine cF ?_|refine om ?_|refine an ?_|fail) <;> try simp only [zN,zT,zV,zS,zU,Q0,Q1,ex,Q2,Q3,Q4,Q5,Q6,Q7,Q8,Q9,QA,QB,QC,W0,W1,W2,W3,W4,W5,W6,reduceIte]))
  exact Frz.tightL (T:=68) (cs:=Nt.cs) (l:=sampL) rfl rfl (by decide) (fun a=>Nt.pc a) (fun a=>rfl)
theorem sample_spec:Pure Tryz.prog 78 [] (ntS sampL):=sampleF_spec.slack
def outN:Nt:={ noteN 6 15 7 with ref:=⟨1,1⟩ }
def reg1:Rgr:=⟨[⟨⟨1,1⟩,5,4,chartS,[⟨0,⟨5,6⟩⟩],[⟨1,2⟩]⟩],[⟨5,3,20,⟨10000,10010⟩⟩],offB.stns,[]⟩
def reg2:Rgr:=⟨[⟨⟨1,1⟩,5,3,chartS,[⟨0,⟨4,6⟩⟩],[⟨1,2⟩]⟩],[],offB.stns,[]⟩
def reg3:Rgr:=⟨[],[⟨5,3,20,⟨10000,10010⟩⟩],offB.stns,[⟨1,2⟩,⟨1,4⟩,⟨1,5⟩]⟩
theorem ev1:foldE offB sampL=(reg1,0):=by decide +kernel
theorem ev2:asofE offB sampL 11 100=(reg2,0):=by decide +kernel
theorem ev3:weeksT reg1=[3,4]:=by decide +kernel
theorem ev4:chainE offB sampL ⟨1,2⟩=([⟨1,4⟩],0):=by decide +kernel
theorem ev5:weekE offB reg1 3=(⟨offB,3,[],[⟨5,3,20,⟨10000,10010⟩⟩]⟩,0):=by decide +kernel
theorem ev6:foldE offB (sampL++[outN])=(reg3,0):=by decide +kernel
theorem offSz:bseSz offB:=by
  refine ⟨by decide,fun s hs=>?_⟩
  simp only [offB,List.mem_singleton] at hs
  subst hs
  decide
theorem sampSz:∀ a∈sampL++[outN],ntSz a:=by
  intro a ha
  simp only [sampL,List.cons_append,List.nil_append,List.mem_cons,List.not_mem_nil,or_false] at ha
  rcases ha with rfl | rfl | rfl | rfl | rfl | rfl <;> exact ⟨by decide,by decide,by decide,by decide⟩
theorem sampS:setSz sampL:=⟨by decide,fun a ha=>sampSz a (by simp [ha])⟩
theorem samp6:setSz (sampL++[outN]):=⟨by decide,sampSz⟩
theorem sampH:∀ a∈sampL++[outN],a.kind≠4:=by
  intro a ha
  simp only [sampL,List.cons_append,List.nil_append,List.mem_cons,List.not_mem_nil,or_false] at ha
  rcases ha with rfl | rfl | rfl | rfl | rfl | rfl <;> decide
theorem regC:∀ f∈reg1.sheets,fldC f:=by
  intro f hf
  simp only [reg1,List.mem_singleton] at hf
  subst hf
  exact ⟨⟨by decide,by decide,by decide,by decide⟩,by decide,by decide⟩
theorem awake_spec:Pure Tryz.prog 18 [] (bl true):=by
  have f1:=Fold_spec offB offSz sampL sampS (fun a ha=>sampH a (by simp [ha]))
  rw [ev1] at f1
  have f2:=AsOf_spec offB offSz sampL sampS (fun a ha=>sampH a (by simp [ha])) 11 100
  rw [ev2] at f2
  have f3:=Weeks_spec reg1 (by decide) (by decide)
  rw [ev3] at f3
  have f4:=Chain_spec offB offSz sampL sampS ⟨1,2⟩
  rw [ev4] at f4
  have f5:=WeekOf_of sortF0 offB offSz reg1 3 (by decide) (by decide) (by decide) regC (by decide) (by decide)
  rw [ev5] at f5
  have f6:=Fold_spec offB offSz (sampL++[outN]) samp6 sampH
  rw [ev6] at f6
  refine Pure.of_body Tryz.call18 Tryz.func18 k18 (Nat.le_of_ble_eq_true rfl) ?_
  unfold c18
  ((first|refine vn rfl ?_|simp (disch:=omega) only [wr64,W7]|refine bo (fun _=>?_) fun _=>?_|refine im fun _=>?_|((repeat refine si ?_); (first|((first|refine .inl ⟨_,_,_,_,rfl,fun _=>pu (by first|exact office_spec|exact sample_spec|exact f1|exact f2|exact f3|exact f4|exact f5|exact f6|exact note_spec 6 15 7|exact sameInt [3,4] [3,4] (by decide) (by decide)|exact sameNm [⟨1,4⟩] [⟨1,4⟩] (by decide) (by decide)),?_⟩|refine ⟨_,_,_,_,rfl,fun _=>pu (by first|exact office_spec|exact sample_spec|exact f1|exact f2|exact f3|exact f4|exact f5|exact f6|exact note_spec 6 15 7|exact sameInt [3,4] [3,4] (by decide) (by decide)|exact sameNm [⟨1,4⟩] [⟨1,4⟩] (by decide) (by decide)),?_⟩); (first|refine o1 ?_|refine o2 ?_|refine o3 ?_|refine o4 ?_)) | refine .inl ⟨_,_,_,_,rfl,pu (by first|exact office_spec|exact sample_spec|exact f1|exact f2|exact f3|exact f4|exact f5|exact f6|exact note_spec 6 15 7|exact sameInt [3,4] [3,4] (by decide) (by decide)|exact sameNm [⟨1,4⟩] [⟨1,4⟩] (by decide) (by decide)),?_⟩))|refine cF ?_|refine om ?_|refine an ?_|fail) <;> try simp only [zN,zT,zV,zS,zU,Q0,Q1,ex,Q2,Q3,Q4,Q5,Q6,Q7,Q8,Q9,QA,QB,QC,W0,W1,W2,W3,W4,W5,W6,reduceIte,reg1,reg2,reg3,List.map_cons,List.map_nil,List.length_cons,List.length_nil])
  ((first|refine vn rfl ?_|simp (disch:=omega) only [wr64,W7]|refine bo (fun _=>?_) fun _=>?_|refine im fun _=>?_|((repeat refine si ?_); (first|((first|refine .inl ⟨_,_,_,_,rfl,fun _=>pu (by first|exact office_spec|exact sample_spec|exact f1|exact f2|exact f3|exact f4|exact f5|exact f6|exact note_spec 6 15 7|exact sameInt [3,4] [3,4] (by decide) (by decide)|exact sameNm [⟨1,4⟩] [⟨1,4⟩] (by decide) (by decide)),?_⟩|refine ⟨_,_,_,_,rfl,fun _=>pu (by first|exact office_spec|exact sample_spec|exact f1|exact f2|exact f3|exact f4|exact f5|exact f6|exact note_spec 6 15 7|exact sameInt [3,4] [3,4] (by decide) (by decide)|exact sameNm [⟨1,4⟩] [⟨1,4⟩] (by decide) (by decide)),?_⟩); (first|refine o1 ?_|refine o2 ?_|refine o3 ?_|refine o4 ?_)) | refine .inl ⟨_,_,_,_,rfl,pu (by first|exact office_spec|exact sample_spec|exact f1|exact f2|exact f3|exact f4|exact f5|exact f6|exact note_spec 6 15 7|exact sameInt [3,4] [3,4] (by decide) (by decide)|exact sameNm [⟨1,4⟩] [⟨1,4⟩] (by decide) (by decide)),?_⟩))|refine cF ?_|refine om ?_|refine an ?_|fail) <;> try simp only [zN,zT,zV,zS,zU,Q0,Q1,ex,Q2,Q3,Q4,Q5,Q6,Q7,Q8,Q9,QA,QB,QC,W0,W1,W2,W3,W4,W5,W6,reduceIte,reg1,reg2,reg3,List.map_cons,List.map_nil,List.length_cons,List.length_nil])
  ((first|refine vn rfl ?_|simp (disch:=omega) only [wr64,W7]|refine bo (fun _=>?_) fun _=>?_|refine im fun _=>?_|((repeat refine si ?_); (first|((first|refine .inl ⟨_,_,_,_,rfl,fun _=>pu (by first|exact office_spec|exact sample_spec|exact f1|exact f2|exact f3|exact f4|exact f5|exact f6|exact note_spec 6 15 7|exact sameInt [3,4] [3,4] (by decide) (by decide)|exact sameNm [⟨1,4⟩] [⟨1,4⟩] (by decide) (by decide)),?_⟩|refine ⟨_,_,_,_,rfl,fun _=>pu (by first|exact office_spec|exact sample_spec|exact f1|exact f2|exact f3|exact f4|exact f5|exact f6|exact note_spec 6 15 7|exact sameInt [3,4] [3,4] (by decide) (by decide)|exact sameNm [⟨1,4⟩] [⟨1,4⟩] (by decide) (by decide)),?_⟩); (first|refine o1 ?_|refine o2 ?_|refine o3 ?_|refine o4 ?_)) | refine .inl ⟨_,_,_,_,rfl,pu (by first|exact office_spec|exact sample_spec|exact f1|exact f2|exact f3|exact f4|exact f5|exact f6|exact note_spec 6 15 7|exact sameInt [3,4] [3,4] (by decide) (by decide)|exact sameNm [⟨1,4⟩] [⟨1,4⟩] (by decide) (by decide)),?_⟩))|refine cF ?_|refine om ?_|refine an ?_|fail) <;> try simp only [zN,zT,zV,zS,zU,Q0,Q1,ex,Q2,Q3,Q4,Q5,Q6,Q7,Q8,Q9,QA,QB,QC,W0,W1,W2,W3,W4,W5,W6,reduceIte,reg1,reg2,reg3,List.map_cons,List.map_nil,List.length_cons,List.length_nil])
  ((first|refine vn rfl ?_|simp (disch:=omega) only [wr64,W7]|refine bo (fun _=>?_) fun _=>?_|refine im fun _=>?_|((repeat refine si ?_); (first|((first|refine .inl ⟨_,_,_,_,rfl,fun _=>pu (by first|exact office_spec|exact sample_spec|exact f1|exact f2|exact f3|exact f4|exact f5|exact f6|exact note_spec 6 15 7|exact sameInt [3,4] [3,4] (by decide) (by decide)|exact sameNm [⟨1,4⟩] [⟨1,4⟩] (by decide) (by decide)),?_⟩|refine ⟨_,_,_,_,rfl,fun _=>pu (by first|exact office_spec|exact sample_spec|exact f1|exact f2|exact f3|exact f4|exact f5|exact f6|exact note_spec 6 15 7|exact sameInt [3,4] [3,4] (by decide) (by decide)|exact sameNm [⟨1,4⟩] [⟨1,4⟩] (by decide) (by decide)),?_⟩); (first|refine o1 ?_|refine o2 ?_|refine o3 ?_|refine o4 ?_)) | refine .inl ⟨_,_,_,_,rfl,pu (by first|exact office_spec|exact sample_spec|exact f1|exact f2|exact f3|exact f4|exact f5|exact f6|exact note_spec 6 15 7|exact sameInt [3,4] [3,4] (by decide) (by decide)|exact sameNm [⟨1,4⟩] [⟨1,4⟩] (by decide) (by decide)),?_⟩))|refine cF ?_|refine om ?_|refine an ?_|fail) <;> try simp only [zN,zT,zV,zS,zU,Q0,Q1,ex,Q2,Q3,Q4,Q5,Q6,Q7,Q8,Q9,QA,QB,QC,W0,W1,W2,W3,W4,W5,W6,reduceIte,reg1,reg2,reg3,List.map_cons,List.map_nil,List.length_cons,List.length_nil])
  ((first|refine vn rfl ?_|simp (disch:=omega) only [wr64,W7]|refine bo (fun _=>?_) fun _=>?_|refine im fun _=>?_|((repeat refine si ?_); (first|((first|refine .inl ⟨_,_,_,_,rfl,fun _=>pu (by first|exact office_spec|exact sample_spec|exact f1|exact f2|exact f3|exact f4|exact f5|exact f6|exact note_spec 6 15 7|exact sameInt [3,4] [3,4] (by decide) (by decide)|exact sameNm [⟨1,4⟩] [⟨1,4⟩] (by decide) (by decide)),?_⟩|refine ⟨_,_,_,_,rfl,fun _=>pu (by first|exact office_spec|exact sample_spec|exact f1|exact f2|exact f3|exact f4|exact f5|exact f6|exact note_spec 6 15 7|exact sameInt [3,4] [3,4] (by decide) (by decide)|exact sameNm [⟨1,4⟩] [⟨1,4⟩] (by decide) (by decide)),?_⟩); (first|refine o1 ?_|refine o2 ?_|refine o3 ?_|refine o4 ?_)) | refine .inl ⟨_,_,_,_,rfl,pu (by first|exact office_spec|exact sample_spec|exact f1|exact f2|exact f3|exact f4|exact f5|exact f6|exact note_spec 6 15 7|exact sameInt [3,4] [3,4] (by decide) (by decide)|exact sameNm [⟨1,4⟩] [⟨1,4⟩] (by decide) (by decide)),?_⟩))|refine cF ?_|refine om ?_|refine an ?_|fail) <;> try simp only [zN,zT,zV,zS,zU,Q0,Q1,ex,Q2,Q3,Q4,Q5,Q6,Q7,Q8,Q9,QA,QB,QC,W0,W1,W2,W3,W4,W5,W6,reduceIte,reg1,reg2,reg3,List.map_cons,List.map_nil,List.length_cons,List.length_nil])
  ((first|refine vn rfl ?_|simp (disch:=omega) only [wr64,W7]|refine bo (fun _=>?_) fun _=>?_|refine im fun _=>?_|((repeat refine si ?_); (first|((first|refine .inl ⟨_,_,_,_,rfl,fun _=>pu (by first|exact office_spec|exact sample_spec|exact f1|exact f2|exact f3|exact f4|exact f5|exact f6|exact note_spec 6 15 7|exact sameInt [3,4] [3,4] (by decide) (by decide)|exact sameNm [⟨1,4⟩] [⟨1,4⟩] (by decide) (by decide)),?_⟩|refine ⟨_,_,_,_,rfl,fun _=>pu (by first|exact office_spec|exact sample_spec|exact f1|exact f2|exact f3|exact f4|exact f5|exact f6|exact note_spec 6 15 7|exact sameInt [3,4] [3,4] (by decide) (by decide)|exact sameNm [⟨1,4⟩] [⟨1,4⟩] (by decide) (by decide)),?_⟩); (first|refine o1 ?_|refine o2 ?_|refine o3 ?_|refine o4 ?_)) | refine .inl ⟨_,_,_,_,rfl,pu (by first|exact office_spec|exact sample_spec|exact f1|exact f2|exact f3|exact f4|exact f5|exact f6|exact note_spec 6 15 7|exact sameInt [3,4] [3,4] (by decide) (by decide)|exact sameNm [⟨1,4⟩] [⟨1,4⟩] (by decide) (by decide)),?_⟩))|refine cF ?_|refine om ?_|refine an ?_|fail) <;> try simp only [zN,zT,zV,zS,zU,Q0,Q1,ex,Q2,Q3,Q4,Q5,Q6,Q7,Q8,Q9,QA,QB,QC,W0,W1,W2,W3,W4,W5,W6,reduceIte,reg1,reg2,reg3,List.map_cons,List.map_nil,List.length_cons,List.length_nil])
  ((first|refine vn rfl ?_|simp (disch:=omega) only [wr64,W7]|refine bo (fun _=>?_) fun _=>?_|refine im fun _=>?_|((repeat refine si ?_); (first|((first|refine .inl ⟨_,_,_,_,rfl,fun _=>pu (by first|exact office_spec|exact sample_spec|exact f1|exact f2|exact f3|exact f4|exact f5|exact f6|exact note_spec 6 15 7|exact sameInt [3,4] [3,4] (by decide) (by decide)|exact sameNm [⟨1,4⟩] [⟨1,4⟩] (by decide) (by decide)),?_⟩|refine ⟨_,_,_,_,rfl,fun _=>pu (by first|exact office_spec|exact sample_spec|exact f1|exact f2|exact f3|exact f4|exact f5|exact f6|exact note_spec 6 15 7|exact sameInt [3,4] [3,4] (by decide) (by decide)|exact sameNm [⟨1,4⟩] [⟨1,4⟩] (by decide) (by decide)),?_⟩); (first|refine o1 ?_|refine o2 ?_|refine o3 ?_|refine o4 ?_)) | refine .inl ⟨_,_,_,_,rfl,pu (by first|exact office_spec|exact sample_spec|exact f1|exact f2|exact f3|exact f4|exact f5|exact f6|exact note_spec 6 15 7|exact sameInt [3,4] [3,4] (by decide) (by decide)|exact sameNm [⟨1,4⟩] [⟨1,4⟩] (by decide) (by decide)),?_⟩))|refine cF ?_|refine om ?_|refine an ?_|fail) <;> try simp only [zN,zT,zV,zS,zU,Q0,Q1,ex,Q2,Q3,Q4,Q5,Q6,Q7,Q8,Q9,QA,QB,QC,W0,W1,W2,W3,W4,W5,W6,reduceIte,reg1,reg2,reg3,List.map_cons,List.map_nil,List.length_cons,List.length_nil])
  ((first|refine vn rfl ?_|simp (disch:=omega) only [wr64,W7]|refine bo (fun _=>?_) fun _=>?_|refine im fun _=>?_|((repeat refine si ?_); (first|((first|refine .inl ⟨_,_,_,_,rfl,fun _=>pu (by first|exact office_spec|exact sample_spec|exact f1|exact f2|exact f3|exact f4|exact f5|exact f6|exact note_spec 6 15 7|exact sameInt [3,4] [3,4] (by decide) (by decide)|exact sameNm [⟨1,4⟩] [⟨1,4⟩] (by decide) (by decide)),?_⟩|refine ⟨_,_,_,_,rfl,fun _=>pu (by first|exact office_spec|exact sample_spec|exact f1|exact f2|exact f3|exact f4|exact f5|exact f6|exact note_spec 6 15 7|exact sameInt [3,4] [3,4] (by decide) (by decide)|exact sameNm [⟨1,4⟩] [⟨1,4⟩] (by decide) (by decide)),?_⟩); (first|refine o1 ?_|refine o2 ?_|refine o3 ?_|refine o4 ?_)) | refine .inl ⟨_,_,_,_,rfl,pu (by first|exact office_spec|exact sample_spec|exact f1|exact f2|exact f3|exact f4|exact f5|exact f6|exact note_spec 6 15 7|exact sameInt [3,4] [3,4] (by decide) (by decide)|exact sameNm [⟨1,4⟩] [⟨1,4⟩] (by decide) (by decide)),?_⟩))|refine cF ?_|refine om ?_|refine an ?_|fail) <;> try simp only [zN,zT,zV,zS,zU,Q0,Q1,ex,Q2,Q3,Q4,Q5,Q6,Q7,Q8,Q9,QA,QB,QC,W0,W1,W2,W3,W4,W5,W6,reduceIte,reg1,reg2,reg3,List.map_cons,List.map_nil,List.length_cons,List.length_nil])
  ((first|refine vn rfl ?_|simp (disch:=omega) only [wr64,W7]|refine bo (fun _=>?_) fun _=>?_|refine im fun _=>?_|((repeat refine si ?_); (first|((first|refine .inl ⟨_,_,_,_,rfl,fun _=>pu (by first|exact office_spec|exact sample_spec|exact f1|exact f2|exact f3|exact f4|exact f5|exact f6|exact note_spec 6 15 7|exact sameInt [3,4] [3,4] (by decide) (by decide)|exact sameNm [⟨1,4⟩] [⟨1,4⟩] (by decide) (by decide)),?_⟩|refine ⟨_,_,_,_,rfl,fun _=>pu (by first|exact office_spec|exact sample_spec|exact f1|exact f2|exact f3|exact f4|exact f5|exact f6|exact note_spec 6 15 7|exact sameInt [3,4] [3,4] (by decide) (by decide)|exact sameNm [⟨1,4⟩] [⟨1,4⟩] (by decide) (by decide)),?_⟩); (first|refine o1 ?_|refine o2 ?_|refine o3 ?_|refine o4 ?_)) | refine .inl ⟨_,_,_,_,rfl,pu (by first|exact office_spec|exact sample_spec|exact f1|exact f2|exact f3|exact f4|exact f5|exact f6|exact note_spec 6 15 7|exact sameInt [3,4] [3,4] (by decide) (by decide)|exact sameNm [⟨1,4⟩] [⟨1,4⟩] (by decide) (by decide)),?_⟩))|refine cF ?_|refine om ?_|refine an ?_|fail) <;> try simp only [zN,zT,zV,zS,zU,Q0,Q1,ex,Q2,Q3,Q4,Q5,Q6,Q7,Q8,Q9,QA,QB,QC,W0,W1,W2,W3,W4,W5,W6,reduceIte,reg1,reg2,reg3,List.map_cons,List.map_nil,List.length_cons,List.length_nil])
  ((first|refine vn rfl ?_|simp (disch:=omega) only [wr64,W7]|refine bo (fun _=>?_) fun _=>?_|refine im fun _=>?_|((repeat refine si ?_); (first|((first|refine .inl ⟨_,_,_,_,rfl,fun _=>pu (by first|exact office_spec|exact sample_spec|exact f1|exact f2|exact f3|exact f4|exact f5|exact f6|exact note_spec 6 15 7|exact sameInt [3,4] [3,4] (by decide) (by decide)|exact sameNm [⟨1,4⟩] [⟨1,4⟩] (by decide) (by decide)),?_⟩|refine ⟨_,_,_,_,rfl,fun _=>pu (by first|exact office_spec|exact sample_spec|exact f1|exact f2|exact f3|exact f4|exact f5|exact f6|exact note_spec 6 15 7|exact sameInt [3,4] [3,4] (by decide) (by decide)|exact sameNm [⟨1,4⟩] [⟨1,4⟩] (by decide) (by decide)),?_⟩); (first|refine o1 ?_|refine o2 ?_|refine o3 ?_|refine o4 ?_)) | refine .inl ⟨_,_,_,_,rfl,pu (by first|exact office_spec|exact sample_spec|exact f1|exact f2|exact f3|exact f4|exact f5|exact f6|exact note_spec 6 15 7|exact sameInt [3,4] [3,4] (by decide) (by decide)|exact sameNm [⟨1,4⟩] [⟨1,4⟩] (by decide) (by decide)),?_⟩))|refine cF ?_|refine om ?_|refine an ?_|fail) <;> try simp only [zN,zT,zV,zS,zU,Q0,Q1,ex,Q2,Q3,Q4,Q5,Q6,Q7,Q8,Q9,QA,QB,QC,W0,W1,W2,W3,W4,W5,W6,reduceIte,reg1,reg2,reg3,List.map_cons,List.map_nil,List.length_cons,List.length_nil])
  ((first|refine vn rfl ?_|simp (disch:=omega) only [wr64,W7]|refine bo (fun _=>?_) fun _=>?_|refine im fun _=>?_|((repeat refine si ?_); (first|((first|refine .inl ⟨_,_,_,_,rfl,fun _=>pu (by first|exact office_spec|exact sample_spec|exact f1|exact f2|exact f3|exact f4|exact f5|exact f6|exact note_spec 6 15 7|exact sameInt [3,4] [3,4] (by decide) (by decide)|exact sameNm [⟨1,4⟩] [⟨1,4⟩] (by decide) (by decide)),?_⟩|refine ⟨_,_,_,_,rfl,fun _=>pu (by first|exact office_spec|exact sample_spec|exact f1|exact f2|exact f3|exact f4|exact f5|exact f6|exact note_spec 6 15 7|exact sameInt [3,4] [3,4] (by decide) (by decide)|exact sameNm [⟨1,4⟩] [⟨1,4⟩] (by decide) (by decide)),?_⟩); (first|refine o1 ?_|refine o2 ?_|refine o3 ?_|refine o4 ?_)) | refine .inl ⟨_,_,_,_,rfl,pu (by first|exact office_spec|exact sample_spec|exact f1|exact f2|exact f3|exact f4|exact f5|exact f6|exact note_spec 6 15 7|exact sameInt [3,4] [3,4] (by decide) (by decide)|exact sameNm [⟨1,4⟩] [⟨1,4⟩] (by decide) (by decide)),?_⟩))|refine cF ?_|refine om ?_|refine an ?_|fail) <;> try simp only [zN,zT,zV,zS,zU,Q0,Q1,ex,Q2,Q3,Q4,Q5,Q6,Q7,Q8,Q9,QA,QB,QC,W0,W1,W2,W3,W4,W5,W6,reduceIte,reg1,reg2,reg3,List.map_cons,List.map_nil,List.length_cons,List.length_nil])
  ((first|refine vn rfl ?_|simp (disch:=omega) only [wr64,W7]|refine bo (fun _=>?_) fun _=>?_|refine im fun _=>?_|((repeat refine si ?_); (first|((first|refine .inl ⟨_,_,_,_,rfl,fun _=>pu (by first|exact office_spec|exact sample_spec|exact f1|exact f2|exact f3|exact f4|exact f5|exact f6|exact note_spec 6 15 7|exact sameInt [3,4] [3,4] (by decide) (by decide)|exact sameNm [⟨1,4⟩] [⟨1,4⟩] (by decide) (by decide)),?_⟩|refine ⟨_,_,_,_,rfl,fun _=>pu (by first|exact office_spec|exact sample_spec|exact f1|exact f2|exact f3|exact f4|exact f5|exact f6|exact note_spec 6 15 7|exact sameInt [3,4] [3,4] (by decide) (by decide)|exact sameNm [⟨1,4⟩] [⟨1,4⟩] (by decide) (by decide)),?_⟩); (first|refine o1 ?_|refine o2 ?_|refine o3 ?_|refine o4 ?_)) | refine .inl ⟨_,_,_,_,rfl,pu (by first|exact office_spec|exact sample_spec|exact f1|exact f2|exact f3|exact f4|exact f5|exact f6|exact note_spec 6 15 7|exact sameInt [3,4] [3,4] (by decide) (by decide)|exact sameNm [⟨1,4⟩] [⟨1,4⟩] (by decide) (by decide)),?_⟩))|refine cF ?_|refine om ?_|refine an ?_|fail) <;> try simp only [zN,zT,zV,zS,zU,Q0,Q1,ex,Q2,Q3,Q4,Q5,Q6,Q7,Q8,Q9,QA,QB,QC,W0,W1,W2,W3,W4,W5,W6,reduceIte,reg1,reg2,reg3,List.map_cons,List.map_nil,List.length_cons,List.length_nil])
  ((first|refine vn rfl ?_|simp (disch:=omega) only [wr64,W7]|refine bo (fun _=>?_) fun _=>?_|refine im fun _=>?_|((repeat refine si ?_); (first|((first|refine .inl ⟨_,_,_,_,rfl,fun _=>pu (by first|exact office_spec|exact sample_spec|exact f1|exact f2|exact f3|exact f4|exact f5|exact f6|exact note_spec 6 15 7|exact sameInt [3,4] [3,4] (by decide) (by decide)|exact sameNm [⟨1,4⟩] [⟨1,4⟩] (by decide) (by decide)),?_⟩|refine ⟨_,_,_,_,rfl,fun _=>pu (by first|exact office_spec|exact sample_spec|exact f1|exact f2|exact f3|exact f4|exact f5|exact f6|exact note_spec 6 15 7|exact sameInt [3,4] [3,4] (by decide) (by decide)|exact sameNm [⟨1,4⟩] [⟨1,4⟩] (by decide) (by decide)),?_⟩); (first|refine o1 ?_|refine o2 ?_|refine o3 ?_|refine o4 ?_)) | refine .inl ⟨_,_,_,_,rfl,pu (by first|exact office_spec|exact sample_spec|exact f1|exact f2|exact f3|exact f4|exact f5|exact f6|exact note_spec 6 15 7|exact sameInt [3,4] [3,4] (by decide) (by decide)|exact sameNm [⟨1,4⟩] [⟨1,4⟩] (by decide) (by decide)),?_⟩))|refine cF ?_|refine om ?_|refine an ?_|fail) <;> try simp only [zN,zT,zV,zS,zU,Q0,Q1,ex,Q2,Q3,Q4,Q5,Q6,Q7,Q8,Q9,QA,QB,QC,W0,W1,W2,W3,W4,W5,W6,reduceIte,reg1,reg2,reg3,List.map_cons,List.map_nil,List.length_cons,List.length_nil])
  ((first|refine vn rfl ?_|simp (disch:=omega) only [wr64,W7]|refine bo (fun _=>?_) fun _=>?_|refine im fun _=>?_|((repeat refine si ?_); (first|((first|refine .inl ⟨_,_,_,_,rfl,fun _=>pu (by first|exact office_spec|exact sample_spec|exact f1|exact f2|exact f3|exact f4|exact f5|exact f6|exact note_spec 6 15 7|exact sameInt [3,4] [3,4] (by decide) (by decide)|exact sameNm [⟨1,4⟩] [⟨1,4⟩] (by decide) (by decide)),?_⟩|refine ⟨_,_,_,_,rfl,fun _=>pu (by first|exact office_spec|exact sample_spec|exact f1|exact f2|exact f3|exact f4|exact f5|exact f6|exact note_spec 6 15 7|exact sameInt [3,4] [3,4] (by decide) (by decide)|exact sameNm [⟨1,4⟩] [⟨1,4⟩] (by decide) (by decide)),?_⟩); (first|refine o1 ?_|refine o2 ?_|refine o3 ?_|refine o4 ?_)) | refine .inl ⟨_,_,_,_,rfl,pu (by first|exact office_spec|exact sample_spec|exact f1|exact f2|exact f3|exact f4|exact f5|exact f6|exact note_spec 6 15 7|exact sameInt [3,4] [3,4] (by decide) (by decide)|exact sameNm [⟨1,4⟩] [⟨1,4⟩] (by decide) (by decide)),?_⟩))|refine cF ?_|refine om ?_|refine an ?_|fail) <;> try simp only [zN,zT,zV,zS,zU,Q0,Q1,ex,Q2,Q3,Q4,Q5,Q6,Q7,Q8,Q9,QA,QB,QC,W0,W1,W2,W3,W4,W5,W6,reduceIte,reg1,reg2,reg3,List.map_cons,List.map_nil,List.length_cons,List.length_nil])
  ((first|refine vn rfl ?_|simp (disch:=omega) only [wr64,W7]|refine bo (fun _=>?_) fun _=>?_|refine im fun _=>?_|((repeat refine si ?_); (first|((first|refine .inl ⟨_,_,_,_,rfl,fun _=>pu (by first|exact office_spec|exact sample_spec|exact f1|exact f2|exact f3|exact f4|exact f5|exact f6|exact note_spec 6 15 7|exact sameInt [3,4] [3,4] (by decide) (by decide)|exact sameNm [⟨1,4⟩] [⟨1,4⟩] (by decide) (by decide)),?_⟩|refine ⟨_,_,_,_,rfl,fun _=>pu (by first|exact office_spec|exact sample_spec|exact f1|exact f2|exact f3|exact f4|exact f5|exact f6|exact note_spec 6 15 7|exact sameInt [3,4] [3,4] (by decide) (by decide)|exact sameNm [⟨1,4⟩] [⟨1,4⟩] (by decide) (by decide)),?_⟩); (first|refine o1 ?_|refine o2 ?_|refine o3 ?_|refine o4 ?_)) | refine .inl ⟨_,_,_,_,rfl,pu (by first|exact office_spec|exact sample_spec|exact f1|exact f2|exact f3|exact f4|exact f5|exact f6|exact note_spec 6 15 7|exact sameInt [3,4] [3,4] (by decide) (by decide)|exact sameNm [⟨1,4⟩] [⟨1,4⟩] (by decide) (by decide)),?_⟩))|refine cF ?_|refine om ?_|refine an ?_|fail) <;> try simp only [zN,zT,zV,zS,zU,Q0,Q1,ex,Q2,Q3,Q4,Q5,Q6,Q7,Q8,Q9,QA,QB,QC,W0,W1,W2,W3,W4,W5,W6,reduceIte,reg1,reg2,reg3,List.map_cons,List.map_nil,List.length_cons,List.length_nil])
  ((first|refine vn rfl ?_|simp (disch:=omega) only [wr64,W7]|refine bo (fun _=>?_) fun _=>?_|refine im fun _=>?_|((repeat refine si ?_); (first|((first|refine .inl ⟨_,_,_,_,rfl,fun _=>pu (by first|exact office_spec|exact sample_spec|exact f1|exact f2|exact f3|exact f4|exact f5|exact f6|exact note_spec 6 15 7|exact sameInt [3,4] [3,4] (by decide) (by decide)|exact sameNm [⟨1,4⟩] [⟨1,4⟩] (by decide) (by decide)),?_⟩|refine ⟨_,_,_,_,rfl,fun _=>pu (by first|exact office_spec|exact sample_spec|exact f1|exact f2|exact f3|exact f4|exact f5|exact f6|exact note_spec 6 15 7|exact sameInt [3,4] [3,4] (by decide) (by decide)|exact sameNm [⟨1,4⟩] [⟨1,4⟩] (by decide) (by decide)),?_⟩); (first|refine o1 ?_|refine o2 ?_|refine o3 ?_|refine o4 ?_)) | refine .inl ⟨_,_,_,_,rfl,pu (by first|exact office_spec|exact sample_spec|exact f1|exact f2|exact f3|exact f4|exact f5|exact f6|exact note_spec 6 15 7|exact sameInt [3,4] [3,4] (by decide) (by decide)|exact sameNm [⟨1,4⟩] [⟨1,4⟩] (by decide) (by decide)),?_⟩))|refine cF ?_|refine om ?_|refine an ?_|fail) <;> try simp only [zN,zT,zV,zS,zU,Q0,Q1,ex,Q2,Q3,Q4,Q5,Q6,Q7,Q8,Q9,QA,QB,QC,W0,W1,W2,W3,W4,W5,W6,reduceIte,reg1,reg2,reg3,List.map_cons,List.map_nil,List.length_cons,List.length_nil])
  ((first|refine vn rfl ?_|simp (disch:=omega) only [wr64,W7]|refine bo (fun _=>?_) fun _=>?_|refine im fun _=>?_|((repeat refine si ?_); (first|((first|refine .inl ⟨_,_,_,_,rfl,fun _=>pu (by first|exact office_spec|exact sample_spec|exact f1|exact f2|exact f3|exact f4|exact f5|exact f6|exact note_spec 6 15 7|exact sameInt [3,4] [3,4] (by decide) (by decide)|exact sameNm [⟨1,4⟩] [⟨1,4⟩] (by decide) (by decide)),?_⟩|refine ⟨_,_,_,_,rfl,fun _=>pu (by first|exact office_spec|exact sample_spec|exact f1|exact f2|exact f3|exact f4|exact f5|exact f6|exact note_spec 6 15 7|exact sameInt [3,4] [3,4] (by decide) (by decide)|exact sameNm [⟨1,4⟩] [⟨1,4⟩] (by decide) (by decide)),?_⟩); (first|refine o1 ?_|refine o2 ?_|refine o3 ?_|refine o4 ?_)) | refine .inl ⟨_,_,_,_,rfl,pu (by first|exact office_spec|exact sample_spec|exact f1|exact f2|exact f3|exact f4|exact f5|exact f6|exact note_spec 6 15 7|exact sameInt [3,4] [3,4] (by decide) (by decide)|exact sameNm [⟨1,4⟩] [⟨1,4⟩] (by decide) (by decide)),?_⟩))|refine cF ?_|refine om ?_|refine an ?_|fail) <;> try simp only [zN,zT,zV,zS,zU,Q0,Q1,ex,Q2,Q3,Q4,Q5,Q6,Q7,Q8,Q9,QA,QB,QC,W0,W1,W2,W3,W4,W5,W6,reduceIte,reg1,reg2,reg3,List.map_cons,List.map_nil,List.length_cons,List.length_nil])
  ((first|refine vn rfl ?_|simp (disch:=omega) only [wr64,W7]|refine bo (fun _=>?_) fun _=>?_|refine im fun _=>?_|((repeat refine si ?_); (first|((first|refine .inl ⟨_,_,_,_,rfl,fun _=>pu (by first|exact office_spec|exact sample_spec|exact f1|exact f2|exact f3|exact f4|exact f5|exact f6|exact note_spec 6 15 7|exact sameInt [3,4] [3,4] (by decide) (by decide)|exact sameNm [⟨1,4⟩] [⟨1,4⟩] (by decide) (by decide)),?_⟩|refine ⟨_,_,_,_,rfl,fun _=>pu (by first|exact office_spec|exact sample_spec|exact f1|exact f2|exact f3|exact f4|exact f5|exact f6|exact note_spec 6 15 7|exact sameInt [3,4] [3,4] (by decide) (by decide)|exact sameNm [⟨1,4⟩] [⟨1,4⟩] (by decide) (by decide)),?_⟩); (first|refine o1 ?_|refine o2 ?_|refine o3 ?_|refine o4 ?_)) | refine .inl ⟨_,_,_,_,rfl,pu (by first|exact office_spec|exact sample_spec|exact f1|exact f2|exact f3|exact f4|exact f5|exact f6|exact note_spec 6 15 7|exact sameInt [3,4] [3,4] (by decide) (by decide)|exact sameNm [⟨1,4⟩] [⟨1,4⟩] (by decide) (by decide)),?_⟩))|refine cF ?_|refine om ?_|refine an ?_|fail) <;> try simp only [zN,zT,zV,zS,zU,Q0,Q1,ex,Q2,Q3,Q4,Q5,Q6,Q7,Q8,Q9,QA,QB,QC,W0,W1,W2,W3,W4,W5,W6,reduceIte,reg1,reg2,reg3,List.map_cons,List.map_nil,List.length_cons,List.length_nil])
  ((first|refine vn rfl ?_|simp (disch:=omega) only [wr64,W7]|refine bo (fun _=>?_) fun _=>?_|refine im fun _=>?_|((repeat refine si ?_); (first|((first|refine .inl ⟨_,_,_,_,rfl,fun _=>pu (by first|exact office_spec|exact sample_spec|exact f1|exact f2|exact f3|exact f4|exact f5|exact f6|exact note_spec 6 15 7|exact sameInt [3,4] [3,4] (by decide) (by decide)|exact sameNm [⟨1,4⟩] [⟨1,4⟩] (by decide) (by decide)),?_⟩|refine ⟨_,_,_,_,rfl,fun _=>pu (by first|exact office_spec|exact sample_spec|exact f1|exact f2|exact f3|exact f4|exact f5|exact f6|exact note_spec 6 15 7|exact sameInt [3,4] [3,4] (by decide) (by decide)|exact sameNm [⟨1,4⟩] [⟨1,4⟩] (by decide) (by decide)),?_⟩); (first|refine o1 ?_|refine o2 ?_|refine o3 ?_|refine o4 ?_)) | refine .inl ⟨_,_,_,_,rfl,pu (by first|exact office_spec|exact sample_spec|exact f1|exact f2|exact f3|exact f4|exact f5|exact f6|exact note_spec 6 15 7|exact sameInt [3,4] [3,4] (by decide) (by decide)|exact sameNm [⟨1,4⟩] [⟨1,4⟩] (by decide) (by decide)),?_⟩))|refine cF ?_|refine om ?_|refine an ?_|fail) <;> try simp only [zN,zT,zV,zS,zU,Q0,Q1,ex,Q2,Q3,Q4,Q5,Q6,Q7,Q8,Q9,QA,QB,QC,W0,W1,W2,W3,W4,W5,W6,reduceIte,reg1,reg2,reg3,List.map_cons,List.map_nil,List.length_cons,List.length_nil])
  ((first|refine vn rfl ?_|simp (disch:=omega) only [wr64,W7]|refine bo (fun _=>?_) fun _=>?_|refine im fun _=>?_|((repeat refine si ?_); (first|((first|refine .inl ⟨_,_,_,_,rfl,fun _=>pu (by first|exact office_spec|exact sample_spec|exact f1|exact f2|exact f3|exact f4|exact f5|exact f6|exact note_spec 6 15 7|exact sameInt [3,4] [3,4] (by decide) (by decide)|exact sameNm [⟨1,4⟩] [⟨1,4⟩] (by decide) (by decide)),?_⟩|refine ⟨_,_,_,_,rfl,fun _=>pu (by first|exact office_spec|exact sample_spec|exact f1|exact f2|exact f3|exact f4|exact f5|exact f6|exact note_spec 6 15 7|exact sameInt [3,4] [3,4] (by decide) (by decide)|exact sameNm [⟨1,4⟩] [⟨1,4⟩] (by decide) (by decide)),?_⟩); (first|refine o1 ?_|refine o2 ?_|refine o3 ?_|refine o4 ?_)) | refine .inl ⟨_,_,_,_,rfl,pu (by first|exact office_spec|exact sample_spec|exact f1|exact f2|exact f3|exact f4|exact f5|exact f6|exact note_spec 6 15 7|exact sameInt [3,4] [3,4] (by decide) (by decide)|exact sameNm [⟨1,4⟩] [⟨1,4⟩] (by decide) (by decide)),?_⟩))|refine cF ?_|refine om ?_|refine an ?_|fail) <;> try simp only [zN,zT,zV,zS,zU,Q0,Q1,ex,Q2,Q3,Q4,Q5,Q6,Q7,Q8,Q9,QA,QB,QC,W0,W1,W2,W3,W4,W5,W6,reduceIte,reg1,reg2,reg3,List.map_cons,List.map_nil,List.length_cons,List.length_nil])
  ((first|refine vn rfl ?_|simp (disch:=omega) only [wr64,W7]|refine bo (fun _=>?_) fun _=>?_|refine im fun _=>?_|((repeat refine si ?_); (first|((first|refine .inl ⟨_,_,_,_,rfl,fun _=>pu (by first|exact office_spec|exact sample_spec|exact f1|exact f2|exact f3|exact f4|exact f5|exact f6|exact note_spec 6 15 7|exact sameInt [3,4] [3,4] (by decide) (by decide)|exact sameNm [⟨1,4⟩] [⟨1,4⟩] (by decide) (by decide)),?_⟩|refine ⟨_,_,_,_,rfl,fun _=>pu (by first|exact office_spec|exact sample_spec|exact f1|exact f2|exact f3|exact f4|exact f5|exact f6|exact note_spec 6 15 7|exact sameInt [3,4] [3,4] (by decide) (by decide)|exact sameNm [⟨1,4⟩] [⟨1,4⟩] (by decide) (by decide)),?_⟩); (first|refine o1 ?_|refine o2 ?_|refine o3 ?_|refine o4 ?_)) | refine .inl ⟨_,_,_,_,rfl,pu (by first|exact office_spec|exact sample_spec|exact f1|exact f2|exact f3|exact f4|exact f5|exact f6|exact note_spec 6 15 7|exact sameInt [3,4] [3,4] (by decide) (by decide)|exact sameNm [⟨1,4⟩] [⟨1,4⟩] (by decide) (by decide)),?_⟩))|refine cF ?_|refine om ?_|refine an ?_|fail) <;> try simp only [zN,zT,zV,zS,zU,Q0,Q1,ex,Q2,Q3,Q4,Q5,Q6,Q7,Q8,Q9,QA,QB,QC,W0,W1,W2,W3,W4,W5,W6,reduceIte,reg1,reg2,reg3,List.map_cons,List.map_nil,List.length_cons,List.length_nil])
  ((first|refine vn rfl ?_|simp (disch:=omega) only [wr64,W7]|refine bo (fun _=>?_) fun _=>?_|refine im fun _=>?_|((repeat refine si ?_); (first|((first|refine .inl ⟨_,_,_,_,rfl,fun _=>pu (by first|exact office_spec|exact sample_spec|exact f1|exact f2|exact f3|exact f4|exact f5|exact f6|exact note_spec 6 15 7|exact sameInt [3,4] [3,4] (by decide) (by decide)|exact sameNm [⟨1,4⟩] [⟨1,4⟩] (by decide) (by decide)),?_⟩|refine ⟨_,_,_,_,rfl,fun _=>pu (by first|exact office_spec|exact sample_spec|exact f1|exact f2|exact f3|exact f4|exact f5|exact f6|exact note_spec 6 15 7|exact sameInt [3,4] [3,4] (by decide) (by decide)|exact sameNm [⟨1,4⟩] [⟨1,4⟩] (by decide) (by decide)),?_⟩); (first|refine o1 ?_|refine o2 ?_|refine o3 ?_|refine o4 ?_)) | refine .inl ⟨_,_,_,_,rfl,pu (by first|exact office_spec|exact sample_spec|exact f1|exact f2|exact f3|exact f4|exact f5|exact f6|exact note_spec 6 15 7|exact sameInt [3,4] [3,4] (by decide) (by decide)|exact sameNm [⟨1,4⟩] [⟨1,4⟩] (by decide) (by decide)),?_⟩))|refine cF ?_|refine om ?_|refine an ?_|fail) <;> try simp only [zN,zT,zV,zS,zU,Q0,Q1,ex,Q2,Q3,Q4,Q5,Q6,Q7,Q8,Q9,QA,QB,QC,W0,W1,W2,W3,W4,W5,W6,reduceIte,reg1,reg2,reg3,List.map_cons,List.map_nil,List.length_cons,List.length_nil])
  (repeat' ((first|refine vn rfl ?_|simp (disch:=omega) only [wr64,W7]|refine bo (fun _=>?_) fun _=>?_|refine im fun _=>?_|((repeat refine si ?_); (first|((first|refine .inl ⟨_,_,_,_,rfl,fun _=>pu (by first|exact office_spec|exact sampleF_spec|exact f1|exact f2|exact f3|exact f4|exact f5|exact f6|exact note_spec 6 15 7|exact sameInt [3,4] [3,4] (by decide) (by decide)|exact sameNm [⟨1,4⟩] [⟨1,4⟩] (by decide) (by decide)),?_⟩|refine ⟨_,_,_,_,rfl,fun _=>pu (by first|exact office_spec|exact sampleF_spec|exact f1|exact f2|exact f3|exact f4|exact f5|exact f6|exact note_spec 6 15 7|exact sameInt [3,4] [3,4] (by decide) (by decide)|exact sameNm [⟨1,4⟩] [⟨1,4⟩] (by decide) (by decide)),?_⟩); (first|refine o1 ?_|refine o2 ?_|refine o3 ?_|refine o4 ?_)) | refine .inl ⟨_,_,_,_,rfl,pu (by first|exact office_spec|exact sampleF_spec|exact f1|exact f2|exact f3|exact f4|exact f5|exact f6|exact note_spec 6 15 7|exact sameInt [3,4] [3,4] (by decide) (by decide)|exact sameNm [⟨1,4⟩] [⟨1,4⟩] (by decide) (by decide)),?_⟩))|refine cF ?_|refine om ?_|refine an ?_|fail) <;> try simp only [zN,zT,zV,zS,zU,Q0,Q1,ex,Q2,Q3,Q4,Q5,Q6,Q7,Q8,Q9,QA,QB,QC,W0,W1,W2,W3,W4,W5,W6,reduceIte,reg1,reg2,reg3,List.map_cons,List.map_nil,List.length_cons,List.length_nil]))
  refine ⟨⟨by simp,by simp [sampL],by decide⟩,?_⟩
  have happ:∀ r,r=Nt.cs outN→List.map Nt.cs sampL++[r]=(sampL++[outN]).map Nt.cs:=by rintro _ rfl; simp
  rw [happ]
  rotate_left
  · rfl
  clear happ
  generalize sampL++[outN]=sx at f6 ⊢
  (repeat' ((first|refine vn rfl ?_|simp (disch:=omega) only [wr64,W7]|refine bo (fun _=>?_) fun _=>?_|refine im fun _=>?_|((repeat refine si ?_); (first|((first|refine .inl ⟨_,_,_,_,rfl,fun _=>pu (by first|exact office_spec|exact sampleF_spec|exact f1|exact f2|exact f3|exact f4|exact f5|exact f6|exact note_spec 6 15 7|exact sameInt [3,4] [3,4] (by decide) (by decide)|exact sameNm [⟨1,4⟩] [⟨1,4⟩] (by decide) (by decide)),?_⟩|refine ⟨_,_,_,_,rfl,fun _=>pu (by first|exact office_spec|exact sampleF_spec|exact f1|exact f2|exact f3|exact f4|exact f5|exact f6|exact note_spec 6 15 7|exact sameInt [3,4] [3,4] (by decide) (by decide)|exact sameNm [⟨1,4⟩] [⟨1,4⟩] (by decide) (by decide)),?_⟩); (first|refine o1 ?_|refine o2 ?_|refine o3 ?_|refine o4 ?_)) | refine .inl ⟨_,_,_,_,rfl,pu (by first|exact office_spec|exact sampleF_spec|exact f1|exact f2|exact f3|exact f4|exact f5|exact f6|exact note_spec 6 15 7|exact sameInt [3,4] [3,4] (by decide) (by decide)|exact sameNm [⟨1,4⟩] [⟨1,4⟩] (by decide) (by decide)),?_⟩))|refine cF ?_|refine om ?_|refine an ?_|fail) <;> try simp only [zN,zT,zV,zS,zU,Q0,Q1,ex,Q2,Q3,Q4,Q5,Q6,Q7,Q8,Q9,QA,QB,QC,W0,W1,W2,W3,W4,W5,W6,reduceIte,reg1,reg2,reg3,List.map_cons,List.map_nil,List.length_cons,List.length_nil]))
  all_goals exact Frz.eq rfl (by simp)
def c181:CF:=⟨26,
 (.seq (.ops [
 ⟨some 4,.mv (.c (.bool false)),none⟩] [0,1])
 (.seq (.seq (.ops [
 ⟨some 6,.mv (.t 0),none⟩,
 ⟨some 7,.len (.t 6),none⟩,
 ⟨some 8,.mv (.t 1),none⟩,
 ⟨some 9,.len (.t 8),none⟩,
 ⟨some 10,.bin .neq (.t 7) (.t 9),none⟩] [0,1,10])
 (.cond (.t 10) (.seq (.ops [
 ⟨some 4,.mv (.c (.bool false)),none⟩] [4])
 .ret)
 .skip))
 (.seq (.seq (.ops [
 ⟨some 5,.mv (.c (.int .i64 0)),none⟩] [0,1,5])
 (.block 0 (.loop (.seq (.seq (.ops [
 ⟨some 11,.mv (.t 5),none⟩,
 ⟨some 12,.mv (.t 0),none⟩,
 ⟨some 13,.len (.t 12),none⟩,
 ⟨some 14,.bin .lss (.t 11) (.t 13),none⟩] [0,1,5,14])
 (.cond (.t 14) .skip
 (.exit 0)))
 (.seq (.block 1 (.seq (.draw [
 ⟨some 17,.mv (.t 0),none⟩,
 ⟨some 18,.mv (.t 5),none⟩,
 ⟨some 19,.iaddr 2 (.t 17) (.t 18),none⟩,
 ⟨some 20,.load (some 2) (.t 19),none⟩,
 ⟨some 21,.mv (.t 1),none⟩,
 ⟨some 22,.mv (.t 5),none⟩,
 ⟨some 23,.iaddr 2 (.t 21) (.t 22),none⟩,
 ⟨some 24,.load (some 2) (.t 23),none⟩,
 ⟨some 25,.eqs true [some .i64,some .i64] (.t 20) (.t 24),none⟩] [
 ] [0,1,5,25])
 (.cond (.t 25) (.seq (.ops [
 ⟨some 4,.mv (.c (.bool false)),none⟩] [4])
 .ret)
 .skip)))
 (.ops [
 ⟨some 15,.mv (.t 5),none⟩,
 ⟨some 16,.bin .add (.t 15) (.c (.int .i64 1)),none⟩,
 ⟨some 5,.mv (.t 16),none⟩] [0,1,5]))))))
 (.seq (.ops [
 ⟨some 4,.mv (.c (.bool true)),none⟩] [4])
 .ret)))),
 [.t 4]⟩
theorem k181:chkF Tryz.prog Tryz.f181 c181=true:=by kernel_rfl
def c117:CF:=⟨39,
 (.seq (.ops [
 ⟨some 2,.box false 56 2 (.t 0),none⟩,
 ⟨some 3,.box false 56 2 (.t 1),none⟩,
 ⟨some 4,.mv (.c (.bool false)),none⟩] [2,3])
 (.seq (.seq (.ops [
 ⟨some 6,.faddr 0 (.t 2),none⟩,
 ⟨some 7,.load none (.t 6),none⟩,
 ⟨some 8,.faddr 0 (.t 3),none⟩,
 ⟨some 9,.load none (.t 8),none⟩,
 ⟨some 10,.call (.f 181) [(.t 7),(.t 9)],none⟩,
 ⟨some 11,.un .not (.t 10),none⟩,
 ⟨some 12,.mv (.t 11),none⟩,
 ⟨some 13,.faddr 1 (.t 2),some (12,false)⟩,
 ⟨some 14,.load none (.t 13),some (12,false)⟩,
 ⟨some 15,.len (.t 14),some (12,false)⟩,
 ⟨some 16,.faddr 1 (.t 3),some (12,false)⟩,
 ⟨some 17,.load none (.t 16),some (12,false)⟩,
 ⟨some 18,.len (.t 17),some (12,false)⟩,
 ⟨some 19,.bin .neq (.t 15) (.t 18),some (12,false)⟩,
 ⟨some 20,.pick (.t 12) (.c (.bool true)) (.t 19),none⟩] [2,3,20])
 (.cond (.t 20) (.seq (.ops [
 ⟨some 4,.mv (.c (.bool false)),none⟩] [4])
 .ret)
 .skip))
 (.seq (.seq (.ops [
 ⟨some 5,.mv (.c (.int .i64 0)),none⟩] [2,3,5])
 (.block 0 (.loop (.seq (.seq (.ops [
 ⟨some 21,.mv (.t 5),none⟩,
 ⟨some 22,.faddr 1 (.t 2),none⟩,
 ⟨some 23,.load none (.t 22),none⟩,
 ⟨some 24,.len (.t 23),none⟩,
 ⟨some 25,.bin .lss (.t 21) (.t 24),none⟩] [2,3,5,25])
 (.cond (.t 25) .skip
 (.exit 0)))
 (.seq (.block 1 (.seq (.draw [
 ⟨some 28,.faddr 1 (.t 2),none⟩,
 ⟨some 29,.load none (.t 28),none⟩,
 ⟨some 30,.mv (.t 5),none⟩,
 ⟨some 31,.iaddr 3 (.t 29) (.t 30),none⟩,
 ⟨some 32,.load (some 3) (.t 31),none⟩,
 ⟨some 33,.faddr 1 (.t 3),none⟩,
 ⟨some 34,.load none (.t 33),none⟩,
 ⟨some 35,.mv (.t 5),none⟩,
 ⟨some 36,.iaddr 3 (.t 34) (.t 35),none⟩,
 ⟨some 37,.load (some 3) (.t 36),none⟩,
 ⟨some 38,.eqs true [some .i64,some .i64,some .i64] (.t 32) (.t 37),none⟩] [
 ] [2,3,5,38])
 (.cond (.t 38) (.seq (.ops [
 ⟨some 4,.mv (.c (.bool false)),none⟩] [4])
 .ret)
 .skip)))
 (.ops [
 ⟨some 26,.mv (.t 5),none⟩,
 ⟨some 27,.bin .add (.t 26) (.c (.int .i64 1)),none⟩,
 ⟨some 5,.mv (.t 27),none⟩] [2,3,5]))))))
 (.seq (.ops [
 ⟨some 4,.mv (.c (.bool true)),none⟩] [4])
 .ret)))),
 [.t 4]⟩
theorem k117:chkF Tryz.prog Tryz.f117 c117=true:=by kernel_rfl
def c53:CF:=⟨61,
 (.seq (.ops [
 ⟨some 2,.box false 60 18 (.t 0),none⟩,
 ⟨some 3,.box false 60 18 (.t 1),none⟩,
 ⟨some 4,.mv (.c (.bool false)),none⟩] [2,3])
 (.seq (.seq (.ops [
 ⟨some 6,.faddr 0 (.t 2),none⟩,
 ⟨some 7,.load (some 10) (.t 6),none⟩,
 ⟨some 8,.faddr 0 (.t 3),none⟩,
 ⟨some 9,.load (some 10) (.t 8),none⟩,
 ⟨some 10,.eqs true [some .i64,some .i64,some .i64,some .i64,some .i64,some .i64,some .i64,some .i64,some .i64,some .i64] (.t 7) (.t 9),none⟩,
 ⟨some 11,.mv (.t 10),none⟩,
 ⟨some 12,.faddr 14 (.t 2),some (11,false)⟩,
 ⟨some 13,.load (some 4) (.t 12),some (11,false)⟩,
 ⟨some 14,.faddr 14 (.t 3),some (11,false)⟩,
 ⟨some 15,.load (some 4) (.t 14),some (11,false)⟩,
 ⟨some 16,.eqs true [some .i64,some .i64,some .i64,some .i64] (.t 13) (.t 15),some (11,false)⟩,
 ⟨some 17,.pick (.t 11) (.c (.bool true)) (.t 16),none⟩,
 ⟨some 18,.mv (.t 17),none⟩,
 ⟨some 19,.faddr 12 (.t 2),some (18,false)⟩,
 ⟨some 20,.load (some 2) (.t 19),some (18,false)⟩,
 ⟨some 21,.faddr 12 (.t 3),some (18,false)⟩,
 ⟨some 22,.load (some 2) (.t 21),some (18,false)⟩,
 ⟨some 23,.call (.f 117) [(.t 20),(.t 22)],some (18,false)⟩,
 ⟨some 24,.un .not (.t 23),some (18,false)⟩,
 ⟨some 25,.pick (.t 18) (.c (.bool true)) (.t 24),none⟩,
 ⟨some 26,.mv (.t 25),none⟩,
 ⟨some 27,.faddr 11 (.t 2),some (26,false)⟩,
 ⟨some 28,.load none (.t 27),some (26,false)⟩,
 ⟨some 29,.faddr 11 (.t 3),some (26,false)⟩,
 ⟨some 30,.load none (.t 29),some (26,false)⟩,
 ⟨some 31,.call (.f 68) [(.t 28),(.t 30)],some (26,false)⟩,
 ⟨some 32,.un .not (.t 31),some (26,false)⟩,
 ⟨some 33,.pick (.t 26) (.c (.bool true)) (.t 32),none⟩,
 ⟨some 34,.mv (.t 33),none⟩,
 ⟨some 35,.faddr 10 (.t 2),some (34,false)⟩,
 ⟨some 36,.load none (.t 35),some (34,false)⟩,
 ⟨some 37,.len (.t 36),some (34,false)⟩,
 ⟨some 38,.faddr 10 (.t 3),some (34,false)⟩,
 ⟨some 39,.load none (.t 38),some (34,false)⟩,
 ⟨some 40,.len (.t 39),some (34,false)⟩,
 ⟨some 41,.bin .neq (.t 37) (.t 40),some (34,false)⟩,
 ⟨some 42,.pick (.t 34) (.c (.bool true)) (.t 41),none⟩] [2,3,42])
 (.cond (.t 42) (.seq (.ops [
 ⟨some 4,.mv (.c (.bool false)),none⟩] [4])
 .ret)
 .skip))
 (.seq (.seq (.ops [
 ⟨some 5,.mv (.c (.int .i64 0)),none⟩] [2,3,5])
 (.block 0 (.loop (.seq (.seq (.ops [
 ⟨some 43,.mv (.t 5),none⟩,
 ⟨some 44,.faddr 10 (.t 2),none⟩,
 ⟨some 45,.load none (.t 44),none⟩,
 ⟨some 46,.len (.t 45),none⟩,
 ⟨some 47,.bin .lss (.t 43) (.t 46),none⟩] [2,3,5,47])
 (.cond (.t 47) .skip
 (.exit 0)))
 (.seq (.block 1 (.seq (.draw [
 ⟨some 50,.faddr 10 (.t 2),none⟩,
 ⟨some 51,.load none (.t 50),none⟩,
 ⟨some 52,.mv (.t 5),none⟩,
 ⟨some 53,.iaddr 3 (.t 51) (.t 52),none⟩,
 ⟨some 54,.load (some 3) (.t 53),none⟩,
 ⟨some 55,.faddr 10 (.t 3),none⟩,
 ⟨some 56,.load none (.t 55),none⟩,
 ⟨some 57,.mv (.t 5),none⟩,
 ⟨some 58,.iaddr 3 (.t 56) (.t 57),none⟩,
 ⟨some 59,.load (some 3) (.t 58),none⟩,
 ⟨some 60,.eqs true [some .i64,some .i64,some .i64] (.t 54) (.t 59),none⟩] [
 ] [2,3,5,60])
 (.cond (.t 60) (.seq (.ops [
 ⟨some 4,.mv (.c (.bool false)),none⟩] [4])
 .ret)
 .skip)))
 (.ops [
 ⟨some 48,.mv (.t 5),none⟩,
 ⟨some 49,.bin .add (.t 48) (.c (.int .i64 1)),none⟩,
 ⟨some 5,.mv (.t 49),none⟩] [2,3,5]))))))
 (.seq (.ops [
 ⟨some 4,.mv (.c (.bool true)),none⟩] [4])
 .ret)))),
 [.t 4]⟩
theorem k53:chkF Tryz.prog Tryz.f53 c53=true:=by kernel_rfl
theorem sameSp (a b:List Sp) (ha:a.length < 9223372036854775808) (hb:b.length < 9223372036854775808):Pure Tryz.prog 181 [spnS a,spnS b] (bl (decide (a=b))):=by
  refine Pure.of_body Tryz.call181 Tryz.func181 k181 (Nat.le_of_ble_eq_true rfl) ?_
  unfold c181
  (repeat' ((first|refine vn rfl ?_|simp (disch:=omega) only [wr64,W7]|refine bo (fun _=>?_) fun _=>?_|refine im fun _=>?_|refine cF ?_|refine om ?_|refine an ?_|fail) <;> try simp only [zN,zT,zV,zS,zU,Q0,Q1,ex,Q2,Q3,Q4,Q5,Q6,Q7,Q8,Q9,QA,QB,QC,W0,W1,W2,W3,W4,W5,W6,reduceIte]))
  · rename_i h
    rw [decide_eq_false fun e=>by subst e; omega]; exact Frz.eq rfl (by simp)
  rename_i hne
  have hlen:a.length=b.length:=by omega
  refine AWPC.loopI 5 a.length (fun i=>a.take i=b.take i) (by simp) ?_ ?_
  · (simp only [zN,zT,zV,zS,zU,Q0,Q1,ex,Q2,Q3,Q4,Q5,Q6,Q7,Q8,Q9,QA,QB,QC,W0,W1,W2,W3,W4,W5,W6,reduceIte]; try simp)
  · intro i hi hI
    by_cases hlt:i < a.length
    · have hx:(a.map Sp.cs).getD i []=Sp.cs (a.getD i ⟨0,0⟩):=row _ hlt
      have hy:(b.map Sp.cs).getD i []=Sp.cs (b.getD i ⟨0,0⟩):=row _ (by omega)
      have hk:a.getD i ⟨0,0⟩=b.getD i ⟨0,0⟩↔a.take (i+1)=b.take (i+1):=by
        rw [List.take_add_one,List.take_add_one,hI,getD_lt ⟨0,0⟩ hlt,getD_lt ⟨0,0⟩ (show i < b.length by omega)]; simp
      generalize a.getD i ⟨0,0⟩=x at hx hk
      generalize b.getD i ⟨0,0⟩=y at hy hk
      obtain ⟨x1,x2⟩:=x
      obtain ⟨y1,y2⟩:=y
      simp only [Sp.mk.injEq] at hk
      (repeat' ((first|refine vn rfl ?_|simp (disch:=omega) only [wr64,W7]|refine bo (fun _=>?_) fun _=>?_|refine im fun _=>?_|refine cF ?_|refine om ?_|refine an ?_|fail) <;> try simp only [zN,zT,zV,zS,zU,Q0,Q1,ex,Q2,Q3,Q4,Q5,Q6,Q7,Q8,Q9,QA,QB,QC,W0,W1,W2,W3,W4,W5,W6,reduceIte,hx,hy]))
      all_goals try (exfalso; omega)
      · rename_i h
        rw [decide_eq_false fun e=>by
          have:=hk.2 (by rw [e])
          omega]
        exact Frz.eq rfl (by simp)
      · rename_i h
        exact ⟨⟨i+1,hlt,hk.1 (by omega)⟩,by simp,by simp only; omega⟩
    · obtain rfl:i=a.length:=by omega
      (repeat' ((first|refine vn rfl ?_|simp (disch:=omega) only [wr64,W7]|refine bo (fun _=>?_) fun _=>?_|refine im fun _=>?_|refine cF ?_|refine om ?_|refine an ?_|fail) <;> try simp only [zN,zT,zV,zS,zU,Q0,Q1,ex,Q2,Q3,Q4,Q5,Q6,Q7,Q8,Q9,QA,QB,QC,W0,W1,W2,W3,W4,W5,W6,reduceIte]))
      all_goals try (exfalso; omega)
      rw [List.take_length,hlen,List.take_length] at hI
      rw [decide_eq_true hI]
      exact Frz.eq rfl (by simp)
theorem sameDrum_spec (a b:List Sp × List Mk) (ha:a.1.length < 9223372036854775808∧a.2.length < 9223372036854775808) (hb:b.1.length < 9223372036854775808∧b.2.length < 9223372036854775808):Pure Tryz.prog 117 [.agg [spnS a.1,mkS a.2],.agg [spnS b.1,mkS b.2]] (bl (decide (a=b))):=by
  refine Pure.of_body Tryz.call117 Tryz.func117 k117 (Nat.le_of_ble_eq_true rfl) ?_
  unfold c117
  obtain ⟨a1,a2⟩:=a
  obtain ⟨b1,b2⟩:=b
  simp only at ha hb
  have h1:=sameSp a1 b1 ha.1 hb.1
  by_cases e1:a1=b1
  · rw [decide_eq_true e1] at h1
    by_cases hlen:a2.length=b2.length
    · have hlen':(a2.length:Int)=(b2.length:Int):=by omega
      have hd:decide ((a1,a2)=(b1,b2))=decide (a2=b2):=by rw [decide_eq_decide]; simp [e1]
      rw [hd]
      (repeat' ((first|refine vn rfl ?_|simp (disch:=omega) only [wr64,W7]|refine bo (fun _=>?_) fun _=>?_|refine im fun _=>?_|((repeat refine si ?_); (first|((first|refine .inl ⟨_,_,_,_,rfl,fun _=>pu h1,?_⟩|refine ⟨_,_,_,_,rfl,fun _=>pu h1,?_⟩); (first|refine o1 ?_|refine o2 ?_|refine o3 ?_|refine o4 ?_)) | refine .inl ⟨_,_,_,_,rfl,pu h1,?_⟩))|refine cF ?_|refine om ?_|refine an ?_|fail) <;> try simp only [zN,zT,zV,zS,zU,Q0,Q1,ex,Q2,Q3,Q4,Q5,Q6,Q7,Q8,Q9,QA,QB,QC,W0,W1,W2,W3,W4,W5,W6,reduceIte,hlen']))
      all_goals try (exfalso; omega)
      refine AWPC.loopI 5 a2.length (fun i=>a2.take i=b2.take i) (by simp) ?_ ?_
      · (simp only [zN,zT,zV,zS,zU,Q0,Q1,ex,Q2,Q3,Q4,Q5,Q6,Q7,Q8,Q9,QA,QB,QC,W0,W1,W2,W3,W4,W5,W6,reduceIte]; try simp)
      · intro i hi hI
        by_cases hlt:i < a2.length
        · have hx:(a2.map Mk.cs).getD i []=Mk.cs (a2.getD i mk0):=row _ hlt
          have hy:(b2.map Mk.cs).getD i []=Mk.cs (b2.getD i mk0):=row _ (by omega)
          have hk:a2.getD i mk0=b2.getD i mk0↔a2.take (i+1)=b2.take (i+1):=by
            rw [List.take_add_one,List.take_add_one,hI,getD_lt mk0 hlt,getD_lt mk0 (show i < b2.length by omega)]; simp
          generalize a2.getD i mk0=x at hx hk
          generalize b2.getD i mk0=y at hy hk
          obtain ⟨x1,⟨x2,x3⟩⟩:=x
          obtain ⟨y1,⟨y2,y3⟩⟩:=y
          simp only [Mk.mk.injEq,Sp.mk.injEq] at hk
          (repeat' ((first|refine vn rfl ?_|simp (disch:=omega) only [wr64,W7]|refine bo (fun _=>?_) fun _=>?_|refine im fun _=>?_|refine cF ?_|refine om ?_|refine an ?_|fail) <;> try simp only [zN, zT, zV, zS, zU, Q0, Q1, ex, Q2, Q3, Q4, Q5, Q6, Q7, Q8, Q9, QA, QB, QC, W0, W1, W2, W3, W4, W5, W6, reduceIte, hx, hy]))
          all_goals try (exfalso; omega)
          · rename_i h
            rw [decide_eq_false fun e=>by
              have:=hk.2 (by rw [e])
              omega]
            exact Frz.eq rfl (by simp)
          · rename_i h
            exact ⟨⟨i+1,hlt,hk.1 (by omega)⟩,by simp,by simp only; omega⟩
        · obtain rfl:i=a2.length:=by omega
          (repeat' ((first|refine vn rfl ?_|simp (disch:=omega) only [wr64,W7]|refine bo (fun _=>?_) fun _=>?_|refine im fun _=>?_|refine cF ?_|refine om ?_|refine an ?_|fail) <;> try simp only [zN, zT, zV, zS, zU, Q0, Q1, ex, Q2, Q3, Q4, Q5, Q6, Q7, Q8, Q9, QA, QB, QC, W0, W1, W2, W3, W4, W5, W6, reduceIte]))
          all_goals try (exfalso; omega)
          rw [List.take_length,hlen,List.take_length] at hI
          rw [decide_eq_true hI]
          exact Frz.eq rfl (by simp)
    · rw [decide_eq_false (fun e=>hlen (by rw [(Prod.mk.inj e).2]))]
      (repeat' ((first|refine vn rfl ?_|simp (disch:=omega) only [wr64,W7]|refine bo (fun _=>?_) fun _=>?_|refine im fun _=>?_|((repeat refine si ?_); (first|((first|refine .inl ⟨_,_,_,_,rfl,fun _=>pu h1,?_⟩|refine ⟨_,_,_,_,rfl,fun _=>pu h1,?_⟩); (first|refine o1 ?_|refine o2 ?_|refine o3 ?_|refine o4 ?_)) | refine .inl ⟨_,_,_,_,rfl,pu h1,?_⟩))|refine cF ?_|refine om ?_|refine an ?_|fail) <;> try simp only [zN,zT,zV,zS,zU,Q0,Q1,ex,Q2,Q3,Q4,Q5,Q6,Q7,Q8,Q9,QA,QB,QC,W0,W1,W2,W3,W4,W5,W6,reduceIte]))
      all_goals try (exfalso; omega)
      all_goals exact Frz.eq rfl (by simp)
  · rw [decide_eq_false e1] at h1
    rw [decide_eq_false (fun e=>e1 (Prod.mk.inj e).1)]
    (repeat' ((first|refine vn rfl ?_|simp (disch:=omega) only [wr64,W7]|refine bo (fun _=>?_) fun _=>?_|refine im fun _=>?_|((repeat refine si ?_); (first|((first|refine .inl ⟨_,_,_,_,rfl,fun _=>pu h1,?_⟩|refine ⟨_,_,_,_,rfl,fun _=>pu h1,?_⟩); (first|refine o1 ?_|refine o2 ?_|refine o3 ?_|refine o4 ?_)) | refine .inl ⟨_,_,_,_,rfl,pu h1,?_⟩))|refine cF ?_|refine om ?_|refine an ?_|fail) <;> try simp only [zN,zT,zV,zS,zU,Q0,Q1,ex,Q2,Q3,Q4,Q5,Q6,Q7,Q8,Q9,QA,QB,QC,W0,W1,W2,W3,W4,W5,W6,reduceIte]))
    all_goals try (exfalso; omega)
    all_goals exact Frz.eq rfl (by simp)
theorem rSameSheet_spec (a b:Sht) (ha:shtSz a) (hb:shtSz b):Pure Tryz.prog 53 [.agg a.cs,.agg b.cs] (bl (decide (a=b))):=by
  refine Pure.of_body Tryz.call53 Tryz.func53 k53 (Nat.le_of_ble_eq_true rfl) ?_
  unfold c53
  have h1:=sameDrum_spec (a.rates,a.stops) (b.rates,b.stops) ⟨ha.2.2.1,ha.2.2.2⟩ ⟨hb.2.2.1,hb.2.2.2⟩
  have h2:=sameInt a.blots b.blots ha.2.1 hb.2.1
  have ht1:=ha.1
  have ht2:=hb.1
  (repeat' ((first|refine vn rfl ?_|simp (disch:=omega) only [wr64,W7]|refine bo (fun _=>?_) fun _=>?_|refine im fun _=>?_|((repeat refine si ?_); (first|((first|refine .inl ⟨_,_,_,_,rfl,fun _=>pu (by first|exact h1|exact h2),?_⟩|refine ⟨_,_,_,_,rfl,fun _=>pu (by first|exact h1|exact h2),?_⟩); (first|refine o1 ?_|refine o2 ?_|refine o3 ?_|refine o4 ?_)) | refine .inl ⟨_,_,_,_,rfl,pu (by first|exact h1|exact h2),?_⟩))|refine cF ?_|refine om ?_|refine an ?_|fail) <;> try simp only [zN,zT,zV,zS,zU,Q0,Q1,ex,Q2,Q3,Q4,Q5,Q6,Q7,Q8,Q9,QA,QB,QC,W0,W1,W2,W3,W4,W5,W6,reduceIte]))
  all_goals try (exfalso; omega)
  · rename_i h
    rw [decide_eq_false fun e=>?_]
    · exact Frz.eq rfl (by simp)
    · subst e
      simp at h
  · rename_i h
    obtain ⟨⟨⟨⟨hp,hn⟩,hd⟩,hb'⟩,ht⟩:(((a.paper=b.paper∧a.pen=b.pen)∧(a.rates,a.stops)=(b.rates,b.stops))∧a.blots=b.blots)∧a.trace.length=b.trace.length:=by
      obtain ⟨⟨p1,p2,p3,p4,p5,p6,⟨p7,p8⟩,⟨p9,p10⟩⟩,_,_,_,_,⟨q1,⟨q2,q3⟩,q4⟩⟩:=a
      obtain ⟨⟨r1,r2,r3,r4,r5,r6,⟨r7,r8⟩,⟨r9,r10⟩⟩,_,_,_,_,⟨s1,⟨s2,s3⟩,s4⟩⟩:=b
      simp only [not_or,Classical.not_not] at h
      obtain ⟨⟨⟨⟨e1,e2⟩,e3⟩,e4⟩,e5⟩:=h
      refine ⟨⟨⟨⟨?_,?_⟩,e3⟩,e4⟩,by exact_mod_cast e5⟩
      · simpa [and_assoc] using e1
      · simpa [and_assoc] using e2
    have hd':decide (a=b)=decide (a.trace=b.trace):=by
      rw [decide_eq_decide]
      obtain ⟨a1,a2,a3,a4,a5,a6⟩:=a
      obtain ⟨b1,b2,b3,b4,b5,b6⟩:=b
      simp only [Sht.mk.injEq,Prod.mk.injEq] at hp hn hd hb' ⊢
      simp [hp,hn,hd,hb']
    rw [hd']
    clear h hd' h1 h2
    obtain ⟨a1,a2,a3,a4,a5,a6⟩:=a
    obtain ⟨b1,b2,b3,b4,b5,b6⟩:=b
    simp only at ht ht1 ht2 ⊢
    have hlen':(a2.length:Int)=(b2.length:Int):=by omega
    refine AWPC.loopI 5 a2.length (fun i=>a2.take i=b2.take i) (by simp) ?_ ?_
    · (simp only [zN,zT,zV,zS,zU,Q0,Q1,ex,Q2,Q3,Q4,Q5,Q6,Q7,Q8,Q9,QA,QB,QC,W0,W1,W2,W3,W4,W5,W6,reduceIte]; try simp)
    · intro i hi hI
      by_cases hlt:i < a2.length
      · have hx:(a2.map Pt.cs).getD i []=Pt.cs (a2.getD i ⟨0,0,0⟩):=row _ hlt
        have hy:(b2.map Pt.cs).getD i []=Pt.cs (b2.getD i ⟨0,0,0⟩):=row _ (by omega)
        have hk:a2.getD i ⟨0,0,0⟩=b2.getD i ⟨0,0,0⟩↔a2.take (i+1)=b2.take (i+1):=by
          rw [List.take_add_one,List.take_add_one,hI,getD_lt ⟨0,0,0⟩ hlt,getD_lt ⟨0,0,0⟩ (show i < b2.length by omega)]; simp
        generalize a2.getD i ⟨0,0,0⟩=x at hx hk
        generalize b2.getD i ⟨0,0,0⟩=y at hy hk
        obtain ⟨x1,x2,x3⟩:=x
        obtain ⟨y1,y2,y3⟩:=y
        simp only [Pt.mk.injEq] at hk
        (repeat' ((first|refine vn rfl ?_|simp (disch:=omega) only [wr64,W7]|refine bo (fun _=>?_) fun _=>?_|refine im fun _=>?_|refine cF ?_|refine om ?_|refine an ?_|fail) <;> try simp only [zN, zT, zV, zS, zU, Q0, Q1, ex, Q2, Q3, Q4, Q5, Q6, Q7, Q8, Q9, QA, QB, QC, W0, W1, W2, W3, W4, W5, W6, reduceIte, hx, hy]))
        all_goals try (exfalso; omega)
        · rename_i h
          rw [decide_eq_false fun e=>by
            have:=hk.2 (by rw [e])
            omega]
          exact Frz.eq rfl (by simp)
        · rename_i h
          exact ⟨⟨i+1,hlt,hk.1 (by omega)⟩,by simp,by simp only; omega⟩
      · obtain rfl:i=a2.length:=by omega
        (repeat' ((first|refine vn rfl ?_|simp (disch:=omega) only [wr64,W7]|refine bo (fun _=>?_) fun _=>?_|refine im fun _=>?_|refine cF ?_|refine om ?_|refine an ?_|fail) <;> try simp only [zN, zT, zV, zS, zU, Q0, Q1, ex, Q2, Q3, Q4, Q5, Q6, Q7, Q8, Q9, QA, QB, QC, W0, W1, W2, W3, W4, W5, W6, reduceIte]))
        all_goals try (exfalso; omega)
        rw [List.take_length,ht,List.take_length] at hI
        rw [decide_eq_true hI]
        exact Frz.eq rfl (by simp)
def c50:CF:=⟨87,
 (.seq (.ops [
 ⟨some 2,.box false 68 38 (.t 0),none⟩,
 ⟨some 3,.box false 68 38 (.t 1),none⟩,
 ⟨some 4,.mv (.c (.bool false)),none⟩] [2,3])
 (.seq (.ops [
 ⟨some 5,.faddr 0 (.t 2),none⟩,
 ⟨some 6,.load none (.t 5),none⟩,
 ⟨some 7,.faddr 0 (.t 3),none⟩,
 ⟨some 8,.load none (.t 7),none⟩,
 ⟨some 9,.bin .eql (.t 6) (.t 8),none⟩,
 ⟨some 10,.mv (.t 9),none⟩,
 ⟨some 11,.faddr 1 (.t 2),some (10,true)⟩,
 ⟨some 12,.load none (.t 11),some (10,true)⟩,
 ⟨some 13,.faddr 1 (.t 3),some (10,true)⟩,
 ⟨some 14,.load none (.t 13),some (10,true)⟩,
 ⟨some 15,.bin .eql (.t 12) (.t 14),some (10,true)⟩,
 ⟨some 16,.pick (.t 10) (.t 15) (.c (.bool false)),none⟩,
 ⟨some 17,.mv (.t 16),none⟩,
 ⟨some 18,.faddr 2 (.t 2),some (17,true)⟩,
 ⟨some 19,.load none (.t 18),some (17,true)⟩,
 ⟨some 20,.faddr 2 (.t 3),some (17,true)⟩,
 ⟨some 21,.load none (.t 20),some (17,true)⟩,
 ⟨some 22,.bin .eql (.t 19) (.t 21),some (17,true)⟩,
 ⟨some 23,.pick (.t 17) (.t 22) (.c (.bool false)),none⟩,
 ⟨some 24,.mv (.t 23),none⟩,
 ⟨some 25,.faddr 3 (.t 2),some (24,true)⟩,
 ⟨some 26,.load none (.t 25),some (24,true)⟩,
 ⟨some 27,.faddr 3 (.t 3),some (24,true)⟩,
 ⟨some 28,.load none (.t 27),some (24,true)⟩,
 ⟨some 29,.bin .eql (.t 26) (.t 28),some (24,true)⟩,
 ⟨some 30,.pick (.t 24) (.t 29) (.c (.bool false)),none⟩,
 ⟨some 31,.mv (.t 30),none⟩,
 ⟨some 32,.faddr 4 (.t 2),some (31,true)⟩,
 ⟨some 33,.load none (.t 32),some (31,true)⟩,
 ⟨some 34,.faddr 4 (.t 3),some (31,true)⟩,
 ⟨some 35,.load none (.t 34),some (31,true)⟩,
 ⟨some 36,.bin .eql (.t 33) (.t 35),some (31,true)⟩,
 ⟨some 37,.pick (.t 31) (.t 36) (.c (.bool false)),none⟩,
 ⟨some 38,.mv (.t 37),none⟩,
 ⟨some 39,.faddr 5 (.t 2),some (38,true)⟩,
 ⟨some 40,.load none (.t 39),some (38,true)⟩,
 ⟨some 41,.faddr 5 (.t 3),some (38,true)⟩,
 ⟨some 42,.load none (.t 41),some (38,true)⟩,
 ⟨some 43,.bin .eql (.t 40) (.t 42),some (38,true)⟩,
 ⟨some 44,.pick (.t 38) (.t 43) (.c (.bool false)),none⟩,
 ⟨some 45,.mv (.t 44),none⟩,
 ⟨some 46,.faddr 6 (.t 2),some (45,true)⟩,
 ⟨some 47,.load none (.t 46),some (45,true)⟩,
 ⟨some 48,.faddr 6 (.t 3),some (45,true)⟩,
 ⟨some 49,.load none (.t 48),some (45,true)⟩,
 ⟨some 50,.bin .eql (.t 47) (.t 49),some (45,true)⟩,
 ⟨some 51,.pick (.t 45) (.t 50) (.c (.bool false)),none⟩,
 ⟨some 52,.mv (.t 51),none⟩,
 ⟨some 53,.faddr 25 (.t 2),some (52,true)⟩,
 ⟨some 54,.load (some 3) (.t 53),some (52,true)⟩,
 ⟨some 55,.faddr 25 (.t 3),some (52,true)⟩,
 ⟨some 56,.load (some 3) (.t 55),some (52,true)⟩,
 ⟨some 57,.eqs false [some .i64,some .i64,some .i64] (.t 54) (.t 56),some (52,true)⟩,
 ⟨some 58,.pick (.t 52) (.t 57) (.c (.bool false)),none⟩,
 ⟨some 59,.mv (.t 58),none⟩,
 ⟨some 60,.faddr 28 (.t 2),some (59,true)⟩,
 ⟨some 61,.load (some 5) (.t 60),some (59,true)⟩,
 ⟨some 62,.faddr 28 (.t 3),some (59,true)⟩,
 ⟨some 63,.load (some 5) (.t 62),some (59,true)⟩,
 ⟨some 64,.eqs false [some .i64,some .i64,some .i64,some .i64,some .i64] (.t 61) (.t 63),some (59,true)⟩,
 ⟨some 65,.pick (.t 59) (.t 64) (.c (.bool false)),none⟩,
 ⟨some 66,.mv (.t 65),none⟩,
 ⟨some 67,.faddr 33 (.t 2),some (66,true)⟩,
 ⟨some 68,.load (some 3) (.t 67),some (66,true)⟩,
 ⟨some 69,.faddr 33 (.t 3),some (66,true)⟩,
 ⟨some 70,.load (some 3) (.t 69),some (66,true)⟩,
 ⟨some 71,.eqs false [some .i64,some .i64,some .i64] (.t 68) (.t 70),some (66,true)⟩,
 ⟨some 72,.pick (.t 66) (.t 71) (.c (.bool false)),none⟩,
 ⟨some 73,.mv (.t 72),none⟩,
 ⟨some 74,.faddr 36 (.t 2),some (73,true)⟩,
 ⟨some 75,.load (some 2) (.t 74),some (73,true)⟩,
 ⟨some 76,.faddr 36 (.t 3),some (73,true)⟩,
 ⟨some 77,.load (some 2) (.t 76),some (73,true)⟩,
 ⟨some 78,.eqs false [some .i64,some .i64] (.t 75) (.t 77),some (73,true)⟩,
 ⟨some 79,.pick (.t 73) (.t 78) (.c (.bool false)),none⟩,
 ⟨some 80,.mv (.t 79),none⟩,
 ⟨some 81,.faddr 7 (.t 2),some (80,true)⟩,
 ⟨some 82,.load (some 18) (.t 81),some (80,true)⟩,
 ⟨some 83,.faddr 7 (.t 3),some (80,true)⟩,
 ⟨some 84,.load (some 18) (.t 83),some (80,true)⟩,
 ⟨some 85,.call (.f 53) [(.t 82),(.t 84)],some (80,true)⟩,
 ⟨some 86,.pick (.t 80) (.t 85) (.c (.bool false)),none⟩,
 ⟨some 4,.mv (.t 86),none⟩] [4])
 .ret)),
 [.t 4]⟩
theorem k50:chkF Tryz.prog Tryz.f50 c50=true:=by kernel_rfl
theorem rSame_spec (a b:Nt) (ha:shtSz a.sheet) (hb:shtSz b.sheet):Pure Tryz.prog 50 [.agg a.cs,.agg b.cs] (bl (decide (a=b))):=by
  refine Pure.of_body Tryz.call50 Tryz.func50 k50 (Nat.le_of_ble_eq_true rfl) ?_
  unfold c50
  have h1:=rSameSheet_spec a.sheet b.sheet ha hb
  (repeat' ((first|refine vn rfl ?_|simp (disch:=omega) only [wr64,W7]|refine bo (fun _=>?_) fun _=>?_|refine im fun _=>?_|((repeat refine si ?_); (first|((first|refine .inl ⟨_,_,_,_,rfl,fun _=>pu h1,?_⟩|refine ⟨_,_,_,_,rfl,fun _=>pu h1,?_⟩); (first|refine o1 ?_|refine o2 ?_|refine o3 ?_|refine o4 ?_)) | refine .inl ⟨_,_,_,_,rfl,pu h1,?_⟩))|refine cF ?_|refine om ?_|refine an ?_|fail) <;> try simp only [zN,zT,zV,zS,zU,Q0,Q1,ex,Q2,Q3,Q4,Q5,Q6,Q7,Q8,Q9,QA,QB,QC,W0,W1,W2,W3,W4,W5,W6,reduceIte]))
  refine Frz.eq (congrArg bl ?_) (by simp)
  clear h1
  obtain ⟨a1,a2,a3,a4,a5,a6,a7,a8,⟨a9,⟨a10,a11⟩⟩,⟨a12,a13,a14,⟨a15,a16⟩⟩,⟨a17,⟨a18,a19⟩⟩,⟨a20,a21⟩⟩:=a
  obtain ⟨b1,b2,b3,b4,b5,b6,b7,b8,⟨b9,⟨b10,b11⟩⟩,⟨b12,b13,b14,⟨b15,b16⟩⟩,⟨b17,⟨b18,b19⟩⟩,⟨b20,b21⟩⟩:=b
  simp only [Nt.mk.injEq,Mk.mk.injEq,Rd.mk.injEq,Hgt.mk.injEq,Nm.mk.injEq,Sp.mk.injEq,and_assoc]
  rw [decide_eq_decide]
  constructor <;> (intro h; simp_all)
end Go.Proofs.YtolgelipcgcbhaaGreat
namespace Go.Abs
set_option linter.unusedVariables false
set_option linter.unusedSimpArgs false
def clS (C:List (Nm × Bool)) (P:Nm→Prop):Prop:=∀ m,kget C m=some true↔P m
theorem clS.set {C:List (Nm × Bool)} {P:Nm→Prop} (h:clS C P) (k:Nm):clS (kset C k true) fun m=>m=k∨P m:=fun m=>by
  rw [kget_kset]
  by_cases e:m=k
  · simp [e]
  · simp [e,h m]
end Go.Abs
namespace Go.Proofs.YtolgelipcgcbhaaGreat
open Go.Abs
open Nat renaming reduceBEq→W0,reduceAdd→W1,reduceSub→W2,reduceLT→W3,reduceLeDiff→W4,reduceMul→W5,reduceEqDiff→W6
open Int renaming zero_sub→W7
open Go.Abs renaming vcC→Q0,lateX→Q1,strp→Q2,binA→Q3,elems→Q4,cells→Q5,scalar→Q6,eqC→Q7,keyA→Q8,intsA→Q9,lookA→QA,ofVs→QB,mpOf→QC
set_option linter.unusedVariables false
set_option linter.unusedSimpArgs false
set_option maxHeartbeats 4000000
set_option maxRecDepth 100000
def c33:CF:=⟨39,
 (.seq (.ops [
 ⟨some 1,.box false 60 18 (.t 0),none⟩,
 ⟨some 2,.mv (.c (.bool false)),none⟩] [1])
 (.seq (.ops [
 ⟨some 3,.faddr 10 (.t 1),none⟩,
 ⟨some 4,.load none (.t 3),none⟩,
 ⟨some 5,.len (.t 4),none⟩,
 ⟨some 6,.bin .leq (.t 5) (.c (.int .i64 40)),none⟩,
 ⟨some 7,.mv (.t 6),none⟩,
 ⟨some 8,.faddr 10 (.t 1),some (7,false)⟩,
 ⟨some 9,.load none (.t 8),some (7,false)⟩,
 ⟨some 10,.len (.t 9),some (7,false)⟩,
 ⟨some 11,.bin .gtr (.t 10) (.c (.int .i64 2000)),some (7,false)⟩,
 ⟨some 12,.mv (.t 11),some (7,false)⟩,
 ⟨some 13,.faddr 10 (.t 1),some (12,true)⟩,
 ⟨some 14,.load none (.t 13),some (12,true)⟩,
 ⟨some 15,.len (.t 14),some (12,true)⟩,
 ⟨some 16,.bin .leq (.t 15) (.c (.int .i64 4000)),some (12,true)⟩,
 ⟨some 17,.pick (.t 12) (.t 16) (.c (.bool false)),some (7,false)⟩,
 ⟨some 18,.pick (.t 7) (.c (.bool true)) (.t 17),none⟩,
 ⟨some 19,.mv (.t 18),none⟩,
 ⟨some 20,.faddr 11 (.t 1),some (19,true)⟩,
 ⟨some 21,.load none (.t 20),some (19,true)⟩,
 ⟨some 22,.len (.t 21),some (19,true)⟩,
 ⟨some 23,.bin .leq (.t 22) (.c (.int .i64 250)),some (19,true)⟩,
 ⟨some 24,.pick (.t 19) (.t 23) (.c (.bool false)),none⟩,
 ⟨some 25,.mv (.t 24),none⟩,
 ⟨some 26,.faddr 12 (.t 1),some (25,true)⟩,
 ⟨some 27,.faddr 0 (.t 26),some (25,true)⟩,
 ⟨some 28,.load none (.t 27),some (25,true)⟩,
 ⟨some 29,.len (.t 28),some (25,true)⟩,
 ⟨some 30,.bin .leq (.t 29) (.c (.int .i64 250)),some (25,true)⟩,
 ⟨some 31,.pick (.t 25) (.t 30) (.c (.bool false)),none⟩,
 ⟨some 32,.mv (.t 31),none⟩,
 ⟨some 33,.faddr 12 (.t 1),some (32,true)⟩,
 ⟨some 34,.faddr 1 (.t 33),some (32,true)⟩,
 ⟨some 35,.load none (.t 34),some (32,true)⟩,
 ⟨some 36,.len (.t 35),some (32,true)⟩,
 ⟨some 37,.bin .leq (.t 36) (.c (.int .i64 40)),some (32,true)⟩,
 ⟨some 38,.pick (.t 32) (.t 37) (.c (.bool false)),none⟩,
 ⟨some 2,.mv (.t 38),none⟩] [2])
 .ret)),
 [.t 2]⟩
theorem k33:chkF Tryz.prog Tryz.f33 c33=true:=by kernel_rfl
def c19:CF:=⟨35,
 (.seq (.ops [
 ⟨some 1,.box false 26 6 (.t 0),none⟩,
 ⟨some 2,.mv (.c (.bool false)),none⟩] [1])
 (.seq (.seq (.ops [
 ⟨some 4,.faddr 0 (.t 1),none⟩,
 ⟨some 5,.load none (.t 4),none⟩,
 ⟨some 6,.len (.t 5),none⟩,
 ⟨some 7,.bin .gtr (.t 6) (.c (.int .i64 8)),none⟩,
 ⟨some 8,.mv (.t 7),none⟩,
 ⟨some 9,.faddr 0 (.t 1),some (8,true)⟩,
 ⟨some 10,.load none (.t 9),some (8,true)⟩,
 ⟨some 11,.len (.t 10),some (8,true)⟩,
 ⟨some 12,.bin .leq (.t 11) (.c (.int .i64 32)),some (8,true)⟩,
 ⟨some 13,.pick (.t 8) (.t 12) (.c (.bool false)),none⟩,
 ⟨some 14,.mv (.t 13),none⟩,
 ⟨some 15,.faddr 0 (.t 1),some (14,false)⟩,
 ⟨some 16,.load none (.t 15),some (14,false)⟩,
 ⟨some 17,.len (.t 16),some (14,false)⟩,
 ⟨some 18,.bin .gtr (.t 17) (.c (.int .i64 100)),some (14,false)⟩,
 ⟨some 19,.pick (.t 14) (.c (.bool true)) (.t 18),none⟩] [1,19])
 (.cond (.t 19) (.seq (.ops [
 ⟨some 2,.mv (.c (.bool false)),none⟩] [2])
 .ret)
 .skip))
 (.seq (.seq (.ops [
 ⟨some 3,.mv (.c (.int .i64 0)),none⟩] [1,3])
 (.block 0 (.loop (.seq (.seq (.ops [
 ⟨some 20,.mv (.t 3),none⟩,
 ⟨some 21,.faddr 0 (.t 1),none⟩,
 ⟨some 22,.load none (.t 21),none⟩,
 ⟨some 23,.len (.t 22),none⟩,
 ⟨some 24,.bin .lss (.t 20) (.t 23),none⟩] [1,3,24])
 (.cond (.t 24) .skip
 (.exit 0)))
 (.seq (.block 1 (.seq (.ops [
 ⟨some 27,.faddr 0 (.t 1),none⟩,
 ⟨some 28,.load none (.t 27),none⟩,
 ⟨some 29,.mv (.t 3),none⟩,
 ⟨some 30,.iaddr 4 (.t 28) (.t 29),none⟩,
 ⟨some 31,.faddr 3 (.t 30),none⟩,
 ⟨some 32,.load none (.t 31),none⟩,
 ⟨some 33,.len (.t 32),none⟩,
 ⟨some 34,.bin .gtr (.t 33) (.c (.int .i64 40)),none⟩] [1,3,34])
 (.cond (.t 34) (.seq (.ops [
 ⟨some 2,.mv (.c (.bool false)),none⟩] [2])
 .ret)
 .skip)))
 (.ops [
 ⟨some 25,.mv (.t 3),none⟩,
 ⟨some 26,.bin .add (.t 25) (.c (.int .i64 1)),none⟩,
 ⟨some 3,.mv (.t 26),none⟩] [1,3]))))))
 (.seq (.ops [
 ⟨some 2,.mv (.c (.bool true)),none⟩] [2])
 .ret)))),
 [.t 2]⟩
theorem k19:chkF Tryz.prog Tryz.f19 c19=true:=by kernel_rfl
def c20:CF:=⟨30,
 (.seq (.ops [
 ⟨some 2,.mv (.c (.bool false)),none⟩] [0])
 (.seq (.seq (.ops [
 ⟨some 4,.mv (.t 0),none⟩,
 ⟨some 5,.len (.t 4),none⟩,
 ⟨some 6,.bin .gtr (.t 5) (.c (.int .i64 40)),none⟩,
 ⟨some 7,.mv (.t 6),none⟩,
 ⟨some 8,.mv (.t 0),some (7,true)⟩,
 ⟨some 9,.len (.t 8),some (7,true)⟩,
 ⟨some 10,.bin .leq (.t 9) (.c (.int .i64 400)),some (7,true)⟩,
 ⟨some 11,.pick (.t 7) (.t 10) (.c (.bool false)),none⟩,
 ⟨some 12,.mv (.t 11),none⟩,
 ⟨some 13,.mv (.t 0),some (12,false)⟩,
 ⟨some 14,.len (.t 13),some (12,false)⟩,
 ⟨some 15,.bin .gtr (.t 14) (.c (.int .i64 800)),some (12,false)⟩,
 ⟨some 16,.pick (.t 12) (.c (.bool true)) (.t 15),none⟩] [0,16])
 (.cond (.t 16) (.seq (.ops [
 ⟨some 2,.mv (.c (.bool false)),none⟩] [2])
 .ret)
 .skip))
 (.seq (.seq (.ops [
 ⟨some 3,.mv (.c (.int .i64 0)),none⟩] [0,3])
 (.block 0 (.loop (.seq (.seq (.ops [
 ⟨some 17,.mv (.t 3),none⟩,
 ⟨some 18,.mv (.t 0),none⟩,
 ⟨some 19,.len (.t 18),none⟩,
 ⟨some 20,.bin .lss (.t 17) (.t 19),none⟩] [0,3,20])
 (.cond (.t 20) .skip
 (.exit 0)))
 (.seq (.block 1 (.seq (.ops [
 ⟨some 23,.mv (.t 0),none⟩,
 ⟨some 24,.mv (.t 3),none⟩,
 ⟨some 25,.iaddr 38 (.t 23) (.t 24),none⟩,
 ⟨some 26,.faddr 7 (.t 25),none⟩,
 ⟨some 27,.load (some 18) (.t 26),none⟩,
 ⟨some 28,.call (.f 33) [(.t 27)],none⟩,
 ⟨some 29,.un .not (.t 28),none⟩] [0,3,29])
 (.cond (.t 29) (.seq (.ops [
 ⟨some 2,.mv (.c (.bool false)),none⟩] [2])
 .ret)
 .skip)))
 (.ops [
 ⟨some 21,.mv (.t 3),none⟩,
 ⟨some 22,.bin .add (.t 21) (.c (.int .i64 1)),none⟩,
 ⟨some 3,.mv (.t 22),none⟩] [0,3]))))))
 (.seq (.ops [
 ⟨some 2,.mv (.c (.bool true)),none⟩] [2])
 .ret)))),
 [.t 2]⟩
theorem k20:chkF Tryz.prog Tryz.f20 c20=true:=by kernel_rfl
def slightB (s:Sht):Bool:=(decide (s.trace.length≤40) || (decide (2000 < s.trace.length) && decide (s.trace.length≤4000))) && decide (s.blots.length≤250) && decide (s.rates.length≤250) && decide (s.stops.length≤40)
def smallB (b:Bse):Bool:=!((decide (8 < b.stns.length) && decide (b.stns.length≤32)) || decide (100 < b.stns.length)) && b.stns.all fun s=>decide (s.heights.length≤40)
def fewB (l:List Nt):Bool:=!((decide (40 < l.length) && decide (l.length≤400)) || decide (800 < l.length)) && l.all fun a=>slightB a.sheet
theorem slight_spec (s:Sht):Pure Tryz.prog 33 [.agg s.cs] (bl (slightB s)):=by
  refine Pure.of_body Tryz.call33 Tryz.func33 k33 (Nat.le_of_ble_eq_true rfl) ?_
  unfold c33
  (repeat' ((first|refine vn rfl ?_|simp (disch:=omega) only [wr64,W7]|refine bo (fun _=>?_) fun _=>?_|refine im fun _=>?_|refine cF ?_|refine om ?_|refine an ?_|fail) <;> try simp only [zN,zT,zV,zS,zU,Q0,Q1,ex,Q2,Q3,Q4,Q5,Q6,Q7,Q8,Q9,QA,QB,QC,W0,W1,W2,W3,W4,W5,W6,reduceIte]))
  refine Frz.eq (congrArg bl ?_) (by simp)
  unfold slightB
  rw [Bool.eq_iff_iff]
  simp only [Bool.and_eq_true,Bool.or_eq_true,decide_eq_true_eq]
  omega
theorem small_spec (b:Bse) (hb:bseSz b):Pure Tryz.prog 19 [.agg b.cs] (bl (smallB b)):=by
  refine Pure.of_body Tryz.call19 Tryz.func19 k19 (Nat.le_of_ble_eq_true rfl) ?_
  unfold c19
  have h1:=hb.1
  by_cases hbig:(8 < b.stns.length∧b.stns.length≤32)∨100 < b.stns.length
  · have hE:smallB b=false:=by
      unfold smallB
      have:((decide (8 < b.stns.length) && decide (b.stns.length≤32)) || decide (100 < b.stns.length))=true:=by simpa using hbig
      rw [this]; rfl
    rw [hE]
    (repeat' ((first|refine vn rfl ?_|simp (disch:=omega) only [wr64,W7]|refine bo (fun _=>?_) fun _=>?_|refine im fun _=>?_|refine cF ?_|refine om ?_|refine an ?_|fail) <;> try simp only [zN,zT,zV,zS,zU,Q0,Q1,ex,Q2,Q3,Q4,Q5,Q6,Q7,Q8,Q9,QA,QB,QC,W0,W1,W2,W3,W4,W5,W6,reduceIte]))
    all_goals first | (exfalso; omega)|exact Frz.eq rfl (by simp)
  · have hE:smallB b=b.stns.all fun s=>decide (s.heights.length≤40):=by
      unfold smallB
      have:((decide (8 < b.stns.length) && decide (b.stns.length≤32)) || decide (100 < b.stns.length))=false:=by rw [Bool.eq_false_iff]; simpa using hbig
      rw [this]; rfl
    rw [hE]
    (repeat' ((first|refine vn rfl ?_|simp (disch:=omega) only [wr64,W7]|refine bo (fun _=>?_) fun _=>?_|refine im fun _=>?_|refine cF ?_|refine om ?_|refine an ?_|fail) <;> try simp only [zN,zT,zV,zS,zU,Q0,Q1,ex,Q2,Q3,Q4,Q5,Q6,Q7,Q8,Q9,QA,QB,QC,W0,W1,W2,W3,W4,W5,W6,reduceIte]))
    all_goals try (exfalso; omega)
    refine AWPC.loopI 3 b.stns.length (fun i=>((b.stns.drop i).all fun s=>decide (s.heights.length≤40))=b.stns.all fun s=>decide (s.heights.length≤40)) (by simp) ?_ ?_
    · (simp only [zN,zT,zV,zS,zU,Q0,Q1,ex,Q2,Q3,Q4,Q5,Q6,Q7,Q8,Q9,QA,QB,QC,W0,W1,W2,W3,W4,W5,W6,reduceIte]; try simp)
    · intro i hi hI
      by_cases hlt:i < b.stns.length
      · obtain ⟨x,hx⟩:∃ x,b.stns[i]?=some x:=⟨_,List.getElem?_eq_getElem hlt⟩
        have hh:=hb.2 x (List.mem_of_getElem? hx)
        rw [drop_cons hx,List.all_cons] at hI
        (repeat' ((first|refine vn rfl ?_|simp (disch:=omega) only [wr64,W7]|refine bo (fun _=>?_) fun _=>?_|refine im fun _=>?_|refine cF ?_|refine om ?_|refine an ?_|fail) <;> try simp only [zN, zT, zV, zS, zU, Q0, Q1, ex, Q2, Q3, Q4, Q5, Q6, Q7, Q8, Q9, QA, QB, QC, W0, W1, W2, W3, W4, W5, W6, reduceIte, getD_map hx]))
        all_goals try (exfalso; omega)
        · rename_i h
          rw [show decide (x.heights.length≤40)=false by simp; omega,Bool.false_and] at hI
          rw [← hI]
          exact Frz.eq rfl (by simp)
        · rename_i h
          rw [show decide (x.heights.length≤40)=true by simp; omega,Bool.true_and] at hI
          exact ⟨⟨i+1,hlt,hI⟩,by simp,by simp only; omega⟩
      · obtain rfl:i=b.stns.length:=by omega
        rw [List.drop_length,List.all_nil] at hI
        (repeat' ((first|refine vn rfl ?_|simp (disch:=omega) only [wr64,W7]|refine bo (fun _=>?_) fun _=>?_|refine im fun _=>?_|refine cF ?_|refine om ?_|refine an ?_|fail) <;> try simp only [zN, zT, zV, zS, zU, Q0, Q1, ex, Q2, Q3, Q4, Q5, Q6, Q7, Q8, Q9, QA, QB, QC, W0, W1, W2, W3, W4, W5, W6, reduceIte]))
        all_goals try (exfalso; omega)
        rw [← hI]
        exact Frz.eq rfl (by simp)
theorem few_spec (l:List Nt) (hl:l.length < 9223372036854775808):Pure Tryz.prog 20 [ntS l] (bl (fewB l)):=by
  refine Pure.of_body Tryz.call20 Tryz.func20 k20 (Nat.le_of_ble_eq_true rfl) ?_
  unfold c20
  by_cases hbig:(40 < l.length∧l.length≤400)∨800 < l.length
  · have hE:fewB l=false:=by
      unfold fewB
      have:((decide (40 < l.length) && decide (l.length≤400)) || decide (800 < l.length))=true:=by simpa using hbig
      rw [this]; rfl
    rw [hE]
    (repeat' ((first|refine vn rfl ?_|simp (disch:=omega) only [wr64,W7]|refine bo (fun _=>?_) fun _=>?_|refine im fun _=>?_|refine cF ?_|refine om ?_|refine an ?_|fail) <;> try simp only [zN,zT,zV,zS,zU,Q0,Q1,ex,Q2,Q3,Q4,Q5,Q6,Q7,Q8,Q9,QA,QB,QC,W0,W1,W2,W3,W4,W5,W6,reduceIte]))
    all_goals first | (exfalso; omega)|exact Frz.eq rfl (by simp)
  · have hE:fewB l=l.all fun a=>slightB a.sheet:=by
      unfold fewB
      have:((decide (40 < l.length) && decide (l.length≤400)) || decide (800 < l.length))=false:=by rw [Bool.eq_false_iff]; simpa using hbig
      rw [this]; rfl
    rw [hE]
    (repeat' ((first|refine vn rfl ?_|simp (disch:=omega) only [wr64,W7]|refine bo (fun _=>?_) fun _=>?_|refine im fun _=>?_|refine cF ?_|refine om ?_|refine an ?_|fail) <;> try simp only [zN,zT,zV,zS,zU,Q0,Q1,ex,Q2,Q3,Q4,Q5,Q6,Q7,Q8,Q9,QA,QB,QC,W0,W1,W2,W3,W4,W5,W6,reduceIte]))
    all_goals try (exfalso; omega)
    refine AWPC.loopI 3 l.length (fun i=>((l.drop i).all fun a=>slightB a.sheet)=l.all fun a=>slightB a.sheet) (by simp) ?_ ?_
    · (simp only [zN,zT,zV,zS,zU,Q0,Q1,ex,Q2,Q3,Q4,Q5,Q6,Q7,Q8,Q9,QA,QB,QC,W0,W1,W2,W3,W4,W5,W6,reduceIte]; try simp)
    · intro i hi hI
      by_cases hlt:i < l.length
      · obtain ⟨x,hx⟩:∃ x,l[i]?=some x:=⟨_,List.getElem?_eq_getElem hlt⟩
        rw [drop_cons hx,List.all_cons] at hI
        have hc:=slight_spec x.sheet
        cases hs:slightB x.sheet with
        | false =>
          rw [hs] at hI hc
          (repeat' ((first|refine vn rfl ?_|simp (disch:=omega) only [wr64,W7]|refine bo (fun _=>?_) fun _=>?_|refine im fun _=>?_|((repeat refine si ?_); (first|((first|refine .inl ⟨_,_,_,_,rfl,fun _=>pu hc,?_⟩|refine ⟨_,_,_,_,rfl,fun _=>pu hc,?_⟩); (first|refine o1 ?_|refine o2 ?_|refine o3 ?_|refine o4 ?_)) | refine .inl ⟨_,_,_,_,rfl,pu hc,?_⟩))|refine cF ?_|refine om ?_|refine an ?_|fail) <;> try simp only [zN, zT, zV, zS, zU, Q0, Q1, ex, Q2, Q3, Q4, Q5, Q6, Q7, Q8, Q9, QA, QB, QC, W0, W1, W2, W3, W4, W5, W6, reduceIte, getD_map hx]))
          all_goals try (exfalso; omega)
          rw [← hI]
          exact Frz.eq rfl (by simp)
        | true =>
          rw [hs] at hI hc
          rw [Bool.true_and] at hI
          (repeat' ((first|refine vn rfl ?_|simp (disch:=omega) only [wr64,W7]|refine bo (fun _=>?_) fun _=>?_|refine im fun _=>?_|((repeat refine si ?_); (first|((first|refine .inl ⟨_,_,_,_,rfl,fun _=>pu hc,?_⟩|refine ⟨_,_,_,_,rfl,fun _=>pu hc,?_⟩); (first|refine o1 ?_|refine o2 ?_|refine o3 ?_|refine o4 ?_)) | refine .inl ⟨_,_,_,_,rfl,pu hc,?_⟩))|refine cF ?_|refine om ?_|refine an ?_|fail) <;> try simp only [zN, zT, zV, zS, zU, Q0, Q1, ex, Q2, Q3, Q4, Q5, Q6, Q7, Q8, Q9, QA, QB, QC, W0, W1, W2, W3, W4, W5, W6, reduceIte, getD_map hx]))
          all_goals try (exfalso; omega)
          exact ⟨⟨i+1,hlt,hI⟩,by simp,by simp only; omega⟩
      · obtain rfl:i=l.length:=by omega
        rw [List.drop_length,List.all_nil] at hI
        (repeat' ((first|refine vn rfl ?_|simp (disch:=omega) only [wr64,W7]|refine bo (fun _=>?_) fun _=>?_|refine im fun _=>?_|refine cF ?_|refine om ?_|refine an ?_|fail) <;> try simp only [zN, zT, zV, zS, zU, Q0, Q1, ex, Q2, Q3, Q4, Q5, Q6, Q7, Q8, Q9, QA, QB, QC, W0, W1, W2, W3, W4, W5, W6, reduceIte]))
        all_goals try (exfalso; omega)
        rw [← hI]
        exact Frz.eq rfl (by simp)
end Go.Proofs.YtolgelipcgcbhaaGreat
