/- Part 10 of the texts that the claim rests on: abstract values over the walk, and contracts of functions. -/
import Derived.Test.YtolgelipcgcbhaaGreatBa9
import Derived.Shelf.SortM.Plain
import Derived.Shelf.SortM.SortNone
import Derived.Test.YtolgelipcgcbhaaGreatProg
import Derived.Test.YtolgelipcgcbhaaGreatRows
namespace Go.Proofs.YtolgelipcgcbhaaGreat
open Go.Shelf
def Tryz.laysSlM5_f94_ren:Go.Shelf.Ren:=⟨fun | 5=>94 | 8=>162 | 7=>161 | 19=>207 | 20=>208 | 10=>198 | 11=>199 | 12=>200 | 13=>201 | 14=>202 | 15=>203 | 16=>204 | 17=>205 | 18=>206 | 30=>233 | 31=>234 | 32=>235 | 33=>236 | 34=>237 | 35=>168 | 40=>250 | n=>n,fun | 23=>52 | 25=>3 | 3=>3 | 32=>210 | 22=>52 | 0=>0 | 44=>254 | 46=>256 | 4=>4 | 36=>246 | 35=>245 | 41=>251 | 5=>5 | 9=>9 | 53=>285 | 57=>289 | 63=>299 | 64=>300 | n=>n,fun | n=>n⟩
theorem Tryz.laysSlM5_f94:Go.Proofs.SlLaysM.n5 Tryz.prog Tryz.laysSlM5_f94_ren:={
  mixed:=by kernel_rfl
  f5:=⟨Tryz.f94.name,by decide,Tryz.func94.trans (congrArg some (by kernel_rfl))⟩
  f7:=⟨Tryz.f161.name,by decide,Tryz.func161.trans (congrArg some (by kernel_rfl))⟩
  f8:=Tryz.func162.trans (congrArg some (by kernel_rfl))
  f10:=⟨Tryz.f198.name,by decide,Tryz.func198.trans (congrArg some (by kernel_rfl))⟩
  f11:=⟨Tryz.f199.name,by decide,Tryz.func199.trans (congrArg some (by kernel_rfl))⟩
  f12:=⟨Tryz.f200.name,by decide,Tryz.func200.trans (congrArg some (by kernel_rfl))⟩
  f13:=⟨Tryz.f201.name,by decide,Tryz.func201.trans (congrArg some (by kernel_rfl))⟩
  f14:=⟨Tryz.f202.name,by decide,Tryz.func202.trans (congrArg some (by kernel_rfl))⟩
  f15:=⟨Tryz.f203.name,by decide,Tryz.func203.trans (congrArg some (by kernel_rfl))⟩
  f16:=⟨Tryz.f204.name,by decide,Tryz.func204.trans (congrArg some (by kernel_rfl))⟩
  f17:=⟨Tryz.f205.name,by decide,Tryz.func205.trans (congrArg some (by kernel_rfl))⟩
  f18:=⟨Tryz.f206.name,by decide,Tryz.func206.trans (congrArg some (by kernel_rfl))⟩
  f19:=Tryz.func207.trans (congrArg some (by kernel_rfl))
  f20:=Tryz.func208.trans (congrArg some (by kernel_rfl))
  f30:=⟨Tryz.f233.name,by decide,Tryz.func233.trans (congrArg some (by kernel_rfl))⟩
  f31:=Tryz.func234.trans (congrArg some (by kernel_rfl))
  f32:=Tryz.func235.trans (congrArg some (by kernel_rfl))
  f33:=⟨Tryz.f236.name,by decide,Tryz.func236.trans (congrArg some (by kernel_rfl))⟩
  f34:=⟨Tryz.f237.name,by decide,Tryz.func237.trans (congrArg some (by kernel_rfl))⟩
  f35:=⟨Tryz.f168.name,by decide,Tryz.func168.trans (congrArg some (by kernel_rfl))⟩
  f40:=⟨Tryz.f250.name,by decide,Tryz.func250.trans (congrArg some (by kernel_rfl))⟩
  t0:=Tryz.underlying0
  a0:=Tryz.isAgg0
  z0:=Tryz.sizeOf0
  v0:=Tryz.zeroValue0
  t3:=Tryz.underlying3
  a3:=Tryz.isAgg3
  z3:=Tryz.sizeOf3
  v3:=Tryz.zeroValue3
  t4:=Tryz.underlying4
  a4:=Tryz.isAgg4
  z4:=Tryz.sizeOf4
  v4:=Tryz.zeroValue4
  t5:=Tryz.underlying5
  a5:=Tryz.isAgg5
  z5:=Tryz.sizeOf5
  v5:=Tryz.zeroValue5
  t9:=Tryz.underlying9
  a9:=Tryz.isAgg9
  z9:=Tryz.sizeOf9
  v9:=Tryz.zeroValue9
  t22:=Tryz.underlying52
  a22:=Tryz.isAgg52
  z22:=Tryz.sizeOf52
  v22:=Tryz.zeroValue52
  t23:=Tryz.underlying52
  a23:=Tryz.isAgg52
  z23:=Tryz.sizeOf52
  v23:=Tryz.zeroValue52
  t25:=Tryz.underlying3
  a25:=Tryz.isAgg3
  z25:=Tryz.sizeOf3
  v25:=Tryz.zeroValue3
  t32:=Tryz.underlying210
  a32:=Tryz.isAgg210
  z32:=Tryz.sizeOf210
  v32:=Tryz.zeroValue210
  t35:=Tryz.underlying245
  a35:=Tryz.isAgg245
  z35:=Tryz.sizeOf245
  v35:=Tryz.zeroValue245
  t36:=Tryz.underlying246
  a36:=Tryz.isAgg246
  z36:=Tryz.sizeOf246
  v36:=Tryz.zeroValue246
  t41:=Tryz.underlying251
  a41:=Tryz.isAgg251
  z41:=Tryz.sizeOf251
  v41:=Tryz.zeroValue251
  t44:=Tryz.underlying254
  a44:=Tryz.isAgg254
  z44:=Tryz.sizeOf254
  v44:=Tryz.zeroValue254
  t46:=Tryz.underlying256
  a46:=Tryz.isAgg256
  z46:=Tryz.sizeOf256
  v46:=Tryz.zeroValue256
  t53:=Tryz.underlying285
  a53:=Tryz.isAgg285
  z53:=Tryz.sizeOf285
  v53:=Tryz.zeroValue285
  t57:=Tryz.underlying289
  a57:=Tryz.isAgg289
  z57:=Tryz.sizeOf289
  v57:=Tryz.zeroValue289
  t63:=Tryz.underlying299
  a63:=Tryz.isAgg299
  z63:=Tryz.sizeOf299
  v63:=Tryz.zeroValue299
  t64:=Tryz.underlying300
  a64:=Tryz.isAgg300
  z64:=Tryz.sizeOf300
  v64:=Tryz.zeroValue300 }
open Go.Sort Go.RowKit Go.Proofs in
theorem Tryz.slices_Sort_int (blk off cap:Nat) (zs:List Int) (w:World) (hH:Holds (Value.int .i64) w blk off zs.toArray) (hblk:blk < w.heap.size) (hsz:zs.length < 4611686018427387904) :
    Calls Tryz.prog 94 #[.slice (some ⟨blk,off,none⟩) zs.length cap] w fun e w' =>
      e=.returned (.tuple #[])∧∃ n os,w'=grow (putRow (Value.int .i64) (Sort.ahead w n) blk off (zs.mergeSort fun x y=>decide (x≤y)).toArray) os:=AnyM.slices_Sort_int Tryz.laysSlM5_f94 blk off cap zs w hH hblk hsz
open Go.RowKit Go.Sort Go.Proofs in
theorem Tryz.slices_Sort_int_none (p:Option Addr) (cap:Nat) (w:World) :
    Calls Tryz.prog 94 #[.slice p 0 cap] w fun e w'=>e=.returned (.tuple #[])∧w'=w:=AnyM.slices_Sort_int_none Tryz.laysSlM5_f94 p cap w
end Go.Proofs.YtolgelipcgcbhaaGreat
namespace Go.Proofs.YtolgelipcgcbhaaGreat
open Go.Abs
open Nat (reduceAdd reduceSub reduceLT reduceLeDiff reduceMul reduceEqDiff)
set_option linter.unusedVariables false
set_option linter.unusedSimpArgs false
set_option maxHeartbeats 4000000
set_option maxRecDepth 100000
def c95:CF:=⟨61,
 (.seq (.ops [
 ⟨some 2,.mv (.c (.slice none 0 0)),none⟩] [0])
 (.seq (.seq (.ops [
 ⟨some 6,.mv (.t 0),none⟩,
 ⟨some 7,.len (.t 6),none⟩,
 ⟨some 8,.bin .lss (.t 7) (.c (.int .i64 2)),none⟩] [0,8])
 (.cond (.t 8) (.seq (.ops [
 ⟨some 9,.mv (.t 0),none⟩,
 ⟨some 2,.mv (.t 9),none⟩] [2])
 .ret)
 .skip))
 (.seq (.seq (.ops [
 ⟨some 3,.mv (.c (.int .i64 1)),none⟩] [0,3])
 (.block 0 (.loop (.seq (.seq (.ops [
 ⟨some 10,.mv (.t 3),none⟩,
 ⟨some 11,.mv (.t 0),none⟩,
 ⟨some 12,.len (.t 11),none⟩,
 ⟨some 13,.bin .lss (.t 10) (.t 12),none⟩] [0,3,13])
 (.cond (.t 13) .skip
 (.exit 0)))
 (.seq (.block 1 (.seq (.draw [
 ⟨some 16,.mv (.t 0),none⟩,
 ⟨some 17,.mv (.t 3),none⟩,
 ⟨some 18,.iaddr 1 (.t 16) (.t 17),none⟩,
 ⟨some 19,.load none (.t 18),none⟩,
 ⟨some 20,.mv (.t 0),none⟩,
 ⟨some 21,.mv (.t 3),none⟩,
 ⟨some 22,.bin .sub (.t 21) (.c (.int .i64 1)),none⟩,
 ⟨some 23,.iaddr 1 (.t 20) (.t 22),none⟩,
 ⟨some 24,.load none (.t 23),none⟩,
 ⟨some 25,.bin .eql (.t 19) (.t 24),none⟩] [
 ] [0,3,25])
 (.cond (.t 25) (.seq (.ops [
 ⟨some 26,.mv (.t 0),none⟩,
 ⟨some 27,.mv (.t 3),none⟩,
 ⟨some 28,.subs 1 (.t 26) (.t 27),none⟩,
 ⟨some 4,.mv (.t 28),none⟩] [0,3,4])
 (.seq (.seq (.ops [
 ⟨some 5,.mv (.c (.int .i64 1)),none⟩] [0,3,4,5])
 (.block 2 (.loop (.seq (.seq (.ops [
 ⟨some 29,.mv (.t 5),none⟩,
 ⟨some 30,.mv (.t 4),none⟩,
 ⟨some 31,.len (.t 30),none⟩,
 ⟨some 32,.bin .lss (.t 29) (.t 31),none⟩] [0,3,4,5,32])
 (.cond (.t 32) .skip
 (.exit 2)))
 (.seq (.block 3 (.seq (.draw [
 ⟨some 35,.mv (.t 4),none⟩,
 ⟨some 36,.mv (.t 5),none⟩,
 ⟨some 37,.iaddr 1 (.t 35) (.t 36),none⟩,
 ⟨some 38,.load none (.t 37),none⟩,
 ⟨some 39,.mv (.t 4),none⟩,
 ⟨some 40,.mv (.t 5),none⟩,
 ⟨some 41,.bin .sub (.t 40) (.c (.int .i64 1)),none⟩,
 ⟨some 42,.iaddr 1 (.t 39) (.t 41),none⟩,
 ⟨some 43,.load none (.t 42),none⟩,
 ⟨some 44,.bin .neq (.t 38) (.t 43),none⟩] [
 ] [0,3,4,5,44])
 (.cond (.t 44) (.seq (.ops [
 ⟨some 45,.mv (.t 0),none⟩,
 ⟨some 46,.mv (.t 3),none⟩,
 ⟨some 47,.mv (.t 4),none⟩,
 ⟨some 48,.mv (.t 5),none⟩,
 ⟨some 49,.iaddr 1 (.t 47) (.t 48),none⟩,
 ⟨some 50,.load none (.t 49),none⟩,
 ⟨some 51,.iaddr 1 (.t 45) (.t 46),none⟩,
 ⟨none,.store 1 (.t 51) (.t 50),none⟩] [0,3,4,5])
 (.ops [
 ⟨some 52,.mv (.t 3),none⟩,
 ⟨some 53,.bin .add (.t 52) (.c (.int .i64 1)),none⟩,
 ⟨some 3,.mv (.t 53),none⟩] [0,3,4,5]))
 .skip)))
 (.ops [
 ⟨some 33,.mv (.t 5),none⟩,
 ⟨some 34,.bin .add (.t 33) (.c (.int .i64 1)),none⟩,
 ⟨some 5,.mv (.t 34),none⟩] [0,3,4,5]))))))
 (.seq (.ops [
 ⟨some 54,.mv (.t 0),none⟩,
 ⟨some 55,.mv (.t 3),none⟩,
 ⟨some 56,.subs 1 (.t 54) (.t 55),none⟩,
 ⟨none,.clr 3 1 [.int .i64 0] (.t 56),none⟩] [0,3])
 (.seq (.ops [
 ⟨some 57,.mv (.t 0),none⟩,
 ⟨some 58,.mv (.t 3),none⟩,
 ⟨some 59,.slice 1 (.t 57) none (some (.t 58)),none⟩,
 ⟨some 2,.mv (.t 59),none⟩] [2])
 .ret))))
 .skip)))
 (.ops [
 ⟨some 14,.mv (.t 3),none⟩,
 ⟨some 15,.bin .add (.t 14) (.c (.int .i64 1)),none⟩,
 ⟨some 3,.mv (.t 15),none⟩] [0,3]))))))
 (.seq (.ops [
 ⟨some 60,.mv (.t 0),none⟩,
 ⟨some 2,.mv (.t 60),none⟩] [2])
 .ret)))),
 [.t 2]⟩
theorem k95:chkF Tryz.prog Tryz.f95 c95=true:=by kernel_rfl
def c36:CF:=⟨39,
 (.seq (.ops [
 ⟨some 1,.box false 37 4 (.t 0),none⟩,
 ⟨some 2,.mv (.c (.slice none 0 0)),none⟩,
 ⟨some 3,.mv (.c (.int .i64 0)),none⟩] [1])
 (.seq (.ops [
 ⟨some 4,.mv (.c (.slice none 0 0)),none⟩] [1,4])
 (.seq (.seq (.ops [
 ⟨some 9,.faddr 0 (.t 1),none⟩,
 ⟨some 10,.load none (.t 9),none⟩,
 ⟨some 11,.len (.t 10),none⟩,
 ⟨some 12,.mv (.c (.int .i64 0)),none⟩] [1,4,10,11,12])
 (.block 0 (.loop (.seq (.ops [
 ⟨some 13,.bin .lss (.t 12) (.t 11),none⟩] [1,4,10,11,12,13])
 (.seq (.cond (.t 13) .skip
 (.exit 0))
 (.seq (.block 1 (.seq (.ops [
 ⟨some 14,.iaddr 24 (.t 10) (.t 12),none⟩,
 ⟨some 15,.load (some 24) (.t 14),none⟩,
 ⟨some 6,.alloc 72 24 z24,none⟩,
 ⟨none,.store 24 (.t 6) (.t 15),none⟩] [1,4,6,10,11,12])
 (.ops [
 ⟨some 16,.mv (.t 4),none⟩,
 ⟨some 17,.faddr 3 (.t 6),none⟩,
 ⟨some 18,.load none (.t 17),none⟩,
 ⟨some 19,.bsl false 3 1 1 [.int .i64 0] [(0,1,(.t 18))],none⟩,
 ⟨some 20,.app 3 1 8 (.t 16) (.t 19),none⟩,
 ⟨some 4,.mv (.t 20),none⟩] [1,4,10,11,12])))
 (.ops [
 ⟨some 21,.bin .add (.t 12) (.c (.int .i64 1)),none⟩,
 ⟨some 12,.mv (.t 21),none⟩] [1,4,10,11,12])))))))
 (.seq (.seq (.ops [
 ⟨some 22,.faddr 1 (.t 1),none⟩,
 ⟨some 23,.load none (.t 22),none⟩,
 ⟨some 24,.len (.t 23),none⟩,
 ⟨some 25,.mv (.c (.int .i64 0)),none⟩] [4,23,24,25])
 (.block 2 (.loop (.seq (.ops [
 ⟨some 26,.bin .lss (.t 25) (.t 24),none⟩] [4,23,24,25,26])
 (.seq (.cond (.t 26) .skip
 (.exit 2))
 (.seq (.block 3 (.seq (.ops [
 ⟨some 27,.iaddr 5 (.t 23) (.t 25),none⟩,
 ⟨some 28,.load (some 5) (.t 27),none⟩,
 ⟨some 8,.alloc 64 5 [.int .i64 0,.int .i64 0,.int .i64 0,.int .i64 0,.int .i64 0],none⟩,
 ⟨none,.store 5 (.t 8) (.t 28),none⟩] [4,8,23,24,25])
 (.ops [
 ⟨some 29,.mv (.t 4),none⟩,
 ⟨some 30,.faddr 1 (.t 8),none⟩,
 ⟨some 31,.load none (.t 30),none⟩,
 ⟨some 32,.bsl false 3 1 1 [.int .i64 0] [(0,1,(.t 31))],none⟩,
 ⟨some 33,.app 3 1 8 (.t 29) (.t 32),none⟩,
 ⟨some 4,.mv (.t 33),none⟩] [4,23,24,25])))
 (.ops [
 ⟨some 34,.bin .add (.t 25) (.c (.int .i64 1)),none⟩,
 ⟨some 25,.mv (.t 34),none⟩] [4,23,24,25])))))))
 (.seq (.ops [
 ⟨some 35,.mv (.t 4),none⟩,
 ⟨some 36,.call (.f 94) [(.t 35)],none⟩] [4])
 (.seq (.ops [
 ⟨some 37,.mv (.t 4),none⟩,
 ⟨some 38,.call (.f 95) [(.t 37)],none⟩,
 ⟨some 2,.mv (.t 38),none⟩,
 ⟨some 3,.mv (.c (.int .i64 0)),none⟩] [2,3])
 .ret)))))),
 [.t 2,.t 3]⟩
theorem k36:chkF Tryz.prog Tryz.f36 c36=true:=by kernel_rfl
theorem compI1_snoc (x:Int):∀ (r:List Int) (a:Int),compI1 a (r++[x])=if (r.getLast?).getD a=x then compI1 a r else compI1 a r++[x]
  | [],a=>by
    simp only [List.nil_append,compI1,List.getLast?_nil,Option.getD_none]
    by_cases h:a=x <;> simp [h]
  | b::r,a=>by
    have h:=compI1_snoc x r
    have e:((b::r).getLast?).getD a=(r.getLast?).getD b:=by
      cases r with
      | nil=>rfl
      | cons c s=>simp [List.getLast?_cons]
    rw [e]
    simp only [List.cons_append,compI1]
    by_cases hab:a=b
    · subst hab; rw [if_pos rfl,if_pos rfl,h]
    · rw [if_neg hab,if_neg hab,h]
      split <;> rfl
theorem compI_next {l:List Int} {j:Nat} (h0:0 < j) (hj:j < l.length):compI (l.take (j+1))=if l.getD (j - 1) 0=l.getD j 0 then compI (l.take j) else compI (l.take j)++[l.getD j 0]:=by
  cases l with
  | nil=>simp at hj
  | cons a r =>
    obtain ⟨i,rfl⟩:∃ i,j=i+1:=⟨j - 1,by omega⟩
    have hir:i < r.length:=by simpa using hj
    have e1:r.take (i+1)=r.take i++[r.getD i 0]:=by rw [List.take_add_one,getD_lt 0 hir]; rfl
    have e2:((r.take i).getLast?).getD a=(a::r).getD i 0:=by
      cases i with
      | zero=>rfl
      | succ i =>
        rw [List.take_add_one,getD_lt 0 (show i < r.length by omega)]
        simp
    rw [List.take_succ_cons,List.take_succ_cons]
    simp only [compI]
    rw [e1,compI1_snoc,e2]
    rfl
structure CmpS (l R:List Int) (k j:Nat):Prop where
  len:R.length=l.length
  pos:0 < k
  lt:k < j
  le:j≤l.length
  tk:R.take k=compI (l.take j)
  dr:R.drop (j - 1)=l.drop (j - 1)
theorem CmpS.get {l R:List Int} {k j:Nat} (h:CmpS l R k j) (i:Nat) (hi:j - 1≤i):R.getD i 0=l.getD i 0:=by
  have h1:(R.drop (j - 1))[i - (j - 1)]?=(l.drop (j - 1))[i - (j - 1)]?:=by rw [h.dr]
  rw [List.getElem?_drop,List.getElem?_drop,show j - 1+(i - (j - 1))=i by omega] at h1
  rw [List.getD_eq_getElem?_getD,List.getD_eq_getElem?_getD,h1]
theorem CmpS.drop1 {l R:List Int} {k j:Nat} (h:CmpS l R k j):R.drop j=l.drop j:=by
  have h1:(R.drop (j - 1)).drop 1=(l.drop (j - 1)).drop 1:=by rw [h.dr]
  have:=h.lt
  rw [List.drop_drop,List.drop_drop,show j - 1+1=j by omega] at h1
  exact h1
theorem CmpS.skip {l R:List Int} {k j:Nat} (h:CmpS l R k j) (hj:j < l.length) (e:l.getD (j - 1) 0=l.getD j 0):CmpS l R k (j+1) :=
  ⟨h.len,h.pos,by have:=h.lt; omega,hj,by rw [h.tk,compI_next (by have:=h.lt; omega) hj,if_pos e],by simpa using h.drop1⟩
theorem CmpS.keep {l R:List Int} {k j:Nat} (h:CmpS l R k j) (hj:j < l.length) (e:¬ l.getD (j - 1) 0=l.getD j 0):CmpS l (R.set k (l.getD j 0)) (k+1) (j+1):=by
  have hlt:=h.lt
  have hlen:=h.len
  refine ⟨by rw [List.length_set]; exact h.len,by omega,by omega,hj,?_,?_⟩
  · rw [List.take_add_one,List.getElem?_set_self (by omega),List.take_set_of_le (Nat.le_refl _),h.tk,compI_next (by omega) hj,if_neg e]; rfl
  · rw [Nat.add_sub_cancel,List.drop_set_of_lt (by omega)]; exact h.drop1
theorem CmpS.init {l:List Int} {k:Nat} (hk:0 < k) (hl:k < l.length) (h:compI (l.take k)=l.take k) (e:l.getD (k - 1) 0=l.getD k 0):CmpS l l k (k+1) :=
  ⟨rfl,hk,by omega,hl,by rw [compI_next hk hl,if_pos e,h],rfl⟩
theorem compact_does (σ:Sto) (f:Nat) (l:List Int) (hl:l.length < 9223372036854775808) (hf:σ.at f 0=some ⟨3,1,l.map (fun z=>[n z]),none⟩) :
    Does Tryz.prog 95 [.own f 0 l.length] σ (Left σ f (inS (compI l))):=by
  refine Does.of_body Tryz.call95 Tryz.func95 k95 (Nat.le_of_ble_eq_true rfl) ?_
  unfold c95
  by_cases h2:l.length < 2
  · have he:compI l=l:=by
      match l,h2 with
      | [],_=>rfl
      | [a],_=>rfl
    rw [he]
    refine AWPC.freeze1 (t:=0) (f:=f) (n:=l.length) (o:=⟨3,1,l.map (fun z=>[n z]),none⟩) rfl hf (by simp) (by simp) ?_
    (repeat' ((first
 | refine vn rfl ?_
 | simp (disch:=omega) only [wr64,Int.zero_sub]
 | refine bo (fun _=>?_) fun _=>?_
 | refine im fun _=>?_
 | refine cF ?_
 | refine om ?_
 | refine an ?_
 | fail) <;> try simp only [zN,zT,zV,zS,zU,vcC,lateX,ex,strp,binA,elems,cells,scalar,eqC,keyA,intsA,lookA,ofVs,mpOf,Nat.reduceBEq,reduceAdd,reduceSub,reduceLT,reduceLeDiff,reduceMul,reduceEqDiff,reduceIte]))
    all_goals try (exfalso; omega)
    exact .mk [] rfl (by simp)
  · (repeat' ((first
 | refine vn rfl ?_
 | simp (disch:=omega) only [wr64,Int.zero_sub]
 | refine bo (fun _=>?_) fun _=>?_
 | refine im fun _=>?_
 | refine cF ?_
 | refine om ?_
 | refine an ?_
 | fail) <;> try simp only [zN,zT,zV,zS,zU,vcC,lateX,ex,strp,binA,elems,cells,scalar,eqC,keyA,intsA,lookA,ofVs,mpOf,Nat.reduceBEq,reduceAdd,reduceSub,reduceLT,reduceLeDiff,reduceMul,reduceEqDiff,reduceIte,hf]))
    all_goals try (exfalso; omega)
    refine AWPC.loopS (α:={ k:Nat // 0 < k∧k≤l.length∧compI (l.take k)=l.take k }) [3] (fun k=>[(3,n k.1)]) (fun k=>l.length - k.1) ⟨1,by omega,by omega,by cases l with | nil=>rfl | cons a r=>rfl⟩ ?_ ?_
    · (simp only [zN,zT,zV,zS,zU,vcC,lateX,ex,strp,binA,elems,cells,scalar,eqC,keyA,intsA,lookA,ofVs,mpOf,Nat.reduceBEq,reduceAdd,reduceSub,reduceLT,reduceLeDiff,reduceMul,reduceEqDiff,reduceIte]; try simp)
    · rintro ⟨k,hk0,hkl,hc⟩
      simp only at hk0 hkl hc ⊢
      by_cases hlt:k < l.length
      · have hs1:(l.map fun z:Int=>[n z]).getD k []=[n (l.getD k 0)]:=row (f:=fun z:Int=>[n z]) 0 hlt
        have hs0:(l.map fun z:Int=>[n z]).getD ((k:Int) - 1).toNat []=[n (l.getD (k - 1) 0)]:=rowPrev (f:=fun z:Int=>[n z]) 0 hlt
        by_cases e:l.getD (k - 1) 0=l.getD k 0
        · have hI:=CmpS.init hk0 hlt hc e
          rw [e] at hs0
          (repeat' ((first
 | refine vn rfl ?_
 | simp (disch:=omega) only [wr64,Int.zero_sub]
 | refine bo (fun _=>?_) fun _=>?_
 | refine im fun _=>?_
 | refine cF ?_
 | refine om ?_
 | refine an ?_
 | fail) <;> try simp only [zN, zT, zV, zS, zU, vcC, lateX, ex, strp, binA, elems, cells, scalar, eqC, keyA, intsA, lookA, ofVs, mpOf, Nat.reduceBEq, reduceAdd, reduceSub, reduceLT, reduceLeDiff, reduceMul, reduceEqDiff, reduceIte, hf, hs1, hs0]))
          all_goals try (exfalso; omega)
          refine AWPC.loopE (α:={ x:Nat × Nat × List Int × Sto // 0 < x.2.1∧CmpS l x.2.2.1 x.1 (k+x.2.1) }) [3,5] (fun x=>[(3,n x.1.1),(5,n x.1.2.1)])
            (fun x=>σ.upd f 0 ⟨3,1,x.1.2.2.1.map (fun z=>[n z]),none⟩++x.1.2.2.2) (fun x=>l.length - k - x.1.2.1) ⟨(k,1,l,[]),Nat.one_pos,hI⟩ ?_ (by rw [upd_self hf,List.append_nil]) ?_
          · (simp only [zN,zT,zV,zS,zU,vcC,lateX,ex,strp,binA,elems,cells,scalar,eqC,keyA,intsA,lookA,ofVs,mpOf,Nat.reduceBEq,reduceAdd,reduceSub,reduceLT,reduceLeDiff,reduceMul,reduceEqDiff,reduceIte]; try simp)
          · rintro ⟨⟨i,j,R,μ⟩,hj0,hD⟩
            simp only at hj0 hD
            obtain ⟨U,hU⟩:∃ U,U=σ.upd f 0 ⟨3,1,R.map (fun z=>[n z]),none⟩:=⟨_,rfl⟩
            have hflt:=at_lt hf
            have hUl:List.length U=List.length σ:=by rw [hU,upd_length]
            have hA:∀ μ,Sto.at (U++μ) f 0=some ⟨3,1,R.map (fun z=>[n z]),none⟩:=fun μ=>by rw [at_appL (by omega),hU,at_upd_same hf]
            have hB:∀ o μ,Sto.upd (U++μ) f 0 o=σ.upd f 0 o++μ:=fun o μ=>by rw [upd_appL (by omega),hU,upd_upd hf]
            simp only [← hU]
            have hRl:=hD.len
            have hi1:=hD.lt
            by_cases hlt:k+j < l.length
            · have hr1:(R.map fun z:Int=>[n z]).getD (k+j) []=[n (R.getD (k+j) 0)]:=row (f:=fun z:Int=>[n z]) 0 (by omega)
              have hr0:(R.map fun z:Int=>[n z]).getD (k+((j:Int) - 1).toNat) []=[n (R.getD (k+j - 1) 0)]:=by
                rw [show k+((j:Int) - 1).toNat=k+j - 1 by omega]
                exact row (f:=fun z:Int=>[n z]) 0 (by omega)
              rw [hD.get _ (by omega)] at hr1 hr0
              have hw:IntKind.i64.wrap ((j:Int) - 1)=(j:Int) - 1:=by simp (disch:=omega) only [wr64,Int.zero_sub]
              have hsi:(R.map fun z:Int=>[n z]).getD i []=[n (R.getD i 0)]:=row (f:=fun z:Int=>[n z]) 0 (by omega)
              have hset:(R.map fun z:Int=>[n z]).set i [n (l.getD (k+j) 0)]=(R.set i (l.getD (k+j) 0)).map fun z:Int=>[n z]:=by rw [List.map_set]
              by_cases e:l.getD (k+j - 1) 0=l.getD (k+j) 0
              · have hN:=hD.skip hlt e
                rw [e] at hr0
                (repeat' ((first
 | refine vn rfl ?_
 | simp (disch:=omega) only [wr64,Int.zero_sub]
 | refine bo (fun _=>?_) fun _=>?_
 | refine im fun _=>?_
 | refine cF ?_
 | refine om ?_
 | refine an ?_
 | fail) <;> try simp only [zN, zT, zV, zS, zU, vcC, lateX, ex, strp, binA, elems, cells, scalar, eqC, keyA, intsA, lookA, ofVs, mpOf, Nat.reduceBEq, reduceAdd, reduceSub, reduceLT, reduceLeDiff, reduceMul, reduceEqDiff, reduceIte, hA, hB, hw, hr1, hr0, hRl, at_app, at_app0, upd_app, upd_app0, List.length_map, List.append_assoc, List.cons_append, List.nil_append]))
                all_goals try (exfalso; omega)
                exact ⟨⟨(i,j+1,R,μ),by simp,hN⟩,by simp,by simp [hU],by simp only; omega⟩
              · have hN:=hD.keep hlt e
                have e':¬ l.getD (k+j) 0=l.getD (k+j - 1) 0:=fun h=>e h.symm
                (repeat' ((first
 | refine vn rfl ?_
 | simp (disch:=omega) only [wr64,Int.zero_sub]
 | refine bo (fun _=>?_) fun _=>?_
 | refine im fun _=>?_
 | refine cF ?_
 | refine om ?_
 | refine an ?_
 | fail) <;> try simp only [zN, zT, zV, zS, zU, vcC, lateX, ex, strp, binA, elems, cells, scalar, eqC, keyA, intsA, lookA, ofVs, mpOf, Nat.reduceBEq, reduceAdd, reduceSub, reduceLT, reduceLeDiff, reduceMul, reduceEqDiff, reduceIte, hA, hB, hw, hr1, hr0, hRl, hsi, hset, e', at_app, at_app0, upd_app, upd_app0, List.length_map, List.append_assoc, List.cons_append, List.nil_append]))
                all_goals try (exfalso; omega)
                exact ⟨⟨(i+1,j+1,R.set i (l.getD (k+j) 0),μ),by simp,hN⟩,by simp,by simp,by simp only; omega⟩
            · have hjl:k+j=l.length:=by have:=hD.le; omega
              have hnl:¬ ((j:Int) < (l.length:Int) - (k:Int)):=by omega
              ((first
 | refine vn rfl ?_
 | simp (disch:=omega) only [wr64,Int.zero_sub]
 | refine bo (fun _=>?_) fun _=>?_
 | refine im fun _=>?_
 | refine cF ?_
 | refine om ?_
 | refine an ?_
 | fail) <;> try simp only [zN, zT, zV, zS, zU, vcC, lateX, ex, strp, binA, elems, cells, scalar, eqC, keyA, intsA, lookA, ofVs, mpOf, Nat.reduceBEq, reduceAdd, reduceSub, reduceLT, reduceLeDiff, reduceMul, reduceEqDiff, reduceIte, hA, hRl, hnl, List.length_map])
              ((first
 | refine vn rfl ?_
 | simp (disch:=omega) only [wr64,Int.zero_sub]
 | refine bo (fun _=>?_) fun _=>?_
 | refine im fun _=>?_
 | refine cF ?_
 | refine om ?_
 | refine an ?_
 | fail) <;> try simp only [zN, zT, zV, zS, zU, vcC, lateX, ex, strp, binA, elems, cells, scalar, eqC, keyA, intsA, lookA, ofVs, mpOf, Nat.reduceBEq, reduceAdd, reduceSub, reduceLT, reduceLeDiff, reduceMul, reduceEqDiff, reduceIte, hA, hRl, hnl, List.length_map])
              ((first
 | refine vn rfl ?_
 | simp (disch:=omega) only [wr64,Int.zero_sub]
 | refine bo (fun _=>?_) fun _=>?_
 | refine im fun _=>?_
 | refine cF ?_
 | refine om ?_
 | refine an ?_
 | fail) <;> try simp only [zN, zT, zV, zS, zU, vcC, lateX, ex, strp, binA, elems, cells, scalar, eqC, keyA, intsA, lookA, ofVs, mpOf, Nat.reduceBEq, reduceAdd, reduceSub, reduceLT, reduceLeDiff, reduceMul, reduceEqDiff, reduceIte, hA, hRl, hnl, List.length_map])
              ((first
 | refine vn rfl ?_
 | simp (disch:=omega) only [wr64,Int.zero_sub]
 | refine bo (fun _=>?_) fun _=>?_
 | refine im fun _=>?_
 | refine cF ?_
 | refine om ?_
 | refine an ?_
 | fail) <;> try simp only [zN, zT, zV, zS, zU, vcC, lateX, ex, strp, binA, elems, cells, scalar, eqC, keyA, intsA, lookA, ofVs, mpOf, Nat.reduceBEq, reduceAdd, reduceSub, reduceLT, reduceLeDiff, reduceMul, reduceEqDiff, reduceIte, hA, hRl, hnl, List.length_map])
              ((first
 | refine vn rfl ?_
 | simp (disch:=omega) only [wr64,Int.zero_sub]
 | refine bo (fun _=>?_) fun _=>?_
 | refine im fun _=>?_
 | refine cF ?_
 | refine om ?_
 | refine an ?_
 | fail) <;> try simp only [zN, zT, zV, zS, zU, vcC, lateX, ex, strp, binA, elems, cells, scalar, eqC, keyA, intsA, lookA, ofVs, mpOf, Nat.reduceBEq, reduceAdd, reduceSub, reduceLT, reduceLeDiff, reduceMul, reduceEqDiff, reduceIte, hA, hB, hRl, List.length_map])
              have hm1:(List.take i (R.map fun z:Int=>[n z])).length=i:=by rw [List.length_take,List.length_map]; omega
              have hfin:R.take i=compI l:=by rw [hD.tk,hjl,List.take_length]
              refine AWPC.freeze1 (t:=0) (f:=f) (n:=l.length) (o:=⟨3,1,List.take i (R.map fun z=>[n z])++List.replicate (l.length - i) [n 0],none⟩) rfl (by rw [at_appL (by rw [upd_length]; omega),at_upd_same hf])
                (by simp only [List.length_append,hm1,List.length_replicate]; omega) (by simp) ?_
              have hlen2:((List.take i (R.map fun z:Int=>[n z])++List.replicate (l.length - i) [n 0]).length:Int)=l.length:=by simp only [List.length_append,hm1,List.length_replicate]; omega
              have htk2:List.take i (List.take i (R.map fun z:Int=>[n z])++List.replicate (l.length - i) [n 0])=(compI l).map fun z:Int=>[n z]:=by
                rw [List.take_append_of_le_length (by omega),List.take_take,Nat.min_self,← List.map_take,hfin]
              generalize List.take i (R.map fun z:Int=>[n z])++List.replicate (l.length - i) [n 0]=es at hlen2 htk2
              (repeat' ((first
 | refine vn rfl ?_
 | simp (disch:=omega) only [wr64,Int.zero_sub]
 | refine bo (fun _=>?_) fun _=>?_
 | refine im fun _=>?_
 | refine cF ?_
 | refine om ?_
 | refine an ?_
 | fail) <;> try simp only [zN, zT, zV, zS, zU, vcC, lateX, ex, strp, binA, elems, cells, scalar, eqC, keyA, intsA, lookA, ofVs, mpOf, Nat.reduceBEq, reduceAdd, reduceSub, reduceLT, reduceLeDiff, reduceMul, reduceEqDiff, reduceIte, hlen2, htk2]))
              refine ⟨by simp [sideL,ov,gt,cnd],⟨by omega,by omega,by omega⟩,?_⟩
              (repeat' ((first
 | refine vn rfl ?_
 | simp (disch:=omega) only [wr64,Int.zero_sub]
 | refine bo (fun _=>?_) fun _=>?_
 | refine im fun _=>?_
 | refine cF ?_
 | refine om ?_
 | refine an ?_
 | fail) <;> try simp only [zN, zT, zV, zS, zU, vcC, lateX, ex, strp, binA, elems, cells, scalar, eqC, keyA, intsA, lookA, ofVs, mpOf, Nat.reduceBEq, reduceAdd, reduceSub, reduceLT, reduceLeDiff, reduceMul, reduceEqDiff, reduceIte]))
              exact .mk μ rfl (gone_upd hf)
        · have e':¬ l.getD k 0=l.getD (k - 1) 0:=fun h=>e h.symm
          have hN:compI (l.take (k+1))=l.take (k+1):=by rw [compI_next hk0 hlt,if_neg e,hc,List.take_add_one,getD_lt 0 hlt]; rfl
          (repeat' ((first
 | refine vn rfl ?_
 | simp (disch:=omega) only [wr64,Int.zero_sub]
 | refine bo (fun _=>?_) fun _=>?_
 | refine im fun _=>?_
 | refine cF ?_
 | refine om ?_
 | refine an ?_
 | fail) <;> try simp only [zN, zT, zV, zS, zU, vcC, lateX, ex, strp, binA, elems, cells, scalar, eqC, keyA, intsA, lookA, ofVs, mpOf, Nat.reduceBEq, reduceAdd, reduceSub, reduceLT, reduceLeDiff, reduceMul, reduceEqDiff, reduceIte, hf, hs1, hs0, e']))
          all_goals try (exfalso; omega)
          exact ⟨⟨k+1,by omega,hlt,hN⟩,by simp,by simp only; omega⟩
      · obtain rfl:k=l.length:=by omega
        rw [List.take_length] at hc
        rw [hc]
        refine AWPC.freeze1 (t:=0) (f:=f) (n:=l.length) (o:=⟨3,1,l.map (fun z=>[n z]),none⟩) rfl hf (by simp) (by simp) ?_
        (repeat' ((first
 | refine vn rfl ?_
 | simp (disch:=omega) only [wr64,Int.zero_sub]
 | refine bo (fun _=>?_) fun _=>?_
 | refine im fun _=>?_
 | refine cF ?_
 | refine om ?_
 | refine an ?_
 | fail) <;> try simp only [zN, zT, zV, zS, zU, vcC, lateX, ex, strp, binA, elems, cells, scalar, eqC, keyA, intsA, lookA, ofVs, mpOf, Nat.reduceBEq, reduceAdd, reduceSub, reduceLT, reduceLeDiff, reduceMul, reduceEqDiff, reduceIte]))
        all_goals try (exfalso; omega)
        exact .mk [] rfl (by simp)
theorem sortI_does (σ:Sto) (f:Nat) (l:List Int) (hf:σ.at f 0=some ⟨3,1,l.map (fun z=>[n z]),none⟩) (hl:l.length < 4611686018427387904) :
    Does Tryz.prog 94 [.own f 0 l.length] σ (fun _ σ'=>σ'=σ.upd f 0 ⟨3,1,(srtI l).map (fun z=>[n z]),none⟩) :=
  sort_ints Tryz.slices_Sort_int Tryz.slices_Sort_int_none Tryz.call94 σ f 3 l hf hl
theorem mapsnoc {α:Type} {g:α→Int} {l:List α} {i:Nat} (d:α) (h:i < l.length):(l.take (i+1)).map g=(l.take i).map g++[g (l.getD i d)]:=by rw [List.take_add_one,getD_lt d h]; simp
theorem Weeks_spec (r:Rgr) (hs:r.sheets.length < 1099511627776) (hr:r.reads.length < 1099511627776):Pure Tryz.prog 36 [.agg r.cs] (.tup [inS (weeksT r),n 0]):=by
  refine Pure.of_body Tryz.call36 Tryz.func36 k36 (Nat.le_of_ble_eq_true rfl) ?_
  unfold c36
  obtain ⟨d,hd⟩:∃ d:Fld,True:=⟨⟨nm0,0,0,sht0,[],[]⟩,trivial⟩
  (repeat' ((first
 | refine vn rfl ?_
 | simp (disch:=omega) only [wr64,Int.zero_sub]
 | refine bo (fun _=>?_) fun _=>?_
 | refine im fun _=>?_
 | refine cF ?_
 | refine om ?_
 | refine an ?_
 | fail) <;> try simp only [zN,zT,zV,zS,zU,vcC,lateX,ex,strp,binA,elems,cells,scalar,eqC,keyA,intsA,lookA,ofVs,mpOf,Nat.reduceBEq,reduceAdd,reduceSub,reduceLT,reduceLeDiff,reduceMul,reduceEqDiff,reduceIte]))
  refine AWPC.own0 3 1 4 rfl ?_
  refine AWPC.loopE (α:={ x:Nat × List Int × Sto // x.1≤r.sheets.length∧x.2.1=(r.sheets.take x.1).map Fld.week }) [4,12] (fun x=>[(4,.own 0 0 x.1.2.1.length),(12,n x.1.1)])
    (fun x=>some [⟨3,1,x.1.2.1.map (fun z=>[n z]),none⟩]::x.1.2.2) (fun x=>r.sheets.length - x.1.1) ⟨(0,[],[]),Nat.zero_le _,rfl⟩ ?_ rfl ?_
  · (simp only [zN,zT,zV,zS,zU,vcC,lateX,ex,strp,binA,elems,cells,scalar,eqC,keyA,intsA,lookA,ofVs,mpOf,Nat.reduceBEq,reduceAdd,reduceSub,reduceLT,reduceLeDiff,reduceMul,reduceEqDiff,reduceIte]; try simp)
  · rintro ⟨⟨i,W,ν⟩,hi,hW⟩
    simp only at hi hW
    have hWl:W.length=i:=by rw [hW,List.length_map,List.length_take]; omega
    generalize hM:W.map (fun z=>[n z])=M
    have hMl:M.length=i:=by rw [← hM,List.length_map]; exact hWl
    simp only [hM]
    by_cases hlt:i < r.sheets.length
    · have hx:(r.sheets.map Fld.cs).getD i []=Fld.cs (r.sheets.getD i d):=row d hlt
      have hN:=mapsnoc (g:=Fld.week) d hlt
      rw [← hW] at hN
      generalize r.sheets.getD i d=x at hx hN
      (repeat' ((first
 | refine vn rfl ?_
 | simp (disch:=omega) only [wr64,Int.zero_sub]
 | refine bo (fun _=>?_) fun _=>?_
 | refine im fun _=>?_
 | refine cF ?_
 | refine om ?_
 | refine an ?_
 | fail) <;> try simp only [zN,zT,zV,zS,zU,vcC,lateX,ex,strp,binA,elems,cells,scalar,eqC,keyA,intsA,lookA,ofVs,mpOf,Nat.reduceBEq,reduceAdd,reduceSub,reduceLT,reduceLeDiff,reduceMul,reduceEqDiff,reduceIte,hx,hMl,hWl]))
      all_goals try (exfalso; omega)
      refine ⟨⟨(i+1,W++[x.week],ν++[some [⟨72,24,[x.cs],none⟩]]),hlt,hN.symm⟩,?_,?_,by simp only; omega⟩
      · simp [hWl]
      · simp [← hM]
    · obtain rfl:i=r.sheets.length:=by omega
      rw [List.take_length] at hW
      (repeat' ((first
 | refine vn rfl ?_
 | simp (disch:=omega) only [wr64,Int.zero_sub]
 | refine bo (fun _=>?_) fun _=>?_
 | refine im fun _=>?_
 | refine cF ?_
 | refine om ?_
 | refine an ?_
 | fail) <;> try simp only [zN,zT,zV,zS,zU,vcC,lateX,ex,strp,binA,elems,cells,scalar,eqC,keyA,intsA,lookA,ofVs,mpOf,Nat.reduceBEq,reduceAdd,reduceSub,reduceLT,reduceLeDiff,reduceMul,reduceEqDiff,reduceIte,hWl]))
      all_goals try (exfalso; omega)
      refine AWPC.loopE (α:={ x:Nat × List Int × Sto // x.1≤r.reads.length∧x.2.1=r.sheets.map Fld.week++(r.reads.take x.1).map Rd.week }) [4,25] (fun x=>[(4,.own 0 0 x.1.2.1.length),(25,n x.1.1)])
        (fun x=>some [⟨3,1,x.1.2.1.map (fun z=>[n z]),none⟩]::x.1.2.2) (fun x=>r.reads.length - x.1.1) ⟨(0,W,ν),Nat.zero_le _,by simp [hW]⟩ ?_ (by rw [← hM]) ?_
      · simp only [hWl]; (simp only [zN,zT,zV,zS,zU,vcC,lateX,ex,strp,binA,elems,cells,scalar,eqC,keyA,intsA,lookA,ofVs,mpOf,Nat.reduceBEq,reduceAdd,reduceSub,reduceLT,reduceLeDiff,reduceMul,reduceEqDiff,reduceIte]; try simp)
      · rintro ⟨⟨i,V,ν⟩,hi,hV⟩
        simp only at hi hV
        have hVl:V.length=r.sheets.length+i:=by rw [hV,List.length_append,List.length_map,List.length_map,List.length_take]; omega
        by_cases hlt:i < r.reads.length
        · generalize hM:V.map (fun z=>[n z])=M
          have hMl:M.length=r.sheets.length+i:=by rw [← hM,List.length_map]; exact hVl
          simp only [hM]
          have hx:(r.reads.map Rd.cs).getD i []=Rd.cs (r.reads.getD i rd0):=row rd0 hlt
          have hN:=mapsnoc (g:=Rd.week) rd0 hlt
          generalize r.reads.getD i rd0=x at hx hN
          (repeat' ((first
 | refine vn rfl ?_
 | simp (disch:=omega) only [wr64,Int.zero_sub]
 | refine bo (fun _=>?_) fun _=>?_
 | refine im fun _=>?_
 | refine cF ?_
 | refine om ?_
 | refine an ?_
 | fail) <;> try simp only [zN, zT, zV, zS, zU, vcC, lateX, ex, strp, binA, elems, cells, scalar, eqC, keyA, intsA, lookA, ofVs, mpOf, Nat.reduceBEq, reduceAdd, reduceSub, reduceLT, reduceLeDiff, reduceMul, reduceEqDiff, reduceIte, hx, hMl, hVl]))
          all_goals try (exfalso; omega)
          refine ⟨⟨(i+1,V++[x.week],ν++[some [⟨64,5,[x.cs],none⟩]]),hlt,by simp only; rw [hN,hV,List.append_assoc]⟩,?_,?_,by simp only; omega⟩
          · simp [hVl,Nat.add_assoc]
          · simp [← hM]
        · obtain rfl:i=r.reads.length:=by omega
          rw [List.take_length] at hV
          rw [show weeksT r=compI (srtI V) by rw [hV]; rfl]
          have hSl:(srtI V).length=V.length:=(srtI_perm V).length_eq
          (repeat' ((first
 | refine vn rfl ?_
 | simp (disch:=omega) only [wr64,Int.zero_sub]
 | refine bo (fun _=>?_) fun _=>?_
 | refine im fun _=>?_
 | refine cF ?_
 | refine om ?_
 | refine an ?_
 | fail) <;> try simp only [zN, zT, zV, zS, zU, vcC, lateX, ex, strp, binA, elems, cells, scalar, eqC, keyA, intsA, lookA, ofVs, mpOf, Nat.reduceBEq, reduceAdd, reduceSub, reduceLT, reduceLeDiff, reduceMul, reduceEqDiff, reduceIte]))
          all_goals try (exfalso; omega)
          refine .inr (.inl ⟨_,_,_,_,rfl,fun _=>⟨sortI_does _ 0 V rfl (by omega),?_⟩,fun h=>by cases h⟩)
          rintro r1 σ1 rfl
          refine owp_of_exs ?_
          simp only [zN,zT,zV,zS,zU,vcC,lateX,ex,strp,binA,elems,cells,scalar,eqC,keyA,intsA,lookA,ofVs,mpOf,Nat.reduceBEq,reduceAdd,reduceSub,reduceLT,reduceLeDiff,reduceMul,reduceEqDiff,reduceIte]
          (repeat' ((first
 | refine vn rfl ?_
 | simp (disch:=omega) only [wr64,Int.zero_sub]
 | refine bo (fun _=>?_) fun _=>?_
 | refine im fun _=>?_
 | refine cF ?_
 | refine om ?_
 | refine an ?_
 | fail) <;> try simp only [zN, zT, zV, zS, zU, vcC, lateX, ex, strp, binA, elems, cells, scalar, eqC, keyA, intsA, lookA, ofVs, mpOf, Nat.reduceBEq, reduceAdd, reduceSub, reduceLT, reduceLeDiff, reduceMul, reduceEqDiff, reduceIte]))
          refine .inr (.inl ⟨_,_,_,_,rfl,fun _=>⟨by rw [← hSl]; exact compact_does _ 0 (srtI V) (by omega) rfl,?_⟩,fun h=>by cases h⟩)
          rintro r1 σ1 ⟨ν1,rfl,rfl⟩
          refine owp_of_exs ?_
          simp only [zN,zT,zV,zS,zU,vcC,lateX,ex,strp,binA,elems,cells,scalar,eqC,keyA,intsA,lookA,ofVs,mpOf,Nat.reduceBEq,reduceAdd,reduceSub,reduceLT,reduceLeDiff,reduceMul,reduceEqDiff,reduceIte]
          (repeat' ((first
 | refine vn rfl ?_
 | simp (disch:=omega) only [wr64,Int.zero_sub]
 | refine bo (fun _=>?_) fun _=>?_
 | refine im fun _=>?_
 | refine cF ?_
 | refine om ?_
 | refine an ?_
 | fail) <;> try simp only [zN, zT, zV, zS, zU, vcC, lateX, ex, strp, binA, elems, cells, scalar, eqC, keyA, intsA, lookA, ofVs, mpOf, Nat.reduceBEq, reduceAdd, reduceSub, reduceLT, reduceLeDiff, reduceMul, reduceEqDiff, reduceIte]))
          exact Frz.tupL ⟨Frz.pure (by simp),Frz.pure (by simp),trivial⟩
def c213:CF:=⟨53,
 (.seq (.ops [
 ⟨some 10,.mv (.t 1),none⟩,
 ⟨some 11,.bin .add (.t 10) (.c (.int .i64 1)),none⟩,
 ⟨some 8,.mv (.t 11),none⟩] [0,1,2,3,8])
 (.block 0 (.loop (.seq (.seq (.ops [
 ⟨some 12,.mv (.t 8),none⟩,
 ⟨some 13,.mv (.t 2),none⟩,
 ⟨some 14,.bin .lss (.t 12) (.t 13),none⟩] [0,1,2,3,8,14])
 (.cond (.t 14) .skip
 (.exit 0)))
 (.seq (.block 1 (.seq (.ops [
 ⟨some 17,.mv (.t 8),none⟩,
 ⟨some 9,.mv (.t 17),none⟩] [0,1,2,3,8,9])
 (.block 2 (.loop (.seq (.seq (.draw [
 ⟨some 18,.mv (.t 9),none⟩,
 ⟨some 19,.mv (.t 1),none⟩,
 ⟨some 20,.bin .gtr (.t 18) (.t 19),none⟩,
 ⟨some 21,.mv (.t 20),none⟩,
 ⟨some 22,.mv (.t 3),some (21,true)⟩,
 ⟨some 23,.mv (.t 0),some (21,true)⟩,
 ⟨some 24,.mv (.t 9),some (21,true)⟩,
 ⟨some 25,.iaddr 24 (.t 23) (.t 24),some (21,true)⟩,
 ⟨some 26,.load (some 24) (.t 25),some (21,true)⟩,
 ⟨some 27,.mv (.t 0),some (21,true)⟩,
 ⟨some 28,.mv (.t 9),some (21,true)⟩,
 ⟨some 29,.bin .sub (.t 28) (.c (.int .i64 1)),some (21,true)⟩,
 ⟨some 30,.iaddr 24 (.t 27) (.t 29),some (21,true)⟩,
 ⟨some 31,.load (some 24) (.t 30),some (21,true)⟩] [
 ⟨some 32,.call (.t 22) [(.t 26),(.t 31)],some (21,true)⟩,
 ⟨some 33,.bin .lss (.t 32) (.c (.int .i64 0)),some (21,true)⟩,
 ⟨some 34,.pick (.t 21) (.t 33) (.c (.bool false)),none⟩] [0,1,2,3,8,9,34])
 (.cond (.t 34) .skip
 (.exit 2)))
 (.seq (.block 3 (.draww [0,1,2,3,4,5,6,7,8,9,10,11,12,13,14,15,16,17] [2,3,4] 1 [
 ⟨some 37,.mv (.t 0),none⟩,
 ⟨some 38,.mv (.t 9),none⟩,
 ⟨some 39,.mv (.t 0),none⟩,
 ⟨some 40,.mv (.t 9),none⟩,
 ⟨some 41,.bin .sub (.t 40) (.c (.int .i64 1)),none⟩,
 ⟨some 42,.mv (.t 0),none⟩,
 ⟨some 43,.mv (.t 9),none⟩,
 ⟨some 44,.bin .sub (.t 43) (.c (.int .i64 1)),none⟩,
 ⟨some 45,.iaddr 24 (.t 42) (.t 44),none⟩,
 ⟨some 46,.load (some 24) (.t 45),none⟩,
 ⟨some 47,.mv (.t 0),none⟩,
 ⟨some 48,.mv (.t 9),none⟩,
 ⟨some 49,.iaddr 24 (.t 47) (.t 48),none⟩,
 ⟨some 50,.load (some 24) (.t 49),none⟩,
 ⟨some 51,.iaddr 24 (.t 37) (.t 38),none⟩] [
 ⟨none,.store 24 (.t 51) (.t 46),none⟩,
 ⟨some 52,.iaddr 24 (.t 39) (.t 41),none⟩,
 ⟨none,.store 24 (.t 52) (.t 50),none⟩] [0,1,2,3,8,9]))
 (.ops [
 ⟨some 35,.mv (.t 9),none⟩,
 ⟨some 36,.bin .sub (.t 35) (.c (.int .i64 1)),none⟩,
 ⟨some 9,.mv (.t 36),none⟩] [0,1,2,3,8,9])))))))
 (.ops [
 ⟨some 15,.mv (.t 8),none⟩,
 ⟨some 16,.bin .add (.t 15) (.c (.int .i64 1)),none⟩,
 ⟨some 8,.mv (.t 16),none⟩] [0,1,2,3,8])))))),
 []⟩
theorem k213:chkF Tryz.prog Tryz.f213 c213=true:=by kernel_rfl
def c167:CF:=⟨63,
 (.seq (.ops [
 ⟨some 6,.mv (.c (.int .i64 20)),none⟩] [0,1,2,6])
 (.seq (.ops [
 ⟨some 10,.mv (.t 6),none⟩,
 ⟨some 7,.mv (.c (.int .i64 0)),none⟩,
 ⟨some 8,.mv (.t 10),none⟩] [0,1,2,6,7,8])
 (.seq (.block 0 (.loop (.seq (.seq (.ops [
 ⟨some 11,.mv (.t 8),none⟩,
 ⟨some 12,.mv (.t 1),none⟩,
 ⟨some 13,.bin .leq (.t 11) (.t 12),none⟩] [0,1,2,6,7,8,13])
 (.cond (.t 13) .skip
 (.exit 0)))
 (.block 1 (.seq (.ops [
 ⟨some 14,.mv (.t 0),none⟩,
 ⟨some 15,.mv (.t 7),none⟩,
 ⟨some 16,.mv (.t 8),none⟩,
 ⟨some 17,.mv (.t 2),none⟩,
 ⟨some 18,.call (.f 213) [(.t 14),(.t 15),(.t 16),(.t 17)],none⟩] [0,1,2,6,8])
 (.seq (.ops [
 ⟨some 19,.mv (.t 8),none⟩,
 ⟨some 7,.mv (.t 19),none⟩] [0,1,2,6,7,8])
 (.ops [
 ⟨some 20,.mv (.t 8),none⟩,
 ⟨some 21,.mv (.t 6),none⟩,
 ⟨some 22,.bin .add (.t 20) (.t 21),none⟩,
 ⟨some 8,.mv (.t 22),none⟩] [0,1,2,6,7,8])))))))
 (.seq (.ops [
 ⟨some 23,.mv (.t 0),none⟩,
 ⟨some 24,.mv (.t 7),none⟩,
 ⟨some 25,.mv (.t 1),none⟩,
 ⟨some 26,.mv (.t 2),none⟩,
 ⟨some 27,.call (.f 213) [(.t 23),(.t 24),(.t 25),(.t 26)],none⟩] [0,1,2,6])
 (.block 2 (.loop (.seq (.seq (.ops [
 ⟨some 28,.mv (.t 6),none⟩,
 ⟨some 29,.mv (.t 1),none⟩,
 ⟨some 30,.bin .lss (.t 28) (.t 29),none⟩] [0,1,2,6,30])
 (.cond (.t 30) .skip
 (.exit 2)))
 (.block 3 (.seq (.ops [
 ⟨some 31,.mv (.t 6),none⟩,
 ⟨some 32,.bin .mul (.c (.int .i64 2)) (.t 31),none⟩,
 ⟨some 7,.mv (.c (.int .i64 0)),none⟩,
 ⟨some 8,.mv (.t 32),none⟩] [0,1,2,6,7,8])
 (.seq (.block 4 (.loop (.seq (.seq (.ops [
 ⟨some 33,.mv (.t 8),none⟩,
 ⟨some 34,.mv (.t 1),none⟩,
 ⟨some 35,.bin .leq (.t 33) (.t 34),none⟩] [0,1,2,6,7,8,35])
 (.cond (.t 35) .skip
 (.exit 4)))
 (.block 5 (.seq (.ops [
 ⟨some 36,.mv (.t 0),none⟩,
 ⟨some 37,.mv (.t 7),none⟩,
 ⟨some 38,.mv (.t 7),none⟩,
 ⟨some 39,.mv (.t 6),none⟩,
 ⟨some 40,.bin .add (.t 38) (.t 39),none⟩,
 ⟨some 41,.mv (.t 8),none⟩,
 ⟨some 42,.mv (.t 2),none⟩,
 ⟨some 43,.call (.f 214) [(.t 36),(.t 37),(.t 40),(.t 41),(.t 42)],none⟩] [0,1,2,6,8])
 (.seq (.ops [
 ⟨some 44,.mv (.t 8),none⟩,
 ⟨some 7,.mv (.t 44),none⟩] [0,1,2,6,7,8])
 (.ops [
 ⟨some 45,.mv (.t 8),none⟩,
 ⟨some 46,.mv (.t 6),none⟩,
 ⟨some 47,.bin .mul (.c (.int .i64 2)) (.t 46),none⟩,
 ⟨some 48,.bin .add (.t 45) (.t 47),none⟩,
 ⟨some 8,.mv (.t 48),none⟩] [0,1,2,6,7,8])))))))
 (.seq (.seq (.ops [
 ⟨some 49,.mv (.t 7),none⟩,
 ⟨some 50,.mv (.t 6),none⟩,
 ⟨some 51,.bin .add (.t 49) (.t 50),none⟩,
 ⟨some 9,.mv (.t 51),none⟩] [0,1,2,6,7,9])
 (.seq (.ops [
 ⟨some 52,.mv (.t 9),none⟩,
 ⟨some 53,.mv (.t 1),none⟩,
 ⟨some 54,.bin .lss (.t 52) (.t 53),none⟩] [0,1,2,6,7,9,54])
 (.cond (.t 54) (.ops [
 ⟨some 55,.mv (.t 0),none⟩,
 ⟨some 56,.mv (.t 7),none⟩,
 ⟨some 57,.mv (.t 9),none⟩,
 ⟨some 58,.mv (.t 1),none⟩,
 ⟨some 59,.mv (.t 2),none⟩,
 ⟨some 60,.call (.f 214) [(.t 55),(.t 56),(.t 57),(.t 58),(.t 59)],none⟩] [0,1,2,6])
 .skip)))
 (.ops [
 ⟨some 61,.mv (.t 6),none⟩,
 ⟨some 62,.bin .mul (.t 61) (.c (.int .i64 2)),none⟩,
 ⟨some 6,.mv (.t 62),none⟩] [0,1,2,6])))))))))))),
 []⟩
theorem k167:chkF Tryz.prog Tryz.f167 c167=true:=by kernel_rfl
def c99:CF:=⟨9,
 (.ops [
 ⟨some 4,.mv (.t 0),none⟩,
 ⟨some 5,.mv (.t 0),none⟩,
 ⟨some 6,.len (.t 5),none⟩,
 ⟨some 7,.mv (.t 1),none⟩,
 ⟨some 8,.call (.f 167) [(.t 4),(.t 6),(.t 7)],none⟩] []),
 []⟩
theorem k99:chkF Tryz.prog Tryz.f99 c99=true:=by kernel_rfl
def c37:CF:=⟨84,
 (.seq (.ops [
 ⟨some 3,.box false 26 6 (.t 0),none⟩,
 ⟨some 4,.box false 37 4 (.t 1),none⟩,
 ⟨some 6,.alloc 86 9 [.slice none 0 0,.int .i64 0,.int .i64 0,.int .i64 0,.int .i64 0,.int .i64 0,.int .i64 0,.slice none 0 0,.slice none 0 0],none⟩,
 ⟨some 7,.mv (.c (.int .i64 0)),none⟩] [2,3,4,6])
 (.seq (.seq (.ops [
 ⟨some 14,.load (some 6) (.t 3),none⟩,
 ⟨some 15,.call (.f 43) [(.t 14)],none⟩,
 ⟨some 8,.mv (.t 15),none⟩] [2,3,4,6,8])
 (.seq (.ops [
 ⟨some 16,.mv (.t 8),none⟩,
 ⟨some 17,.bin .neq (.t 16) (.c (.int .i64 0)),none⟩] [2,3,4,6,8,17])
 (.cond (.t 17) (.seq (.ops [
 ⟨some 18,.build [.slice none 0 0,.int .i64 0,.int .i64 0,.int .i64 0,.int .i64 0,.int .i64 0,.int .i64 0,.slice none 0 0,.slice none 0 0] [],none⟩,
 ⟨some 19,.mv (.t 8),none⟩,
 ⟨none,.store 9 (.t 6) (.t 18),none⟩,
 ⟨some 7,.mv (.t 19),none⟩] [6,7])
 .ret)
 .skip)))
 (.seq (.seq (.ops [
 ⟨some 20,.mv (.t 2),none⟩,
 ⟨some 21,.call (.f 96) [(.t 20),(.c (.int .i64 0)),(.c (.int .i64 10000))],none⟩,
 ⟨some 22,.un .not (.t 21),none⟩] [2,3,4,6,22])
 (.cond (.t 22) (.seq (.ops [
 ⟨some 23,.build [.slice none 0 0,.int .i64 0,.int .i64 0,.int .i64 0,.int .i64 0,.int .i64 0,.int .i64 0,.slice none 0 0,.slice none 0 0] [],none⟩,
 ⟨none,.store 9 (.t 6) (.t 23),none⟩,
 ⟨some 7,.mv (.c (.int .i64 1)),none⟩] [6,7])
 .ret)
 .skip))
 (.seq (.ops [
 ⟨some 24,.load (some 6) (.t 3),none⟩,
 ⟨some 25,.mv (.t 2),none⟩,
 ⟨some 26,.build [.slice none 0 0,.int .i64 0,.int .i64 0,.int .i64 0,.int .i64 0,.int .i64 0,.int .i64 0,.slice none 0 0,.slice none 0 0] [(0,6,(.t 24)),(6,1,(.t 25))],none⟩,
 ⟨some 9,.alloc 86 9 [.slice none 0 0,.int .i64 0,.int .i64 0,.int .i64 0,.int .i64 0,.int .i64 0,.int .i64 0,.slice none 0 0,.slice none 0 0],none⟩,
 ⟨none,.store 9 (.t 9) (.t 26),none⟩] [2,4,6,9])
 (.seq (.ops [
 ⟨some 27,.faddr 2 (.t 4),none⟩,
 ⟨some 28,.load none (.t 27),none⟩,
 ⟨some 29,.call (.f 97) [(.t 28)],none⟩,
 ⟨some 30,.faddr 0 (.t 9),none⟩,
 ⟨some 31,.faddr 0 (.t 30),none⟩,
 ⟨none,.store 1 (.t 31) (.t 29),none⟩] [2,4,6,9])
 (.seq (.seq (.ops [
 ⟨some 32,.faddr 0 (.t 4),none⟩,
 ⟨some 33,.load none (.t 32),none⟩,
 ⟨some 34,.len (.t 33),none⟩,
 ⟨some 35,.mv (.c (.int .i64 0)),none⟩] [2,4,6,9,33,34,35])
 (.block 0 (.loop (.seq (.ops [
 ⟨some 36,.bin .lss (.t 35) (.t 34),none⟩] [2,4,6,9,33,34,35,36])
 (.seq (.cond (.t 36) .skip
 (.exit 0))
 (.seq (.block 1 (.seq (.ops [
 ⟨some 37,.iaddr 24 (.t 33) (.t 35),none⟩,
 ⟨some 38,.load (some 24) (.t 37),none⟩,
 ⟨some 11,.alloc 72 24 z24,none⟩,
 ⟨none,.store 24 (.t 11) (.t 38),none⟩] [2,4,6,9,11,33,34,35])
 (.seq (.ops [
 ⟨some 39,.faddr 3 (.t 11),none⟩,
 ⟨some 40,.load none (.t 39),none⟩,
 ⟨some 41,.mv (.t 2),none⟩,
 ⟨some 42,.bin .eql (.t 40) (.t 41),none⟩] [2,4,6,9,11,33,34,35,42])
 (.cond (.t 42) (.draw [
 ⟨some 43,.faddr 7 (.t 9),none⟩,
 ⟨some 44,.load none (.t 43),none⟩,
 ⟨some 45,.load (some 24) (.t 11),none⟩,
 ⟨some 46,.call (.f 98) [(.t 45)],none⟩,
 ⟨some 47,.bsl false 72 24 1 z24 [(0,24,(.t 46))],none⟩] [
 ⟨some 48,.app 72 24 288 (.t 44) (.t 47),none⟩,
 ⟨some 49,.faddr 7 (.t 9),none⟩,
 ⟨none,.store 1 (.t 49) (.t 48),none⟩] [2,4,6,9,33,34,35])
 .skip))))
 (.ops [
 ⟨some 50,.bin .add (.t 35) (.c (.int .i64 1)),none⟩,
 ⟨some 35,.mv (.t 50),none⟩] [2,4,6,9,33,34,35])))))))
 (.seq (.ops [
 ⟨some 51,.faddr 7 (.t 9),none⟩,
 ⟨some 52,.load none (.t 51),none⟩,
 ⟨some 53,.call (.f 99) [(.t 52),(.f 100)],none⟩] [2,4,6,9])
 (.seq (.seq (.ops [
 ⟨some 54,.faddr 1 (.t 4),none⟩,
 ⟨some 55,.load none (.t 54),none⟩,
 ⟨some 56,.len (.t 55),none⟩,
 ⟨some 57,.mv (.c (.int .i64 0)),none⟩] [2,6,9,55,56,57])
 (.block 2 (.loop (.seq (.ops [
 ⟨some 58,.bin .lss (.t 57) (.t 56),none⟩] [2,6,9,55,56,57,58])
 (.seq (.cond (.t 58) .skip
 (.exit 2))
 (.seq (.block 3 (.seq (.ops [
 ⟨some 59,.iaddr 5 (.t 55) (.t 57),none⟩,
 ⟨some 60,.load (some 5) (.t 59),none⟩,
 ⟨some 13,.alloc 64 5 [.int .i64 0,.int .i64 0,.int .i64 0,.int .i64 0,.int .i64 0],none⟩,
 ⟨none,.store 5 (.t 13) (.t 60),none⟩] [2,6,9,13,55,56,57])
 (.seq (.ops [
 ⟨some 61,.faddr 1 (.t 13),none⟩,
 ⟨some 62,.load none (.t 61),none⟩,
 ⟨some 63,.mv (.t 2),none⟩,
 ⟨some 64,.bin .eql (.t 62) (.t 63),none⟩] [2,6,9,13,55,56,57,64])
 (.cond (.t 64) (.ops [
 ⟨some 65,.faddr 8 (.t 9),none⟩,
 ⟨some 66,.load none (.t 65),none⟩,
 ⟨some 67,.load (some 5) (.t 13),none⟩,
 ⟨some 68,.bsl false 64 5 1 [.int .i64 0,.int .i64 0,.int .i64 0,.int .i64 0,.int .i64 0] [(0,5,(.t 67))],none⟩,
 ⟨some 69,.app 64 5 40 (.t 66) (.t 68),none⟩,
 ⟨some 70,.faddr 8 (.t 9),none⟩,
 ⟨none,.store 1 (.t 70) (.t 69),none⟩] [2,6,9,55,56,57])
 .skip))))
 (.ops [
 ⟨some 71,.bin .add (.t 57) (.c (.int .i64 1)),none⟩,
 ⟨some 57,.mv (.t 71),none⟩] [2,6,9,55,56,57])))))))
 (.seq (.seq (.ops [
 ⟨some 72,.faddr 7 (.t 9),none⟩,
 ⟨some 73,.load none (.t 72),none⟩,
 ⟨some 74,.len (.t 73),none⟩,
 ⟨some 75,.bin .gtr (.t 74) (.c (.int .i64 64)),none⟩,
 ⟨some 76,.mv (.t 75),none⟩,
 ⟨some 77,.faddr 8 (.t 9),some (76,false)⟩,
 ⟨some 78,.load none (.t 77),some (76,false)⟩,
 ⟨some 79,.len (.t 78),some (76,false)⟩,
 ⟨some 80,.bin .gtr (.t 79) (.c (.int .i64 64)),some (76,false)⟩,
 ⟨some 81,.pick (.t 76) (.c (.bool true)) (.t 80),none⟩] [6,9,81])
 (.cond (.t 81) (.seq (.ops [
 ⟨some 82,.build [.slice none 0 0,.int .i64 0,.int .i64 0,.int .i64 0,.int .i64 0,.int .i64 0,.int .i64 0,.slice none 0 0,.slice none 0 0] [],none⟩,
 ⟨none,.store 9 (.t 6) (.t 82),none⟩,
 ⟨some 7,.mv (.c (.int .i64 2)),none⟩] [6,7])
 .ret)
 .skip))
 (.seq (.ops [
 ⟨some 83,.load (some 9) (.t 9),none⟩,
 ⟨none,.store 9 (.t 6) (.t 83),none⟩,
 ⟨some 7,.mv (.c (.int .i64 0)),none⟩] [6,7])
 .ret)))))))))),
 [.c 6 (some 9),.t 7]⟩
theorem k37:chkF Tryz.prog Tryz.f37 c37=true:=by kernel_rfl
def SortF (K:List Fld→Prop):Prop:=∀ (σ:Sto) (f:Nat) (l:List Fld),K l→σ.at f 0=some ⟨72,24,l.map Fld.cs,none⟩ →
  Does Tryz.prog 99 [.own f 0 l.length,.fn (.func 100) [] []] σ (fun _ σ'=>σ'=σ.upd f 0 ⟨72,24,(srtF l).map Fld.cs,none⟩)
theorem insertion0 (σ:Sto) (f:Nat) (m:Nat) (hm:m≤1):Does Tryz.prog 213 [.own f 0 m,n 0,n m,.fn (.func 100) [] []] σ (fun _ σ'=>σ'=σ):=by
  refine Does.of_body Tryz.call213 Tryz.func213 k213 (Nat.le_of_ble_eq_true rfl) ?_
  unfold c213
  (repeat' ((first
 | refine vn rfl ?_
 | simp (disch:=omega) only [wr64,Int.zero_sub]
 | refine bo (fun _=>?_) fun _=>?_
 | refine im fun _=>?_
 | refine cF ?_
 | refine om ?_
 | refine an ?_
 | fail) <;> try simp only [zN,zT,zV,zS,zU,vcC,lateX,ex,strp,binA,elems,cells,scalar,eqC,keyA,intsA,lookA,ofVs,mpOf,Nat.reduceBEq,reduceAdd,reduceSub,reduceLT,reduceLeDiff,reduceMul,reduceEqDiff,reduceIte]))
  refine AWPC.loopS (α:=Unit) [8] (fun _=>[(8,n 1)]) (fun _=>0) () ?_ ?_
  · (simp only [zN,zT,zV,zS,zU,vcC,lateX,ex,strp,binA,elems,cells,scalar,eqC,keyA,intsA,lookA,ofVs,mpOf,Nat.reduceBEq,reduceAdd,reduceSub,reduceLT,reduceLeDiff,reduceMul,reduceEqDiff,reduceIte]; try simp)
  · rintro ⟨⟩
    (repeat' ((first
 | refine vn rfl ?_
 | simp (disch:=omega) only [wr64,Int.zero_sub]
 | refine bo (fun _=>?_) fun _=>?_
 | refine im fun _=>?_
 | refine cF ?_
 | refine om ?_
 | refine an ?_
 | fail) <;> try simp only [zN,zT,zV,zS,zU,vcC,lateX,ex,strp,binA,elems,cells,scalar,eqC,keyA,intsA,lookA,ofVs,mpOf,Nat.reduceBEq,reduceAdd,reduceSub,reduceLT,reduceLeDiff,reduceMul,reduceEqDiff,reduceIte]))
    all_goals first | (exfalso; omega) | rfl
theorem stable0 (σ:Sto) (f:Nat) (m:Nat) (hm:m≤1):Does Tryz.prog 167 [.own f 0 m,n m,.fn (.func 100) [] []] σ (fun _ σ'=>σ'=σ):=by
  refine Does.of_body Tryz.call167 Tryz.func167 k167 (Nat.le_of_ble_eq_true rfl) ?_
  unfold c167
  have hm1:¬ (20≤(m:Int)):=by omega
  have hm2:¬ (20 < (m:Int)):=by omega
  (repeat' ((first
 | refine vn rfl ?_
 | simp (disch:=omega) only [wr64,Int.zero_sub]
 | refine bo (fun _=>?_) fun _=>?_
 | refine im fun _=>?_
 | refine cF ?_
 | refine om ?_
 | refine an ?_
 | fail) <;> try simp only [zN,zT,zV,zS,zU,vcC,lateX,ex,strp,binA,elems,cells,scalar,eqC,keyA,intsA,lookA,ofVs,mpOf,Nat.reduceBEq,reduceAdd,reduceSub,reduceLT,reduceLeDiff,reduceMul,reduceEqDiff,reduceIte]))
  refine AWPC.loopS (α:=Unit) [7,8] (fun _=>[(7,n 0),(8,n 20)]) (fun _=>0) () ?_ ?_
  · (simp only [zN,zT,zV,zS,zU,vcC,lateX,ex,strp,binA,elems,cells,scalar,eqC,keyA,intsA,lookA,ofVs,mpOf,Nat.reduceBEq,reduceAdd,reduceSub,reduceLT,reduceLeDiff,reduceMul,reduceEqDiff,reduceIte]; try simp)
  · rintro ⟨⟩
    (repeat' ((first
 | refine vn rfl ?_
 | simp (disch:=omega) only [wr64,Int.zero_sub]
 | refine bo (fun _=>?_) fun _=>?_
 | refine im fun _=>?_
 | refine cF ?_
 | refine om ?_
 | refine an ?_
 | fail) <;> try simp only [zN,zT,zV,zS,zU,vcC,lateX,ex,strp,binA,elems,cells,scalar,eqC,keyA,intsA,lookA,ofVs,mpOf,Nat.reduceBEq,reduceAdd,reduceSub,reduceLT,reduceLeDiff,reduceMul,reduceEqDiff,reduceIte,hm1]))
    all_goals try (exfalso; omega)
    refine .inr (.inl ⟨_,_,_,_,rfl,fun _=>⟨insertion0 σ f m hm,?_⟩,fun h=>by cases h⟩)
    rintro r σ' rfl
    refine owp_of_exs ?_
    simp only [zN,zT,zV,zS,zU,vcC,lateX,ex,strp,binA,elems,cells,scalar,eqC,keyA,intsA,lookA,ofVs,mpOf,Nat.reduceBEq,reduceAdd,reduceSub,reduceLT,reduceLeDiff,reduceMul,reduceEqDiff,reduceIte]
    (repeat' ((first
 | refine vn rfl ?_
 | simp (disch:=omega) only [wr64,Int.zero_sub]
 | refine bo (fun _=>?_) fun _=>?_
 | refine im fun _=>?_
 | refine cF ?_
 | refine om ?_
 | refine an ?_
 | fail) <;> try simp only [zN,zT,zV,zS,zU,vcC,lateX,ex,strp,binA,elems,cells,scalar,eqC,keyA,intsA,lookA,ofVs,mpOf,Nat.reduceBEq,reduceAdd,reduceSub,reduceLT,reduceLeDiff,reduceMul,reduceEqDiff,reduceIte]))
    refine AWPC.loopS (α:=Unit) [6] (fun _=>[(6,n 20)]) (fun _=>0) () ?_ ?_
    · (simp only [zN,zT,zV,zS,zU,vcC,lateX,ex,strp,binA,elems,cells,scalar,eqC,keyA,intsA,lookA,ofVs,mpOf,Nat.reduceBEq,reduceAdd,reduceSub,reduceLT,reduceLeDiff,reduceMul,reduceEqDiff,reduceIte]; try simp)
    · rintro ⟨⟩
      (repeat' ((first
 | refine vn rfl ?_
 | simp (disch:=omega) only [wr64,Int.zero_sub]
 | refine bo (fun _=>?_) fun _=>?_
 | refine im fun _=>?_
 | refine cF ?_
 | refine om ?_
 | refine an ?_
 | fail) <;> try simp only [zN,zT,zV,zS,zU,vcC,lateX,ex,strp,binA,elems,cells,scalar,eqC,keyA,intsA,lookA,ofVs,mpOf,Nat.reduceBEq,reduceAdd,reduceSub,reduceLT,reduceLeDiff,reduceMul,reduceEqDiff,reduceIte,hm2]))
      all_goals first | (exfalso; omega) | rfl
theorem srtF_few {l:List Fld} (h:l.length≤1):srtF l=l:=by
  cases l with
  | nil=>rfl
  | cons a r=>cases r with
    | nil=>rfl
    | cons x r=>simp only [List.length_cons] at h; omega
theorem sortF0:SortF fun l=>l.length≤1:=fun σ f l hl hf=>by
  refine Does.of_body Tryz.call99 Tryz.func99 k99 (Nat.le_of_ble_eq_true rfl) ?_
  unfold c99
  (repeat' ((first
 | refine vn rfl ?_
 | simp (disch:=omega) only [wr64,Int.zero_sub]
 | refine bo (fun _=>?_) fun _=>?_
 | refine im fun _=>?_
 | refine cF ?_
 | refine om ?_
 | refine an ?_
 | fail) <;> try simp only [zN,zT,zV,zS,zU,vcC,lateX,ex,strp,binA,elems,cells,scalar,eqC,keyA,intsA,lookA,ofVs,mpOf,Nat.reduceBEq,reduceAdd,reduceSub,reduceLT,reduceLeDiff,reduceMul,reduceEqDiff,reduceIte,hf,List.length_map]))
  refine .inr (.inl ⟨_,_,_,_,rfl,fun _=>⟨stable0 σ f _ hl,?_⟩,fun h=>by cases h⟩)
  rintro r σ' rfl
  refine owp_of_exs ?_
  simp only [zN,zT,zV,zS,zU,vcC,lateX,ex,strp,binA,elems,cells,scalar,eqC,keyA,intsA,lookA,ofVs,mpOf,Nat.reduceBEq,reduceAdd,reduceSub,reduceLT,reduceLeDiff,reduceMul,reduceEqDiff,reduceIte]
  rw [srtF_few hl]
  exact (upd_self hf).symm
theorem insF_perm (a:Fld):∀ l,(insF a l).Perm (a::l)
  | []=>.refl _
  | x::r=>by
    unfold insF
    split
    · exact .refl _
    · exact ((insF_perm a r).cons x).trans (.swap a x r)
theorem srtF_perm (l:List Fld):(srtF l).Perm l:=by
  have:∀ (l o:List Fld),(l.foldl (fun o a=>insF a o) o).Perm (l++o):=by
    intro l
    induction l with
    | nil=>exact fun o=>.refl _
    | cons a r ih=>exact fun o=>(ih _).trans (((insF_perm a o).append_left r).trans List.perm_middle)
  have:=this l []
  rwa [List.append_nil] at this
theorem WeekOf_of {K:List Fld→Prop} (hK:SortF K) (b:Bse) (hb:bseSz b) (r:Rgr) (w:Int) (hs:K (r.sheets.filter fun f=>f.week == w)) (hl:r.stns.length * 48≤140737488355328) (hh:∀ s∈r.stns,s.heights.length * 24≤140737488355328)
    (hfl:∀ f∈r.sheets,fldC f) (h1:r.sheets.length < 274877906944) (h2:r.reads.length < 1099511627776) :
    Pure Tryz.prog 37 [.agg b.cs,.agg r.cs,n w] (.tup [.agg (weekE b r w).1.cs,n (weekE b r w).2]):=by
  refine Pure.of_body Tryz.call37 Tryz.func37 k37 (Nat.le_of_ble_eq_true rfl) ?_
  unfold c37
  have hcb:=CheckBase_spec b hb
  by_cases hbok:b.ok
  · rw [if_pos hbok] at hcb
    by_cases hw:inr w 0 10000
    · simp only [inr] at hw
      ((first
 | refine vn rfl ?_
 | simp (disch:=omega) only [wr64,Int.zero_sub]
 | refine bo (fun _=>?_) fun _=>?_
 | refine im fun _=>?_
 | ((repeat refine si ?_); (first | ((first | refine .inl ⟨_,_,_,_,rfl,fun _=>pu (by first | exact hcb | exact within_a w 0 10000),?_⟩ | refine ⟨_,_,_,_,rfl,fun _=>pu (by first | exact hcb | exact within_a w 0 10000),?_⟩); (first | refine o1 ?_ | refine o2 ?_ | refine o3 ?_ | refine o4 ?_)) | refine .inl ⟨_,_,_,_,rfl,pu (by first | exact hcb | exact within_a w 0 10000),?_⟩))
 | refine cF ?_
 | refine om ?_
 | refine an ?_
 | fail) <;> try simp only [zN,zT,zV,zS,zU,vcC,lateX,ex,strp,binA,elems,cells,scalar,eqC,keyA,intsA,lookA,ofVs,mpOf,Nat.reduceBEq,reduceAdd,reduceSub,reduceLT,reduceLeDiff,reduceMul,reduceEqDiff,reduceIte])
      ((first
 | refine vn rfl ?_
 | simp (disch:=omega) only [wr64,Int.zero_sub]
 | refine bo (fun _=>?_) fun _=>?_
 | refine im fun _=>?_
 | ((repeat refine si ?_); (first | ((first | refine .inl ⟨_,_,_,_,rfl,fun _=>pu (by first | exact hcb | exact within_a w 0 10000),?_⟩ | refine ⟨_,_,_,_,rfl,fun _=>pu (by first | exact hcb | exact within_a w 0 10000),?_⟩); (first | refine o1 ?_ | refine o2 ?_ | refine o3 ?_ | refine o4 ?_)) | refine .inl ⟨_,_,_,_,rfl,pu (by first | exact hcb | exact within_a w 0 10000),?_⟩))
 | refine cF ?_
 | refine om ?_
 | refine an ?_
 | fail) <;> try simp only [zN,zT,zV,zS,zU,vcC,lateX,ex,strp,binA,elems,cells,scalar,eqC,keyA,intsA,lookA,ofVs,mpOf,Nat.reduceBEq,reduceAdd,reduceSub,reduceLT,reduceLeDiff,reduceMul,reduceEqDiff,reduceIte])
      ((first
 | refine vn rfl ?_
 | simp (disch:=omega) only [wr64,Int.zero_sub]
 | refine bo (fun _=>?_) fun _=>?_
 | refine im fun _=>?_
 | ((repeat refine si ?_); (first | ((first | refine .inl ⟨_,_,_,_,rfl,fun _=>pu (by first | exact hcb | exact within_a w 0 10000),?_⟩ | refine ⟨_,_,_,_,rfl,fun _=>pu (by first | exact hcb | exact within_a w 0 10000),?_⟩); (first | refine o1 ?_ | refine o2 ?_ | refine o3 ?_ | refine o4 ?_)) | refine .inl ⟨_,_,_,_,rfl,pu (by first | exact hcb | exact within_a w 0 10000),?_⟩))
 | refine cF ?_
 | refine om ?_
 | refine an ?_
 | fail) <;> try simp only [zN,zT,zV,zS,zU,vcC,lateX,ex,strp,binA,elems,cells,scalar,eqC,keyA,intsA,lookA,ofVs,mpOf,Nat.reduceBEq,reduceAdd,reduceSub,reduceLT,reduceLeDiff,reduceMul,reduceEqDiff,reduceIte])
      ((first
 | refine vn rfl ?_
 | simp (disch:=omega) only [wr64,Int.zero_sub]
 | refine bo (fun _=>?_) fun _=>?_
 | refine im fun _=>?_
 | ((repeat refine si ?_); (first | ((first | refine .inl ⟨_,_,_,_,rfl,fun _=>pu (by first | exact hcb | exact within_a w 0 10000),?_⟩ | refine ⟨_,_,_,_,rfl,fun _=>pu (by first | exact hcb | exact within_a w 0 10000),?_⟩); (first | refine o1 ?_ | refine o2 ?_ | refine o3 ?_ | refine o4 ?_)) | refine .inl ⟨_,_,_,_,rfl,pu (by first | exact hcb | exact within_a w 0 10000),?_⟩))
 | refine cF ?_
 | refine om ?_
 | refine an ?_
 | fail) <;> try simp only [zN,zT,zV,zS,zU,vcC,lateX,ex,strp,binA,elems,cells,scalar,eqC,keyA,intsA,lookA,ofVs,mpOf,Nat.reduceBEq,reduceAdd,reduceSub,reduceLT,reduceLeDiff,reduceMul,reduceEqDiff,reduceIte])
      ((first
 | refine vn rfl ?_
 | simp (disch:=omega) only [wr64,Int.zero_sub]
 | refine bo (fun _=>?_) fun _=>?_
 | refine im fun _=>?_
 | ((repeat refine si ?_); (first | ((first | refine .inl ⟨_,_,_,_,rfl,fun _=>pu (by first | exact hcb | exact within_a w 0 10000),?_⟩ | refine ⟨_,_,_,_,rfl,fun _=>pu (by first | exact hcb | exact within_a w 0 10000),?_⟩); (first | refine o1 ?_ | refine o2 ?_ | refine o3 ?_ | refine o4 ?_)) | refine .inl ⟨_,_,_,_,rfl,pu (by first | exact hcb | exact within_a w 0 10000),?_⟩))
 | refine cF ?_
 | refine om ?_
 | refine an ?_
 | fail) <;> try simp only [zN,zT,zV,zS,zU,vcC,lateX,ex,strp,binA,elems,cells,scalar,eqC,keyA,intsA,lookA,ofVs,mpOf,Nat.reduceBEq,reduceAdd,reduceSub,reduceLT,reduceLeDiff,reduceMul,reduceEqDiff,reduceIte])
      ((first
 | refine vn rfl ?_
 | simp (disch:=omega) only [wr64,Int.zero_sub]
 | refine bo (fun _=>?_) fun _=>?_
 | refine im fun _=>?_
 | ((repeat refine si ?_); (first | ((first | refine .inl ⟨_,_,_,_,rfl,fun _=>pu (by first | exact hcb | exact within_a w 0 10000),?_⟩ | refine ⟨_,_,_,_,rfl,fun _=>pu (by first | exact hcb | exact within_a w 0 10000),?_⟩); (first | refine o1 ?_ | refine o2 ?_ | refine o3 ?_ | refine o4 ?_)) | refine .inl ⟨_,_,_,_,rfl,pu (by first | exact hcb | exact within_a w 0 10000),?_⟩))
 | refine cF ?_
 | refine om ?_
 | refine an ?_
 | fail) <;> try simp only [zN,zT,zV,zS,zU,vcC,lateX,ex,strp,binA,elems,cells,scalar,eqC,keyA,intsA,lookA,ofVs,mpOf,Nat.reduceBEq,reduceAdd,reduceSub,reduceLT,reduceLeDiff,reduceMul,reduceEqDiff,reduceIte])
      ((first
 | refine vn rfl ?_
 | simp (disch:=omega) only [wr64,Int.zero_sub]
 | refine bo (fun _=>?_) fun _=>?_
 | refine im fun _=>?_
 | ((repeat refine si ?_); (first | ((first | refine .inl ⟨_,_,_,_,rfl,fun _=>pu (by first | exact hcb | exact within_a w 0 10000),?_⟩ | refine ⟨_,_,_,_,rfl,fun _=>pu (by first | exact hcb | exact within_a w 0 10000),?_⟩); (first | refine o1 ?_ | refine o2 ?_ | refine o3 ?_ | refine o4 ?_)) | refine .inl ⟨_,_,_,_,rfl,pu (by first | exact hcb | exact within_a w 0 10000),?_⟩))
 | refine cF ?_
 | refine om ?_
 | refine an ?_
 | fail) <;> try simp only [zN,zT,zV,zS,zU,vcC,lateX,ex,strp,binA,elems,cells,scalar,eqC,keyA,intsA,lookA,ofVs,mpOf,Nat.reduceBEq,reduceAdd,reduceSub,reduceLT,reduceLeDiff,reduceMul,reduceEqDiff,reduceIte])
      ((first
 | refine vn rfl ?_
 | simp (disch:=omega) only [wr64,Int.zero_sub]
 | refine bo (fun _=>?_) fun _=>?_
 | refine im fun _=>?_
 | ((repeat refine si ?_); (first | ((first | refine .inl ⟨_,_,_,_,rfl,fun _=>pu (by first | exact hcb | exact within_a w 0 10000),?_⟩ | refine ⟨_,_,_,_,rfl,fun _=>pu (by first | exact hcb | exact within_a w 0 10000),?_⟩); (first | refine o1 ?_ | refine o2 ?_ | refine o3 ?_ | refine o4 ?_)) | refine .inl ⟨_,_,_,_,rfl,pu (by first | exact hcb | exact within_a w 0 10000),?_⟩))
 | refine cF ?_
 | refine om ?_
 | refine an ?_
 | fail) <;> try simp only [zN,zT,zV,zS,zU,vcC,lateX,ex,strp,binA,elems,cells,scalar,eqC,keyA,intsA,lookA,ofVs,mpOf,Nat.reduceBEq,reduceAdd,reduceSub,reduceLT,reduceLeDiff,reduceMul,reduceEqDiff,reduceIte])
      ((first
 | refine vn rfl ?_
 | simp (disch:=omega) only [wr64,Int.zero_sub]
 | refine bo (fun _=>?_) fun _=>?_
 | refine im fun _=>?_
 | ((repeat refine si ?_); (first | ((first | refine .inl ⟨_,_,_,_,rfl,fun _=>pu (by first | exact hcb | exact within_a w 0 10000),?_⟩ | refine ⟨_,_,_,_,rfl,fun _=>pu (by first | exact hcb | exact within_a w 0 10000),?_⟩); (first | refine o1 ?_ | refine o2 ?_ | refine o3 ?_ | refine o4 ?_)) | refine .inl ⟨_,_,_,_,rfl,pu (by first | exact hcb | exact within_a w 0 10000),?_⟩))
 | refine cF ?_
 | refine om ?_
 | refine an ?_
 | fail) <;> try simp only [zN,zT,zV,zS,zU,vcC,lateX,ex,strp,binA,elems,cells,scalar,eqC,keyA,intsA,lookA,ofVs,mpOf,Nat.reduceBEq,reduceAdd,reduceSub,reduceLT,reduceLeDiff,reduceMul,reduceEqDiff,reduceIte])
      ((first
 | refine vn rfl ?_
 | simp (disch:=omega) only [wr64,Int.zero_sub]
 | refine bo (fun _=>?_) fun _=>?_
 | refine im fun _=>?_
 | ((repeat refine si ?_); (first | ((first | refine .inl ⟨_,_,_,_,rfl,fun _=>pu (by first | exact hcb | exact within_a w 0 10000),?_⟩ | refine ⟨_,_,_,_,rfl,fun _=>pu (by first | exact hcb | exact within_a w 0 10000),?_⟩); (first | refine o1 ?_ | refine o2 ?_ | refine o3 ?_ | refine o4 ?_)) | refine .inl ⟨_,_,_,_,rfl,pu (by first | exact hcb | exact within_a w 0 10000),?_⟩))
 | refine cF ?_
 | refine om ?_
 | refine an ?_
 | fail) <;> try simp only [zN,zT,zV,zS,zU,vcC,lateX,ex,strp,binA,elems,cells,scalar,eqC,keyA,intsA,lookA,ofVs,mpOf,Nat.reduceBEq,reduceAdd,reduceSub,reduceLT,reduceLeDiff,reduceMul,reduceEqDiff,reduceIte])
      all_goals try (exfalso; omega)
      ((first
 | refine vn rfl ?_
 | simp (disch:=omega) only [wr64,Int.zero_sub]
 | refine bo (fun _=>?_) fun _=>?_
 | refine im fun _=>?_
 | ((repeat refine si ?_); (first | ((first | refine .inl ⟨_,_,_,_,rfl,fun _=>pu (by first | exact hcb | exact within_a w 0 10000),?_⟩ | refine ⟨_,_,_,_,rfl,fun _=>pu (by first | exact hcb | exact within_a w 0 10000),?_⟩); (first | refine o1 ?_ | refine o2 ?_ | refine o3 ?_ | refine o4 ?_)) | refine .inl ⟨_,_,_,_,rfl,pu (by first | exact hcb | exact within_a w 0 10000),?_⟩))
 | refine cF ?_
 | refine om ?_
 | refine an ?_
 | fail) <;> try simp only [zN,zT,zV,zS,zU,vcC,lateX,ex,strp,binA,elems,cells,scalar,eqC,keyA,intsA,lookA,ofVs,mpOf,Nat.reduceBEq,reduceAdd,reduceSub,reduceLT,reduceLeDiff,reduceMul,reduceEqDiff,reduceIte])
      ((first
 | refine vn rfl ?_
 | simp (disch:=omega) only [wr64,Int.zero_sub]
 | refine bo (fun _=>?_) fun _=>?_
 | refine im fun _=>?_
 | ((repeat refine si ?_); (first | ((first | refine .inl ⟨_,_,_,_,rfl,fun _=>pu (by first | exact hcb | exact within_a w 0 10000),?_⟩ | refine ⟨_,_,_,_,rfl,fun _=>pu (by first | exact hcb | exact within_a w 0 10000),?_⟩); (first | refine o1 ?_ | refine o2 ?_ | refine o3 ?_ | refine o4 ?_)) | refine .inl ⟨_,_,_,_,rfl,pu (by first | exact hcb | exact within_a w 0 10000),?_⟩))
 | refine cF ?_
 | refine om ?_
 | refine an ?_
 | fail) <;> try simp only [zN,zT,zV,zS,zU,vcC,lateX,ex,strp,binA,elems,cells,scalar,eqC,keyA,intsA,lookA,ofVs,mpOf,Nat.reduceBEq,reduceAdd,reduceSub,reduceLT,reduceLeDiff,reduceMul,reduceEqDiff,reduceIte])
      refine AWPC.own0c 72 24 (f:=1) (i:=0) (e:=0) (j:=7) rfl (by simp) rfl ?_
      refine AWPC.own0c 64 5 (f:=1) (i:=0) (e:=0) (j:=8) rfl (by simp) rfl ?_
      refine AWPC.sto (σ':=[some [⟨86,9,[[.v (.slice none 0 0),n 0,n 0,n 0,n 0,n 0,n 0,.v (.slice none 0 0),.v (.slice none 0 0)]],none⟩],some [⟨86,9,[[snS b.stns,n b.fixed,n b.each,n b.term,n b.ticks,n b.clerks,n w,.own 2 0 0,.own 3 0 0]],none⟩],some [⟨72,24,[],none⟩],some [⟨64,5,[],none⟩]]) rfl ?_
      (repeat' ((first
 | refine vn rfl ?_
 | simp (disch:=omega) only [wr64,Int.zero_sub]
 | refine bo (fun _=>?_) fun _=>?_
 | refine im fun _=>?_
 | refine cF ?_
 | refine om ?_
 | refine an ?_
 | fail) <;> try simp only [zN,zT,zV,zS,zU,vcC,lateX,ex,strp,binA,elems,cells,scalar,eqC,keyA,intsA,lookA,ofVs,mpOf,Nat.reduceBEq,reduceAdd,reduceSub,reduceLT,reduceLeDiff,reduceMul,reduceEqDiff,reduceIte]))
      refine .inr (.inl ⟨_,_,_,_,rfl,fun _=>⟨copiedStations_does r.stns hl hh _,?_⟩,fun h=>by cases h⟩)
      rintro r1 σ1 ⟨ν,rfl,rfl⟩
      refine owp_of_exs ?_
      simp only [zN,zT,zV,zS,zU,vcC,lateX,ex,strp,binA,elems,cells,scalar,eqC,keyA,intsA,lookA,ofVs,mpOf,Nat.reduceBEq,reduceAdd,reduceSub,reduceLT,reduceLeDiff,reduceMul,reduceEqDiff,reduceIte,List.length_map]
      (repeat' ((first
 | refine vn rfl ?_
 | simp (disch:=omega) only [wr64,Int.zero_sub]
 | refine bo (fun _=>?_) fun _=>?_
 | refine im fun _=>?_
 | refine cF ?_
 | refine om ?_
 | refine an ?_
 | fail) <;> try simp only [zN,zT,zV,zS,zU,vcC,lateX,ex,strp,binA,elems,cells,scalar,eqC,keyA,intsA,lookA,ofVs,mpOf,Nat.reduceBEq,reduceAdd,reduceSub,reduceLT,reduceLeDiff,reduceMul,reduceEqDiff,reduceIte]))
      refine AWPC.loopE (α:={ x:Nat × List Fld × Sto // x.1≤r.sheets.length∧x.2.1=(r.sheets.take x.1).filter fun f=>f.week == w }) [35] (fun x=>[(35,n x.1.1)])
        (fun x=>some [⟨86,9,[[.v (.slice none 0 0),n 0,n 0,n 0,n 0,n 0,n 0,.v (.slice none 0 0),.v (.slice none 0 0)]],none⟩]::some [⟨86,9,[[.own 4 0 r.stns.length,n b.fixed,n b.each,n b.term,n b.ticks,n b.clerks,n w,.own 2 0 x.1.2.1.length,.own 3 0 0]],none⟩]::some [⟨72,24,x.1.2.1.map Fld.cs,none⟩]::some [⟨64,5,[],none⟩]::some [⟨109,4,r.stns.map Stn.cs,none⟩]::x.1.2.2)
        (fun x=>r.sheets.length - x.1.1) ⟨(0,[],ν),Nat.zero_le _,rfl⟩ ?_ rfl ?_
      · (simp only [zN,zT,zV,zS,zU,vcC,lateX,ex,strp,binA,elems,cells,scalar,eqC,keyA,intsA,lookA,ofVs,mpOf,Nat.reduceBEq,reduceAdd,reduceSub,reduceLT,reduceLeDiff,reduceMul,reduceEqDiff,reduceIte]; try simp)
      · rintro ⟨⟨i,S,μ⟩,hi,hS⟩
        simp only at hi hS
        obtain ⟨d,hd⟩:∃ d:Fld,True:=⟨⟨nm0,0,0,sht0,[],[]⟩,trivial⟩
        have hSl:S.length≤r.sheets.length:=by rw [hS]; exact Nat.le_trans (List.length_filter_le _ _) (by rw [List.length_take]; omega)
        by_cases hlt:i < r.sheets.length
        · generalize hM:S.map Fld.cs=M
          have hMl:M.length=S.length:=by rw [← hM,List.length_map]
          have hx:(r.sheets.map Fld.cs).getD i []=Fld.cs (r.sheets.getD i d):=row d hlt
          have hN:=filter_next (q:=fun f:Fld=>f.week == w) (getD_lt d hlt)
          rw [← hS] at hN
          have hcf:=copiedFiled_spec (r.sheets.getD i d) (hfl _ (List.mem_of_getElem? (getD_lt d hlt)))
          generalize r.sheets.getD i d=x at hx hN hcf
          by_cases hxw:x.week=w
          · rw [show (x.week == w)=true by simp [hxw],if_pos rfl] at hN
            (repeat' ((first
 | refine vn rfl ?_
 | simp (disch:=omega) only [wr64,Int.zero_sub]
 | refine bo (fun _=>?_) fun _=>?_
 | refine im fun _=>?_
 | ((repeat refine si ?_); (first | ((first | refine .inl ⟨_,_,_,_,rfl,fun _=>pu hcf,?_⟩ | refine ⟨_,_,_,_,rfl,fun _=>pu hcf,?_⟩); (first | refine o1 ?_ | refine o2 ?_ | refine o3 ?_ | refine o4 ?_)) | refine .inl ⟨_,_,_,_,rfl,pu hcf,?_⟩))
 | refine cF ?_
 | refine om ?_
 | refine an ?_
 | fail) <;> try simp only [zN, zT, zV, zS, zU, vcC, lateX, ex, strp, binA, elems, cells, scalar, eqC, keyA, intsA, lookA, ofVs, mpOf, Nat.reduceBEq, reduceAdd, reduceSub, reduceLT, reduceLeDiff, reduceMul, reduceEqDiff, reduceIte, hx, hMl, hxw]))
            all_goals try (exfalso; omega)
            refine ⟨⟨(i+1,S++[x],μ++[some [⟨72,24,[x.cs],none⟩]]),hlt,hN.symm⟩,by simp,?_,by simp only; omega⟩
            simp [← hM]
          · rw [show (x.week == w)=false by simp [hxw],if_neg (by decide)] at hN
            (repeat' ((first
 | refine vn rfl ?_
 | simp (disch:=omega) only [wr64,Int.zero_sub]
 | refine bo (fun _=>?_) fun _=>?_
 | refine im fun _=>?_
 | ((repeat refine si ?_); (first | ((first | refine .inl ⟨_,_,_,_,rfl,fun _=>pu hcf,?_⟩ | refine ⟨_,_,_,_,rfl,fun _=>pu hcf,?_⟩); (first | refine o1 ?_ | refine o2 ?_ | refine o3 ?_ | refine o4 ?_)) | refine .inl ⟨_,_,_,_,rfl,pu hcf,?_⟩))
 | refine cF ?_
 | refine om ?_
 | refine an ?_
 | fail) <;> try simp only [zN, zT, zV, zS, zU, vcC, lateX, ex, strp, binA, elems, cells, scalar, eqC, keyA, intsA, lookA, ofVs, mpOf, Nat.reduceBEq, reduceAdd, reduceSub, reduceLT, reduceLeDiff, reduceMul, reduceEqDiff, reduceIte, hx, hMl, hxw]))
            all_goals try (exfalso; omega)
            refine ⟨⟨(i+1,S,μ++[some [⟨72,24,[x.cs],none⟩]]),hlt,hN.symm⟩,by simp,?_,by simp only; omega⟩
            simp [← hM]
        · obtain rfl:i=r.sheets.length:=by omega
          rw [List.take_length] at hS
          (repeat' ((first
 | refine vn rfl ?_
 | simp (disch:=omega) only [wr64,Int.zero_sub]
 | refine bo (fun _=>?_) fun _=>?_
 | refine im fun _=>?_
 | refine cF ?_
 | refine om ?_
 | refine an ?_
 | fail) <;> try simp only [zN, zT, zV, zS, zU, vcC, lateX, ex, strp, binA, elems, cells, scalar, eqC, keyA, intsA, lookA, ofVs, mpOf, Nat.reduceBEq, reduceAdd, reduceSub, reduceLT, reduceLeDiff, reduceMul, reduceEqDiff, reduceIte]))
          all_goals try (exfalso; omega)
          refine .inr (.inl ⟨_,_,_,_,rfl,fun _=>⟨hK _ 2 S (by rw [hS]; exact hs) rfl,?_⟩,fun h=>by cases h⟩)
          rintro r1 σ1 rfl
          refine owp_of_exs ?_
          have hsp:(srtF S).length=S.length:=(srtF_perm S).length_eq
          simp only [zN,zT,zV,zS,zU,vcC,lateX,ex,strp,binA,elems,cells,scalar,eqC,keyA,intsA,lookA,ofVs,mpOf,Nat.reduceBEq,reduceAdd,reduceSub,reduceLT,reduceLeDiff,reduceMul,reduceEqDiff,reduceIte]
          generalize hT:srtF S=T at hsp
          rw [← hsp]
          rw [← hsp] at hSl
          (repeat' ((first
 | refine vn rfl ?_
 | simp (disch:=omega) only [wr64,Int.zero_sub]
 | refine bo (fun _=>?_) fun _=>?_
 | refine im fun _=>?_
 | refine cF ?_
 | refine om ?_
 | refine an ?_
 | fail) <;> try simp only [zN, zT, zV, zS, zU, vcC, lateX, ex, strp, binA, elems, cells, scalar, eqC, keyA, intsA, lookA, ofVs, mpOf, Nat.reduceBEq, reduceAdd, reduceSub, reduceLT, reduceLeDiff, reduceMul, reduceEqDiff, reduceIte]))
          refine AWPC.loopE (α:={ x:Nat × List Rd × Sto // x.1≤r.reads.length∧x.2.1=(r.reads.take x.1).filter fun f=>f.week == w }) [57] (fun x=>[(57,n x.1.1)])
            (fun x=>some [⟨86,9,[[.v (.slice none 0 0),n 0,n 0,n 0,n 0,n 0,n 0,.v (.slice none 0 0),.v (.slice none 0 0)]],none⟩]::some [⟨86,9,[[.own 4 0 r.stns.length,n b.fixed,n b.each,n b.term,n b.ticks,n b.clerks,n w,.own 2 0 T.length,.own 3 0 x.1.2.1.length]],none⟩]::some [⟨72,24,T.map Fld.cs,none⟩]::some [⟨64,5,x.1.2.1.map Rd.cs,none⟩]::some [⟨109,4,r.stns.map Stn.cs,none⟩]::x.1.2.2)
            (fun x=>r.reads.length - x.1.1) ⟨(0,[],μ),Nat.zero_le _,rfl⟩ ?_ rfl ?_
          · (simp only [zN,zT,zV,zS,zU,vcC,lateX,ex,strp,binA,elems,cells,scalar,eqC,keyA,intsA,lookA,ofVs,mpOf,Nat.reduceBEq,reduceAdd,reduceSub,reduceLT,reduceLeDiff,reduceMul,reduceEqDiff,reduceIte]; try simp)
          · rintro ⟨⟨i,R,μ⟩,hi,hR⟩
            simp only at hi hR
            have hRl:R.length≤r.reads.length:=by rw [hR]; exact Nat.le_trans (List.length_filter_le _ _) (by rw [List.length_take]; omega)
            by_cases hlt:i < r.reads.length
            · generalize hM:R.map Rd.cs=M
              have hMl:M.length=R.length:=by rw [← hM,List.length_map]
              have hx:(r.reads.map Rd.cs).getD i []=Rd.cs (r.reads.getD i rd0):=row rd0 hlt
              have hN:=filter_next (q:=fun f:Rd=>f.week == w) (getD_lt rd0 hlt)
              rw [← hR] at hN
              generalize r.reads.getD i rd0=x at hx hN
              by_cases hxw:x.week=w
              · rw [show (x.week == w)=true by simp [hxw],if_pos rfl] at hN
                (repeat' ((first
 | refine vn rfl ?_
 | simp (disch:=omega) only [wr64,Int.zero_sub]
 | refine bo (fun _=>?_) fun _=>?_
 | refine im fun _=>?_
 | refine cF ?_
 | refine om ?_
 | refine an ?_
 | fail) <;> try simp only [zN, zT, zV, zS, zU, vcC, lateX, ex, strp, binA, elems, cells, scalar, eqC, keyA, intsA, lookA, ofVs, mpOf, Nat.reduceBEq, reduceAdd, reduceSub, reduceLT, reduceLeDiff, reduceMul, reduceEqDiff, reduceIte, hx, hMl, hxw]))
                all_goals try (exfalso; omega)
                refine ⟨⟨(i+1,R++[x],μ++[some [⟨64,5,[x.cs],none⟩]]),hlt,hN.symm⟩,by simp,?_,by simp only; omega⟩
                simp [← hM,hxw]
              · rw [show (x.week == w)=false by simp [hxw],if_neg (by decide)] at hN
                (repeat' ((first
 | refine vn rfl ?_
 | simp (disch:=omega) only [wr64,Int.zero_sub]
 | refine bo (fun _=>?_) fun _=>?_
 | refine im fun _=>?_
 | refine cF ?_
 | refine om ?_
 | refine an ?_
 | fail) <;> try simp only [zN, zT, zV, zS, zU, vcC, lateX, ex, strp, binA, elems, cells, scalar, eqC, keyA, intsA, lookA, ofVs, mpOf, Nat.reduceBEq, reduceAdd, reduceSub, reduceLT, reduceLeDiff, reduceMul, reduceEqDiff, reduceIte, hx, hMl, hxw]))
                all_goals try (exfalso; omega)
                refine ⟨⟨(i+1,R,μ++[some [⟨64,5,[x.cs],none⟩]]),hlt,hN.symm⟩,by simp,?_,by simp only; omega⟩
                simp [← hM]
            · obtain rfl:i=r.reads.length:=by omega
              rw [List.take_length] at hR
              have hWT:weekT b r w=⟨{ b with stns:=r.stns },w,T,R⟩:=by unfold weekT; rw [hR,← hT,hS]
              by_cases h64:64 < T.length∨64 < R.length
              · have hE:weekE b r w=(wk0,2):=by unfold weekE; rw [if_neg (fun h=>h hbok),if_neg (fun h=>h hw),hWT]; exact if_pos h64
                rw [hE]
                (repeat' ((first
 | refine vn rfl ?_
 | simp (disch:=omega) only [wr64,Int.zero_sub]
 | refine bo (fun _=>?_) fun _=>?_
 | refine im fun _=>?_
 | refine cF ?_
 | refine om ?_
 | refine an ?_
 | fail) <;> try simp only [zN, zT, zV, zS, zU, vcC, lateX, ex, strp, binA, elems, cells, scalar, eqC, keyA, intsA, lookA, ofVs, mpOf, Nat.reduceBEq, reduceAdd, reduceSub, reduceLT, reduceLeDiff, reduceMul, reduceEqDiff, reduceIte]))
                all_goals try (exfalso; omega)
                all_goals exact Frz.tupL ⟨Frz.aggL ⟨Frz.nil0,Frz.pure (by simp),Frz.pure (by simp),Frz.pure (by simp),Frz.pure (by simp),Frz.pure (by simp),Frz.pure (by simp),Frz.nil0,Frz.nil0,trivial⟩,Frz.pure (by simp),trivial⟩
              · have hE:weekE b r w=(weekT b r w,0):=by unfold weekE; rw [if_neg (fun h=>h hbok),if_neg (fun h=>h hw),hWT]; exact if_neg h64
                rw [hE,hWT]
                (repeat' ((first
 | refine vn rfl ?_
 | simp (disch:=omega) only [wr64,Int.zero_sub]
 | refine bo (fun _=>?_) fun _=>?_
 | refine im fun _=>?_
 | refine cF ?_
 | refine om ?_
 | refine an ?_
 | fail) <;> try simp only [zN, zT, zV, zS, zU, vcC, lateX, ex, strp, binA, elems, cells, scalar, eqC, keyA, intsA, lookA, ofVs, mpOf, Nat.reduceBEq, reduceAdd, reduceSub, reduceLT, reduceLeDiff, reduceMul, reduceEqDiff, reduceIte]))
                all_goals try (exfalso; omega)
                all_goals exact Frz.tupL ⟨Frz.aggL ⟨Frz.ownL (T:=109) (cs:=Stn.cs) rfl rfl (by decide) sn_pc (fun a=>rfl),Frz.pure (by simp),Frz.pure (by simp),Frz.pure (by simp),Frz.pure (by simp),Frz.pure (by simp),Frz.pure (by simp),Frz.ownL (T:=72) (cs:=Fld.cs) rfl rfl (by decide) (fun a=>Fld.pc a) (fun a=>rfl),Frz.ownL (T:=64) (cs:=Rd.cs) rfl rfl (by decide) rd_pc (fun a=>rfl),trivial⟩,Frz.pure (by simp),trivial⟩
    · have hE:weekE b r w=(wk0,1):=by unfold weekE; rw [if_neg (fun h=>h hbok),if_pos hw]
      rw [hE]
      simp only [inr] at hw
      (repeat' ((first
 | refine vn rfl ?_
 | simp (disch:=omega) only [wr64,Int.zero_sub]
 | refine bo (fun _=>?_) fun _=>?_
 | refine im fun _=>?_
 | ((repeat refine si ?_); (first | ((first | refine .inl ⟨_,_,_,_,rfl,fun _=>pu (by first | exact hcb | exact within_a w 0 10000),?_⟩ | refine ⟨_,_,_,_,rfl,fun _=>pu (by first | exact hcb | exact within_a w 0 10000),?_⟩); (first | refine o1 ?_ | refine o2 ?_ | refine o3 ?_ | refine o4 ?_)) | refine .inl ⟨_,_,_,_,rfl,pu (by first | exact hcb | exact within_a w 0 10000),?_⟩))
 | refine cF ?_
 | refine om ?_
 | refine an ?_
 | fail) <;> try simp only [zN,zT,zV,zS,zU,vcC,lateX,ex,strp,binA,elems,cells,scalar,eqC,keyA,intsA,lookA,ofVs,mpOf,Nat.reduceBEq,reduceAdd,reduceSub,reduceLT,reduceLeDiff,reduceMul,reduceEqDiff,reduceIte]))
      all_goals try (exfalso; omega)
      all_goals exact Frz.tupL ⟨Frz.aggL ⟨Frz.nil0,Frz.pure (by simp),Frz.pure (by simp),Frz.pure (by simp),Frz.pure (by simp),Frz.pure (by simp),Frz.pure (by simp),Frz.nil0,Frz.nil0,trivial⟩,Frz.pure (by simp),trivial⟩
  · rw [if_neg hbok] at hcb
    have hE:weekE b r w=(wk0,100):=by unfold weekE; rw [if_pos hbok]
    rw [hE]
    (repeat' ((first
 | refine vn rfl ?_
 | simp (disch:=omega) only [wr64,Int.zero_sub]
 | refine bo (fun _=>?_) fun _=>?_
 | refine im fun _=>?_
 | ((repeat refine si ?_); (first | ((first | refine .inl ⟨_,_,_,_,rfl,fun _=>pu hcb,?_⟩ | refine ⟨_,_,_,_,rfl,fun _=>pu hcb,?_⟩); (first | refine o1 ?_ | refine o2 ?_ | refine o3 ?_ | refine o4 ?_)) | refine .inl ⟨_,_,_,_,rfl,pu hcb,?_⟩))
 | refine cF ?_
 | refine om ?_
 | refine an ?_
 | fail) <;> try simp only [zN,zT,zV,zS,zU,vcC,lateX,ex,strp,binA,elems,cells,scalar,eqC,keyA,intsA,lookA,ofVs,mpOf,Nat.reduceBEq,reduceAdd,reduceSub,reduceLT,reduceLeDiff,reduceMul,reduceEqDiff,reduceIte]))
    all_goals try (exfalso; omega)
    all_goals exact Frz.tupL ⟨Frz.aggL ⟨Frz.nil0,Frz.pure (by simp),Frz.pure (by simp),Frz.pure (by simp),Frz.pure (by simp),Frz.pure (by simp),Frz.pure (by simp),Frz.nil0,Frz.nil0,trivial⟩,Frz.pure (by simp),trivial⟩
def c28:CF:=⟨26,
 (.seq (.ops [
 ⟨some 4,.mv (.c (.bool false)),none⟩] [0,1])
 (.seq (.seq (.ops [
 ⟨some 6,.mv (.t 0),none⟩,
 ⟨some 7,.len (.t 6),none⟩,
 ⟨some 8,.mv (.t 1),none⟩,
 ⟨some 9,.len (.t 8),none⟩,
 ⟨some 10,.bin .neq (.t 7) (.t 9),none⟩] [0,1,10])
 (.cond (.t 10) (.seq (.ops [
 ⟨some 4,.mv (.c (.bool false)),none⟩] [4])
 .ret)
 .skip))
 (.seq (.seq (.ops [
 ⟨some 5,.mv (.c (.int .i64 0)),none⟩] [0,1,5])
 (.block 0 (.loop (.seq (.seq (.ops [
 ⟨some 11,.mv (.t 5),none⟩,
 ⟨some 12,.mv (.t 0),none⟩,
 ⟨some 13,.len (.t 12),none⟩,
 ⟨some 14,.bin .lss (.t 11) (.t 13),none⟩] [0,1,5,14])
 (.cond (.t 14) .skip
 (.exit 0)))
 (.seq (.block 1 (.seq (.draw [
 ⟨some 17,.mv (.t 0),none⟩,
 ⟨some 18,.mv (.t 5),none⟩,
 ⟨some 19,.iaddr 2 (.t 17) (.t 18),none⟩,
 ⟨some 20,.load (some 2) (.t 19),none⟩,
 ⟨some 21,.mv (.t 1),none⟩,
 ⟨some 22,.mv (.t 5),none⟩,
 ⟨some 23,.iaddr 2 (.t 21) (.t 22),none⟩,
 ⟨some 24,.load (some 2) (.t 23),none⟩,
 ⟨some 25,.eqs true [some .i64,some .i64] (.t 20) (.t 24),none⟩] [
 ] [0,1,5,25])
 (.cond (.t 25) (.seq (.ops [
 ⟨some 4,.mv (.c (.bool false)),none⟩] [4])
 .ret)
 .skip)))
 (.ops [
 ⟨some 15,.mv (.t 5),none⟩,
 ⟨some 16,.bin .add (.t 15) (.c (.int .i64 1)),none⟩,
 ⟨some 5,.mv (.t 16),none⟩] [0,1,5]))))))
 (.seq (.ops [
 ⟨some 4,.mv (.c (.bool true)),none⟩] [4])
 .ret)))),
 [.t 4]⟩
theorem k28:chkF Tryz.prog Tryz.f28 c28=true:=by kernel_rfl
def c68:CF:=⟨26,
 (.seq (.ops [
 ⟨some 4,.mv (.c (.bool false)),none⟩] [0,1])
 (.seq (.seq (.ops [
 ⟨some 6,.mv (.t 0),none⟩,
 ⟨some 7,.len (.t 6),none⟩,
 ⟨some 8,.mv (.t 1),none⟩,
 ⟨some 9,.len (.t 8),none⟩,
 ⟨some 10,.bin .neq (.t 7) (.t 9),none⟩] [0,1,10])
 (.cond (.t 10) (.seq (.ops [
 ⟨some 4,.mv (.c (.bool false)),none⟩] [4])
 .ret)
 .skip))
 (.seq (.seq (.ops [
 ⟨some 5,.mv (.c (.int .i64 0)),none⟩] [0,1,5])
 (.block 0 (.loop (.seq (.seq (.ops [
 ⟨some 11,.mv (.t 5),none⟩,
 ⟨some 12,.mv (.t 0),none⟩,
 ⟨some 13,.len (.t 12),none⟩,
 ⟨some 14,.bin .lss (.t 11) (.t 13),none⟩] [0,1,5,14])
 (.cond (.t 14) .skip
 (.exit 0)))
 (.seq (.block 1 (.seq (.draw [
 ⟨some 17,.mv (.t 0),none⟩,
 ⟨some 18,.mv (.t 5),none⟩,
 ⟨some 19,.iaddr 1 (.t 17) (.t 18),none⟩,
 ⟨some 20,.load none (.t 19),none⟩,
 ⟨some 21,.mv (.t 1),none⟩,
 ⟨some 22,.mv (.t 5),none⟩,
 ⟨some 23,.iaddr 1 (.t 21) (.t 22),none⟩,
 ⟨some 24,.load none (.t 23),none⟩,
 ⟨some 25,.bin .neq (.t 20) (.t 24),none⟩] [
 ] [0,1,5,25])
 (.cond (.t 25) (.seq (.ops [
 ⟨some 4,.mv (.c (.bool false)),none⟩] [4])
 .ret)
 .skip)))
 (.ops [
 ⟨some 15,.mv (.t 5),none⟩,
 ⟨some 16,.bin .add (.t 15) (.c (.int .i64 1)),none⟩,
 ⟨some 5,.mv (.t 16),none⟩] [0,1,5]))))))
 (.seq (.ops [
 ⟨some 4,.mv (.c (.bool true)),none⟩] [4])
 .ret)))),
 [.t 4]⟩
theorem k68:chkF Tryz.prog Tryz.f68 c68=true:=by kernel_rfl
def c77:CF:=⟨8,
 (.seq (.ops [
 ⟨some 0,.alloc 26 6 [.slice none 0 0,.int .i64 0,.int .i64 0,.int .i64 0,.int .i64 0,.int .i64 0],none⟩] [0])
 (.seq (.ops [
 ⟨some 1,.build [.int .i64 0,.int .i64 0] [(0,1,(.c (.int .i64 100))),(1,1,(.c (.int .i64 100)))],none⟩,
 ⟨some 2,.build [.int .i64 0,.int .i64 0,.int .i64 0] [(1,2,(.t 1))],none⟩,
 ⟨some 3,.bsl false 66 3 1 [.int .i64 0,.int .i64 0,.int .i64 0] [(0,3,(.t 2))],none⟩,
 ⟨some 4,.build [.int .i64 0,.int .i64 0,.int .i64 0,.slice none 0 0] [(0,1,(.c (.int .i64 5))),(3,1,(.t 3))],none⟩,
 ⟨some 5,.bsl false 109 4 1 [.int .i64 0,.int .i64 0,.int .i64 0,.slice none 0 0] [(0,4,(.t 4))],none⟩,
 ⟨some 6,.build [.int .i64 0,.int .i64 0] [(0,1,(.c (.int .i64 10)))],none⟩,
 ⟨some 7,.build [.slice none 0 0,.int .i64 0,.int .i64 0,.int .i64 0,.int .i64 0,.int .i64 0] [(0,1,(.t 5)),(1,2,(.t 6)),(3,1,(.c (.int .i64 50))),(4,1,(.c (.int .i64 100))),(5,1,(.c (.int .i64 2)))],none⟩,
 ⟨none,.store 6 (.t 0) (.t 7),none⟩] [0])
 .ret)),
 [.c 0 (some 6)]⟩
theorem k77:chkF Tryz.prog Tryz.f77 c77=true:=by kernel_rfl
def c79:CF:=⟨12,
 (.seq (.ops [
 ⟨some 6,.alloc 68 38 z38,none⟩] [0,1,2,6])
 (.seq (.ops [
 ⟨some 7,.mv (.t 0),none⟩,
 ⟨some 8,.mv (.t 0),none⟩,
 ⟨some 9,.mv (.t 1),none⟩,
 ⟨some 10,.mv (.t 2),none⟩,
 ⟨some 11,.build z38 [(0,1,(.c (.int .i64 1))),(1,1,(.t 7)),(2,1,(.t 8)),(3,1,(.t 9)),(4,1,(.t 10))],none⟩,
 ⟨none,.store 38 (.t 6) (.t 11),none⟩] [6])
 .ret)),
 [.c 6 (some 38)]⟩
theorem k79:chkF Tryz.prog Tryz.f79 c79=true:=by kernel_rfl
def c140:CF:=⟨12,
 (.seq (.ops [
 ⟨some 0,.alloc 60 18 z18,none⟩] [0])
 (.seq (.ops [
 ⟨some 2,.build [.int .i64 0,.int .i64 0] [(0,1,(.c (.int .i64 1000))),(1,1,(.c (.int .i64 1000)))],none⟩,
 ⟨some 1,.alloc 48 2 [.int .i64 0,.int .i64 0],none⟩,
 ⟨none,.store 2 (.t 1) (.t 2),none⟩] [0,1])
 (.seq (.ops [
 ⟨some 3,.load (some 2) (.t 1),none⟩,
 ⟨some 4,.load (some 2) (.t 1),none⟩,
 ⟨some 5,.build [.int .i64 0,.int .i64 0,.int .i64 0,.int .i64 0,.int .i64 0,.int .i64 0,.int .i64 0,.int .i64 0,.int .i64 0,.int .i64 0] [(0,1,(.c (.int .i64 100))),(1,1,(.c (.int .i64 1000))),(3,1,(.c (.int .i64 9600))),(4,1,(.c (.int .i64 10600))),(5,1,(.c (.int .i64 3))),(6,2,(.t 3)),(8,2,(.t 4))],none⟩,
 ⟨some 6,.build [.int .i64 0,.int .i64 0] [(0,1,(.c (.int .i64 1))),(1,1,(.c (.int .i64 2)))],none⟩,
 ⟨some 7,.build [.int .i64 0,.int .i64 0] [(0,1,(.c (.int .i64 1))),(1,1,(.c (.int .i64 2)))],none⟩,
 ⟨some 8,.bsl false 48 2 2 [.int .i64 0,.int .i64 0,.int .i64 0,.int .i64 0] [(0,2,(.t 6)),(2,2,(.t 7))],none⟩,
 ⟨some 9,.build [.slice none 0 0,.slice none 0 0] [(0,1,(.t 8))],none⟩,
 ⟨some 10,.build [.int .i64 0,.int .i64 0,.int .i64 0,.int .i64 0] [(0,1,(.c (.int .i64 1))),(3,1,(.c (.int .i64 10)))],none⟩,
 ⟨some 11,.build z18 [(0,10,(.t 5)),(12,2,(.t 9)),(14,4,(.t 10))],none⟩,
 ⟨none,.store 18 (.t 0) (.t 11),none⟩] [0])
 .ret))),
 [.c 0 (some 18)]⟩
theorem k140:chkF Tryz.prog Tryz.f140 c140=true:=by kernel_rfl
def c78:CF:=⟨52,
 (.seq (.ops [
 ⟨some 0,.mv (.c (.slice none 0 0)),none⟩] [])
 (.seq (.ops [
 ⟨some 2,.call (.f 79) [(.c (.int .i64 1)),(.c (.int .i64 10)),(.c (.int .i64 1))],none⟩,
 ⟨some 3,.call (.f 79) [(.c (.int .i64 2)),(.c (.int .i64 11)),(.c (.int .i64 2))],none⟩,
 ⟨some 4,.call (.f 79) [(.c (.int .i64 3)),(.c (.int .i64 12)),(.c (.int .i64 3))],none⟩,
 ⟨some 5,.call (.f 79) [(.c (.int .i64 4)),(.c (.int .i64 13)),(.c (.int .i64 6))],none⟩,
 ⟨some 6,.call (.f 79) [(.c (.int .i64 5)),(.c (.int .i64 14)),(.c (.int .i64 5))],none⟩,
 ⟨some 7,.bslt 68 38 5 [.int .i64 0,.int .i64 0,.int .i64 0,.int .i64 0,.int .i64 0,.int .i64 0,.int .i64 0,.int .i64 0,.int .i64 0,.int .i64 0,.int .i64 0,.int .i64 0,.int .i64 0,.int .i64 0,.int .i64 0,.int .i64 0,.int .i64 0,.slice none 0 0,.slice none 0 0,.slice none 0 0,.slice none 0 0,.int .i64 0,.int .i64 0,.int .i64 0,.int .i64 0,.int .i64 0,.int .i64 0,.int .i64 0,.int .i64 0,.int .i64 0,.int .i64 0,.int .i64 0,.int .i64 0,.int .i64 0,.int .i64 0,.int .i64 0,.int .i64 0,.int .i64 0,.int .i64 0,.int .i64 0,.int .i64 0,.int .i64 0,.int .i64 0,.int .i64 0,.int .i64 0,.int .i64 0,.int .i64 0,.int .i64 0,.int .i64 0,.int .i64 0,.int .i64 0,.int .i64 0,.int .i64 0,.int .i64 0,.int .i64 0,.slice none 0 0,.slice none 0 0,.slice none 0 0,.slice none 0 0,.int .i64 0,.int .i64 0,.int .i64 0,.int .i64 0,.int .i64 0,.int .i64 0,.int .i64 0,.int .i64 0,.int .i64 0,.int .i64 0,.int .i64 0,.int .i64 0,.int .i64 0,.int .i64 0,.int .i64 0,.int .i64 0,.int .i64 0,.int .i64 0,.int .i64 0,.int .i64 0,.int .i64 0,.int .i64 0,.int .i64 0,.int .i64 0,.int .i64 0,.int .i64 0,.int .i64 0,.int .i64 0,.int .i64 0,.int .i64 0,.int .i64 0,.int .i64 0,.int .i64 0,.int .i64 0,.slice none 0 0,.slice none 0 0,.slice none 0 0,.slice none 0 0,.int .i64 0,.int .i64 0,.int .i64 0,.int .i64 0,.int .i64 0,.int .i64 0,.int .i64 0,.int .i64 0,.int .i64 0,.int .i64 0,.int .i64 0,.int .i64 0,.int .i64 0,.int .i64 0,.int .i64 0,.int .i64 0,.int .i64 0,.int .i64 0,.int .i64 0,.int .i64 0,.int .i64 0,.int .i64 0,.int .i64 0,.int .i64 0,.int .i64 0,.int .i64 0,.int .i64 0,.int .i64 0,.int .i64 0,.int .i64 0,.int .i64 0,.int .i64 0,.int .i64 0,.int .i64 0,.slice none 0 0,.slice none 0 0,.slice none 0 0,.slice none 0 0,.int .i64 0,.int .i64 0,.int .i64 0,.int .i64 0,.int .i64 0,.int .i64 0,.int .i64 0,.int .i64 0,.int .i64 0,.int .i64 0,.int .i64 0,.int .i64 0,.int .i64 0,.int .i64 0,.int .i64 0,.int .i64 0,.int .i64 0,.int .i64 0,.int .i64 0,.int .i64 0,.int .i64 0,.int .i64 0,.int .i64 0,.int .i64 0,.int .i64 0,.int .i64 0,.int .i64 0,.int .i64 0,.int .i64 0,.int .i64 0,.int .i64 0,.int .i64 0,.int .i64 0,.int .i64 0,.slice none 0 0,.slice none 0 0,.slice none 0 0,.slice none 0 0,.int .i64 0,.int .i64 0,.int .i64 0,.int .i64 0,.int .i64 0,.int .i64 0,.int .i64 0,.int .i64 0,.int .i64 0,.int .i64 0,.int .i64 0,.int .i64 0,.int .i64 0,.int .i64 0,.int .i64 0,.int .i64 0,.int .i64 0] [(0,38,(.t 2)),(38,38,(.t 3)),(76,38,(.t 4)),(114,38,(.t 5)),(152,38,(.t 6))],none⟩,
 ⟨some 1,.mv (.t 7),none⟩] [1])
 (.seq (.ops [
 ⟨some 8,.mv (.t 1),none⟩,
 ⟨some 9,.iaddr 38 (.t 8) (.c (.int .i64 0)),none⟩,
 ⟨some 10,.faddr 5 (.t 9),none⟩,
 ⟨none,.store 1 (.t 10) (.c (.int .i64 5)),none⟩] [1])
 (.seq (.ops [
 ⟨some 11,.mv (.t 1),none⟩,
 ⟨some 12,.iaddr 38 (.t 11) (.c (.int .i64 0)),none⟩,
 ⟨some 13,.faddr 6 (.t 12),none⟩,
 ⟨none,.store 1 (.t 13) (.c (.int .i64 3)),none⟩] [1])
 (.seq (.ops [
 ⟨some 14,.mv (.t 1),none⟩,
 ⟨some 15,.call (.f 140) [],none⟩,
 ⟨some 16,.iaddr 38 (.t 14) (.c (.int .i64 0)),none⟩,
 ⟨some 17,.faddr 7 (.t 16),none⟩,
 ⟨none,.store 18 (.t 17) (.t 15),none⟩] [1])
 (.seq (.ops [
 ⟨some 18,.mv (.t 1),none⟩,
 ⟨some 19,.build [.int .i64 0,.int .i64 0] [(0,1,(.c (.int .i64 1))),(1,1,(.c (.int .i64 1)))],none⟩,
 ⟨some 20,.iaddr 38 (.t 18) (.c (.int .i64 1)),none⟩,
 ⟨some 21,.faddr 36 (.t 20),none⟩,
 ⟨none,.store 2 (.t 21) (.t 19),none⟩] [1])
 (.seq (.ops [
 ⟨some 22,.mv (.t 1),none⟩,
 ⟨some 23,.build [.int .i64 0,.int .i64 0] [(0,1,(.c (.int .i64 4))),(1,1,(.c (.int .i64 6)))],none⟩,
 ⟨some 24,.build [.int .i64 0,.int .i64 0,.int .i64 0] [(1,2,(.t 23))],none⟩,
 ⟨some 25,.iaddr 38 (.t 22) (.c (.int .i64 1)),none⟩,
 ⟨some 26,.faddr 25 (.t 25),none⟩,
 ⟨none,.store 3 (.t 26) (.t 24),none⟩] [1])
 (.seq (.ops [
 ⟨some 27,.mv (.t 1),none⟩,
 ⟨some 28,.build [.int .i64 0,.int .i64 0] [(0,1,(.c (.int .i64 10000))),(1,1,(.c (.int .i64 10010)))],none⟩,
 ⟨some 29,.build [.int .i64 0,.int .i64 0,.int .i64 0,.int .i64 0,.int .i64 0] [(0,1,(.c (.int .i64 5))),(1,1,(.c (.int .i64 3))),(2,1,(.c (.int .i64 20))),(3,2,(.t 28))],none⟩,
 ⟨some 30,.iaddr 38 (.t 27) (.c (.int .i64 2)),none⟩,
 ⟨some 31,.faddr 28 (.t 30),none⟩,
 ⟨none,.store 5 (.t 31) (.t 29),none⟩] [1])
 (.seq (.ops [
 ⟨some 32,.mv (.t 1),none⟩,
 ⟨some 33,.build [.int .i64 0,.int .i64 0] [(0,1,(.c (.int .i64 1))),(1,1,(.c (.int .i64 2)))],none⟩,
 ⟨some 34,.iaddr 38 (.t 32) (.c (.int .i64 3)),none⟩,
 ⟨some 35,.faddr 36 (.t 34),none⟩,
 ⟨none,.store 2 (.t 35) (.t 33),none⟩] [1])
 (.seq (.ops [
 ⟨some 36,.mv (.t 1),none⟩,
 ⟨some 37,.build [.int .i64 0,.int .i64 0] [(0,1,(.c (.int .i64 5))),(1,1,(.c (.int .i64 6)))],none⟩,
 ⟨some 38,.build [.int .i64 0,.int .i64 0,.int .i64 0] [(1,2,(.t 37))],none⟩,
 ⟨some 39,.iaddr 38 (.t 36) (.c (.int .i64 3)),none⟩,
 ⟨some 40,.faddr 25 (.t 39),none⟩,
 ⟨none,.store 3 (.t 40) (.t 38),none⟩] [1])
 (.seq (.ops [
 ⟨some 41,.mv (.t 1),none⟩,
 ⟨some 42,.build [.int .i64 0,.int .i64 0] [(0,1,(.c (.int .i64 1))),(1,1,(.c (.int .i64 1)))],none⟩,
 ⟨some 43,.iaddr 38 (.t 41) (.c (.int .i64 4)),none⟩,
 ⟨some 44,.faddr 36 (.t 43),none⟩,
 ⟨none,.store 2 (.t 44) (.t 42),none⟩] [1])
 (.seq (.ops [
 ⟨some 45,.mv (.t 1),none⟩,
 ⟨some 46,.iaddr 38 (.t 45) (.c (.int .i64 4)),none⟩,
 ⟨some 47,.faddr 5 (.t 46),none⟩,
 ⟨none,.store 1 (.t 47) (.c (.int .i64 5)),none⟩] [1])
 (.seq (.ops [
 ⟨some 48,.mv (.t 1),none⟩,
 ⟨some 49,.iaddr 38 (.t 48) (.c (.int .i64 4)),none⟩,
 ⟨some 50,.faddr 6 (.t 49),none⟩,
 ⟨none,.store 1 (.t 50) (.c (.int .i64 4)),none⟩] [1])
 (.seq (.ops [
 ⟨some 51,.mv (.t 1),none⟩,
 ⟨some 0,.mv (.t 51),none⟩] [0])
 .ret)))))))))))))),
 [.t 0]⟩
theorem k78:chkF Tryz.prog Tryz.f78 c78=true:=by kernel_rfl
def c18:CF:=⟨181,
 (.seq (.ops [
 ⟨some 0,.mv (.c (.bool false)),none⟩] [])
 (.seq (.ops [
 ⟨some 15,.call (.f 77) [],none⟩,
 ⟨some 16,.call (.f 78) [],none⟩,
 ⟨some 17,.call (.f 21) [(.t 15),(.t 16)],none⟩,
 ⟨some 14,.mv (.t 17),none⟩,
 ⟨some 18,.ext 0 (.t 14),none⟩,
 ⟨some 19,.ext 1 (.t 14),none⟩,
 ⟨some 1,.alloc 37 4 [.slice none 0 0,.slice none 0 0,.slice none 0 0,.slice none 0 0],none⟩,
 ⟨none,.store 4 (.t 1) (.t 18),none⟩,
 ⟨some 2,.mv (.t 19),none⟩] [1,2])
 (.seq (.ops [
 ⟨some 21,.call (.f 77) [],none⟩,
 ⟨some 22,.call (.f 78) [],none⟩,
 ⟨some 23,.call (.f 23) [(.t 21),(.t 22),(.c (.int .i64 11)),(.c (.int .i64 100))],none⟩,
 ⟨some 20,.mv (.t 23),none⟩,
 ⟨some 24,.ext 0 (.t 20),none⟩,
 ⟨some 25,.ext 1 (.t 20),none⟩,
 ⟨some 3,.alloc 37 4 [.slice none 0 0,.slice none 0 0,.slice none 0 0,.slice none 0 0],none⟩,
 ⟨none,.store 4 (.t 3) (.t 24),none⟩,
 ⟨some 4,.mv (.t 25),none⟩] [1,2,3,4])
 (.seq (.ops [
 ⟨some 27,.load (some 4) (.t 1),none⟩,
 ⟨some 28,.call (.f 36) [(.t 27)],none⟩,
 ⟨some 26,.mv (.t 28),none⟩,
 ⟨some 29,.ext 0 (.t 26),none⟩,
 ⟨some 30,.ext 1 (.t 26),none⟩,
 ⟨some 5,.mv (.t 29),none⟩,
 ⟨some 6,.mv (.t 30),none⟩] [1,2,3,4,5,6])
 (.seq (.ops [
 ⟨some 32,.call (.f 77) [],none⟩,
 ⟨some 33,.call (.f 78) [],none⟩,
 ⟨some 34,.build [.int .i64 0,.int .i64 0] [(0,1,(.c (.int .i64 1))),(1,1,(.c (.int .i64 2)))],none⟩,
 ⟨some 35,.call (.f 25) [(.t 32),(.t 33),(.t 34)],none⟩,
 ⟨some 31,.mv (.t 35),none⟩,
 ⟨some 36,.ext 0 (.t 31),none⟩,
 ⟨some 37,.ext 1 (.t 31),none⟩,
 ⟨some 7,.mv (.t 36),none⟩,
 ⟨some 8,.mv (.t 37),none⟩] [1,2,3,4,5,6,7,8])
 (.seq (.drawl 5 [
 ⟨some 39,.call (.f 77) [],none⟩,
 ⟨some 40,.load (some 4) (.t 1),none⟩,
 ⟨some 41,.call (.f 37) [(.t 39),(.t 40),(.c (.int .i64 3))],none⟩,
 ⟨some 38,.mv (.t 41),none⟩,
 ⟨some 42,.ext 0 (.t 38),none⟩,
 ⟨some 43,.ext 1 (.t 38),none⟩,
 ⟨some 9,.alloc 86 9 [.slice none 0 0,.int .i64 0,.int .i64 0,.int .i64 0,.int .i64 0,.int .i64 0,.int .i64 0,.slice none 0 0,.slice none 0 0],none⟩] [
 ⟨none,.store 9 (.t 9) (.t 42),none⟩,
 ⟨some 10,.mv (.t 43),none⟩] [1,2,3,4,5,6,7,8,9,10])
 (.seq (.ops [
 ⟨some 44,.call (.f 79) [(.c (.int .i64 6)),(.c (.int .i64 15)),(.c (.int .i64 7))],none⟩,
 ⟨some 11,.alloc 68 38 z38,none⟩,
 ⟨none,.store 38 (.t 11) (.t 44),none⟩] [1,2,3,4,5,6,7,8,9,10,11])
 (.seq (.ops [
 ⟨some 45,.build [.int .i64 0,.int .i64 0] [(0,1,(.c (.int .i64 1))),(1,1,(.c (.int .i64 1)))],none⟩,
 ⟨some 46,.faddr 36 (.t 11),none⟩,
 ⟨none,.store 2 (.t 46) (.t 45),none⟩] [1,2,3,4,5,6,7,8,9,10,11])
 (.seq (.drawl 8 [
 ⟨some 48,.call (.f 77) [],none⟩,
 ⟨some 49,.call (.f 78) [],none⟩,
 ⟨some 50,.load (some 38) (.t 11),none⟩,
 ⟨some 51,.bsl false 68 38 1 z38 [(0,38,(.t 50))],none⟩,
 ⟨some 52,.appi 68 38 368 (.t 49) (.t 51),none⟩,
 ⟨some 53,.call (.f 21) [(.t 48),(.t 52)],none⟩,
 ⟨some 47,.mv (.t 53),none⟩,
 ⟨some 54,.ext 0 (.t 47),none⟩,
 ⟨some 55,.ext 1 (.t 47),none⟩,
 ⟨some 12,.alloc 37 4 [.slice none 0 0,.slice none 0 0,.slice none 0 0,.slice none 0 0],none⟩] [
 ⟨none,.store 4 (.t 12) (.t 54),none⟩,
 ⟨some 13,.mv (.t 55),none⟩] [1,2,3,4,5,6,7,8,9,10,12,13])
 (.seq (.seq (.ops [
 ⟨some 56,.mv (.t 2),none⟩,
 ⟨some 57,.bin .neq (.t 56) (.c (.int .i64 0)),none⟩,
 ⟨some 58,.mv (.t 57),none⟩,
 ⟨some 59,.mv (.t 4),some (58,false)⟩,
 ⟨some 60,.bin .neq (.t 59) (.c (.int .i64 0)),some (58,false)⟩,
 ⟨some 61,.pick (.t 58) (.c (.bool true)) (.t 60),none⟩,
 ⟨some 62,.mv (.t 61),none⟩,
 ⟨some 63,.mv (.t 6),some (62,false)⟩,
 ⟨some 64,.bin .neq (.t 63) (.c (.int .i64 0)),some (62,false)⟩,
 ⟨some 65,.pick (.t 62) (.c (.bool true)) (.t 64),none⟩,
 ⟨some 66,.mv (.t 65),none⟩,
 ⟨some 67,.mv (.t 8),some (66,false)⟩,
 ⟨some 68,.bin .neq (.t 67) (.c (.int .i64 0)),some (66,false)⟩,
 ⟨some 69,.pick (.t 66) (.c (.bool true)) (.t 68),none⟩,
 ⟨some 70,.mv (.t 69),none⟩,
 ⟨some 71,.mv (.t 10),some (70,false)⟩,
 ⟨some 72,.bin .neq (.t 71) (.c (.int .i64 0)),some (70,false)⟩,
 ⟨some 73,.pick (.t 70) (.c (.bool true)) (.t 72),none⟩,
 ⟨some 74,.mv (.t 73),none⟩,
 ⟨some 75,.mv (.t 13),some (74,false)⟩,
 ⟨some 76,.bin .neq (.t 75) (.c (.int .i64 0)),some (74,false)⟩,
 ⟨some 77,.pick (.t 74) (.c (.bool true)) (.t 76),none⟩,
 ⟨some 78,.mv (.t 77),none⟩,
 ⟨some 79,.faddr 0 (.t 1),some (78,false)⟩,
 ⟨some 80,.load none (.t 79),some (78,false)⟩,
 ⟨some 81,.len (.t 80),some (78,false)⟩,
 ⟨some 82,.bin .neq (.t 81) (.c (.int .i64 1)),some (78,false)⟩,
 ⟨some 83,.pick (.t 78) (.c (.bool true)) (.t 82),none⟩,
 ⟨some 84,.mv (.t 83),none⟩,
 ⟨some 85,.faddr 0 (.t 1),some (84,false)⟩,
 ⟨some 86,.load none (.t 85),some (84,false)⟩,
 ⟨some 87,.iaddr 24 (.t 86) (.c (.int .i64 0)),some (84,false)⟩,
 ⟨some 88,.faddr 22 (.t 87),some (84,false)⟩,
 ⟨some 89,.load none (.t 88),some (84,false)⟩,
 ⟨some 90,.len (.t 89),some (84,false)⟩,
 ⟨some 91,.bin .neq (.t 90) (.c (.int .i64 1)),some (84,false)⟩,
 ⟨some 92,.pick (.t 84) (.c (.bool true)) (.t 91),none⟩,
 ⟨some 93,.mv (.t 92),none⟩,
 ⟨some 94,.faddr 0 (.t 3),some (93,false)⟩,
 ⟨some 95,.load none (.t 94),some (93,false)⟩,
 ⟨some 96,.len (.t 95),some (93,false)⟩,
 ⟨some 97,.bin .neq (.t 96) (.c (.int .i64 1)),some (93,false)⟩,
 ⟨some 98,.pick (.t 93) (.c (.bool true)) (.t 97),none⟩,
 ⟨some 99,.mv (.t 98),none⟩,
 ⟨some 100,.faddr 0 (.t 3),some (99,false)⟩,
 ⟨some 101,.load none (.t 100),some (99,false)⟩,
 ⟨some 102,.iaddr 24 (.t 101) (.c (.int .i64 0)),some (99,false)⟩,
 ⟨some 103,.faddr 22 (.t 102),some (99,false)⟩,
 ⟨some 104,.load none (.t 103),some (99,false)⟩,
 ⟨some 105,.len (.t 104),some (99,false)⟩,
 ⟨some 106,.bin .neq (.t 105) (.c (.int .i64 1)),some (99,false)⟩,
 ⟨some 107,.pick (.t 99) (.c (.bool true)) (.t 106),none⟩,
 ⟨some 108,.mv (.t 107),none⟩,
 ⟨some 109,.faddr 3 (.t 12),some (108,false)⟩,
 ⟨some 110,.load none (.t 109),some (108,false)⟩,
 ⟨some 111,.len (.t 110),some (108,false)⟩,
 ⟨some 112,.bin .neq (.t 111) (.c (.int .i64 3)),some (108,false)⟩,
 ⟨some 113,.pick (.t 108) (.c (.bool true)) (.t 112),none⟩] [1,3,5,7,9,12,113])
 (.cond (.t 113) (.seq (.ops [
 ⟨some 0,.mv (.c (.bool false)),none⟩] [0])
 .ret)
 .skip))
 (.seq (.ops [
 ⟨some 114,.faddr 0 (.t 1),none⟩,
 ⟨some 115,.load none (.t 114),none⟩,
 ⟨some 116,.iaddr 24 (.t 115) (.c (.int .i64 0)),none⟩,
 ⟨some 117,.faddr 3 (.t 116),none⟩,
 ⟨some 118,.load none (.t 117),none⟩,
 ⟨some 119,.bin .eql (.t 118) (.c (.int .i64 4)),none⟩,
 ⟨some 120,.mv (.t 119),none⟩,
 ⟨some 121,.faddr 0 (.t 1),some (120,true)⟩,
 ⟨some 122,.load none (.t 121),some (120,true)⟩,
 ⟨some 123,.iaddr 24 (.t 122) (.c (.int .i64 0)),some (120,true)⟩,
 ⟨some 124,.faddr 22 (.t 123),some (120,true)⟩,
 ⟨some 125,.load none (.t 124),some (120,true)⟩,
 ⟨some 126,.iaddr 3 (.t 125) (.c (.int .i64 0)),some (120,true)⟩,
 ⟨some 127,.faddr 1 (.t 126),some (120,true)⟩,
 ⟨some 128,.faddr 0 (.t 127),some (120,true)⟩,
 ⟨some 129,.load none (.t 128),some (120,true)⟩,
 ⟨some 130,.bin .eql (.t 129) (.c (.int .i64 5)),some (120,true)⟩,
 ⟨some 131,.pick (.t 120) (.t 130) (.c (.bool false)),none⟩,
 ⟨some 132,.mv (.t 131),none⟩,
 ⟨some 133,.faddr 0 (.t 3),some (132,true)⟩,
 ⟨some 134,.load none (.t 133),some (132,true)⟩,
 ⟨some 135,.iaddr 24 (.t 134) (.c (.int .i64 0)),some (132,true)⟩,
 ⟨some 136,.faddr 3 (.t 135),some (132,true)⟩,
 ⟨some 137,.load none (.t 136),some (132,true)⟩,
 ⟨some 138,.bin .eql (.t 137) (.c (.int .i64 3)),some (132,true)⟩,
 ⟨some 139,.pick (.t 132) (.t 138) (.c (.bool false)),none⟩,
 ⟨some 140,.mv (.t 139),none⟩,
 ⟨some 141,.faddr 0 (.t 3),some (140,true)⟩,
 ⟨some 142,.load none (.t 141),some (140,true)⟩,
 ⟨some 143,.iaddr 24 (.t 142) (.c (.int .i64 0)),some (140,true)⟩,
 ⟨some 144,.faddr 22 (.t 143),some (140,true)⟩,
 ⟨some 145,.load none (.t 144),some (140,true)⟩,
 ⟨some 146,.iaddr 3 (.t 145) (.c (.int .i64 0)),some (140,true)⟩,
 ⟨some 147,.faddr 1 (.t 146),some (140,true)⟩,
 ⟨some 148,.faddr 0 (.t 147),some (140,true)⟩,
 ⟨some 149,.load none (.t 148),some (140,true)⟩,
 ⟨some 150,.bin .eql (.t 149) (.c (.int .i64 4)),some (140,true)⟩,
 ⟨some 151,.pick (.t 140) (.t 150) (.c (.bool false)),none⟩,
 ⟨some 152,.mv (.t 151),none⟩,
 ⟨some 153,.mv (.t 5),some (152,true)⟩,
 ⟨some 154,.bsl false 3 1 2 [.int .i64 0,.int .i64 0] [(0,1,(.c (.int .i64 3))),(1,1,(.c (.int .i64 4)))],some (152,true)⟩,
 ⟨some 155,.call (.f 68) [(.t 153),(.t 154)],some (152,true)⟩,
 ⟨some 156,.pick (.t 152) (.t 155) (.c (.bool false)),none⟩,
 ⟨some 157,.mv (.t 156),none⟩,
 ⟨some 158,.mv (.t 7),some (157,true)⟩,
 ⟨some 159,.build [.int .i64 0,.int .i64 0] [(0,1,(.c (.int .i64 1))),(1,1,(.c (.int .i64 4)))],some (157,true)⟩,
 ⟨some 160,.bsl false 29 2 1 [.int .i64 0,.int .i64 0] [(0,2,(.t 159))],some (157,true)⟩,
 ⟨some 161,.call (.f 28) [(.t 158),(.t 160)],some (157,true)⟩,
 ⟨some 162,.pick (.t 157) (.t 161) (.c (.bool false)),none⟩,
 ⟨some 163,.mv (.t 162),none⟩,
 ⟨some 164,.faddr 7 (.t 9),some (163,true)⟩,
 ⟨some 165,.load none (.t 164),some (163,true)⟩,
 ⟨some 166,.len (.t 165),some (163,true)⟩,
 ⟨some 167,.bin .eql (.t 166) (.c (.int .i64 0)),some (163,true)⟩,
 ⟨some 168,.pick (.t 163) (.t 167) (.c (.bool false)),none⟩,
 ⟨some 169,.mv (.t 168),none⟩,
 ⟨some 170,.faddr 8 (.t 9),some (169,true)⟩,
 ⟨some 171,.load none (.t 170),some (169,true)⟩,
 ⟨some 172,.len (.t 171),some (169,true)⟩,
 ⟨some 173,.bin .eql (.t 172) (.c (.int .i64 1)),some (169,true)⟩,
 ⟨some 174,.pick (.t 169) (.t 173) (.c (.bool false)),none⟩,
 ⟨some 175,.mv (.t 174),none⟩,
 ⟨some 176,.faddr 0 (.t 12),some (175,true)⟩,
 ⟨some 177,.load none (.t 176),some (175,true)⟩,
 ⟨some 178,.len (.t 177),some (175,true)⟩,
 ⟨some 179,.bin .eql (.t 178) (.c (.int .i64 0)),some (175,true)⟩,
 ⟨some 180,.pick (.t 175) (.t 179) (.c (.bool false)),none⟩,
 ⟨some 0,.mv (.t 180),none⟩] [0])
 .ret))))))))))),
 [.t 0]⟩
theorem k18:chkF Tryz.prog Tryz.f18 c18=true:=by kernel_rfl
theorem sameNm (a b:List Nm) (ha:a.length < 9223372036854775808) (hb:b.length < 9223372036854775808):Pure Tryz.prog 28 [nmS a,nmS b] (bl (decide (a=b))):=by
  refine Pure.of_body Tryz.call28 Tryz.func28 k28 (Nat.le_of_ble_eq_true rfl) ?_
  unfold c28
  (repeat' ((first
 | refine vn rfl ?_
 | simp (disch:=omega) only [wr64,Int.zero_sub]
 | refine bo (fun _=>?_) fun _=>?_
 | refine im fun _=>?_
 | refine cF ?_
 | refine om ?_
 | refine an ?_
 | fail) <;> try simp only [zN,zT,zV,zS,zU,vcC,lateX,ex,strp,binA,elems,cells,scalar,eqC,keyA,intsA,lookA,ofVs,mpOf,Nat.reduceBEq,reduceAdd,reduceSub,reduceLT,reduceLeDiff,reduceMul,reduceEqDiff,reduceIte]))
  · rename_i h
    rw [decide_eq_false fun e=>by subst e; omega]; exact Frz.eq rfl (by simp)
  rename_i hne
  have hlen:a.length=b.length:=by omega
  refine AWPC.loopI 5 a.length (fun i=>a.take i=b.take i) (by simp) ?_ ?_
  · (simp only [zN,zT,zV,zS,zU,vcC,lateX,ex,strp,binA,elems,cells,scalar,eqC,keyA,intsA,lookA,ofVs,mpOf,Nat.reduceBEq,reduceAdd,reduceSub,reduceLT,reduceLeDiff,reduceMul,reduceEqDiff,reduceIte]; try simp)
  · intro i hi hI
    by_cases hlt:i < a.length
    · have hx:(a.map Nm.cs).getD i []=Nm.cs (a.getD i nm0):=row _ hlt
      have hy:(b.map Nm.cs).getD i []=Nm.cs (b.getD i nm0):=row _ (by omega)
      have hk:a.getD i nm0=b.getD i nm0↔a.take (i+1)=b.take (i+1):=by
        rw [List.take_add_one,List.take_add_one,hI,getD_lt nm0 hlt,getD_lt nm0 (show i < b.length by omega)]; simp
      generalize a.getD i nm0=x at hx hk
      generalize b.getD i nm0=y at hy hk
      obtain ⟨x1,x2⟩:=x
      obtain ⟨y1,y2⟩:=y
      simp only [Nm.mk.injEq] at hk
      (repeat' ((first
 | refine vn rfl ?_
 | simp (disch:=omega) only [wr64,Int.zero_sub]
 | refine bo (fun _=>?_) fun _=>?_
 | refine im fun _=>?_
 | refine cF ?_
 | refine om ?_
 | refine an ?_
 | fail) <;> try simp only [zN,zT,zV,zS,zU,vcC,lateX,ex,strp,binA,elems,cells,scalar,eqC,keyA,intsA,lookA,ofVs,mpOf,Nat.reduceBEq,reduceAdd,reduceSub,reduceLT,reduceLeDiff,reduceMul,reduceEqDiff,reduceIte,hx,hy]))
      all_goals try (exfalso; omega)
      · rename_i h
        rw [decide_eq_false fun e=>by
          have:=hk.2 (by rw [e])
          omega]
        exact Frz.eq rfl (by simp)
      · rename_i h
        exact ⟨⟨i+1,hlt,hk.1 (by omega)⟩,by simp,by simp only; omega⟩
    · obtain rfl:i=a.length:=by omega
      (repeat' ((first
 | refine vn rfl ?_
 | simp (disch:=omega) only [wr64,Int.zero_sub]
 | refine bo (fun _=>?_) fun _=>?_
 | refine im fun _=>?_
 | refine cF ?_
 | refine om ?_
 | refine an ?_
 | fail) <;> try simp only [zN,zT,zV,zS,zU,vcC,lateX,ex,strp,binA,elems,cells,scalar,eqC,keyA,intsA,lookA,ofVs,mpOf,Nat.reduceBEq,reduceAdd,reduceSub,reduceLT,reduceLeDiff,reduceMul,reduceEqDiff,reduceIte]))
      all_goals try (exfalso; omega)
      rw [List.take_length,hlen,List.take_length] at hI
      rw [decide_eq_true hI]
      exact Frz.eq rfl (by simp)
theorem sameInt (a b:List Int) (ha:a.length < 9223372036854775808) (hb:b.length < 9223372036854775808):Pure Tryz.prog 68 [inS a,inS b] (bl (decide (a=b))):=by
  refine Pure.of_body Tryz.call68 Tryz.func68 k68 (Nat.le_of_ble_eq_true rfl) ?_
  unfold c68
  (repeat' ((first
 | refine vn rfl ?_
 | simp (disch:=omega) only [wr64,Int.zero_sub]
 | refine bo (fun _=>?_) fun _=>?_
 | refine im fun _=>?_
 | refine cF ?_
 | refine om ?_
 | refine an ?_
 | fail) <;> try simp only [zN,zT,zV,zS,zU,vcC,lateX,ex,strp,binA,elems,cells,scalar,eqC,keyA,intsA,lookA,ofVs,mpOf,Nat.reduceBEq,reduceAdd,reduceSub,reduceLT,reduceLeDiff,reduceMul,reduceEqDiff,reduceIte]))
  · rename_i h
    rw [decide_eq_false fun e=>by subst e; omega]; exact Frz.eq rfl (by simp)
  rename_i hne
  have hlen:a.length=b.length:=by omega
  refine AWPC.loopI 5 a.length (fun i=>a.take i=b.take i) (by simp) ?_ ?_
  · (simp only [zN,zT,zV,zS,zU,vcC,lateX,ex,strp,binA,elems,cells,scalar,eqC,keyA,intsA,lookA,ofVs,mpOf,Nat.reduceBEq,reduceAdd,reduceSub,reduceLT,reduceLeDiff,reduceMul,reduceEqDiff,reduceIte]; try simp)
  · intro i hi hI
    by_cases hlt:i < a.length
    · have hx:(a.map (fun z=>[n z])).getD i []=(fun z=>[n z]) (a.getD i 0):=row _ hlt
      have hy:(b.map (fun z=>[n z])).getD i []=(fun z=>[n z]) (b.getD i 0):=row _ (by omega)
      have hk:a.getD i 0=b.getD i 0↔a.take (i+1)=b.take (i+1):=by
        rw [List.take_add_one,List.take_add_one,hI,getD_lt 0 hlt,getD_lt 0 (show i < b.length by omega)]; simp
      generalize a.getD i 0=x at hx hk
      generalize b.getD i 0=y at hy hk
      (repeat' ((first
 | refine vn rfl ?_
 | simp (disch:=omega) only [wr64,Int.zero_sub]
 | refine bo (fun _=>?_) fun _=>?_
 | refine im fun _=>?_
 | refine cF ?_
 | refine om ?_
 | refine an ?_
 | fail) <;> try simp only [zN,zT,zV,zS,zU,vcC,lateX,ex,strp,binA,elems,cells,scalar,eqC,keyA,intsA,lookA,ofVs,mpOf,Nat.reduceBEq,reduceAdd,reduceSub,reduceLT,reduceLeDiff,reduceMul,reduceEqDiff,reduceIte,hx,hy]))
      all_goals try (exfalso; omega)
      · rename_i h
        rw [decide_eq_false fun e=>by
          have:=hk.2 (by rw [e])
          omega]
        exact Frz.eq rfl (by simp)
      · rename_i h
        exact ⟨⟨i+1,hlt,hk.1 (by omega)⟩,by simp,by simp only; omega⟩
    · obtain rfl:i=a.length:=by omega
      (repeat' ((first
 | refine vn rfl ?_
 | simp (disch:=omega) only [wr64,Int.zero_sub]
 | refine bo (fun _=>?_) fun _=>?_
 | refine im fun _=>?_
 | refine cF ?_
 | refine om ?_
 | refine an ?_
 | fail) <;> try simp only [zN,zT,zV,zS,zU,vcC,lateX,ex,strp,binA,elems,cells,scalar,eqC,keyA,intsA,lookA,ofVs,mpOf,Nat.reduceBEq,reduceAdd,reduceSub,reduceLT,reduceLeDiff,reduceMul,reduceEqDiff,reduceIte]))
      all_goals try (exfalso; omega)
      rw [List.take_length,hlen,List.take_length] at hI
      rw [decide_eq_true hI]
      exact Frz.eq rfl (by simp)
def offB:Bse:=⟨[⟨5,0,0,[⟨0,⟨100,100⟩⟩]⟩],10,0,50,100,2⟩
def chartS:Sht:=⟨⟨100,1000,0,9600,10600,3,⟨1000,1000⟩,⟨1000,1000⟩⟩,[],[],[⟨1,2⟩,⟨1,2⟩],[],⟨1,⟨0,0⟩,10⟩⟩
def noteN (num day kind:Int):Nt:={ nt0 with clerk:=1,num:=num,clock:=num,day:=day,kind:=kind }
def sampL:List Nt:=[{ noteN 1 10 1 with stn:=5,week:=3,sheet:=chartS },{ noteN 2 11 2 with ref:=⟨1,1⟩,mark:=⟨0,⟨4,6⟩⟩ },{ noteN 3 12 3 with read:=⟨5,3,20,⟨10000,10010⟩⟩ },
  { noteN 4 13 6 with ref:=⟨1,2⟩,mark:=⟨0,⟨5,6⟩⟩ },{ noteN 5 14 5 with ref:=⟨1,1⟩,stn:=5,week:=4 }]
abbrev noteC (num day kind:Int):List AV:=[n 1,n num,n num,n day,n kind,n 0,n 0,n 0,n 0,n 0,n 0,n 0,n 0,n 0,n 0,n 0,n 0,.sl 3 [],.sl 1 [],.sl 2 [],.sl 3 [],n 0,n 0,n 0,n 0,n 0,n 0,n 0,n 0,n 0,n 0,n 0,n 0,n 0,n 0,n 0,n 0,n 0]
theorem office_spec:Pure Tryz.prog 77 [] (.agg offB.cs):=by
  refine Pure.of_body Tryz.call77 Tryz.func77 k77 (Nat.le_of_ble_eq_true rfl) ?_
  unfold c77
  (repeat' ((first
 | refine vn rfl ?_
 | simp (disch:=omega) only [wr64,Int.zero_sub]
 | refine bo (fun _=>?_) fun _=>?_
 | refine im fun _=>?_
 | refine cF ?_
 | refine om ?_
 | refine an ?_
 | fail) <;> try simp only [zN,zT,zV,zS,zU,vcC,lateX,ex,strp,binA,elems,cells,scalar,eqC,keyA,intsA,lookA,ofVs,mpOf,Nat.reduceBEq,reduceAdd,reduceSub,reduceLT,reduceLeDiff,reduceMul,reduceEqDiff,reduceIte]))
  exact Frz.aggL ⟨Frz.eq rfl (snS_pure offB.stns),Frz.eq rfl (PureV.v _),Frz.eq rfl (PureV.v _),Frz.eq rfl (PureV.v _),Frz.eq rfl (PureV.v _),Frz.eq rfl (PureV.v _),trivial⟩
theorem note_spec (num day kind:Int):Pure Tryz.prog 79 [n num,n day,n kind] (.agg (noteC num day kind)):=by
  refine Pure.of_body Tryz.call79 Tryz.func79 k79 (Nat.le_of_ble_eq_true rfl) ?_
  unfold c79
  (repeat' ((first
 | refine vn rfl ?_
 | simp (disch:=omega) only [wr64,Int.zero_sub]
 | refine bo (fun _=>?_) fun _=>?_
 | refine im fun _=>?_
 | refine cF ?_
 | refine om ?_
 | refine an ?_
 | fail) <;> try simp only [zN,zT,zV,zS,zU,vcC,lateX,ex,strp,binA,elems,cells,scalar,eqC,keyA,intsA,lookA,ofVs,mpOf,Nat.reduceBEq,reduceAdd,reduceSub,reduceLT,reduceLeDiff,reduceMul,reduceEqDiff,reduceIte]))
  exact Frz.aggL ⟨Frz.eq rfl (PureV.v _),Frz.eq rfl (PureV.v _),Frz.eq rfl (PureV.v _),Frz.eq rfl (PureV.v _),Frz.eq rfl (PureV.v _),Frz.eq rfl (PureV.v _),Frz.eq rfl (PureV.v _),Frz.eq rfl (PureV.v _),Frz.eq rfl (PureV.v _),Frz.eq rfl (PureV.v _),Frz.eq rfl (PureV.v _),Frz.eq rfl (PureV.v _),Frz.eq rfl (PureV.v _),Frz.eq rfl (PureV.v _),Frz.eq rfl (PureV.v _),Frz.eq rfl (PureV.v _),Frz.eq rfl (PureV.v _),Frz.nil0,Frz.nil0,Frz.nil0,Frz.nil0,Frz.eq rfl (PureV.v _),Frz.eq rfl (PureV.v _),Frz.eq rfl (PureV.v _),Frz.eq rfl (PureV.v _),Frz.eq rfl (PureV.v _),Frz.eq rfl (PureV.v _),Frz.eq rfl (PureV.v _),Frz.eq rfl (PureV.v _),Frz.eq rfl (PureV.v _),Frz.eq rfl (PureV.v _),Frz.eq rfl (PureV.v _),Frz.eq rfl (PureV.v _),Frz.eq rfl (PureV.v _),Frz.eq rfl (PureV.v _),Frz.eq rfl (PureV.v _),Frz.eq rfl (PureV.v _),Frz.eq rfl (PureV.v _),trivial⟩
theorem chart_spec:Pure Tryz.prog 140 [] (.agg chartS.cs):=by
  refine Pure.of_body Tryz.call140 Tryz.func140 k140 (Nat.le_of_ble_eq_true rfl) ?_
  unfold c140
  (repeat' ((first
 | refine vn rfl ?_
 | simp (disch:=omega) only [wr64,Int.zero_sub]
 | refine bo (fun _=>?_) fun _=>?_
 | refine im fun _=>?_
 | refine cF ?_
 | refine om ?_
 | refine an ?_
 | fail) <;> try simp only [zN,zT,zV,zS,zU,vcC,lateX,ex,strp,binA,elems,cells,scalar,eqC,keyA,intsA,lookA,ofVs,mpOf,Nat.reduceBEq,reduceAdd,reduceSub,reduceLT,reduceLeDiff,reduceMul,reduceEqDiff,reduceIte]))
  exact Frz.aggL ⟨Frz.eq rfl (PureV.v _),Frz.eq rfl (PureV.v _),Frz.eq rfl (PureV.v _),Frz.eq rfl (PureV.v _),Frz.eq rfl (PureV.v _),Frz.eq rfl (PureV.v _),Frz.eq rfl (PureV.v _),Frz.eq rfl (PureV.v _),Frz.eq rfl (PureV.v _),Frz.eq rfl (PureV.v _),Frz.nil0,Frz.nil0,Frz.eq rfl (PureV.sl fun e he c hc=>by simp at he; rcases he with rfl | rfl <;> (simp at hc; rcases hc with rfl | rfl <;> exact PureV.v _)),Frz.nil0,Frz.eq rfl (PureV.v _),Frz.eq rfl (PureV.v _),Frz.eq rfl (PureV.v _),Frz.eq rfl (PureV.v _),trivial⟩
theorem sampleF_spec:Pure Tryz.prog 78 [] (.fresh 38 (sampL.map Nt.cs)):=by
  refine Pure.of_body Tryz.call78 Tryz.func78 k78 (Nat.le_of_ble_eq_true rfl) ?_
  unfold c78
  (repeat' ((first
 | refine vn rfl ?_
 | simp (disch:=omega) only [wr64,Int.zero_sub]
 | refine bo (fun _=>?_) fun _=>?_
 | refine im fun _=>?_
 | ((repeat refine si ?_); (first | ((first | refine .inl ⟨_,_,_,_,rfl,fun _=>pu (by first | exact note_spec 1 10 1 | exact note_spec 2 11 2 | exact note_spec 3 12 3 | exact note_spec 4 13 6 | exact note_spec 5 14 5 | exact chart_spec),?_⟩ | refine ⟨_,_,_,_,rfl,fun _=>pu (by first | exact note_spec 1 10 1 | exact note_spec 2 11 2 | exact note_spec 3 12 3 | exact note_spec 4 13 6 | exact note_spec 5 14 5 | exact chart_spec),?_⟩); (first | refine o1 ?_ | refine o2 ?_ | refine o3 ?_ | refine o4 ?_)) | refine .inl ⟨_,_,_,_,rfl,pu (by first | exact note_spec 1 10 1 | exact note_spec 2 11 2 | exact note_spec 3 12 3 | exact note_spec 4 13 6 | exact note_spec 5 14 5 | exact chart_spec),?_⟩))
 | refine cF ?_
 | refine om ?_
 | refine an ?_
 | fail) <;> try simp only [zN,zT,zV,zS,zU,vcC,lateX,ex,strp,binA,elems,cells,scalar,eqC,keyA,intsA,lookA,ofVs,mpOf,Nat.reduceBEq,reduceAdd,reduceSub,reduceLT,reduceLeDiff,reduceMul,reduceEqDiff,reduceIte]))
  exact Frz.tightL (T:=68) (cs:=Nt.cs) (l:=sampL) rfl rfl (by decide) (fun a=>Nt.pc a) (fun a=>rfl)
theorem sample_spec:Pure Tryz.prog 78 [] (ntS sampL):=sampleF_spec.slack
def outN:Nt:={ noteN 6 15 7 with ref:=⟨1,1⟩ }
def reg1:Rgr:=⟨[⟨⟨1,1⟩,5,4,chartS,[⟨0,⟨5,6⟩⟩],[⟨1,2⟩]⟩],[⟨5,3,20,⟨10000,10010⟩⟩],offB.stns,[]⟩
def reg2:Rgr:=⟨[⟨⟨1,1⟩,5,3,chartS,[⟨0,⟨4,6⟩⟩],[⟨1,2⟩]⟩],[],offB.stns,[]⟩
def reg3:Rgr:=⟨[],[⟨5,3,20,⟨10000,10010⟩⟩],offB.stns,[⟨1,2⟩,⟨1,4⟩,⟨1,5⟩]⟩
theorem ev1:foldE offB sampL=(reg1,0):=by decide +kernel
theorem ev2:asofE offB sampL 11 100=(reg2,0):=by decide +kernel
theorem ev3:weeksT reg1=[3,4]:=by decide +kernel
theorem ev4:chainE offB sampL ⟨1,2⟩=([⟨1,4⟩],0):=by decide +kernel
theorem ev5:weekE offB reg1 3=(⟨offB,3,[],[⟨5,3,20,⟨10000,10010⟩⟩]⟩,0):=by decide +kernel
theorem ev6:foldE offB (sampL++[outN])=(reg3,0):=by decide +kernel
theorem offSz:bseSz offB:=by
  refine ⟨by decide,fun s hs=>?_⟩
  simp only [offB,List.mem_singleton] at hs
  subst hs
  decide
theorem sampSz:∀ a∈sampL++[outN],ntSz a:=by
  intro a ha
  simp only [sampL,List.cons_append,List.nil_append,List.mem_cons,List.not_mem_nil,or_false] at ha
  rcases ha with rfl | rfl | rfl | rfl | rfl | rfl <;> exact ⟨by decide,by decide,by decide,by decide⟩
theorem sampS:setSz sampL:=⟨by decide,fun a ha=>sampSz a (by simp [ha])⟩
theorem samp6:setSz (sampL++[outN]):=⟨by decide,sampSz⟩
theorem sampH:∀ a∈sampL++[outN],a.kind≠4:=by
  intro a ha
  simp only [sampL,List.cons_append,List.nil_append,List.mem_cons,List.not_mem_nil,or_false] at ha
  rcases ha with rfl | rfl | rfl | rfl | rfl | rfl <;> decide
theorem regC:∀ f∈reg1.sheets,fldC f:=by
  intro f hf
  simp only [reg1,List.mem_singleton] at hf
  subst hf
  exact ⟨⟨by decide,by decide,by decide,by decide⟩,by decide,by decide⟩
theorem awake_spec:Pure Tryz.prog 18 [] (bl true):=by
  have f1:=Fold_spec offB offSz sampL sampS (fun a ha=>sampH a (by simp [ha]))
  rw [ev1] at f1
  have f2:=AsOf_spec offB offSz sampL sampS (fun a ha=>sampH a (by simp [ha])) 11 100
  rw [ev2] at f2
  have f3:=Weeks_spec reg1 (by decide) (by decide)
  rw [ev3] at f3
  have f4:=Chain_spec offB offSz sampL sampS ⟨1,2⟩
  rw [ev4] at f4
  have f5:=WeekOf_of sortF0 offB offSz reg1 3 (by decide) (by decide) (by decide) regC (by decide) (by decide)
  rw [ev5] at f5
  have f6:=Fold_spec offB offSz (sampL++[outN]) samp6 sampH
  rw [ev6] at f6
  refine Pure.of_body Tryz.call18 Tryz.func18 k18 (Nat.le_of_ble_eq_true rfl) ?_
  unfold c18
  ((first
 | refine vn rfl ?_
 | simp (disch:=omega) only [wr64,Int.zero_sub]
 | refine bo (fun _=>?_) fun _=>?_
 | refine im fun _=>?_
 | ((repeat refine si ?_); (first | ((first | refine .inl ⟨_,_,_,_,rfl,fun _=>pu (by first | exact office_spec | exact sample_spec | exact f1 | exact f2 | exact f3 | exact f4 | exact f5 | exact f6 | exact note_spec 6 15 7 | exact sameInt [3,4] [3,4] (by decide) (by decide) | exact sameNm [⟨1,4⟩] [⟨1,4⟩] (by decide) (by decide)),?_⟩ | refine ⟨_,_,_,_,rfl,fun _=>pu (by first | exact office_spec | exact sample_spec | exact f1 | exact f2 | exact f3 | exact f4 | exact f5 | exact f6 | exact note_spec 6 15 7 | exact sameInt [3,4] [3,4] (by decide) (by decide) | exact sameNm [⟨1,4⟩] [⟨1,4⟩] (by decide) (by decide)),?_⟩); (first | refine o1 ?_ | refine o2 ?_ | refine o3 ?_ | refine o4 ?_)) | refine .inl ⟨_,_,_,_,rfl,pu (by first | exact office_spec | exact sample_spec | exact f1 | exact f2 | exact f3 | exact f4 | exact f5 | exact f6 | exact note_spec 6 15 7 | exact sameInt [3,4] [3,4] (by decide) (by decide) | exact sameNm [⟨1,4⟩] [⟨1,4⟩] (by decide) (by decide)),?_⟩))
 | refine cF ?_
 | refine om ?_
 | refine an ?_
 | fail) <;> try simp only [zN,zT,zV,zS,zU,vcC,lateX,ex,strp,binA,elems,cells,scalar,eqC,keyA,intsA,lookA,ofVs,mpOf,Nat.reduceBEq,reduceAdd,reduceSub,reduceLT,reduceLeDiff,reduceMul,reduceEqDiff,reduceIte,reg1,reg2,reg3,List.map_cons,List.map_nil,List.length_cons,List.length_nil])
  ((first
 | refine vn rfl ?_
 | simp (disch:=omega) only [wr64,Int.zero_sub]
 | refine bo (fun _=>?_) fun _=>?_
 | refine im fun _=>?_
 | ((repeat refine si ?_); (first | ((first | refine .inl ⟨_,_,_,_,rfl,fun _=>pu (by first | exact office_spec | exact sample_spec | exact f1 | exact f2 | exact f3 | exact f4 | exact f5 | exact f6 | exact note_spec 6 15 7 | exact sameInt [3,4] [3,4] (by decide) (by decide) | exact sameNm [⟨1,4⟩] [⟨1,4⟩] (by decide) (by decide)),?_⟩ | refine ⟨_,_,_,_,rfl,fun _=>pu (by first | exact office_spec | exact sample_spec | exact f1 | exact f2 | exact f3 | exact f4 | exact f5 | exact f6 | exact note_spec 6 15 7 | exact sameInt [3,4] [3,4] (by decide) (by decide) | exact sameNm [⟨1,4⟩] [⟨1,4⟩] (by decide) (by decide)),?_⟩); (first | refine o1 ?_ | refine o2 ?_ | refine o3 ?_ | refine o4 ?_)) | refine .inl ⟨_,_,_,_,rfl,pu (by first | exact office_spec | exact sample_spec | exact f1 | exact f2 | exact f3 | exact f4 | exact f5 | exact f6 | exact note_spec 6 15 7 | exact sameInt [3,4] [3,4] (by decide) (by decide) | exact sameNm [⟨1,4⟩] [⟨1,4⟩] (by decide) (by decide)),?_⟩))
 | refine cF ?_
 | refine om ?_
 | refine an ?_
 | fail) <;> try simp only [zN,zT,zV,zS,zU,vcC,lateX,ex,strp,binA,elems,cells,scalar,eqC,keyA,intsA,lookA,ofVs,mpOf,Nat.reduceBEq,reduceAdd,reduceSub,reduceLT,reduceLeDiff,reduceMul,reduceEqDiff,reduceIte,reg1,reg2,reg3,List.map_cons,List.map_nil,List.length_cons,List.length_nil])
  ((first
 | refine vn rfl ?_
 | simp (disch:=omega) only [wr64,Int.zero_sub]
 | refine bo (fun _=>?_) fun _=>?_
 | refine im fun _=>?_
 | ((repeat refine si ?_); (first | ((first | refine .inl ⟨_,_,_,_,rfl,fun _=>pu (by first | exact office_spec | exact sample_spec | exact f1 | exact f2 | exact f3 | exact f4 | exact f5 | exact f6 | exact note_spec 6 15 7 | exact sameInt [3,4] [3,4] (by decide) (by decide) | exact sameNm [⟨1,4⟩] [⟨1,4⟩] (by decide) (by decide)),?_⟩ | refine ⟨_,_,_,_,rfl,fun _=>pu (by first | exact office_spec | exact sample_spec | exact f1 | exact f2 | exact f3 | exact f4 | exact f5 | exact f6 | exact note_spec 6 15 7 | exact sameInt [3,4] [3,4] (by decide) (by decide) | exact sameNm [⟨1,4⟩] [⟨1,4⟩] (by decide) (by decide)),?_⟩); (first | refine o1 ?_ | refine o2 ?_ | refine o3 ?_ | refine o4 ?_)) | refine .inl ⟨_,_,_,_,rfl,pu (by first | exact office_spec | exact sample_spec | exact f1 | exact f2 | exact f3 | exact f4 | exact f5 | exact f6 | exact note_spec 6 15 7 | exact sameInt [3,4] [3,4] (by decide) (by decide) | exact sameNm [⟨1,4⟩] [⟨1,4⟩] (by decide) (by decide)),?_⟩))
 | refine cF ?_
 | refine om ?_
 | refine an ?_
 | fail) <;> try simp only [zN,zT,zV,zS,zU,vcC,lateX,ex,strp,binA,elems,cells,scalar,eqC,keyA,intsA,lookA,ofVs,mpOf,Nat.reduceBEq,reduceAdd,reduceSub,reduceLT,reduceLeDiff,reduceMul,reduceEqDiff,reduceIte,reg1,reg2,reg3,List.map_cons,List.map_nil,List.length_cons,List.length_nil])
  ((first
 | refine vn rfl ?_
 | simp (disch:=omega) only [wr64,Int.zero_sub]
 | refine bo (fun _=>?_) fun _=>?_
 | refine im fun _=>?_
 | ((repeat refine si ?_); (first | ((first | refine .inl ⟨_,_,_,_,rfl,fun _=>pu (by first | exact office_spec | exact sample_spec | exact f1 | exact f2 | exact f3 | exact f4 | exact f5 | exact f6 | exact note_spec 6 15 7 | exact sameInt [3,4] [3,4] (by decide) (by decide) | exact sameNm [⟨1,4⟩] [⟨1,4⟩] (by decide) (by decide)),?_⟩ | refine ⟨_,_,_,_,rfl,fun _=>pu (by first | exact office_spec | exact sample_spec | exact f1 | exact f2 | exact f3 | exact f4 | exact f5 | exact f6 | exact note_spec 6 15 7 | exact sameInt [3,4] [3,4] (by decide) (by decide) | exact sameNm [⟨1,4⟩] [⟨1,4⟩] (by decide) (by decide)),?_⟩); (first | refine o1 ?_ | refine o2 ?_ | refine o3 ?_ | refine o4 ?_)) | refine .inl ⟨_,_,_,_,rfl,pu (by first | exact office_spec | exact sample_spec | exact f1 | exact f2 | exact f3 | exact f4 | exact f5 | exact f6 | exact note_spec 6 15 7 | exact sameInt [3,4] [3,4] (by decide) (by decide) | exact sameNm [⟨1,4⟩] [⟨1,4⟩] (by decide) (by decide)),?_⟩))
 | refine cF ?_
 | refine om ?_
 | refine an ?_
 | fail) <;> try simp only [zN,zT,zV,zS,zU,vcC,lateX,ex,strp,binA,elems,cells,scalar,eqC,keyA,intsA,lookA,ofVs,mpOf,Nat.reduceBEq,reduceAdd,reduceSub,reduceLT,reduceLeDiff,reduceMul,reduceEqDiff,reduceIte,reg1,reg2,reg3,List.map_cons,List.map_nil,List.length_cons,List.length_nil])
  ((first
 | refine vn rfl ?_
 | simp (disch:=omega) only [wr64,Int.zero_sub]
 | refine bo (fun _=>?_) fun _=>?_
 | refine im fun _=>?_
 | ((repeat refine si ?_); (first | ((first | refine .inl ⟨_,_,_,_,rfl,fun _=>pu (by first | exact office_spec | exact sample_spec | exact f1 | exact f2 | exact f3 | exact f4 | exact f5 | exact f6 | exact note_spec 6 15 7 | exact sameInt [3,4] [3,4] (by decide) (by decide) | exact sameNm [⟨1,4⟩] [⟨1,4⟩] (by decide) (by decide)),?_⟩ | refine ⟨_,_,_,_,rfl,fun _=>pu (by first | exact office_spec | exact sample_spec | exact f1 | exact f2 | exact f3 | exact f4 | exact f5 | exact f6 | exact note_spec 6 15 7 | exact sameInt [3,4] [3,4] (by decide) (by decide) | exact sameNm [⟨1,4⟩] [⟨1,4⟩] (by decide) (by decide)),?_⟩); (first | refine o1 ?_ | refine o2 ?_ | refine o3 ?_ | refine o4 ?_)) | refine .inl ⟨_,_,_,_,rfl,pu (by first | exact office_spec | exact sample_spec | exact f1 | exact f2 | exact f3 | exact f4 | exact f5 | exact f6 | exact note_spec 6 15 7 | exact sameInt [3,4] [3,4] (by decide) (by decide) | exact sameNm [⟨1,4⟩] [⟨1,4⟩] (by decide) (by decide)),?_⟩))
 | refine cF ?_
 | refine om ?_
 | refine an ?_
 | fail) <;> try simp only [zN,zT,zV,zS,zU,vcC,lateX,ex,strp,binA,elems,cells,scalar,eqC,keyA,intsA,lookA,ofVs,mpOf,Nat.reduceBEq,reduceAdd,reduceSub,reduceLT,reduceLeDiff,reduceMul,reduceEqDiff,reduceIte,reg1,reg2,reg3,List.map_cons,List.map_nil,List.length_cons,List.length_nil])
  ((first
 | refine vn rfl ?_
 | simp (disch:=omega) only [wr64,Int.zero_sub]
 | refine bo (fun _=>?_) fun _=>?_
 | refine im fun _=>?_
 | ((repeat refine si ?_); (first | ((first | refine .inl ⟨_,_,_,_,rfl,fun _=>pu (by first | exact office_spec | exact sample_spec | exact f1 | exact f2 | exact f3 | exact f4 | exact f5 | exact f6 | exact note_spec 6 15 7 | exact sameInt [3,4] [3,4] (by decide) (by decide) | exact sameNm [⟨1,4⟩] [⟨1,4⟩] (by decide) (by decide)),?_⟩ | refine ⟨_,_,_,_,rfl,fun _=>pu (by first | exact office_spec | exact sample_spec | exact f1 | exact f2 | exact f3 | exact f4 | exact f5 | exact f6 | exact note_spec 6 15 7 | exact sameInt [3,4] [3,4] (by decide) (by decide) | exact sameNm [⟨1,4⟩] [⟨1,4⟩] (by decide) (by decide)),?_⟩); (first | refine o1 ?_ | refine o2 ?_ | refine o3 ?_ | refine o4 ?_)) | refine .inl ⟨_,_,_,_,rfl,pu (by first | exact office_spec | exact sample_spec | exact f1 | exact f2 | exact f3 | exact f4 | exact f5 | exact f6 | exact note_spec 6 15 7 | exact sameInt [3,4] [3,4] (by decide) (by decide) | exact sameNm [⟨1,4⟩] [⟨1,4⟩] (by decide) (by decide)),?_⟩))
 | refine cF ?_
 | refine om ?_
 | refine an ?_
 | fail) <;> try simp only [zN,zT,zV,zS,zU,vcC,lateX,ex,strp,binA,elems,cells,scalar,eqC,keyA,intsA,lookA,ofVs,mpOf,Nat.reduceBEq,reduceAdd,reduceSub,reduceLT,reduceLeDiff,reduceMul,reduceEqDiff,reduceIte,reg1,reg2,reg3,List.map_cons,List.map_nil,List.length_cons,List.length_nil])
  ((first
 | refine vn rfl ?_
 | simp (disch:=omega) only [wr64,Int.zero_sub]
 | refine bo (fun _=>?_) fun _=>?_
 | refine im fun _=>?_
 | ((repeat refine si ?_); (first | ((first | refine .inl ⟨_,_,_,_,rfl,fun _=>pu (by first | exact office_spec | exact sample_spec | exact f1 | exact f2 | exact f3 | exact f4 | exact f5 | exact f6 | exact note_spec 6 15 7 | exact sameInt [3,4] [3,4] (by decide) (by decide) | exact sameNm [⟨1,4⟩] [⟨1,4⟩] (by decide) (by decide)),?_⟩ | refine ⟨_,_,_,_,rfl,fun _=>pu (by first | exact office_spec | exact sample_spec | exact f1 | exact f2 | exact f3 | exact f4 | exact f5 | exact f6 | exact note_spec 6 15 7 | exact sameInt [3,4] [3,4] (by decide) (by decide) | exact sameNm [⟨1,4⟩] [⟨1,4⟩] (by decide) (by decide)),?_⟩); (first | refine o1 ?_ | refine o2 ?_ | refine o3 ?_ | refine o4 ?_)) | refine .inl ⟨_,_,_,_,rfl,pu (by first | exact office_spec | exact sample_spec | exact f1 | exact f2 | exact f3 | exact f4 | exact f5 | exact f6 | exact note_spec 6 15 7 | exact sameInt [3,4] [3,4] (by decide) (by decide) | exact sameNm [⟨1,4⟩] [⟨1,4⟩] (by decide) (by decide)),?_⟩))
 | refine cF ?_
 | refine om ?_
 | refine an ?_
 | fail) <;> try simp only [zN,zT,zV,zS,zU,vcC,lateX,ex,strp,binA,elems,cells,scalar,eqC,keyA,intsA,lookA,ofVs,mpOf,Nat.reduceBEq,reduceAdd,reduceSub,reduceLT,reduceLeDiff,reduceMul,reduceEqDiff,reduceIte,reg1,reg2,reg3,List.map_cons,List.map_nil,List.length_cons,List.length_nil])
  ((first
 | refine vn rfl ?_
 | simp (disch:=omega) only [wr64,Int.zero_sub]
 | refine bo (fun _=>?_) fun _=>?_
 | refine im fun _=>?_
 | ((repeat refine si ?_); (first | ((first | refine .inl ⟨_,_,_,_,rfl,fun _=>pu (by first | exact office_spec | exact sample_spec | exact f1 | exact f2 | exact f3 | exact f4 | exact f5 | exact f6 | exact note_spec 6 15 7 | exact sameInt [3,4] [3,4] (by decide) (by decide) | exact sameNm [⟨1,4⟩] [⟨1,4⟩] (by decide) (by decide)),?_⟩ | refine ⟨_,_,_,_,rfl,fun _=>pu (by first | exact office_spec | exact sample_spec | exact f1 | exact f2 | exact f3 | exact f4 | exact f5 | exact f6 | exact note_spec 6 15 7 | exact sameInt [3,4] [3,4] (by decide) (by decide) | exact sameNm [⟨1,4⟩] [⟨1,4⟩] (by decide) (by decide)),?_⟩); (first | refine o1 ?_ | refine o2 ?_ | refine o3 ?_ | refine o4 ?_)) | refine .inl ⟨_,_,_,_,rfl,pu (by first | exact office_spec | exact sample_spec | exact f1 | exact f2 | exact f3 | exact f4 | exact f5 | exact f6 | exact note_spec 6 15 7 | exact sameInt [3,4] [3,4] (by decide) (by decide) | exact sameNm [⟨1,4⟩] [⟨1,4⟩] (by decide) (by decide)),?_⟩))
 | refine cF ?_
 | refine om ?_
 | refine an ?_
 | fail) <;> try simp only [zN,zT,zV,zS,zU,vcC,lateX,ex,strp,binA,elems,cells,scalar,eqC,keyA,intsA,lookA,ofVs,mpOf,Nat.reduceBEq,reduceAdd,reduceSub,reduceLT,reduceLeDiff,reduceMul,reduceEqDiff,reduceIte,reg1,reg2,reg3,List.map_cons,List.map_nil,List.length_cons,List.length_nil])
  ((first
 | refine vn rfl ?_
 | simp (disch:=omega) only [wr64,Int.zero_sub]
 | refine bo (fun _=>?_) fun _=>?_
 | refine im fun _=>?_
 | ((repeat refine si ?_); (first | ((first | refine .inl ⟨_,_,_,_,rfl,fun _=>pu (by first | exact office_spec | exact sample_spec | exact f1 | exact f2 | exact f3 | exact f4 | exact f5 | exact f6 | exact note_spec 6 15 7 | exact sameInt [3,4] [3,4] (by decide) (by decide) | exact sameNm [⟨1,4⟩] [⟨1,4⟩] (by decide) (by decide)),?_⟩ | refine ⟨_,_,_,_,rfl,fun _=>pu (by first | exact office_spec | exact sample_spec | exact f1 | exact f2 | exact f3 | exact f4 | exact f5 | exact f6 | exact note_spec 6 15 7 | exact sameInt [3,4] [3,4] (by decide) (by decide) | exact sameNm [⟨1,4⟩] [⟨1,4⟩] (by decide) (by decide)),?_⟩); (first | refine o1 ?_ | refine o2 ?_ | refine o3 ?_ | refine o4 ?_)) | refine .inl ⟨_,_,_,_,rfl,pu (by first | exact office_spec | exact sample_spec | exact f1 | exact f2 | exact f3 | exact f4 | exact f5 | exact f6 | exact note_spec 6 15 7 | exact sameInt [3,4] [3,4] (by decide) (by decide) | exact sameNm [⟨1,4⟩] [⟨1,4⟩] (by decide) (by decide)),?_⟩))
 | refine cF ?_
 | refine om ?_
 | refine an ?_
 | fail) <;> try simp only [zN,zT,zV,zS,zU,vcC,lateX,ex,strp,binA,elems,cells,scalar,eqC,keyA,intsA,lookA,ofVs,mpOf,Nat.reduceBEq,reduceAdd,reduceSub,reduceLT,reduceLeDiff,reduceMul,reduceEqDiff,reduceIte,reg1,reg2,reg3,List.map_cons,List.map_nil,List.length_cons,List.length_nil])
  ((first
 | refine vn rfl ?_
 | simp (disch:=omega) only [wr64,Int.zero_sub]
 | refine bo (fun _=>?_) fun _=>?_
 | refine im fun _=>?_
 | ((repeat refine si ?_); (first | ((first | refine .inl ⟨_,_,_,_,rfl,fun _=>pu (by first | exact office_spec | exact sample_spec | exact f1 | exact f2 | exact f3 | exact f4 | exact f5 | exact f6 | exact note_spec 6 15 7 | exact sameInt [3,4] [3,4] (by decide) (by decide) | exact sameNm [⟨1,4⟩] [⟨1,4⟩] (by decide) (by decide)),?_⟩ | refine ⟨_,_,_,_,rfl,fun _=>pu (by first | exact office_spec | exact sample_spec | exact f1 | exact f2 | exact f3 | exact f4 | exact f5 | exact f6 | exact note_spec 6 15 7 | exact sameInt [3,4] [3,4] (by decide) (by decide) | exact sameNm [⟨1,4⟩] [⟨1,4⟩] (by decide) (by decide)),?_⟩); (first | refine o1 ?_ | refine o2 ?_ | refine o3 ?_ | refine o4 ?_)) | refine .inl ⟨_,_,_,_,rfl,pu (by first | exact office_spec | exact sample_spec | exact f1 | exact f2 | exact f3 | exact f4 | exact f5 | exact f6 | exact note_spec 6 15 7 | exact sameInt [3,4] [3,4] (by decide) (by decide) | exact sameNm [⟨1,4⟩] [⟨1,4⟩] (by decide) (by decide)),?_⟩))
 | refine cF ?_
 | refine om ?_
 | refine an ?_
 | fail) <;> try simp only [zN,zT,zV,zS,zU,vcC,lateX,ex,strp,binA,elems,cells,scalar,eqC,keyA,intsA,lookA,ofVs,mpOf,Nat.reduceBEq,reduceAdd,reduceSub,reduceLT,reduceLeDiff,reduceMul,reduceEqDiff,reduceIte,reg1,reg2,reg3,List.map_cons,List.map_nil,List.length_cons,List.length_nil])
  ((first
 | refine vn rfl ?_
 | simp (disch:=omega) only [wr64,Int.zero_sub]
 | refine bo (fun _=>?_) fun _=>?_
 | refine im fun _=>?_
 | ((repeat refine si ?_); (first | ((first | refine .inl ⟨_,_,_,_,rfl,fun _=>pu (by first | exact office_spec | exact sample_spec | exact f1 | exact f2 | exact f3 | exact f4 | exact f5 | exact f6 | exact note_spec 6 15 7 | exact sameInt [3,4] [3,4] (by decide) (by decide) | exact sameNm [⟨1,4⟩] [⟨1,4⟩] (by decide) (by decide)),?_⟩ | refine ⟨_,_,_,_,rfl,fun _=>pu (by first | exact office_spec | exact sample_spec | exact f1 | exact f2 | exact f3 | exact f4 | exact f5 | exact f6 | exact note_spec 6 15 7 | exact sameInt [3,4] [3,4] (by decide) (by decide) | exact sameNm [⟨1,4⟩] [⟨1,4⟩] (by decide) (by decide)),?_⟩); (first | refine o1 ?_ | refine o2 ?_ | refine o3 ?_ | refine o4 ?_)) | refine .inl ⟨_,_,_,_,rfl,pu (by first | exact office_spec | exact sample_spec | exact f1 | exact f2 | exact f3 | exact f4 | exact f5 | exact f6 | exact note_spec 6 15 7 | exact sameInt [3,4] [3,4] (by decide) (by decide) | exact sameNm [⟨1,4⟩] [⟨1,4⟩] (by decide) (by decide)),?_⟩))
 | refine cF ?_
 | refine om ?_
 | refine an ?_
 | fail) <;> try simp only [zN,zT,zV,zS,zU,vcC,lateX,ex,strp,binA,elems,cells,scalar,eqC,keyA,intsA,lookA,ofVs,mpOf,Nat.reduceBEq,reduceAdd,reduceSub,reduceLT,reduceLeDiff,reduceMul,reduceEqDiff,reduceIte,reg1,reg2,reg3,List.map_cons,List.map_nil,List.length_cons,List.length_nil])
  ((first
 | refine vn rfl ?_
 | simp (disch:=omega) only [wr64,Int.zero_sub]
 | refine bo (fun _=>?_) fun _=>?_
 | refine im fun _=>?_
 | ((repeat refine si ?_); (first | ((first | refine .inl ⟨_,_,_,_,rfl,fun _=>pu (by first | exact office_spec | exact sample_spec | exact f1 | exact f2 | exact f3 | exact f4 | exact f5 | exact f6 | exact note_spec 6 15 7 | exact sameInt [3,4] [3,4] (by decide) (by decide) | exact sameNm [⟨1,4⟩] [⟨1,4⟩] (by decide) (by decide)),?_⟩ | refine ⟨_,_,_,_,rfl,fun _=>pu (by first | exact office_spec | exact sample_spec | exact f1 | exact f2 | exact f3 | exact f4 | exact f5 | exact f6 | exact note_spec 6 15 7 | exact sameInt [3,4] [3,4] (by decide) (by decide) | exact sameNm [⟨1,4⟩] [⟨1,4⟩] (by decide) (by decide)),?_⟩); (first | refine o1 ?_ | refine o2 ?_ | refine o3 ?_ | refine o4 ?_)) | refine .inl ⟨_,_,_,_,rfl,pu (by first | exact office_spec | exact sample_spec | exact f1 | exact f2 | exact f3 | exact f4 | exact f5 | exact f6 | exact note_spec 6 15 7 | exact sameInt [3,4] [3,4] (by decide) (by decide) | exact sameNm [⟨1,4⟩] [⟨1,4⟩] (by decide) (by decide)),?_⟩))
 | refine cF ?_
 | refine om ?_
 | refine an ?_
 | fail) <;> try simp only [zN,zT,zV,zS,zU,vcC,lateX,ex,strp,binA,elems,cells,scalar,eqC,keyA,intsA,lookA,ofVs,mpOf,Nat.reduceBEq,reduceAdd,reduceSub,reduceLT,reduceLeDiff,reduceMul,reduceEqDiff,reduceIte,reg1,reg2,reg3,List.map_cons,List.map_nil,List.length_cons,List.length_nil])
  ((first
 | refine vn rfl ?_
 | simp (disch:=omega) only [wr64,Int.zero_sub]
 | refine bo (fun _=>?_) fun _=>?_
 | refine im fun _=>?_
 | ((repeat refine si ?_); (first | ((first | refine .inl ⟨_,_,_,_,rfl,fun _=>pu (by first | exact office_spec | exact sample_spec | exact f1 | exact f2 | exact f3 | exact f4 | exact f5 | exact f6 | exact note_spec 6 15 7 | exact sameInt [3,4] [3,4] (by decide) (by decide) | exact sameNm [⟨1,4⟩] [⟨1,4⟩] (by decide) (by decide)),?_⟩ | refine ⟨_,_,_,_,rfl,fun _=>pu (by first | exact office_spec | exact sample_spec | exact f1 | exact f2 | exact f3 | exact f4 | exact f5 | exact f6 | exact note_spec 6 15 7 | exact sameInt [3,4] [3,4] (by decide) (by decide) | exact sameNm [⟨1,4⟩] [⟨1,4⟩] (by decide) (by decide)),?_⟩); (first | refine o1 ?_ | refine o2 ?_ | refine o3 ?_ | refine o4 ?_)) | refine .inl ⟨_,_,_,_,rfl,pu (by first | exact office_spec | exact sample_spec | exact f1 | exact f2 | exact f3 | exact f4 | exact f5 | exact f6 | exact note_spec 6 15 7 | exact sameInt [3,4] [3,4] (by decide) (by decide) | exact sameNm [⟨1,4⟩] [⟨1,4⟩] (by decide) (by decide)),?_⟩))
 | refine cF ?_
 | refine om ?_
 | refine an ?_
 | fail) <;> try simp only [zN,zT,zV,zS,zU,vcC,lateX,ex,strp,binA,elems,cells,scalar,eqC,keyA,intsA,lookA,ofVs,mpOf,Nat.reduceBEq,reduceAdd,reduceSub,reduceLT,reduceLeDiff,reduceMul,reduceEqDiff,reduceIte,reg1,reg2,reg3,List.map_cons,List.map_nil,List.length_cons,List.length_nil])
  ((first
 | refine vn rfl ?_
 | simp (disch:=omega) only [wr64,Int.zero_sub]
 | refine bo (fun _=>?_) fun _=>?_
 | refine im fun _=>?_
 | ((repeat refine si ?_); (first | ((first | refine .inl ⟨_,_,_,_,rfl,fun _=>pu (by first | exact office_spec | exact sample_spec | exact f1 | exact f2 | exact f3 | exact f4 | exact f5 | exact f6 | exact note_spec 6 15 7 | exact sameInt [3,4] [3,4] (by decide) (by decide) | exact sameNm [⟨1,4⟩] [⟨1,4⟩] (by decide) (by decide)),?_⟩ | refine ⟨_,_,_,_,rfl,fun _=>pu (by first | exact office_spec | exact sample_spec | exact f1 | exact f2 | exact f3 | exact f4 | exact f5 | exact f6 | exact note_spec 6 15 7 | exact sameInt [3,4] [3,4] (by decide) (by decide) | exact sameNm [⟨1,4⟩] [⟨1,4⟩] (by decide) (by decide)),?_⟩); (first | refine o1 ?_ | refine o2 ?_ | refine o3 ?_ | refine o4 ?_)) | refine .inl ⟨_,_,_,_,rfl,pu (by first | exact office_spec | exact sample_spec | exact f1 | exact f2 | exact f3 | exact f4 | exact f5 | exact f6 | exact note_spec 6 15 7 | exact sameInt [3,4] [3,4] (by decide) (by decide) | exact sameNm [⟨1,4⟩] [⟨1,4⟩] (by decide) (by decide)),?_⟩))
 | refine cF ?_
 | refine om ?_
 | refine an ?_
 | fail) <;> try simp only [zN,zT,zV,zS,zU,vcC,lateX,ex,strp,binA,elems,cells,scalar,eqC,keyA,intsA,lookA,ofVs,mpOf,Nat.reduceBEq,reduceAdd,reduceSub,reduceLT,reduceLeDiff,reduceMul,reduceEqDiff,reduceIte,reg1,reg2,reg3,List.map_cons,List.map_nil,List.length_cons,List.length_nil])
  ((first
 | refine vn rfl ?_
 | simp (disch:=omega) only [wr64,Int.zero_sub]
 | refine bo (fun _=>?_) fun _=>?_
 | refine im fun _=>?_
 | ((repeat refine si ?_); (first | ((first | refine .inl ⟨_,_,_,_,rfl,fun _=>pu (by first | exact office_spec | exact sample_spec | exact f1 | exact f2 | exact f3 | exact f4 | exact f5 | exact f6 | exact note_spec 6 15 7 | exact sameInt [3,4] [3,4] (by decide) (by decide) | exact sameNm [⟨1,4⟩] [⟨1,4⟩] (by decide) (by decide)),?_⟩ | refine ⟨_,_,_,_,rfl,fun _=>pu (by first | exact office_spec | exact sample_spec | exact f1 | exact f2 | exact f3 | exact f4 | exact f5 | exact f6 | exact note_spec 6 15 7 | exact sameInt [3,4] [3,4] (by decide) (by decide) | exact sameNm [⟨1,4⟩] [⟨1,4⟩] (by decide) (by decide)),?_⟩); (first | refine o1 ?_ | refine o2 ?_ | refine o3 ?_ | refine o4 ?_)) | refine .inl ⟨_,_,_,_,rfl,pu (by first | exact office_spec | exact sample_spec | exact f1 | exact f2 | exact f3 | exact f4 | exact f5 | exact f6 | exact note_spec 6 15 7 | exact sameInt [3,4] [3,4] (by decide) (by decide) | exact sameNm [⟨1,4⟩] [⟨1,4⟩] (by decide) (by decide)),?_⟩))
 | refine cF ?_
 | refine om ?_
 | refine an ?_
 | fail) <;> try simp only [zN,zT,zV,zS,zU,vcC,lateX,ex,strp,binA,elems,cells,scalar,eqC,keyA,intsA,lookA,ofVs,mpOf,Nat.reduceBEq,reduceAdd,reduceSub,reduceLT,reduceLeDiff,reduceMul,reduceEqDiff,reduceIte,reg1,reg2,reg3,List.map_cons,List.map_nil,List.length_cons,List.length_nil])
  ((first
 | refine vn rfl ?_
 | simp (disch:=omega) only [wr64,Int.zero_sub]
 | refine bo (fun _=>?_) fun _=>?_
 | refine im fun _=>?_
 | ((repeat refine si ?_); (first | ((first | refine .inl ⟨_,_,_,_,rfl,fun _=>pu (by first | exact office_spec | exact sample_spec | exact f1 | exact f2 | exact f3 | exact f4 | exact f5 | exact f6 | exact note_spec 6 15 7 | exact sameInt [3,4] [3,4] (by decide) (by decide) | exact sameNm [⟨1,4⟩] [⟨1,4⟩] (by decide) (by decide)),?_⟩ | refine ⟨_,_,_,_,rfl,fun _=>pu (by first | exact office_spec | exact sample_spec | exact f1 | exact f2 | exact f3 | exact f4 | exact f5 | exact f6 | exact note_spec 6 15 7 | exact sameInt [3,4] [3,4] (by decide) (by decide) | exact sameNm [⟨1,4⟩] [⟨1,4⟩] (by decide) (by decide)),?_⟩); (first | refine o1 ?_ | refine o2 ?_ | refine o3 ?_ | refine o4 ?_)) | refine .inl ⟨_,_,_,_,rfl,pu (by first | exact office_spec | exact sample_spec | exact f1 | exact f2 | exact f3 | exact f4 | exact f5 | exact f6 | exact note_spec 6 15 7 | exact sameInt [3,4] [3,4] (by decide) (by decide) | exact sameNm [⟨1,4⟩] [⟨1,4⟩] (by decide) (by decide)),?_⟩))
 | refine cF ?_
 | refine om ?_
 | refine an ?_
 | fail) <;> try simp only [zN,zT,zV,zS,zU,vcC,lateX,ex,strp,binA,elems,cells,scalar,eqC,keyA,intsA,lookA,ofVs,mpOf,Nat.reduceBEq,reduceAdd,reduceSub,reduceLT,reduceLeDiff,reduceMul,reduceEqDiff,reduceIte,reg1,reg2,reg3,List.map_cons,List.map_nil,List.length_cons,List.length_nil])
  ((first
 | refine vn rfl ?_
 | simp (disch:=omega) only [wr64,Int.zero_sub]
 | refine bo (fun _=>?_) fun _=>?_
 | refine im fun _=>?_
 | ((repeat refine si ?_); (first | ((first | refine .inl ⟨_,_,_,_,rfl,fun _=>pu (by first | exact office_spec | exact sample_spec | exact f1 | exact f2 | exact f3 | exact f4 | exact f5 | exact f6 | exact note_spec 6 15 7 | exact sameInt [3,4] [3,4] (by decide) (by decide) | exact sameNm [⟨1,4⟩] [⟨1,4⟩] (by decide) (by decide)),?_⟩ | refine ⟨_,_,_,_,rfl,fun _=>pu (by first | exact office_spec | exact sample_spec | exact f1 | exact f2 | exact f3 | exact f4 | exact f5 | exact f6 | exact note_spec 6 15 7 | exact sameInt [3,4] [3,4] (by decide) (by decide) | exact sameNm [⟨1,4⟩] [⟨1,4⟩] (by decide) (by decide)),?_⟩); (first | refine o1 ?_ | refine o2 ?_ | refine o3 ?_ | refine o4 ?_)) | refine .inl ⟨_,_,_,_,rfl,pu (by first | exact office_spec | exact sample_spec | exact f1 | exact f2 | exact f3 | exact f4 | exact f5 | exact f6 | exact note_spec 6 15 7 | exact sameInt [3,4] [3,4] (by decide) (by decide) | exact sameNm [⟨1,4⟩] [⟨1,4⟩] (by decide) (by decide)),?_⟩))
 | refine cF ?_
 | refine om ?_
 | refine an ?_
 | fail) <;> try simp only [zN,zT,zV,zS,zU,vcC,lateX,ex,strp,binA,elems,cells,scalar,eqC,keyA,intsA,lookA,ofVs,mpOf,Nat.reduceBEq,reduceAdd,reduceSub,reduceLT,reduceLeDiff,reduceMul,reduceEqDiff,reduceIte,reg1,reg2,reg3,List.map_cons,List.map_nil,List.length_cons,List.length_nil])
  ((first
 | refine vn rfl ?_
 | simp (disch:=omega) only [wr64,Int.zero_sub]
 | refine bo (fun _=>?_) fun _=>?_
 | refine im fun _=>?_
 | ((repeat refine si ?_); (first | ((first | refine .inl ⟨_,_,_,_,rfl,fun _=>pu (by first | exact office_spec | exact sample_spec | exact f1 | exact f2 | exact f3 | exact f4 | exact f5 | exact f6 | exact note_spec 6 15 7 | exact sameInt [3,4] [3,4] (by decide) (by decide) | exact sameNm [⟨1,4⟩] [⟨1,4⟩] (by decide) (by decide)),?_⟩ | refine ⟨_,_,_,_,rfl,fun _=>pu (by first | exact office_spec | exact sample_spec | exact f1 | exact f2 | exact f3 | exact f4 | exact f5 | exact f6 | exact note_spec 6 15 7 | exact sameInt [3,4] [3,4] (by decide) (by decide) | exact sameNm [⟨1,4⟩] [⟨1,4⟩] (by decide) (by decide)),?_⟩); (first | refine o1 ?_ | refine o2 ?_ | refine o3 ?_ | refine o4 ?_)) | refine .inl ⟨_,_,_,_,rfl,pu (by first | exact office_spec | exact sample_spec | exact f1 | exact f2 | exact f3 | exact f4 | exact f5 | exact f6 | exact note_spec 6 15 7 | exact sameInt [3,4] [3,4] (by decide) (by decide) | exact sameNm [⟨1,4⟩] [⟨1,4⟩] (by decide) (by decide)),?_⟩))
 | refine cF ?_
 | refine om ?_
 | refine an ?_
 | fail) <;> try simp only [zN,zT,zV,zS,zU,vcC,lateX,ex,strp,binA,elems,cells,scalar,eqC,keyA,intsA,lookA,ofVs,mpOf,Nat.reduceBEq,reduceAdd,reduceSub,reduceLT,reduceLeDiff,reduceMul,reduceEqDiff,reduceIte,reg1,reg2,reg3,List.map_cons,List.map_nil,List.length_cons,List.length_nil])
  ((first
 | refine vn rfl ?_
 | simp (disch:=omega) only [wr64,Int.zero_sub]
 | refine bo (fun _=>?_) fun _=>?_
 | refine im fun _=>?_
 | ((repeat refine si ?_); (first | ((first | refine .inl ⟨_,_,_,_,rfl,fun _=>pu (by first | exact office_spec | exact sample_spec | exact f1 | exact f2 | exact f3 | exact f4 | exact f5 | exact f6 | exact note_spec 6 15 7 | exact sameInt [3,4] [3,4] (by decide) (by decide) | exact sameNm [⟨1,4⟩] [⟨1,4⟩] (by decide) (by decide)),?_⟩ | refine ⟨_,_,_,_,rfl,fun _=>pu (by first | exact office_spec | exact sample_spec | exact f1 | exact f2 | exact f3 | exact f4 | exact f5 | exact f6 | exact note_spec 6 15 7 | exact sameInt [3,4] [3,4] (by decide) (by decide) | exact sameNm [⟨1,4⟩] [⟨1,4⟩] (by decide) (by decide)),?_⟩); (first | refine o1 ?_ | refine o2 ?_ | refine o3 ?_ | refine o4 ?_)) | refine .inl ⟨_,_,_,_,rfl,pu (by first | exact office_spec | exact sample_spec | exact f1 | exact f2 | exact f3 | exact f4 | exact f5 | exact f6 | exact note_spec 6 15 7 | exact sameInt [3,4] [3,4] (by decide) (by decide) | exact sameNm [⟨1,4⟩] [⟨1,4⟩] (by decide) (by decide)),?_⟩))
 | refine cF ?_
 | refine om ?_
 | refine an ?_
 | fail) <;> try simp only [zN,zT,zV,zS,zU,vcC,lateX,ex,strp,binA,elems,cells,scalar,eqC,keyA,intsA,lookA,ofVs,mpOf,Nat.reduceBEq,reduceAdd,reduceSub,reduceLT,reduceLeDiff,reduceMul,reduceEqDiff,reduceIte,reg1,reg2,reg3,List.map_cons,List.map_nil,List.length_cons,List.length_nil])
  ((first
 | refine vn rfl ?_
 | simp (disch:=omega) only [wr64,Int.zero_sub]
 | refine bo (fun _=>?_) fun _=>?_
 | refine im fun _=>?_
 | ((repeat refine si ?_); (first | ((first | refine .inl ⟨_,_,_,_,rfl,fun _=>pu (by first | exact office_spec | exact sample_spec | exact f1 | exact f2 | exact f3 | exact f4 | exact f5 | exact f6 | exact note_spec 6 15 7 | exact sameInt [3,4] [3,4] (by decide) (by decide) | exact sameNm [⟨1,4⟩] [⟨1,4⟩] (by decide) (by decide)),?_⟩ | refine ⟨_,_,_,_,rfl,fun _=>pu (by first | exact office_spec | exact sample_spec | exact f1 | exact f2 | exact f3 | exact f4 | exact f5 | exact f6 | exact note_spec 6 15 7 | exact sameInt [3,4] [3,4] (by decide) (by decide) | exact sameNm [⟨1,4⟩] [⟨1,4⟩] (by decide) (by decide)),?_⟩); (first | refine o1 ?_ | refine o2 ?_ | refine o3 ?_ | refine o4 ?_)) | refine .inl ⟨_,_,_,_,rfl,pu (by first | exact office_spec | exact sample_spec | exact f1 | exact f2 | exact f3 | exact f4 | exact f5 | exact f6 | exact note_spec 6 15 7 | exact sameInt [3,4] [3,4] (by decide) (by decide) | exact sameNm [⟨1,4⟩] [⟨1,4⟩] (by decide) (by decide)),?_⟩))
 | refine cF ?_
 | refine om ?_
 | refine an ?_
 | fail) <;> try simp only [zN,zT,zV,zS,zU,vcC,lateX,ex,strp,binA,elems,cells,scalar,eqC,keyA,intsA,lookA,ofVs,mpOf,Nat.reduceBEq,reduceAdd,reduceSub,reduceLT,reduceLeDiff,reduceMul,reduceEqDiff,reduceIte,reg1,reg2,reg3,List.map_cons,List.map_nil,List.length_cons,List.length_nil])
  ((first
 | refine vn rfl ?_
 | simp (disch:=omega) only [wr64,Int.zero_sub]
 | refine bo (fun _=>?_) fun _=>?_
 | refine im fun _=>?_
 | ((repeat refine si ?_); (first | ((first | refine .inl ⟨_,_,_,_,rfl,fun _=>pu (by first | exact office_spec | exact sample_spec | exact f1 | exact f2 | exact f3 | exact f4 | exact f5 | exact f6 | exact note_spec 6 15 7 | exact sameInt [3,4] [3,4] (by decide) (by decide) | exact sameNm [⟨1,4⟩] [⟨1,4⟩] (by decide) (by decide)),?_⟩ | refine ⟨_,_,_,_,rfl,fun _=>pu (by first | exact office_spec | exact sample_spec | exact f1 | exact f2 | exact f3 | exact f4 | exact f5 | exact f6 | exact note_spec 6 15 7 | exact sameInt [3,4] [3,4] (by decide) (by decide) | exact sameNm [⟨1,4⟩] [⟨1,4⟩] (by decide) (by decide)),?_⟩); (first | refine o1 ?_ | refine o2 ?_ | refine o3 ?_ | refine o4 ?_)) | refine .inl ⟨_,_,_,_,rfl,pu (by first | exact office_spec | exact sample_spec | exact f1 | exact f2 | exact f3 | exact f4 | exact f5 | exact f6 | exact note_spec 6 15 7 | exact sameInt [3,4] [3,4] (by decide) (by decide) | exact sameNm [⟨1,4⟩] [⟨1,4⟩] (by decide) (by decide)),?_⟩))
 | refine cF ?_
 | refine om ?_
 | refine an ?_
 | fail) <;> try simp only [zN,zT,zV,zS,zU,vcC,lateX,ex,strp,binA,elems,cells,scalar,eqC,keyA,intsA,lookA,ofVs,mpOf,Nat.reduceBEq,reduceAdd,reduceSub,reduceLT,reduceLeDiff,reduceMul,reduceEqDiff,reduceIte,reg1,reg2,reg3,List.map_cons,List.map_nil,List.length_cons,List.length_nil])
  ((first
 | refine vn rfl ?_
 | simp (disch:=omega) only [wr64,Int.zero_sub]
 | refine bo (fun _=>?_) fun _=>?_
 | refine im fun _=>?_
 | ((repeat refine si ?_); (first | ((first | refine .inl ⟨_,_,_,_,rfl,fun _=>pu (by first | exact office_spec | exact sample_spec | exact f1 | exact f2 | exact f3 | exact f4 | exact f5 | exact f6 | exact note_spec 6 15 7 | exact sameInt [3,4] [3,4] (by decide) (by decide) | exact sameNm [⟨1,4⟩] [⟨1,4⟩] (by decide) (by decide)),?_⟩ | refine ⟨_,_,_,_,rfl,fun _=>pu (by first | exact office_spec | exact sample_spec | exact f1 | exact f2 | exact f3 | exact f4 | exact f5 | exact f6 | exact note_spec 6 15 7 | exact sameInt [3,4] [3,4] (by decide) (by decide) | exact sameNm [⟨1,4⟩] [⟨1,4⟩] (by decide) (by decide)),?_⟩); (first | refine o1 ?_ | refine o2 ?_ | refine o3 ?_ | refine o4 ?_)) | refine .inl ⟨_,_,_,_,rfl,pu (by first | exact office_spec | exact sample_spec | exact f1 | exact f2 | exact f3 | exact f4 | exact f5 | exact f6 | exact note_spec 6 15 7 | exact sameInt [3,4] [3,4] (by decide) (by decide) | exact sameNm [⟨1,4⟩] [⟨1,4⟩] (by decide) (by decide)),?_⟩))
 | refine cF ?_
 | refine om ?_
 | refine an ?_
 | fail) <;> try simp only [zN,zT,zV,zS,zU,vcC,lateX,ex,strp,binA,elems,cells,scalar,eqC,keyA,intsA,lookA,ofVs,mpOf,Nat.reduceBEq,reduceAdd,reduceSub,reduceLT,reduceLeDiff,reduceMul,reduceEqDiff,reduceIte,reg1,reg2,reg3,List.map_cons,List.map_nil,List.length_cons,List.length_nil])
  (repeat' ((first
 | refine vn rfl ?_
 | simp (disch:=omega) only [wr64,Int.zero_sub]
 | refine bo (fun _=>?_) fun _=>?_
 | refine im fun _=>?_
 | ((repeat refine si ?_); (first | ((first | refine .inl ⟨_,_,_,_,rfl,fun _=>pu (by first | exact office_spec | exact sampleF_spec | exact f1 | exact f2 | exact f3 | exact f4 | exact f5 | exact f6 | exact note_spec 6 15 7 | exact sameInt [3,4] [3,4] (by decide) (by decide) | exact sameNm [⟨1,4⟩] [⟨1,4⟩] (by decide) (by decide)),?_⟩ | refine ⟨_,_,_,_,rfl,fun _=>pu (by first | exact office_spec | exact sampleF_spec | exact f1 | exact f2 | exact f3 | exact f4 | exact f5 | exact f6 | exact note_spec 6 15 7 | exact sameInt [3,4] [3,4] (by decide) (by decide) | exact sameNm [⟨1,4⟩] [⟨1,4⟩] (by decide) (by decide)),?_⟩); (first | refine o1 ?_ | refine o2 ?_ | refine o3 ?_ | refine o4 ?_)) | refine .inl ⟨_,_,_,_,rfl,pu (by first | exact office_spec | exact sampleF_spec | exact f1 | exact f2 | exact f3 | exact f4 | exact f5 | exact f6 | exact note_spec 6 15 7 | exact sameInt [3,4] [3,4] (by decide) (by decide) | exact sameNm [⟨1,4⟩] [⟨1,4⟩] (by decide) (by decide)),?_⟩))
 | refine cF ?_
 | refine om ?_
 | refine an ?_
 | fail) <;> try simp only [zN,zT,zV,zS,zU,vcC,lateX,ex,strp,binA,elems,cells,scalar,eqC,keyA,intsA,lookA,ofVs,mpOf,Nat.reduceBEq,reduceAdd,reduceSub,reduceLT,reduceLeDiff,reduceMul,reduceEqDiff,reduceIte,reg1,reg2,reg3,List.map_cons,List.map_nil,List.length_cons,List.length_nil]))
  refine ⟨⟨by simp,by simp [sampL],by decide⟩,?_⟩
  have happ:∀ r,r=Nt.cs outN→List.map Nt.cs sampL++[r]=(sampL++[outN]).map Nt.cs:=by rintro _ rfl; simp
  rw [happ]
  rotate_left
  · rfl
  clear happ
  generalize sampL++[outN]=sx at f6 ⊢
  (repeat' ((first
 | refine vn rfl ?_
 | simp (disch:=omega) only [wr64,Int.zero_sub]
 | refine bo (fun _=>?_) fun _=>?_
 | refine im fun _=>?_
 | ((repeat refine si ?_); (first | ((first | refine .inl ⟨_,_,_,_,rfl,fun _=>pu (by first | exact office_spec | exact sampleF_spec | exact f1 | exact f2 | exact f3 | exact f4 | exact f5 | exact f6 | exact note_spec 6 15 7 | exact sameInt [3,4] [3,4] (by decide) (by decide) | exact sameNm [⟨1,4⟩] [⟨1,4⟩] (by decide) (by decide)),?_⟩ | refine ⟨_,_,_,_,rfl,fun _=>pu (by first | exact office_spec | exact sampleF_spec | exact f1 | exact f2 | exact f3 | exact f4 | exact f5 | exact f6 | exact note_spec 6 15 7 | exact sameInt [3,4] [3,4] (by decide) (by decide) | exact sameNm [⟨1,4⟩] [⟨1,4⟩] (by decide) (by decide)),?_⟩); (first | refine o1 ?_ | refine o2 ?_ | refine o3 ?_ | refine o4 ?_)) | refine .inl ⟨_,_,_,_,rfl,pu (by first | exact office_spec | exact sampleF_spec | exact f1 | exact f2 | exact f3 | exact f4 | exact f5 | exact f6 | exact note_spec 6 15 7 | exact sameInt [3,4] [3,4] (by decide) (by decide) | exact sameNm [⟨1,4⟩] [⟨1,4⟩] (by decide) (by decide)),?_⟩))
 | refine cF ?_
 | refine om ?_
 | refine an ?_
 | fail) <;> try simp only [zN,zT,zV,zS,zU,vcC,lateX,ex,strp,binA,elems,cells,scalar,eqC,keyA,intsA,lookA,ofVs,mpOf,Nat.reduceBEq,reduceAdd,reduceSub,reduceLT,reduceLeDiff,reduceMul,reduceEqDiff,reduceIte,reg1,reg2,reg3,List.map_cons,List.map_nil,List.length_cons,List.length_nil]))
  all_goals exact Frz.eq rfl (by simp)
end Go.Proofs.YtolgelipcgcbhaaGreat
namespace Go.Abs
set_option linter.unusedVariables false
set_option linter.unusedSimpArgs false
theorem nm_inj:∀ {S:List Nt},(S.map Nt.nm).Nodup→∀ {a b:Nt},a∈S→b∈S→a.nm=b.nm→a=b
  | [],_,_,_,h,_,_=>by cases h
  | x::r,hn,a,b,ha,hb,e=>by
    rw [List.map_cons,List.nodup_cons] at hn
    rcases List.mem_cons.1 ha with rfl | ha' <;> rcases List.mem_cons.1 hb with rfl | hb'
    · rfl
    · exact absurd (List.mem_map.2 ⟨b,hb',e.symm⟩) hn.1
    · exact absurd (List.mem_map.2 ⟨a,ha',e⟩) hn.1
    · exact nm_inj hn.2 ha' hb' e
def fq (S:List Nt) (q:Nt→Bool) (m:Nm):Option Nt:=S.find? fun a=>decide (a.nm=m) && q a
theorem fq_some {S:List Nt} (hn:(S.map Nt.nm).Nodup) {q:Nt→Bool} {m:Nm} {a:Nt}:fq S q m=some a↔a∈S∧a.nm=m∧q a=true:=by
  constructor
  · intro h
    have h1:=List.find?_some h
    simp only [Bool.and_eq_true,decide_eq_true_eq] at h1
    exact ⟨List.mem_of_find?_eq_some h,h1.1,h1.2⟩
  · rintro ⟨h1,h2,h3⟩
    cases h:fq S q m with
    | none =>
      have:=List.find?_eq_none.1 h a h1
      simp [h2,h3] at this
    | some b =>
      have h4:=List.find?_some h
      simp only [Bool.and_eq_true,decide_eq_true_eq] at h4
      rw [nm_inj hn (List.mem_of_find?_eq_some h) h1 (h4.1.trans h2.symm)]
theorem fq_none {S:List Nt} {q:Nt→Bool} {m:Nm}:fq S q m=none↔∀ a∈S,a.nm=m→q a=false:=by
  unfold fq
  rw [List.find?_eq_none]
  constructor
  · intro h a ha e
    have:=h a ha
    simpa [e] using this
  · intro h a ha
    have:=h a ha
    by_cases e:a.nm=m
    · simp [e,this e]
    · simp [e]
theorem fq_snoc {p:List Nt} {q:Nt→Bool} {a:Nt} (h:a.nm ∉ p.map Nt.nm) (m:Nm):fq (p++[a]) q m=if m=a.nm then (if q a then some a else none) else fq p q m:=by
  unfold fq
  rw [List.find?_append]
  by_cases e:m=a.nm
  · rw [if_pos e]
    have:fq p q m=none:=fq_none.2 fun x hx hxm=>absurd (List.mem_map.2 ⟨x,hx,hxm.trans e⟩) h
    unfold fq at this
    rw [this]
    cases hq:q a <;> simp [e,hq]
  · rw [if_neg e]
    have e':¬ a.nm=m:=fun h=>e h.symm
    simp [e']
theorem foldl_pre {α β:Type} {G:α→β→α} (I:List β→α→Prop) {l:List β} {x:α} (h:∀ p a s x,l=p++a::s→I p x→I (p++[a]) (G x a)) (h0:I [] x):I l (l.foldl G x):=by
  have key:∀ (s p:List β) (x:α),l=p++s→I p x→I l (s.foldl G x):=by
    intro s
    induction s with
    | nil=>intro p x e hx; rw [List.append_nil] at e; rw [e]; exact hx
    | cons a s ih=>intro p x e hx; exact ih (p++[a]) (G x a) (by simpa using e) (h p a s x e hx)
  exact key l [] x rfl h0
def kd (k:Int):Nt→Bool:=fun a=>decide (a.kind=k)
abbrev shN (S:List Nt):Nm→Option Nt:=fq S (kd 1)
def colT (s:Nt) (c:Int):Bool:=decide (c≤(s.sheet.rates.length:Int))
def mkd (S:List Nt) (a:Nt):Bool:=match shN S a.ref with
  | none=>false
  | some s=>colT s a.mark.col
def bef (S:List Nt) (a:Nt):List Nt:=S.takeWhile fun x=>decide (x.nm≠a.nm)
def onT (m:Nm):Nt→Bool:=fun x=>decide (x.ref=m)
def cnt (S:List Nt) (a:Nt):Bool:=mkd S a && decide (((bef S a).filter fun x=>kd 2 x && (onT a.ref x && mkd S x)).length < 64)
def corr (S:List Nt) (a:Nt):Bool:=match fq S (fun _=>true) a.ref with
  | none=>false
  | some k=>if a.read.stn≠0 then kd 3 k else kd 2 k && (cnt S k && (match shN S k.ref with
    | none=>false
    | some s=>colT s a.mark.col))
def knw (S:List Nt) (a:Nt):Nt:=((S.filter fun k=>kd 6 k && (onT a.nm k && corr S k)).getLast?).getD a
def flg (S:List Nt) (a:Nt):Nt:=((S.filter fun k=>kd 5 k && onT a.nm k).getLast?).getD a
def mks (S:List Nt) (m:Nm):List Nt:=S.filter fun k=>kd 2 k && (onT m k && cnt S k)
def fld (S:List Nt) (a:Nt):Fld:=⟨a.nm,(flg S a).stn,(flg S a).week,a.sheet,(mks S a.nm).map fun k=>(knw S k).mark,(mks S a.nm).map Nt.nm⟩
def entR (S:List Nt) (rs:List Fld) (a:Nt):List Fld:=if (sheetAt rs (fld S a).stn (fld S a).week).isSome then rs else rs++[fld S a]
def takenB (S:List Nt) (rs:List Fld) (a:Nt):Bool:=(sheetAt rs (fld S a).stn (fld S a).week).isSome
def shsR (S T:List Nt):List Fld:=(T.filter (kd 1)).foldl (entR S) []
def movR (st:List Stn) (a:Nt):Stn × Int:=moveE (st.getD (stnOf st a.stn).1 default) a.height
def raiR (st:List Stn) (a:Nt):List Stn:=if (movR st a).2≠0 then st else st.set (stnOf st a.stn).1 (movR st a).1
def stsR (st:List Stn) (T:List Nt):List Stn:=(T.filter (kd 4)).foldl raiR st
def badS (b:Bse) (S:List Nt) (a:Nt):Bool :=
  if a.kind=1 then takenB S (shsR S (bef S a)) a
  else if a.kind=2 then !cnt S a
  else if a.kind=4 then decide ((movR (stsR b.stns (bef S a)) a).2≠0)
  else if a.kind=5 then (shN S a.ref).isNone
  else if a.kind=6 then !corr S a
  else false
def badR (b:Bse) (l:List Nt) (a:Nt):Bool :=
  if a.kind=7 then (match fq l (fun _=>true) a.ref with
    | none=>true
    | some m=>decide (m.kind=7))
  else !goneT l a.nm && badS b (standT l) a
def refT (b:Bse) (l:List Nt):Rgr :=
  let S:=standT l
  ⟨shsR S S,(S.filter (kd 3)).map fun a=>(knw S a).read,stsR b.stns S,(l.filter (badR b l)).map Nt.nm⟩
theorem bef_app {u v:List Nt} {a:Nt} (h:((u++a::v).map Nt.nm).Nodup):bef (u++a::v) a=u:=by
  unfold bef
  rw [List.takeWhile_append_of_pos]
  · simp
  · intro x hx
    rw [decide_eq_true_eq]
    intro e
    rw [List.map_append,List.nodup_append] at h
    exact h.2.2 _ (List.mem_map.2 ⟨x,hx,rfl⟩) _ (List.mem_map.2 ⟨a,by simp,rfl⟩) e
theorem last_snoc {α:Type} (p:List α) (q:α→Bool) (a d:α):(((p++[a]).filter q).getLast?).getD d=if q a then a else ((p.filter q).getLast?).getD d:=by
  rw [List.filter_append]
  cases h:q a <;> simp [h]
theorem mem_snoc {α:Type} {p:List α} {a x:α}:x∈p++[a]↔x∈p∨x=a:=by simp
theorem fq_self {S:List Nt} (hn:(S.map Nt.nm).Nodup) {q:Nt→Bool} {a:Nt} (h:a∈S) (hq:q a=true):fq S q a.nm=some a:=(fq_some hn).2 ⟨h,rfl,hq⟩
theorem kd_iff {k:Int} {a:Nt}:kd k a=true↔a.kind=k:=by simp [kd]
theorem kd_ff {k:Int} {a:Nt}:kd k a=false↔a.kind≠k:=by simp [kd]
def clS (C:List (Nm × Bool)) (P:Nm→Prop):Prop:=∀ m,kget C m=some true↔P m
theorem clS.set {C:List (Nm × Bool)} {P:Nm→Prop} (h:clS C P) (k:Nm):clS (kset C k true) fun m=>m=k∨P m:=fun m=>by
  rw [kget_kset]
  by_cases e:m=k
  · simp [e]
  · simp [e,h m]
theorem mem_standT {l:List Nt} {a:Nt}:a∈standT l↔a∈l∧a.kind≠7∧goneT l a.nm=false:=by
  unfold standT
  rw [List.mem_filter,(srtT_perm _).mem_iff,List.mem_filter]
  simp [and_assoc]
theorem sorted_ext {lt:Nt→Nt→Prop} (has:∀ a b,lt a b→¬ lt b a):∀ {l m:List Nt},l.Pairwise lt→m.Pairwise lt→(∀ a,a∈l↔a∈m)→l=m
  | [],[],_,_,_=>rfl
  | [],b::s,_,_,h=>absurd ((h b).2 (by simp)) (by simp)
  | a::r,[],_,_,h=>absurd ((h a).1 (by simp)) (by simp)
  | a::r,b::s,h1,h2,h=>by
    rw [List.pairwise_cons] at h1 h2
    have hab:a=b:=by
      rcases List.mem_cons.1 ((h a).1 (by simp)) with e | ha
      · exact e
      rcases List.mem_cons.1 ((h b).2 (by simp)) with e | hb
      · exact e.symm
      exact absurd (h1.1 b hb) (has _ _ (h2.1 a ha))
    subst hab
    rw [sorted_ext has h1.2 h2.2 fun x=>?_]
    have hx:=h x
    simp only [List.mem_cons] at hx
    constructor
    · intro hr
      rcases hx.1 (.inr hr) with rfl | hs
      · exact absurd (h1.1 x hr) (has _ _ (h1.1 x hr))
      · exact hs
    · intro hs
      rcases hx.2 (.inr hs) with rfl | hr
      · exact absurd (h2.1 x hs) (has _ _ (h2.1 x hs))
      · exact hr
theorem cmpT_as (a b:Nt) (h:cmpT a b < 0):¬ cmpT b a < 0:=by
  have h1:=@cmpT_lt a b
  have h2:=@cmpT_lt b a
  omega
theorem standT_lt {l:List Nt} (hn:(l.map Nt.nm).Nodup):(standT l).Pairwise (fun x y=>cmpT x y < 0):=by
  unfold standT
  have hn':((srtT (l.filter fun a=>a.kind != 7)).map Nt.nm).Nodup:=((srtT_perm _).map Nt.nm).nodup_iff.2 (hn.sublist (List.filter_sublist.map _))
  rw [List.Nodup,List.pairwise_map] at hn'
  refine List.Pairwise.filter _ ((List.Pairwise.and (srtT_le _) hn').imp fun {x y} ⟨h,h'⟩=>?_)
  have g1:=@cmpT_eq x y
  have g2:=@cmpT_gt x y
  have:¬ cmpT x y=0:=fun e=>h' (g1.1 e).2.2
  omega
theorem gone_snoc (l:List Nt) (w:Nt) (m:Nm):goneT (l++[w]) m=(goneT l m || (w.kind == 7 && w.ref == m)):=by simp [goneT]
theorem gone_iff {l:List Nt} {m:Nm}:goneT l m=true↔∃ a∈l,a.kind=7∧a.ref=m:=by simp [goneT]
theorem stand_snoc {l:List Nt} {w:Nt} (hn:((l++[w]).map Nt.nm).Nodup) (hlt:∀ a∈l,cmpT a w < 0) (hk:w.kind≠7) (hr:∀ a∈l,a.ref≠w.nm):standT (l++[w])=standT l++[w]:=by
  have hl:(l.map Nt.nm).Nodup:=hn.sublist ((List.sublist_append_left l [w]).map _)
  refine sorted_ext cmpT_as (standT_lt hn) (List.pairwise_append.2 ⟨standT_lt hl,by simp,fun a ha x hx=>?_⟩) fun a=>?_
  · simp only [List.mem_singleton] at hx
    subst hx
    exact hlt a (mem_standT.1 ha).1
  · have hg:∀ m,goneT (l++[w]) m=goneT l m:=fun m=>by rw [gone_snoc]; simp [hk]
    rw [mem_standT,mem_snoc,mem_snoc,mem_standT,hg]
    constructor
    · rintro ⟨h1 | h1,h2,h3⟩
      · exact .inl ⟨h1,h2,h3⟩
      · exact .inr h1
    · rintro (⟨h1,h2,h3⟩ | rfl)
      · exact ⟨.inl h1,h2,h3⟩
      · refine ⟨.inr rfl,hk,?_⟩
        cases h:goneT l a.nm with
        | false=>rfl
        | true =>
          obtain ⟨c,h1,h2,h3⟩:=gone_iff.1 h
          exact absurd h3 (hr c h1)
def samP (S:List Nt) (a x:Nt):Bool:=(flg S x).stn == (flg S a).stn && (flg S x).week == (flg S a).week
def entA (S:List Nt) (rs:List Nt) (a:Nt):List Nt:=if rs.any (samP S a) then rs else rs++[a]
def entN (S T:List Nt):List Nt:=(T.filter (kd 1)).foldl (entA S) []
theorem sheetAt_map (S:List Nt) (rs:List Nt) (a:Nt):(sheetAt (rs.map (fld S)) (fld S a).stn (fld S a).week).isSome=rs.any (samP S a):=by
  unfold sheetAt
  rw [List.findIdx?_isSome,List.any_map]; rfl
theorem shsR_ent (S T:List Nt):shsR S T=(entN S T).map (fld S):=by
  have key:∀ (L:List Nt) (rs:List Nt),L.foldl (entR S) (rs.map (fld S))=(L.foldl (entA S) rs).map (fld S):=by
    intro L
    induction L with
    | nil=>intro rs; rfl
    | cons a L ih =>
      intro rs
      rw [List.foldl_cons,List.foldl_cons,← ih]
      congr 1
      unfold entR entA
      rw [sheetAt_map]
      split
      · rfl
      · simp
  exact key _ []
theorem takenB_ent (S T:List Nt) (a:Nt):takenB S (shsR S T) a=(entN S T).any (samP S a):=by
  unfold takenB
  rw [shsR_ent,sheetAt_map]
theorem entN_sub (S T:List Nt):(entN S T).Sublist (T.filter (kd 1)):=by
  unfold entN
  refine foldl_pre (G:=entA S) (l:=T.filter (kd 1)) (x:=[]) (fun p x=>x.Sublist p) (fun p a s x _ h=>?_) (List.Sublist.refl _)
  unfold entA
  split
  · exact h.trans (List.sublist_append_left _ _)
  · exact h.append (List.Sublist.refl _)
theorem entN_snoc (S T:List Nt) (w:Nt):entN S (T++[w])=if w.kind=1 then entA S (entN S T) w else entN S T:=by
  unfold entN
  rw [List.filter_append,List.foldl_append]
  by_cases h:w.kind=1
  · rw [if_pos h,List.filter_cons_of_pos (kd_iff.2 h)]; rfl
  · rw [if_neg h,List.filter_cons_of_neg (by rw [kd_iff]; exact h)]; rfl
theorem entN_cong {S T:List Nt} (h:∀ a,flg T a=flg S a) (L:List Nt):entN T L=entN S L:=by
  have:entA T=entA S:=by
    funext rs a
    have e:samP T a=samP S a:=by funext x; unfold samP; rw [h,h]
    unfold entA; rw [e]
  unfold entN; rw [this]
structure Beh (S:List Nt) (w:Nt):Prop where
  nd:((S++[w]).map Nt.nm).Nodup
  rf:∀ a∈S,a.ref≠w.nm
  own:w.ref≠w.nm
section
variable {S:List Nt} {w:Nt} (B:Beh S w)
include B
theorem Beh.ndS:(S.map Nt.nm).Nodup:=B.nd.sublist ((List.sublist_append_left S [w]).map _)
theorem Beh.out:w.nm ∉ S.map Nt.nm:=by
  have h:=B.nd
  rw [List.map_append,List.nodup_append] at h
  intro hm
  exact h.2.2 _ hm w.nm (by simp) rfl
theorem Beh.fq (q:Nt→Bool) {m:Nm} (h:m≠w.nm):fq (S++[w]) q m=fq S q m:=by rw [fq_snoc B.out,if_neg h]
theorem Beh.bef {a:Nt} (h:a∈S):bef (S++[w]) a=bef S a:=by
  obtain ⟨u,v,rfl⟩:=List.append_of_mem h
  have h1:=B.nd
  rw [List.append_assoc,List.cons_append] at h1 ⊢
  rw [bef_app h1,bef_app B.ndS]
theorem Beh.befw:Go.Abs.bef (S++[w]) w=S:=bef_app (v:=[]) B.nd
theorem Beh.sh {m:Nm} (h:m≠w.nm):shN (S++[w]) m=shN S m:=B.fq (kd 1) h
theorem Beh.mkd {a:Nt} (h:a.ref≠w.nm):mkd (S++[w]) a=mkd S a:=by unfold Go.Abs.mkd; rw [B.sh h]
theorem Beh.mkf {L:List Nt} (hL:∀ x∈L,x∈S) (m:Nm):(L.filter fun x=>kd 2 x && (onT m x && Go.Abs.mkd (S++[w]) x))=L.filter fun x=>kd 2 x && (onT m x && Go.Abs.mkd S x) :=
  List.filter_congr fun x hx=>by rw [B.mkd (B.rf x (hL x hx))]
theorem Beh.cnt {a:Nt} (h:a∈S):cnt (S++[w]) a=cnt S a:=by
  unfold Go.Abs.cnt
  rw [B.mkd (B.rf a h),B.bef h,B.mkf (L:=Go.Abs.bef S a) (fun x hx=>(List.takeWhile_sublist _).subset hx)]
theorem Beh.cntw:Go.Abs.cnt (S++[w]) w=(Go.Abs.mkd S w && decide ((S.filter fun x=>kd 2 x && (onT w.ref x && Go.Abs.mkd S x)).length < 64)):=by
  unfold Go.Abs.cnt
  rw [B.mkd B.own,B.befw,B.mkf (fun x hx=>hx)]
theorem Beh.corr {a:Nt} (h:a.ref≠w.nm):corr (S++[w]) a=corr S a:=by
  unfold Go.Abs.corr
  rw [B.fq _ h]
  cases hf:Go.Abs.fq S (fun _=>true) a.ref with
  | none=>rfl
  | some k =>
    have hk:=((fq_some B.ndS).1 hf).1
    simp only
    rw [B.cnt hk,B.sh (B.rf k hk)]
theorem Beh.knw (a:Nt):knw (S++[w]) a=if kd 6 w && (onT a.nm w && Go.Abs.corr S w) then w else knw S a:=by
  unfold Go.Abs.knw
  rw [last_snoc,B.corr B.own]
  congr 3
  exact List.filter_congr fun x hx=>by rw [B.corr (B.rf x hx)]
theorem Beh.knw_ne (hk:w.kind≠6) (a:Nt):Go.Abs.knw (S++[w]) a=Go.Abs.knw S a:=by
  rw [B.knw,kd_ff.2 hk]; simp
omit B in
theorem flg_snoc (a:Nt):flg (S++[w]) a=if kd 5 w && onT a.nm w then w else flg S a:=by
  unfold flg
  rw [last_snoc]
omit B in
theorem flg_ne (hk:w.kind≠5) (a:Nt):flg (S++[w]) a=flg S a:=by rw [flg_snoc,kd_ff.2 hk]; simp
theorem Beh.mks (m:Nm):mks (S++[w]) m=mks S m++if kd 2 w && (onT m w && Go.Abs.cnt (S++[w]) w) then [w] else []:=by
  unfold Go.Abs.mks
  rw [List.filter_append]
  congr 1
  · exact List.filter_congr fun x hx=>by rw [B.cnt hx]
  · cases h:(kd 2 w && (onT m w && Go.Abs.cnt (S++[w]) w)) <;> simp [h]
theorem Beh.mks_ne (hk:w.kind≠2) (m:Nm):Go.Abs.mks (S++[w]) m=Go.Abs.mks S m:=by rw [B.mks,kd_ff.2 hk]; simp
theorem Beh.fld (h2:w.kind≠2) (h5:w.kind≠5) (h6:w.kind≠6) (a:Nt):fld (S++[w]) a=fld S a:=by
  unfold Go.Abs.fld
  rw [flg_ne h5,B.mks_ne h2]
  simp only [B.knw_ne h6]
theorem Beh.none (q:Nt→Bool):(S.filter fun k=>q k && onT w.nm k)=[]:=by
  rw [List.filter_eq_nil_iff]
  intro x hx
  simp [onT,B.rf x hx]
theorem Beh.knww (h6:w.kind≠6):Go.Abs.knw (S++[w]) w=w:=by
  rw [B.knw_ne h6]
  unfold Go.Abs.knw
  have:(S.filter fun k=>kd 6 k && (onT w.nm k && Go.Abs.corr S k))=[]:=by
    rw [List.filter_eq_nil_iff]
    intro x hx
    simp [onT,B.rf x hx]
  rw [this]; rfl
end
theorem badS_snoc {b:Bse} {S:List Nt} {w:Nt} (B:Beh S w) (h5:w.kind≠5) {a:Nt} (h:a∈S):badS b (S++[w]) a=badS b S a:=by
  have hf:∀ x,flg (S++[w]) x=flg S x:=flg_ne h5
  have hs:samP (S++[w]) a=samP S a:=by funext x; unfold samP; rw [hf,hf]
  unfold badS
  rw [takenB_ent,takenB_ent,B.bef h,entN_cong hf,hs,B.cnt h,B.sh (B.rf a h),B.corr (B.rf a h)]
theorem badR_snoc {b:Bse} {l:List Nt} {w:Nt} (hn:((l++[w]).map Nt.nm).Nodup) (hk:w.kind≠7) (hr:∀ a∈l,a.ref≠w.nm) (hs:standT (l++[w])=standT l++[w])
    (hb:∀ a∈standT l,badS b (standT l++[w]) a=badS b (standT l) a):((l++[w]).filter (badR b (l++[w]))).map Nt.nm=(l.filter (badR b l)).map Nt.nm++if badS b (standT l++[w]) w then [w.nm] else []:=by
  have hg:∀ m,goneT (l++[w]) m=goneT l m:=fun m=>by rw [gone_snoc]; simp [hk]
  have out:w.nm ∉ l.map Nt.nm:=by
    rw [List.map_append,List.nodup_append] at hn
    intro hm
    exact hn.2.2 _ hm w.nm (by simp) rfl
  rw [List.filter_append,List.map_append]
  congr 1
  · congr 1
    refine List.filter_congr fun a ha=>?_
    unfold badR
    by_cases h7:a.kind=7
    · rw [if_pos h7,if_pos h7,fq_snoc out,if_neg (hr a ha)]
    · rw [if_neg h7,if_neg h7,hg,hs]
      cases hgo:goneT l a.nm with
      | true=>rfl
      | false=>rw [hb a (mem_standT.2 ⟨ha,h7,hgo⟩)]
  · have hgw:goneT l w.nm=false:=by
      cases h:goneT l w.nm with
      | false=>rfl
      | true =>
        obtain ⟨c,h1,h2,h3⟩:=gone_iff.1 h
        exact absurd h3 (hr c h1)
    have:badR b (l++[w]) w=badS b (standT l++[w]) w:=by
      unfold badR
      rw [if_neg hk,hg,hgw,hs]; rfl
    cases h:badS b (standT l++[w]) w <;> simp [this,h]
structure More (b:Bse) (l:List Nt) (w:Nt):Prop where
  ok:(setE b (l++[w])).1=0
  rf:∀ a∈l,a.ref≠w.nm
  own:w.ref≠w.nm
  k7:w.kind≠7
  day:w.day=10000
  clk:w.clock=1099511627776
section
variable {b:Bse} {l:List Nt} {w:Nt} (M:More b l w)
include M
theorem More.nd:((l++[w]).map Nt.nm).Nodup:=setE_nodup M.ok
theorem More.lt:∀ a∈l,cmpT a w < 0:=fun a ha=>by
  obtain ⟨h1,h2,h3,h4⟩:=setE_ok M.ok
  have h5:=(h3 a (by simp [ha])).2.2
  rw [List.map_append,List.pairwise_append] at h4
  have h6:=h4.2.2 a.nm (List.mem_map.2 ⟨a,ha,rfl⟩) w.nm (by simp)
  rw [cmpN_lt] at h6
  rw [cmpT_lt,M.day,M.clk]
  obtain ⟨h7,h8,_⟩:=h5
  simp only [inr] at h7 h8
  simp only at h6
  omega
theorem More.st:standT (l++[w])=standT l++[w]:=stand_snoc M.nd M.lt M.k7 M.rf
theorem More.beh:Beh (standT l) w:=⟨by rw [← M.st]; exact standT_nodup M.nd,fun a ha=>M.rf a (mem_standT.1 ha).1,M.own⟩
theorem More.reads (h6:w.kind≠6):((standT l++[w]).filter (kd 3)).map (fun a=>(knw (standT l++[w]) a).read)=((standT l).filter (kd 3)).map (fun a=>(knw (standT l) a).read)++if w.kind=3 then [w.read] else []:=by
  rw [List.filter_append,List.map_append]
  congr 1
  · apply List.map_congr_left
    intro a ha
    rw [M.beh.knw_ne h6]
  · by_cases h:w.kind=3
    · rw [if_pos h,List.filter_cons_of_pos (kd_iff.2 h)]; simp [M.beh.knww h6]
    · rw [if_neg h,List.filter_cons_of_neg (by rw [kd_iff]; exact h)]; rfl
omit M in
theorem stsR_snoc (h:w.kind≠4) (st:List Stn) (S:List Nt):stsR st (S++[w])=stsR st S:=by
  unfold stsR
  rw [List.filter_append,List.filter_cons_of_neg (by rw [kd_iff]; exact h)]
  simp
theorem More.read (h3:w.kind=3):refT b (l++[w])={ refT b l with reads:=(refT b l).reads++[w.read] }:=by
  have B:=M.beh
  unfold refT
  simp only
  rw [M.st]
  have hf:∀ x,flg (standT l++[w]) x=flg (standT l) x:=flg_ne (by omega)
  congr 1
  · rw [shsR_ent,shsR_ent,entN_cong hf,entN_snoc,if_neg (by omega)]
    have:fld (standT l++[w])=fld (standT l):=funext (B.fld (by omega) (by omega) (by omega))
    rw [this]
  · rw [M.reads (by omega),if_pos h3]
  · exact stsR_snoc (by omega) _ _
  · rw [badR_snoc M.nd M.k7 M.rf M.st (fun a ha=>badS_snoc B (by omega) ha)]
    have:badS b (standT l++[w]) w=false:=by
      unfold badS
      rw [if_neg (by omega),if_neg (by omega),if_neg (by omega),if_neg (by omega),if_neg (by omega)]
    rw [this]; simp
omit M in
theorem entN_mem {S T:List Nt} {a:Nt} (h:a∈entN S T):a∈T∧a.kind=1:=by
  have:=(entN_sub S T).subset h
  rw [List.mem_filter,kd_iff] at this
  exact this
theorem More.mark (h2:w.kind=2) (h64:l.length < 64) {i:Nat} {x:Fld} (hx:(refT b l).sheets[i]?=some x) (hr:w.ref=x.name):refT b (l++[w]) =
    if (x.sheet.rates.length:Int) < w.mark.col then { refT b l with confl:=(refT b l).confl++[w.nm] }
    else { refT b l with sheets:=(refT b l).sheets.set i { x with marks:=x.marks++[w.mark],names:=x.names++[w.nm] } }:=by
  have B:=M.beh
  have hS:((standT l).map Nt.nm).Nodup:=B.ndS
  have hf:∀ x,flg (standT l++[w]) x=flg (standT l) x:=flg_ne (by omega)
  have hsx:(refT b l).sheets=(entN (standT l) (standT l)).map (fld (standT l)):=by unfold refT; simp only; exact shsR_ent _ _
  rw [hsx,List.getElem?_map] at hx
  cases hg:(entN (standT l) (standT l))[i]? with
  | none=>rw [hg] at hx; cases hx
  | some a =>
    rw [hg] at hx
    injection hx with hx
    obtain ⟨haS,hk1⟩:=entN_mem (List.mem_of_getElem? hg)
    have hra:w.ref=a.nm:=by rw [hr,← hx]; rfl
    have hsh:shN (standT l) w.ref=some a:=by rw [hra]; exact fq_self hS haS (kd_iff.2 hk1)
    have hmkd:mkd (standT l) w=colT a w.mark.col:=by unfold mkd; rw [hsh]
    have hcnt:cnt (standT l++[w]) w=colT a w.mark.col:=by
      rw [B.cntw,hmkd,decide_eq_true,Bool.and_true]
      exact Nat.lt_of_le_of_lt (Nat.le_trans (List.length_filter_le _ _) (standT_len l)) h64
    have hrx:x.sheet.rates=a.sheet.rates:=by rw [← hx]; rfl
    have hcol:colT a w.mark.col=true↔¬ ((x.sheet.rates.length:Int) < w.mark.col):=by
      rw [hrx,colT,decide_eq_true_eq]; omega
    have hbad:badS b (standT l++[w]) w=!colT a w.mark.col:=by
      unfold badS
      rw [if_neg (by omega),if_pos h2,hcnt]
    have hconf:=badR_snoc (b:=b) M.nd M.k7 M.rf M.st (fun a ha=>badS_snoc B (by omega) ha)
    have hfld:∀ y,fld (standT l++[w]) y=if onT y.nm w && colT a w.mark.col then { fld (standT l) y with marks:=(fld (standT l) y).marks++[w.mark],names:=(fld (standT l) y).names++[w.nm] } else fld (standT l) y:=by
      intro y
      unfold fld
      rw [hf,B.mks,hcnt,kd_iff.2 h2,Bool.true_and]
      simp only [B.knw_ne (show w.kind≠6 by omega)]
      cases hh:(onT y.nm w && colT a w.mark.col) with
      | false=>simp
      | true =>
        have hw:=B.knww (show w.kind≠6 by omega)
        rw [B.knw_ne (by omega)] at hw
        simp [hw]
    cases hc:colT a w.mark.col with
    | false =>
      have:(x.sheet.rates.length:Int) < w.mark.col:=Decidable.byContradiction fun h=>by rw [hcol.2 h] at hc; cases hc
      rw [if_pos this]
      unfold refT
      simp only
      rw [M.st]
      congr 1
      · rw [shsR_ent,shsR_ent,entN_cong hf,entN_snoc,if_neg (by omega)]
        apply List.map_congr_left
        intro y _
        rw [hfld,hc,Bool.and_false]; rfl
      · rw [M.reads (by omega),if_neg (by omega),List.append_nil]
      · exact stsR_snoc (by omega) _ _
      · rw [hconf,hbad,hc]; rfl
    | true =>
      rw [if_neg (hcol.1 hc)]
      unfold refT
      simp only
      rw [M.st]
      congr 1
      · rw [shsR_ent,shsR_ent,entN_cong hf,entN_snoc,if_neg (by omega)]
        apply List.ext_getElem?
        intro j
        rw [List.getElem?_set,List.getElem?_map,List.getElem?_map,List.length_map]
        have hil:=(List.getElem?_eq_some_iff.1 hg).1
        by_cases e:i=j
        · subst e
          rw [if_pos rfl,if_pos hil,hg]
          simp only [Option.map_some,hfld,onT,hra,decide_true,hc,Bool.and_true,if_true,← hx]
        · rw [if_neg e]
          cases hj:(entN (standT l) (standT l))[j]? with
          | none=>rfl
          | some y =>
            simp only [Option.map_some,hfld]
            have hyn:¬ w.ref=y.nm:=by
              intro h
              have hjl:=(List.getElem?_eq_some_iff.1 hj).1
              have hnd:((entN (standT l) (standT l)).map Nt.nm).Nodup:=hS.sublist (((entN_sub _ _).trans List.filter_sublist).map _)
              rw [List.Nodup,List.pairwise_map,List.pairwise_iff_getElem] at hnd
              have e1:=(List.getElem?_eq_some_iff.1 hg).2
              have e2:=(List.getElem?_eq_some_iff.1 hj).2
              rcases Nat.lt_or_gt_of_ne e with hlt | hlt
              · have:=hnd i j hil hjl hlt; rw [e1,e2] at this; exact this (hra.symm.trans h)
              · have:=hnd j i hjl hil hlt; rw [e1,e2] at this; exact this (h.symm.trans hra)
            simp [onT,hyn]
      · rw [M.reads (by omega),if_neg (by omega),List.append_nil]
      · exact stsR_snoc (by omega) _ _
      · rw [hconf,hbad,hc]; simp
omit M in
omit M in
end
end Go.Abs
namespace Go.Proofs.YtolgelipcgcbhaaGreat
open Go.Abs
open Nat (reduceAdd reduceSub reduceLT reduceLeDiff reduceMul reduceEqDiff)
set_option linter.unusedVariables false
set_option linter.unusedSimpArgs false
set_option maxHeartbeats 4000000
set_option maxRecDepth 100000
def c33:CF:=⟨39,
 (.seq (.ops [
 ⟨some 1,.box false 60 18 (.t 0),none⟩,
 ⟨some 2,.mv (.c (.bool false)),none⟩] [1])
 (.seq (.ops [
 ⟨some 3,.faddr 10 (.t 1),none⟩,
 ⟨some 4,.load none (.t 3),none⟩,
 ⟨some 5,.len (.t 4),none⟩,
 ⟨some 6,.bin .leq (.t 5) (.c (.int .i64 40)),none⟩,
 ⟨some 7,.mv (.t 6),none⟩,
 ⟨some 8,.faddr 10 (.t 1),some (7,false)⟩,
 ⟨some 9,.load none (.t 8),some (7,false)⟩,
 ⟨some 10,.len (.t 9),some (7,false)⟩,
 ⟨some 11,.bin .gtr (.t 10) (.c (.int .i64 2000)),some (7,false)⟩,
 ⟨some 12,.mv (.t 11),some (7,false)⟩,
 ⟨some 13,.faddr 10 (.t 1),some (12,true)⟩,
 ⟨some 14,.load none (.t 13),some (12,true)⟩,
 ⟨some 15,.len (.t 14),some (12,true)⟩,
 ⟨some 16,.bin .leq (.t 15) (.c (.int .i64 4000)),some (12,true)⟩,
 ⟨some 17,.pick (.t 12) (.t 16) (.c (.bool false)),some (7,false)⟩,
 ⟨some 18,.pick (.t 7) (.c (.bool true)) (.t 17),none⟩,
 ⟨some 19,.mv (.t 18),none⟩,
 ⟨some 20,.faddr 11 (.t 1),some (19,true)⟩,
 ⟨some 21,.load none (.t 20),some (19,true)⟩,
 ⟨some 22,.len (.t 21),some (19,true)⟩,
 ⟨some 23,.bin .leq (.t 22) (.c (.int .i64 250)),some (19,true)⟩,
 ⟨some 24,.pick (.t 19) (.t 23) (.c (.bool false)),none⟩,
 ⟨some 25,.mv (.t 24),none⟩,
 ⟨some 26,.faddr 12 (.t 1),some (25,true)⟩,
 ⟨some 27,.faddr 0 (.t 26),some (25,true)⟩,
 ⟨some 28,.load none (.t 27),some (25,true)⟩,
 ⟨some 29,.len (.t 28),some (25,true)⟩,
 ⟨some 30,.bin .leq (.t 29) (.c (.int .i64 250)),some (25,true)⟩,
 ⟨some 31,.pick (.t 25) (.t 30) (.c (.bool false)),none⟩,
 ⟨some 32,.mv (.t 31),none⟩,
 ⟨some 33,.faddr 12 (.t 1),some (32,true)⟩,
 ⟨some 34,.faddr 1 (.t 33),some (32,true)⟩,
 ⟨some 35,.load none (.t 34),some (32,true)⟩,
 ⟨some 36,.len (.t 35),some (32,true)⟩,
 ⟨some 37,.bin .leq (.t 36) (.c (.int .i64 40)),some (32,true)⟩,
 ⟨some 38,.pick (.t 32) (.t 37) (.c (.bool false)),none⟩,
 ⟨some 2,.mv (.t 38),none⟩] [2])
 .ret)),
 [.t 2]⟩
theorem k33:chkF Tryz.prog Tryz.f33 c33=true:=by kernel_rfl
def c19:CF:=⟨35,
 (.seq (.ops [
 ⟨some 1,.box false 26 6 (.t 0),none⟩,
 ⟨some 2,.mv (.c (.bool false)),none⟩] [1])
 (.seq (.seq (.ops [
 ⟨some 4,.faddr 0 (.t 1),none⟩,
 ⟨some 5,.load none (.t 4),none⟩,
 ⟨some 6,.len (.t 5),none⟩,
 ⟨some 7,.bin .gtr (.t 6) (.c (.int .i64 8)),none⟩,
 ⟨some 8,.mv (.t 7),none⟩,
 ⟨some 9,.faddr 0 (.t 1),some (8,true)⟩,
 ⟨some 10,.load none (.t 9),some (8,true)⟩,
 ⟨some 11,.len (.t 10),some (8,true)⟩,
 ⟨some 12,.bin .leq (.t 11) (.c (.int .i64 32)),some (8,true)⟩,
 ⟨some 13,.pick (.t 8) (.t 12) (.c (.bool false)),none⟩,
 ⟨some 14,.mv (.t 13),none⟩,
 ⟨some 15,.faddr 0 (.t 1),some (14,false)⟩,
 ⟨some 16,.load none (.t 15),some (14,false)⟩,
 ⟨some 17,.len (.t 16),some (14,false)⟩,
 ⟨some 18,.bin .gtr (.t 17) (.c (.int .i64 100)),some (14,false)⟩,
 ⟨some 19,.pick (.t 14) (.c (.bool true)) (.t 18),none⟩] [1,19])
 (.cond (.t 19) (.seq (.ops [
 ⟨some 2,.mv (.c (.bool false)),none⟩] [2])
 .ret)
 .skip))
 (.seq (.seq (.ops [
 ⟨some 3,.mv (.c (.int .i64 0)),none⟩] [1,3])
 (.block 0 (.loop (.seq (.seq (.ops [
 ⟨some 20,.mv (.t 3),none⟩,
 ⟨some 21,.faddr 0 (.t 1),none⟩,
 ⟨some 22,.load none (.t 21),none⟩,
 ⟨some 23,.len (.t 22),none⟩,
 ⟨some 24,.bin .lss (.t 20) (.t 23),none⟩] [1,3,24])
 (.cond (.t 24) .skip
 (.exit 0)))
 (.seq (.block 1 (.seq (.ops [
 ⟨some 27,.faddr 0 (.t 1),none⟩,
 ⟨some 28,.load none (.t 27),none⟩,
 ⟨some 29,.mv (.t 3),none⟩,
 ⟨some 30,.iaddr 4 (.t 28) (.t 29),none⟩,
 ⟨some 31,.faddr 3 (.t 30),none⟩,
 ⟨some 32,.load none (.t 31),none⟩,
 ⟨some 33,.len (.t 32),none⟩,
 ⟨some 34,.bin .gtr (.t 33) (.c (.int .i64 40)),none⟩] [1,3,34])
 (.cond (.t 34) (.seq (.ops [
 ⟨some 2,.mv (.c (.bool false)),none⟩] [2])
 .ret)
 .skip)))
 (.ops [
 ⟨some 25,.mv (.t 3),none⟩,
 ⟨some 26,.bin .add (.t 25) (.c (.int .i64 1)),none⟩,
 ⟨some 3,.mv (.t 26),none⟩] [1,3]))))))
 (.seq (.ops [
 ⟨some 2,.mv (.c (.bool true)),none⟩] [2])
 .ret)))),
 [.t 2]⟩
theorem k19:chkF Tryz.prog Tryz.f19 c19=true:=by kernel_rfl
def c20:CF:=⟨30,
 (.seq (.ops [
 ⟨some 2,.mv (.c (.bool false)),none⟩] [0])
 (.seq (.seq (.ops [
 ⟨some 4,.mv (.t 0),none⟩,
 ⟨some 5,.len (.t 4),none⟩,
 ⟨some 6,.bin .gtr (.t 5) (.c (.int .i64 40)),none⟩,
 ⟨some 7,.mv (.t 6),none⟩,
 ⟨some 8,.mv (.t 0),some (7,true)⟩,
 ⟨some 9,.len (.t 8),some (7,true)⟩,
 ⟨some 10,.bin .leq (.t 9) (.c (.int .i64 400)),some (7,true)⟩,
 ⟨some 11,.pick (.t 7) (.t 10) (.c (.bool false)),none⟩,
 ⟨some 12,.mv (.t 11),none⟩,
 ⟨some 13,.mv (.t 0),some (12,false)⟩,
 ⟨some 14,.len (.t 13),some (12,false)⟩,
 ⟨some 15,.bin .gtr (.t 14) (.c (.int .i64 800)),some (12,false)⟩,
 ⟨some 16,.pick (.t 12) (.c (.bool true)) (.t 15),none⟩] [0,16])
 (.cond (.t 16) (.seq (.ops [
 ⟨some 2,.mv (.c (.bool false)),none⟩] [2])
 .ret)
 .skip))
 (.seq (.seq (.ops [
 ⟨some 3,.mv (.c (.int .i64 0)),none⟩] [0,3])
 (.block 0 (.loop (.seq (.seq (.ops [
 ⟨some 17,.mv (.t 3),none⟩,
 ⟨some 18,.mv (.t 0),none⟩,
 ⟨some 19,.len (.t 18),none⟩,
 ⟨some 20,.bin .lss (.t 17) (.t 19),none⟩] [0,3,20])
 (.cond (.t 20) .skip
 (.exit 0)))
 (.seq (.block 1 (.seq (.ops [
 ⟨some 23,.mv (.t 0),none⟩,
 ⟨some 24,.mv (.t 3),none⟩,
 ⟨some 25,.iaddr 38 (.t 23) (.t 24),none⟩,
 ⟨some 26,.faddr 7 (.t 25),none⟩,
 ⟨some 27,.load (some 18) (.t 26),none⟩,
 ⟨some 28,.call (.f 33) [(.t 27)],none⟩,
 ⟨some 29,.un .not (.t 28),none⟩] [0,3,29])
 (.cond (.t 29) (.seq (.ops [
 ⟨some 2,.mv (.c (.bool false)),none⟩] [2])
 .ret)
 .skip)))
 (.ops [
 ⟨some 21,.mv (.t 3),none⟩,
 ⟨some 22,.bin .add (.t 21) (.c (.int .i64 1)),none⟩,
 ⟨some 3,.mv (.t 22),none⟩] [0,3]))))))
 (.seq (.ops [
 ⟨some 2,.mv (.c (.bool true)),none⟩] [2])
 .ret)))),
 [.t 2]⟩
theorem k20:chkF Tryz.prog Tryz.f20 c20=true:=by kernel_rfl
def c29:CF:=⟨36,
 (.seq (.ops [
 ⟨some 3,.box false 29 2 (.t 1),none⟩,
 ⟨some 4,.alloc 68 38 z38,none⟩,
 ⟨some 5,.mv (.c (.bool false)),none⟩] [0,3,4])
 (.seq (.seq (.ops [
 ⟨some 6,.mv (.c (.int .i64 0)),none⟩] [0,3,4,6])
 (.block 0 (.loop (.seq (.seq (.ops [
 ⟨some 7,.mv (.t 6),none⟩,
 ⟨some 8,.mv (.t 0),none⟩,
 ⟨some 9,.len (.t 8),none⟩,
 ⟨some 10,.bin .lss (.t 7) (.t 9),none⟩] [0,3,4,6,10])
 (.cond (.t 10) .skip
 (.exit 0)))
 (.seq (.block 1 (.seq (.draw [
 ⟨some 13,.mv (.t 0),none⟩,
 ⟨some 14,.mv (.t 6),none⟩,
 ⟨some 15,.iaddr 38 (.t 13) (.t 14),none⟩,
 ⟨some 16,.faddr 0 (.t 15),none⟩,
 ⟨some 17,.load none (.t 16),none⟩,
 ⟨some 18,.faddr 0 (.t 3),none⟩,
 ⟨some 19,.load none (.t 18),none⟩,
 ⟨some 20,.bin .eql (.t 17) (.t 19),none⟩,
 ⟨some 21,.mv (.t 20),none⟩,
 ⟨some 22,.mv (.t 0),some (21,true)⟩,
 ⟨some 23,.mv (.t 6),some (21,true)⟩,
 ⟨some 24,.iaddr 38 (.t 22) (.t 23),some (21,true)⟩,
 ⟨some 25,.faddr 1 (.t 24),some (21,true)⟩,
 ⟨some 26,.load none (.t 25),some (21,true)⟩,
 ⟨some 27,.faddr 1 (.t 3),some (21,true)⟩,
 ⟨some 28,.load none (.t 27),some (21,true)⟩,
 ⟨some 29,.bin .eql (.t 26) (.t 28),some (21,true)⟩,
 ⟨some 30,.pick (.t 21) (.t 29) (.c (.bool false)),none⟩] [
 ] [0,3,4,6,30])
 (.cond (.t 30) (.seq (.ops [
 ⟨some 31,.mv (.t 0),none⟩,
 ⟨some 32,.mv (.t 6),none⟩,
 ⟨some 33,.iaddr 38 (.t 31) (.t 32),none⟩,
 ⟨some 34,.load (some 38) (.t 33),none⟩,
 ⟨none,.store 38 (.t 4) (.t 34),none⟩,
 ⟨some 5,.mv (.c (.bool true)),none⟩] [4,5])
 .ret)
 .skip)))
 (.ops [
 ⟨some 11,.mv (.t 6),none⟩,
 ⟨some 12,.bin .add (.t 11) (.c (.int .i64 1)),none⟩,
 ⟨some 6,.mv (.t 12),none⟩] [0,3,4,6]))))))
 (.seq (.ops [
 ⟨some 35,.build z38 [],none⟩,
 ⟨none,.store 38 (.t 4) (.t 35),none⟩,
 ⟨some 5,.mv (.c (.bool false)),none⟩] [4,5])
 .ret))),
 [.c 4 (some 38),.t 5]⟩
theorem k29:chkF Tryz.prog Tryz.f29 c29=true:=by kernel_rfl
def slightB (s:Sht):Bool:=(decide (s.trace.length≤40) || (decide (2000 < s.trace.length) && decide (s.trace.length≤4000))) && decide (s.blots.length≤250) && decide (s.rates.length≤250) && decide (s.stops.length≤40)
def smallB (b:Bse):Bool:=!((decide (8 < b.stns.length) && decide (b.stns.length≤32)) || decide (100 < b.stns.length)) && b.stns.all fun s=>decide (s.heights.length≤40)
def fewB (l:List Nt):Bool:=!((decide (40 < l.length) && decide (l.length≤400)) || decide (800 < l.length)) && l.all fun a=>slightB a.sheet
theorem slight_spec (s:Sht):Pure Tryz.prog 33 [.agg s.cs] (bl (slightB s)):=by
  refine Pure.of_body Tryz.call33 Tryz.func33 k33 (Nat.le_of_ble_eq_true rfl) ?_
  unfold c33
  (repeat' ((first
 | refine vn rfl ?_
 | simp (disch:=omega) only [wr64,Int.zero_sub]
 | refine bo (fun _=>?_) fun _=>?_
 | refine im fun _=>?_
 | refine cF ?_
 | refine om ?_
 | refine an ?_
 | fail) <;> try simp only [zN,zT,zV,zS,zU,vcC,lateX,ex,strp,binA,elems,cells,scalar,eqC,keyA,intsA,lookA,ofVs,mpOf,Nat.reduceBEq,reduceAdd,reduceSub,reduceLT,reduceLeDiff,reduceMul,reduceEqDiff,reduceIte]))
  refine Frz.eq (congrArg bl ?_) (by simp)
  unfold slightB
  rw [Bool.eq_iff_iff]
  simp only [Bool.and_eq_true,Bool.or_eq_true,decide_eq_true_eq]
  omega
theorem small_spec (b:Bse) (hb:bseSz b):Pure Tryz.prog 19 [.agg b.cs] (bl (smallB b)):=by
  refine Pure.of_body Tryz.call19 Tryz.func19 k19 (Nat.le_of_ble_eq_true rfl) ?_
  unfold c19
  have h1:=hb.1
  by_cases hbig:(8 < b.stns.length∧b.stns.length≤32)∨100 < b.stns.length
  · have hE:smallB b=false:=by
      unfold smallB
      have:((decide (8 < b.stns.length) && decide (b.stns.length≤32)) || decide (100 < b.stns.length))=true:=by simpa using hbig
      rw [this]; rfl
    rw [hE]
    (repeat' ((first
 | refine vn rfl ?_
 | simp (disch:=omega) only [wr64,Int.zero_sub]
 | refine bo (fun _=>?_) fun _=>?_
 | refine im fun _=>?_
 | refine cF ?_
 | refine om ?_
 | refine an ?_
 | fail) <;> try simp only [zN,zT,zV,zS,zU,vcC,lateX,ex,strp,binA,elems,cells,scalar,eqC,keyA,intsA,lookA,ofVs,mpOf,Nat.reduceBEq,reduceAdd,reduceSub,reduceLT,reduceLeDiff,reduceMul,reduceEqDiff,reduceIte]))
    all_goals first | (exfalso; omega) | exact Frz.eq rfl (by simp)
  · have hE:smallB b=b.stns.all fun s=>decide (s.heights.length≤40):=by
      unfold smallB
      have:((decide (8 < b.stns.length) && decide (b.stns.length≤32)) || decide (100 < b.stns.length))=false:=by rw [Bool.eq_false_iff]; simpa using hbig
      rw [this]; rfl
    rw [hE]
    (repeat' ((first
 | refine vn rfl ?_
 | simp (disch:=omega) only [wr64,Int.zero_sub]
 | refine bo (fun _=>?_) fun _=>?_
 | refine im fun _=>?_
 | refine cF ?_
 | refine om ?_
 | refine an ?_
 | fail) <;> try simp only [zN,zT,zV,zS,zU,vcC,lateX,ex,strp,binA,elems,cells,scalar,eqC,keyA,intsA,lookA,ofVs,mpOf,Nat.reduceBEq,reduceAdd,reduceSub,reduceLT,reduceLeDiff,reduceMul,reduceEqDiff,reduceIte]))
    all_goals try (exfalso; omega)
    refine AWPC.loopI 3 b.stns.length (fun i=>((b.stns.drop i).all fun s=>decide (s.heights.length≤40))=b.stns.all fun s=>decide (s.heights.length≤40)) (by simp) ?_ ?_
    · (simp only [zN,zT,zV,zS,zU,vcC,lateX,ex,strp,binA,elems,cells,scalar,eqC,keyA,intsA,lookA,ofVs,mpOf,Nat.reduceBEq,reduceAdd,reduceSub,reduceLT,reduceLeDiff,reduceMul,reduceEqDiff,reduceIte]; try simp)
    · intro i hi hI
      by_cases hlt:i < b.stns.length
      · obtain ⟨x,hx⟩:∃ x,b.stns[i]?=some x:=⟨_,List.getElem?_eq_getElem hlt⟩
        have hh:=hb.2 x (List.mem_of_getElem? hx)
        rw [drop_cons hx,List.all_cons] at hI
        (repeat' ((first
 | refine vn rfl ?_
 | simp (disch:=omega) only [wr64,Int.zero_sub]
 | refine bo (fun _=>?_) fun _=>?_
 | refine im fun _=>?_
 | refine cF ?_
 | refine om ?_
 | refine an ?_
 | fail) <;> try simp only [zN, zT, zV, zS, zU, vcC, lateX, ex, strp, binA, elems, cells, scalar, eqC, keyA, intsA, lookA, ofVs, mpOf, Nat.reduceBEq, reduceAdd, reduceSub, reduceLT, reduceLeDiff, reduceMul, reduceEqDiff, reduceIte, getD_map hx]))
        all_goals try (exfalso; omega)
        · rename_i h
          rw [show decide (x.heights.length≤40)=false by simp; omega,Bool.false_and] at hI
          rw [← hI]
          exact Frz.eq rfl (by simp)
        · rename_i h
          rw [show decide (x.heights.length≤40)=true by simp; omega,Bool.true_and] at hI
          exact ⟨⟨i+1,hlt,hI⟩,by simp,by simp only; omega⟩
      · obtain rfl:i=b.stns.length:=by omega
        rw [List.drop_length,List.all_nil] at hI
        (repeat' ((first
 | refine vn rfl ?_
 | simp (disch:=omega) only [wr64,Int.zero_sub]
 | refine bo (fun _=>?_) fun _=>?_
 | refine im fun _=>?_
 | refine cF ?_
 | refine om ?_
 | refine an ?_
 | fail) <;> try simp only [zN, zT, zV, zS, zU, vcC, lateX, ex, strp, binA, elems, cells, scalar, eqC, keyA, intsA, lookA, ofVs, mpOf, Nat.reduceBEq, reduceAdd, reduceSub, reduceLT, reduceLeDiff, reduceMul, reduceEqDiff, reduceIte]))
        all_goals try (exfalso; omega)
        rw [← hI]
        exact Frz.eq rfl (by simp)
theorem few_spec (l:List Nt) (hl:l.length < 9223372036854775808):Pure Tryz.prog 20 [ntS l] (bl (fewB l)):=by
  refine Pure.of_body Tryz.call20 Tryz.func20 k20 (Nat.le_of_ble_eq_true rfl) ?_
  unfold c20
  by_cases hbig:(40 < l.length∧l.length≤400)∨800 < l.length
  · have hE:fewB l=false:=by
      unfold fewB
      have:((decide (40 < l.length) && decide (l.length≤400)) || decide (800 < l.length))=true:=by simpa using hbig
      rw [this]; rfl
    rw [hE]
    (repeat' ((first
 | refine vn rfl ?_
 | simp (disch:=omega) only [wr64,Int.zero_sub]
 | refine bo (fun _=>?_) fun _=>?_
 | refine im fun _=>?_
 | refine cF ?_
 | refine om ?_
 | refine an ?_
 | fail) <;> try simp only [zN,zT,zV,zS,zU,vcC,lateX,ex,strp,binA,elems,cells,scalar,eqC,keyA,intsA,lookA,ofVs,mpOf,Nat.reduceBEq,reduceAdd,reduceSub,reduceLT,reduceLeDiff,reduceMul,reduceEqDiff,reduceIte]))
    all_goals first | (exfalso; omega) | exact Frz.eq rfl (by simp)
  · have hE:fewB l=l.all fun a=>slightB a.sheet:=by
      unfold fewB
      have:((decide (40 < l.length) && decide (l.length≤400)) || decide (800 < l.length))=false:=by rw [Bool.eq_false_iff]; simpa using hbig
      rw [this]; rfl
    rw [hE]
    (repeat' ((first
 | refine vn rfl ?_
 | simp (disch:=omega) only [wr64,Int.zero_sub]
 | refine bo (fun _=>?_) fun _=>?_
 | refine im fun _=>?_
 | refine cF ?_
 | refine om ?_
 | refine an ?_
 | fail) <;> try simp only [zN,zT,zV,zS,zU,vcC,lateX,ex,strp,binA,elems,cells,scalar,eqC,keyA,intsA,lookA,ofVs,mpOf,Nat.reduceBEq,reduceAdd,reduceSub,reduceLT,reduceLeDiff,reduceMul,reduceEqDiff,reduceIte]))
    all_goals try (exfalso; omega)
    refine AWPC.loopI 3 l.length (fun i=>((l.drop i).all fun a=>slightB a.sheet)=l.all fun a=>slightB a.sheet) (by simp) ?_ ?_
    · (simp only [zN,zT,zV,zS,zU,vcC,lateX,ex,strp,binA,elems,cells,scalar,eqC,keyA,intsA,lookA,ofVs,mpOf,Nat.reduceBEq,reduceAdd,reduceSub,reduceLT,reduceLeDiff,reduceMul,reduceEqDiff,reduceIte]; try simp)
    · intro i hi hI
      by_cases hlt:i < l.length
      · obtain ⟨x,hx⟩:∃ x,l[i]?=some x:=⟨_,List.getElem?_eq_getElem hlt⟩
        rw [drop_cons hx,List.all_cons] at hI
        have hc:=slight_spec x.sheet
        cases hs:slightB x.sheet with
        | false =>
          rw [hs] at hI hc
          (repeat' ((first
 | refine vn rfl ?_
 | simp (disch:=omega) only [wr64,Int.zero_sub]
 | refine bo (fun _=>?_) fun _=>?_
 | refine im fun _=>?_
 | ((repeat refine si ?_); (first | ((first | refine .inl ⟨_,_,_,_,rfl,fun _=>pu hc,?_⟩ | refine ⟨_,_,_,_,rfl,fun _=>pu hc,?_⟩); (first | refine o1 ?_ | refine o2 ?_ | refine o3 ?_ | refine o4 ?_)) | refine .inl ⟨_,_,_,_,rfl,pu hc,?_⟩))
 | refine cF ?_
 | refine om ?_
 | refine an ?_
 | fail) <;> try simp only [zN, zT, zV, zS, zU, vcC, lateX, ex, strp, binA, elems, cells, scalar, eqC, keyA, intsA, lookA, ofVs, mpOf, Nat.reduceBEq, reduceAdd, reduceSub, reduceLT, reduceLeDiff, reduceMul, reduceEqDiff, reduceIte, getD_map hx]))
          all_goals try (exfalso; omega)
          rw [← hI]
          exact Frz.eq rfl (by simp)
        | true =>
          rw [hs] at hI hc
          rw [Bool.true_and] at hI
          (repeat' ((first
 | refine vn rfl ?_
 | simp (disch:=omega) only [wr64,Int.zero_sub]
 | refine bo (fun _=>?_) fun _=>?_
 | refine im fun _=>?_
 | ((repeat refine si ?_); (first | ((first | refine .inl ⟨_,_,_,_,rfl,fun _=>pu hc,?_⟩ | refine ⟨_,_,_,_,rfl,fun _=>pu hc,?_⟩); (first | refine o1 ?_ | refine o2 ?_ | refine o3 ?_ | refine o4 ?_)) | refine .inl ⟨_,_,_,_,rfl,pu hc,?_⟩))
 | refine cF ?_
 | refine om ?_
 | refine an ?_
 | fail) <;> try simp only [zN, zT, zV, zS, zU, vcC, lateX, ex, strp, binA, elems, cells, scalar, eqC, keyA, intsA, lookA, ofVs, mpOf, Nat.reduceBEq, reduceAdd, reduceSub, reduceLT, reduceLeDiff, reduceMul, reduceEqDiff, reduceIte, getD_map hx]))
          all_goals try (exfalso; omega)
          exact ⟨⟨i+1,hlt,hI⟩,by simp,by simp only; omega⟩
      · obtain rfl:i=l.length:=by omega
        rw [List.drop_length,List.all_nil] at hI
        (repeat' ((first
 | refine vn rfl ?_
 | simp (disch:=omega) only [wr64,Int.zero_sub]
 | refine bo (fun _=>?_) fun _=>?_
 | refine im fun _=>?_
 | refine cF ?_
 | refine om ?_
 | refine an ?_
 | fail) <;> try simp only [zN, zT, zV, zS, zU, vcC, lateX, ex, strp, binA, elems, cells, scalar, eqC, keyA, intsA, lookA, ofVs, mpOf, Nat.reduceBEq, reduceAdd, reduceSub, reduceLT, reduceLeDiff, reduceMul, reduceEqDiff, reduceIte]))
        all_goals try (exfalso; omega)
        rw [← hI]
        exact Frz.eq rfl (by simp)
abbrev noteT (l:List Nt) (m:Nm):Option Nt:=fq l (fun _=>true) m
theorem noteOf_spec (l:List Nt) (hl:l.length < 9223372036854775808) (m:Nm):Pure Tryz.prog 29 [ntS l,.agg m.cs] (.tup [.agg ((noteT l m).getD nt0).cs,bl (noteT l m).isSome]):=by
  refine Pure.of_body Tryz.call29 Tryz.func29 k29 (Nat.le_of_ble_eq_true rfl) ?_
  unfold c29
  obtain ⟨o,ho⟩:∃ o,o=noteT l m:=⟨_,rfl⟩
  rw [← ho]
  (repeat' ((first
 | refine vn rfl ?_
 | simp (disch:=omega) only [wr64,Int.zero_sub]
 | refine bo (fun _=>?_) fun _=>?_
 | refine im fun _=>?_
 | refine cF ?_
 | refine om ?_
 | refine an ?_
 | fail) <;> try simp only [zN,zT,zV,zS,zU,vcC,lateX,ex,strp,binA,elems,cells,scalar,eqC,keyA,intsA,lookA,ofVs,mpOf,Nat.reduceBEq,reduceAdd,reduceSub,reduceLT,reduceLeDiff,reduceMul,reduceEqDiff,reduceIte]))
  refine AWPC.loopI 6 l.length (fun i=>noteT (l.drop i) m=o) (by simp [ho]) ?_ ?_
  · (simp only [zN,zT,zV,zS,zU,vcC,lateX,ex,strp,binA,elems,cells,scalar,eqC,keyA,intsA,lookA,ofVs,mpOf,Nat.reduceBEq,reduceAdd,reduceSub,reduceLT,reduceLeDiff,reduceMul,reduceEqDiff,reduceIte]; try simp)
  · intro i hi hI
    by_cases hlt:i < l.length
    · obtain ⟨x,hx⟩:∃ x,l[i]?=some x:=⟨_,List.getElem?_eq_getElem hlt⟩
      rw [drop_cons hx] at hI
      have hc:noteT (x::l.drop (i+1)) m=if x.clerk=m.clerk∧x.num=m.num then some x else noteT (l.drop (i+1)) m:=by
        unfold noteT fq
        rw [List.find?_cons]
        obtain ⟨m1,m2⟩:=m
        by_cases h:x.clerk=m1∧x.num=m2
        · simp [h]
        · have:decide (x.nm=⟨m1,m2⟩)=false:=by simpa [Nt.nm] using h
          simp [this,h]
      rw [hc] at hI
      by_cases h:x.clerk=m.clerk∧x.num=m.num
      · rw [if_pos h] at hI
        clear ho
        subst hI
        obtain ⟨e1,e2⟩:=h
        (repeat' ((first
 | refine vn rfl ?_
 | simp (disch:=omega) only [wr64,Int.zero_sub]
 | refine bo (fun _=>?_) fun _=>?_
 | refine im fun _=>?_
 | refine cF ?_
 | refine om ?_
 | refine an ?_
 | fail) <;> try simp only [zN, zT, zV, zS, zU, vcC, lateX, ex, strp, binA, elems, cells, scalar, eqC, keyA, intsA, lookA, ofVs, mpOf, Nat.reduceBEq, reduceAdd, reduceSub, reduceLT, reduceLeDiff, reduceMul, reduceEqDiff, reduceIte, getD_map hx, e1, e2]))
        all_goals try (exfalso; omega)
        exact Frz.tupL ⟨Frz.pure (by simp),Frz.pure (by simp),trivial⟩
      · rw [if_neg h] at hI
        by_cases e1:x.clerk=m.clerk
        · have e2:¬ x.num=m.num:=fun e=>h ⟨e1,e⟩
          (repeat' ((first
 | refine vn rfl ?_
 | simp (disch:=omega) only [wr64,Int.zero_sub]
 | refine bo (fun _=>?_) fun _=>?_
 | refine im fun _=>?_
 | refine cF ?_
 | refine om ?_
 | refine an ?_
 | fail) <;> try simp only [zN, zT, zV, zS, zU, vcC, lateX, ex, strp, binA, elems, cells, scalar, eqC, keyA, intsA, lookA, ofVs, mpOf, Nat.reduceBEq, reduceAdd, reduceSub, reduceLT, reduceLeDiff, reduceMul, reduceEqDiff, reduceIte, getD_map hx, e1, e2]))
          all_goals try (exfalso; omega)
          exact ⟨⟨i+1,hlt,hI⟩,by simp,by simp only; omega⟩
        · (repeat' ((first
 | refine vn rfl ?_
 | simp (disch:=omega) only [wr64,Int.zero_sub]
 | refine bo (fun _=>?_) fun _=>?_
 | refine im fun _=>?_
 | refine cF ?_
 | refine om ?_
 | refine an ?_
 | fail) <;> try simp only [zN, zT, zV, zS, zU, vcC, lateX, ex, strp, binA, elems, cells, scalar, eqC, keyA, intsA, lookA, ofVs, mpOf, Nat.reduceBEq, reduceAdd, reduceSub, reduceLT, reduceLeDiff, reduceMul, reduceEqDiff, reduceIte, getD_map hx, e1]))
          all_goals try (exfalso; omega)
          exact ⟨⟨i+1,hlt,hI⟩,by simp,by simp only; omega⟩
    · obtain rfl:i=l.length:=by omega
      rw [List.drop_length] at hI
      clear ho
      subst hI
      (repeat' ((first
 | refine vn rfl ?_
 | simp (disch:=omega) only [wr64,Int.zero_sub]
 | refine bo (fun _=>?_) fun _=>?_
 | refine im fun _=>?_
 | refine cF ?_
 | refine om ?_
 | refine an ?_
 | fail) <;> try simp only [zN,zT,zV,zS,zU,vcC,lateX,ex,strp,binA,elems,cells,scalar,eqC,keyA,intsA,lookA,ofVs,mpOf,Nat.reduceBEq,reduceAdd,reduceSub,reduceLT,reduceLeDiff,reduceMul,reduceEqDiff,reduceIte]))
      all_goals try (exfalso; omega)
      exact Frz.tupL ⟨Frz.aggL ⟨Frz.eq rfl (PureV.v _),Frz.eq rfl (PureV.v _),Frz.eq rfl (PureV.v _),Frz.eq rfl (PureV.v _),Frz.eq rfl (PureV.v _),Frz.eq rfl (PureV.v _),Frz.eq rfl (PureV.v _),Frz.eq rfl (PureV.v _),Frz.eq rfl (PureV.v _),Frz.eq rfl (PureV.v _),Frz.eq rfl (PureV.v _),Frz.eq rfl (PureV.v _),Frz.eq rfl (PureV.v _),Frz.eq rfl (PureV.v _),Frz.eq rfl (PureV.v _),Frz.eq rfl (PureV.v _),Frz.eq rfl (PureV.v _),Frz.nil0,Frz.nil0,Frz.nil0,Frz.nil0,Frz.eq rfl (PureV.v _),Frz.eq rfl (PureV.v _),Frz.eq rfl (PureV.v _),Frz.eq rfl (PureV.v _),Frz.eq rfl (PureV.v _),Frz.eq rfl (PureV.v _),Frz.eq rfl (PureV.v _),Frz.eq rfl (PureV.v _),Frz.eq rfl (PureV.v _),Frz.eq rfl (PureV.v _),Frz.eq rfl (PureV.v _),Frz.eq rfl (PureV.v _),Frz.eq rfl (PureV.v _),Frz.eq rfl (PureV.v _),Frz.eq rfl (PureV.v _),Frz.eq rfl (PureV.v _),Frz.eq rfl (PureV.v _),trivial⟩,Frz.pure (by simp),trivial⟩
def c12:CF:=⟨202,
 (.seq (.ops [
 ⟨some 3,.box false 26 6 (.t 0),none⟩,
 ⟨some 5,.box false 68 38 (.t 2),none⟩,
 ⟨some 6,.mv (.c (.bool false)),none⟩] [1,3,5])
 (.seq (.ops [
 ⟨some 20,.call (.f 18) [],none⟩,
 ⟨some 7,.mv (.t 20),none⟩] [1,3,5,7])
 (.seq (.seq (.ops [
 ⟨some 21,.load (some 6) (.t 3),none⟩,
 ⟨some 22,.call (.f 19) [(.t 21)],none⟩,
 ⟨some 23,.un .not (.t 22),none⟩,
 ⟨some 24,.mv (.t 23),none⟩,
 ⟨some 25,.mv (.t 1),some (24,false)⟩,
 ⟨some 26,.call (.f 20) [(.t 25)],some (24,false)⟩,
 ⟨some 27,.un .not (.t 26),some (24,false)⟩,
 ⟨some 28,.pick (.t 24) (.c (.bool true)) (.t 27),none⟩,
 ⟨some 29,.mv (.t 28),none⟩,
 ⟨some 30,.mv (.t 1),some (29,false)⟩,
 ⟨some 31,.len (.t 30),some (29,false)⟩,
 ⟨some 32,.bin .gtr (.t 31) (.c (.int .i64 40)),some (29,false)⟩,
 ⟨some 33,.pick (.t 29) (.c (.bool true)) (.t 32),none⟩,
 ⟨some 34,.mv (.t 33),none⟩,
 ⟨some 35,.faddr 7 (.t 5),some (34,false)⟩,
 ⟨some 36,.load (some 18) (.t 35),some (34,false)⟩,
 ⟨some 37,.call (.f 33) [(.t 36)],some (34,false)⟩,
 ⟨some 38,.un .not (.t 37),some (34,false)⟩,
 ⟨some 39,.pick (.t 34) (.c (.bool true)) (.t 38),none⟩] [1,3,5,7,39])
 (.cond (.t 39) (.seq (.ops [
 ⟨some 40,.mv (.t 7),none⟩,
 ⟨some 6,.mv (.t 40),none⟩] [6])
 .ret)
 .skip))
 (.seq (.seq (.ops [
 ⟨some 8,.mv (.c (.int .i64 0)),none⟩] [1,3,5,7,8])
 (.block 0 (.loop (.seq (.seq (.ops [
 ⟨some 41,.mv (.t 8),none⟩,
 ⟨some 42,.mv (.t 1),none⟩,
 ⟨some 43,.len (.t 42),none⟩,
 ⟨some 44,.bin .lss (.t 41) (.t 43),none⟩] [1,3,5,7,8,44])
 (.cond (.t 44) .skip
 (.exit 0)))
 (.seq (.block 1 (.seq (.ops [
 ⟨some 9,.mv (.c (.int .i64 0)),none⟩] [1,3,5,7,8,9])
 (.block 2 (.loop (.seq (.seq (.ops [
 ⟨some 47,.mv (.t 9),none⟩,
 ⟨some 48,.mv (.t 1),none⟩,
 ⟨some 49,.len (.t 48),none⟩,
 ⟨some 50,.bin .lss (.t 47) (.t 49),none⟩] [1,3,5,7,8,9,50])
 (.cond (.t 50) .skip
 (.exit 2)))
 (.seq (.block 3 (.seq (.draw [
 ⟨some 53,.mv (.t 1),none⟩,
 ⟨some 54,.mv (.t 8),none⟩,
 ⟨some 55,.iaddr 38 (.t 53) (.t 54),none⟩,
 ⟨some 56,.faddr 0 (.t 55),none⟩,
 ⟨some 57,.load none (.t 56),none⟩,
 ⟨some 58,.mv (.t 1),none⟩,
 ⟨some 59,.mv (.t 9),none⟩,
 ⟨some 60,.iaddr 38 (.t 58) (.t 59),none⟩,
 ⟨some 61,.faddr 0 (.t 60),none⟩,
 ⟨some 62,.load none (.t 61),none⟩,
 ⟨some 63,.bin .eql (.t 57) (.t 62),none⟩,
 ⟨some 64,.mv (.t 63),none⟩,
 ⟨some 65,.mv (.t 1),some (64,true)⟩,
 ⟨some 66,.mv (.t 8),some (64,true)⟩,
 ⟨some 67,.iaddr 38 (.t 65) (.t 66),some (64,true)⟩,
 ⟨some 68,.faddr 1 (.t 67),some (64,true)⟩,
 ⟨some 69,.load none (.t 68),some (64,true)⟩,
 ⟨some 70,.mv (.t 1),some (64,true)⟩,
 ⟨some 71,.mv (.t 9),some (64,true)⟩,
 ⟨some 72,.iaddr 38 (.t 70) (.t 71),some (64,true)⟩,
 ⟨some 73,.faddr 1 (.t 72),some (64,true)⟩,
 ⟨some 74,.load none (.t 73),some (64,true)⟩,
 ⟨some 75,.bin .eql (.t 69) (.t 74),some (64,true)⟩,
 ⟨some 76,.pick (.t 64) (.t 75) (.c (.bool false)),none⟩,
 ⟨some 10,.mv (.t 76),none⟩] [
 ] [1,3,5,7,8,9,10])
 (.seq (.draw [
 ⟨some 77,.mv (.t 1),none⟩,
 ⟨some 78,.mv (.t 8),none⟩,
 ⟨some 79,.iaddr 38 (.t 77) (.t 78),none⟩,
 ⟨some 80,.load (some 38) (.t 79),none⟩,
 ⟨some 81,.mv (.t 1),none⟩,
 ⟨some 82,.mv (.t 9),none⟩,
 ⟨some 83,.iaddr 38 (.t 81) (.t 82),none⟩,
 ⟨some 84,.load (some 38) (.t 83),none⟩,
 ⟨some 85,.call (.f 47) [(.t 80),(.t 84)],none⟩,
 ⟨some 11,.mv (.t 85),none⟩] [
 ] [1,3,5,7,8,9,10,11])
 (.seq (.draw [
 ⟨some 86,.mv (.t 1),none⟩,
 ⟨some 87,.mv (.t 9),none⟩,
 ⟨some 88,.iaddr 38 (.t 86) (.t 87),none⟩,
 ⟨some 89,.load (some 38) (.t 88),none⟩,
 ⟨some 90,.mv (.t 1),none⟩,
 ⟨some 91,.mv (.t 8),none⟩,
 ⟨some 92,.iaddr 38 (.t 90) (.t 91),none⟩,
 ⟨some 93,.load (some 38) (.t 92),none⟩,
 ⟨some 94,.call (.f 47) [(.t 89),(.t 93)],none⟩,
 ⟨some 12,.mv (.t 94),none⟩] [
 ] [1,3,5,7,8,9,10,11,12])
 (.seq (.seq (.draw [
 ⟨some 95,.mv (.t 11),none⟩,
 ⟨some 96,.mv (.t 95),none⟩,
 ⟨some 97,.mv (.t 12),some (96,true)⟩,
 ⟨some 98,.pick (.t 96) (.t 97) (.c (.bool false)),none⟩,
 ⟨some 99,.mv (.t 98),none⟩,
 ⟨some 100,.mv (.t 10),some (99,false)⟩,
 ⟨some 101,.un .not (.t 100),some (99,false)⟩,
 ⟨some 102,.mv (.t 101),some (99,false)⟩,
 ⟨some 103,.mv (.t 11),some (102,true)⟩,
 ⟨some 104,.un .not (.t 103),some (102,true)⟩,
 ⟨some 105,.pick (.t 102) (.t 104) (.c (.bool false)),some (99,false)⟩,
 ⟨some 106,.mv (.t 105),some (99,false)⟩,
 ⟨some 107,.mv (.t 12),some (106,true)⟩,
 ⟨some 108,.un .not (.t 107),some (106,true)⟩,
 ⟨some 109,.pick (.t 106) (.t 108) (.c (.bool false)),some (99,false)⟩,
 ⟨some 110,.pick (.t 99) (.c (.bool true)) (.t 109),none⟩,
 ⟨some 111,.mv (.t 110),none⟩,
 ⟨some 112,.mv (.t 8),some (111,false)⟩,
 ⟨some 113,.mv (.t 9),some (111,false)⟩,
 ⟨some 114,.bin .eql (.t 112) (.t 113),some (111,false)⟩,
 ⟨some 115,.mv (.t 114),some (111,false)⟩,
 ⟨some 116,.mv (.t 11),some (115,true)⟩,
 ⟨some 117,.mv (.t 116),some (115,true)⟩,
 ⟨some 118,.mv (.t 1),some (117,false)⟩,
 ⟨some 119,.mv (.t 8),some (117,false)⟩,
 ⟨some 120,.iaddr 38 (.t 118) (.t 119),some (117,false)⟩,
 ⟨some 121,.load (some 38) (.t 120),some (117,false)⟩,
 ⟨some 122,.mv (.t 1),some (117,false)⟩,
 ⟨some 123,.mv (.t 9),some (117,false)⟩,
 ⟨some 124,.iaddr 38 (.t 122) (.t 123),some (117,false)⟩,
 ⟨some 125,.load (some 38) (.t 124),some (117,false)⟩,
 ⟨some 126,.call (.f 49) [(.t 121),(.t 125)],some (117,false)⟩,
 ⟨some 127,.un .not (.t 126),some (117,false)⟩,
 ⟨some 128,.pick (.t 117) (.c (.bool true)) (.t 127),some (115,true)⟩,
 ⟨some 129,.pick (.t 115) (.t 128) (.c (.bool false)),some (111,false)⟩,
 ⟨some 130,.pick (.t 111) (.c (.bool true)) (.t 129),none⟩] [
 ] [1,3,5,7,8,9,11,130])
 (.cond (.t 130) (.seq (.ops [
 ⟨some 6,.mv (.c (.bool false)),none⟩] [6])
 .ret)
 .skip))
 (.seq (.draw [
 ⟨some 131,.mv (.t 11),none⟩,
 ⟨some 132,.mv (.t 131),none⟩,
 ⟨some 133,.mv (.t 1),some (132,true)⟩,
 ⟨some 134,.mv (.t 9),some (132,true)⟩,
 ⟨some 135,.iaddr 38 (.t 133) (.t 134),some (132,true)⟩,
 ⟨some 136,.load (some 38) (.t 135),some (132,true)⟩,
 ⟨some 137,.load (some 38) (.t 5),some (132,true)⟩,
 ⟨some 138,.call (.f 47) [(.t 136),(.t 137)],some (132,true)⟩,
 ⟨some 139,.pick (.t 132) (.t 138) (.c (.bool false)),none⟩,
 ⟨some 140,.mv (.t 139),none⟩,
 ⟨some 141,.mv (.t 1),some (140,true)⟩,
 ⟨some 142,.mv (.t 8),some (140,true)⟩,
 ⟨some 143,.iaddr 38 (.t 141) (.t 142),some (140,true)⟩,
 ⟨some 144,.load (some 38) (.t 143),some (140,true)⟩,
 ⟨some 145,.load (some 38) (.t 5),some (140,true)⟩,
 ⟨some 146,.call (.f 47) [(.t 144),(.t 145)],some (140,true)⟩,
 ⟨some 147,.un .not (.t 146),some (140,true)⟩,
 ⟨some 148,.pick (.t 140) (.t 147) (.c (.bool false)),none⟩] [
 ] [1,3,5,7,8,9,148])
 (.cond (.t 148) (.seq (.ops [
 ⟨some 6,.mv (.c (.bool false)),none⟩] [6])
 .ret)
 .skip)))))))
 (.ops [
 ⟨some 51,.mv (.t 9),none⟩,
 ⟨some 52,.bin .add (.t 51) (.c (.int .i64 1)),none⟩,
 ⟨some 9,.mv (.t 52),none⟩] [1,3,5,7,8,9])))))))
 (.ops [
 ⟨some 45,.mv (.t 8),none⟩,
 ⟨some 46,.bin .add (.t 45) (.c (.int .i64 1)),none⟩,
 ⟨some 8,.mv (.t 46),none⟩] [1,3,5,7,8]))))))
 (.seq (.ops [
 ⟨some 150,.load (some 6) (.t 3),none⟩,
 ⟨some 151,.mv (.t 1),none⟩,
 ⟨some 152,.call (.f 51) [(.t 150),(.t 151)],none⟩,
 ⟨some 149,.mv (.t 152),none⟩,
 ⟨some 153,.ext 0 (.t 149),none⟩,
 ⟨some 154,.ext 1 (.t 149),none⟩,
 ⟨some 13,.mv (.t 153),none⟩,
 ⟨some 14,.mv (.t 154),none⟩] [1,7,13,14])
 (.seq (.seq (.ops [
 ⟨some 15,.mv (.c (.int .i64 1)),none⟩] [1,7,13,14,15])
 (.block 4 (.loop (.seq (.seq (.ops [
 ⟨some 155,.mv (.t 15),none⟩,
 ⟨some 156,.mv (.t 13),none⟩,
 ⟨some 157,.len (.t 156),none⟩,
 ⟨some 158,.bin .lss (.t 155) (.t 157),none⟩] [1,7,13,14,15,158])
 (.cond (.t 158) .skip
 (.exit 4)))
 (.seq (.block 5 (.seq (.ops [
 ⟨some 162,.mv (.t 1),none⟩,
 ⟨some 163,.mv (.t 13),none⟩,
 ⟨some 164,.mv (.t 15),none⟩,
 ⟨some 165,.bin .sub (.t 164) (.c (.int .i64 1)),none⟩,
 ⟨some 166,.iaddr 2 (.t 163) (.t 165),none⟩,
 ⟨some 167,.load (some 2) (.t 166),none⟩,
 ⟨some 168,.call (.f 29) [(.t 162),(.t 167)],none⟩,
 ⟨some 161,.mv (.t 168),none⟩,
 ⟨some 169,.ext 0 (.t 161),none⟩,
 ⟨some 170,.ext 1 (.t 161),none⟩,
 ⟨some 16,.alloc 68 38 z38,none⟩,
 ⟨none,.store 38 (.t 16) (.t 169),none⟩,
 ⟨some 17,.mv (.t 170),none⟩] [1,7,13,14,15,16,17])
 (.seq (.ops [
 ⟨some 172,.mv (.t 1),none⟩,
 ⟨some 173,.mv (.t 13),none⟩,
 ⟨some 174,.mv (.t 15),none⟩,
 ⟨some 175,.iaddr 2 (.t 173) (.t 174),none⟩,
 ⟨some 176,.load (some 2) (.t 175),none⟩,
 ⟨some 177,.call (.f 29) [(.t 172),(.t 176)],none⟩,
 ⟨some 171,.mv (.t 177),none⟩,
 ⟨some 178,.ext 0 (.t 171),none⟩,
 ⟨some 179,.ext 1 (.t 171),none⟩,
 ⟨some 18,.alloc 68 38 z38,none⟩,
 ⟨none,.store 38 (.t 18) (.t 178),none⟩,
 ⟨some 19,.mv (.t 179),none⟩] [1,7,13,14,15,16,17,18,19])
 (.seq (.ops [
 ⟨some 180,.mv (.t 17),none⟩,
 ⟨some 181,.un .not (.t 180),none⟩,
 ⟨some 182,.mv (.t 181),none⟩,
 ⟨some 183,.mv (.t 19),some (182,false)⟩,
 ⟨some 184,.un .not (.t 183),some (182,false)⟩,
 ⟨some 185,.pick (.t 182) (.c (.bool true)) (.t 184),none⟩,
 ⟨some 186,.mv (.t 185),none⟩,
 ⟨some 187,.load (some 38) (.t 16),some (186,false)⟩,
 ⟨some 188,.load (some 38) (.t 18),some (186,false)⟩,
 ⟨some 189,.call (.f 47) [(.t 187),(.t 188)],some (186,false)⟩,
 ⟨some 190,.un .not (.t 189),some (186,false)⟩,
 ⟨some 191,.pick (.t 186) (.c (.bool true)) (.t 190),none⟩] [1,7,13,14,15,191])
 (.cond (.t 191) (.seq (.ops [
 ⟨some 6,.mv (.c (.bool false)),none⟩] [6])
 .ret)
 .skip)))))
 (.ops [
 ⟨some 159,.mv (.t 15),none⟩,
 ⟨some 160,.bin .add (.t 159) (.c (.int .i64 1)),none⟩,
 ⟨some 15,.mv (.t 160),none⟩] [1,7,13,14,15]))))))
 (.seq (.ops [
 ⟨some 192,.mv (.t 7),none⟩,
 ⟨some 193,.mv (.t 192),none⟩,
 ⟨some 194,.mv (.t 14),some (193,true)⟩,
 ⟨some 195,.bin .eql (.t 194) (.c (.int .i64 0)),some (193,true)⟩,
 ⟨some 196,.mv (.t 195),some (193,true)⟩,
 ⟨some 197,.mv (.t 13),some (196,false)⟩,
 ⟨some 198,.len (.t 197),some (196,false)⟩,
 ⟨some 199,.bin .eql (.t 198) (.c (.int .i64 0)),some (196,false)⟩,
 ⟨some 200,.pick (.t 196) (.c (.bool true)) (.t 199),some (193,true)⟩,
 ⟨some 201,.pick (.t 193) (.t 200) (.c (.bool false)),none⟩,
 ⟨some 6,.mv (.t 201),none⟩] [6])
 .ret))))))),
 [.t 6]⟩
theorem k12:chkF Tryz.prog Tryz.f12 c12=true:=by kernel_rfl
theorem Order_spec (b:Bse) (l:List Nt) (x:Nt) (hb:bseSz b) (hl:setSz l) (hx:ntSz x):Pure Tryz.prog 12 [.agg b.cs,ntS l,.agg x.cs] (bl true):=by
  refine Pure.of_body Tryz.call12 Tryz.func12 k12 (Nat.le_of_ble_eq_true rfl) ?_
  unfold c12
  have h1:=small_spec b hb
  have h2:=few_spec l hl.1
  have h3:=slight_spec x.sheet
  by_cases hg:smallB b=true∧fewB l=true∧¬ 40 < l.length∧slightB x.sheet=true
  · obtain ⟨g1,g2,g3,g4⟩:=hg
    rw [g1] at h1
    rw [g2] at h2
    rw [g4] at h3
    (repeat' ((first
 | refine vn rfl ?_
 | simp (disch:=omega) only [wr64,Int.zero_sub]
 | refine bo (fun _=>?_) fun _=>?_
 | refine im fun _=>?_
 | ((repeat refine si ?_); (first | ((first | refine .inl ⟨_,_,_,_,rfl,fun _=>pu (by first | exact awake_spec | exact h1 | exact h2 | exact h3),?_⟩ | refine ⟨_,_,_,_,rfl,fun _=>pu (by first | exact awake_spec | exact h1 | exact h2 | exact h3),?_⟩); (first | refine o1 ?_ | refine o2 ?_ | refine o3 ?_ | refine o4 ?_)) | refine .inl ⟨_,_,_,_,rfl,pu (by first | exact awake_spec | exact h1 | exact h2 | exact h3),?_⟩))
 | refine cF ?_
 | refine om ?_
 | refine an ?_
 | fail) <;> try simp only [zN,zT,zV,zS,zU,vcC,lateX,ex,strp,binA,elems,cells,scalar,eqC,keyA,intsA,lookA,ofVs,mpOf,Nat.reduceBEq,reduceAdd,reduceSub,reduceLT,reduceLeDiff,reduceMul,reduceEqDiff,reduceIte]))
    all_goals try (exfalso; omega)
    refine AWPC.loopS (α:={ i:Nat // i≤l.length }) [8] (fun i=>[(8,n i.1)]) (fun i=>l.length - i.1) ⟨0,Nat.zero_le _⟩ ?_ ?_
    · (simp only [zN,zT,zV,zS,zU,vcC,lateX,ex,strp,binA,elems,cells,scalar,eqC,keyA,intsA,lookA,ofVs,mpOf,Nat.reduceBEq,reduceAdd,reduceSub,reduceLT,reduceLeDiff,reduceMul,reduceEqDiff,reduceIte]; try simp)
    · rintro ⟨i,hi⟩
      by_cases hlt:i < l.length
      · have hs:(l.map Nt.cs).getD i []=Nt.cs (l.getD i default):=row default hlt
        have hpm:=hl.2 _ (List.mem_of_getElem? (getD_lt default hlt))
        obtain ⟨p,hp⟩:∃ p,p=l.getD i default:=⟨_,rfl⟩
        rw [← hp] at hs hpm
        (repeat' ((first
 | refine vn rfl ?_
 | simp (disch:=omega) only [wr64,Int.zero_sub]
 | refine bo (fun _=>?_) fun _=>?_
 | refine im fun _=>?_
 | refine cF ?_
 | refine om ?_
 | refine an ?_
 | fail) <;> try simp only [zN, zT, zV, zS, zU, vcC, lateX, ex, strp, binA, elems, cells, scalar, eqC, keyA, intsA, lookA, ofVs, mpOf, Nat.reduceBEq, reduceAdd, reduceSub, reduceLT, reduceLeDiff, reduceMul, reduceEqDiff, reduceIte, hs]))
        all_goals try (exfalso; omega)
        refine AWPC.loopS (α:={ i:Nat // i≤l.length }) [9] (fun i=>[(9,n i.1)]) (fun i=>l.length - i.1) ⟨0,Nat.zero_le _⟩ ?_ ?_
        · (simp only [zN,zT,zV,zS,zU,vcC,lateX,ex,strp,binA,elems,cells,scalar,eqC,keyA,intsA,lookA,ofVs,mpOf,Nat.reduceBEq,reduceAdd,reduceSub,reduceLT,reduceLeDiff,reduceMul,reduceEqDiff,reduceIte]; try simp)
        · rintro ⟨k,hk⟩
          by_cases hlk:k < l.length
          · have hs2:(l.map Nt.cs).getD k []=Nt.cs (l.getD k default):=row default hlk
            have hqm:=hl.2 _ (List.mem_of_getElem? (getD_lt default hlk))
            have hik:i=k→p=l.getD k default:=fun e=>by rw [hp,e]
            obtain ⟨q,hq⟩:∃ q,q=l.getD k default:=⟨_,rfl⟩
            rw [← hq] at hs2 hqm hik
            have c1:=Before_spec p q
            have c2:=Before_spec q p
            have c3:=Before_spec q x
            have c4:=Before_spec p x
            have c5:=Same_spec p q hpm hqm
            have e1:=@cmpT_lt p q
            have e2:=@cmpT_lt q p
            have e3:=@cmpT_lt q x
            have e4:=@cmpT_lt p x
            have hf3:(p.clerk=q.clerk∧p.num=q.num)∨(p.clerk=q.clerk∧¬ p.num=q.num)∨(¬ p.clerk=q.clerk∧(0:Int)≤0):=by omega
            by_cases hik2:i=k
            · obtain rfl:=hik hik2
              obtain rfl:=hik2
              rw [show decide (cmpT p p < 0)=false by rw [decide_eq_false_iff_not]; omega] at c1
              rw [show decide (p=p)=true by simp] at c5
              cases hc3:decide (cmpT p x < 0)
              all_goals (
                rw [hc3] at c3
                (repeat' ((first
 | refine vn rfl ?_
 | simp (disch:=omega) only [wr64,Int.zero_sub]
 | refine bo (fun _=>?_) fun _=>?_
 | refine im fun _=>?_
 | ((repeat refine si ?_); (first | ((first | refine .inl ⟨_,_,_,_,rfl,fun _=>pu (by first | exact c1 | exact c5 | exact c3),?_⟩ | refine ⟨_,_,_,_,rfl,fun _=>pu (by first | exact c1 | exact c5 | exact c3),?_⟩); (first | refine o1 ?_ | refine o2 ?_ | refine o3 ?_ | refine o4 ?_)) | refine .inl ⟨_,_,_,_,rfl,pu (by first | exact c1 | exact c5 | exact c3),?_⟩))
 | refine cF ?_
 | refine om ?_
 | refine an ?_
 | fail) <;> try simp only [zN, zT, zV, zS, zU, vcC, lateX, ex, strp, binA, elems, cells, scalar, eqC, keyA, intsA, lookA, ofVs, mpOf, Nat.reduceBEq, reduceAdd, reduceSub, reduceLT, reduceLeDiff, reduceMul, reduceEqDiff, reduceIte, hs, hs2]))
                all_goals try (exfalso; omega)
                exact ⟨⟨i+1,hlk⟩,by simp,by simp only; omega⟩)
            · have hne:¬ ((i:Int)=(k:Int)):=by omega
              by_cases hX:cmpT p q < 0
              · have hY:¬ cmpT q p < 0:=by omega
                rw [decide_eq_true hX] at c1
                rw [decide_eq_false hY] at c2
                by_cases hq3:cmpT q x < 0
                · have hp3:cmpT p x < 0:=by rw [cmpT_lt] at *; omega
                  rw [decide_eq_true hq3] at c3
                  rw [decide_eq_true hp3] at c4
                  rcases hf3 with ⟨f1,f2⟩ | ⟨f1,f2⟩ | ⟨f1,f2⟩
                  all_goals (
                    (repeat' ((first
 | refine vn rfl ?_
 | simp (disch:=omega) only [wr64,Int.zero_sub]
 | refine bo (fun _=>?_) fun _=>?_
 | refine im fun _=>?_
 | ((repeat refine si ?_); (first | ((first | refine .inl ⟨_,_,_,_,rfl,fun _=>pu (by first | exact c1 | exact c2 | exact c3 | exact c4),?_⟩ | refine ⟨_,_,_,_,rfl,fun _=>pu (by first | exact c1 | exact c2 | exact c3 | exact c4),?_⟩); (first | refine o1 ?_ | refine o2 ?_ | refine o3 ?_ | refine o4 ?_)) | refine .inl ⟨_,_,_,_,rfl,pu (by first | exact c1 | exact c2 | exact c3 | exact c4),?_⟩))
 | refine cF ?_
 | refine cG ?_
 | refine om ?_
 | refine an ?_
 | fail) <;> try simp only [zN, zT, zV, zS, zU, vcC, lateX, ex, strp, binA, elems, cells, scalar, eqC, keyA, intsA, lookA, ofVs, mpOf, Nat.reduceBEq, reduceAdd, reduceSub, reduceLT, reduceLeDiff, reduceMul, reduceEqDiff, reduceIte, hs, hs2, hne, f1, f2]))
                    all_goals try (exfalso; omega)
                    exact ⟨⟨k+1,hlk⟩,by simp,by simp only; omega⟩)
                · rw [decide_eq_false hq3] at c3
                  rcases hf3 with ⟨f1,f2⟩ | ⟨f1,f2⟩ | ⟨f1,f2⟩
                  all_goals (
                    (repeat' ((first
 | refine vn rfl ?_
 | simp (disch:=omega) only [wr64,Int.zero_sub]
 | refine bo (fun _=>?_) fun _=>?_
 | refine im fun _=>?_
 | ((repeat refine si ?_); (first | ((first | refine .inl ⟨_,_,_,_,rfl,fun _=>pu (by first | exact c1 | exact c2 | exact c3 | exact c4),?_⟩ | refine ⟨_,_,_,_,rfl,fun _=>pu (by first | exact c1 | exact c2 | exact c3 | exact c4),?_⟩); (first | refine o1 ?_ | refine o2 ?_ | refine o3 ?_ | refine o4 ?_)) | refine .inl ⟨_,_,_,_,rfl,pu (by first | exact c1 | exact c2 | exact c3 | exact c4),?_⟩))
 | refine cF ?_
 | refine cG ?_
 | refine om ?_
 | refine an ?_
 | fail) <;> try simp only [zN, zT, zV, zS, zU, vcC, lateX, ex, strp, binA, elems, cells, scalar, eqC, keyA, intsA, lookA, ofVs, mpOf, Nat.reduceBEq, reduceAdd, reduceSub, reduceLT, reduceLeDiff, reduceMul, reduceEqDiff, reduceIte, hs, hs2, hne, f1, f2]))
                    all_goals try (exfalso; omega)
                    exact ⟨⟨k+1,hlk⟩,by simp,by simp only; omega⟩)
              · rw [decide_eq_false hX] at c1
                by_cases hY:cmpT q p < 0
                · rw [decide_eq_true hY] at c2
                  rcases hf3 with ⟨f1,f2⟩ | ⟨f1,f2⟩ | ⟨f1,f2⟩
                  all_goals (
                    (repeat' ((first
 | refine vn rfl ?_
 | simp (disch:=omega) only [wr64,Int.zero_sub]
 | refine bo (fun _=>?_) fun _=>?_
 | refine im fun _=>?_
 | ((repeat refine si ?_); (first | ((first | refine .inl ⟨_,_,_,_,rfl,fun _=>pu (by first | exact c1 | exact c2),?_⟩ | refine ⟨_,_,_,_,rfl,fun _=>pu (by first | exact c1 | exact c2),?_⟩); (first | refine o1 ?_ | refine o2 ?_ | refine o3 ?_ | refine o4 ?_)) | refine .inl ⟨_,_,_,_,rfl,pu (by first | exact c1 | exact c2),?_⟩))
 | refine cF ?_
 | refine cG ?_
 | refine om ?_
 | refine an ?_
 | fail) <;> try simp only [zN, zT, zV, zS, zU, vcC, lateX, ex, strp, binA, elems, cells, scalar, eqC, keyA, intsA, lookA, ofVs, mpOf, Nat.reduceBEq, reduceAdd, reduceSub, reduceLT, reduceLeDiff, reduceMul, reduceEqDiff, reduceIte, hs, hs2, hne, f1, f2]))
                    all_goals try (exfalso; omega)
                    exact ⟨⟨k+1,hlk⟩,by simp,by simp only; omega⟩)
                · rw [decide_eq_false hY] at c2
                  have f1:p.clerk=q.clerk:=by omega
                  have f2:p.num=q.num:=by omega
                  (repeat' ((first
 | refine vn rfl ?_
 | simp (disch:=omega) only [wr64,Int.zero_sub]
 | refine bo (fun _=>?_) fun _=>?_
 | refine im fun _=>?_
 | ((repeat refine si ?_); (first | ((first | refine .inl ⟨_,_,_,_,rfl,fun _=>pu (by first | exact c1 | exact c2),?_⟩ | refine ⟨_,_,_,_,rfl,fun _=>pu (by first | exact c1 | exact c2),?_⟩); (first | refine o1 ?_ | refine o2 ?_ | refine o3 ?_ | refine o4 ?_)) | refine .inl ⟨_,_,_,_,rfl,pu (by first | exact c1 | exact c2),?_⟩))
 | refine cF ?_
 | refine cG ?_
 | refine om ?_
 | refine an ?_
 | fail) <;> try simp only [zN, zT, zV, zS, zU, vcC, lateX, ex, strp, binA, elems, cells, scalar, eqC, keyA, intsA, lookA, ofVs, mpOf, Nat.reduceBEq, reduceAdd, reduceSub, reduceLT, reduceLeDiff, reduceMul, reduceEqDiff, reduceIte, hs, hs2, hne, f1, f2]))
                  all_goals try (exfalso; omega)
                  exact ⟨⟨k+1,hlk⟩,by simp,by simp only; omega⟩
          · obtain rfl:k=l.length:=by omega
            (repeat' ((first
 | refine vn rfl ?_
 | simp (disch:=omega) only [wr64,Int.zero_sub]
 | refine bo (fun _=>?_) fun _=>?_
 | refine im fun _=>?_
 | refine cF ?_
 | refine om ?_
 | refine an ?_
 | fail) <;> try simp only [zN, zT, zV, zS, zU, vcC, lateX, ex, strp, binA, elems, cells, scalar, eqC, keyA, intsA, lookA, ofVs, mpOf, Nat.reduceBEq, reduceAdd, reduceSub, reduceLT, reduceLeDiff, reduceMul, reduceEqDiff, reduceIte]))
            all_goals try (exfalso; omega)
            exact ⟨⟨i+1,hlt⟩,by simp,by simp only; omega⟩
      · obtain rfl:i=l.length:=by omega
        have hst:=Stands_spec b hb l hl
        obtain ⟨S,hS⟩:∃ S,S=(standsE b l).1:=⟨_,rfl⟩
        obtain ⟨e,he⟩:∃ e,e=(standsE b l).2:=⟨_,rfl⟩
        have hSe:e=0∨S=[]:=by
          rw [hS,he]; unfold standsE
          by_cases ha:askedE b [l]=0
          · rw [if_neg (by omega)]; exact .inl rfl
          · rw [if_pos ha]; exact .inr rfl
        have hSl:S.length≤l.length:=by
          rw [hS]; unfold standsE
          split
          · exact Nat.zero_le _
          · rw [List.length_map]; exact standT_len l
        have hord:∀ i,i+1 < S.length→∃ p q,noteT l (S.getD i nm0)=some p∧noteT l (S.getD (i+1) nm0)=some q∧cmpT p q < 0:=by
          intro i hi
          by_cases ha:askedE b [l]=0
          · have hn:=setE_nodup ((askedE_ok ha).2 l (by simp))
            have hSS:S=(standT l).map Nt.nm:=by rw [hS]; unfold standsE; rw [if_neg (by omega)]
            subst hSS
            rw [List.length_map] at hi
            have hlt:=standT_lt hn
            rw [List.pairwise_iff_getElem] at hlt
            have m1:=(mem_standT.1 (List.getElem_mem (show i < (standT l).length by omega))).1
            have m2:=(mem_standT.1 (List.getElem_mem hi)).1
            refine ⟨(standT l)[i],(standT l)[i+1],?_,?_,hlt i (i+1) (by omega) hi (by omega)⟩
            · rw [List.getD_eq_getElem?_getD,List.getElem?_map,List.getElem?_eq_getElem (by omega)]
              exact fq_self hn m1 rfl
            · rw [List.getD_eq_getElem?_getD,List.getElem?_map,List.getElem?_eq_getElem hi]
              exact fq_self hn m2 rfl
          · have:S=[]:=by rw [hS]; unfold standsE; rw [if_pos ha]
            rw [this] at hi
            simp at hi
        rw [← hS,← he] at hst
        clear hS he
        (repeat' ((first
 | refine vn rfl ?_
 | simp (disch:=omega) only [wr64,Int.zero_sub]
 | refine bo (fun _=>?_) fun _=>?_
 | refine im fun _=>?_
 | ((repeat refine si ?_); (first | ((first | refine .inl ⟨_,_,_,_,rfl,fun _=>pu hst,?_⟩ | refine ⟨_,_,_,_,rfl,fun _=>pu hst,?_⟩); (first | refine o1 ?_ | refine o2 ?_ | refine o3 ?_ | refine o4 ?_)) | refine .inl ⟨_,_,_,_,rfl,pu hst,?_⟩))
 | refine cF ?_
 | refine om ?_
 | refine an ?_
 | fail) <;> try simp only [zN, zT, zV, zS, zU, vcC, lateX, ex, strp, binA, elems, cells, scalar, eqC, keyA, intsA, lookA, ofVs, mpOf, Nat.reduceBEq, reduceAdd, reduceSub, reduceLT, reduceLeDiff, reduceMul, reduceEqDiff, reduceIte]))
        all_goals try (exfalso; omega)
        refine AWPC.loopE (α:={ x:Nat × Sto // 1≤x.1∧x.1≤max 1 S.length }) [15] (fun x=>[(15,n x.1.1)]) (fun x=>x.1.2) (fun x=>S.length - x.1.1) ⟨(1,[]),by simp; omega⟩ ?_ ?_ ?_
        · (simp only [zN,zT,zV,zS,zU,vcC,lateX,ex,strp,binA,elems,cells,scalar,eqC,keyA,intsA,lookA,ofVs,mpOf,Nat.reduceBEq,reduceAdd,reduceSub,reduceLT,reduceLeDiff,reduceMul,reduceEqDiff,reduceIte]; try simp)
        · rfl
        · rintro ⟨⟨i,σ⟩,hi1,hi2⟩
          simp only at hi1 hi2
          by_cases hlt:i < S.length
          · obtain ⟨p,q,hp,hq,hpq⟩:=hord (i - 1) (by omega)
            rw [show i - 1+1=i by omega] at hq
            have hs1:(S.map Nm.cs).getD ((i:Int) - 1).toNat []=Nm.cs (S.getD (i - 1) nm0):=rowPrev nm0 hlt
            have hs2:(S.map Nm.cs).getD i []=Nm.cs (S.getD i nm0):=row nm0 hlt
            have n1:=noteOf_spec l hl.1 (S.getD (i - 1) nm0)
            have n2:=noteOf_spec l hl.1 (S.getD i nm0)
            rw [hp] at n1
            rw [hq] at n2
            generalize S.getD (i - 1) nm0=a at hs1 n1
            generalize S.getD i nm0=a' at hs2 n2
            have c1:=Before_spec p q
            rw [decide_eq_true hpq] at c1
            simp only [Option.getD_some,Option.isSome_some] at n1 n2
            (repeat' ((first
 | refine vn rfl ?_
 | simp (disch:=omega) only [wr64,Int.zero_sub]
 | refine bo (fun _=>?_) fun _=>?_
 | refine im fun _=>?_
 | ((repeat refine si ?_); (first | ((first | refine .inl ⟨_,_,_,_,rfl,fun _=>pu (by first | exact n1 | exact n2 | exact c1),?_⟩ | refine ⟨_,_,_,_,rfl,fun _=>pu (by first | exact n1 | exact n2 | exact c1),?_⟩); (first | refine o1 ?_ | refine o2 ?_ | refine o3 ?_ | refine o4 ?_)) | refine .inl ⟨_,_,_,_,rfl,pu (by first | exact n1 | exact n2 | exact c1),?_⟩))
 | refine cF ?_
 | refine om ?_
 | refine an ?_
 | fail) <;> try simp only [zN, zT, zV, zS, zU, vcC, lateX, ex, strp, binA, elems, cells, scalar, eqC, keyA, intsA, lookA, ofVs, mpOf, Nat.reduceBEq, reduceAdd, reduceSub, reduceLT, reduceLeDiff, reduceMul, reduceEqDiff, reduceIte, hs1, hs2, at_app, at_app0, upd_app, upd_app0, List.append_assoc, List.cons_append, List.nil_append]))
            all_goals try (exfalso; omega)
            exact ⟨⟨(i+1,_),by simp; omega⟩,by simp,rfl,by simp only; omega⟩
          · rcases hSe with rfl | rfl
            · (repeat' ((first
 | refine vn rfl ?_
 | simp (disch:=omega) only [wr64,Int.zero_sub]
 | refine bo (fun _=>?_) fun _=>?_
 | refine im fun _=>?_
 | refine cF ?_
 | refine om ?_
 | refine an ?_
 | fail) <;> try simp only [zN, zT, zV, zS, zU, vcC, lateX, ex, strp, binA, elems, cells, scalar, eqC, keyA, intsA, lookA, ofVs, mpOf, Nat.reduceBEq, reduceAdd, reduceSub, reduceLT, reduceLeDiff, reduceMul, reduceEqDiff, reduceIte]))
              all_goals try (exfalso; omega)
              exact Frz.eq rfl (by simp)
            · (repeat' ((first
 | refine vn rfl ?_
 | simp (disch:=omega) only [wr64,Int.zero_sub]
 | refine bo (fun _=>?_) fun _=>?_
 | refine im fun _=>?_
 | refine cF ?_
 | refine om ?_
 | refine an ?_
 | fail) <;> try simp only [zN, zT, zV, zS, zU, vcC, lateX, ex, strp, binA, elems, cells, scalar, eqC, keyA, intsA, lookA, ofVs, mpOf, Nat.reduceBEq, reduceAdd, reduceSub, reduceLT, reduceLeDiff, reduceMul, reduceEqDiff, reduceIte]))
              all_goals try (exfalso; simp at hlt; omega)
              exact Frz.eq rfl (by simp)
  · cases g1:smallB b with
    | false =>
      rw [g1] at h1
      (repeat' ((first
 | refine vn rfl ?_
 | simp (disch:=omega) only [wr64,Int.zero_sub]
 | refine bo (fun _=>?_) fun _=>?_
 | refine im fun _=>?_
 | ((repeat refine si ?_); (first | ((first | refine .inl ⟨_,_,_,_,rfl,fun _=>pu (by first | exact awake_spec | exact h1 | exact h2 | exact h3),?_⟩ | refine ⟨_,_,_,_,rfl,fun _=>pu (by first | exact awake_spec | exact h1 | exact h2 | exact h3),?_⟩); (first | refine o1 ?_ | refine o2 ?_ | refine o3 ?_ | refine o4 ?_)) | refine .inl ⟨_,_,_,_,rfl,pu (by first | exact awake_spec | exact h1 | exact h2 | exact h3),?_⟩))
 | refine cF ?_
 | refine om ?_
 | refine an ?_
 | fail) <;> try simp only [zN,zT,zV,zS,zU,vcC,lateX,ex,strp,binA,elems,cells,scalar,eqC,keyA,intsA,lookA,ofVs,mpOf,Nat.reduceBEq,reduceAdd,reduceSub,reduceLT,reduceLeDiff,reduceMul,reduceEqDiff,reduceIte]))
      all_goals try (exfalso; omega)
      exact Frz.eq rfl (by simp)
    | true =>
      rw [g1] at h1
      cases g2:fewB l with
      | false =>
        rw [g2] at h2
        (repeat' ((first
 | refine vn rfl ?_
 | simp (disch:=omega) only [wr64,Int.zero_sub]
 | refine bo (fun _=>?_) fun _=>?_
 | refine im fun _=>?_
 | ((repeat refine si ?_); (first | ((first | refine .inl ⟨_,_,_,_,rfl,fun _=>pu (by first | exact awake_spec | exact h1 | exact h2 | exact h3),?_⟩ | refine ⟨_,_,_,_,rfl,fun _=>pu (by first | exact awake_spec | exact h1 | exact h2 | exact h3),?_⟩); (first | refine o1 ?_ | refine o2 ?_ | refine o3 ?_ | refine o4 ?_)) | refine .inl ⟨_,_,_,_,rfl,pu (by first | exact awake_spec | exact h1 | exact h2 | exact h3),?_⟩))
 | refine cF ?_
 | refine om ?_
 | refine an ?_
 | fail) <;> try simp only [zN, zT, zV, zS, zU, vcC, lateX, ex, strp, binA, elems, cells, scalar, eqC, keyA, intsA, lookA, ofVs, mpOf, Nat.reduceBEq, reduceAdd, reduceSub, reduceLT, reduceLeDiff, reduceMul, reduceEqDiff, reduceIte]))
        all_goals try (exfalso; omega)
        exact Frz.eq rfl (by simp)
      | true =>
        rw [g2] at h2
        by_cases g3:40 < l.length
        · have g3':(40:Int) < (l.length:Int):=by omega
          (repeat' ((first
 | refine vn rfl ?_
 | simp (disch:=omega) only [wr64,Int.zero_sub]
 | refine bo (fun _=>?_) fun _=>?_
 | refine im fun _=>?_
 | ((repeat refine si ?_); (first | ((first | refine .inl ⟨_,_,_,_,rfl,fun _=>pu (by first | exact awake_spec | exact h1 | exact h2 | exact h3),?_⟩ | refine ⟨_,_,_,_,rfl,fun _=>pu (by first | exact awake_spec | exact h1 | exact h2 | exact h3),?_⟩); (first | refine o1 ?_ | refine o2 ?_ | refine o3 ?_ | refine o4 ?_)) | refine .inl ⟨_,_,_,_,rfl,pu (by first | exact awake_spec | exact h1 | exact h2 | exact h3),?_⟩))
 | refine cF ?_
 | refine om ?_
 | refine an ?_
 | fail) <;> try simp only [zN, zT, zV, zS, zU, vcC, lateX, ex, strp, binA, elems, cells, scalar, eqC, keyA, intsA, lookA, ofVs, mpOf, Nat.reduceBEq, reduceAdd, reduceSub, reduceLT, reduceLeDiff, reduceMul, reduceEqDiff, reduceIte, g3']))
          all_goals try (exfalso; omega)
          all_goals exact Frz.eq rfl (by simp)
        · have g4:slightB x.sheet=false:=by
            cases g:slightB x.sheet with
            | false=>rfl
            | true=>exact absurd ⟨g1,g2,g3,g⟩ hg
          rw [g4] at h3
          (repeat' ((first
 | refine vn rfl ?_
 | simp (disch:=omega) only [wr64,Int.zero_sub]
 | refine bo (fun _=>?_) fun _=>?_
 | refine im fun _=>?_
 | ((repeat refine si ?_); (first | ((first | refine .inl ⟨_,_,_,_,rfl,fun _=>pu (by first | exact awake_spec | exact h1 | exact h2 | exact h3),?_⟩ | refine ⟨_,_,_,_,rfl,fun _=>pu (by first | exact awake_spec | exact h1 | exact h2 | exact h3),?_⟩); (first | refine o1 ?_ | refine o2 ?_ | refine o3 ?_ | refine o4 ?_)) | refine .inl ⟨_,_,_,_,rfl,pu (by first | exact awake_spec | exact h1 | exact h2 | exact h3),?_⟩))
 | refine cF ?_
 | refine om ?_
 | refine an ?_
 | fail) <;> try simp only [zN, zT, zV, zS, zU, vcC, lateX, ex, strp, binA, elems, cells, scalar, eqC, keyA, intsA, lookA, ofVs, mpOf, Nat.reduceBEq, reduceAdd, reduceSub, reduceLT, reduceLeDiff, reduceMul, reduceEqDiff, reduceIte]))
          all_goals try (exfalso; omega)
          all_goals exact Frz.eq rfl (by simp)
end Go.Proofs.YtolgelipcgcbhaaGreat
