/- Part 10 of the texts that the claim rests on: abstract values over the walk, and contracts of functions. -/
import Derived.Test.YtahkhnagpdlkiaaGreatBe9
import Derived.Test.YtahkhnagpdlkiaaGreatRows
namespace Go.Proofs.YtahkhnagpdlkiaaGreat
open Go.Abs
open Nat (reduceAdd reduceSub reduceLT reduceLeDiff reduceMul reduceEqDiff)
set_option linter.unusedVariables false
set_option linter.unusedSimpArgs false
set_option maxHeartbeats 4000000
set_option maxRecDepth 100000
def c10 : CF := ⟨233,
 (.seq (.ops [
 ⟨some 2,.box false 24 1 (.t 0),none⟩,
 ⟨some 3,.box false 33 11 (.t 1),none⟩,
 ⟨some 4,.mv (.c (.bool false)),none⟩] [2,3])
 (.seq (.ops [
 ⟨some 18,.call (.f 16) [],none⟩,
 ⟨some 5,.mv (.t 18),none⟩] [2,3,5])
 (.seq (.seq (.ops [
 ⟨some 19,.load (some 1) (.t 2),none⟩,
 ⟨some 20,.call (.f 17) [(.t 19)],none⟩,
 ⟨some 21,.un .not (.t 20),none⟩,
 ⟨some 22,.mv (.t 21),none⟩,
 ⟨some 23,.load (some 11) (.t 3),some (22,false)⟩,
 ⟨some 24,.call (.f 18) [(.t 23)],some (22,false)⟩,
 ⟨some 25,.un .not (.t 24),some (22,false)⟩,
 ⟨some 26,.pick (.t 22) (.c (.bool true)) (.t 25),none⟩] [2,3,5,26])
 (.cond (.t 26) (.seq (.ops [
 ⟨some 27,.mv (.t 5),none⟩,
 ⟨some 4,.mv (.t 27),none⟩] [4])
 .ret)
 .skip))
 (.seq (.ops [
 ⟨some 29,.load (some 1) (.t 2),none⟩,
 ⟨some 30,.call (.f 34) [(.t 29)],none⟩,
 ⟨some 28,.mv (.t 30),none⟩,
 ⟨some 31,.ext 0 (.t 28),none⟩,
 ⟨some 32,.ext 1 (.t 28),none⟩,
 ⟨some 6,.mv (.t 31),none⟩,
 ⟨some 7,.mv (.t 32),none⟩] [2,3,5,6,7])
 (.seq (.ops [
 ⟨some 34,.load (some 1) (.t 2),none⟩,
 ⟨some 35,.call (.f 30) [(.t 34)],none⟩,
 ⟨some 33,.mv (.t 35),none⟩,
 ⟨some 36,.ext 0 (.t 33),none⟩,
 ⟨some 37,.ext 1 (.t 33),none⟩,
 ⟨some 8,.mv (.t 36),none⟩,
 ⟨some 9,.mv (.t 37),none⟩] [2,3,5,6,7,8,9])
 (.seq (.ops [
 ⟨some 39,.load (some 1) (.t 2),none⟩,
 ⟨some 40,.call (.f 32) [(.t 39)],none⟩,
 ⟨some 38,.mv (.t 40),none⟩,
 ⟨some 41,.ext 0 (.t 38),none⟩,
 ⟨some 42,.ext 1 (.t 38),none⟩,
 ⟨some 10,.mv (.t 41),none⟩,
 ⟨some 11,.mv (.t 42),none⟩] [2,3,5,6,7,8,9,10,11])
 (.seq (.seq (.ops [
 ⟨some 43,.mv (.t 7),none⟩,
 ⟨some 44,.bin .neq (.t 43) (.c (.int .i64 0)),none⟩] [2,3,5,6,7,8,9,10,11,44])
 (.cond (.t 44) (.seq (.ops [
 ⟨some 45,.mv (.t 5),none⟩,
 ⟨some 46,.mv (.t 45),none⟩,
 ⟨some 47,.mv (.t 9),some (46,true)⟩,
 ⟨some 48,.mv (.t 7),some (46,true)⟩,
 ⟨some 49,.bin .eql (.t 47) (.t 48),some (46,true)⟩,
 ⟨some 50,.pick (.t 46) (.t 49) (.c (.bool false)),none⟩,
 ⟨some 51,.mv (.t 50),none⟩,
 ⟨some 52,.mv (.t 11),some (51,true)⟩,
 ⟨some 53,.mv (.t 7),some (51,true)⟩,
 ⟨some 54,.bin .eql (.t 52) (.t 53),some (51,true)⟩,
 ⟨some 55,.pick (.t 51) (.t 54) (.c (.bool false)),none⟩,
 ⟨some 56,.mv (.t 55),none⟩,
 ⟨some 57,.load (some 1) (.t 2),some (56,true)⟩,
 ⟨some 58,.faddr 5 (.t 3),some (56,true)⟩,
 ⟨some 59,.load none (.t 58),some (56,true)⟩,
 ⟨some 60,.call (.f 49) [(.t 57),(.t 59)],some (56,true)⟩,
 ⟨some 61,.un .not (.t 60),some (56,true)⟩,
 ⟨some 62,.pick (.t 56) (.t 61) (.c (.bool false)),none⟩,
 ⟨some 4,.mv (.t 62),none⟩] [4])
 .ret)
 .skip))
 (.seq (.seq (.ops [
 ⟨some 63,.mv (.t 9),none⟩,
 ⟨some 64,.bin .neq (.t 63) (.c (.int .i64 0)),none⟩,
 ⟨some 65,.mv (.t 64),none⟩,
 ⟨some 66,.mv (.t 11),some (65,false)⟩,
 ⟨some 67,.bin .neq (.t 66) (.c (.int .i64 0)),some (65,false)⟩,
 ⟨some 68,.pick (.t 65) (.c (.bool true)) (.t 67),none⟩,
 ⟨some 69,.mv (.t 68),none⟩,
 ⟨some 70,.load (some 1) (.t 2),some (69,false)⟩,
 ⟨some 71,.mv (.t 6),some (69,false)⟩,
 ⟨some 72,.call (.f 44) [(.t 70),(.t 71)],some (69,false)⟩,
 ⟨some 73,.un .not (.t 72),some (69,false)⟩,
 ⟨some 74,.pick (.t 69) (.c (.bool true)) (.t 73),none⟩,
 ⟨some 75,.mv (.t 74),none⟩,
 ⟨some 76,.load (some 1) (.t 2),some (75,false)⟩,
 ⟨some 77,.mv (.t 8),some (75,false)⟩,
 ⟨some 78,.call (.f 44) [(.t 76),(.t 77)],some (75,false)⟩,
 ⟨some 79,.un .not (.t 78),some (75,false)⟩,
 ⟨some 80,.pick (.t 75) (.c (.bool true)) (.t 79),none⟩,
 ⟨some 81,.mv (.t 80),none⟩,
 ⟨some 82,.load (some 1) (.t 2),some (81,false)⟩,
 ⟨some 83,.mv (.t 10),some (81,false)⟩,
 ⟨some 84,.call (.f 44) [(.t 82),(.t 83)],some (81,false)⟩,
 ⟨some 85,.un .not (.t 84),some (81,false)⟩,
 ⟨some 86,.pick (.t 81) (.c (.bool true)) (.t 85),none⟩] [2,3,5,6,8,10,86])
 (.cond (.t 86) (.seq (.ops [
 ⟨some 4,.mv (.c (.bool false)),none⟩] [4])
 .ret)
 .skip))
 (.seq (.seq (.ops [
 ⟨some 87,.load (some 1) (.t 2),none⟩,
 ⟨some 88,.faddr 5 (.t 3),none⟩,
 ⟨some 89,.load none (.t 88),none⟩,
 ⟨some 90,.call (.f 49) [(.t 87),(.t 89)],none⟩] [2,3,5,6,8,10,90])
 (.cond (.t 90) (.seq (.ops [
 ⟨some 12,.mv (.c (.int .i64 0)),none⟩] [2,3,5,6,8,10,12])
 (.block 0 (.loop (.seq (.seq (.ops [
 ⟨some 91,.mv (.t 12),none⟩,
 ⟨some 92,.faddr 5 (.t 3),none⟩,
 ⟨some 93,.load none (.t 92),none⟩,
 ⟨some 94,.len (.t 93),none⟩,
 ⟨some 95,.bin .lss (.t 91) (.t 94),none⟩] [2,3,5,6,8,10,12,95])
 (.cond (.t 95) .skip
 (.exit 0)))
 (.seq (.block 1 (.seq (.draw [
 ⟨some 98,.mv (.t 6),none⟩,
 ⟨some 99,.mv (.t 12),none⟩,
 ⟨some 100,.iaddr 1 (.t 98) (.t 99),none⟩,
 ⟨some 101,.load none (.t 100),none⟩,
 ⟨some 102,.faddr 5 (.t 3),none⟩,
 ⟨some 103,.load none (.t 102),none⟩,
 ⟨some 104,.mv (.t 12),none⟩,
 ⟨some 105,.iaddr 2 (.t 103) (.t 104),none⟩,
 ⟨some 106,.faddr 0 (.t 105),none⟩,
 ⟨some 107,.load none (.t 106),none⟩,
 ⟨some 108,.iaddr 1 (.t 101) (.t 107),none⟩,
 ⟨some 109,.load none (.t 108),none⟩,
 ⟨some 110,.faddr 5 (.t 3),none⟩,
 ⟨some 111,.load none (.t 110),none⟩,
 ⟨some 112,.mv (.t 12),none⟩,
 ⟨some 113,.iaddr 2 (.t 111) (.t 112),none⟩,
 ⟨some 114,.faddr 1 (.t 113),none⟩,
 ⟨some 115,.load none (.t 114),none⟩,
 ⟨some 116,.call (.f 29) [(.t 109),(.t 115)],none⟩,
 ⟨some 117,.un .not (.t 116),none⟩] [
 ] [2,3,5,6,8,10,12,117])
 (.cond (.t 117) (.seq (.ops [
 ⟨some 4,.mv (.c (.bool false)),none⟩] [4])
 .ret)
 .skip)))
 (.ops [
 ⟨some 96,.mv (.t 12),none⟩,
 ⟨some 97,.bin .add (.t 96) (.c (.int .i64 1)),none⟩,
 ⟨some 12,.mv (.t 97),none⟩] [2,3,5,6,8,10,12]))))))
 .skip))
 (.seq (.seq (.draw [
 ⟨some 118,.faddr 0 (.t 3),none⟩,
 ⟨some 119,.load none (.t 118),none⟩,
 ⟨some 120,.bin .lss (.t 119) (.c (.int .i64 0)),none⟩,
 ⟨some 121,.mv (.t 120),none⟩,
 ⟨some 122,.faddr 0 (.t 3),some (121,false)⟩,
 ⟨some 123,.load none (.t 122),some (121,false)⟩,
 ⟨some 124,.faddr 0 (.t 2),some (121,false)⟩,
 ⟨some 125,.load none (.t 124),some (121,false)⟩,
 ⟨some 126,.len (.t 125),some (121,false)⟩,
 ⟨some 127,.bin .geq (.t 123) (.t 126),some (121,false)⟩,
 ⟨some 128,.pick (.t 121) (.c (.bool true)) (.t 127),none⟩,
 ⟨some 129,.mv (.t 128),none⟩,
 ⟨some 130,.faddr 3 (.t 3),some (129,false)⟩,
 ⟨some 131,.faddr 0 (.t 130),some (129,false)⟩,
 ⟨some 132,.load none (.t 131),some (129,false)⟩,
 ⟨some 133,.bin .lss (.t 132) (.c (.int .i64 0)),some (129,false)⟩,
 ⟨some 134,.pick (.t 129) (.c (.bool true)) (.t 133),none⟩,
 ⟨some 135,.mv (.t 134),none⟩,
 ⟨some 136,.faddr 3 (.t 3),some (135,false)⟩,
 ⟨some 137,.faddr 0 (.t 136),some (135,false)⟩,
 ⟨some 138,.load none (.t 137),some (135,false)⟩,
 ⟨some 139,.faddr 0 (.t 2),some (135,false)⟩,
 ⟨some 140,.load none (.t 139),some (135,false)⟩,
 ⟨some 141,.faddr 0 (.t 3),some (135,false)⟩,
 ⟨some 142,.load none (.t 141),some (135,false)⟩,
 ⟨some 143,.iaddr 1 (.t 140) (.t 142),some (135,false)⟩,
 ⟨some 144,.load none (.t 143),some (135,false)⟩,
 ⟨some 145,.len (.t 144),some (135,false)⟩,
 ⟨some 146,.bin .geq (.t 138) (.t 145),some (135,false)⟩,
 ⟨some 147,.pick (.t 135) (.c (.bool true)) (.t 146),none⟩] [
 ] [2,3,5,6,8,10,147])
 (.cond (.t 147) (.seq (.ops [
 ⟨some 148,.mv (.t 5),none⟩,
 ⟨some 4,.mv (.t 148),none⟩] [4])
 .ret)
 .skip))
 (.seq (.ops [
 ⟨some 149,.faddr 0 (.t 3),none⟩,
 ⟨some 150,.load none (.t 149),none⟩,
 ⟨some 13,.mv (.t 150),none⟩] [2,3,5,6,8,10,13])
 (.seq (.ops [
 ⟨some 151,.faddr 3 (.t 3),none⟩,
 ⟨some 152,.faddr 0 (.t 151),none⟩,
 ⟨some 153,.load none (.t 152),none⟩,
 ⟨some 14,.mv (.t 153),none⟩] [2,3,5,6,8,10,13,14])
 (.seq (.draw [
 ⟨some 154,.mv (.t 6),none⟩,
 ⟨some 155,.mv (.t 13),none⟩,
 ⟨some 156,.iaddr 1 (.t 154) (.t 155),none⟩,
 ⟨some 157,.load none (.t 156),none⟩,
 ⟨some 158,.mv (.t 14),none⟩,
 ⟨some 159,.iaddr 1 (.t 157) (.t 158),none⟩,
 ⟨some 160,.load none (.t 159),none⟩,
 ⟨some 161,.faddr 3 (.t 3),none⟩,
 ⟨some 162,.faddr 1 (.t 161),none⟩,
 ⟨some 163,.load none (.t 162),none⟩,
 ⟨some 164,.call (.f 29) [(.t 160),(.t 163)],none⟩,
 ⟨some 15,.mv (.t 164),none⟩] [
 ] [2,3,5,6,8,10,13,14,15])
 (.seq (.seq (.draw [
 ⟨some 165,.mv (.t 15),none⟩,
 ⟨some 166,.mv (.t 8),none⟩,
 ⟨some 167,.mv (.t 13),none⟩,
 ⟨some 168,.iaddr 1 (.t 166) (.t 167),none⟩,
 ⟨some 169,.load none (.t 168),none⟩,
 ⟨some 170,.mv (.t 14),none⟩,
 ⟨some 171,.iaddr 1 (.t 169) (.t 170),none⟩,
 ⟨some 172,.load none (.t 171),none⟩,
 ⟨some 173,.faddr 3 (.t 3),none⟩,
 ⟨some 174,.faddr 1 (.t 173),none⟩,
 ⟨some 175,.load none (.t 174),none⟩,
 ⟨some 176,.call (.f 29) [(.t 172),(.t 175)],none⟩,
 ⟨some 177,.mv (.t 176),none⟩,
 ⟨some 178,.mv (.t 10),some (177,true)⟩,
 ⟨some 179,.mv (.t 13),some (177,true)⟩,
 ⟨some 180,.iaddr 1 (.t 178) (.t 179),some (177,true)⟩,
 ⟨some 181,.load none (.t 180),some (177,true)⟩,
 ⟨some 182,.mv (.t 14),some (177,true)⟩,
 ⟨some 183,.iaddr 1 (.t 181) (.t 182),some (177,true)⟩,
 ⟨some 184,.load none (.t 183),some (177,true)⟩,
 ⟨some 185,.faddr 3 (.t 3),some (177,true)⟩,
 ⟨some 186,.faddr 1 (.t 185),some (177,true)⟩,
 ⟨some 187,.load none (.t 186),some (177,true)⟩,
 ⟨some 188,.call (.f 29) [(.t 184),(.t 187)],some (177,true)⟩,
 ⟨some 189,.pick (.t 177) (.t 188) (.c (.bool false)),none⟩,
 ⟨some 190,.eqb true (.t 165) (.t 189),none⟩,
 ⟨some 191,.mv (.t 190),none⟩,
 ⟨some 192,.mv (.t 6),some (191,false)⟩,
 ⟨some 193,.mv (.t 13),some (191,false)⟩,
 ⟨some 194,.iaddr 1 (.t 192) (.t 193),some (191,false)⟩,
 ⟨some 195,.load none (.t 194),some (191,false)⟩,
 ⟨some 196,.mv (.t 14),some (191,false)⟩,
 ⟨some 197,.iaddr 1 (.t 195) (.t 196),some (191,false)⟩,
 ⟨some 198,.load none (.t 197),some (191,false)⟩,
 ⟨some 199,.call (.f 27) [(.t 198)],some (191,false)⟩,
 ⟨some 200,.un .not (.t 199),some (191,false)⟩,
 ⟨some 201,.pick (.t 191) (.c (.bool true)) (.t 200),none⟩] [
 ] [2,3,5,13,15,201])
 (.cond (.t 201) (.seq (.ops [
 ⟨some 4,.mv (.c (.bool false)),none⟩] [4])
 .ret)
 .skip))
 (.seq (.ops [
 ⟨some 203,.load (some 1) (.t 2),none⟩,
 ⟨some 204,.mv (.t 13),none⟩,
 ⟨some 205,.faddr 3 (.t 3),none⟩,
 ⟨some 206,.load (some 2) (.t 205),none⟩,
 ⟨some 207,.call (.f 50) [(.t 203),(.t 204),(.t 206)],none⟩,
 ⟨some 202,.mv (.t 207),none⟩,
 ⟨some 208,.ext 0 (.t 202),none⟩,
 ⟨some 209,.ext 1 (.t 202),none⟩,
 ⟨some 16,.mv (.t 208),none⟩,
 ⟨some 17,.mv (.t 209),none⟩] [2,3,5,13,15,16,17])
 (.seq (.seq (.ops [
 ⟨some 210,.mv (.t 15),none⟩,
 ⟨some 211,.mv (.t 17),none⟩,
 ⟨some 212,.bin .eql (.t 211) (.c (.int .i64 0)),none⟩,
 ⟨some 213,.eqb true (.t 210) (.t 212),none⟩] [2,3,5,13,15,16,213])
 (.cond (.t 213) (.seq (.ops [
 ⟨some 4,.mv (.c (.bool false)),none⟩] [4])
 .ret)
 .skip))
 (.seq (.draw [
 ⟨some 214,.mv (.t 5),none⟩,
 ⟨some 215,.mv (.t 214),none⟩,
 ⟨some 216,.mv (.t 15),some (215,true)⟩,
 ⟨some 217,.un .not (.t 216),some (215,true)⟩,
 ⟨some 218,.mv (.t 217),some (215,true)⟩,
 ⟨some 219,.load (some 1) (.t 2),some (218,false)⟩,
 ⟨some 220,.mv (.t 16),some (218,false)⟩,
 ⟨some 221,.call (.f 49) [(.t 219),(.t 220)],some (218,false)⟩,
 ⟨some 222,.mv (.t 221),some (218,false)⟩,
 ⟨some 223,.mv (.t 16),some (222,true)⟩,
 ⟨some 224,.mv (.t 13),some (222,true)⟩,
 ⟨some 225,.iaddr 2 (.t 223) (.t 224),some (222,true)⟩,
 ⟨some 226,.load (some 2) (.t 225),some (222,true)⟩,
 ⟨some 227,.faddr 3 (.t 3),some (222,true)⟩,
 ⟨some 228,.load (some 2) (.t 227),some (222,true)⟩,
 ⟨some 229,.eqs false [some .i64,some .i64] (.t 226) (.t 228),some (222,true)⟩,
 ⟨some 230,.pick (.t 222) (.t 229) (.c (.bool false)),some (218,false)⟩,
 ⟨some 231,.pick (.t 218) (.c (.bool true)) (.t 230),some (215,true)⟩,
 ⟨some 232,.pick (.t 215) (.t 231) (.c (.bool false)),none⟩,
 ⟨some 4,.mv (.t 232),none⟩] [
 ] [4])
 .ret))))))))))))))))),
 [.t 4]⟩
theorem k10 : chkF Tryz.prog Tryz.f10 c10 = true := by kernel_rfl
theorem bnB : (true != true) = false ∧ (false != false) = false ∧ (true != false) = true ∧ (false != true) = true := by decide
theorem bwds_sz {t : Trk} (hv : valid t) : setsSz (bwds t) := by
  have h2 := hv.2.1
  refine ⟨by simp [bwds]; omega, fun x hx => ?_⟩
  obtain ⟨k, hk, rfl⟩ := List.mem_map.1 hx
  have hk := List.mem_range.1 hk
  have hw := wd_le hv k
  exact ⟨by rw [bwd_len hk]; omega, fun l hl => by have := good_len (bwd_goods hv k l hl); omega⟩
theorem fwds_szV {t : Trk} (hv : valid t) : setsSz (fwds t) := by
  have h2 := hv.2.1
  refine ⟨by simp [fwds]; omega, fun x hx => ?_⟩
  obtain ⟨k, _, rfl⟩ := List.mem_map.1 hx
  have hw := wd_le hv k
  exact ⟨by rw [fwd_len]; omega, fun l hl => by have := good_len (fwd_goods hv k l hl); omega⟩
theorem allvs_szV {t : Trk} (hv : valid t) : setsSz (allvs t) := by
  have h2 := hv.2.1
  refine ⟨by simp [allvs]; omega, fun x hx => ?_⟩
  obtain ⟨k, hk, rfl⟩ := List.mem_map.1 hx
  have hk := List.mem_range.1 hk
  have hw := wd_le hv k
  exact ⟨by rw [allv_len hk]; omega, fun l hl => by have := good_len (allv_goods hv hk l hl); omega⟩
theorem shaped_of {t : Trk} {f : Nat → List (List Sp)} (h : ∀ k, k < t.length → (f k).length = wd t k) : shaped t ((List.range t.length).map f) := by
  refine ⟨by simp, fun k hk => ?_⟩
  have hk' : k < t.length := by simpa using hk
  have : ((List.range t.length).map f).getD k [] = f k := by simp [List.getD_eq_getElem?_getD, hk']
  rw [this, h k hk']
theorem Exact_spec (t : Trk) (x : Ask) (hs : trkSz t) (hx : Ask.sz x) : Pure Tryz.prog 10 [trS t, .agg x.cs] (bl true) := by
  refine Pure.of_body Tryz.call10 Tryz.func10 k10 (Nat.le_of_ble_eq_true rfl) ?_
  unfold c10
  have hw := awake_spec
  have hf := few_spec t hs
  have hl := light_spec x hx
  have hA := All_spec t hs
  have hF := Forward_spec t hs
  have hB := Backward_spec t hs
  have hwi := With_spec t x.stage x.pl hs
  have hwl := with_len x.stage x.pl hs
  have hwe := @with_E t x.stage x.pl
  have hwc := fun c h => @with_C t x.stage x.pl c h
  have i1 := is_spec t x.one hs hx.1
  have i3 := is_spec t _ hs hwl
  have hx1 := hx.1
  generalize withR t x.stage x.pl = W at *
  obtain ⟨b, f⟩ := W
  generalize fewB t = B1 at *
  generalize tr (Light x) = B2 at *
  obtain ⟨x1, x2, x3, ⟨x4, x5⟩, one, two, lims, ⟨x9, x10⟩, sets⟩ := x
  simp only at *
  cases B1 with
  | false =>
    (repeat' ((first
 | refine vn rfl ?_
 | simp (disch := omega) only [wr64, Int.zero_sub]
 | refine AWPC.both (fun _ => ?_) (fun _ => ?_)
 | refine AWPC.imp (fun _ => ?_)
 | ((repeat refine si ?_); (first | ((first | refine .inl ⟨_, _, _, _, rfl, fun _ => pu (by first | exact hw | exact hf), ?_⟩ | refine ⟨_, _, _, _, rfl, fun _ => pu (by first | exact hw | exact hf), ?_⟩); (first | refine owp_of_exs ?_ | refine pre_of_exd ?_ | refine pre_of_exe ?_ | refine pre_of_exv ?_)) | refine .inl ⟨_, _, _, _, rfl, pu (by first | exact hw | exact hf), ?_⟩))
 | refine cF ?_
 | refine om ?_
 | refine an ?_
 | fail) <;> try simp only [zT, zV, zS, zU, vcC, kscp, lateX, ex, strp, cnd, binA, kseq, kblk, kret, klp, Abs.one, elems, cells, scalar, eqC, keyA, intsA, lookA, ofVs, mpOf, Nat.reduceBEq, reduceAdd, reduceSub, reduceLT, reduceLeDiff, reduceMul, reduceEqDiff, reduceIte]))
    all_goals exact Frz.eq rfl (by simp)
  | true =>
  cases B2 with
  | false =>
    (repeat' ((first
 | refine vn rfl ?_
 | simp (disch := omega) only [wr64, Int.zero_sub]
 | refine AWPC.both (fun _ => ?_) (fun _ => ?_)
 | refine AWPC.imp (fun _ => ?_)
 | ((repeat refine si ?_); (first | ((first | refine .inl ⟨_, _, _, _, rfl, fun _ => pu (by first | exact hw | exact hf | exact hl), ?_⟩ | refine ⟨_, _, _, _, rfl, fun _ => pu (by first | exact hw | exact hf | exact hl), ?_⟩); (first | refine owp_of_exs ?_ | refine pre_of_exd ?_ | refine pre_of_exe ?_ | refine pre_of_exv ?_)) | refine .inl ⟨_, _, _, _, rfl, pu (by first | exact hw | exact hf | exact hl), ?_⟩))
 | refine cF ?_
 | refine om ?_
 | refine an ?_
 | fail) <;> try simp only [zT, zV, zS, zU, vcC, kscp, lateX, ex, strp, cnd, binA, kseq, kblk, kret, klp, Abs.one, elems, cells, scalar, eqC, keyA, intsA, lookA, ofVs, mpOf, Nat.reduceBEq, reduceAdd, reduceSub, reduceLT, reduceLeDiff, reduceMul, reduceEqDiff, reduceIte]))
    all_goals exact Frz.eq rfl (by simp)
  | true =>
  by_cases hv : valid t
  · rw [tr_1 hv] at hA hF hB
    simp only [if_true] at hA hF hB
    have s1 := shaped_spec t (allvs t) hs (allvs_szV hv)
    have s2 := shaped_spec t (fwds t) hs (fwds_szV hv)
    have s3 := shaped_spec t (bwds t) hs (bwds_sz hv)
    rw [tr_1 (show shaped t (allvs t) from shaped_of fun k hk => allv_len hk)] at s1
    rw [tr_1 (show shaped t (fwds t) from shaped_of fun k hk => fwd_len t k)] at s2
    rw [tr_1 (show shaped t (bwds t) from shaped_of fun k hk => bwd_len hk)] at s3
    have h1l := hs.1
    have la0 := allvs_len t
    by_cases hone : course t one
    · rw [tr_1 ⟨hv, hone⟩] at i1
      have hol := hone.1
      (repeat' ((first
 | refine vn rfl ?_
 | simp (disch := omega) only [wr64, Int.zero_sub]
 | refine AWPC.both (fun _ => ?_) (fun _ => ?_)
 | refine AWPC.imp (fun _ => ?_)
 | ((repeat refine si ?_); (first | ((first | refine .inl ⟨_, _, _, _, rfl, fun _ => pu (by first | exact hw | exact hf | exact hl | exact hA | exact hF | exact hB | exact i1 | exact s1 | exact s2 | exact s3), ?_⟩ | refine ⟨_, _, _, _, rfl, fun _ => pu (by first | exact hw | exact hf | exact hl | exact hA | exact hF | exact hB | exact i1 | exact s1 | exact s2 | exact s3), ?_⟩); (first | refine owp_of_exs ?_ | refine pre_of_exd ?_ | refine pre_of_exe ?_ | refine pre_of_exv ?_)) | refine .inl ⟨_, _, _, _, rfl, pu (by first | exact hw | exact hf | exact hl | exact hA | exact hF | exact hB | exact i1 | exact s1 | exact s2 | exact s3), ?_⟩))
 | refine cF ?_
 | refine om ?_
 | refine an ?_
 | fail) <;> try simp only [zT, zV, zS, zU, vcC, kscp, lateX, ex, strp, cnd, binA, kseq, kblk, kret, klp, Abs.one, elems, cells, scalar, eqC, keyA, intsA, lookA, ofVs, mpOf, Nat.reduceBEq, reduceAdd, reduceSub, reduceLT, reduceLeDiff, reduceMul, reduceEqDiff, reduceIte]))
      all_goals try (exfalso; omega)
      refine AWPC.loopE (α := { i : Nat // i ≤ one.length }) [12] (fun i => [(12, n i.1)]) (fun _ => []) (fun i => one.length - i.1) ⟨0, Nat.zero_le _⟩ ?_ rfl ?_
      · (simp only [zT, zV, zS, zU, vcC, kscp, lateX, ex, strp, cnd, binA, kseq, kblk, kret, klp, Abs.one, elems, cells, scalar, eqC, keyA, intsA, lookA, ofVs, mpOf, Nat.reduceBEq, reduceAdd, reduceSub, reduceLT, reduceLeDiff, reduceMul, reduceEqDiff, reduceIte]; try simp)
      rintro ⟨i, hi⟩
      by_cases hlt : i < one.length
      · obtain ⟨a, ha⟩ : ∃ a, one[i]? = some a := ⟨_, List.getElem?_eq_getElem hlt⟩
        have hil : i < t.length := by omega
        have hac0 := (allv_course hv i a hil).2 ⟨one, hone, ha⟩
        have ga := allvs_get (t := t) hil
        have la := allv_len (t := t) hil
        have ra : ((allv t i).map fun l => [spS l]).getD a.node.toNat [] = [spS ((allv t i).getD a.node.toNat [])] := getD_map (getD_some (by omega))
        have za := good_len (goods_get (allv_goods hv hil) a.node.toNat)
        have ia := In_spec ((allv t i).getD a.node.toNat []) a.val (by omega)
        rw [tr_1 hac0.2.2] at ia
        have hwd := wd_le hv i
        obtain ⟨c1, c2, _⟩ := hac0
        (repeat' ((first
 | refine vn rfl ?_
 | simp (disch := omega) only [wr64, Int.zero_sub]
 | refine AWPC.both (fun _ => ?_) (fun _ => ?_)
 | refine AWPC.imp (fun _ => ?_)
 | ((repeat refine si ?_); (first | ((first | refine .inl ⟨_, _, _, _, rfl, fun _ => pu ia, ?_⟩ | refine ⟨_, _, _, _, rfl, fun _ => pu ia, ?_⟩); (first | refine owp_of_exs ?_ | refine pre_of_exd ?_ | refine pre_of_exe ?_ | refine pre_of_exv ?_)) | refine .inl ⟨_, _, _, _, rfl, pu ia, ?_⟩))
 | refine cF ?_
 | refine om ?_
 | refine an ?_
 | fail) <;> try simp only [zT, zV, zS, zU, vcC, kscp, lateX, ex, strp, cnd, binA, kseq, kblk, kret, klp, Abs.one, elems, cells, scalar, eqC, keyA, intsA, lookA, ofVs, mpOf, Nat.reduceBEq, reduceAdd, reduceSub, reduceLT, reduceLeDiff, reduceMul, reduceEqDiff, reduceIte, getD_map ha, ga, la, ra, allvs_len]))
        all_goals try (exfalso; omega)
        exact ⟨⟨i + 1, hlt⟩, by simp, by simp only; omega⟩
      · obtain rfl : i = one.length := by omega
        have hno : ∀ (h : ¬ (0 ≤ x1 ∧ x1 < (t.length : Int))), (t.map fun l => [stS l]).getD x1.toNat [] = [] ∨ ∃ L, (t.map fun l => [stS l]).getD x1.toNat [] = [stS L] := fun _ => by
          by_cases h : x1.toNat < t.length
          · exact .inr ⟨_, getD_map (getD_some (d := []) h)⟩
          · exact .inl (getD_none (by simpa using h))
        by_cases hk : 0 ≤ x1 ∧ x1 < (t.length : Int)
        · have hkl : x1.toNat < t.length := by omega
          have gt1 : (t.map fun l => [stS l]).getD x1.toNat [] = [stS (t.getD x1.toNat [])] := getD_map (getD_some hkl)
          have ga := allvs_get (t := t) hkl
          have gf := fwds_get (t := t) hkl
          have gb := bwds_get (t := t) hkl
          have la := allv_len (t := t) hkl
          have lf := fwd_len t x1.toNat
          have lb := bwd_len (t := t) hkl
          have lt1 : (t.getD x1.toNat []).length = wd t x1.toNat := rfl
          have hwd := wd_le hv x1.toNat
          obtain ⟨k1, k2⟩ := hk
          by_cases hn : 0 ≤ x4 ∧ x4 < (wd t x1.toNat : Int)
          · have ra : ((allv t x1.toNat).map fun l => [spS l]).getD x4.toNat [] = [spS ((allv t x1.toNat).getD x4.toNat [])] := getD_map (getD_some (by omega))
            have rf : ((fwd t x1.toNat).map fun l => [spS l]).getD x4.toNat [] = [spS ((fwd t x1.toNat).getD x4.toNat [])] := getD_map (getD_some (by omega))
            have rb : ((bwd t x1.toNat).map fun l => [spS l]).getD x4.toNat [] = [spS ((bwd t x1.toNat).getD x4.toNat [])] := getD_map (getD_some (by omega))
            have qa := goods_get (allv_goods hv hkl) x4.toNat
            have qf := goods_get (fwd_goods hv x1.toNat) x4.toNat
            have qb := goods_get (bwd_goods hv x1.toNat) x4.toNat
            have za := good_len qa
            have zf := good_len qf
            have zb := good_len qb
            have ia := In_spec ((allv t x1.toNat).getD x4.toNat []) x5 (by omega)
            have i_f := In_spec ((fwd t x1.toNat).getD x4.toNat []) x5 (by omega)
            have ib := In_spec ((bwd t x1.toNat).getD x4.toNat []) x5 (by omega)
            have na := Normal_spec ((allv t x1.toNat).getD x4.toNat []) (by omega)
            rw [tr_1 qa] at na
            have hm := allv_mem hv hkl (show x4.toNat < wd t x1.toNat by omega) x5
            have hac := allv_course hv x1.toNat ⟨x4, x5⟩ hkl
            obtain ⟨n1, n2⟩ := hn
            have hin : Mem x5 ((allv t x1.toNat).getD x4.toNat []) ↔ f = 0 := by
              constructor
              · intro h
                obtain ⟨c, hc, hcc⟩ := hac.1 ⟨n1, n2, h⟩
                exact hwc c hv hc k1 k2 hcc
              · intro h
                obtain ⟨_, _, h3, h4, _⟩ := hwe h
                exact (hac.2 ⟨b, h3, h4⟩).2.2
            by_cases hI : Mem x5 ((allv t x1.toNat).getD x4.toNat [])
            · rw [tr_1 hI] at ia
              rw [tr_1 (hm.1 hI).1] at i_f
              rw [tr_1 (hm.1 hI).2] at ib
              have hf0 := hin.1 hI
              obtain ⟨_, _, h3, h4, _⟩ := hwe hf0
              subst hf0
              rw [tr_1 ⟨hv, h3⟩] at i3
              have hb3 := h3.1
              (repeat' ((first
 | refine vn rfl ?_
 | simp (disch := omega) only [wr64, Int.zero_sub]
 | refine AWPC.both (fun _ => ?_) (fun _ => ?_)
 | refine AWPC.imp (fun _ => ?_)
 | ((repeat refine si ?_); (first | ((first | refine .inl ⟨_, _, _, _, rfl, fun _ => pu (by first | exact hwi | exact ia | exact i_f | exact ib | exact na | exact i3), ?_⟩ | refine ⟨_, _, _, _, rfl, fun _ => pu (by first | exact hwi | exact ia | exact i_f | exact ib | exact na | exact i3), ?_⟩); (first | refine owp_of_exs ?_ | refine pre_of_exd ?_ | refine pre_of_exe ?_ | refine pre_of_exv ?_)) | refine .inl ⟨_, _, _, _, rfl, pu (by first | exact hwi | exact ia | exact i_f | exact ib | exact na | exact i3), ?_⟩))
 | refine cF ?_
 | refine om ?_
 | refine an ?_
 | fail) <;> try simp only [zT, zV, zS, zU, vcC, kscp, lateX, ex, strp, cnd, binA, kseq, kblk, kret, klp, Abs.one, elems, cells, scalar, eqC, keyA, intsA, lookA, ofVs, mpOf, Nat.reduceBEq, reduceAdd, reduceSub, reduceLT, reduceLeDiff, reduceMul, reduceEqDiff, reduceIte, bnB, allvs_len, fwds_len, bwds_len, gt1, ga, gf, gb, la, lf, lb, lt1, ra, rf, rb, getD_map h4]))
              all_goals try (exfalso; omega)
              all_goals exact Frz.eq rfl (by simp)
            · rw [tr_0 hI] at ia
              have hf0 : ¬ f = 0 := fun h => hI (hin.2 h)
              have hbg : (b.map At.cs).getD x1.toNat [] = [] ∨ ∃ y : At, (b.map At.cs).getD x1.toNat [] = At.cs y := by
                rcases hq : b[x1.toNat]? with _ | y
                · exact .inl (by simp [List.getD_eq_getElem?_getD, hq])
                · exact .inr ⟨y, getD_map hq⟩
              by_cases hF1 : Mem x5 ((fwd t x1.toNat).getD x4.toNat [])
              · rw [tr_1 hF1] at i_f
                rw [tr_0 (fun h => hI (hm.2 ⟨hF1, h⟩))] at ib
                rcases hbg with hbg | ⟨y, hbg⟩
                · (repeat' ((first
 | refine vn rfl ?_
 | simp (disch := omega) only [wr64, Int.zero_sub]
 | refine AWPC.both (fun _ => ?_) (fun _ => ?_)
 | refine AWPC.imp (fun _ => ?_)
 | ((repeat refine si ?_); (first | ((first | refine .inl ⟨_, _, _, _, rfl, fun _ => pu (by first | exact hwi | exact ia | exact i_f | exact ib | exact na | exact i3), ?_⟩ | refine ⟨_, _, _, _, rfl, fun _ => pu (by first | exact hwi | exact ia | exact i_f | exact ib | exact na | exact i3), ?_⟩); (first | refine owp_of_exs ?_ | refine pre_of_exd ?_ | refine pre_of_exe ?_ | refine pre_of_exv ?_)) | refine .inl ⟨_, _, _, _, rfl, pu (by first | exact hwi | exact ia | exact i_f | exact ib | exact na | exact i3), ?_⟩))
 | refine cF ?_
 | refine cG ?_
 | refine om ?_
 | refine an ?_
 | fail) <;> try simp only [zT, zV, zS, zU, vcC, kscp, lateX, ex, strp, cnd, binA, kseq, kblk, kret, klp, Abs.one, elems, cells, scalar, eqC, keyA, intsA, lookA, ofVs, mpOf, Nat.reduceBEq, reduceAdd, reduceSub, reduceLT, reduceLeDiff, reduceMul, reduceEqDiff, reduceIte, bnB, allvs_len, fwds_len, bwds_len, gt1, ga, gf, gb, la, lf, lb, lt1, ra, rf, rb, hbg, hf0]))
                  all_goals try (exfalso; omega)
                  all_goals exact Frz.eq rfl (by simp)
                · (repeat' ((first
 | refine vn rfl ?_
 | simp (disch := omega) only [wr64, Int.zero_sub]
 | refine AWPC.both (fun _ => ?_) (fun _ => ?_)
 | refine AWPC.imp (fun _ => ?_)
 | ((repeat refine si ?_); (first | ((first | refine .inl ⟨_, _, _, _, rfl, fun _ => pu (by first | exact hwi | exact ia | exact i_f | exact ib | exact na | exact i3), ?_⟩ | refine ⟨_, _, _, _, rfl, fun _ => pu (by first | exact hwi | exact ia | exact i_f | exact ib | exact na | exact i3), ?_⟩); (first | refine owp_of_exs ?_ | refine pre_of_exd ?_ | refine pre_of_exe ?_ | refine pre_of_exv ?_)) | refine .inl ⟨_, _, _, _, rfl, pu (by first | exact hwi | exact ia | exact i_f | exact ib | exact na | exact i3), ?_⟩))
 | refine cF ?_
 | refine cG ?_
 | refine om ?_
 | refine an ?_
 | fail) <;> try simp only [zT, zV, zS, zU, vcC, kscp, lateX, ex, strp, cnd, binA, kseq, kblk, kret, klp, Abs.one, elems, cells, scalar, eqC, keyA, intsA, lookA, ofVs, mpOf, Nat.reduceBEq, reduceAdd, reduceSub, reduceLT, reduceLeDiff, reduceMul, reduceEqDiff, reduceIte, bnB, allvs_len, fwds_len, bwds_len, gt1, ga, gf, gb, la, lf, lb, lt1, ra, rf, rb, hbg, hf0]))
                  all_goals try (exfalso; omega)
                  all_goals exact Frz.eq rfl (by simp)
              · rw [tr_0 hF1] at i_f
                rcases hbg with hbg | ⟨y, hbg⟩
                · (repeat' ((first
 | refine vn rfl ?_
 | simp (disch := omega) only [wr64, Int.zero_sub]
 | refine AWPC.both (fun _ => ?_) (fun _ => ?_)
 | refine AWPC.imp (fun _ => ?_)
 | ((repeat refine si ?_); (first | ((first | refine .inl ⟨_, _, _, _, rfl, fun _ => pu (by first | exact hwi | exact ia | exact i_f | exact ib | exact na | exact i3), ?_⟩ | refine ⟨_, _, _, _, rfl, fun _ => pu (by first | exact hwi | exact ia | exact i_f | exact ib | exact na | exact i3), ?_⟩); (first | refine owp_of_exs ?_ | refine pre_of_exd ?_ | refine pre_of_exe ?_ | refine pre_of_exv ?_)) | refine .inl ⟨_, _, _, _, rfl, pu (by first | exact hwi | exact ia | exact i_f | exact ib | exact na | exact i3), ?_⟩))
 | refine cF ?_
 | refine cG ?_
 | refine om ?_
 | refine an ?_
 | fail) <;> try simp only [zT, zV, zS, zU, vcC, kscp, lateX, ex, strp, cnd, binA, kseq, kblk, kret, klp, Abs.one, elems, cells, scalar, eqC, keyA, intsA, lookA, ofVs, mpOf, Nat.reduceBEq, reduceAdd, reduceSub, reduceLT, reduceLeDiff, reduceMul, reduceEqDiff, reduceIte, bnB, allvs_len, fwds_len, bwds_len, gt1, ga, gf, gb, la, lf, lb, lt1, ra, rf, rb, hbg, hf0]))
                  all_goals try (exfalso; omega)
                  all_goals exact Frz.eq rfl (by simp)
                · (repeat' ((first
 | refine vn rfl ?_
 | simp (disch := omega) only [wr64, Int.zero_sub]
 | refine AWPC.both (fun _ => ?_) (fun _ => ?_)
 | refine AWPC.imp (fun _ => ?_)
 | ((repeat refine si ?_); (first | ((first | refine .inl ⟨_, _, _, _, rfl, fun _ => pu (by first | exact hwi | exact ia | exact i_f | exact ib | exact na | exact i3), ?_⟩ | refine ⟨_, _, _, _, rfl, fun _ => pu (by first | exact hwi | exact ia | exact i_f | exact ib | exact na | exact i3), ?_⟩); (first | refine owp_of_exs ?_ | refine pre_of_exd ?_ | refine pre_of_exe ?_ | refine pre_of_exv ?_)) | refine .inl ⟨_, _, _, _, rfl, pu (by first | exact hwi | exact ia | exact i_f | exact ib | exact na | exact i3), ?_⟩))
 | refine cF ?_
 | refine cG ?_
 | refine om ?_
 | refine an ?_
 | fail) <;> try simp only [zT, zV, zS, zU, vcC, kscp, lateX, ex, strp, cnd, binA, kseq, kblk, kret, klp, Abs.one, elems, cells, scalar, eqC, keyA, intsA, lookA, ofVs, mpOf, Nat.reduceBEq, reduceAdd, reduceSub, reduceLT, reduceLeDiff, reduceMul, reduceEqDiff, reduceIte, bnB, allvs_len, fwds_len, bwds_len, gt1, ga, gf, gb, la, lf, lb, lt1, ra, rf, rb, hbg, hf0]))
                  all_goals try (exfalso; omega)
                  all_goals exact Frz.eq rfl (by simp)
          · (repeat' ((first
 | refine vn rfl ?_
 | simp (disch := omega) only [wr64, Int.zero_sub]
 | refine AWPC.both (fun _ => ?_) (fun _ => ?_)
 | refine AWPC.imp (fun _ => ?_)
 | refine cF ?_
 | refine om ?_
 | refine an ?_
 | fail) <;> try simp only [zT, zV, zS, zU, vcC, kscp, lateX, ex, strp, cnd, binA, kseq, kblk, kret, klp, Abs.one, elems, cells, scalar, eqC, keyA, intsA, lookA, ofVs, mpOf, Nat.reduceBEq, reduceAdd, reduceSub, reduceLT, reduceLeDiff, reduceMul, reduceEqDiff, reduceIte, bnB, allvs_len, fwds_len, bwds_len, gt1, ga, gf, gb, la, lf, lb, lt1]))
            all_goals try (exfalso; omega)
            all_goals exact Frz.eq rfl (by simp)
        · rcases hno hk with hg | ⟨L, hg⟩
          · (repeat' ((first
 | refine vn rfl ?_
 | simp (disch := omega) only [wr64, Int.zero_sub]
 | refine AWPC.both (fun _ => ?_) (fun _ => ?_)
 | refine AWPC.imp (fun _ => ?_)
 | refine cF ?_
 | refine cG ?_
 | refine om ?_
 | refine an ?_
 | fail) <;> try simp only [zT, zV, zS, zU, vcC, kscp, lateX, ex, strp, cnd, binA, kseq, kblk, kret, klp, Abs.one, elems, cells, scalar, eqC, keyA, intsA, lookA, ofVs, mpOf, Nat.reduceBEq, reduceAdd, reduceSub, reduceLT, reduceLeDiff, reduceMul, reduceEqDiff, reduceIte, allvs_len, hg]))
            all_goals try (exfalso; omega)
            all_goals exact Frz.eq rfl (by simp)
          · (repeat' ((first
 | refine vn rfl ?_
 | simp (disch := omega) only [wr64, Int.zero_sub]
 | refine AWPC.both (fun _ => ?_) (fun _ => ?_)
 | refine AWPC.imp (fun _ => ?_)
 | refine cF ?_
 | refine cG ?_
 | refine om ?_
 | refine an ?_
 | fail) <;> try simp only [zT, zV, zS, zU, vcC, kscp, lateX, ex, strp, cnd, binA, kseq, kblk, kret, klp, Abs.one, elems, cells, scalar, eqC, keyA, intsA, lookA, ofVs, mpOf, Nat.reduceBEq, reduceAdd, reduceSub, reduceLT, reduceLeDiff, reduceMul, reduceEqDiff, reduceIte, allvs_len, hg]))
            all_goals try (exfalso; omega)
            all_goals exact Frz.eq rfl (by simp)
    · rw [tr_0 (fun h => hone h.2)] at i1
      have hno : ∀ (h : ¬ (0 ≤ x1 ∧ x1 < (t.length : Int))), (t.map fun l => [stS l]).getD x1.toNat [] = [] ∨ ∃ L, (t.map fun l => [stS l]).getD x1.toNat [] = [stS L] := fun _ => by
        by_cases h : x1.toNat < t.length
        · exact .inr ⟨_, getD_map (getD_some (d := []) h)⟩
        · exact .inl (getD_none (by simpa using h))
      by_cases hk : 0 ≤ x1 ∧ x1 < (t.length : Int)
      · have hkl : x1.toNat < t.length := by omega
        have gt1 : (t.map fun l => [stS l]).getD x1.toNat [] = [stS (t.getD x1.toNat [])] := getD_map (getD_some hkl)
        have ga := allvs_get (t := t) hkl
        have gf := fwds_get (t := t) hkl
        have gb := bwds_get (t := t) hkl
        have la := allv_len (t := t) hkl
        have lf := fwd_len t x1.toNat
        have lb := bwd_len (t := t) hkl
        have lt1 : (t.getD x1.toNat []).length = wd t x1.toNat := rfl
        have hwd := wd_le hv x1.toNat
        obtain ⟨k1, k2⟩ := hk
        by_cases hn : 0 ≤ x4 ∧ x4 < (wd t x1.toNat : Int)
        · have ra : ((allv t x1.toNat).map fun l => [spS l]).getD x4.toNat [] = [spS ((allv t x1.toNat).getD x4.toNat [])] := getD_map (getD_some (by omega))
          have rf : ((fwd t x1.toNat).map fun l => [spS l]).getD x4.toNat [] = [spS ((fwd t x1.toNat).getD x4.toNat [])] := getD_map (getD_some (by omega))
          have rb : ((bwd t x1.toNat).map fun l => [spS l]).getD x4.toNat [] = [spS ((bwd t x1.toNat).getD x4.toNat [])] := getD_map (getD_some (by omega))
          have qa := goods_get (allv_goods hv hkl) x4.toNat
          have qf := goods_get (fwd_goods hv x1.toNat) x4.toNat
          have qb := goods_get (bwd_goods hv x1.toNat) x4.toNat
          have za := good_len qa
          have zf := good_len qf
          have zb := good_len qb
          have ia := In_spec ((allv t x1.toNat).getD x4.toNat []) x5 (by omega)
          have i_f := In_spec ((fwd t x1.toNat).getD x4.toNat []) x5 (by omega)
          have ib := In_spec ((bwd t x1.toNat).getD x4.toNat []) x5 (by omega)
          have na := Normal_spec ((allv t x1.toNat).getD x4.toNat []) (by omega)
          rw [tr_1 qa] at na
          have hm := allv_mem hv hkl (show x4.toNat < wd t x1.toNat by omega) x5
          have hac := allv_course hv x1.toNat ⟨x4, x5⟩ hkl
          obtain ⟨n1, n2⟩ := hn
          have hin : Mem x5 ((allv t x1.toNat).getD x4.toNat []) ↔ f = 0 := by
            constructor
            · intro h
              obtain ⟨c, hc, hcc⟩ := hac.1 ⟨n1, n2, h⟩
              exact hwc c hv hc k1 k2 hcc
            · intro h
              obtain ⟨_, _, h3, h4, _⟩ := hwe h
              exact (hac.2 ⟨b, h3, h4⟩).2.2
          by_cases hI : Mem x5 ((allv t x1.toNat).getD x4.toNat [])
          · rw [tr_1 hI] at ia
            rw [tr_1 (hm.1 hI).1] at i_f
            rw [tr_1 (hm.1 hI).2] at ib
            have hf0 := hin.1 hI
            obtain ⟨_, _, h3, h4, _⟩ := hwe hf0
            subst hf0
            rw [tr_1 ⟨hv, h3⟩] at i3
            have hb3 := h3.1
            (repeat' ((first
 | refine vn rfl ?_
 | simp (disch := omega) only [wr64, Int.zero_sub]
 | refine AWPC.both (fun _ => ?_) (fun _ => ?_)
 | refine AWPC.imp (fun _ => ?_)
 | ((repeat refine si ?_); (first | ((first | refine .inl ⟨_, _, _, _, rfl, fun _ => pu (by first | exact hw | exact hf | exact hl | exact hA | exact hF | exact hB | exact i1 | exact s1 | exact s2 | exact s3 | exact hwi | exact ia | exact i_f | exact ib | exact na | exact i3), ?_⟩ | refine ⟨_, _, _, _, rfl, fun _ => pu (by first | exact hw | exact hf | exact hl | exact hA | exact hF | exact hB | exact i1 | exact s1 | exact s2 | exact s3 | exact hwi | exact ia | exact i_f | exact ib | exact na | exact i3), ?_⟩); (first | refine owp_of_exs ?_ | refine pre_of_exd ?_ | refine pre_of_exe ?_ | refine pre_of_exv ?_)) | refine .inl ⟨_, _, _, _, rfl, pu (by first | exact hw | exact hf | exact hl | exact hA | exact hF | exact hB | exact i1 | exact s1 | exact s2 | exact s3 | exact hwi | exact ia | exact i_f | exact ib | exact na | exact i3), ?_⟩))
 | refine cF ?_
 | refine om ?_
 | refine an ?_
 | fail) <;> try simp only [zT, zV, zS, zU, vcC, kscp, lateX, ex, strp, cnd, binA, kseq, kblk, kret, klp, Abs.one, elems, cells, scalar, eqC, keyA, intsA, lookA, ofVs, mpOf, Nat.reduceBEq, reduceAdd, reduceSub, reduceLT, reduceLeDiff, reduceMul, reduceEqDiff, reduceIte, bnB, allvs_len, fwds_len, bwds_len, gt1, ga, gf, gb, la, lf, lb, lt1, ra, rf, rb, getD_map h4]))
            all_goals try (exfalso; omega)
            all_goals exact Frz.eq rfl (by simp)
          · rw [tr_0 hI] at ia
            have hf0 : ¬ f = 0 := fun h => hI (hin.2 h)
            have hbg : (b.map At.cs).getD x1.toNat [] = [] ∨ ∃ y : At, (b.map At.cs).getD x1.toNat [] = At.cs y := by
              rcases hq : b[x1.toNat]? with _ | y
              · exact .inl (by simp [List.getD_eq_getElem?_getD, hq])
              · exact .inr ⟨y, getD_map hq⟩
            by_cases hF1 : Mem x5 ((fwd t x1.toNat).getD x4.toNat [])
            · rw [tr_1 hF1] at i_f
              rw [tr_0 (fun h => hI (hm.2 ⟨hF1, h⟩))] at ib
              rcases hbg with hbg | ⟨y, hbg⟩
              · (repeat' ((first
 | refine vn rfl ?_
 | simp (disch := omega) only [wr64, Int.zero_sub]
 | refine AWPC.both (fun _ => ?_) (fun _ => ?_)
 | refine AWPC.imp (fun _ => ?_)
 | ((repeat refine si ?_); (first | ((first | refine .inl ⟨_, _, _, _, rfl, fun _ => pu (by first | exact hw | exact hf | exact hl | exact hA | exact hF | exact hB | exact i1 | exact s1 | exact s2 | exact s3 | exact hwi | exact ia | exact i_f | exact ib | exact na | exact i3), ?_⟩ | refine ⟨_, _, _, _, rfl, fun _ => pu (by first | exact hw | exact hf | exact hl | exact hA | exact hF | exact hB | exact i1 | exact s1 | exact s2 | exact s3 | exact hwi | exact ia | exact i_f | exact ib | exact na | exact i3), ?_⟩); (first | refine owp_of_exs ?_ | refine pre_of_exd ?_ | refine pre_of_exe ?_ | refine pre_of_exv ?_)) | refine .inl ⟨_, _, _, _, rfl, pu (by first | exact hw | exact hf | exact hl | exact hA | exact hF | exact hB | exact i1 | exact s1 | exact s2 | exact s3 | exact hwi | exact ia | exact i_f | exact ib | exact na | exact i3), ?_⟩))
 | refine cF ?_
 | refine cG ?_
 | refine om ?_
 | refine an ?_
 | fail) <;> try simp only [zT, zV, zS, zU, vcC, kscp, lateX, ex, strp, cnd, binA, kseq, kblk, kret, klp, Abs.one, elems, cells, scalar, eqC, keyA, intsA, lookA, ofVs, mpOf, Nat.reduceBEq, reduceAdd, reduceSub, reduceLT, reduceLeDiff, reduceMul, reduceEqDiff, reduceIte, bnB, allvs_len, fwds_len, bwds_len, gt1, ga, gf, gb, la, lf, lb, lt1, ra, rf, rb, hbg, hf0]))
                all_goals try (exfalso; omega)
                all_goals exact Frz.eq rfl (by simp)
              · (repeat' ((first
 | refine vn rfl ?_
 | simp (disch := omega) only [wr64, Int.zero_sub]
 | refine AWPC.both (fun _ => ?_) (fun _ => ?_)
 | refine AWPC.imp (fun _ => ?_)
 | ((repeat refine si ?_); (first | ((first | refine .inl ⟨_, _, _, _, rfl, fun _ => pu (by first | exact hw | exact hf | exact hl | exact hA | exact hF | exact hB | exact i1 | exact s1 | exact s2 | exact s3 | exact hwi | exact ia | exact i_f | exact ib | exact na | exact i3), ?_⟩ | refine ⟨_, _, _, _, rfl, fun _ => pu (by first | exact hw | exact hf | exact hl | exact hA | exact hF | exact hB | exact i1 | exact s1 | exact s2 | exact s3 | exact hwi | exact ia | exact i_f | exact ib | exact na | exact i3), ?_⟩); (first | refine owp_of_exs ?_ | refine pre_of_exd ?_ | refine pre_of_exe ?_ | refine pre_of_exv ?_)) | refine .inl ⟨_, _, _, _, rfl, pu (by first | exact hw | exact hf | exact hl | exact hA | exact hF | exact hB | exact i1 | exact s1 | exact s2 | exact s3 | exact hwi | exact ia | exact i_f | exact ib | exact na | exact i3), ?_⟩))
 | refine cF ?_
 | refine cG ?_
 | refine om ?_
 | refine an ?_
 | fail) <;> try simp only [zT, zV, zS, zU, vcC, kscp, lateX, ex, strp, cnd, binA, kseq, kblk, kret, klp, Abs.one, elems, cells, scalar, eqC, keyA, intsA, lookA, ofVs, mpOf, Nat.reduceBEq, reduceAdd, reduceSub, reduceLT, reduceLeDiff, reduceMul, reduceEqDiff, reduceIte, bnB, allvs_len, fwds_len, bwds_len, gt1, ga, gf, gb, la, lf, lb, lt1, ra, rf, rb, hbg, hf0]))
                all_goals try (exfalso; omega)
                all_goals exact Frz.eq rfl (by simp)
            · rw [tr_0 hF1] at i_f
              rcases hbg with hbg | ⟨y, hbg⟩
              · (repeat' ((first
 | refine vn rfl ?_
 | simp (disch := omega) only [wr64, Int.zero_sub]
 | refine AWPC.both (fun _ => ?_) (fun _ => ?_)
 | refine AWPC.imp (fun _ => ?_)
 | ((repeat refine si ?_); (first | ((first | refine .inl ⟨_, _, _, _, rfl, fun _ => pu (by first | exact hw | exact hf | exact hl | exact hA | exact hF | exact hB | exact i1 | exact s1 | exact s2 | exact s3 | exact hwi | exact ia | exact i_f | exact ib | exact na | exact i3), ?_⟩ | refine ⟨_, _, _, _, rfl, fun _ => pu (by first | exact hw | exact hf | exact hl | exact hA | exact hF | exact hB | exact i1 | exact s1 | exact s2 | exact s3 | exact hwi | exact ia | exact i_f | exact ib | exact na | exact i3), ?_⟩); (first | refine owp_of_exs ?_ | refine pre_of_exd ?_ | refine pre_of_exe ?_ | refine pre_of_exv ?_)) | refine .inl ⟨_, _, _, _, rfl, pu (by first | exact hw | exact hf | exact hl | exact hA | exact hF | exact hB | exact i1 | exact s1 | exact s2 | exact s3 | exact hwi | exact ia | exact i_f | exact ib | exact na | exact i3), ?_⟩))
 | refine cF ?_
 | refine cG ?_
 | refine om ?_
 | refine an ?_
 | fail) <;> try simp only [zT, zV, zS, zU, vcC, kscp, lateX, ex, strp, cnd, binA, kseq, kblk, kret, klp, Abs.one, elems, cells, scalar, eqC, keyA, intsA, lookA, ofVs, mpOf, Nat.reduceBEq, reduceAdd, reduceSub, reduceLT, reduceLeDiff, reduceMul, reduceEqDiff, reduceIte, bnB, allvs_len, fwds_len, bwds_len, gt1, ga, gf, gb, la, lf, lb, lt1, ra, rf, rb, hbg, hf0]))
                all_goals try (exfalso; omega)
                all_goals exact Frz.eq rfl (by simp)
              · (repeat' ((first
 | refine vn rfl ?_
 | simp (disch := omega) only [wr64, Int.zero_sub]
 | refine AWPC.both (fun _ => ?_) (fun _ => ?_)
 | refine AWPC.imp (fun _ => ?_)
 | ((repeat refine si ?_); (first | ((first | refine .inl ⟨_, _, _, _, rfl, fun _ => pu (by first | exact hw | exact hf | exact hl | exact hA | exact hF | exact hB | exact i1 | exact s1 | exact s2 | exact s3 | exact hwi | exact ia | exact i_f | exact ib | exact na | exact i3), ?_⟩ | refine ⟨_, _, _, _, rfl, fun _ => pu (by first | exact hw | exact hf | exact hl | exact hA | exact hF | exact hB | exact i1 | exact s1 | exact s2 | exact s3 | exact hwi | exact ia | exact i_f | exact ib | exact na | exact i3), ?_⟩); (first | refine owp_of_exs ?_ | refine pre_of_exd ?_ | refine pre_of_exe ?_ | refine pre_of_exv ?_)) | refine .inl ⟨_, _, _, _, rfl, pu (by first | exact hw | exact hf | exact hl | exact hA | exact hF | exact hB | exact i1 | exact s1 | exact s2 | exact s3 | exact hwi | exact ia | exact i_f | exact ib | exact na | exact i3), ?_⟩))
 | refine cF ?_
 | refine cG ?_
 | refine om ?_
 | refine an ?_
 | fail) <;> try simp only [zT, zV, zS, zU, vcC, kscp, lateX, ex, strp, cnd, binA, kseq, kblk, kret, klp, Abs.one, elems, cells, scalar, eqC, keyA, intsA, lookA, ofVs, mpOf, Nat.reduceBEq, reduceAdd, reduceSub, reduceLT, reduceLeDiff, reduceMul, reduceEqDiff, reduceIte, bnB, allvs_len, fwds_len, bwds_len, gt1, ga, gf, gb, la, lf, lb, lt1, ra, rf, rb, hbg, hf0]))
                all_goals try (exfalso; omega)
                all_goals exact Frz.eq rfl (by simp)
        · (repeat' ((first
 | refine vn rfl ?_
 | simp (disch := omega) only [wr64, Int.zero_sub]
 | refine AWPC.both (fun _ => ?_) (fun _ => ?_)
 | refine AWPC.imp (fun _ => ?_)
 | ((repeat refine si ?_); (first | ((first | refine .inl ⟨_, _, _, _, rfl, fun _ => pu (by first | exact hw | exact hf | exact hl | exact hA | exact hF | exact hB | exact i1 | exact s1 | exact s2 | exact s3), ?_⟩ | refine ⟨_, _, _, _, rfl, fun _ => pu (by first | exact hw | exact hf | exact hl | exact hA | exact hF | exact hB | exact i1 | exact s1 | exact s2 | exact s3), ?_⟩); (first | refine owp_of_exs ?_ | refine pre_of_exd ?_ | refine pre_of_exe ?_ | refine pre_of_exv ?_)) | refine .inl ⟨_, _, _, _, rfl, pu (by first | exact hw | exact hf | exact hl | exact hA | exact hF | exact hB | exact i1 | exact s1 | exact s2 | exact s3), ?_⟩))
 | refine cF ?_
 | refine om ?_
 | refine an ?_
 | fail) <;> try simp only [zT, zV, zS, zU, vcC, kscp, lateX, ex, strp, cnd, binA, kseq, kblk, kret, klp, Abs.one, elems, cells, scalar, eqC, keyA, intsA, lookA, ofVs, mpOf, Nat.reduceBEq, reduceAdd, reduceSub, reduceLT, reduceLeDiff, reduceMul, reduceEqDiff, reduceIte, bnB, allvs_len, fwds_len, bwds_len, gt1, ga, gf, gb, la, lf, lb, lt1]))
          all_goals try (exfalso; omega)
          all_goals exact Frz.eq rfl (by simp)
      · rcases hno hk with hg | ⟨L, hg⟩
        · (repeat' ((first
 | refine vn rfl ?_
 | simp (disch := omega) only [wr64, Int.zero_sub]
 | refine AWPC.both (fun _ => ?_) (fun _ => ?_)
 | refine AWPC.imp (fun _ => ?_)
 | ((repeat refine si ?_); (first | ((first | refine .inl ⟨_, _, _, _, rfl, fun _ => pu (by first | exact hw | exact hf | exact hl | exact hA | exact hF | exact hB | exact i1 | exact s1 | exact s2 | exact s3), ?_⟩ | refine ⟨_, _, _, _, rfl, fun _ => pu (by first | exact hw | exact hf | exact hl | exact hA | exact hF | exact hB | exact i1 | exact s1 | exact s2 | exact s3), ?_⟩); (first | refine owp_of_exs ?_ | refine pre_of_exd ?_ | refine pre_of_exe ?_ | refine pre_of_exv ?_)) | refine .inl ⟨_, _, _, _, rfl, pu (by first | exact hw | exact hf | exact hl | exact hA | exact hF | exact hB | exact i1 | exact s1 | exact s2 | exact s3), ?_⟩))
 | refine cF ?_
 | refine cG ?_
 | refine om ?_
 | refine an ?_
 | fail) <;> try simp only [zT, zV, zS, zU, vcC, kscp, lateX, ex, strp, cnd, binA, kseq, kblk, kret, klp, Abs.one, elems, cells, scalar, eqC, keyA, intsA, lookA, ofVs, mpOf, Nat.reduceBEq, reduceAdd, reduceSub, reduceLT, reduceLeDiff, reduceMul, reduceEqDiff, reduceIte, allvs_len, hg]))
          all_goals try (exfalso; omega)
          all_goals exact Frz.eq rfl (by simp)
        · (repeat' ((first
 | refine vn rfl ?_
 | simp (disch := omega) only [wr64, Int.zero_sub]
 | refine AWPC.both (fun _ => ?_) (fun _ => ?_)
 | refine AWPC.imp (fun _ => ?_)
 | ((repeat refine si ?_); (first | ((first | refine .inl ⟨_, _, _, _, rfl, fun _ => pu (by first | exact hw | exact hf | exact hl | exact hA | exact hF | exact hB | exact i1 | exact s1 | exact s2 | exact s3), ?_⟩ | refine ⟨_, _, _, _, rfl, fun _ => pu (by first | exact hw | exact hf | exact hl | exact hA | exact hF | exact hB | exact i1 | exact s1 | exact s2 | exact s3), ?_⟩); (first | refine owp_of_exs ?_ | refine pre_of_exd ?_ | refine pre_of_exe ?_ | refine pre_of_exv ?_)) | refine .inl ⟨_, _, _, _, rfl, pu (by first | exact hw | exact hf | exact hl | exact hA | exact hF | exact hB | exact i1 | exact s1 | exact s2 | exact s3), ?_⟩))
 | refine cF ?_
 | refine cG ?_
 | refine om ?_
 | refine an ?_
 | fail) <;> try simp only [zT, zV, zS, zU, vcC, kscp, lateX, ex, strp, cnd, binA, kseq, kblk, kret, klp, Abs.one, elems, cells, scalar, eqC, keyA, intsA, lookA, ofVs, mpOf, Nat.reduceBEq, reduceAdd, reduceSub, reduceLT, reduceLeDiff, reduceMul, reduceEqDiff, reduceIte, allvs_len, hg]))
          all_goals try (exfalso; omega)
          all_goals exact Frz.eq rfl (by simp)
  · rw [tr_0 hv] at hA hF hB
    simp only [Bool.false_eq_true, if_false] at hA hF hB
    rw [tr_0 (fun h => hv h.1)] at i1
    (repeat' ((first
 | refine vn rfl ?_
 | simp (disch := omega) only [wr64, Int.zero_sub]
 | refine AWPC.both (fun _ => ?_) (fun _ => ?_)
 | refine AWPC.imp (fun _ => ?_)
 | ((repeat refine si ?_); (first | ((first | refine .inl ⟨_, _, _, _, rfl, fun _ => pu (by first | exact hw | exact hf | exact hl | exact hA | exact hF | exact hB | exact i1), ?_⟩ | refine ⟨_, _, _, _, rfl, fun _ => pu (by first | exact hw | exact hf | exact hl | exact hA | exact hF | exact hB | exact i1), ?_⟩); (first | refine owp_of_exs ?_ | refine pre_of_exd ?_ | refine pre_of_exe ?_ | refine pre_of_exv ?_)) | refine .inl ⟨_, _, _, _, rfl, pu (by first | exact hw | exact hf | exact hl | exact hA | exact hF | exact hB | exact i1), ?_⟩))
 | refine cF ?_
 | refine om ?_
 | refine an ?_
 | fail) <;> try simp only [zT, zV, zS, zU, vcC, kscp, lateX, ex, strp, cnd, binA, kseq, kblk, kret, klp, Abs.one, elems, cells, scalar, eqC, keyA, intsA, lookA, ofVs, mpOf, Nat.reduceBEq, reduceAdd, reduceSub, reduceLT, reduceLeDiff, reduceMul, reduceEqDiff, reduceIte]))
    all_goals try (exfalso; omega)
    all_goals exact Frz.eq rfl (by simp)
end Go.Proofs.YtahkhnagpdlkiaaGreat
