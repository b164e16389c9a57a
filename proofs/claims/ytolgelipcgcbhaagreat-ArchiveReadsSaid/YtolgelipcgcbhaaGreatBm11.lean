/- Part 11 of the texts that the claim rests on: abstract values over the walk, and contracts of functions. -/
import Derived.Test.YtolgelipcgcbhaaGreatBm10
import Derived.Test.YtolgelipcgcbhaaGreatRows
import Derived.Shelf.Spec.SlicesGrow
import Derived.Shelf.SlGeneric
import Derived.Test.YtolgelipcgcbhaaGreatProg
import Derived.ChangeArms
import Derived.DataReads
import Derived.WalkKit
import Derived.ProofKit
import Derived.OpenShut
import Derived.ShutString
import Derived.ChangeOld
import Derived.Below
namespace Go.Abs
set_option linter.unusedVariables false
set_option linter.unusedSimpArgs false
set_option maxHeartbeats 4000000
section
variable {α:Type} {key:α→Int}
theorem stS_parts {l:List α} {a b:Nat} (h1:a≤b) (h2:b≤l.length):∃ P X Q,l=P++(X++Q)∧P.length=a∧P.length+X.length=b∧stS key l a b=P++(srtK key X++Q)∧seg l a b=X:=by
  obtain ⟨P,X,Y,Q,rfl,hP,hX,hY⟩:=parts4 l (a:=a) (m:=b) (b:=b) h1 (Nat.le_refl _) h2
  rw [show Y=[] by rw [← List.length_eq_zero_iff]; omega,List.nil_append]
  exact ⟨P,X,Q,rfl,hP,by omega,stS_app hP.symm (by omega),seg_app hP.symm (by omega)⟩
theorem stS_seg {l:List α} {a b:Nat} (h1:a≤b) (h2:b≤l.length):seg (stS key l a b) a b=srtK key (seg l a b):=by
  obtain ⟨P,X,Q,rfl,hP,hX,hs,hg⟩:=stS_parts (key:=key) h1 h2
  rw [hs,hg,seg_app hP.symm (by rw [srtK_len]; omega)]
theorem stS_take {l:List α} {a b:Nat} (h1:a≤b) (h2:b≤l.length) {j:Nat} (hj:j≤a):(stS key l a b).take j=l.take j:=by
  obtain ⟨P,X,Q,rfl,hP,hX,hs,hg⟩:=stS_parts (key:=key) h1 h2
  rw [hs,List.take_append_of_le_length (by omega),List.take_append_of_le_length (by omega)]
theorem stS_drop {l:List α} {a b:Nat} (h1:a≤b) (h2:b≤l.length) {j:Nat} (hj:b≤j):(stS key l a b).drop j=l.drop j:=by
  obtain ⟨P,X,Q,rfl,hP,hX,hs,hg⟩:=stS_parts (key:=key) h1 h2
  have e1:(P++(srtK key X++Q)).drop b=Q:=by rw [← List.append_assoc,← hX,← srtK_len (key:=key) X,← List.length_append]; exact List.drop_left ..
  have e2:(P++(X++Q)).drop b=Q:=by rw [← List.append_assoc,← hX,← List.length_append]; exact List.drop_left ..
  rw [hs,show j=b+(j - b) by omega,← List.drop_drop,← List.drop_drop,e1,e2]
theorem stS_low {l:List α} {a b:Nat} (h1:a≤b) (h2:b≤l.length) {i j:Nat} (hj:j≤a):seg (stS key l a b) i j=seg l i j:=by
  show List.drop i (List.take j _)=_
  rw [stS_take h1 h2 hj]
theorem stS_high {l:List α} {a b:Nat} (h1:a≤b) (h2:b≤l.length) {i j:Nat} (hi:b≤i):seg (stS key l a b) i j=seg l i j:=by
  show List.drop i (List.take j _)=List.drop i (List.take j _)
  rw [List.drop_take,List.drop_take,stS_drop h1 h2 hi]
theorem stS_st {l:List α} {a b:Nat} (h1:a≤b) (h2:b≤l.length):StEq key (stS key l a b) l:=by
  obtain ⟨P,X,Q,rfl,hP,hX,hs,hg⟩:=stS_parts (key:=key) h1 h2
  rw [hs]
  exact (StEq.refl P).app ((srtK_spec X).2.app (.refl Q))
theorem seg_end {l:List α} {i j:Nat} (h:l.length≤j):seg l i j=seg l i l.length:=by
  show List.drop i (List.take j l)=List.drop i (List.take l.length l)
  rw [List.take_of_length_le h,List.take_length]
theorem seg_out {l:List α} {i j:Nat} (h:l.length≤i):seg l i j=[]:=by
  show List.drop i (List.take j l)=[]
  rw [List.drop_eq_nil_iff,List.length_take]; omega
theorem seg_one {l:List α} {i:Nat}:KSrt key (seg l i (i+1)):=by
  have:(seg l i (i+1)).length≤1:=by
    show (List.drop i (List.take (i+1) l)).length≤1
    rw [List.length_drop,List.length_take]; omega
  match h:seg l i (i+1) with
  | []=>exact .nil
  | [x]=>exact List.pairwise_singleton _ _
  | x::y::r=>rw [h] at this; simp at this
theorem stS_none {l:List α} {a b:Nat} (h1:a≤b) (h2:b≤l.length) (h:KSrt key (seg l a b)):stS key l a b=l:=by
  obtain ⟨P,X,Q,rfl,hP,hX,hs,hg⟩:=stS_parts (key:=key) h1 h2
  rw [hg] at h
  rw [hs,srtK_self h]
theorem stS_next {l:List α} {a i:Nat} (h1:a≤i) (h2:i < l.length):stS key (stS key l a i) a (i+1)=stS key l a (i+1):=by
  obtain ⟨P,X,Y,Q,rfl,hP,hX,hY⟩:=parts4 l (a:=a) (m:=i) (b:=i+1) h1 (by omega) h2
  rw [stS_app hP.symm (by omega),← List.append_assoc (srtK key X) Y Q,stS_app hP.symm (by rw [List.length_append,srtK_len]; omega),← List.append_assoc X Y Q,stS_app hP.symm (by rw [List.length_append]; omega)]
  rw [srtK_st ((srtK_spec X).2.app (StEq.refl Y))]
theorem ins_step {l:List α} {a i j:Nat} (d:α) (h1:a≤j) (h2:j≤i) (h3:i < l.length) (hr:∀ t,j≤t→t < i→key ((stS key l a i).getD i d) < key ((stS key l a i).getD t d)) (hl:a < j→key ((stS key l a i).getD (j - 1) d)≤key ((stS key l a i).getD i d)) :
    insAt ((stS key l a i).eraseIdx i) j ((stS key l a i).getD i d)=stS key l a (i+1):=by
  have hai:a≤i:=Nat.le_trans h1 h2
  have hs:KSrt key (seg (stS key l a i) a i):=by rw [stS_seg hai (by omega)]; exact (srtK_spec _).1
  have hlen:=stS_len (key:=key) hai (show i≤l.length by omega)
  rw [stS_one2 (key:=key) d h1 h2 (by omega) hs (fun t t1 t2=>?_) hr,stS_next hai h3]
  exact Int.le_trans (seg_le hs (by omega) t1 (show t≤j - 1 by omega) (by omega)) (hl (by omega))
theorem erase_lt {l:List α} {i t:Nat} (h:t < i) (d:α):(l.eraseIdx i).getD t d=l.getD t d:=by
  rw [List.getD_eq_getElem?_getD,List.getD_eq_getElem?_getD,List.getElem?_eraseIdx_of_lt h]
theorem insAt_selfD (E:List α) {k:Nat} (hk:k≤E.length) (x d:α):(insAt E k x).getD k d=x:=by
  rw [List.getD_eq_getElem?_getD,insAt_self E hk]; rfl
theorem insAt_ltD (E:List α) {k j:Nat} (hj:j < k) (hk:k≤E.length) (x d:α):(insAt E k x).getD j d=E.getD j d:=by
  rw [List.getD_eq_getElem?_getD,insAt_lt E hj hk,List.getD_eq_getElem?_getD]
theorem insAt_gtD (E:List α) {k j:Nat} (hj:k≤j) (hk:k≤E.length) (x d:α):(insAt E k x).getD (j+1) d=E.getD j d:=by
  rw [List.getD_eq_getElem?_getD,insAt_gt E hj hk,List.getD_eq_getElem?_getD]
def SBlk (key:α→Int) (bs:Nat) (W:List α):Prop:=∀ i,bs ∣ i→KSrt key (seg W i (i+bs))
theorem dvd_step {c i a:Nat} (h1:c ∣ i) (h2:c ∣ a) (h:i < a):i+c≤a:=by
  have:=Nat.le_of_dvd (by omega) (Nat.dvd_sub h2 h1)
  omega
structure BlkS (key:α→Int) (l:List α) (bs a:Nat) (W:List α):Prop where
  dv:bs ∣ a
  le:a≤l.length
  len:W.length=l.length
  st:StEq key W l
  done:∀ i,bs ∣ i→i < a→KSrt key (seg W i (i+bs))
theorem BlkS.init (l:List α) (bs:Nat):BlkS key l bs 0 l:=⟨Nat.dvd_zero _,Nat.zero_le _,rfl,.refl _,fun i _ h=>by omega⟩
theorem BlkS.next {l:List α} {bs a:Nat} {W:List α} (h0:0 < bs) (h:BlkS key l bs a W) (hb:a+bs≤l.length):BlkS key l bs (a+bs) (stS key W a (a+bs)):=by
  have hl:=h.len
  refine ⟨Nat.dvd_add h.dv (Nat.dvd_refl _),hb,by rw [stS_len (by omega) (by omega),hl],(stS_st (by omega) (by omega)).trans h.st,fun i hi hlt=>?_⟩
  by_cases hia:i < a
  · rw [stS_low (by omega) (by omega) (dvd_step hi h.dv hia)]; exact h.done i hi hia
  · obtain rfl:i=a:=by
      refine Classical.byContradiction fun hn=>?_
      have:=dvd_step h.dv hi (by omega)
      omega
    rw [stS_seg (by omega) (by omega)]; exact (srtK_spec _).1
theorem BlkS.fin {l:List α} {bs a:Nat} {W:List α} (h0:0 < bs) (h:BlkS key l bs a W) (hb:l.length < a+bs):SBlk key bs (stS key W a l.length)∧StEq key (stS key W a l.length) l∧(stS key W a l.length).length=l.length:=by
  have hl:=h.len
  have hle:=h.le
  have hlen:=stS_len (key:=key) (l:=W) (show a≤l.length by omega) (by omega)
  refine ⟨fun i hi=>?_,(stS_st (by omega) (by omega)).trans h.st,by omega⟩
  by_cases hia:i < a
  · rw [stS_low (by omega) (by omega) (dvd_step hi h.dv hia)]; exact h.done i hi hia
  · by_cases e:i=a
    · subst e
      rw [seg_end (by omega),hlen,hl,stS_seg (by omega) (by omega)]; exact (srtK_spec _).1
    · have:=dvd_step h.dv hi (by omega)
      rw [seg_out (by omega)]; exact .nil
structure MrgS (key:α→Int) (l:List α) (bs a:Nat) (W:List α):Prop where
  dv:2 * bs ∣ a
  le:a≤l.length
  len:W.length=l.length
  st:StEq key W l
  done:∀ i,2 * bs ∣ i→i < a→KSrt key (seg W i (i+2 * bs))
  todo:∀ i,bs ∣ i→a≤i→KSrt key (seg W i (i+bs))
theorem MrgS.init {l:List α} {bs:Nat} {W:List α} (h:SBlk key bs W) (hl:W.length=l.length) (hs:StEq key W l):MrgS key l bs 0 W :=
  ⟨Nat.dvd_zero _,Nat.zero_le _,hl,hs,fun i _ h=>by omega,fun i hi _=>h i hi⟩
theorem MrgS.dvb {l:List α} {bs a:Nat} {W:List α} (h:MrgS key l bs a W):bs ∣ a:=Nat.dvd_trans (Nat.dvd_mul_left bs 2) h.dv
theorem MrgS.pre {l:List α} {bs a:Nat} {W:List α} (h:MrgS key l bs a W):KSrt key (seg W a (a+bs))∧KSrt key (seg W (a+bs) (a+2 * bs)):=by
  refine ⟨h.todo a h.dvb (Nat.le_refl _),?_⟩
  have:=h.todo (a+bs) (Nat.dvd_add h.dvb (Nat.dvd_refl _)) (by omega)
  rwa [show a+bs+bs=a+2 * bs by omega] at this
theorem MrgS.next {l:List α} {bs a:Nat} {W:List α} (h0:0 < bs) (h:MrgS key l bs a W) (hb:a+2 * bs≤l.length):MrgS key l bs (a+2 * bs) (stS key W a (a+2 * bs)):=by
  have hl:=h.len
  refine ⟨Nat.dvd_add h.dv (Nat.dvd_refl _),hb,by rw [stS_len (by omega) (by omega),hl],(stS_st (by omega) (by omega)).trans h.st,fun i hi hlt=>?_,fun i hi hge=>?_⟩
  · by_cases hia:i < a
    · rw [stS_low (by omega) (by omega) (dvd_step hi h.dv hia)]; exact h.done i hi hia
    · obtain rfl:i=a:=by
        refine Classical.byContradiction fun hn=>?_
        have:=dvd_step h.dv hi (by omega)
        omega
      rw [stS_seg (by omega) (by omega)]; exact (srtK_spec _).1
  · rw [stS_high (by omega) (by omega) hge]; exact h.todo i hi (by omega)
theorem MrgS.fin {l:List α} {bs a:Nat} {W W':List α} (h0:0 < bs) (h:MrgS key l bs a W) (hb:l.length < a+2 * bs) (hW:W'=if a+bs < l.length then stS key W a l.length else W):SBlk key (2 * bs) W'∧StEq key W' l∧W'.length=l.length:=by
  have hl:=h.len
  have hle:=h.le
  have hlen:=stS_len (key:=key) (l:=W) (show a≤l.length by omega) (by omega)
  subst hW
  by_cases hm:a+bs < l.length
  · rw [if_pos hm]
    refine ⟨fun i hi=>?_,(stS_st (by omega) (by omega)).trans h.st,by omega⟩
    by_cases hia:i < a
    · rw [stS_low (by omega) (by omega) (dvd_step hi h.dv hia)]; exact h.done i hi hia
    · by_cases e:i=a
      · subst e
        rw [seg_end (by omega),hlen,hl,stS_seg (by omega) (by omega)]; exact (srtK_spec _).1
      · have:=dvd_step h.dv hi (by omega)
        rw [seg_out (by omega)]; exact .nil
  · rw [if_neg hm]
    refine ⟨fun i hi=>?_,h.st,hl⟩
    by_cases hia:i < a
    · exact h.done i hi hia
    · by_cases e:i=a
      · subst e
        have:=h.todo i h.dvb (Nat.le_refl _)
        rw [seg_end (by omega)] at this
        rw [seg_end (by omega)]
        exact this
      · have:=dvd_step h.dv hi (by omega)
        rw [seg_out (by omega)]; exact .nil
theorem SBlk.fin {l:List α} {bs:Nat} {W:List α} (h:SBlk key bs W) (hs:StEq key W l) (hl:W.length=l.length) (hb:l.length≤bs):W=srtK key l:=by
  have h1:=h 0 (Nat.dvd_zero _)
  have h2:seg W 0 (0+bs)=W:=by
    show List.drop 0 (List.take _ W)=W
    rw [List.drop_zero,List.take_of_length_le (by omega)]
  rw [h2] at h1
  exact (srtK_eq h1 hs).symm
end
end Go.Abs
namespace Go.Proofs.YtolgelipcgcbhaaGreat
open Go.Abs
open Nat (reduceAdd reduceSub reduceLT reduceLeDiff reduceMul reduceEqDiff)
set_option linter.unusedVariables false
set_option linter.unusedSimpArgs false
set_option maxHeartbeats 4000000
set_option maxRecDepth 100000
def c67:CF:=⟨125,(jo [jx 3 26 6 0,jx 4 37 4 1,jw 6 (.alloc 86 9 [.slice none 0 0,.int .i64 0,.int .i64 0,.int .i64 0,.int .i64 0,.int .i64 0,.int .i64 0,.slice none 0 0,.slice none 0 0]),jc 7 0] [2,3,4,6]
 (.seq (jo [jk 13 6 3,jy 14 44 [13],ju .neq 15 14 0] [2,3,4,6,15]
 (.cond (.t 15) (jo [jw 16 (.build [.slice none 0 0,.int .i64 0,.int .i64 0,.int .i64 0,.int .i64 0,.int .i64 0,.int .i64 0,.slice none 0 0,.slice none 0 0] []),js 9 6 16,jc 7 100] [6,7]
 .ret)
 .skip))
 (.seq (jo [jm 17 2,jw 18 (.call (.f 113) [(.t 17),(.c (.int .i64 0)),(.c (.int .i64 10000))]),jv 19 18] [2,3,4,6,19]
 (.cond (.t 19) (jo [jw 20 (.build [.slice none 0 0,.int .i64 0,.int .i64 0,.int .i64 0,.int .i64 0,.int .i64 0,.int .i64 0,.slice none 0 0,.slice none 0 0] []),js 9 6 20,jc 7 1] [6,7]
 .ret)
 .skip))
 (jo [jk 21 6 3,jm 22 2,jw 23 (.build [.slice none 0 0,.int .i64 0,.int .i64 0,.int .i64 0,.int .i64 0,.int .i64 0,.int .i64 0,.slice none 0 0,.slice none 0 0] [(0,6,(.t 21)),(6,1,(.t 22))]),jw 8 (.alloc 86 9 [.slice none 0 0,.int .i64 0,.int .i64 0,.int .i64 0,.int .i64 0,.int .i64 0,.int .i64 0,.slice none 0 0,.slice none 0 0]),js 9 8 23] [2,4,6,8]
 (jo [jf 24 2 4,jl 25 24,jy 26 128 [25],jf 27 0 8,jf 28 0 27,js 1 28 26] [2,4,6,8]
 (.seq (jo [jc 9 0] [2,4,6,8,9]
 (.block 0 (.loop (.seq (jo [jm 29 9,jf 30 0 4,jl 31 30,je 32 31,jt .lss 33 29 32] [2,4,6,8,9,33]
 (.cond (.t 33) .skip
 (.exit 0)))
 (.seq (.block 1 (.seq (jo [jf 36 0 4,jl 37 36,jm 38 9,ji 39 24 37 38,jf 40 3 39,jl 41 40,jm 42 2,jt .neq 43 41 42] [2,4,6,8,9,43]
 (.cond (.t 43) (.exit 1)
 .skip))
 (jo [jf 44 7 8,jl 45 44,je 46 45,jm 10 46] [2,4,6,8,9,10]
 (.seq (.block 2 (.loop (.seq (.seq (.draw [jm 47 10,ju .gtr 48 47 0,jm 49 48,ja 49 (jf 50 0 4),ja 49 (jl 51 50),ja 49 (jm 52 9),ja 49 (ji 53 24 51 52),ja 49 (jf 54 2 53),ja 49 (jl 55 54),ja 49 (jf 56 7 8),ja 49 (jl 57 56),ja 49 (jm 58 10),ja 49 (ju .sub 59 58 1),ja 49 (ji 60 24 57 59),ja 49 (jf 61 2 60),ja 49 (jl 62 61),ja 49 (jt .lss 63 55 62),jp 64 49 63] [] [2,4,6,8,9,10,64])
 (.cond (.t 64) .skip
 (.exit 2)))
 (.block 3 (.ops [jm 65 10,ju .sub 66 65 1,jm 10 66] [2,4,6,8,9,10])))))
 (jo [jw 67 (.bsl true 72 24 0 [] []),jf 68 7 8,jl 69 68,jm 70 10,jw 71 (.slice 24 (.t 69) none (some (.t 70))),jw 72 (.app 72 24 288 (.t 67) (.t 71)),jm 11 72] [2,4,6,8,9,10,11]
 (jo [jm 73 11,jf 74 0 4,jl 75 74,jm 76 9,ji 77 24 75 76,jk 78 24 77,jw 79 (.bsl false 72 24 1 z24 [(0,24,(.t 78))]),jw 80 (.app 72 24 288 (.t 73) (.t 79)),jm 11 80] [2,4,6,8,9,10,11]
 (.ops [jm 81 11,jf 82 7 8,jl 83 82,jm 84 10,jw 85 (.slice 24 (.t 83) (some (.t 84)) none),jw 86 (.app 72 24 288 (.t 81) (.t 85)),jf 87 7 8,js 1 87 86] [2,4,6,8,9])))))))
 (.ops [jm 34 9,ju .add 35 34 1,jm 9 35] [2,4,6,8,9]))))))
 (.seq (jo [jc 12 0] [2,4,6,8,12]
 (.block 4 (.loop (.seq (jo [jm 88 12,jf 89 1 4,jl 90 89,je 91 90,jt .lss 92 88 91] [2,4,6,8,12,92]
 (.cond (.t 92) .skip
 (.exit 4)))
 (.seq (.block 5 (jo [jf 95 1 4,jl 96 95,jm 97 12,ji 98 5 96 97,jf 99 1 98,jl 100 99,jm 101 2,jt .eql 102 100 101] [2,4,6,8,12,102]
 (.cond (.t 102) (.draw [jf 103 8 8,jl 104 103,jf 105 1 4,jl 106 105,jm 107 12,ji 108 5 106 107,jk 109 5 108,jw 110 (.bsl false 64 5 1 [.int .i64 0,.int .i64 0,.int .i64 0,.int .i64 0,.int .i64 0] [(0,5,(.t 109))])] [jw 111 (.app 64 5 40 (.t 104) (.t 110)),jf 112 8 8,js 1 112 111] [2,4,6,8,12])
 .skip)))
 (.ops [jm 93 12,ju .add 94 93 1,jm 12 94] [2,4,6,8,12]))))))
 (.seq (jo [jf 113 7 8,jl 114 113,je 115 114,ju .gtr 116 115 64,jm 117 116,jd 117 (jf 118 8 8),jd 117 (jl 119 118),jd 117 (je 120 119),jd 117 (ju .gtr 121 120 64),jq 122 117 121] [6,8,122]
 (.cond (.t 122) (jo [jw 123 (.build [.slice none 0 0,.int .i64 0,.int .i64 0,.int .i64 0,.int .i64 0,.int .i64 0,.int .i64 0,.slice none 0 0,.slice none 0 0] []),js 9 6 123,jc 7 2] [6,7]
 .ret)
 .skip))
 (jo [jk 124 9 8,js 9 6 124,jc 7 0] [6,7]
 .ret))))))))),[.c 6 (some 9),.t 7]⟩
theorem k67:chkF Tryz.prog Tryz.f67 c67=true:=by kernel_rfl
theorem at_three (A B C:Option (List Ob)) (μ ν:Sto) (i j:Nat):Sto.at (A::B::C::(μ++ν)) (μ.length+3+i) j=Sto.at ν i j:=by
  have:=at_app (A::B::C::μ) ν i j
  rwa [show (A::B::C::μ).length+i=μ.length+3+i by simp only [List.length_cons],List.cons_append,List.cons_append,List.cons_append] at this
theorem gone_three (A B C:Option (List Ob)) (μ ν:Sto) (i:Nat):gone (A::B::C::(μ++ν)) (μ.length+3+i)=A::B::C::(μ++gone ν i):=by
  have:=gone_app (A::B::C::μ) ν i
  rwa [show (A::B::C::μ).length+i=μ.length+3+i by simp only [List.length_cons],List.cons_append,List.cons_append,List.cons_append,List.cons_append,List.cons_append,List.cons_append] at this
theorem insF_at {x:Fld} {S:List Fld} {k:Nat} (hs:KSrt Fld.stn S) (hk:k≤S.length) (h1:∀ j,k≤j→j < S.length→x.stn < (S.getD j fld0).stn) (h2:0 < k→¬ x.stn < (S.getD (k - 1) fld0).stn):insF x S=S.take k++x::S.drop k:=by
  rw [insF_eqW]
  conv=>lhs; rw [← List.take_append_drop k S]
  refine insK_at (fun y hy=>?_) (fun y hy=>?_)
  · obtain ⟨j,hj,rfl⟩:=List.getElem_of_mem hy
    rw [List.length_take] at hj
    rw [List.getElem_take]
    have h3:=h2 (by omega)
    rw [List.getD_eq_getElem?_getD,List.getElem?_eq_getElem (by omega)] at h3
    have h3:¬ x.stn < (S[k - 1]).stn:=h3
    by_cases e:j=k - 1
    · subst e; omega
    · have:=List.pairwise_iff_getElem.1 hs j (k - 1) (by omega) (by omega) (by omega)
      omega
  · obtain ⟨j,hj,rfl⟩:=List.getElem_of_mem hy
    rw [List.length_drop] at hj
    rw [List.getElem_drop]
    have:=h1 (k+j) (by omega) (by omega)
    rwa [List.getD_eq_getElem?_getD,List.getElem?_eq_getElem (by omega)] at this
theorem srtF_next (l:List Fld) (a:Fld):srtF (l++[a])=insF a (srtF l):=by unfold srtF; rw [List.foldl_append]; rfl
theorem srtF_srt (l:List Fld):KSrt Fld.stn (srtF l):=by rw [srtF_eq]; exact (srtK_spec l).1
abbrev wkC9 (b:Bse) (r:Rgr) (w:Int) (s d:AV):List AV:=[snS r.stns,n b.fixed,n b.each,n b.term,n b.ticks,n b.clerks,n w,s,d]
abbrev wkZ:List AV:=[.v (.slice none 0 0),n 0,n 0,n 0,n 0,n 0,n 0,.v (.slice none 0 0),.v (.slice none 0 0)]
theorem rWeekOf_spec (b:Bse) (hb:bseSz b) (r:Rgr) (w:Int) (hl:r.stns.length < 1099511627776) (hh:∀ s∈r.stns,s.heights.length * 24≤140737488355328) (h1:r.sheets.length < 274877906944) (h2:r.reads.length < 1099511627776) :
    Pure Tryz.prog 67 [.agg b.cs,.agg r.cs,n w] (.tup [.agg (weekE b r w).1.cs,n (weekE b r w).2]):=by
  refine Pure.of_body Tryz.call67 Tryz.func67 k67 (Nat.le_of_ble_eq_true rfl) ?_
  unfold c67
  have hcb:=rCheckBase_spec b hb
  have hss:=someStns_spec r.stns hl hh
  have hwi:=within_r w 0 10000
  by_cases hbok:b.ok
  · rw [if_pos hbok] at hcb
    by_cases hw:inr w 0 10000
    · rw [decide_eq_true hw] at hwi
      ((refine Ay (And.intro @hcb (And.intro @hss @hwi)) ?_;repeat' first|exact True.intro|refine Cj.mk ?_ ?_)<;>intros<;>refine hD_ ?_)
      all_goals try (exfalso; omega)
      refine AWPC.own0c 64 5 (f:=1) (i:=0) (e:=0) (j:=8) rfl (by simp) rfl ?_
      refine AWPC.sto (σ':=[some [⟨86,9,[wkZ],none⟩],some [⟨86,9,[wkC9 b r w (.v (.slice none 0 0)) (.own 2 0 0)],none⟩],some [⟨64,5,[],none⟩]]) rfl ?_
      refine AWPC.weakO (f:=1) (i:=0) (o:=⟨86,9,[wkC9 b r w (.v (.slice none 0 0)) (.own 2 0 0)],none⟩) (o':=⟨86,9,[wkC9 b r w (fdS []) (.own 2 0 0)],none⟩) rfl rfl rfl rfl rfl rfl (fun e he=>?_) (fun e j he hj W X β σ x hx=>?_) ?_
      · obtain rfl:e=0:=by simpa using he
        rfl
      · obtain rfl:e=0:=by simpa using he
        by_cases h7:j=7
        · subst h7; exact hx.nil
        · have:(wkC9 b r w (fdS []) (.own 2 0 0)).getD j .any=(wkC9 b r w (.v (.slice none 0 0)) (.own 2 0 0)).getD j .any:=by
            have hj:j < 9:=hj
            rcases (show j=0∨j=1∨j=2∨j=3∨j=4∨j=5∨j=6∨j=8 by omega) with rfl | rfl | rfl | rfl | rfl | rfl | rfl | rfl <;> rfl
          show RV W X β σ ((wkC9 b r w (fdS []) (.own 2 0 0)).getD j .any) x
          rw [this]; exact hx
      refine AWPC.sto (σ':=[some [⟨86,9,[wkZ],none⟩],some [⟨86,9,[wkC9 b r w (fdS []) (.own 2 0 0)],none⟩],some [⟨64,5,[],none⟩]]) rfl ?_
      refine AWPC.loopE (α:={ x:Nat × List Fld × Sto // x.1≤r.sheets.length∧x.2.1=srtF ((r.sheets.take x.1).filter fun f=>f.week == w) }) [9] (fun x=>[(9,n x.1.1)])
        (fun x=>some [⟨86,9,[wkZ],none⟩]::some [⟨86,9,[wkC9 b r w (fdS x.1.2.1) (.own 2 0 0)],none⟩]::some [⟨64,5,[],none⟩]::x.1.2.2) (fun x=>r.sheets.length - x.1.1) ⟨(0,[],[]),Nat.zero_le _,rfl⟩ ?_ rfl ?_
      · (simp only [zN,zT,zV,zS,zU,vcC,lateX,ex,strp,binA,elems,cells,scalar,eqC,keyA,intsA,lookA,ofVs,mpOf,Nat.reduceBEq,reduceAdd,reduceSub,reduceLT,reduceLeDiff,reduceMul,reduceEqDiff,reduceIte]; try simp)
      · rintro ⟨⟨i,S,ν⟩,hi,hS⟩
        simp only at hi hS ⊢
        have hSl:S.length≤r.sheets.length:=by rw [hS,srtF_len]; exact Nat.le_trans (List.length_filter_le _ _) (by rw [List.length_take]; omega)
        have hSs:KSrt Fld.stn S:=by rw [hS]; exact srtF_srt _
        by_cases hlt:i < r.sheets.length
        · have hx:(r.sheets.map Fld.cs).getD i []=Fld.cs (r.sheets.getD i fld0):=row fld0 hlt
          have hN:=filter_next (q:=fun f:Fld=>f.week == w) (getD_lt fld0 hlt)
          generalize r.sheets.getD i fld0=x at hx hN
          by_cases hxw:x.week=w
          · rw [show (x.week == w)=true by simp [hxw],if_pos rfl] at hN
            have hN2:srtF ((r.sheets.take (i+1)).filter fun f=>f.week == w)=insF x S:=by rw [hN,srtF_next,← hS]
            ((refine Ax (And.intro @hx @hxw) ?_;repeat' first|exact True.intro|refine Cj.mk ?_ ?_)<;>intros<;>refine hD_ ?_)
            all_goals try (exfalso; omega)
            refine AWPC.loopS (α:={ k:Nat // k≤S.length∧∀ j,k≤j→j < S.length→x.stn < (S.getD j fld0).stn }) [10] (fun k=>[(10,n k.1)]) (fun k=>k.1) ⟨S.length,Nat.le_refl _,fun j h1 h2=>by omega⟩ ?_ ?_
            · (simp only [zN,zT,zV,zS,zU,vcC,lateX,ex,strp,binA,elems,cells,scalar,eqC,keyA,intsA,lookA,ofVs,mpOf,Nat.reduceBEq,reduceAdd,reduceSub,reduceLT,reduceLeDiff,reduceMul,reduceEqDiff,reduceIte]; try simp)
            · rintro ⟨k,hk,hI⟩
              try simp only at hk hI
              by_cases h0:0 < k
              · have hrow:(S.map Fld.cs).getD ((k:Int) - 1).toNat []=Fld.cs (S.getD (k - 1) fld0):=by
                  rw [show ((k:Int) - 1).toNat=k - 1 by omega]; exact row fld0 (by omega)
                by_cases hc:x.stn < (S.getD (k - 1) fld0).stn
                · have hI':∀ j,k - 1≤j→j < S.length→x.stn < (S.getD j fld0).stn:=fun j g1 g2=>by
                    rcases (show j=k - 1∨k≤j by omega) with rfl | h3
                    · exact hc
                    · exact hI j h3 g2
                  generalize S.getD (k - 1) fld0=y at hrow hc
                  clear hSs
                  ((refine Ax (And.intro @hx @hrow) ?_;repeat' first|exact True.intro|refine Cj.mk ?_ ?_)<;>intros<;>refine hD_ ?_)
                  all_goals try (exfalso; omega)
                  all_goals exact ⟨⟨k - 1,by omega,hI'⟩,by simp; omega,by simp only; omega⟩
                · have hF:=insF_at hSs hk hI (fun _=>hc)
                  generalize S.getD (k - 1) fld0=y at hrow hc
                  obtain ⟨P,hP⟩:∃ P,P=S.take k:=⟨_,rfl⟩
                  obtain ⟨Q,hQ⟩:∃ Q,Q=S.drop k:=⟨_,rfl⟩
                  have hPm:List.take k (S.map Fld.cs)=P.map Fld.cs:=by rw [hP,List.map_take]
                  have hQm:List.drop k (List.take S.length (S.map Fld.cs))=Q.map Fld.cs:=by rw [hQ,List.map_drop,List.take_of_length_le (by rw [List.length_map]; exact Nat.le_refl _)]
                  have hPl:P.length=k:=by rw [hP,List.length_take]; omega
                  have hQl:Q.length=S.length - k:=by rw [hQ,List.length_drop]
                  rw [← hP,← hQ] at hF
                  clear hP hQ
                  (repeat' ((first
 | refine vn rfl ?_
 | simp (disch:=omega) only [wr64,Int.zero_sub]
 | refine bo (fun _=>?_) fun _=>?_
 | refine im fun _=>?_
 | refine cF ?_
 | refine om ?_
 | refine an ?_
 | fail) <;> try simp only [zN, zT, zV, zS, zU, vcC, lateX, ex, strp, binA, elems, cells, scalar, eqC, keyA, intsA, lookA, ofVs, mpOf, Nat.reduceBEq, reduceAdd, reduceSub, reduceLT, reduceLeDiff, reduceMul, reduceEqDiff, reduceIte, hx, hPm, hQm, hPl, hQl, List.length_map, Option.toList, List.append_nil, List.nil_append, List.cons_append, hrow]))
                  all_goals try (exfalso; omega)
                  refine ⟨⟨fun e he=>by rw [row fld0 (by omega)]; rfl,by omega⟩,?_⟩
                  (repeat' ((first
 | refine vn rfl ?_
 | simp (disch:=omega) only [wr64,Int.zero_sub]
 | refine bo (fun _=>?_) fun _=>?_
 | refine im fun _=>?_
 | refine cF ?_
 | refine om ?_
 | refine an ?_
 | fail) <;> try simp only [zN, zT, zV, zS, zU, vcC, lateX, ex, strp, binA, elems, cells, scalar, eqC, keyA, intsA, lookA, ofVs, mpOf, Nat.reduceBEq, reduceAdd, reduceSub, reduceLT, reduceLeDiff, reduceMul, reduceEqDiff, reduceIte, hx, hPm, hQm, hPl, hQl, List.length_map, Option.toList, List.append_nil, List.nil_append, List.cons_append, hrow]))
                  all_goals try (exfalso; omega)
                  refine ⟨⟨fun e he=>by rw [row fld0 (by omega)]; rfl,by omega⟩,?_⟩
                  refine AWPC.freezeC (f:=ν.length+3+0) (n:=k+(1+(S.length - k))) (h:=1) (e:=0) (j:=7) (o:=⟨72,24,(P++x::Q).map Fld.cs,none⟩) ((at_three _ _ _ ν _ 0 0).trans (by simp [at_cons0])) (by simp; omega) (show (24:Nat)≠0 by decide) rfl (by omega) rfl (by simp) rfl ?_
                  refine AWPC.sto (σ':=some [⟨86,9,[wkZ],none⟩]::some [⟨86,9,[wkC9 b r w (fdS (P++x::Q)) (.own 2 0 0)],none⟩]::some [⟨64,5,[],none⟩]::(ν++[none])) (by rw [gone_three]; rfl) ?_
                  ((refine Au ?_;repeat' first|exact True.intro|refine Cj.mk ?_ ?_)<;>intros<;>refine hD_ ?_)
                  all_goals try (exfalso; omega)
                  all_goals exact ⟨⟨(i+1,P++x::Q,ν++[none]),hlt,by rw [hN2,hF]⟩,by simp,rfl,by simp only; omega⟩
              · have hF:=insF_at hSs hk hI (fun h=>absurd h h0)
                have hg0:¬ (0:Int) < (k:Int):=by omega
                have hrw:((S.map Fld.cs).getD ((k:Int) - 1).toNat []=[])∨∃ y:Fld,(S.map Fld.cs).getD ((k:Int) - 1).toNat []=y.cs:=by
                  by_cases h:((k:Int) - 1).toNat < S.length
                  · exact .inr ⟨_,row fld0 h⟩
                  · exact .inl (by rw [List.getD_eq_getElem?_getD,List.getElem?_eq_none (by rw [List.length_map]; omega)]; rfl)
                clear h0
                rcases hrw with hrow | ⟨y,hrow⟩
                · obtain ⟨P,hP⟩:∃ P,P=S.take k:=⟨_,rfl⟩
                  obtain ⟨Q,hQ⟩:∃ Q,Q=S.drop k:=⟨_,rfl⟩
                  have hPm:List.take k (S.map Fld.cs)=P.map Fld.cs:=by rw [hP,List.map_take]
                  have hQm:List.drop k (List.take S.length (S.map Fld.cs))=Q.map Fld.cs:=by rw [hQ,List.map_drop,List.take_of_length_le (by rw [List.length_map]; exact Nat.le_refl _)]
                  have hPl:P.length=k:=by rw [hP,List.length_take]; omega
                  have hQl:Q.length=S.length - k:=by rw [hQ,List.length_drop]
                  rw [← hP,← hQ] at hF
                  clear hP hQ
                  (repeat' ((first
 | refine vn rfl ?_
 | simp (disch:=omega) only [wr64,Int.zero_sub]
 | refine bo (fun _=>?_) fun _=>?_
 | refine im fun _=>?_
 | refine cF ?_
 | refine om ?_
 | refine an ?_
 | fail) <;> try simp only [zN, zT, zV, zS, zU, vcC, lateX, ex, strp, binA, elems, cells, scalar, eqC, keyA, intsA, lookA, ofVs, mpOf, Nat.reduceBEq, reduceAdd, reduceSub, reduceLT, reduceLeDiff, reduceMul, reduceEqDiff, reduceIte, hx, hPm, hQm, hPl, hQl, List.length_map, Option.toList, List.append_nil, List.nil_append, List.cons_append, hrow, hg0]))
                  all_goals try (exfalso; omega)
                  refine ⟨⟨fun e he=>by rw [row fld0 (by omega)]; rfl,by omega⟩,?_⟩
                  refine AWPC.freezeC (f:=ν.length+3+0) (n:=k+(1+(S.length - k))) (h:=1) (e:=0) (j:=7) (o:=⟨72,24,(P++x::Q).map Fld.cs,none⟩) ((at_three _ _ _ ν _ 0 0).trans (by simp [at_cons0])) (by simp; omega) (show (24:Nat)≠0 by decide) rfl (by omega) rfl (by simp) rfl ?_
                  refine AWPC.sto (σ':=some [⟨86,9,[wkZ],none⟩]::some [⟨86,9,[wkC9 b r w (fdS (P++x::Q)) (.own 2 0 0)],none⟩]::some [⟨64,5,[],none⟩]::(ν++[none])) (by rw [gone_three]; rfl) ?_
                  ((refine Au ?_;repeat' first|exact True.intro|refine Cj.mk ?_ ?_)<;>intros<;>refine hD_ ?_)
                  all_goals try (exfalso; omega)
                  all_goals exact ⟨⟨(i+1,P++x::Q,ν++[none]),hlt,by rw [hN2,hF]⟩,by simp,rfl,by simp only; omega⟩
                · obtain ⟨P,hP⟩:∃ P,P=S.take k:=⟨_,rfl⟩
                  obtain ⟨Q,hQ⟩:∃ Q,Q=S.drop k:=⟨_,rfl⟩
                  have hPm:List.take k (S.map Fld.cs)=P.map Fld.cs:=by rw [hP,List.map_take]
                  have hQm:List.drop k (List.take S.length (S.map Fld.cs))=Q.map Fld.cs:=by rw [hQ,List.map_drop,List.take_of_length_le (by rw [List.length_map]; exact Nat.le_refl _)]
                  have hPl:P.length=k:=by rw [hP,List.length_take]; omega
                  have hQl:Q.length=S.length - k:=by rw [hQ,List.length_drop]
                  rw [← hP,← hQ] at hF
                  clear hP hQ
                  (repeat' ((first
 | refine vn rfl ?_
 | simp (disch:=omega) only [wr64,Int.zero_sub]
 | refine bo (fun _=>?_) fun _=>?_
 | refine im fun _=>?_
 | refine cF ?_
 | refine om ?_
 | refine an ?_
 | fail) <;> try simp only [zN, zT, zV, zS, zU, vcC, lateX, ex, strp, binA, elems, cells, scalar, eqC, keyA, intsA, lookA, ofVs, mpOf, Nat.reduceBEq, reduceAdd, reduceSub, reduceLT, reduceLeDiff, reduceMul, reduceEqDiff, reduceIte, hx, hPm, hQm, hPl, hQl, List.length_map, Option.toList, List.append_nil, List.nil_append, List.cons_append, hrow, hg0]))
                  all_goals try (exfalso; omega)
                  refine ⟨⟨fun e he=>by rw [row fld0 (by omega)]; rfl,by omega⟩,?_⟩
                  refine AWPC.freezeC (f:=ν.length+3+0) (n:=k+(1+(S.length - k))) (h:=1) (e:=0) (j:=7) (o:=⟨72,24,(P++x::Q).map Fld.cs,none⟩) ((at_three _ _ _ ν _ 0 0).trans (by simp [at_cons0])) (by simp; omega) (show (24:Nat)≠0 by decide) rfl (by omega) rfl (by simp) rfl ?_
                  refine AWPC.sto (σ':=some [⟨86,9,[wkZ],none⟩]::some [⟨86,9,[wkC9 b r w (fdS (P++x::Q)) (.own 2 0 0)],none⟩]::some [⟨64,5,[],none⟩]::(ν++[none])) (by rw [gone_three]; rfl) ?_
                  ((refine Au ?_;repeat' first|exact True.intro|refine Cj.mk ?_ ?_)<;>intros<;>refine hD_ ?_)
                  all_goals try (exfalso; omega)
                  all_goals exact ⟨⟨(i+1,P++x::Q,ν++[none]),hlt,by rw [hN2,hF]⟩,by simp,rfl,by simp only; omega⟩
          · rw [show (x.week == w)=false by simp [hxw],if_neg (by decide)] at hN
            ((refine Ax (And.intro @hx @hxw) ?_;repeat' first|exact True.intro|refine Cj.mk ?_ ?_)<;>intros<;>refine hD_ ?_)
            all_goals try (exfalso; omega)
            all_goals exact ⟨⟨(i+1,S,ν),hlt,by rw [hN]; exact hS⟩,by simp,rfl,by simp only; omega⟩
        · obtain rfl:i=r.sheets.length:=by omega
          rw [List.take_length] at hS
          ((refine Au ?_;repeat' first|exact True.intro|refine Cj.mk ?_ ?_)<;>intros<;>refine hD_ ?_)
          all_goals try (exfalso; omega)
          clear hSs
          refine AWPC.loopE (α:={ x:Nat × List Rd // x.1≤r.reads.length∧x.2=(r.reads.take x.1).filter fun f=>f.week == w }) [12] (fun x=>[(12,n x.1.1)])
            (fun x=>some [⟨86,9,[wkZ],none⟩]::some [⟨86,9,[wkC9 b r w (fdS S) (.own 2 0 x.1.2.length)],none⟩]::some [⟨64,5,x.1.2.map Rd.cs,none⟩]::ν)
            (fun x=>r.reads.length - x.1.1) ⟨(0,[]),Nat.zero_le _,rfl⟩ ?_ rfl ?_
          · (simp only [zN,zT,zV,zS,zU,vcC,lateX,ex,strp,binA,elems,cells,scalar,eqC,keyA,intsA,lookA,ofVs,mpOf,Nat.reduceBEq,reduceAdd,reduceSub,reduceLT,reduceLeDiff,reduceMul,reduceEqDiff,reduceIte]; try simp)
          · rintro ⟨⟨i,R⟩,hi,hR⟩
            simp only at hi hR ⊢
            have hRl:R.length≤r.reads.length:=by rw [hR]; exact Nat.le_trans (List.length_filter_le _ _) (by rw [List.length_take]; omega)
            by_cases hlt:i < r.reads.length
            · generalize hM:R.map Rd.cs=M
              have hMl:M.length=R.length:=by rw [← hM,List.length_map]
              have hx:(r.reads.map Rd.cs).getD i []=Rd.cs (r.reads.getD i rd0):=row rd0 hlt
              have hN:=filter_next (q:=fun f:Rd=>f.week == w) (getD_lt rd0 hlt)
              rw [← hR] at hN
              generalize r.reads.getD i rd0=x at hx hN
              by_cases hxw:x.week=w
              · rw [show (x.week == w)=true by simp [hxw],if_pos rfl] at hN
                ((refine Ax (And.intro @hx (And.intro @hMl @hxw)) ?_;repeat' first|exact True.intro|refine Cj.mk ?_ ?_)<;>intros<;>refine hD_ ?_)
                all_goals try (exfalso; omega)
                refine ⟨⟨(i+1,R++[x]),hlt,hN.symm⟩,by simp,?_,by simp only; omega⟩
                simp [← hM,hxw]
              · rw [show (x.week == w)=false by simp [hxw],if_neg (by decide)] at hN
                ((refine Ax (And.intro @hx (And.intro @hMl @hxw)) ?_;repeat' first|exact True.intro|refine Cj.mk ?_ ?_)<;>intros<;>refine hD_ ?_)
                all_goals try (exfalso; omega)
                refine ⟨⟨(i+1,R),hlt,hN.symm⟩,by simp,?_,by simp only; omega⟩
                simp [← hM]
            · obtain rfl:i=r.reads.length:=by omega
              rw [List.take_length] at hR
              have hWT:weekT b r w=⟨{ b with stns:=r.stns },w,S,R⟩:=by unfold weekT; rw [hR,hS]
              by_cases h64:64 < S.length∨64 < R.length
              · have hE:weekE b r w=(wk0,2):=by unfold weekE; rw [if_neg (fun h=>h hbok),if_neg (fun h=>h hw),hWT]; exact if_pos h64
                rw [hE]
                ((refine Au ?_;repeat' first|exact True.intro|refine Cj.mk ?_ ?_)<;>intros<;>refine hD_ ?_)
                all_goals try (exfalso; omega)
                all_goals exact Frz.tupL ⟨Frz.aggL ⟨Frz.nil0,Frz.pure (by simp),Frz.pure (by simp),Frz.pure (by simp),Frz.pure (by simp),Frz.pure (by simp),Frz.pure (by simp),Frz.nil0,Frz.nil0,trivial⟩,Frz.pure (by simp),trivial⟩
              · have hE:weekE b r w=(weekT b r w,0):=by unfold weekE; rw [if_neg (fun h=>h hbok),if_neg (fun h=>h hw),hWT]; exact if_neg h64
                rw [hE,hWT]
                ((refine Au ?_;repeat' first|exact True.intro|refine Cj.mk ?_ ?_)<;>intros<;>refine hD_ ?_)
                all_goals try (exfalso; omega)
                all_goals exact Frz.tupL ⟨Frz.aggL ⟨Frz.pure (by simp),Frz.pure (by simp),Frz.pure (by simp),Frz.pure (by simp),Frz.pure (by simp),Frz.pure (by simp),Frz.pure (by simp),Frz.pure (by simp),Frz.ownL (T:=64) (cs:=Rd.cs) rfl rfl (by decide) rd_pc (fun a=>rfl),trivial⟩,Frz.pure (by simp),trivial⟩
    · rw [decide_eq_false hw] at hwi
      have hE:weekE b r w=(wk0,1):=by unfold weekE; rw [if_neg (fun h=>h hbok),if_pos hw]
      rw [hE]
      clear hw
      ((refine Ay (And.intro @hcb (And.intro @hss @hwi)) ?_;repeat' first|exact True.intro|refine Cj.mk ?_ ?_)<;>intros<;>refine hD_ ?_)
      all_goals try (exfalso; omega)
      all_goals exact Frz.tupL ⟨Frz.aggL ⟨Frz.nil0,Frz.pure (by simp),Frz.pure (by simp),Frz.pure (by simp),Frz.pure (by simp),Frz.pure (by simp),Frz.pure (by simp),Frz.nil0,Frz.nil0,trivial⟩,Frz.pure (by simp),trivial⟩
  · rw [if_neg hbok] at hcb
    have hE:weekE b r w=(wk0,100):=by unfold weekE; rw [if_pos hbok]
    rw [hE]
    ((refine Ay @hcb ?_;repeat' first|exact True.intro|refine Cj.mk ?_ ?_)<;>intros<;>refine hD_ ?_)
    all_goals try (exfalso; omega)
    all_goals exact Frz.tupL ⟨Frz.aggL ⟨Frz.nil0,Frz.pure (by simp),Frz.pure (by simp),Frz.pure (by simp),Frz.pure (by simp),Frz.pure (by simp),Frz.pure (by simp),Frz.nil0,Frz.nil0,trivial⟩,Frz.pure (by simp),trivial⟩
def c251:CF:=⟨38,(jo [jc 10 0] [0,1,2,3,10]
 (.block 0 (.loop (.seq (jo [jm 11 10,jm 12 3,jt .lss 13 11 12] [0,1,2,3,10,13]
 (.cond (.t 13) .skip
 (.exit 0)))
 (.seq (.block 1 (.draww [0,1,2,3,4,5,6,7,8,9,10,11,12,13,14,15,16,17,18,19,20,21,22,23] [4,5,6,7] 1 [jm 16 0,jm 17 1,jm 18 10,jt .add 19 17 18,jm 20 0,jm 21 2,jm 22 10,jt .add 23 21 22,jm 24 0,jm 25 2,jm 26 10,jt .add 27 25 26,ji 28 24 24 27,jk 29 24 28,jm 30 0,jm 31 1,jm 32 10,jt .add 33 31 32,ji 34 24 30 33,jk 35 24 34,ji 36 24 16 19] [js 24 36 29,ji 37 24 20 23,js 24 37 35] [0,1,2,3,10]))
 (.ops [jm 14 10,ju .add 15 14 1,jm 10 15] [0,1,2,3,10])))))),[]⟩
theorem k251:chkF Tryz.prog Tryz.f251 c251=true:=by kernel_rfl
def c238:CF:=⟨58,(jo [jm 12 2,jm 13 1,jt .sub 14 12 13,jm 10 14] [0,2,3,4,10]
 (jo [jm 15 3,jm 16 2,jt .sub 17 15 16,jm 11 17] [0,2,4,10,11]
 (.seq (.block 0 (.loop (.seq (jo [jm 18 10,jm 19 11,jt .neq 20 18 19] [0,2,4,10,11,20]
 (.cond (.t 20) .skip
 (.exit 0)))
 (.block 1 (jo [jm 21 10,jm 22 11,jt .gtr 23 21 22] [0,2,4,10,11,23]
 (.cond (.t 23) (jo [jm 24 0,jm 25 2,jm 26 10,jt .sub 27 25 26,jm 28 2,jm 29 11,jm 30 4,jy 31 251 [24,27,28,29,30]] [0,2,4,10,11]
 (.ops [jm 32 10,jm 33 11,jt .sub 34 32 33,jm 10 34] [0,2,4,10,11]))
 (jo [jm 35 0,jm 36 2,jm 37 10,jt .sub 38 36 37,jm 39 2,jm 40 11,jt .add 41 39 40,jm 42 10,jt .sub 43 41 42,jm 44 10,jm 45 4,jy 46 251 [35,38,43,44,45]] [0,2,4,10,11]
 (.ops [jm 47 11,jm 48 10,jt .sub 49 47 48,jm 11 49] [0,2,4,10,11]))))))))
 (.ops [jm 50 0,jm 51 2,jm 52 10,jt .sub 53 51 52,jm 54 2,jm 55 10,jm 56 4,jy 57 251 [50,53,54,55,56]] [])))),[]⟩
theorem k238:chkF Tryz.prog Tryz.f238 c238=true:=by kernel_rfl
abbrev obF (l:List Fld):Ob:=⟨72,24,l.map Fld.cs,none⟩
abbrev wkC:AV:=.fn (.func 100) [] []
def fz0:Fld:=⟨nm0,0,0,sht0,[],[]⟩
theorem row24 (W:List Fld) (i j:Nat) (v:Fld):List.drop 24 (((W.map Fld.cs).set i v.cs).getD j [])=[]:=by
  have:((W.map Fld.cs).set i v.cs)=(W.set i v).map Fld.cs:=by rw [List.map_set]
  rw [this,List.getD_eq_getElem?_getD,List.getElem?_map]
  cases (W.set i v)[j]? <;> rfl
theorem swapRange_does (σ:Sto) (f N:Nat) (l:List Fld) (a b m:Nat) (hf:σ.at f 0=some (obF l)) (hn:l.length=N) (h1:a+m≤b) (h2:b+m≤N) (hl:N < 1099511627776) :
    Does Tryz.prog 251 [.own f 0 N,n a,n b,n m,wkC] σ (fun _ σ'=>σ'=σ.upd f 0 (obF (swp l a b m))):=by
  refine Does.of_body Tryz.call251 Tryz.func251 k251 (Nat.le_of_ble_eq_true rfl) ?_
  unfold c251
  ((refine Au ?_;repeat' first|exact True.intro|refine Cj.mk ?_ ?_)<;>intros<;>refine hD_ ?_)
  refine AWPC.loopE (α:={ i:Nat // i≤m }) [10] (fun i=>[(10,n i.1)]) (fun i=>σ.upd f 0 (obF (swp l a b i.1))) (fun i=>m - i.1) ⟨0,Nat.zero_le _⟩ ?_ (by simp only; rw [swp_zero l (by omega) (by omega),upd_self hf]) ?_
  · (simp only [zN,zT,zV,zS,zU,vcC,lateX,ex,strp,binA,elems,cells,scalar,eqC,keyA,intsA,lookA,ofVs,mpOf,Nat.reduceBEq,reduceAdd,reduceSub,reduceLT,reduceLeDiff,reduceMul,reduceEqDiff,reduceIte]; try simp)
  · rintro ⟨i,hi⟩
    simp only
    have hWl:(swp l a b i).length=N:=(swp_len (by omega) (by omega)).trans hn
    have hN:∀ u v,i < m→(swp l a b i)[a+i]?=some u→(swp l a b i)[b+i]?=some v→((swp l a b i).set (a+i) v).set (b+i) u=swp l a b (i+1):=fun u v h hu hv=>swp_next (by omega) (by omega) hu hv
    have hC:∀ o,Sto.at (σ.upd f 0 o) f 0=some o:=fun o=>at_upd_same hf
    have hD:∀ o o',(σ.upd f 0 o).upd f 0 o'=σ.upd f 0 o':=fun o o'=>upd_upd hf
    by_cases hlt:i < m
    · generalize swp l a b i=W at hWl hN
      have e1:(W.map Fld.cs).getD ((a:Int)+(i:Int)).toNat []=Fld.cs (W.getD (a+i) fz0):=by rw [show ((a:Int)+(i:Int)).toNat=a+i by omega]; exact row fz0 (by omega)
      have e2:(W.map Fld.cs).getD ((b:Int)+(i:Int)).toNat []=Fld.cs (W.getD (b+i) fz0):=by rw [show ((b:Int)+(i:Int)).toNat=b+i by omega]; exact row fz0 (by omega)
      have hN:=hN _ _ hlt (getD_lt fz0 (by omega)) (getD_lt fz0 (by omega))
      have e3:∀ u v:Fld,((W.map Fld.cs).set ((a:Int)+(i:Int)).toNat v.cs).set ((b:Int)+(i:Int)).toNat u.cs=((W.set (a+i) v).set (b+i) u).map Fld.cs:=fun u v=>by
        rw [show ((a:Int)+(i:Int)).toNat=a+i by omega,show ((b:Int)+(i:Int)).toNat=b+i by omega,List.map_set,List.map_set]
      generalize W.getD (a+i) fz0=u at e1 hN
      generalize W.getD (b+i) fz0=v at e2 hN
      have e3:=e3 u v
      rw [hN] at e3
      have e4:List.drop 24 (((W.map Fld.cs).set ((a:Int)+(i:Int)).toNat v.cs).getD ((b:Int)+(i:Int)).toNat [])=[]:=row24 _ _ _ _
      clear hN
      (repeat' ((first
 | refine vn rfl ?_
 | simp (disch:=omega) only [wr64,Int.zero_sub]
 | refine bo (fun _=>?_) fun _=>?_
 | refine im fun _=>?_
 | refine cF ?_
 | refine om ?_
 | refine an ?_
 | fail) <;> try simp only [zN,zT,zV,zS,zU,vcC,lateX,ex,strp,binA,elems,cells,scalar,eqC,keyA,intsA,lookA,ofVs,mpOf,Nat.reduceBEq,reduceAdd,reduceSub,reduceLT,reduceLeDiff,reduceMul,reduceEqDiff,reduceIte,hC,hD,hWl,e1,e2,e4,List.length_map,List.length_set]))
      all_goals try (exfalso; omega)
      exact ⟨⟨i+1,hlt⟩,by simp,by rw [e3],by simp only; omega⟩
    · obtain rfl:i=m:=by omega
      ((refine Au ?_;repeat' first|exact True.intro|refine Cj.mk ?_ ?_)<;>intros<;>refine hD_ ?_)
      all_goals try (exfalso; omega)
theorem rotate_does (σ:Sto) (f N:Nat) (l:List Fld) (a m b:Nat) (hf:σ.at f 0=some (obF l)) (hn:l.length=N) (h1:a < m) (h2:m < b) (h3:b≤N) (hl:N < 1099511627776) :
    Does Tryz.prog 238 [.own f 0 N,n a,n m,n b,wkC] σ (fun _ σ'=>σ'=σ.upd f 0 (obF (rot l a m b))):=by
  refine Does.of_body Tryz.call238 Tryz.func238 k238 (Nat.le_of_ble_eq_true rfl) ?_
  unfold c238
  ((refine Au ?_;repeat' first|exact True.intro|refine Cj.mk ?_ ?_)<;>intros<;>refine hD_ ?_)
  refine AWPC.loopE (α:={ x:Nat × Nat × List Fld // 0 < x.1∧0 < x.2.1∧x.1≤m∧m+x.2.1≤N∧x.2.2.length=N∧rot x.2.2 (m - x.1) m (m+x.2.1)=rot l a m b }) [10,11] (fun x=>[(10,n x.1.1),(11,n x.1.2.1)]) (fun x=>σ.upd f 0 (obF x.1.2.2)) (fun x=>x.1.1+x.1.2.1)
    ⟨(m - a,b - m,l),by dsimp only; omega,by dsimp only; omega,by dsimp only; omega,by dsimp only; omega,hn,by dsimp only; rw [show m - (m - a)=a by omega,show m+(b - m)=b by omega]⟩ ?_ (by simp only; rw [upd_self hf]) ?_
  · (simp only [zN,zT,zV,zS,zU,vcC,lateX,ex,strp,binA,elems,cells,scalar,eqC,keyA,intsA,lookA,ofVs,mpOf,Nat.reduceBEq,reduceAdd,reduceSub,reduceLT,reduceLeDiff,reduceMul,reduceEqDiff,reduceIte]; try simp)
    omega
  · rintro ⟨⟨i,j,W⟩,hi,hj,him,hjn,hW,hR⟩
    simp only at hi hj him hjn hW hR ⊢
    have hC:Sto.at (σ.upd f 0 (obF W)) f 0=some (obF W):=at_upd_same hf
    have hD:∀ o,(σ.upd f 0 (obF W)).upd f 0 o=σ.upd f 0 o:=fun o=>upd_upd hf
    have hcall:∀ u v w:Nat,u+w≤v→v+w≤N→Does Tryz.prog 251 [.own f 0 N,n u,n v,n w,wkC] (σ.upd f 0 (obF W)) (fun _ σ'=>σ'=σ.upd f 0 (obF (swp W u v w))):=fun u v w k1 k2=>by
      have:=swapRange_does (σ.upd f 0 (obF W)) f N W u v w hC hW k1 k2 hl
      simp only [hD] at this
      exact this
    have hmi:((m - i:Nat):Int)=(m:Int) - (i:Int):=by omega
    rcases Nat.lt_trichotomy i j with h | h | h
    · have hc:=hcall (m - i) (m+j - i) i (by omega) (by omega)
      have hN:=rot_lt (l:=W) (a:=m - i) (m:=m) (b:=m+j) (by omega) (by omega) (by omega) (by omega)
      rw [show m - (m - i)=i by omega] at hN
      have hWl:=swp_len (l:=W) (a:=m - i) (b:=m+j - i) (i:=i) (by omega) (by omega)
      rw [hmi,show ((m+j - i:Nat):Int)=(m:Int)+(j:Int) - (i:Int) by omega] at hc
      ((refine Au ?_;repeat' first|exact True.intro|refine Cj.mk ?_ ?_)<;>intros<;>refine hD_ ?_)
      all_goals try (exfalso; omega)
      refine .inr (.inl ⟨_,_,_,_,rfl,fun _=>⟨hc,?_⟩,fun h=>by cases h⟩)
      rintro r σ' rfl
      refine owp_of_exs ?_
      simp only [zN,zT,zV,zS,zU,vcC,lateX,ex,strp,binA,elems,cells,scalar,eqC,keyA,intsA,lookA,ofVs,mpOf,Nat.reduceBEq,reduceAdd,reduceSub,reduceLT,reduceLeDiff,reduceMul,reduceEqDiff,reduceIte]
      ((refine Au ?_;repeat' first|exact True.intro|refine Cj.mk ?_ ?_)<;>intros<;>refine hD_ ?_)
      exact ⟨⟨(i,j - i,swp W (m - i) (m+j - i) i),hi,by dsimp only; omega,him,by dsimp only; omega,hWl.trans hW,by dsimp only; rw [show m+(j - i)=m+j - i by omega,hN,hR]⟩,by simp; omega,rfl,by simp only; omega⟩
    · subst h
      have hc:=hcall (m - i) m i (by omega) (by omega)
      rw [hmi] at hc
      have hN:=rot_eq (l:=W) (a:=m - i) (m:=m) (b:=m+i) (by omega) (by omega) (by omega) (by omega)
      rw [show m - (m - i)=i by omega,hR] at hN
      ((refine Au ?_;repeat' first|exact True.intro|refine Cj.mk ?_ ?_)<;>intros<;>refine hD_ ?_)
      all_goals try (exfalso; omega)
      refine .inr (.inl ⟨_,_,_,_,rfl,fun _=>⟨hc,?_⟩,fun h=>by cases h⟩)
      rintro r σ' rfl
      refine owp_of_exs ?_
      simp only [zN,zT,zV,zS,zU,vcC,lateX,ex,strp,binA,elems,cells,scalar,eqC,keyA,intsA,lookA,ofVs,mpOf,Nat.reduceBEq,reduceAdd,reduceSub,reduceLT,reduceLeDiff,reduceMul,reduceEqDiff,reduceIte]
      rw [hN]
    · have hc:=hcall (m - i) m j (by omega) (by omega)
      rw [hmi] at hc
      have hN:=rot_gt (l:=W) (a:=m - i) (m:=m) (b:=m+j) (by omega) (by omega) (by omega) (by omega)
      rw [show m+j - m=j by omega,hR] at hN
      have hWl:=swp_len (l:=W) (a:=m - i) (b:=m) (i:=j) (by omega) (by omega)
      ((refine Au ?_;repeat' first|exact True.intro|refine Cj.mk ?_ ?_)<;>intros<;>refine hD_ ?_)
      all_goals try (exfalso; omega)
      refine .inr (.inl ⟨_,_,_,_,rfl,fun _=>⟨hc,?_⟩,fun h=>by cases h⟩)
      rintro r σ' rfl
      refine owp_of_exs ?_
      simp only [zN,zT,zV,zS,zU,vcC,lateX,ex,strp,binA,elems,cells,scalar,eqC,keyA,intsA,lookA,ofVs,mpOf,Nat.reduceBEq,reduceAdd,reduceSub,reduceLT,reduceLeDiff,reduceMul,reduceEqDiff,reduceIte]
      ((refine Au ?_;repeat' first|exact True.intro|refine Cj.mk ?_ ?_)<;>intros<;>refine hD_ ?_)
      exact ⟨⟨(i - j,j,swp W (m - i) m j),by dsimp only; omega,hj,by dsimp only; omega,hjn,hWl.trans hW,by dsimp only; rw [show m - (i - j)=m - i+j by omega,hN]⟩,by simp; omega,rfl,by simp only; omega⟩
theorem sgn_lt {a b:Int}:sgn a b < 0↔a < b:=by unfold sgn; repeat' split <;> omega
theorem insertion_does (σ:Sto) (f N:Nat) (l:List Fld) (a b:Nat) (hf:σ.at f 0=some (obF l)) (hn:l.length=N) (h1:a≤b) (h2:b≤N) (hl:N < 1099511627776) :
    Does Tryz.prog 213 [.own f 0 N,n a,n b,wkC] σ (fun _ σ'=>σ'=σ.upd f 0 (obF (stS Fld.stn l a b))):=by
  refine Does.of_body Tryz.call213 Tryz.func213 k213 (Nat.le_of_ble_eq_true rfl) ?_
  unfold c213
  by_cases hab:a=b
  · subst hab
    have hz:stS Fld.stn l a a=l:=by
      refine stS_none (Nat.le_refl _) (by omega) ?_
      have:seg l a a=[]:=by
        show List.drop a (List.take a l)=[]
        rw [List.drop_eq_nil_iff,List.length_take]; omega
      rw [this]; exact .nil
    rw [hz,upd_self hf]
    ((refine Au ?_;repeat' first|exact True.intro|refine Cj.mk ?_ ?_)<;>intros<;>refine hD_ ?_)
    refine AWPC.loopS (α:=Unit) [8] (fun _=>[(8,n ((a:Int)+1))]) (fun _=>0) () ?_ ?_
    · (simp only [zN,zT,zV,zS,zU,vcC,lateX,ex,strp,binA,elems,cells,scalar,eqC,keyA,intsA,lookA,ofVs,mpOf,Nat.reduceBEq,reduceAdd,reduceSub,reduceLT,reduceLeDiff,reduceMul,reduceEqDiff,reduceIte]; try simp)
    · rintro ⟨⟩
      ((refine Au ?_;repeat' first|exact True.intro|refine Cj.mk ?_ ?_)<;>intros<;>refine hD_ ?_)
      all_goals first | (exfalso; omega) | rfl
  ((refine Au ?_;repeat' first|exact True.intro|refine Cj.mk ?_ ?_)<;>intros<;>refine hD_ ?_)
  refine AWPC.loopE (α:={ i:Nat // a+1≤i∧i≤b }) [8] (fun i=>[(8,n i.1)]) (fun i=>σ.upd f 0 (obF (stS Fld.stn l a i.1))) (fun i=>b - i.1) ⟨a+1,by omega,by omega⟩ ?_ (by simp only; rw [stS_none (by omega) (by omega) seg_one,upd_self hf]) ?_
  · (simp only [zN,zT,zV,zS,zU,vcC,lateX,ex,strp,binA,elems,cells,scalar,eqC,keyA,intsA,lookA,ofVs,mpOf,Nat.reduceBEq,reduceAdd,reduceSub,reduceLT,reduceLeDiff,reduceMul,reduceEqDiff,reduceIte]; try simp)
  · rintro ⟨i,hi,hib⟩
    simp only at hi hib ⊢
    by_cases hlt:i < b
    · obtain ⟨W,hW⟩:∃ W,W=stS Fld.stn l a i:=⟨_,rfl⟩
      have hWl:W.length=N:=by rw [hW,stS_len (by omega) (by omega),hn]
      have hfin:∀ j,a≤j→j≤i→(∀ t,j≤t→t < i→(W.getD i fz0).stn < (W.getD t fz0).stn)→(a < j→(W.getD (j - 1) fz0).stn≤(W.getD i fz0).stn)→insAt (W.eraseIdx i) j (W.getD i fz0)=stS Fld.stn l a (i+1):=fun j k1 k2 k3 k4=>by
        rw [hW]; rw [hW] at k3 k4
        exact ins_step fz0 k1 k2 (by omega) k3 k4
      have h0:=erase_ins (l:=W) (a:=i) (by omega) fz0
      have hEl:(W.eraseIdx i).length=N - 1:=by rw [List.length_eraseIdx_of_lt (by omega),hWl]
      have hEg:∀ t,t < i→(W.eraseIdx i).getD t fz0=W.getD t fz0:=fun t ht=>erase_lt ht fz0
      rw [← hW]
      clear hW
      obtain ⟨x,hx⟩:∃ x,x=W.getD i fz0:=⟨_,rfl⟩
      obtain ⟨E,hE⟩:∃ E,E=W.eraseIdx i:=⟨_,rfl⟩
      rw [← hx,← hE] at h0 hfin
      rw [← hE] at hEl hEg
      rw [← h0]
      clear hx hE
      ((refine Au ?_;repeat' first|exact True.intro|refine Cj.mk ?_ ?_)<;>intros<;>refine hD_ ?_)
      all_goals try (exfalso; omega)
      refine AWPC.loopE (α:={ j:Nat // a≤j∧j≤i∧∀ t,j≤t→t < i→x.stn < (E.getD t fz0).stn }) [9] (fun j=>[(9,n j.1)]) (fun j=>σ.upd f 0 (obF (insAt E j.1 x))) (fun j=>j.1) ⟨i,by omega,by omega,fun t k1 k2=>by omega⟩ ?_ rfl ?_
      · (simp only [zN,zT,zV,zS,zU,vcC,lateX,ex,strp,binA,elems,cells,scalar,eqC,keyA,intsA,lookA,ofVs,mpOf,Nat.reduceBEq,reduceAdd,reduceSub,reduceLT,reduceLeDiff,reduceMul,reduceEqDiff,reduceIte]; try simp)
      · rintro ⟨j,hj,hji,hI⟩
        simp only at hj hji hI ⊢
        have hC:∀ o,Sto.at (σ.upd f 0 o) f 0=some o:=fun o=>at_upd_same hf
        have hD:∀ o o',(σ.upd f 0 o).upd f 0 o'=σ.upd f 0 o':=fun o o'=>upd_upd hf
        have hVl:(insAt E j x).length=N:=by rw [insAt_len,hEl]; omega
        have g1:(insAt E j x).getD j fz0=x:=insAt_selfD E (by omega) x fz0
        have r1:((insAt E j x).map Fld.cs).getD j []=Fld.cs x:=by rw [row fz0 (by omega),g1]
        by_cases hja:a < j
        · have g2:(insAt E j x).getD (j - 1) fz0=E.getD (j - 1) fz0:=insAt_ltD E (by omega) (by omega) x fz0
          have r2:((insAt E j x).map Fld.cs).getD ((j:Int) - 1).toNat []=Fld.cs (E.getD (j - 1) fz0):=by rw [show ((j:Int) - 1).toNat=j - 1 by omega,row fz0 (by omega),g2]
          have hw:=week1_spec x (E.getD (j - 1) fz0)
          by_cases hc:x.stn < (E.getD (j - 1) fz0).stn
          · have hs:=sgn_lt.2 hc
            have hN:=insAt_down E (k:=j - 1) (by omega) x (E.getD (j - 1) fz0) (getD_lt fz0 (by omega))
            rw [show j - 1+1=j by omega] at hN
            have e3:∀ v:Fld,(((insAt E j x).map Fld.cs).set j v.cs).set ((j:Int) - 1).toNat x.cs=(((insAt E j x).set j v).set (j - 1) x).map Fld.cs:=fun v=>by
              rw [show ((j:Int) - 1).toNat=j - 1 by omega,List.map_set,List.map_set]
            have e3:=e3 (E.getD (j - 1) fz0)
            rw [hN] at e3
            have e4:List.drop 24 ((((insAt E j x).map Fld.cs).set j (E.getD (j - 1) fz0).cs).getD ((j:Int) - 1).toNat [])=[]:=row24 _ _ _ _
            have hI':∀ t,j - 1≤t→t < i→x.stn < (E.getD t fz0).stn:=fun t k1 k2=>by
              rcases (show t=j - 1∨j≤t by omega) with rfl | k3
              · exact hc
              · exact hI t k3 k2
            generalize E.getD (j - 1) fz0=v at r2 hw hc hs e3 e4
            clear hN
            (repeat' ((first
 | refine vn rfl ?_
 | simp (disch:=omega) only [wr64,Int.zero_sub]
 | refine bo (fun _=>?_) fun _=>?_
 | refine im fun _=>?_
 | ((repeat refine si ?_); (first | ((first | refine .inl ⟨_,_,_,_,rfl,fun _=>pu hw,?_⟩ | refine ⟨_,_,_,_,rfl,fun _=>pu hw,?_⟩); (first | refine o1 ?_ | refine o2 ?_ | refine o3 ?_ | refine o4 ?_)) | refine .inl ⟨_,_,_,_,rfl,pu hw,?_⟩))
 | refine cF ?_
 | refine om ?_
 | refine an ?_
 | fail) <;> try simp only [zN, zT, zV, zS, zU, vcC, lateX, ex, strp, binA, elems, cells, scalar, eqC, keyA, intsA, lookA, ofVs, mpOf, Nat.reduceBEq, reduceAdd, reduceSub, reduceLT, reduceLeDiff, reduceMul, reduceEqDiff, reduceIte, hC, hD, hVl, r1, r2, e4, List.length_map, List.length_set]))
            all_goals try (exfalso; omega)
            exact ⟨⟨j - 1,by omega,by omega,hI'⟩,by simp; omega,by rw [e3],by simp only; omega⟩
          · have hs:¬ sgn x.stn (E.getD (j - 1) fz0).stn < 0:=fun h=>hc (sgn_lt.1 h)
            have hF:=hfin j hj hji (fun t k1 k2=>by rw [← hEg t k2]; exact hI t k1 k2) (fun _=>by rw [← hEg _ (by omega)]; omega)
            generalize E.getD (j - 1) fz0=v at r2 hw hc hs
            (repeat' ((first
 | refine vn rfl ?_
 | simp (disch:=omega) only [wr64,Int.zero_sub]
 | refine bo (fun _=>?_) fun _=>?_
 | refine im fun _=>?_
 | ((repeat refine si ?_); (first | ((first | refine .inl ⟨_,_,_,_,rfl,fun _=>pu hw,?_⟩ | refine ⟨_,_,_,_,rfl,fun _=>pu hw,?_⟩); (first | refine o1 ?_ | refine o2 ?_ | refine o3 ?_ | refine o4 ?_)) | refine .inl ⟨_,_,_,_,rfl,pu hw,?_⟩))
 | refine cF ?_
 | refine om ?_
 | refine an ?_
 | fail) <;> try simp only [zN, zT, zV, zS, zU, vcC, lateX, ex, strp, binA, elems, cells, scalar, eqC, keyA, intsA, lookA, ofVs, mpOf, Nat.reduceBEq, reduceAdd, reduceSub, reduceLT, reduceLeDiff, reduceMul, reduceEqDiff, reduceIte, hC, hD, hVl, r1, r2, List.length_map, List.length_set]))
            all_goals try (exfalso; omega)
            exact ⟨⟨i+1,by omega,by omega⟩,by simp,by rw [hF],by simp only; omega⟩
        · obtain rfl:j=a:=by omega
          have hF:=hfin j hj hji (fun t k1 k2=>by rw [← hEg t k2]; exact hI t k1 k2) (fun h=>absurd h hja)
          have r2:((insAt E j x).map Fld.cs).getD ((j:Int) - 1).toNat []=[]∨∃ y:Fld,((insAt E j x).map Fld.cs).getD ((j:Int) - 1).toNat []=y.cs:=by
            exact .inr ⟨_,row fz0 (by omega)⟩
          obtain ⟨y,r2⟩:∃ y:Fld,((insAt E j x).map Fld.cs).getD ((j:Int) - 1).toNat []=y.cs:=⟨_,row fz0 (by omega)⟩
          have hw:=week1_spec x y
          (repeat' ((first
 | refine vn rfl ?_
 | simp (disch:=omega) only [wr64,Int.zero_sub]
 | refine bo (fun _=>?_) fun _=>?_
 | refine im fun _=>?_
 | ((repeat refine si ?_); (first | ((first | refine .inl ⟨_,_,_,_,rfl,fun _=>pu hw,?_⟩ | refine ⟨_,_,_,_,rfl,fun _=>pu hw,?_⟩); (first | refine o1 ?_ | refine o2 ?_ | refine o3 ?_ | refine o4 ?_)) | refine .inl ⟨_,_,_,_,rfl,pu hw,?_⟩))
 | refine cF ?_
 | refine om ?_
 | refine an ?_
 | fail) <;> try simp only [zN, zT, zV, zS, zU, vcC, lateX, ex, strp, binA, elems, cells, scalar, eqC, keyA, intsA, lookA, ofVs, mpOf, Nat.reduceBEq, reduceAdd, reduceSub, reduceLT, reduceLeDiff, reduceMul, reduceEqDiff, reduceIte, hC, hD, hVl, r1, r2, List.length_map, List.length_set]))
          all_goals try (exfalso; omega)
          exact ⟨⟨i+1,by omega,by omega⟩,by simp,by rw [hF],by simp only; omega⟩
    · obtain rfl:i=b:=by omega
      ((refine Au ?_;repeat' first|exact True.intro|refine Cj.mk ?_ ?_)<;>intros<;>refine hD_ ?_)
      all_goals try (exfalso; omega)
def c214:CF:=⟨220,(.seq (jo [jm 25 2,jm 26 1,jt .sub 27 25 26,ju .eql 28 27 1] [0,1,2,3,4,28]
 (.cond (.t 28) (jo [jm 29 2,jm 10 29] [0,1,3,4,10]
 (jo [jm 30 3,jm 11 30] [0,1,4,10,11]
 (.seq (.block 0 (.loop (.seq (jo [jm 31 10,jm 32 11,jt .lss 33 31 32] [0,1,4,10,11,33]
 (.cond (.t 33) .skip
 (.exit 0)))
 (.block 1 (jo [jm 34 10,jm 35 11,jt .add 36 34 35,jw 37 (.cnv .u64 (.t 36)),jw 38 (.bin .shr (.t 37) (.c (.int .u64 1))),jw 39 (.cnv .i64 (.t 38)),jm 12 39] [0,1,4,10,11,12]
 (.seq (.draw [jm 40 4,jm 41 0,jm 42 12,ji 43 24 41 42,jk 44 24 43,jm 45 0,jm 46 1,ji 47 24 45 46,jk 48 24 47] [jw 49 (.call (.t 40) [(.t 44),(.t 48)]),ju .lss 50 49 0] [0,1,4,10,11,12,50])
 (.cond (.t 50) (.ops [jm 51 12,ju .add 52 51 1,jm 10 52] [0,1,4,10,11])
 (.ops [jm 53 12,jm 11 53] [0,1,4,10,11]))))))))
 (.seq (jo [jm 54 1,jm 13 54] [0,10,13]
 (.block 2 (.loop (.seq (jo [jm 55 13,jm 56 10,ju .sub 57 56 1,jt .lss 58 55 57] [0,10,13,58]
 (.cond (.t 58) .skip
 (.exit 2)))
 (.seq (.block 3 (.draww [0,1,2,3,4,5,6,7,8,9,10,11,12,13,14,15,16,17] [2,3,4] 1 [jm 61 0,jm 62 13,jm 63 0,jm 64 13,ju .add 65 64 1,jm 66 0,jm 67 13,ju .add 68 67 1,ji 69 24 66 68,jk 70 24 69,jm 71 0,jm 72 13,ji 73 24 71 72,jk 74 24 73,ji 75 24 61 62] [js 24 75 70,ji 76 24 63 65,js 24 76 74] [0,10,13]))
 (.ops [jm 59 13,ju .add 60 59 1,jm 13 60] [0,10,13]))))))
 .ret))))
 .skip))
 (.seq (jo [jm 77 3,jm 78 2,jt .sub 79 77 78,ju .eql 80 79 1] [0,1,2,3,4,80]
 (.cond (.t 80) (jo [jm 81 1,jm 14 81] [0,2,4,14]
 (jo [jm 82 2,jm 15 82] [0,2,4,14,15]
 (.seq (.block 4 (.loop (.seq (jo [jm 83 14,jm 84 15,jt .lss 85 83 84] [0,2,4,14,15,85]
 (.cond (.t 85) .skip
 (.exit 4)))
 (.block 5 (jo [jm 86 14,jm 87 15,jt .add 88 86 87,jw 89 (.cnv .u64 (.t 88)),jw 90 (.bin .shr (.t 89) (.c (.int .u64 1))),jw 91 (.cnv .i64 (.t 90)),jm 16 91] [0,2,4,14,15,16]
 (.seq (.draw [jm 92 4,jm 93 0,jm 94 2,ji 95 24 93 94,jk 96 24 95,jm 97 0,jm 98 16,ji 99 24 97 98,jk 100 24 99] [jw 101 (.call (.t 92) [(.t 96),(.t 100)]),ju .lss 102 101 0,jv 103 102] [0,2,4,14,15,16,103])
 (.cond (.t 103) (.ops [jm 104 16,ju .add 105 104 1,jm 14 105] [0,2,4,14,15])
 (.ops [jm 106 16,jm 15 106] [0,2,4,14,15]))))))))
 (.seq (jo [jm 107 2,jm 17 107] [0,14,17]
 (.block 6 (.loop (.seq (jo [jm 108 17,jm 109 14,jt .gtr 110 108 109] [0,14,17,110]
 (.cond (.t 110) .skip
 (.exit 6)))
 (.seq (.block 7 (.draww [0,1,2,3,4,5,6,7,8,9,10,11,12,13,14,15,16,17] [2,3,4] 1 [jm 113 0,jm 114 17,jm 115 0,jm 116 17,ju .sub 117 116 1,jm 118 0,jm 119 17,ju .sub 120 119 1,ji 121 24 118 120,jk 122 24 121,jm 123 0,jm 124 17,ji 125 24 123 124,jk 126 24 125,ji 127 24 113 114] [js 24 127 122,ji 128 24 115 117,js 24 128 126] [0,14,17]))
 (.ops [jm 111 17,ju .sub 112 111 1,jm 17 112] [0,14,17]))))))
 .ret))))
 .skip))
 (jo [jm 129 1,jm 130 3,jt .add 131 129 130,jw 132 (.cnv .u64 (.t 131)),jw 133 (.bin .shr (.t 132) (.c (.int .u64 1))),jw 134 (.cnv .i64 (.t 133)),jm 18 134] [0,1,2,3,4,18]
 (jo [jm 135 18,jm 136 2,jt .add 137 135 136,jm 19 137] [0,1,2,3,4,18,19]
 (jo [jc 20 0,jc 21 0] [0,1,2,3,4,18,19]
 (.seq (jo [jm 138 2,jm 139 18,jt .gtr 140 138 139] [0,1,2,3,4,18,19,140]
 (.cond (.t 140) (jo [jm 141 19,jm 142 3,jt .sub 143 141 142,jm 20 143] [0,1,2,3,4,18,19,20]
 (.ops [jm 144 18,jm 21 144] [0,1,2,3,4,18,19,20,21]))
 (jo [jm 145 1,jm 20 145] [0,1,2,3,4,18,19,20]
 (.ops [jm 146 2,jm 21 146] [0,1,2,3,4,18,19,20,21]))))
 (jo [jm 147 19,ju .sub 148 147 1,jm 22 148] [0,1,2,3,4,18,19,20,21,22]
 (.seq (.block 8 (.loop (.seq (jo [jm 149 20,jm 150 21,jt .lss 151 149 150] [0,1,2,3,4,18,19,20,21,22,151]
 (.cond (.t 151) .skip
 (.exit 8)))
 (.block 9 (jo [jm 152 20,jm 153 21,jt .add 154 152 153,jw 155 (.cnv .u64 (.t 154)),jw 156 (.bin .shr (.t 155) (.c (.int .u64 1))),jw 157 (.cnv .i64 (.t 156)),jm 23 157] [0,1,2,3,4,18,19,20,21,22,23]
 (.seq (.draw [jm 158 4,jm 159 0,jm 160 22,jm 161 23,jt .sub 162 160 161,ji 163 24 159 162,jk 164 24 163,jm 165 0,jm 166 23,ji 167 24 165 166,jk 168 24 167] [jw 169 (.call (.t 158) [(.t 164),(.t 168)]),ju .lss 170 169 0,jv 171 170] [0,1,2,3,4,18,19,20,21,22,23,171])
 (.cond (.t 171) (.ops [jm 172 23,ju .add 173 172 1,jm 20 173] [0,1,2,3,4,18,19,20,21,22])
 (.ops [jm 174 23,jm 21 174] [0,1,2,3,4,18,19,20,21,22]))))))))
 (jo [jm 175 19,jm 176 20,jt .sub 177 175 176,jm 24 177] [0,1,2,3,4,18,20,24]
 (.seq (jo [jm 178 20,jm 179 2,jt .lss 180 178 179,jm 181 180,ja 181 (jm 182 2),ja 181 (jm 183 24),ja 181 (jt .lss 184 182 183),jp 185 181 184] [0,1,2,3,4,18,20,24,185]
 (.cond (.t 185) (.ops [jm 186 0,jm 187 20,jm 188 2,jm 189 24,jm 190 4,jy 191 238 [186,187,188,189,190]] [0,1,3,4,18,20,24])
 .skip))
 (.seq (jo [jm 192 1,jm 193 20,jt .lss 194 192 193,jm 195 194,ja 195 (jm 196 20),ja 195 (jm 197 18),ja 195 (jt .lss 198 196 197),jp 199 195 198] [0,1,3,4,18,20,24,199]
 (.cond (.t 199) (.ops [jm 200 0,jm 201 1,jm 202 20,jm 203 18,jm 204 4,jy 205 214 [200,201,202,203,204]] [0,3,4,18,24])
 .skip))
 (jo [jm 206 18,jm 207 24,jt .lss 208 206 207,jm 209 208,ja 209 (jm 210 24),ja 209 (jm 211 3),ja 209 (jt .lss 212 210 211),jp 213 209 212] [0,3,4,18,24,213]
 (.cond (.t 213) (.ops [jm 214 0,jm 215 18,jm 216 24,jm 217 3,jm 218 4,jy 219 214 [214,215,216,217,218]] [])
 .skip))))))))))))),[]⟩
theorem k214:chkF Tryz.prog Tryz.f214 c214=true:=by kernel_rfl
theorem mid2 (x y:Nat) (h:x+y < 4398046511104):IntKind.wrap .i64 (Int.fdiv (IntKind.wrap .u64 ((x:Int)+(y:Int))) (2 ^ min (Int.toNat 1) (IntKind.bits .u64)))=(((x+y) / 2:Nat):Int):=by
  have h1:IntKind.wrap .u64 ((x:Int)+(y:Int))=(x:Int)+(y:Int):=by
    rw [IntKind.wrap_u64]; omega
  rw [h1]
  have h2:Int.fdiv ((x:Int)+(y:Int)) (2 ^ min (Int.toNat 1) (IntKind.bits .u64))=(((x+y) / 2:Nat):Int):=by
    show Int.fdiv _ (2 ^ min 1 64)=_
    rw [Int.fdiv_eq_ediv_of_nonneg _ (by decide)]
    show ((x:Int)+(y:Int)) / 2=_
    omega
  rw [h2]
  exact wr64 _ (by omega) (by omega)
inductive SymI (m:Env) (S:Sto) (Q:Nat→Nat→Prop) (env:Env):Sto→Prop
  | mk (s r:Nat) (hq:Q s r) (h:Sub ((20,n s)::(21,n r)::m) env):SymI m S Q env S
inductive SymT (m:Env) (S:Sto) (env:Env):Sto→Prop
  | mk (h:Sub m env):SymT m S env S
theorem symMerge_does (M:Nat):∀ (σ:Sto) (f N:Nat) (l:List Fld) (a m b:Nat),b - a≤M→σ.at f 0=some (obF l)→l.length=N→a < m→m < b→b≤N→N < 1099511627776→KSrt Fld.stn (seg l a m)→KSrt Fld.stn (seg l m b) →
    Does Tryz.prog 214 [.own f 0 N,n a,n m,n b,wkC] σ (fun _ σ'=>σ'=σ.upd f 0 (obF (stS Fld.stn l a b))):=by
  induction M with
  | zero=>intro σ f N l a m b h0 _ _ h1 h2; omega
  | succ M ih =>
    intro σ f N l a m b h0 hf hn h1 h2 h3 hl hX hY
    refine Does.of_body Tryz.call214 Tryz.func214 k214 (Nat.le_of_ble_eq_true rfl) ?_
    unfold c214
    have hC:∀ o,Sto.at (σ.upd f 0 o) f 0=some o:=fun o=>at_upd_same hf
    have hD:∀ o o',(σ.upd f 0 o).upd f 0 o'=σ.upd f 0 o':=fun o o'=>upd_upd hf
    by_cases hA:m=a+1
    · subst hA
      obtain ⟨v,hv⟩:∃ v,v=l.getD a fz0:=⟨_,rfl⟩
      have r2:(l.map Fld.cs).getD a []=Fld.cs v:=by rw [hv]; exact row fz0 (by omega)
      have hfin:∀ i,a+1≤i→i≤b→(∀ t,a+1≤t→t < i→(l.getD t fz0).stn < v.stn)→(∀ t,i≤t→t < b→v.stn≤(l.getD t fz0).stn)→insAt (l.eraseIdx a) (i - 1) v=stS Fld.stn l a b:=fun i k1 k2 k3 k4=>by
        rw [hv]; rw [hv] at k3 k4
        exact stS_one1 fz0 k1 k2 (by omega) hY k3 k4
      have hE0:=erase_ins (l:=l) (a:=a) (by omega) fz0
      have hEl:(l.eraseIdx a).length=N - 1:=by rw [List.length_eraseIdx_of_lt (by omega),hn]
      rw [← hv] at hE0
      ((refine Ax @hf ?_;repeat' first|exact True.intro|refine Cj.mk ?_ ?_)<;>intros<;>refine hD_ ?_)
      all_goals try (exfalso; omega)
      refine AWPC.loopS (α:={ x:Nat × Nat // a+1≤x.1∧x.1≤x.2∧x.2≤b∧(∀ t,a+1≤t→t < x.1→(l.getD t fz0).stn < v.stn)∧∀ t,x.2≤t→t < b→v.stn≤(l.getD t fz0).stn }) [10,11] (fun x=>[(10,n x.1.1),(11,n x.1.2)]) (fun x=>x.1.2 - x.1.1) ⟨(a+1,b),Nat.le_refl _,by dsimp only; omega,Nat.le_refl _,fun t k1 k2=>by dsimp only at k2; omega,fun t k1 k2=>by dsimp only at k1; omega⟩ ?_ ?_
      · (simp only [zN,zT,zV,zS,zU,vcC,lateX,ex,strp,binA,elems,cells,scalar,eqC,keyA,intsA,lookA,ofVs,mpOf,Nat.reduceBEq,reduceAdd,reduceSub,reduceLT,reduceLeDiff,reduceMul,reduceEqDiff,reduceIte]; try simp)
      · rintro ⟨⟨i,j⟩,hi,hij,hj,hL,hR⟩
        simp only at hi hij hj hL hR
        by_cases hlt:i < j
        · have hm:=mid2 i j (by omega)
          obtain ⟨h,hh⟩:∃ h,h=(i+j) / 2:=⟨_,rfl⟩
          rw [← hh] at hm
          have g1:i≤h:=by omega
          have g2:h < j:=by omega
          clear hh
          have r1:(l.map Fld.cs).getD h []=Fld.cs (l.getD h fz0):=row fz0 (by omega)
          have hw:=week1_spec (l.getD h fz0) v
          by_cases hc:(l.getD h fz0).stn < v.stn
          · have hs:=sgn_lt.2 hc
            have hL':∀ t,a+1≤t→t < h+1→(l.getD t fz0).stn < v.stn:=fun t k1 k2=>Int.lt_of_le_of_lt (seg_le hY (by omega) k1 (show t≤h by omega) (by omega)) hc
            clear hv hE0 hfin
            generalize l.getD h fz0=u at r1 hw hc hs
            ((refine Az (And.intro @hf (And.intro @hm (And.intro @r1 (And.intro @r2 @hn)))) @hw ?_;repeat' first|exact True.intro|refine Cj.mk ?_ ?_)<;>intros<;>refine hD_ ?_)
            all_goals try (exfalso; omega)
            exact ⟨⟨(h+1,j),by dsimp only; omega,by dsimp only; omega,hj,hL',hR⟩,by simp,by simp only; omega⟩
          · have hs:¬ sgn (l.getD h fz0).stn v.stn < 0:=fun h=>hc (sgn_lt.1 h)
            have hR':∀ t,h≤t→t < b→v.stn≤(l.getD t fz0).stn:=fun t k1 k2=>Int.le_trans (by omega) (seg_le (d:=fz0) hY (by omega) (show a+1≤h by omega) k1 (by omega))
            clear hv hE0 hfin
            generalize l.getD h fz0=u at r1 hw hc hs
            ((refine Az (And.intro @hf (And.intro @hm (And.intro @r1 (And.intro @r2 @hn)))) @hw ?_;repeat' first|exact True.intro|refine Cj.mk ?_ ?_)<;>intros<;>refine hD_ ?_)
            all_goals try (exfalso; omega)
            exact ⟨⟨(i,h),hi,by dsimp only; omega,by dsimp only; omega,hL,hR'⟩,by simp,by simp only; omega⟩
        · obtain rfl:i=j:=by omega
          have hF:=hfin i hi hj hL hR
          clear hfin hv
          generalize l.eraseIdx a=E at hE0 hEl hF
          ((refine Ax @hf ?_;repeat' first|exact True.intro|refine Cj.mk ?_ ?_)<;>intros<;>refine hD_ ?_)
          all_goals try (exfalso; omega)
          refine AWPC.loopE (α:={ k:Nat // a≤k∧k≤i - 1 }) [13] (fun k=>[(13,n k.1)]) (fun k=>σ.upd f 0 (obF (insAt E k.1 v))) (fun k=>i - k.1) ⟨a,by omega,by omega⟩ ?_ (by simp only; rw [hE0,upd_self hf]) ?_
          · (simp only [zN,zT,zV,zS,zU,vcC,lateX,ex,strp,binA,elems,cells,scalar,eqC,keyA,intsA,lookA,ofVs,mpOf,Nat.reduceBEq,reduceAdd,reduceSub,reduceLT,reduceLeDiff,reduceMul,reduceEqDiff,reduceIte]; try simp)
          · rintro ⟨k,hk,hki⟩
            simp only at hk hki ⊢
            by_cases hlt:k < i - 1
            · have hN:=insAt_up E (k:=k) (by omega) v (E.getD k fz0) (getD_lt fz0 (by omega))
              have hVl:(insAt E k v).length=N:=by rw [insAt_len,hEl]; omega
              have q1:((insAt E k v).map Fld.cs).getD k []=Fld.cs v:=by rw [row fz0 (by omega),insAt_selfD E (by omega)]
              have q2:((insAt E k v).map Fld.cs).getD ((k:Int)+1).toNat []=Fld.cs (E.getD k fz0):=by rw [show ((k:Int)+1).toNat=k+1 by omega,row fz0 (by omega),insAt_gtD E (Nat.le_refl _) (by omega)]
              have e3:∀ w:Fld,(((insAt E k v).map Fld.cs).set k w.cs).set ((k:Int)+1).toNat v.cs=(((insAt E k v).set k w).set (k+1) v).map Fld.cs:=fun w=>by
                rw [show ((k:Int)+1).toNat=k+1 by omega,List.map_set,List.map_set]
              have e3:=e3 (E.getD k fz0)
              rw [hN] at e3
              have e4:List.drop 24 ((((insAt E k v).map Fld.cs).set k (E.getD k fz0).cs).getD ((k:Int)+1).toNat [])=[]:=row24 _ _ _ _
              clear hN
              generalize E.getD k fz0=w at q2 e3 e4
              (repeat' ((first
 | refine vn rfl ?_
 | simp (disch:=omega) only [wr64,Int.zero_sub]
 | refine bo (fun _=>?_) fun _=>?_
 | refine im fun _=>?_
 | refine cF ?_
 | refine om ?_
 | refine an ?_
 | fail) <;> try simp only [zN, zT, zV, zS, zU, vcC, lateX, ex, strp, binA, elems, cells, scalar, eqC, keyA, intsA, lookA, ofVs, mpOf, Nat.reduceBEq, reduceAdd, reduceSub, reduceLT, reduceLeDiff, reduceMul, reduceEqDiff, reduceIte, hC, hD, hVl, q1, q2, e4, List.length_map, List.length_set]))
              all_goals try (exfalso; omega)
              exact ⟨⟨k+1,by omega,by omega⟩,by simp,by rw [e3],by simp only; omega⟩
            · obtain rfl:k=i - 1:=by omega
              rw [hF]
              ((refine Au ?_;repeat' first|exact True.intro|refine Cj.mk ?_ ?_)<;>intros<;>refine hD_ ?_)
              all_goals try (exfalso; omega)
    · by_cases hB:b=m+1
      · subst hB
        obtain ⟨v,hv⟩:∃ v,v=l.getD m fz0:=⟨_,rfl⟩
        have r2:(l.map Fld.cs).getD m []=Fld.cs v:=by rw [hv]; exact row fz0 (by omega)
        have hfin:∀ i,a≤i→i≤m→(∀ t,a≤t→t < i→(l.getD t fz0).stn≤v.stn)→(∀ t,i≤t→t < m→v.stn < (l.getD t fz0).stn)→insAt (l.eraseIdx m) i v=stS Fld.stn l a (m+1):=fun i k1 k2 k3 k4=>by
          rw [hv]; rw [hv] at k3 k4
          exact stS_one2 fz0 k1 k2 (by omega) hX k3 k4
        have hE0:=erase_ins (l:=l) (a:=m) (by omega) fz0
        have hEl:(l.eraseIdx m).length=N - 1:=by rw [List.length_eraseIdx_of_lt (by omega),hn]
        rw [← hv] at hE0
        ((refine Ax @hf ?_;repeat' first|exact True.intro|refine Cj.mk ?_ ?_)<;>intros<;>refine hD_ ?_)
        all_goals try (exfalso; omega)
        refine AWPC.loopS (α:={ x:Nat × Nat // a≤x.1∧x.1≤x.2∧x.2≤m∧(∀ t,a≤t→t < x.1→(l.getD t fz0).stn≤v.stn)∧∀ t,x.2≤t→t < m→v.stn < (l.getD t fz0).stn }) [14,15] (fun x=>[(14,n x.1.1),(15,n x.1.2)]) (fun x=>x.1.2 - x.1.1) ⟨(a,m),Nat.le_refl _,by dsimp only; omega,Nat.le_refl _,fun t k1 k2=>by dsimp only at k2; omega,fun t k1 k2=>by dsimp only at k1; omega⟩ ?_ ?_
        · (simp only [zN,zT,zV,zS,zU,vcC,lateX,ex,strp,binA,elems,cells,scalar,eqC,keyA,intsA,lookA,ofVs,mpOf,Nat.reduceBEq,reduceAdd,reduceSub,reduceLT,reduceLeDiff,reduceMul,reduceEqDiff,reduceIte]; try simp)
        · rintro ⟨⟨i,j⟩,hi,hij,hj,hL,hR⟩
          simp only at hi hij hj hL hR
          by_cases hlt:i < j
          · have hm:=mid2 i j (by omega)
            obtain ⟨h,hh⟩:∃ h,h=(i+j) / 2:=⟨_,rfl⟩
            rw [← hh] at hm
            have g1:i≤h:=by omega
            have g2:h < j:=by omega
            clear hh
            have r1:(l.map Fld.cs).getD h []=Fld.cs (l.getD h fz0):=row fz0 (by omega)
            have hw:=week1_spec v (l.getD h fz0)
            by_cases hc:v.stn < (l.getD h fz0).stn
            · have hs:=sgn_lt.2 hc
              have hR':∀ t,h≤t→t < m→v.stn < (l.getD t fz0).stn:=fun t k1 k2=>Int.lt_of_lt_of_le hc (seg_le (d:=fz0) hX (by omega) (show a≤h by omega) k1 (by omega))
              clear hv hE0 hfin
              generalize l.getD h fz0=u at r1 hw hc hs
              ((refine Az (And.intro @hf (And.intro @hm (And.intro @r1 (And.intro @r2 @hn)))) @hw ?_;repeat' first|exact True.intro|refine Cj.mk ?_ ?_)<;>intros<;>refine hD_ ?_)
              all_goals try (exfalso; omega)
              exact ⟨⟨(i,h),hi,by dsimp only; omega,by dsimp only; omega,hL,hR'⟩,by simp,by simp only; omega⟩
            · have hs:¬ sgn v.stn (l.getD h fz0).stn < 0:=fun h=>hc (sgn_lt.1 h)
              have hL':∀ t,a≤t→t < h+1→(l.getD t fz0).stn≤v.stn:=fun t k1 k2=>Int.le_trans (seg_le hX (by omega) k1 (show t≤h by omega) (by omega)) (by omega)
              clear hv hE0 hfin
              generalize l.getD h fz0=u at r1 hw hc hs
              ((refine Az (And.intro @hf (And.intro @hm (And.intro @r1 (And.intro @r2 @hn)))) @hw ?_;repeat' first|exact True.intro|refine Cj.mk ?_ ?_)<;>intros<;>refine hD_ ?_)
              all_goals try (exfalso; omega)
              exact ⟨⟨(h+1,j),by dsimp only; omega,by dsimp only; omega,hj,hL',hR⟩,by simp,by simp only; omega⟩
          · obtain rfl:i=j:=by omega
            have hF:=hfin i hi hj hL hR
            clear hfin hv
            generalize l.eraseIdx m=E at hE0 hEl hF
            ((refine Ax @hf ?_;repeat' first|exact True.intro|refine Cj.mk ?_ ?_)<;>intros<;>refine hD_ ?_)
            all_goals try (exfalso; omega)
            refine AWPC.loopE (α:={ k:Nat // i≤k∧k≤m }) [17] (fun k=>[(17,n k.1)]) (fun k=>σ.upd f 0 (obF (insAt E k.1 v))) (fun k=>k.1) ⟨m,by omega,by omega⟩ ?_ (by simp only; rw [hE0,upd_self hf]) ?_
            · (simp only [zN,zT,zV,zS,zU,vcC,lateX,ex,strp,binA,elems,cells,scalar,eqC,keyA,intsA,lookA,ofVs,mpOf,Nat.reduceBEq,reduceAdd,reduceSub,reduceLT,reduceLeDiff,reduceMul,reduceEqDiff,reduceIte]; try simp)
            · rintro ⟨k,hk,hkm⟩
              simp only at hk hkm ⊢
              by_cases hlt:i < k
              · have hN:=insAt_down E (k:=k - 1) (by omega) v (E.getD (k - 1) fz0) (getD_lt fz0 (by omega))
                rw [show k - 1+1=k by omega] at hN
                have hVl:(insAt E k v).length=N:=by rw [insAt_len,hEl]; omega
                have q1:((insAt E k v).map Fld.cs).getD k []=Fld.cs v:=by rw [row fz0 (by omega),insAt_selfD E (by omega)]
                have q2:((insAt E k v).map Fld.cs).getD ((k:Int) - 1).toNat []=Fld.cs (E.getD (k - 1) fz0):=by rw [show ((k:Int) - 1).toNat=k - 1 by omega,row fz0 (by omega),insAt_ltD E (by omega) (by omega)]
                have e3:∀ w:Fld,(((insAt E k v).map Fld.cs).set k w.cs).set ((k:Int) - 1).toNat v.cs=(((insAt E k v).set k w).set (k - 1) v).map Fld.cs:=fun w=>by
                  rw [show ((k:Int) - 1).toNat=k - 1 by omega,List.map_set,List.map_set]
                have e3:=e3 (E.getD (k - 1) fz0)
                rw [hN] at e3
                have e4:List.drop 24 ((((insAt E k v).map Fld.cs).set k (E.getD (k - 1) fz0).cs).getD ((k:Int) - 1).toNat [])=[]:=row24 _ _ _ _
                clear hN
                generalize E.getD (k - 1) fz0=w at q2 e3 e4
                (repeat' ((first
 | refine vn rfl ?_
 | simp (disch:=omega) only [wr64,Int.zero_sub]
 | refine bo (fun _=>?_) fun _=>?_
 | refine im fun _=>?_
 | refine cF ?_
 | refine om ?_
 | refine an ?_
 | fail) <;> try simp only [zN, zT, zV, zS, zU, vcC, lateX, ex, strp, binA, elems, cells, scalar, eqC, keyA, intsA, lookA, ofVs, mpOf, Nat.reduceBEq, reduceAdd, reduceSub, reduceLT, reduceLeDiff, reduceMul, reduceEqDiff, reduceIte, hC, hD, hVl, q1, q2, e4, List.length_map, List.length_set]))
                all_goals try (exfalso; omega)
                exact ⟨⟨k - 1,by omega,by omega⟩,by simp; omega,by rw [e3],by simp only; omega⟩
              · obtain rfl:k=i:=by omega
                rw [hF]
                ((refine Au ?_;repeat' first|exact True.intro|refine Cj.mk ?_ ?_)<;>intros<;>refine hD_ ?_)
                all_goals try (exfalso; omega)
      · have hm:=mid2 a b (by omega)
        obtain ⟨mid,hmid⟩:∃ mid,mid=(a+b) / 2:=⟨_,rfl⟩
        rw [← hmid] at hm
        have m1:2 * mid≤a+b:=by omega
        have m2:a+b≤2 * mid+1:=by omega
        clear hmid
        iterate 15
          ((first
 | refine vn rfl ?_
 | simp (disch:=omega) only [wr64,Int.zero_sub]
 | refine bo (fun _=>?_) fun _=>?_
 | refine im fun _=>?_
 | refine cF ?_
 | refine om ?_
 | refine an ?_
 | fail) <;> try simp only [zN, zT, zV, zS, zU, vcC, lateX, ex, strp, binA, elems, cells, scalar, eqC, keyA, intsA, lookA, ofVs, mpOf, Nat.reduceBEq, reduceAdd, reduceSub, reduceLT, reduceLeDiff, reduceMul, reduceEqDiff, reduceIte, hm])
          all_goals try (exfalso; omega)
        refine AWPC.cut (SymI [(0,.own f 0 N),(1,n a),(2,n m),(3,n b),(4,wkC),(18,n mid),(19,n ((mid:Int)+(m:Int)))] σ (fun s r=>a≤s∧s≤r∧r≤mid∧r≤m∧mid+m≤b+s∧(r=mid∨r=m)∧(s=a∨mid+m=b+s))) ?_ ?_
        · by_cases hgt:mid < m
          · ((refine Au ?_;repeat' first|exact True.intro|refine Cj.mk ?_ ?_)<;>intros<;>refine hD_ ?_)
            all_goals try (exfalso; omega)
            refine .mk (mid+m - b) mid ⟨by omega,by omega,by omega,by omega,by omega,.inl rfl,.inr (by omega)⟩ ?_
            simp only [Sub_cons,SubT]; simp [gt]; omega
          · ((refine Au ?_;repeat' first|exact True.intro|refine Cj.mk ?_ ?_)<;>intros<;>refine hD_ ?_)
            all_goals try (exfalso; omega)
            refine .mk a m ⟨by omega,by omega,by omega,by omega,by omega,.inr rfl,.inl rfl⟩ ?_
            simp only [Sub_cons,SubT]; simp [gt]
        rintro env τ ⟨s0,r0,⟨q1,q2,q3,q4,q5,q6,q7⟩,hsub⟩
        refine AWPC.weaken hsub ?_
        clear hsub hm env
        ((refine Au ?_;repeat' first|exact True.intro|refine Cj.mk ?_ ?_)<;>intros<;>refine hD_ ?_)
        all_goals try (exfalso; omega)
        refine AWPC.loopS (α:={ x:Nat × Nat // s0≤x.1∧x.1≤x.2∧x.2≤r0∧(∀ c,s0≤c→c < x.1→(l.getD c fz0).stn≤(l.getD (mid+m - 1 - c) fz0).stn)∧∀ c,x.2≤c→c < r0→(l.getD (mid+m - 1 - c) fz0).stn < (l.getD c fz0).stn }) [20,21] (fun x=>[(20,n x.1.1),(21,n x.1.2)]) (fun x=>x.1.2 - x.1.1) ⟨(s0,r0),Nat.le_refl _,q2,Nat.le_refl _,fun t k1 k2=>by dsimp only at k2; omega,fun t k1 k2=>by dsimp only at k1; omega⟩ ?_ ?_
        · (simp only [zN,zT,zV,zS,zU,vcC,lateX,ex,strp,binA,elems,cells,scalar,eqC,keyA,intsA,lookA,ofVs,mpOf,Nat.reduceBEq,reduceAdd,reduceSub,reduceLT,reduceLeDiff,reduceMul,reduceEqDiff,reduceIte]; try simp)
        · rintro ⟨⟨i,j⟩,hi,hij,hj,hL,hR⟩
          simp only at hi hij hj hL hR
          by_cases hlt:i < j
          · have hm:=mid2 i j (by omega)
            obtain ⟨c,hh⟩:∃ c,c=(i+j) / 2:=⟨_,rfl⟩
            rw [← hh] at hm
            have g1:i≤c:=by omega
            have g2:c < j:=by omega
            clear hh
            have r1:(l.map Fld.cs).getD c []=Fld.cs (l.getD c fz0):=row fz0 (by omega)
            have r2:(l.map Fld.cs).getD ((mid:Int)+(m:Int) - 1 - (c:Int)).toNat []=Fld.cs (l.getD (mid+m - 1 - c) fz0):=by rw [show ((mid:Int)+(m:Int) - 1 - (c:Int)).toNat=mid+m - 1 - c by omega]; exact row fz0 (by omega)
            have hw:=week1_spec (l.getD (mid+m - 1 - c) fz0) (l.getD c fz0)
            by_cases hc:(l.getD (mid+m - 1 - c) fz0).stn < (l.getD c fz0).stn
            · have hs:=sgn_lt.2 hc
              have hR':∀ t,c≤t→t < r0→(l.getD (mid+m - 1 - t) fz0).stn < (l.getD t fz0).stn:=fun t k1 k2=>by
                have e1:=seg_le (d:=fz0) hX (by omega) (show a≤c by omega) k1 (by omega)
                have e2:=seg_le (d:=fz0) hY (by omega) (show m≤mid+m - 1 - t by omega) (show mid+m - 1 - t≤mid+m - 1 - c by omega) (by omega)
                omega
              generalize l.getD c fz0=u at r1 hw hc hs
              generalize l.getD (mid+m - 1 - c) fz0=v at r2 hw hc hs
              ((refine Az (And.intro @hf (And.intro @hm (And.intro @r1 (And.intro @r2 @hn)))) @hw ?_;repeat' first|exact True.intro|refine Cj.mk ?_ ?_)<;>intros<;>refine hD_ ?_)
              all_goals try (exfalso; omega)
              exact ⟨⟨(i,c),hi,by dsimp only; omega,by dsimp only; omega,hL,hR'⟩,by simp,by simp only; omega⟩
            · have hs:¬ sgn (l.getD (mid+m - 1 - c) fz0).stn (l.getD c fz0).stn < 0:=fun h=>hc (sgn_lt.1 h)
              have hL':∀ t,s0≤t→t < c+1→(l.getD t fz0).stn≤(l.getD (mid+m - 1 - t) fz0).stn:=fun t k1 k2=>by
                have e1:=seg_le (d:=fz0) hX (by omega) (show a≤t by omega) (show t≤c by omega) (by omega)
                have e2:=seg_le (d:=fz0) hY (by omega) (show m≤mid+m - 1 - c by omega) (show mid+m - 1 - c≤mid+m - 1 - t by omega) (by omega)
                omega
              generalize l.getD c fz0=u at r1 hw hc hs
              generalize l.getD (mid+m - 1 - c) fz0=v at r2 hw hc hs
              ((refine Az (And.intro @hf (And.intro @hm (And.intro @r1 (And.intro @r2 @hn)))) @hw ?_;repeat' first|exact True.intro|refine Cj.mk ?_ ?_)<;>intros<;>refine hD_ ?_)
              all_goals try (exfalso; omega)
              exact ⟨⟨(c+1,j),by dsimp only; omega,by dsimp only; omega,hj,hL',hR⟩,by simp,by simp only; omega⟩
          · obtain rfl:i=j:=by omega
            obtain ⟨e,he⟩:∃ e,e=mid+m - i:=⟨_,rfl⟩
            have e1:m≤e:=by omega
            have e2:e≤b:=by omega
            have e3:(e:Int)=(mid:Int)+(m:Int) - (i:Int):=by omega
            obtain ⟨k1,k2,k3,k4,k5,k6,k7⟩:=stS_sym (key:=Fld.stn) (l:=l) (a:=a) (s:=i) (m:=m) (e:=e) (b:=b) (mid:=mid) fz0 (by omega) (by omega) e1 e2 (by omega) (by omega) hX hY
              (fun g1 g2=>by rw [show e - 1=mid+m - 1 - i by omega]; exact hR i (Nat.le_refl _) (by omega))
              (fun g1 g2=>by have:=hL (i - 1) (by omega) (by omega); rwa [show mid+m - 1 - (i - 1)=e by omega] at this)
            have hl1:(rot l i m e).length=N:=by rw [rot_len (by omega) e1 (by omega),hn]
            have hl2:(stS Fld.stn (rot l i m e) a mid).length=N:=by rw [stS_len (by omega) (by omega),hl1]
            have hro:i < m→m < e→_:=fun g1 g2=>rotate_does σ f N l i m e hf hn g1 g2 (by omega) hl
            rw [e3] at hro
            have hsm:i=m∨m=e→rot l i m e=l:=rot_same (by omega) e1 (by omega)
            generalize rot l i m e=l1 at k1 k2 k3 k4 k5 k6 k7 hl1 hl2 hro hsm
            have hi1:a < i→i < mid→_:=fun g1 g2=>ih (σ.upd f 0 (obF l1)) f N l1 a i mid (by omega) (hC _) hl1 g1 g2 (by omega) hl k1 k2
            generalize stS Fld.stn l1 a mid=l2 at k3 k4 k5 k6 k7 hl2 hi1
            have hi2:mid < e→e < b→_:=fun g1 g2=>ih (σ.upd f 0 (obF l2)) f N l2 mid e b (by omega) (hC _) hl2 g1 g2 h3 hl k4 k5
            simp only [hD,k6] at hi1 hi2 k7
            rw [e3] at hi2
            generalize stS Fld.stn l a b=l3 at hi2 k7
            clear hC hD ih hX hY k1 k2 k4 k5 k6 hl1 hl2
            iterate 4
              ((first
 | refine vn rfl ?_
 | simp (disch:=omega) only [wr64,Int.zero_sub]
 | refine bo (fun _=>?_) fun _=>?_
 | refine im fun _=>?_
 | refine cF ?_
 | refine om ?_
 | refine an ?_
 | fail) <;> try simp only [zN, zT, zV, zS, zU, vcC, lateX, ex, strp, binA, elems, cells, scalar, eqC, keyA, intsA, lookA, ofVs, mpOf, Nat.reduceBEq, reduceAdd, reduceSub, reduceLT, reduceLeDiff, reduceMul, reduceEqDiff, reduceIte])
            refine AWPC.cut (SymT [(0,.own f 0 N),(1,n a),(3,n b),(4,wkC),(18,n mid),(20,n i),(24,n ((mid:Int)+(m:Int) - (i:Int)))] (σ.upd f 0 (obF l1))) ?_ ?_
            · by_cases g:i < m∧m < e
              · have hro:=hro g.1 g.2
                ((refine Au ?_;repeat' first|exact True.intro|refine Cj.mk ?_ ?_)<;>intros<;>refine hD_ ?_)
                all_goals try (exfalso; omega)
                refine .inr (.inl ⟨_,_,_,_,rfl,fun _=>⟨hro,?_⟩,fun h=>by cases h⟩)
                rintro r σ' rfl
                refine owp_of_exs ?_
                simp only [zN,zT,zV,zS,zU,vcC,lateX,ex,strp,binA,elems,cells,scalar,eqC,keyA,intsA,lookA,ofVs,mpOf,Nat.reduceBEq,reduceAdd,reduceSub,reduceLT,reduceLeDiff,reduceMul,reduceEqDiff,reduceIte]
                exact .mk (by simp only [Sub_cons,SubT]; simp [gt])
              · rw [hsm (by omega),upd_self hf]
                clear hro hi1 hi2
                ((refine Au ?_;repeat' first|exact True.intro|refine Cj.mk ?_ ?_)<;>intros<;>refine hD_ ?_)
                all_goals try (exfalso; omega)
                exact .mk (by simp only [Sub_cons,SubT]; simp [gt])
            rintro env τ ⟨hsub⟩
            refine AWPC.weaken hsub ?_
            clear hsub hro hsm env
            refine AWPC.cut (SymT [(0,.own f 0 N),(3,n b),(4,wkC),(18,n mid),(24,n ((mid:Int)+(m:Int) - (i:Int)))] (σ.upd f 0 (obF l2))) ?_ ?_
            · by_cases g:a < i∧i < mid
              · have hi1:=hi1 g.1 g.2
                ((refine Au ?_;repeat' first|exact True.intro|refine Cj.mk ?_ ?_)<;>intros<;>refine hD_ ?_)
                all_goals try (exfalso; omega)
                refine .inr (.inl ⟨_,_,_,_,rfl,fun _=>⟨hi1,?_⟩,fun h=>by cases h⟩)
                rintro r σ' rfl
                refine owp_of_exs ?_
                simp only [zN,zT,zV,zS,zU,vcC,lateX,ex,strp,binA,elems,cells,scalar,eqC,keyA,intsA,lookA,ofVs,mpOf,Nat.reduceBEq,reduceAdd,reduceSub,reduceLT,reduceLeDiff,reduceMul,reduceEqDiff,reduceIte]
                exact .mk (by simp only [Sub_cons,SubT]; simp [gt])
              · rw [k3 (by omega)]
                clear hi1 hi2
                ((refine Au ?_;repeat' first|exact True.intro|refine Cj.mk ?_ ?_)<;>intros<;>refine hD_ ?_)
                all_goals try (exfalso; omega)
                exact .mk (by simp only [Sub_cons,SubT]; simp [gt])
            rintro env τ ⟨hsub⟩
            refine AWPC.weaken hsub ?_
            clear hsub hi1 k3 env
            by_cases g:mid < e∧e < b
            · have hi2:=hi2 g.1 g.2
              ((refine Au ?_;repeat' first|exact True.intro|refine Cj.mk ?_ ?_)<;>intros<;>refine hD_ ?_)
              all_goals try (exfalso; omega)
              refine .inr (.inl ⟨_,_,_,_,rfl,fun _=>⟨hi2,?_⟩,fun h=>by cases h⟩)
              rintro r σ' rfl
              refine owp_of_exs ?_
              simp only [zN,zT,zV,zS,zU,vcC,lateX,ex,strp,binA,elems,cells,scalar,eqC,keyA,intsA,lookA,ofVs,mpOf,Nat.reduceBEq,reduceAdd,reduceSub,reduceLT,reduceLeDiff,reduceMul,reduceEqDiff,reduceIte]
            · rw [k7 (by omega)]
              clear hi2
              ((refine Au ?_;repeat' first|exact True.intro|refine Cj.mk ?_ ?_)<;>intros<;>refine hD_ ?_)
              all_goals try (exfalso; omega)
theorem stable_does (σ:Sto) (f N:Nat) (l:List Fld) (hf:σ.at f 0=some (obF l)) (hn:l.length=N) (hl:N < 1099511627776) :
    Does Tryz.prog 167 [.own f 0 N,n N,wkC] σ (fun _ σ'=>σ'=σ.upd f 0 (obF (srtK Fld.stn l))):=by
  refine Does.of_body Tryz.call167 Tryz.func167 k167 (Nat.le_of_ble_eq_true rfl) ?_
  unfold c167
  have hC:∀ o,Sto.at (σ.upd f 0 o) f 0=some o:=fun o=>at_upd_same hf
  have hD:∀ o o',(σ.upd f 0 o).upd f 0 o'=σ.upd f 0 o':=fun o o'=>upd_upd hf
  have hins:∀ (W:List Fld) (a b:Nat),W.length=N→a≤b→b≤N→Does Tryz.prog 213 [.own f 0 N,n a,n b,wkC] (σ.upd f 0 (obF W)) (fun _ σ'=>σ'=σ.upd f 0 (obF (stS Fld.stn W a b))):=fun W a b h1 h2 h3=>by
    have:=insertion_does (σ.upd f 0 (obF W)) f N W a b (hC _) h1 h2 h3 hl
    simpa only [hD] using this
  have hmrg:∀ (W:List Fld) (a m b:Nat),W.length=N→a < m→m < b→b≤N→KSrt Fld.stn (seg W a m)→KSrt Fld.stn (seg W m b)→Does Tryz.prog 214 [.own f 0 N,n a,n m,n b,wkC] (σ.upd f 0 (obF W)) (fun _ σ'=>σ'=σ.upd f 0 (obF (stS Fld.stn W a b))):=fun W a m b h1 h2 h3 h4 h5 h6=>by
    have:=symMerge_does (b - a) (σ.upd f 0 (obF W)) f N W a m b (Nat.le_refl _) (hC _) h1 h2 h3 h4 hl h5 h6
    simpa only [hD] using this
  clear hC hD
  ((refine Au ?_;repeat' first|exact True.intro|refine Cj.mk ?_ ?_)<;>intros<;>refine hD_ ?_)
  refine AWPC.loopE (α:={ x:Nat × List Fld // BlkS Fld.stn l 20 x.1 x.2 }) [7,8] (fun x=>[(7,n x.1.1),(8,n ((x.1.1:Int)+20))]) (fun x=>σ.upd f 0 (obF x.1.2)) (fun x=>N - x.1.1) ⟨(0,l),BlkS.init l 20⟩ ?_ (by simp only; rw [upd_self hf]) ?_
  · (simp only [zN,zT,zV,zS,zU,vcC,lateX,ex,strp,binA,elems,cells,scalar,eqC,keyA,intsA,lookA,ofVs,mpOf,Nat.reduceBEq,reduceAdd,reduceSub,reduceLT,reduceLeDiff,reduceMul,reduceEqDiff,reduceIte]; try simp)
  · rintro ⟨⟨a,W⟩,hB⟩
    simp only at hB ⊢
    have hle:=hB.le
    have hWl:=hB.len.trans hn
    by_cases hlt:a+20≤N
    · have hc:=hins W a (a+20) hWl (by omega) hlt
      have hN:=hB.next (by decide) (by omega)
      rw [show ((a+20:Nat):Int)=(a:Int)+20 by omega] at hc
      ((refine Au ?_;repeat' first|exact True.intro|refine Cj.mk ?_ ?_)<;>intros<;>refine hD_ ?_)
      all_goals try (exfalso; omega)
      refine .inr (.inl ⟨_,_,_,_,rfl,fun _=>⟨hc,?_⟩,fun h=>by cases h⟩)
      rintro r σ' rfl
      refine owp_of_exs ?_
      simp only [zN,zT,zV,zS,zU,vcC,lateX,ex,strp,binA,elems,cells,scalar,eqC,keyA,intsA,lookA,ofVs,mpOf,Nat.reduceBEq,reduceAdd,reduceSub,reduceLT,reduceLeDiff,reduceMul,reduceEqDiff,reduceIte]
      ((refine Au ?_;repeat' first|exact True.intro|refine Cj.mk ?_ ?_)<;>intros<;>refine hD_ ?_)
      exact ⟨⟨(a+20,stS Fld.stn W a (a+20)),hN⟩,by simp,rfl,by simp only; omega⟩
    · have hc:=hins W a N hWl (by omega) (Nat.le_refl _)
      obtain ⟨w1,w2,w3⟩:=hB.fin (by decide) (by omega)
      rw [hn] at w1 w2 w3
      ((refine Au ?_;repeat' first|exact True.intro|refine Cj.mk ?_ ?_)<;>intros<;>refine hD_ ?_)
      all_goals try (exfalso; omega)
      refine .inr (.inl ⟨_,_,_,_,rfl,fun _=>⟨hc,?_⟩,fun h=>by cases h⟩)
      rintro r σ' rfl
      refine owp_of_exs ?_
      simp only [zN,zT,zV,zS,zU,vcC,lateX,ex,strp,binA,elems,cells,scalar,eqC,keyA,intsA,lookA,ofVs,mpOf,Nat.reduceBEq,reduceAdd,reduceSub,reduceLT,reduceLeDiff,reduceMul,reduceEqDiff,reduceIte]
      ((refine Au ?_;repeat' first|exact True.intro|refine Cj.mk ?_ ?_)<;>intros<;>refine hD_ ?_)
      refine AWPC.loopE (α:={ x:Nat × List Fld // 0 < x.1∧SBlk Fld.stn x.1 x.2∧StEq Fld.stn x.2 l∧x.2.length=N∧x.1 < 4398046511104 }) [6] (fun x=>[(6,n x.1.1)]) (fun x=>σ.upd f 0 (obF x.1.2)) (fun x=>N - x.1.1) ⟨(20,stS Fld.stn W a N),by dsimp only; omega,w1,w2,w3,by dsimp only; omega⟩ ?_ rfl ?_
      · (simp only [zN,zT,zV,zS,zU,vcC,lateX,ex,strp,binA,elems,cells,scalar,eqC,keyA,intsA,lookA,ofVs,mpOf,Nat.reduceBEq,reduceAdd,reduceSub,reduceLT,reduceLeDiff,reduceMul,reduceEqDiff,reduceIte]; try simp)
      · clear hB hWl hc hlt hle w1 w2 w3
        rintro ⟨⟨bs,W⟩,hb0,hB,hst,hWl,hbs⟩
        simp only at hb0 hB hst hWl hbs ⊢
        by_cases hlt:bs < N
        · ((refine Au ?_;repeat' first|exact True.intro|refine Cj.mk ?_ ?_)<;>intros<;>refine hD_ ?_)
          all_goals try (exfalso; omega)
          refine AWPC.loopE (α:={ x:Nat × List Fld // MrgS Fld.stn l bs x.1 x.2 }) [7,8] (fun x=>[(7,n x.1.1),(8,n ((x.1.1:Int)+2 * (bs:Int)))]) (fun x=>σ.upd f 0 (obF x.1.2)) (fun x=>N - x.1.1) ⟨(0,W),MrgS.init hB (hWl.trans hn.symm) hst⟩ ?_ rfl ?_
          · (simp only [zN,zT,zV,zS,zU,vcC,lateX,ex,strp,binA,elems,cells,scalar,eqC,keyA,intsA,lookA,ofVs,mpOf,Nat.reduceBEq,reduceAdd,reduceSub,reduceLT,reduceLeDiff,reduceMul,reduceEqDiff,reduceIte]; try simp)
          · skip
            rintro ⟨⟨a,W⟩,hM⟩
            simp only at hM ⊢
            have hle:=hM.le
            have hWl:=hM.len.trans hn
            obtain ⟨p1,p2⟩:=hM.pre
            by_cases hla:a+2 * bs≤N
            · have hc:=hmrg W a (a+bs) (a+2 * bs) hWl (by omega) (by omega) hla p1 p2
              have hN:=hM.next hb0 (by omega)
              rw [show ((a+bs:Nat):Int)=(a:Int)+(bs:Int) by omega,show ((a+2 * bs:Nat):Int)=(a:Int)+2 * (bs:Int) by omega] at hc
              ((refine Au ?_;repeat' first|exact True.intro|refine Cj.mk ?_ ?_)<;>intros<;>refine hD_ ?_)
              all_goals try (exfalso; omega)
              refine .inr (.inl ⟨_,_,_,_,rfl,fun _=>⟨hc,?_⟩,fun h=>by cases h⟩)
              rintro r σ' rfl
              refine owp_of_exs ?_
              simp only [zN,zT,zV,zS,zU,vcC,lateX,ex,strp,binA,elems,cells,scalar,eqC,keyA,intsA,lookA,ofVs,mpOf,Nat.reduceBEq,reduceAdd,reduceSub,reduceLT,reduceLeDiff,reduceMul,reduceEqDiff,reduceIte]
              ((refine Au ?_;repeat' first|exact True.intro|refine Cj.mk ?_ ?_)<;>intros<;>refine hD_ ?_)
              exact ⟨⟨(a+2 * bs,stS Fld.stn W a (a+2 * bs)),hN⟩,by simp,rfl,by simp only; omega⟩
            · have hF:=fun W'=>hM.fin (W':=W') hb0 (by omega)
              by_cases hm:a+bs < N
              · obtain ⟨f1,f2,f3⟩:=hF (stS Fld.stn W a N) (by rw [if_pos (by omega),hn])
                have p3:KSrt Fld.stn (seg W (a+bs) N):=by
                  rw [seg_end (by omega),hWl] at p2; exact p2
                have hc:=hmrg W a (a+bs) N hWl (by omega) hm (Nat.le_refl _) p1 p3
                rw [show ((a+bs:Nat):Int)=(a:Int)+(bs:Int) by omega] at hc
                ((refine Au ?_;repeat' first|exact True.intro|refine Cj.mk ?_ ?_)<;>intros<;>refine hD_ ?_)
                all_goals try (exfalso; omega)
                refine .inr (.inl ⟨_,_,_,_,rfl,fun _=>⟨hc,?_⟩,fun h=>by cases h⟩)
                rintro r σ' rfl
                refine owp_of_exs ?_
                simp only [zN,zT,zV,zS,zU,vcC,lateX,ex,strp,binA,elems,cells,scalar,eqC,keyA,intsA,lookA,ofVs,mpOf,Nat.reduceBEq,reduceAdd,reduceSub,reduceLT,reduceLeDiff,reduceMul,reduceEqDiff,reduceIte]
                ((refine Au ?_;repeat' first|exact True.intro|refine Cj.mk ?_ ?_)<;>intros<;>refine hD_ ?_)
                exact ⟨⟨(2 * bs,stS Fld.stn W a N),by dsimp only; omega,f1,f2,by dsimp only; omega,by dsimp only; omega⟩,by simp; omega,rfl,by simp only; omega⟩
              · obtain ⟨f1,f2,f3⟩:=hF W (by rw [if_neg (by omega)])
                ((refine Au ?_;repeat' first|exact True.intro|refine Cj.mk ?_ ?_)<;>intros<;>refine hD_ ?_)
                all_goals try (exfalso; omega)
                exact ⟨⟨(2 * bs,W),by dsimp only; omega,f1,f2,hWl,by dsimp only; omega⟩,by simp; omega,rfl,by simp only; omega⟩
        · have hfin:=hB.fin hst (hWl.trans hn.symm) (by omega)
          rw [← hfin]
          ((refine Au ?_;repeat' first|exact True.intro|refine Cj.mk ?_ ?_)<;>intros<;>refine hD_ ?_)
          all_goals try (exfalso; omega)
theorem sortF:SortF fun l=>l.length < 1099511627776:=fun σ f l hl hf=>by
  refine Does.of_body Tryz.call99 Tryz.func99 k99 (Nat.le_of_ble_eq_true rfl) ?_
  unfold c99
  ((refine Ax @hf ?_;repeat' first|exact True.intro|refine Cj.mk ?_ ?_)<;>intros<;>refine hD_ ?_)
  refine .inr (.inl ⟨_,_,_,_,rfl,fun _=>⟨stable_does σ f _ l hf rfl hl,?_⟩,fun h=>by cases h⟩)
  rintro r σ' rfl
  refine owp_of_exs ?_
  simp only [zN,zT,zV,zS,zU,vcC,lateX,ex,strp,binA,elems,cells,scalar,eqC,keyA,intsA,lookA,ofVs,mpOf,Nat.reduceBEq,reduceAdd,reduceSub,reduceLT,reduceLeDiff,reduceMul,reduceEqDiff,reduceIte]
  rw [srtF_eq]
def c4:CF:=⟨130,(jo [jx 4 26 6 0,jb 8 false] [1,2,3,4]
 (jo [jy 22 18 [],jm 9 22] [1,2,3,4,9]
 (.seq (jo [jk 23 6 4,jy 24 19 [23],jv 25 24,jm 26 25,jd 26 (jm 27 1),jd 26 (jy 28 20 [27]),jd 26 (jv 29 28),jq 30 26 29] [1,2,3,4,9,30]
 (.cond (.t 30) (jo [jm 31 9,jm 8 31] [8]
 .ret)
 .skip))
 (jo [jk 33 6 4,jm 34 1,jy 35 21 [33,34],jm 32 35,jz 36 0 32,jz 37 1 32,jw 10 (.alloc 37 4 [.slice none 0 0,.slice none 0 0,.slice none 0 0,.slice none 0 0]),js 4 10 36,jm 11 37] [1,2,3,4,9,10,11]
 (jo [jk 39 6 4,jm 40 1,jw 41 (.call (.f 23) [(.t 39),(.t 40),(.c (.int .i64 10000)),(.c (.int .i64 1099511627776))]),jm 38 41,jz 42 0 38,jz 43 1 38,jw 12 (.alloc 37 4 [.slice none 0 0,.slice none 0 0,.slice none 0 0,.slice none 0 0]),js 4 12 42,jm 13 43] [1,2,3,4,9,10,11,12,13]
 (.seq (jo [jm 44 11,jm 45 13,jt .neq 46 44 45,jm 47 46,jd 47 (jk 48 4 10),jd 47 (jk 49 4 12),jd 47 (jy 50 27 [48,49]),jd 47 (jv 51 50),jq 52 47 51] [1,2,3,4,9,11,52]
 (.cond (.t 52) (jo [jb 8 false] [8]
 .ret)
 .skip))
 (.seq (jo [jm 53 11,ju .neq 54 53 0] [1,2,3,4,9,54]
 (.cond (.t 54) (jo [jm 55 9,jm 8 55] [8]
 .ret)
 .skip))
 (jo [jn 14] [1,2,3,4,9,14]
 (.seq (jo [jc 15 0] [1,2,3,4,9,14,15]
 (.block 0 (.loop (.seq (jo [jm 56 15,jm 57 1,je 58 57,jt .lss 59 56 58] [1,2,3,4,9,14,15,59]
 (.cond (.t 59) .skip
 (.exit 0)))
 (.seq (.block 1 (jo [jm 62 1,jm 63 15,ji 64 38 62 63,jf 65 3 64,jl 66 65,jm 67 2,jt .leq 68 66 67,jm 69 68,ja 69 (jm 70 1),ja 69 (jm 71 15),ja 69 (ji 72 38 70 71),ja 69 (jf 73 2 72),ja 69 (jl 74 73),ja 69 (jm 75 3),ja 69 (jt .leq 76 74 75),jp 77 69 76] [1,2,3,4,9,14,15,77]
 (.cond (.t 77) (.ops [jm 78 14,jm 79 1,jm 80 15,ji 81 38 79 80,jk 82 38 81,jw 83 (.bsl false 68 38 1 z38 [(0,38,(.t 82))]),jw 84 (.app 68 38 368 (.t 78) (.t 83)),jm 14 84] [1,2,3,4,9,14,15])
 .skip)))
 (.ops [jm 60 15,ju .add 61 60 1,jm 15 61] [1,2,3,4,9,14,15]))))))
 (jo [jk 86 6 4,jm 87 1,jm 88 2,jm 89 3,jy 90 23 [86,87,88,89],jm 85 90,jz 91 0 85,jz 92 1 85,jw 16 (.alloc 37 4 [.slice none 0 0,.slice none 0 0,.slice none 0 0,.slice none 0 0]),js 4 16 91,jm 17 92] [2,3,4,9,14,16,17]
 (jo [jk 94 6 4,jm 95 14,jm 96 2,jm 97 3,jy 98 23 [94,95,96,97],jm 93 98,jz 99 0 93,jz 100 1 93,jw 18 (.alloc 37 4 [.slice none 0 0,.slice none 0 0,.slice none 0 0,.slice none 0 0]),js 4 18 99,jm 19 100] [4,9,14,16,17,18,19]
 (jo [jk 102 6 4,jm 103 14,jy 104 21 [102,103],jm 101 104,jz 105 0 101,jz 106 1 101,jw 20 (.alloc 37 4 [.slice none 0 0,.slice none 0 0,.slice none 0 0,.slice none 0 0]),js 4 20 105,jm 21 106] [9,16,17,18,19,20,21]
 (jo [jm 107 9,jm 108 107,ja 108 (jm 109 17),ja 108 (ju .eql 110 109 0),jp 111 108 110,jm 112 111,ja 112 (jm 113 19),ja 112 (ju .eql 114 113 0),jp 115 112 114,jm 116 115,ja 116 (jm 117 21),ja 116 (ju .eql 118 117 0),jp 119 116 118,jm 120 119,ja 120 (jk 121 4 16),ja 120 (jk 122 4 18),ja 120 (jy 123 27 [121,122]),jp 124 120 123,jm 125 124,ja 125 (jk 126 4 16),ja 125 (jk 127 4 20),ja 125 (jy 128 27 [126,127]),jp 129 125 128,jm 8 129] [8]
 .ret))))))))))))),[.t 8]⟩
theorem k4:chkF Tryz.prog Tryz.f4 c4=true:=by kernel_rfl
theorem setSz.sub {l m:List Nt} (hl:setSz l) (hm:m.Sublist l):setSz m:=⟨Nat.lt_of_le_of_lt hm.length_le hl.1,fun a ha=>hl.2 a (hm.subset ha)⟩
def c6:CF:=⟨96,(jo [jx 3 26 6 0,jb 6 false] [1,2,3]
 (jo [jy 13 18 [],jm 7 13] [1,2,3,7]
 (.seq (jo [jk 14 6 3,jy 15 19 [14],jv 16 15,jm 17 16,jd 17 (jm 18 1),jd 17 (jy 19 20 [18]),jd 17 (jv 20 19),jq 21 17 20,jm 22 21,jd 22 (jm 23 1),jd 22 (je 24 23),jd 22 (ju .gtr 25 24 40),jq 26 22 25,jm 27 26,jd 27 (jm 28 2),jd 27 (ju .lss 29 28 0),jq 30 27 29,jm 31 30,jd 31 (jm 32 2),jd 31 (jm 33 1),jd 31 (je 34 33),jd 31 (jt .geq 35 32 34),jq 36 31 35,jm 37 36,jd 37 (jm 38 1),jd 37 (jm 39 2),jd 37 (ji 40 38 38 39),jd 37 (jf 41 4 40),jd 37 (jl 42 41),jd 37 (ju .eql 43 42 7),jq 44 37 43] [1,2,3,7,44]
 (.cond (.t 44) (jo [jm 45 7,jm 6 45] [6]
 .ret)
 .skip))
 (.seq (.draww [1,2,3,5,6,7,8,0,4,9,10] [0,1,2,3,4,5,6] 2 [jm 47 1,jm 48 2,jw 49 (.slice 38 (.t 47) none (some (.t 48))),jm 51 1,jm 52 2,ju .add 53 52 1,jw 54 (.slice 38 (.t 51) (some (.t 53)) none)] [jw 46 (.bsl true 68 38 0 [] []),jw 50 (.app 68 38 368 (.t 46) (.t 49)),jw 55 (.app 68 38 368 (.t 50) (.t 54)),jm 8 55] [1,2,3,7,8])
 (.seq (.drawl 18 [jk 57 6 3,jm 58 1,jm 59 1,jm 60 2,ji 61 38 59 60,jf 62 0 61,jl 63 62,jm 64 1,jm 65 2,ji 66 38 64 65,jf 67 1 66,jl 68 67,jw 69 (.build [.int .i64 0,.int .i64 0] [(0,1,(.t 63)),(1,1,(.t 68))]),jw 70 (.build z38 [(4,1,(.c (.int .i64 7))),(36,2,(.t 69))]),jy 71 31 [58,70],jy 72 21 [57,71],jm 56 72,jz 73 0 56,jz 74 1 56,jw 9 (.alloc 37 4 [.slice none 0 0,.slice none 0 0,.slice none 0 0,.slice none 0 0])] [js 4 9 73,jm 10 74] [3,7,8,9,10])
 (jo [jk 76 6 3,jm 77 8,jy 78 21 [76,77],jm 75 78,jz 79 0 75,jz 80 1 75,jw 11 (.alloc 37 4 [.slice none 0 0,.slice none 0 0,.slice none 0 0,.slice none 0 0]),js 4 11 79,jm 12 80] [7,9,10,11,12]
 (.seq (jo [jm 81 10,ju .neq 82 81 0] [7,9,11,12,82]
 (.cond (.t 82) (jo [jm 83 7,jm 6 83] [6]
 .ret)
 .skip))
 (.seq (.draw [jm 84 7,jm 85 84,ja 85 (jm 86 12),ja 85 (ju .eql 87 86 0),jp 88 85 87,jm 89 88,ja 89 (jk 90 4 9),ja 89 (jy 91 32 [90]),ja 89 (jk 92 4 11),ja 89 (jy 93 32 [92]),ja 89 (jy 94 27 [91,93]),jp 95 89 94,jm 6 95] [] [6])
 .ret)))))))),[.t 6]⟩
theorem k6:chkF Tryz.prog Tryz.f6 c6=true:=by kernel_rfl
def RL:List AV→List AV→Prop
  | [],[]=>True
  | a::r,b::s=>(∀ w X x,RV w X nob [] a x→RV w X nob [] b x)∧RL r s
  | _,_=>False
theorem RL.len:∀ {cs ds:List AV},RL cs ds→cs.length=ds.length
  | [],[],_=>rfl
  | [],_::_,h=>h.elim
  | _::_,[],h=>h.elim
  | _::_,_::_,h=>by simp [RL.len h.2]
theorem RL.get:∀ {cs ds:List AV},RL cs ds→∀ i,i < cs.length→∀ w X x,RV w X nob [] (cs.getD i .any) x→RV w X nob [] (ds.getD i .any) x
  | [],_,_,i,hi=>absurd hi (Nat.not_lt_zero _)
  | _::_,[],h,_,_=>h.elim
  | _::_,_::_,h,0,_=>h.1
  | _::r,_::s,h,i+1,hi=>by simpa using RL.get h.2 i (by simpa using hi)
theorem RL.agg {cs ds:List AV} (h:RL cs ds) {w:World} {X:Nat→Prop} {x:Value} (hx:RV w X nob [] (.agg cs) x):RV w X nob [] (.agg ds) x:=by
  cases hx with
  | agg _ xs hn h1 hr =>
    have hl:=h.len
    exact .agg ds xs (hn.trans hl) (fun i hi=>h1 i (by omega)) fun i hi=>h.get i (by omega) w X _ (hr i (by omega))
def c7:CF:=⟨106,(jo [jx 4 26 6 0,jx 7 60 18 3,jb 8 false] [1,2,4,7]
 (jo [jy 14 18 [],jm 9 14] [1,2,4,7,9]
 (.seq (jo [jk 15 6 4,jy 16 19 [15],jv 17 16,jm 18 17,jd 18 (jm 19 1),jd 18 (jy 20 20 [19]),jd 18 (jv 21 20),jq 22 18 21,jm 23 22,jd 23 (jm 24 1),jd 23 (je 25 24),jd 23 (ju .gtr 26 25 40),jq 27 23 26,jm 28 27,jd 28 (jk 29 18 7),jd 28 (jy 30 33 [29]),jd 28 (jv 31 30),jq 32 28 31,jm 33 32,jd 33 (jm 34 1),jd 33 (jy 35 34 [34]),jq 36 33 35] [1,2,4,7,9,36]
 (.cond (.t 36) (jo [jm 37 9,jm 8 37] [8]
 .ret)
 .skip))
 (jo [jk 39 6 4,jm 40 1,jy 41 21 [39,40],jm 38 41,jz 42 0 38,jz 43 1 38,jw 10 (.alloc 37 4 [.slice none 0 0,.slice none 0 0,.slice none 0 0,.slice none 0 0]),js 4 10 42,jm 11 43] [1,2,4,7,9,10,11]
 (.seq (jo [jm 44 11,ju .neq 45 44 0,jm 46 45,jd 46 (jm 47 2),jd 46 (ju .lss 48 47 0),jq 49 46 48,jm 50 49,jd 50 (jm 51 2),jd 50 (jf 52 0 10),jd 50 (jl 53 52),jd 50 (je 54 53),jd 50 (jt .geq 55 51 54),jq 56 50 55] [1,2,4,7,9,10,56]
 (.cond (.t 56) (jo [jm 57 9,jm 8 57] [8]
 .ret)
 .skip))
 (.seq (.drawl 20 [jk 59 6 4,jm 60 1,jf 61 0 10,jl 62 61,jm 63 2,ji 64 24 62 63,jf 65 2 64,jl 66 65,jf 67 0 10,jl 68 67,jm 69 2,ji 70 24 68 69,jf 71 3 70,jl 72 71,jk 73 18 7,jw 74 (.build z38 [(4,1,(.c (.int .i64 1))),(5,1,(.t 66)),(6,1,(.t 72)),(7,18,(.t 73))]),jy 75 31 [60,74],jy 76 21 [59,75],jm 58 76,jz 77 0 58,jz 78 1 58,jw 12 (.alloc 37 4 [.slice none 0 0,.slice none 0 0,.slice none 0 0,.slice none 0 0])] [js 4 12 77,jm 13 78] [9,10,12,13])
 (.seq (jo [jm 79 13,ju .neq 80 79 0] [9,10,12,80]
 (.cond (.t 80) (jo [jm 81 9,jm 8 81] [8]
 .ret)
 .skip))
 (.seq (.draw [jm 82 9,jm 83 82,ja 83 (jf 84 3 12),ja 83 (jl 85 84),ja 83 (jy 86 35 []),ja 83 (jy 87 30 [85,86]),jp 88 83 87,jm 89 88,ja 89 (jf 90 3 12),ja 89 (jl 91 90),ja 89 (je 92 91),ja 89 (jf 93 3 10),ja 89 (jl 94 93),ja 89 (je 95 94),ja 89 (ju .add 96 95 1),ja 89 (jt .eql 97 92 96),jp 98 89 97,jm 99 98,ja 99 (jk 100 4 10),ja 99 (jy 101 32 [100]),ja 99 (jk 102 4 12),ja 99 (jy 103 32 [102]),ja 99 (jy 104 27 [101,103]),jp 105 99 104,jm 8 105] [] [8])
 .ret)))))))),[.t 8]⟩
theorem k7:chkF Tryz.prog Tryz.f7 c7=true:=by kernel_rfl
theorem nodup_le {α:Type} [DecidableEq α]:∀ {l m:List α},l.Nodup→l ⊆ m→l.length≤m.length
  | [],_,_,_=>Nat.zero_le _
  | a::l,m,h,hs=>by
    rw [List.nodup_cons] at h
    have ha:a∈m:=hs (by simp)
    have h1:=nodup_le (l:=l) (m:=m.erase a) h.2 fun x hx=>(List.mem_erase_of_ne (by rintro rfl; exact h.1 hx)).2 (hs (by simp [hx]))
    rw [List.length_erase_of_mem ha] at h1
    have:=List.length_pos_of_mem ha
    simp only [List.length_cons]; omega
theorem slight_C {s:Sht} (h:slightB s=true):shtC s:=by
  unfold slightB at h
  simp only [Bool.and_eq_true,Bool.or_eq_true,decide_eq_true_eq] at h
  unfold shtC
  omega
end Go.Proofs.YtolgelipcgcbhaaGreat
namespace Go.Abs
open Go.Shelf Go.RowKit Go.Lib Go.Proofs
set_option linter.unusedVariables false
set_option linter.unusedSimpArgs false
theorem grow_any {P:Program} {ρ:Ren} (L:Lays8.n4 P ρ) {T k B:Nat} (hT:ρ.t 25=T) (hsz:szF P T=some k) {zs:List Value} (hzr:zrF P T=some zs) (hzl:zs.length=k) (hk:0 < k) (hby:(P.info? T).map (·.bytes)=some B)
    (ef:∀ args w,(callFunc (ρ.f 4) args).run P w=.ok (.enter (ρ.f 4) args) w) (σ:Sto) (z:Int) (h0:0≤z) (h1:z * B≤140737488355328) (hB:0 < B) :
    Does P (ρ.f 4) [.v (.slice none 0 0),n z] σ (fun r σ'=>r=.own σ.length 0 0∧σ'=σ++[some [⟨T,k,[],none⟩]]):=by
  subst hT
  have hzB:z≤z * B:=by
    have:z * 1≤z * B:=Int.mul_le_mul_of_nonneg_left (by omega) h0
    omega
  refine ⟨ef,fun X β w xs hX hsr hlen hr=>?_⟩
  match xs,hlen with
  | [x,y],_ =>
    have hx:=(hr 0 (by simp)).inv_v
    have hy:=(hr 1 (by simp)).inv_v
    simp only [List.getD_cons_zero,List.getD_cons_succ] at hx hy
    subst hx; subst hy
    by_cases hz:z=0
    · subst hz
      refine callsIn_wide.2 ((Any8.slices_Grow_room L none 0 0 0 w (Nat.le_refl _) (by decide) (by decide) (Nat.le_refl _)).mono ?_)
      rintro e w' ⟨rfl,rfl⟩
      exact ⟨_,_,_,_,rfl,⟨rfl,rfl⟩,hsr.own0 hX,RV.own0 rfl,Ext.push (Nat.le_refl _) (fun _ _=>rfl) (fun b hb=>by cases hb),Kp.own0 hsr⟩
    · obtain ⟨i0,hi0,hs2⟩:=sz_parts hsz
      rw [hi0] at hby
      simp only [Option.map_some,Option.some.injEq] at hby
      unfold zrF at hzr
      rw [hi0] at hzr
      simp only [Option.bind_some,Option.map_eq_some_iff] at hzr
      obtain ⟨z0,hz0,hzc⟩:=hzr
      have hzn:(z.toNat:Int)=z:=by omega
      have hbig:(0+z.toNat) * i0.bytes≤140737488355328:=by
        rw [hby,Nat.zero_add]
        have:((z.toNat * B:Nat):Int)≤140737488355328:=by rw [Int.natCast_mul,hzn]; exact h1
        omega
      have hg:=Any8.slices_Grow_grow L i0 z0 hi0 hz0 (by omega) none 0 0 z.toNat [] w (Nat.le_refl _) (by omega) hbig (by omega) (by simp) (fun _=>rfl) (fun a h=>by cases h)
      have hge:=grownCap_ge w (0+z.toNat) 0 (ρ.t 25)
      refine callsIn_wide.2 ?_
      change Calls P (ρ.f 4) #[.slice none 0 0,.int .i64 z] w _
      rw [hzn] at hg
      refine Calls.mono hg ?_
      rintro e w' ⟨rfl,rfl⟩
      change grownCap w (0+z.toNat) 0 (ρ.t 25)≥_ at hge
      have hzs:z0.cells.size=k:=by rw [← Array.length_toList,hzc]; exact hzl
      have hsz:w.heap.size≤(w.drew.alloc (.cells ((#[]:Array Value)++Builtin.zeroCells z0.cells (0+z.toNat - 0)++Builtin.zeroCells z0.cells (grownCap w (0+z.toNat) 0 (ρ.t 25) - (0+z.toNat))) (ρ.t 25))).heap.size:=by rw [alc_size]; exact Nat.le_succ _
      have hold:∀ b,b < w.heap.size→(w.drew.alloc (.cells ((#[]:Array Value)++Builtin.zeroCells z0.cells (0+z.toNat - 0)++Builtin.zeroCells z0.cells (grownCap w (0+z.toNat) 0 (ρ.t 25) - (0+z.toNat))) (ρ.t 25))).heap[b]?=w.heap[b]?:=fun b hb=>alc_old w.drew _ hb
      have hnew:(w.drew.alloc (.cells ((#[]:Array Value)++Builtin.zeroCells z0.cells (0+z.toNat - 0)++Builtin.zeroCells z0.cells (grownCap w (0+z.toNat) 0 (ρ.t 25) - (0+z.toNat))) (ρ.t 25))).heap[w.heap.size]?=some (.cells ((#[]:Array Value)++Builtin.zeroCells z0.cells (0+z.toNat - 0)++Builtin.zeroCells z0.cells (grownCap w (0+z.toNat) 0 (ρ.t 25) - (0+z.toNat))) (ρ.t 25)):=alc_new w.drew _
      have hcsz:((#[]:Array Value)++Builtin.zeroCells z0.cells (0+z.toNat - 0)++Builtin.zeroCells z0.cells (grownCap w (0+z.toNat) 0 (ρ.t 25) - (0+z.toNat))).size=grownCap w (0+z.toNat) 0 (ρ.t 25) * k:=by
        simp only [Array.size_append,zeroCells_size,hzs]
        simp only [List.size_toArray,List.length_nil]
        rw [Nat.zero_add,← Nat.add_mul]
        congr 1; omega
      have hbo:∀ b,some w.heap.size=some b→b=w.heap.size:=fun b hb=>by injection hb with hb; exact hb.symm
      have K:=Kp.push (o:=⟨ρ.t 25,k,[],none⟩) (bo:=some w.heap.size) hsr hsz hold hbo
      have S:=hsr.push (o:=⟨ρ.t 25,k,[],none⟩) (bo:=some w.heap.size) hX hsz hold hbo ⟨fun e he=>absurd he (Nat.not_lt_zero _),fun _=>⟨_,hnew,by simp,fun e j he=>absurd he (Nat.not_lt_zero _),fun e j he=>absurd he (Nat.not_lt_zero _)⟩,fun r hr=>by cases hr⟩
      refine ⟨_,_,_,_,rfl,⟨rfl,rfl⟩,S,?_,Ext.push hsz hold hbo ⟨rfl,rfl,rfl,Nat.le_succ _⟩,K⟩
      refine .own _ _ _ _ rfl (by simp) (fun o _=>Nat.zero_le _) fun o ho _=>?_
      rw [at_push_new] at ho; simp at ho; subst ho
      unfold OwnSl; rw [addB_new]
      exact ⟨_,_,_,rfl,hnew,hcsz⟩
end Go.Abs
namespace Go.Proofs.YtolgelipcgcbhaaGreat
open Go.Shelf
def Tryz.growS_ren:Go.Shelf.Ren:=⟨fun | 4=>188 | n=>n,fun | 22=>22 | 25=>109 | 3=>3 | 4=>4 | 9=>9 | 20=>20 | 0=>0 | n=>n,fun | n=>n⟩
theorem Tryz.growS:Go.Proofs.Lays8.n4 Tryz.prog Tryz.growS_ren:={
  mixed:=by kernel_rfl
  f4:=⟨Tryz.f188.name,by decide,Tryz.func188.trans (congrArg some (by kernel_rfl))⟩
  t0:=Tryz.underlying0
  a0:=Tryz.isAgg0
  z0:=Tryz.sizeOf0
  v0:=Tryz.zeroValue0
  t3:=Tryz.underlying3
  a3:=Tryz.isAgg3
  z3:=Tryz.sizeOf3
  v3:=Tryz.zeroValue3
  t4:=Tryz.underlying4
  a4:=Tryz.isAgg4
  z4:=Tryz.sizeOf4
  v4:=Tryz.zeroValue4
  t9:=Tryz.underlying9
  a9:=Tryz.isAgg9
  z9:=Tryz.sizeOf9
  v9:=Tryz.zeroValue9
  t20:=Tryz.underlying20
  a20:=Tryz.isAgg20
  z20:=Tryz.sizeOf20
  v20:=Tryz.zeroValue20
  t22:=Tryz.underlying22
  a22:=Tryz.isAgg22
  z22:=Tryz.sizeOf22
  v22:=Tryz.zeroValue22 }
end Go.Proofs.YtolgelipcgcbhaaGreat
namespace Go.Proofs.YtolgelipcgcbhaaGreat
open Go.Abs
open Nat (reduceAdd reduceSub reduceLT reduceLeDiff reduceMul reduceEqDiff)
set_option linter.unusedVariables false
set_option linter.unusedSimpArgs false
set_option maxHeartbeats 4000000
set_option maxRecDepth 100000
theorem flat_next {α:Type} {rows:List (List α)} {i:Nat} {r:List α} (h:rows[i]?=some r):(rows.take (i+1)).flatten=(rows.take i).flatten++r:=by
  rw [List.take_add_one,h]; simp
theorem flat_le {α:Type} (rows:List (List α)) (i:Nat):(rows.take i).flatten.length≤rows.flatten.length:=by
  have:rows.flatten=(rows.take i).flatten++(rows.drop i).flatten:=by rw [← List.flatten_append,List.take_append_drop]
  rw [this,List.length_append]; omega
def c124:CF:=⟨36,(jo [jn 2] [0]
 (jo [jc 3 0] [0,3]
 (.seq (jo [jm 9 0,je 10 9,jc 11 0] [0,3,9,10,11]
 (.block 0 (.loop (jo [jt .lss 12 11 10] [0,3,9,10,11,12]
 (.seq (.cond (.t 12) .skip
 (.exit 0))
 (.seq (.block 1 (jo [ji 13 1 9 11,jl 14 13,jm 5 14] [0,3,5,9,10,11]
 (jo [jm 15 3,jm 16 5,je 17 16,jt .add 18 15 17,jm 3 18] [0,3,9,10,11]
 (jo [jm 19 3,ju .lss 20 19 0] [0,3,9,10,11,20]
 (.cond (.t 20) (.ops [jw 21 (.ifc 9 (.c (.string ⟨#[108,101,110,32,111,117,116,32,111,102,32,114,97,110,103,101]⟩))),⟨none,.bad,none⟩] [0,3,9,10,11])
 .skip)))))
 (.ops [ju .add 22 11 1,jm 11 22] [0,3,9,10,11])))))))
 (jo [jm 23 3,jw 24 (.call (.f 188) [(.c (.slice none 0 0)),(.t 23)]),jm 6 24] [0,6]
 (.seq (jo [jm 25 0,je 26 25,jc 27 0] [6,25,26,27]
 (.block 2 (.loop (jo [jt .lss 28 27 26] [6,25,26,27,28]
 (.seq (.cond (.t 28) .skip
 (.exit 2))
 (.seq (.block 3 (jo [ji 29 1 25 27,jl 30 29,jm 8 30] [6,8,25,26,27]
 (.ops [jm 31 6,jm 32 8,jw 33 (.app 109 4 48 (.t 31) (.t 32)),jm 6 33] [6,25,26,27])))
 (.ops [ju .add 34 27 1,jm 27 34] [6,25,26,27])))))))
 (jo [jm 35 6,jm 2 35] [2]
 .ret)))))),[.t 2]⟩
theorem k124:chkF Tryz.prog Tryz.f124 c124=true:=by kernel_rfl
def c58:CF:=⟨39,(jo [jx 3 26 6 0,jx 4 37 4 1,jw 6 (.alloc 109 4 [.int .i64 0,.int .i64 0,.int .i64 0,.slice none 0 0]),jc 7 0] [2,3,4,6]
 (.seq (jo [jk 11 6 3,jy 12 43 [11],jm 8 12] [2,3,4,6,8]
 (jo [jm 13 8,ju .neq 14 13 0] [2,3,4,6,8,14]
 (.cond (.t 14) (jo [jw 15 (.build [.int .i64 0,.int .i64 0,.int .i64 0,.slice none 0 0] []),jm 16 8,js 4 6 15,jm 7 16] [6,7]
 .ret)
 .skip)))
 (.seq (jo [jf 17 2 4,jl 18 17,jf 19 0 3,jl 20 19,jw 21 (.bsl false 22 1 2 [.slice none 0 0,.slice none 0 0] [(0,1,(.t 18)),(1,1,(.t 20))]),jy 22 124 [21],je 23 22,jc 24 0] [2,6,22,23,24]
 (.block 0 (.loop (jo [jt .lss 25 24 23] [2,6,22,23,24,25]
 (.seq (.cond (.t 25) .skip
 (.exit 0))
 (.seq (.block 1 (jo [ji 26 4 22 24,jk 27 4 26,jw 10 (.alloc 109 4 [.int .i64 0,.int .i64 0,.int .i64 0,.slice none 0 0]),js 4 10 27] [2,6,10,22,23,24]
 (jo [jf 28 0 10,jl 29 28,jm 30 2,jt .eql 31 29 30] [2,6,10,22,23,24,31]
 (.cond (.t 31) (jo [jf 32 3 10,jl 33 32,jy 34 125 [33],jf 35 3 10,js 1 35 34] [6,10]
 (jo [jk 36 4 10,js 4 6 36,jc 7 0] [6,7]
 .ret))
 .skip))))
 (.ops [ju .add 37 24 1,jm 24 37] [2,6,22,23,24])))))))
 (jo [jw 38 (.build [.int .i64 0,.int .i64 0,.int .i64 0,.slice none 0 0] []),js 4 6 38,jc 7 3] [6,7]
 .ret)))),[.c 6 (some 4),.t 7]⟩
theorem k58:chkF Tryz.prog Tryz.f58 c58=true:=by kernel_rfl
def z4S:List Value:=[.int .i64 0,.int .i64 0,.int .i64 0,.slice none 0 0]
theorem growS_does (σ:Sto) (z:Int) (h0:0≤z) (h1:z * 48≤140737488355328):Does Tryz.prog 188 [.v (.slice none 0 0),n z] σ (fun r σ'=>r=.own σ.length 0 0∧σ'=σ++[some [⟨109,4,[],none⟩]]) :=
  grow_any Tryz.growS (T:=109) (k:=4) (B:=48) rfl (by kernel_rfl) (zs:=z4S) (by kernel_rfl) rfl (by decide) (by kernel_rfl) Tryz.call188 σ z h0 h1 (by decide)
theorem snRows (l:List Stn):∀ e,e < l.length→((l.map Stn.cs).getD e []).length=4:=rowsL (cs:=Stn.cs) (k:=4) (fun a=>rfl) l
theorem concatS_does (σ:Sto) (rows:List (List Stn)) (hlen:rows.length < 9223372036854775808) (htot:(rows.flatten.length:Int) * 48≤140737488355328) :
    Does Tryz.prog 124 [.sl 1 (rows.map fun r=>[snS r])] σ (fun r σ'=>r=.own σ.length 0 rows.flatten.length∧σ'=σ++[some [⟨109,4,rows.flatten.map Stn.cs,none⟩]]):=by
  refine Does.of_body Tryz.call124 Tryz.func124 k124 (Nat.le_of_ble_eq_true rfl) ?_
  unfold c124
  ((refine Au ?_;repeat' first|exact True.intro|refine Cj.mk ?_ ?_)<;>intros<;>refine hD_ ?_)
  refine AWPC.loopS (α:={ i:Nat // i≤rows.length }) [3,11] (fun i=>[(3,n ((rows.take i.1).flatten.length)),(11,n i.1)]) (fun i=>rows.length - i.1) ⟨0,Nat.zero_le _⟩ ?_ ?_
  · (simp only [zN,zT,zV,zS,zU,vcC,lateX,ex,strp,binA,elems,cells,scalar,eqC,keyA,intsA,lookA,ofVs,mpOf,Nat.reduceBEq,reduceAdd,reduceSub,reduceLT,reduceLeDiff,reduceMul,reduceEqDiff,reduceIte]; try simp)
  · rintro ⟨i,hi⟩
    have hfl:=flat_le rows i
    by_cases hlt:i < rows.length
    · obtain ⟨r,hr⟩:∃ r,rows[i]?=some r:=⟨_,List.getElem?_eq_getElem hlt⟩
      have ft:=flat_next hr
      have hfl1:=flat_le rows (i+1)
      have hl2:(rows.take (i+1)).flatten.length=(rows.take i).flatten.length+r.length:=by rw [ft,List.length_append]
      (repeat' ((first
 | refine vn rfl ?_
 | simp (disch:=omega) only [wr64,Int.zero_sub]
 | refine bo (fun _=>?_) fun _=>?_
 | refine im fun _=>?_
 | refine cF ?_
 | refine om ?_
 | refine an ?_
 | fail) <;> try simp only [zN,zT,zV,zS,zU,vcC,lateX,ex,strp,binA,elems,cells,scalar,eqC,keyA,intsA,lookA,ofVs,mpOf,Nat.reduceBEq,reduceAdd,reduceSub,reduceLT,reduceLeDiff,reduceMul,reduceEqDiff,reduceIte,getD_map hr]))
      all_goals try (exfalso; omega)
      exact ⟨⟨i+1,hlt⟩,⟨by rw [hl2]; simp,by simp⟩,by simp only; omega⟩
    · obtain rfl:i=rows.length:=by omega
      rw [List.take_length]
      ((refine Au ?_;repeat' first|exact True.intro|refine Cj.mk ?_ ?_)<;>intros<;>refine hD_ ?_)
      all_goals try (exfalso; omega)
      refine .inr (.inl ⟨_,_,_,_,rfl,fun _=>⟨growS_does σ _ (by omega) htot,?_⟩,fun h=>by cases h⟩)
      rintro res σ' ⟨rfl,rfl⟩
      refine owp_of_exs ?_
      simp only [zN,zT,zV,zS,zU,vcC,lateX,ex,strp,binA,elems,cells,scalar,eqC,keyA,intsA,lookA,ofVs,mpOf,Nat.reduceBEq,reduceAdd,reduceSub,reduceLT,reduceLeDiff,reduceMul,reduceEqDiff,reduceIte]
      ((refine Au ?_;repeat' first|exact True.intro|refine Cj.mk ?_ ?_)<;>intros<;>refine hD_ ?_)
      refine AWPC.loopE (α:={ i:Nat // i≤rows.length }) [6,27] (fun i=>[(6,.own σ.length 0 (rows.take i.1).flatten.length),(27,n i.1)]) (fun i=>σ++[some [⟨109,4,(rows.take i.1).flatten.map Stn.cs,none⟩]]) (fun i=>rows.length - i.1) ⟨0,Nat.zero_le _⟩ ?_ rfl ?_
      · (simp only [zN,zT,zV,zS,zU,vcC,lateX,ex,strp,binA,elems,cells,scalar,eqC,keyA,intsA,lookA,ofVs,mpOf,Nat.reduceBEq,reduceAdd,reduceSub,reduceLT,reduceLeDiff,reduceMul,reduceEqDiff,reduceIte]; try simp)
      · rintro ⟨i,hi⟩
        simp only
        have hfl:=flat_le rows i
        by_cases hlt:i < rows.length
        · obtain ⟨r,hr⟩:∃ r,rows[i]?=some r:=⟨_,List.getElem?_eq_getElem hlt⟩
          have ft:=flat_next hr
          have hfl1:=flat_le rows (i+1)
          have hl2:(rows.take (i+1)).flatten.length=(rows.take i).flatten.length+r.length:=by rw [ft,List.length_append]
          have hA:∀ (o:Ob) (μ:Sto),Sto.at (σ++some [o]::μ) (List.length σ) 0=some o:=fun o μ=>by rw [at_app0]; rfl
          have hB:∀ (o o':Ob) (μ:Sto),Sto.upd (σ++some [o]::μ) (List.length σ) 0 o'=σ++some [o']::μ:=fun o o' μ=>by simp [Sto.upd]
          generalize hF:(rows.take i).flatten=F at ft hl2 hfl
          (repeat' ((first
 | refine vn rfl ?_
 | simp (disch:=omega) only [wr64,Int.zero_sub]
 | refine bo (fun _=>?_) fun _=>?_
 | refine im fun _=>?_
 | refine cF ?_
 | refine om ?_
 | refine an ?_
 | fail) <;> try simp only [zN, zT, zV, zS, zU, vcC, lateX, ex, strp, binA, elems, cells, scalar, eqC, keyA, intsA, lookA, ofVs, mpOf, Nat.reduceBEq, reduceAdd, reduceSub, reduceLT, reduceLeDiff, reduceMul, reduceEqDiff, reduceIte, getD_map hr, hA, hB, List.length_map]))
          all_goals try (exfalso; omega)
          refine ⟨⟨snRows r,by omega⟩,?_⟩
          ((refine Au ?_;repeat' first|exact True.intro|refine Cj.mk ?_ ?_)<;>intros<;>refine hD_ ?_)
          refine ⟨⟨i+1,hlt⟩,⟨by rw [hl2],by simp⟩,?_,by simp only; omega⟩
          simp [ft]
        · obtain rfl:i=rows.length:=by omega
          rw [List.take_length]
          ((refine Au ?_;repeat' first|exact True.intro|refine Cj.mk ?_ ?_)<;>intros<;>refine hD_ ?_)
          all_goals try (exfalso; omega)
          all_goals exact ⟨rfl,rfl⟩
theorem aStationOf_spec (b:Bse) (hb:bseSz b) (r:Rgr) (id:Int) (hr:r.stns.length < 4294967296) (hh:∀ s∈r.stns++b.stns,s.heights.length * 24≤140737488355328) (hB:b.stns.length < 4294967296) :
    Pure Tryz.prog 58 [.agg b.cs,.agg r.cs,n id] (.tup [.agg (stnBack b r id).1.cs,n (stnBack b r id).2]):=by
  refine Pure.of_body Tryz.call58 Tryz.func58 k58 (Nat.le_of_ble_eq_true rfl) ?_
  unfold c58
  have hcb:=CheckBase_spec b hb
  by_cases hbok:b.ok
  · rw [if_pos hbok] at hcb
    obtain ⟨L,hL⟩:∃ L,L=r.stns++b.stns:=⟨_,rfl⟩
    obtain ⟨q,hq⟩:∃ q,q=stnBack b r id:=⟨_,rfl⟩
    have hqs:∀ x,(L.find? fun s=>s.id == id)=some x→q=(x,0):=fun x h=>by rw [hq]; unfold stnBack; rw [if_neg (fun h=>h hbok),← hL,h]
    have hqn:(L.find? fun s=>s.id == id)=none→q=(default,3):=fun h=>by rw [hq]; unfold stnBack; rw [if_neg (fun h=>h hbok),← hL,h]
    rw [← hq]
    clear hq
    rw [← hL] at hh
    have hLl:L.length=r.stns.length+b.stns.length:=by rw [hL,List.length_append]
    have hfl:[r.stns,b.stns].flatten=L:=by rw [hL]; simp
    have hcd:=fun σ=>concatS_does σ [r.stns,b.stns] (by simp) (by rw [hfl]; omega)
    simp only [hfl,List.map_cons,List.map_nil] at hcd
    ((refine Ay @hcb ?_;repeat' first|exact True.intro|refine Cj.mk ?_ ?_)<;>intros<;>refine hD_ ?_)
    all_goals try (exfalso; omega)
    refine .inr (.inl ⟨_,_,_,_,rfl,fun _=>⟨hcd _,?_⟩,fun h=>by cases h⟩)
    rintro r1 σ1 ⟨rfl,rfl⟩
    refine owp_of_exs ?_
    simp only [zN,zT,zV,zS,zU,vcC,lateX,ex,strp,binA,elems,cells,scalar,eqC,keyA,intsA,lookA,ofVs,mpOf,Nat.reduceBEq,reduceAdd,reduceSub,reduceLT,reduceLeDiff,reduceMul,reduceEqDiff,reduceIte,List.length_map]
    ((refine Au ?_;repeat' first|exact True.intro|refine Cj.mk ?_ ?_)<;>intros<;>refine hD_ ?_)
    refine AWPC.loopE (α:={ x:Nat × Sto // x.1≤L.length∧∀ t,t < x.1→(L.getD t default).id≠id }) [24] (fun x=>[(24,n x.1.1)]) (fun x=>[some [⟨109,4,[[n 0,n 0,n 0,.v (.slice none 0 0)]],none⟩],some [⟨109,4,L.map Stn.cs,none⟩]]++x.1.2) (fun x=>L.length - x.1.1) ⟨(0,[]),Nat.zero_le _,fun t h=>absurd h (Nat.not_lt_zero _)⟩ ?_ rfl ?_
    · (simp only [zN,zT,zV,zS,zU,vcC,lateX,ex,strp,binA,elems,cells,scalar,eqC,keyA,intsA,lookA,ofVs,mpOf,Nat.reduceBEq,reduceAdd,reduceSub,reduceLT,reduceLeDiff,reduceMul,reduceEqDiff,reduceIte]; try simp)
    · rintro ⟨⟨i,μ⟩,hi,hI⟩
      simp only at hi hI ⊢
      by_cases hlt:i < L.length
      · have hx:(L.map Stn.cs).getD i []=Stn.cs (L.getD i default):=row default hlt
        have hg:=getD_lt (default:Stn) hlt
        have hcl:=cloneHg (L.getD i default).heights (hh _ (List.mem_of_getElem? hg))
        have hN:(L.getD i default).id≠id→∀ t,t < i+1→(L.getD t default).id≠id:=fun h t ht=>by
          rcases (show t=i∨t < i by omega) with rfl | ht
          · exact h
          · exact hI t ht
        have hY:(L.getD i default).id=id→(L.find? fun s=>s.id == id)=some (L.getD i default):=fun h=>by
          rw [List.find?_eq_some_iff_getElem]
          refine ⟨by rw [h]; simp,i,hlt,?_,fun j hj=>?_⟩
          · rw [List.getD_eq_getElem?_getD,List.getElem?_eq_getElem hlt]; rfl
          · have:=hI j hj
            rw [List.getD_eq_getElem?_getD,List.getElem?_eq_getElem (by omega)] at this
            simpa using this
        generalize L.getD i default=x at hx hcl hN hY
        clear hg hfl hcd
        by_cases he:x.id=id
        · obtain rfl:=hqs _ (hY he)
          ((refine Az (And.intro @hx @he) @hcl ?_;repeat' first|exact True.intro|refine Cj.mk ?_ ?_)<;>intros<;>refine hD_ ?_)
          all_goals try (exfalso; omega)
          subst he
          exact Frz.tupL ⟨Frz.pure (PureV.agg (sn_pc x)),Frz.pure (by simp),trivial⟩
        · have hN:=hN he
          ((refine Ax (And.intro @hx @he) ?_;repeat' first|exact True.intro|refine Cj.mk ?_ ?_)<;>intros<;>refine hD_ ?_)
          all_goals try (exfalso; omega)
          exact ⟨⟨(i+1,μ++[some [⟨109,4,[x.cs],none⟩]]),hlt,hN⟩,by simp,rfl,by simp only; omega⟩
      · obtain rfl:i=L.length:=by omega
        have hY:(L.find? fun s=>s.id == id)=none:=by
          rw [List.find?_eq_none]
          intro s hs
          obtain ⟨t,ht,rfl⟩:=List.getElem_of_mem hs
          have:=hI t ht
          rw [List.getD_eq_getElem?_getD,List.getElem?_eq_getElem ht] at this
          simpa using this
        obtain rfl:=hqn hY
        ((refine Au ?_;repeat' first|exact True.intro|refine Cj.mk ?_ ?_)<;>intros<;>refine hD_ ?_)
        all_goals try (exfalso; omega)
        all_goals exact Frz.tupL ⟨Frz.aggL ⟨Frz.pure (by simp),Frz.pure (by simp),Frz.pure (by simp),Frz.nil0,trivial⟩,Frz.pure (by simp),trivial⟩
  · rw [if_neg hbok] at hcb
    have hE:stnBack b r id=(default,100):=by unfold stnBack; rw [if_pos hbok]
    rw [hE]
    ((refine Ay @hcb ?_;repeat' first|exact True.intro|refine Cj.mk ?_ ?_)<;>intros<;>refine hD_ ?_)
    all_goals try (exfalso; omega)
    all_goals exact Frz.tupL ⟨Frz.aggL ⟨Frz.pure (by simp),Frz.pure (by simp),Frz.pure (by simp),Frz.nil0,trivial⟩,Frz.pure (by simp),trivial⟩
def c15:CF:=⟨179,(jo [jx 5 26 6 0,jx 6 37 4 1,jx 9 29 2 4,jb 10 false] [2,3,5,6,9]
 (jo [jy 32 18 [],jm 11 32] [2,3,5,6,9,11]
 (.seq (jo [jk 33 6 5,jy 34 19 [33],jv 35 34,jm 36 35,jd 36 (jk 37 4 6),jd 36 (jy 38 60 [37]),jd 36 (jv 39 38),jq 40 36 39] [2,3,5,6,9,11,40]
 (.cond (.t 40) (jo [jm 41 11,jm 10 41] [10]
 .ret)
 .skip))
 (jo [jk 43 4 6,jm 44 2,jm 45 3,jy 46 39 [43,44,45],jm 42 46,jz 47 0 42,jz 48 1 42,jm 12 47,jm 13 48] [2,3,5,6,9,11,12,13]
 (jo [jk 50 4 6,jm 51 2,jm 52 3,jy 53 61 [50,51,52],jm 49 53,jz 54 0 49,jz 55 1 49,jm 14 54,jm 15 55] [2,3,5,6,9,11,12,13,14,15]
 (jo [jk 57 4 6,jk 58 2 9,jy 59 52 [57,58],jm 56 59,jz 60 0 56,jz 61 1 56,jm 16 60,jm 17 61] [2,3,5,6,9,11,12,13,14,15,16,17]
 (jo [jk 63 4 6,jk 64 2 9,jy 65 62 [63,64],jm 62 65,jz 66 0 62,jz 67 1 62,jm 18 66,jm 19 67] [2,3,5,6,11,12,13,14,15,16,17,18,19]
 (.seq (jo [jm 68 12,jm 69 14,jt .neq 70 68 69,jm 71 70,jd 71 (jm 72 13),jd 71 (jm 73 15),jd 71 (jt .neq 74 72 73),jq 75 71 74,jm 76 75,jd 76 (jm 77 16),jd 76 (jm 78 18),jd 76 (jt .neq 79 77 78),jq 80 76 79,jm 81 80,jd 81 (jm 82 17),jd 81 (jm 83 19),jd 81 (jt .neq 84 82 83),jq 85 81 84] [2,3,5,6,11,85]
 (.cond (.t 85) (jo [jb 10 false] [10]
 .ret)
 .skip))
 (jo [jk 87 4 6,jm 88 2,jm 89 3,jy 90 63 [87,88,89],jm 86 90,jz 91 0 86,jz 92 1 86,jm 20 91,jm 13 92] [2,3,5,6,11,13,20]
 (jo [jk 94 4 6,jm 95 2,jm 96 3,jy 97 64 [94,95,96],jm 93 97,jz 98 0 93,jz 99 1 93,jm 21 98,jm 15 99] [2,3,5,6,11,13,15,20,21]
 (jo [jk 101 6 5,jk 102 4 6,jm 103 2,jy 104 58 [101,102,103],jm 100 104,jz 105 0 100,jz 106 1 100,jw 22 (.alloc 109 4 [.int .i64 0,.int .i64 0,.int .i64 0,.slice none 0 0]),js 4 22 105,jm 17 106] [2,3,5,6,11,13,15,17,20,21,22]
 (jo [jk 108 6 5,jk 109 4 6,jm 110 2,jy 111 65 [108,109,110],jm 107 111,jz 112 0 107,jz 113 1 107,jw 23 (.alloc 109 4 [.int .i64 0,.int .i64 0,.int .i64 0,.slice none 0 0]),js 4 23 112,jm 19 113] [3,5,6,11,13,15,17,19,20,21,22,23]
 (jo [jk 115 4 6,jy 116 36 [115],jm 114 116,jz 117 0 114,jz 118 1 114,jm 24 117,jm 25 118] [3,5,6,11,13,15,17,19,20,21,22,23,24,25]
 (jo [jk 120 4 6,jy 121 66 [120],jm 119 121,jz 122 0 119,jz 123 1 119,jm 26 122,jm 27 123] [3,5,6,11,13,15,17,19,20,21,22,23,24,25,26,27]
 (jo [jk 125 6 5,jk 126 4 6,jm 127 3,jy 128 37 [125,126,127],jm 124 128,jz 129 0 124,jz 130 1 124,jw 28 (.alloc 86 9 [.slice none 0 0,.int .i64 0,.int .i64 0,.int .i64 0,.int .i64 0,.int .i64 0,.int .i64 0,.slice none 0 0,.slice none 0 0]),js 9 28 129,jm 29 130] [3,5,6,11,13,15,17,19,20,21,22,23,24,25,26,27,28,29]
 (jo [jk 132 6 5,jk 133 4 6,jm 134 3,jy 135 67 [132,133,134],jm 131 135,jz 136 0 131,jz 137 1 131,jw 30 (.alloc 86 9 [.slice none 0 0,.int .i64 0,.int .i64 0,.int .i64 0,.int .i64 0,.int .i64 0,.int .i64 0,.slice none 0 0,.slice none 0 0]),js 9 30 136,jm 31 137] [11,13,15,17,19,20,21,22,23,24,25,26,27,28,29,30,31]
 (jo [jm 138 11,jm 139 138,ja 139 (jm 140 20),ja 139 (jm 141 21),ja 139 (jy 142 68 [140,141]),jp 143 139 142,jm 144 143,ja 144 (jm 145 13),ja 144 (jm 146 15),ja 144 (jt .eql 147 145 146),jp 148 144 147,jm 149 148,ja 149 (jk 150 4 22),ja 149 (jk 151 4 23),ja 149 (jy 152 59 [150,151]),jp 153 149 152,jm 154 153,ja 154 (jm 155 17),ja 154 (jm 156 19),ja 154 (jt .eql 157 155 156),jp 158 154 157,jm 159 158,ja 159 (jm 160 24),ja 159 (jm 161 26),ja 159 (jy 162 68 [160,161]),jp 163 159 162,jm 164 163,ja 164 (jm 165 25),ja 164 (jm 166 27),ja 164 (jt .eql 167 165 166),jp 168 164 167,jm 169 168,ja 169 (jk 170 9 28),ja 169 (jk 171 9 30),ja 169 (jy 172 69 [170,171]),jp 173 169 172,jm 174 173,ja 174 (jm 175 29),ja 174 (jm 176 31),ja 174 (jt .eql 177 175 176),jp 178 174 177,jm 10 178] [10]
 .ret))))))))))))))))),[.t 10]⟩
theorem k15:chkF Tryz.prog Tryz.f15 c15=true:=by kernel_rfl
theorem thin_bnd {r:Rgr} (h:thinB r=true):r.sheets.length≤128∧r.reads.length≤128∧r.stns.length≤40∧(∀ s∈r.stns,s.heights.length≤40)∧∀ f∈r.sheets,fldC f:=by
  unfold thinB at h
  simp only [Bool.and_eq_true,Bool.not_eq_true',Bool.or_eq_false_iff,Bool.and_eq_false_iff,decide_eq_false_iff_not,List.all_eq_true,decide_eq_true_eq] at h
  obtain ⟨h1,h2,h3⟩:=h
  refine ⟨by omega,by omega,by omega,h3,fun f hf=>?_⟩
  obtain ⟨⟨g1,g2⟩,g3⟩:=h2 f hf
  exact ⟨slight_C g1,by omega,by omega⟩
theorem small_bnd {b:Bse} (h:smallB b=true):b.stns.length≤100∧∀ s∈b.stns,s.heights.length≤40:=by
  unfold smallB at h
  simp only [Bool.and_eq_true,Bool.not_eq_true',Bool.or_eq_false_iff,Bool.and_eq_false_iff,decide_eq_false_iff_not,List.all_eq_true,decide_eq_true_eq] at h
  exact ⟨by omega,h.2⟩
theorem weekE_sz (b:Bse) (r:Rgr) (w:Int) (hr:rgrSz r):bseSz (weekE b r w).1.base∧fldsSz (weekE b r w).1.sheets∧(weekE b r w).1.reads.length < 9223372036854775808:=by
  have h0:bseSz wk0.base∧fldsSz wk0.sheets∧wk0.reads.length < 9223372036854775808:=⟨⟨by decide,fun s hs=>by cases hs⟩,⟨by decide,fun s hs=>by cases hs⟩,by decide⟩
  have h1:bseSz (weekT b r w).base∧fldsSz (weekT b r w).sheets∧(weekT b r w).reads.length < 9223372036854775808:=by
    refine ⟨hr.2.2.1,⟨?_,fun f hf=>hr.1.2 f ?_⟩,Nat.lt_of_le_of_lt (List.length_filter_le _ _) hr.2.1⟩
    · show (srtF _).length < _
      rw [srtF_len]; exact Nat.lt_of_le_of_lt (List.length_filter_le _ _) hr.1.1
    · exact (List.mem_filter.1 (srtF_mem.1 hf)).1
  unfold weekE
  split
  · exact h0
  · split
    · exact h0
    · split
      · exact h0
      · exact h1
theorem Reads_law (b:Bse) (r:Rgr) (s w:Int) (m:Nm) (hb:bseSz b) (hr:rgrSz r):Pure Tryz.prog 15 [.agg b.cs,.agg r.cs,n s,n w,.agg m.cs] (bl true):=by
  refine Pure.of_body Tryz.call15 Tryz.func15 k15 (Nat.le_of_ble_eq_true rfl) ?_
  unfold c15
  have s1:=small_spec b hb
  have s2:=thin_spec r hr
  have z1:smallB b=true→_:=small_bnd
  have z2:thinB r=true→_:=thin_bnd
  generalize smallB b=c1 at s1 z1
  generalize thinB r=c2 at s2 z2
  cases c1
  · ((refine Ay (And.intro @awake_spec @s1) ?_;repeat' first|exact True.intro|refine Cj.mk ?_ ?_)<;>intros<;>refine hD_ ?_)
    all_goals first | (exfalso; omega) | exact Frz.eq rfl (by simp)
  cases c2
  · ((refine Ay (And.intro @awake_spec (And.intro @s1 @s2)) ?_;repeat' first|exact True.intro|refine Cj.mk ?_ ?_)<;>intros<;>refine hD_ ?_)
    all_goals first | (exfalso; omega) | exact Frz.eq rfl (by simp)
  obtain ⟨b1,b2⟩:=z1 rfl
  obtain ⟨r1,r2,r3,r4,r5⟩:=z2 rfl
  have a1:=SheetOf_spec r hr.1.1 s w
  have a2:=rSheetOf_spec r hr.1.1 s w
  have a3:=SheetBy_spec r hr.1.1 m
  have a4:=rSheetBy_spec r hr.1.1 m
  have a5:=aReadsOf_spec r s w (by omega)
  have a6:=rReadsOf_spec r s w (by omega)
  have hh:∀ x∈r.stns++b.stns,x.heights.length≤40:=fun x hx=>by
    rcases List.mem_append.1 hx with h | h
    · exact r4 x h
    · exact b2 x h
  have a7:=aStationOf_spec b hb r s (by omega) (fun x hx=>by have:=hh x hx; omega) (by omega)
  have a8:=rStnOf_spec b hb r s (by omega) (by omega)
  have a9:=Weeks_spec r (by omega) (by omega)
  have a10:=rWeeks_spec r (by omega) (by omega)
  have a11:=WeekOf_of sortF b hb r w (Nat.lt_of_le_of_lt (List.length_filter_le _ _) (by omega)) (by omega) (fun x hx=>by have:=r4 x hx; omega) r5 (by omega) (by omega)
  have a12:=rWeekOf_spec b hb r w (by omega) (fun x hx=>by have:=r4 x hx; omega) (by omega) (by omega)
  have e1:=sameInt (readsOf r.reads s w) (readsOf r.reads s w) (by have:=readsOf_len r.reads s w; omega) (by have:=readsOf_len r.reads s w; omega)
  rw [decide_eq_true rfl] at e1
  obtain ⟨q1,q2,q3⟩:=weekE_sz b r w hr
  have e2:=sameWeek_spec (weekE b r w).1 (weekE b r w).1 q1 q1 q2 q2 q3 q3
  rw [decide_eq_true rfl] at e2
  have hsb:(stnBack b r s).1.heights.length < 9223372036854775808:=by
    unfold stnBack
    split
    · decide
    · split
      · rename_i hf
        have:=hh _ (List.mem_of_find?_eq_some hf)
        exact Nat.lt_of_le_of_lt this (by decide)
      · decide
  have e3:=sameStn_spec (stnBack b r s).1 (stnBack b r s).1 hsb hsb
  rw [decide_eq_true rfl] at e3
  have hwl:(weeksT r).length < 9223372036854775808:=by
    have h1:=(weeksT_spec r).1
    have h2:(weeksT r).Nodup:=h1.imp fun {x y} h e=>by omega
    have h3:weeksT r ⊆ r.sheets.map Fld.week++r.reads.map Rd.week:=fun x hx=>((weeksT_spec r).2 x).1 hx
    have h4:=nodup_le h2 h3
    rw [List.length_append,List.length_map,List.length_map] at h4
    omega
  have e4:=sameInt (weeksT r) (weeksT r) hwl hwl
  rw [decide_eq_true rfl] at e4
  clear q1 q2 q3 hsb hh r1 r2 r3 r4 r5 b1 b2 z1 z2
  generalize (foundE (sheetAt r.sheets s w)).1=t1 at a1 a2
  generalize (foundE (sheetAt r.sheets s w)).2=t2 at a1 a2
  generalize (foundE (sheetBy r.sheets m)).1=t3 at a3 a4
  generalize (foundE (sheetBy r.sheets m)).2=t4 at a3 a4
  generalize readsOf r.reads s w=t5 at a5 a6 e1
  generalize (stnBack b r s).1=t6 at a7 a8 e3
  generalize (stnBack b r s).2=t7 at a7 a8
  generalize weeksT r=t8 at a9 a10 e4
  generalize (weekE b r w).1=t9 at a11 a12 e2
  generalize (weekE b r w).2=t10 at a11 a12
  ((refine Ay (And.intro @awake_spec (And.intro @s1 (And.intro @s2 (And.intro @a1 (And.intro @a2 (And.intro @a3 (And.intro @a4 (And.intro @a5 (And.intro @a6 (And.intro @a7 (And.intro @a8 (And.intro @a9 (And.intro @a10 (And.intro @a11 (And.intro @a12 (And.intro @e1 (And.intro @e2 (And.intro @e3 @e4)))))))))))))))))) ?_;repeat' first|exact True.intro|refine Cj.mk ?_ ?_)<;>intros<;>refine hD_ ?_)
  all_goals try (exfalso; omega)
  all_goals exact Frz.eq rfl (by simp)
end Go.Proofs.YtolgelipcgcbhaaGreat
namespace Go.Abs
open Go
set_option linter.unusedVariables false
set_option linter.unusedSimpArgs false
structure Opens (P:Program) (t:TypeId) (α:Type) (row:α→List AV) (Pr:α→Prop):Prop where
  go:∀ {H:Type} (enc:TypeId × Value→H) (w:World) (base:Nat) (sp:Nat→Bool) (held:Bool) (fuel:Nat) (cs:List Value) (x:DataW H × List MemPlace),
    DataW.trod enc P w base sp held fuel t cs=some x →
    ∃ a:α,Pr a∧cs.length=(row a).length∧∀ i,i < cs.length→(cs.getD i undef).oneCell'=true∧RV w (fun _=>False) nob [] ((row a).getD i .any) (cs.getD i undef)
variable {P:Program}
theorem Opens.to {t:TypeId} {α β:Type} {row:α→List AV} {row':β→List AV} {Pr:α→Prop} {Pr':β→Prop} (h:Opens P t α row Pr) (f:α→β) (hr:∀ a,row' (f a)=row a) (hp:∀ a,Pr a→Pr' (f a)):Opens P t β row' Pr' :=
  ⟨fun enc w base sp held fuel cs x hx =>
    let ⟨a,h1,h2,h3⟩:=h.go enc w base sp held fuel cs x hx
    ⟨f a,hp a h1,by rw [hr]; exact h2,fun i hi=>by rw [hr]; exact h3 i hi⟩⟩
theorem opens_int {t:TypeId} {k:IntKind} (ht:P.underlying t=some (.int k)):Opens P t Int (fun z=>[.v (.int k z)]) (fun z=>(Lit.int k z).wf=true):=by
  constructor
  intro H enc w base sp held fuel cs x hx
  cases fuel with
  | zero=>simp [DataW.trod] at hx
  | succ m =>
    unfold DataW.trod at hx
    rw [ht] at hx
    split at hx <;> try (simp_all; done)
    rename_i k0 k' z heq
    simp only [Option.some.injEq,TypeDesc.int.injEq] at heq
    split at hx
    · rename_i hk
      obtain ⟨rfl,hw⟩:=hk
      subst heq
      refine ⟨z,hw,rfl,fun i hi=>?_⟩
      obtain rfl:i=0:=by simpa using hi
      exact ⟨rfl,.v _⟩
    · cases hx
theorem opens_slice {t e:TypeId} {k:Nat} {α:Type} {row:α→List AV} {Pr:α→Prop} (ht:P.underlying t=some (.slice e)) (hk:P.cellsOf e=k) (hk0:k≠0) (h:Opens P e α row Pr) (hl:∀ a,(row a).length=k) :
    Opens P t (List α) (fun l=>[.sl k (l.map row)]) (fun l=>l.length < 9223372036854775808∧∀ a∈l,Pr a):=by
  constructor
  intro H enc w base sp held fuel cs x hx
  rcases DataW.trod_slice ht hx with ⟨rfl,_⟩ | ⟨a,len,cap,elems,rest,m,rfl,rfl,rfl,hb,hlc,hcap,hlen,hel,hsp,hns⟩
  · refine ⟨[],⟨by simp,fun a ha=>absurd ha (List.not_mem_nil)⟩,rfl,fun i hi=>?_⟩
    obtain rfl:i=0:=by simpa using hi
    exact ⟨rfl,.slnil k⟩
  · have hlen2:len < 9223372036854775808:=by unfold maxLen at hcap; omega
    have each:∀ i,i < len→∃ (b:α) (c1:List Value),Pr b∧c1.length=k∧w.cells? base (a.add (i * k)) k=some c1∧∀ j,j < k→(c1.getD j undef).oneCell'=true∧RV w (fun _=>False) nob [] ((row b).getD j .any) (c1.getD j undef):=by
      intro i hi
      have h1:=hel i hi
      rw [hk,List.getElem?_eq_getElem (by omega)] at h1
      simp only [Option.bind_eq_some_iff] at h1
      obtain ⟨c1,hc1,hy⟩:=h1
      obtain ⟨b,hp,hlb,hr⟩:=h.go enc w base sp held m c1 _ hy
      have hl1:=(World.cells?_some hc1).2.1
      exact ⟨b,c1,hp,hl1,hc1,fun j hj=>hr j (by omega)⟩
    by_cases h0:len=0
    · subst h0
      refine ⟨[],⟨by simp,fun a ha=>absurd ha (List.not_mem_nil)⟩,rfl,fun i hi=>?_⟩
      obtain rfl:i=0:=by simpa using hi
      exact ⟨rfl,.slemp k a cap⟩
    ·
      have hspot:a.spot=none:=by
        obtain ⟨b,c1,_,hl1,hc1,_⟩:=each 0 (by omega)
        have h2:=(World.cells?_some hc1).2.2 0 (by omega)
        rw [List.getElem?_eq_getElem (by omega)] at h2
        have e:(a.add (0 * k)).add 0=a:=by simp [Addr.add]
        rw [e] at h2
        unfold World.cell? at h2
        split at h2
        · split at h2
          · cases h2
          · rename_i hs; simpa using hs
        · cases h2
      obtain ⟨bl,off,spot⟩:=a
      simp only at hspot
      subst hspot
      have hadd:∀ i j,((⟨bl,off,none⟩:Addr).add (i * k)).add j=⟨bl,off+i * k+j,none⟩:=by
        intro i j
        simp only [Addr.add]
        split <;> split <;> simp_all <;> omega
      let B:Nat→α:=fun i=>if hi:i < len then Classical.choose (each i hi) else Classical.choose (each 0 (by omega))
      have hB:∀ i,i < len→∃ c1:List Value,Pr (B i)∧c1.length=k∧w.cells? base ((⟨bl,off,none⟩:Addr).add (i * k)) k=some c1∧∀ j,j < k→(c1.getD j undef).oneCell'=true∧RV w (fun _=>False) nob [] ((row (B i)).getD j .any) (c1.getD j undef):=by
        intro i hi
        have:=Classical.choose_spec (each i hi)
        simp only [B,hi,dif_pos]
        exact this
      have hcell:∀ i j,i < len→j < k→w.cell? ⟨bl,off+i * k+j,none⟩=some ((w.cell? ⟨bl,off+i * k+j,none⟩).getD undef)∧((w.cell? ⟨bl,off+i * k+j,none⟩).getD undef).oneCell'=true ∧
          RV w (fun _=>False) nob [] ((row (B i)).getD j .any) ((w.cell? ⟨bl,off+i * k+j,none⟩).getD undef):=by
        intro i j hi hj
        obtain ⟨c1,_,hl1,hc1,hr⟩:=hB i hi
        have h2:=(World.cells?_some hc1).2.2 j hj
        rw [hadd,List.getElem?_eq_getElem (by omega)] at h2
        rw [h2]
        have h3:=hr j hj
        rw [List.getD_eq_getElem?_getD,List.getElem?_eq_getElem (show j < c1.length by omega)] at h3
        exact ⟨rfl,h3⟩
      refine ⟨(List.range len).map B,⟨by simpa using hlen2,fun b hb=>?_⟩,rfl,fun i hi=>?_⟩
      · obtain ⟨i,hi,rfl⟩:=List.mem_map.1 hb
        obtain ⟨c1,hp,_⟩:=hB i (List.mem_range.1 hi)
        exact hp
      · obtain rfl:i=0:=by simpa using hi
        refine ⟨rfl,?_⟩
        have hget:∀ e,e < len→(((List.range len).map B).map row).getD e []=row (B e):=fun e he=>by simp [List.getD_eq_getElem?_getD,he]
        have hlm:(((List.range len).map B).map row).length=len:=by simp
        have:=RV.sl (w:=w) (X:=fun _=>False) (β:=nob) (σ:=[]) k (((List.range len).map B).map row) bl off cap (fun i j=>(w.cell? ⟨bl,off+i * k+j,none⟩).getD undef) (by rw [hlm]; exact hlc)
          (fun e he=>by rw [hlm] at he; rw [hget e he]; exact hl _) (fun e he j hj=>by rw [hlm] at he; exact (hcell e j he hj).1) (fun e j he hj hx=>hx)
          (fun e j he hj=>by rw [hlm] at he; exact (hcell e j he hj).2.1) (fun e j he hj=>by rw [hlm] at he; rw [hget e he]; exact (hcell e j he hj).2.2)
        rw [hlm] at this
        exact this
structure OpensF (P:Program) (fs:List Field) (off:Nat) (α:Type) (row:α→List AV) (Pr:α→Prop):Prop where
  go:∀ {H:Type} (enc:TypeId × Value→H) (w:World) (base:Nat) (sp:Nat→Bool) (held:Bool) (fuel:Nat) (cs:List Value) (xs:List (DataW H × List MemPlace)),
    (fs.mapM fun f=>DataW.trod enc P w base sp held fuel f.type ((cs.drop f.offset).take (P.cellsOf f.type)))=some xs →
    ∃ a:α,Pr a∧∀ i,i < (row a).length→off+i < cs.length∧(cs.getD (off+i) undef).oneCell'=true∧RV w (fun _=>False) nob [] ((row a).getD i .any) (cs.getD (off+i) undef)
theorem opensF_nil (off:Nat):OpensF P [] off Unit (fun _=>[]) (fun _=>True) :=
  ⟨fun enc w base sp held fuel cs xs _=>⟨(),trivial,fun i hi=>absurd hi (Nat.not_lt_zero _)⟩⟩
theorem opensF_cons {f:Field} {fs:List Field} {off k:Nat} {α β:Type} {row:α→List AV} {rows:β→List AV} {Pr:α→Prop} {Prs:β→Prop} (ho:f.offset=off) (hk:P.cellsOf f.type=k) (h:Opens P f.type α row Pr)
    (hl:∀ a,(row a).length=k) (hs:OpensF P fs (off+k) β rows Prs):OpensF P (f::fs) off (α × β) (fun p=>row p.1++rows p.2) (fun p=>Pr p.1∧Prs p.2):=by
  constructor
  intro H enc w base sp held fuel cs xs hx
  rw [List.mapM_cons] at hx
  simp only [Option.bind_eq_bind,Option.bind_eq_some_iff] at hx
  obtain ⟨y,hy,ys,hys,_⟩:=hx
  rw [ho,hk] at hy
  obtain ⟨a,hp,hla,hr⟩:=h.go enc w base sp held fuel _ _ hy
  obtain ⟨b,hq,hr'⟩:=hs.go enc w base sp held fuel cs ys hys
  rw [hl] at hla
  have hlen:off+k≤cs.length∨k=0:=by simp at hla; omega
  refine ⟨(a,b),⟨hp,hq⟩,fun i hi=>?_⟩
  by_cases h1:i < k
  · have hi':i < ((cs.drop off).take k).length:=by omega
    obtain ⟨g1,g2⟩:=hr i hi'
    have e:((cs.drop off).take k).getD i undef=cs.getD (off+i) undef:=by
      simp only [List.getD_eq_getElem?_getD,List.getElem?_take,h1,if_true,List.getElem?_drop]
    rw [e] at g1 g2
    refine ⟨by omega,g1,?_⟩
    rw [getD_append,if_pos (by rw [hl]; exact h1)]
    exact g2
  · have:=hr' (i - k) (by simp [hl] at hi; omega)
    rw [show off+k+(i - k)=off+i by omega] at this
    refine ⟨this.1,this.2.1,?_⟩
    rw [getD_append,if_neg (by rw [hl]; omega),hl]
    exact this.2.2
theorem opens_struct {t:TypeId} {fs:Array Field} {k:Nat} {α:Type} {row:α→List AV} {Pr:α→Prop} (ht:P.underlying t=some (.struct fs)) (hk:P.cellsOf t=k) (hl:∀ a,(row a).length=k) (h:OpensF P fs.toList 0 α row Pr) :
    Opens P t α row Pr:=by
  constructor
  intro H enc w base sp held fuel cs x hx
  cases fuel with
  | zero=>simp [DataW.trod] at hx
  | succ m =>
    unfold DataW.trod at hx
    rw [ht] at hx
    have hx':(if cs.length=P.cellsOf t then (fs.toList.mapM fun f=>DataW.trod enc P w base sp held m f.type ((cs.drop f.offset).take (P.cellsOf f.type))).map (fun xs=>((DataW.agg (xs.map (·.1)),xs.flatMap (·.2)):DataW H × List MemPlace)) else none)=some x:=by
      split at hx <;> first | (simp at *; done) | skip
      all_goals (try (rename_i heq; cases heq))
      exact hx
    split at hx'
    case isFalse=>cases hx'
    rename_i hlen
    rw [Option.map_eq_some_iff] at hx'
    obtain ⟨xs,hxs,_⟩:=hx'
    obtain ⟨a,hp,hr⟩:=h.go enc w base sp held m cs xs hxs
    refine ⟨a,hp,by rw [hl,hlen,hk],fun i hi=>?_⟩
    have:=hr i (by rw [hl,← hk,← hlen]; exact hi)
    rw [Nat.zero_add] at this
    exact this.2
theorem Opens.one {t:TypeId} {α:Type} {av:α→AV} {Pr:α→Prop} (h:Opens P t α (fun a=>[av a]) Pr) {H:Type} {enc:TypeId × Value→H} {w:World} {base:Nat} {sp:Nat→Bool} {held:Bool} {v:Value} {d:DataW H} {ps:List MemPlace}
    (hv:v.oneCell'=true) (hx:DataW.Trod enc P w base sp held t v d ps):∃ a,Pr a∧RV w (fun _=>False) nob [] (av a) v:=by
  obtain ⟨fuel,hx⟩:=hx
  obtain ⟨a,hp,hl,hr⟩:=h.go enc w base sp held fuel _ _ hx
  have e:v.cells.toList=[v]:=by cases v <;> first | rfl | simp [Value.oneCell'] at hv
  rw [e] at hr
  exact ⟨a,hp,(hr 0 (by simp)).2⟩
theorem Opens.agg {t:TypeId} {α:Type} {row:α→List AV} {Pr:α→Prop} (h:Opens P t α row Pr) {H:Type} {enc:TypeId × Value→H} {w:World} {base:Nat} {sp:Nat→Bool} {held:Bool} {cs:Array Value} {d:DataW H} {ps:List MemPlace}
    (hx:DataW.Trod enc P w base sp held t (.agg cs) d ps):∃ a,Pr a∧RV w (fun _=>False) nob [] (.agg (row a)) (.agg cs):=by
  obtain ⟨fuel,hx⟩:=hx
  obtain ⟨a,hp,hl,hr⟩:=h.go enc w base sp held fuel _ _ hx
  have e:(Value.agg cs).cells.toList=cs.toList:=rfl
  rw [e] at hl hr
  refine ⟨a,hp,.agg _ _ (by simpa using hl) (fun i hi=>?_) fun i hi=>?_⟩
  · have:=(hr i (by rw [hl]; exact hi)).1
    simpa [List.getD_eq_getElem?_getD,Array.getD_eq_getD_getElem?] using this
  · have:=(hr i (by rw [hl]; exact hi)).2
    simpa [List.getD_eq_getElem?_getD,Array.getD_eq_getD_getElem?] using this
end Go.Abs
namespace Go.Proofs.YtolgelipcgcbhaaGreat
open Go.Abs
open Nat (reduceAdd reduceSub reduceLT reduceLeDiff reduceMul reduceEqDiff)
set_option linter.unusedVariables false
set_option linter.unusedSimpArgs false
set_option maxHeartbeats 4000000
set_option maxRecDepth 100000
open Go.ChangeShapes Go.WideShapes Go.ChangeAt Go.RowKit
theorem own:ownKnob Tryz.prog.godebug=none:=by kernel_rfl
theorem laidOut:laidOutB Tryz.prog=true:=by kernel_rfl
theorem mapsR:mapsRowed Tryz.prog=true:=by kernel_rfl
theorem stopsN:(Tryz.prog.stops == [])=true:=by kernel_rfl
theorem knobsN:(Tryz.prog.stopKnobs == [])=true:=by kernel_rfl
theorem plainK:(Rows.archiveOrderRow.plainKeys == Tryz.prog.plainKeys)=true:=by kernel_rfl
theorem heardS:Tryz.prog.stopsHeard=true:=by kernel_rfl
theorem entersM:Tryz.prog.mayEnter=true:=by kernel_rfl
theorem liftsF:(Rows.archiveOrderRow.lifted == Tryz.prog.liftsFinal)=true:=by kernel_rfl
theorem makeP:(Tryz.prog.make == some Rows.archiveOrderRow.make)=true:=by kernel_rfl
theorem bband {a b:Bool} (h:a=true) (h':b=true):(a && b)=true:=by rw [h,h']; rfl
theorem cells3:Tryz.prog.cellsOf 3=1:=by kernel_rfl
theorem cells48:Tryz.prog.cellsOf 48=2:=by kernel_rfl
theorem cells226:Tryz.prog.cellsOf 226=3:=by kernel_rfl
theorem cells164:Tryz.prog.cellsOf 164=3:=by kernel_rfl
theorem cells50:Tryz.prog.cellsOf 50=10:=by kernel_rfl
theorem cells51:Tryz.prog.cellsOf 51=1:=by kernel_rfl
theorem cells52:Tryz.prog.cellsOf 52=1:=by kernel_rfl
theorem cells53:Tryz.prog.cellsOf 53=1:=by kernel_rfl
theorem cells54:Tryz.prog.cellsOf 54=1:=by kernel_rfl
theorem cells56:Tryz.prog.cellsOf 56=2:=by kernel_rfl
theorem cells58:Tryz.prog.cellsOf 58=4:=by kernel_rfl
theorem cells60:Tryz.prog.cellsOf 60=18:=by kernel_rfl
theorem cells62:Tryz.prog.cellsOf 62=3:=by kernel_rfl
theorem cells64:Tryz.prog.cellsOf 64=5:=by kernel_rfl
theorem cells66:Tryz.prog.cellsOf 66=3:=by kernel_rfl
theorem cells29:Tryz.prog.cellsOf 29=2:=by kernel_rfl
theorem cells107:Tryz.prog.cellsOf 107=1:=by kernel_rfl
theorem cells109:Tryz.prog.cellsOf 109=4:=by kernel_rfl
theorem cells22:Tryz.prog.cellsOf 22=1:=by kernel_rfl
theorem cells24:Tryz.prog.cellsOf 24=2:=by kernel_rfl
theorem cells26:Tryz.prog.cellsOf 26=6:=by kernel_rfl
theorem cells70:Tryz.prog.cellsOf 70=1:=by kernel_rfl
theorem cells35:Tryz.prog.cellsOf 35=1:=by kernel_rfl
theorem cells72:Tryz.prog.cellsOf 72=24:=by kernel_rfl
theorem cells33:Tryz.prog.cellsOf 33=1:=by kernel_rfl
theorem cells34:Tryz.prog.cellsOf 34=1:=by kernel_rfl
theorem cells37:Tryz.prog.cellsOf 37=4:=by kernel_rfl
def rgSz (r:Rgr):Prop:=(r.sheets.length < 9223372036854775808∧∀ f∈r.sheets,shtSz f.sheet∧f.marks.length < 9223372036854775808∧f.names.length < 9223372036854775808)∧r.reads.length < 9223372036854775808∧stnSz r.stns∧r.confl.length < 9223372036854775808
theorem op3:Opens Tryz.prog 3 Int (fun z=>[n z]) (fun _=>True):=(opens_int Tryz.underlying3).to id (fun _=>rfl) (fun _ _=>trivial)
theorem op48:Opens Tryz.prog 48 Sp Sp.cs (fun _=>True) :=
  (opens_struct Tryz.underlying48 cells48 (fun _=>rfl) (opensF_cons rfl cells3 op3 (fun _=>rfl) (opensF_cons rfl cells3 op3 (fun _=>rfl) (opensF_nil _)))).to (fun a=>⟨a.1,a.2.1⟩) (fun _=>rfl) (fun _ _=>trivial)
theorem op226:Opens Tryz.prog 226 Mk Mk.cs (fun _=>True) :=
  (opens_struct Tryz.underlying226 cells226 (fun _=>rfl) (opensF_cons rfl cells3 op3 (fun _=>rfl) (opensF_cons rfl cells48 op48 (fun _=>rfl) (opensF_nil _)))).to (fun a=>⟨a.1,a.2.1⟩) (fun _=>rfl) (fun _ _=>trivial)
theorem op62:Opens Tryz.prog 62 Mk Mk.cs (fun _=>True) :=
  (opens_struct Tryz.underlying62 cells62 (fun _=>rfl) (opensF_cons rfl cells3 op3 (fun _=>rfl) (opensF_cons rfl cells48 op48 (fun _=>rfl) (opensF_nil _)))).to (fun a=>⟨a.1,a.2.1⟩) (fun _=>rfl) (fun _ _=>trivial)
theorem op164:Opens Tryz.prog 164 Pt Pt.cs (fun _=>True) :=
  (opens_struct Tryz.underlying164 cells164 (fun _=>rfl) (opensF_cons rfl cells3 op3 (fun _=>rfl) (opensF_cons rfl cells3 op3 (fun _=>rfl) (opensF_cons rfl cells3 op3 (fun _=>rfl) (opensF_nil _))))).to (fun a=>⟨a.1,a.2.1,a.2.2.1⟩) (fun _=>rfl) (fun _ _=>trivial)
theorem op50:Opens Tryz.prog 50 Ppr Ppr.cs (fun _=>True) :=
  (opens_struct Tryz.underlying50 cells50 (fun _=>rfl) (opensF_cons rfl cells3 op3 (fun _=>rfl) (opensF_cons rfl cells3 op3 (fun _=>rfl) (opensF_cons rfl cells3 op3 (fun _=>rfl) (opensF_cons rfl cells3 op3 (fun _=>rfl) (opensF_cons rfl cells3 op3 (fun _=>rfl) (opensF_cons rfl cells3 op3 (fun _=>rfl) (opensF_cons rfl cells48 op48 (fun _=>rfl) (opensF_cons rfl cells48 op48 (fun _=>rfl) (opensF_nil _)))))))))).to (fun a=>⟨a.1,a.2.1,a.2.2.1,a.2.2.2.1,a.2.2.2.2.1,a.2.2.2.2.2.1,a.2.2.2.2.2.2.1,a.2.2.2.2.2.2.2.1⟩) (fun _=>rfl) (fun _ _=>trivial)
theorem op51:Opens Tryz.prog 51 (List Pt) (fun l=>[ptS l]) (fun l=>l.length < 9223372036854775808) :=
  (opens_slice Tryz.underlying51 cells164 (by decide) op164 (fun _=>rfl)).to id (fun _=>rfl) (fun _ h=>h.1)
theorem op52:Opens Tryz.prog 52 (List Int) (fun l=>[inS l]) (fun l=>l.length < 9223372036854775808) :=
  (opens_slice Tryz.underlying52 cells3 (by decide) op3 (fun _=>rfl)).to id (fun _=>rfl) (fun _ h=>h.1)
theorem op53:Opens Tryz.prog 53 (List Sp) (fun l=>[spnS l]) (fun l=>l.length < 9223372036854775808) :=
  (opens_slice Tryz.underlying53 cells48 (by decide) op48 (fun _=>rfl)).to id (fun _=>rfl) (fun _ h=>h.1)
theorem op54:Opens Tryz.prog 54 (List Mk) (fun l=>[mkS l]) (fun l=>l.length < 9223372036854775808) :=
  (opens_slice Tryz.underlying54 cells226 (by decide) op226 (fun _=>rfl)).to id (fun _=>rfl) (fun _ h=>h.1)
theorem op70:Opens Tryz.prog 70 (List Mk) (fun l=>[mkS l]) (fun l=>l.length < 9223372036854775808) :=
  (opens_slice Tryz.underlying70 cells62 (by decide) op62 (fun _=>rfl)).to id (fun _=>rfl) (fun _ h=>h.1)
theorem op56:Opens Tryz.prog 56 (List Sp × List Mk) (fun d=>[spnS d.1,mkS d.2]) (fun d=>d.1.length < 9223372036854775808∧d.2.length < 9223372036854775808) :=
  (opens_struct Tryz.underlying56 cells56 (fun _=>rfl) (opensF_cons rfl cells53 op53 (fun _=>rfl) (opensF_cons rfl cells54 op54 (fun _=>rfl) (opensF_nil _)))).to (fun a=>⟨a.1,a.2.1⟩) (fun _=>rfl) (fun _ h=>⟨h.1,h.2.1⟩)
theorem op58:Opens Tryz.prog 58 Pn Pn.cs (fun _=>True) :=
  (opens_struct Tryz.underlying58 cells58 (fun _=>rfl) (opensF_cons rfl cells3 op3 (fun _=>rfl) (opensF_cons rfl cells48 op48 (fun _=>rfl) (opensF_cons rfl cells3 op3 (fun _=>rfl) (opensF_nil _))))).to (fun a=>⟨a.1,a.2.1,a.2.2.1⟩) (fun _=>rfl) (fun _ _=>trivial)
theorem op60:Opens Tryz.prog 60 Sht Sht.cs shtSz :=
  (opens_struct Tryz.underlying60 cells60 (fun _=>rfl) (opensF_cons rfl cells50 op50 (fun _=>rfl) (opensF_cons rfl cells51 op51 (fun _=>rfl) (opensF_cons rfl cells52 op52 (fun _=>rfl) (opensF_cons rfl cells56 op56 (fun _=>rfl) (opensF_cons rfl cells58 op58 (fun _=>rfl) (opensF_nil _))))))).to (fun a=>⟨a.1,a.2.1,a.2.2.1,a.2.2.2.1.1,a.2.2.2.1.2,a.2.2.2.2.1⟩) (fun _=>rfl) (fun _ h=>⟨h.2.1,h.2.2.1,h.2.2.2.1.1,h.2.2.2.1.2⟩)
theorem op64:Opens Tryz.prog 64 Rd Rd.cs (fun _=>True) :=
  (opens_struct Tryz.underlying64 cells64 (fun _=>rfl) (opensF_cons rfl cells3 op3 (fun _=>rfl) (opensF_cons rfl cells3 op3 (fun _=>rfl) (opensF_cons rfl cells3 op3 (fun _=>rfl) (opensF_cons rfl cells48 op48 (fun _=>rfl) (opensF_nil _)))))).to (fun a=>⟨a.1,a.2.1,a.2.2.1,a.2.2.2.1⟩) (fun _=>rfl) (fun _ _=>trivial)
theorem op66:Opens Tryz.prog 66 Hgt Hgt.cs (fun _=>True) :=
  (opens_struct Tryz.underlying66 cells66 (fun _=>rfl) (opensF_cons rfl cells3 op3 (fun _=>rfl) (opensF_cons rfl cells48 op48 (fun _=>rfl) (opensF_nil _)))).to (fun a=>⟨a.1,a.2.1⟩) (fun _=>rfl) (fun _ _=>trivial)
theorem op29:Opens Tryz.prog 29 Nm Nm.cs (fun _=>True) :=
  (opens_struct Tryz.underlying29 cells29 (fun _=>rfl) (opensF_cons rfl cells3 op3 (fun _=>rfl) (opensF_cons rfl cells3 op3 (fun _=>rfl) (opensF_nil _)))).to (fun a=>⟨a.1,a.2.1⟩) (fun _=>rfl) (fun _ _=>trivial)
theorem op107:Opens Tryz.prog 107 (List Hgt) (fun l=>[hgS l]) (fun l=>l.length < 9223372036854775808) :=
  (opens_slice Tryz.underlying107 cells66 (by decide) op66 (fun _=>rfl)).to id (fun _=>rfl) (fun _ h=>h.1)
theorem op109:Opens Tryz.prog 109 Stn Stn.cs (fun s=>s.heights.length < 9223372036854775808) :=
  (opens_struct Tryz.underlying109 cells109 (fun _=>rfl) (opensF_cons rfl cells3 op3 (fun _=>rfl) (opensF_cons rfl cells3 op3 (fun _=>rfl) (opensF_cons rfl cells3 op3 (fun _=>rfl) (opensF_cons rfl cells107 op107 (fun _=>rfl) (opensF_nil _)))))).to (fun a=>⟨a.1,a.2.1,a.2.2.1,a.2.2.2.1⟩) (fun _=>rfl) (fun _ h=>h.2.2.2.1)
theorem op22:Opens Tryz.prog 22 (List Stn) (fun l=>[snS l]) stnSz :=
  (opens_slice Tryz.underlying22 cells109 (by decide) op109 (fun _=>rfl)).to id (fun _=>rfl) (fun _ h=>h)
theorem op24:Opens Tryz.prog 24 (Int × Int) (fun d=>[n d.1,n d.2]) (fun _=>True) :=
  (opens_struct Tryz.underlying24 cells24 (fun _=>rfl) (opensF_cons rfl cells3 op3 (fun _=>rfl) (opensF_cons rfl cells3 op3 (fun _=>rfl) (opensF_nil _)))).to (fun a=>⟨a.1,a.2.1⟩) (fun _=>rfl) (fun _ _=>trivial)
theorem op26:Opens Tryz.prog 26 Bse Bse.cs bseSz :=
  (opens_struct Tryz.underlying26 cells26 (fun _=>rfl) (opensF_cons rfl cells22 op22 (fun _=>rfl) (opensF_cons rfl cells24 op24 (fun _=>rfl) (opensF_cons rfl cells3 op3 (fun _=>rfl) (opensF_cons rfl cells3 op3 (fun _=>rfl) (opensF_cons rfl cells3 op3 (fun _=>rfl) (opensF_nil _))))))).to (fun a=>⟨a.1,a.2.1.1,a.2.1.2,a.2.2.1,a.2.2.2.1,a.2.2.2.2.1⟩) (fun _=>rfl) (fun _ h=>h.1)
theorem op35:Opens Tryz.prog 35 (List Nm) (fun l=>[nmS l]) (fun l=>l.length < 9223372036854775808) :=
  (opens_slice Tryz.underlying35 cells29 (by decide) op29 (fun _=>rfl)).to id (fun _=>rfl) (fun _ h=>h.1)
theorem op34:Opens Tryz.prog 34 (List Rd) (fun l=>[rdS l]) (fun l=>l.length < 9223372036854775808) :=
  (opens_slice Tryz.underlying34 cells64 (by decide) op64 (fun _=>rfl)).to id (fun _=>rfl) (fun _ h=>h.1)
theorem op72:Opens Tryz.prog 72 Fld Fld.cs (fun f=>shtSz f.sheet∧f.marks.length < 9223372036854775808∧f.names.length < 9223372036854775808) :=
  (opens_struct Tryz.underlying72 cells72 (fun _=>rfl) (opensF_cons rfl cells29 op29 (fun _=>rfl) (opensF_cons rfl cells3 op3 (fun _=>rfl) (opensF_cons rfl cells3 op3 (fun _=>rfl) (opensF_cons rfl cells60 op60 (fun _=>rfl) (opensF_cons rfl cells70 op70 (fun _=>rfl) (opensF_cons rfl cells35 op35 (fun _=>rfl) (opensF_nil _)))))))).to (fun a=>⟨a.1,a.2.1,a.2.2.1,a.2.2.2.1,a.2.2.2.2.1,a.2.2.2.2.2.1⟩) (fun _=>rfl) (fun _ h=>⟨h.2.2.2.1,h.2.2.2.2.1,h.2.2.2.2.2.1⟩)
theorem op33:Opens Tryz.prog 33 (List Fld) (fun l=>[fdS l]) (fun l=>l.length < 9223372036854775808∧∀ f∈l,shtSz f.sheet∧f.marks.length < 9223372036854775808∧f.names.length < 9223372036854775808) :=
  (opens_slice Tryz.underlying33 cells72 (by decide) op72 (fun _=>rfl)).to id (fun _=>rfl) (fun _ h=>h)
theorem op37:Opens Tryz.prog 37 Rgr Rgr.cs rgSz :=
  (opens_struct Tryz.underlying37 cells37 (fun _=>rfl) (opensF_cons rfl cells33 op33 (fun _=>rfl) (opensF_cons rfl cells34 op34 (fun _=>rfl) (opensF_cons rfl cells22 op22 (fun _=>rfl) (opensF_cons rfl cells35 op35 (fun _=>rfl) (opensF_nil _)))))).to (fun a=>⟨a.1,a.2.1,a.2.2.1,a.2.2.2.1⟩) (fun _=>rfl) (fun _ h=>⟨h.1,h.2.1,h.2.2.1,h.2.2.2.1⟩)
section
variable {H:Type} {enc:TypeId × Value→H} {w:World} {r:Reach} {base b0:Nat} {sp:Nat→Bool} {held:Bool} {v:Value} {d:DataW H} {ps:List MemPlace}
theorem open_bse (h:Value.okWide Tryz.prog w r base 26 v) (hx:DataW.Trod enc Tryz.prog w b0 sp held 26 v d ps):∃ x:Bse,bseSz x∧RV w (fun _=>False) nob [] (.agg x.cs) v:=by
  obtain ⟨cs,rfl,_⟩:=okWide_struct Tryz.underlying26 h
  exact op26.agg hx
theorem open_nm (h:Value.okWide Tryz.prog w r base 29 v) (hx:DataW.Trod enc Tryz.prog w b0 sp held 29 v d ps):∃ x:Nm,(fun _=>True) x∧RV w (fun _=>False) nob [] (.agg x.cs) v:=by
  obtain ⟨cs,rfl,_⟩:=okWide_struct Tryz.underlying29 h
  exact op29.agg hx
theorem open_rgr (h:Value.okWide Tryz.prog w r base 37 v) (hx:DataW.Trod enc Tryz.prog w b0 sp held 37 v d ps):∃ x:Rgr,rgSz x∧RV w (fun _=>False) nob [] (.agg x.cs) v:=by
  obtain ⟨cs,rfl,_⟩:=okWide_struct Tryz.underlying37 h
  exact op37.agg hx
end
end Go.Proofs.YtolgelipcgcbhaaGreat
