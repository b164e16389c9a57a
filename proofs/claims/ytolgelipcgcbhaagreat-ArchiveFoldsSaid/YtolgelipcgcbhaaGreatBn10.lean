/- Part 10: contracts. -/
import Derived.Test.YtolgelipcgcbhaaGreatBn9
import Derived.Shelf.SortM.Plain
import Derived.Shelf.SortM.SortNone
namespace Go.Proofs.YtolgelipcgcbhaaGreat
open Go.Shelf
def Tryz.laysSlM5_f94_ren:Go.Shelf.Ren:=⟨fun | 5=>94 | 8=>162 | 7=>161 | 19=>207 | 20=>208 | 10=>198 | 11=>199 | 12=>200 | 13=>201 | 14=>202 | 15=>203 | 16=>204 | 17=>205 | 18=>206 | 30=>233 | 31=>234 | 32=>235 | 33=>236 | 34=>237 | 35=>168 | 40=>250 | n=>n,fun | 23=>52 | 25=>3 | 3=>3 | 32=>210 | 22=>52 | 0=>0 | 44=>254 | 46=>256 | 4=>4 | 36=>246 | 35=>245 | 41=>251 | 5=>5 | 9=>9 | 53=>285 | 57=>289 | 63=>299 | 64=>300 | n=>n,fun | n=>n⟩
theorem Tryz.laysSlM5_f94:Go.Proofs.SlLaysM.n5 Tryz.prog Tryz.laysSlM5_f94_ren:={
  mixed:=by kernel_rfl
  f5:=⟨Tryz.f94.name,by decide,Tryz.func94.trans (congrArg some (by kernel_rfl))⟩
  f7:=⟨Tryz.f161.name,by decide,Tryz.func161.trans (congrArg some (by kernel_rfl))⟩
  f8:=Tryz.func162.trans (congrArg some (by kernel_rfl))
  f10:=⟨Tryz.f198.name,by decide,Tryz.func198.trans (congrArg some (by kernel_rfl))⟩
  f11:=⟨Tryz.f199.name,by decide,Tryz.func199.trans (congrArg some (by kernel_rfl))⟩
  f12:=⟨Tryz.f200.name,by decide,Tryz.func200.trans (congrArg some (by kernel_rfl))⟩
  f13:=⟨Tryz.f201.name,by decide,Tryz.func201.trans (congrArg some (by kernel_rfl))⟩
  f14:=⟨Tryz.f202.name,by decide,Tryz.func202.trans (congrArg some (by kernel_rfl))⟩
  f15:=⟨Tryz.f203.name,by decide,Tryz.func203.trans (congrArg some (by kernel_rfl))⟩
  f16:=⟨Tryz.f204.name,by decide,Tryz.func204.trans (congrArg some (by kernel_rfl))⟩
  f17:=⟨Tryz.f205.name,by decide,Tryz.func205.trans (congrArg some (by kernel_rfl))⟩
  f18:=⟨Tryz.f206.name,by decide,Tryz.func206.trans (congrArg some (by kernel_rfl))⟩
  f19:=Tryz.func207.trans (congrArg some (by kernel_rfl))
  f20:=Tryz.func208.trans (congrArg some (by kernel_rfl))
  f30:=⟨Tryz.f233.name,by decide,Tryz.func233.trans (congrArg some (by kernel_rfl))⟩
  f31:=Tryz.func234.trans (congrArg some (by kernel_rfl))
  f32:=Tryz.func235.trans (congrArg some (by kernel_rfl))
  f33:=⟨Tryz.f236.name,by decide,Tryz.func236.trans (congrArg some (by kernel_rfl))⟩
  f34:=⟨Tryz.f237.name,by decide,Tryz.func237.trans (congrArg some (by kernel_rfl))⟩
  f35:=⟨Tryz.f168.name,by decide,Tryz.func168.trans (congrArg some (by kernel_rfl))⟩
  f40:=⟨Tryz.f250.name,by decide,Tryz.func250.trans (congrArg some (by kernel_rfl))⟩
  t0:=Tryz.underlying0
  a0:=Tryz.isAgg0
  z0:=Tryz.sizeOf0
  v0:=Tryz.zeroValue0
  t3:=Tryz.underlying3
  a3:=Tryz.isAgg3
  z3:=Tryz.sizeOf3
  v3:=Tryz.zeroValue3
  t4:=Tryz.underlying4
  a4:=Tryz.isAgg4
  z4:=Tryz.sizeOf4
  v4:=Tryz.zeroValue4
  t5:=Tryz.underlying5
  a5:=Tryz.isAgg5
  z5:=Tryz.sizeOf5
  v5:=Tryz.zeroValue5
  t9:=Tryz.underlying9
  a9:=Tryz.isAgg9
  z9:=Tryz.sizeOf9
  v9:=Tryz.zeroValue9
  t22:=Tryz.underlying52
  a22:=Tryz.isAgg52
  z22:=Tryz.sizeOf52
  v22:=Tryz.zeroValue52
  t23:=Tryz.underlying52
  a23:=Tryz.isAgg52
  z23:=Tryz.sizeOf52
  v23:=Tryz.zeroValue52
  t25:=Tryz.underlying3
  a25:=Tryz.isAgg3
  z25:=Tryz.sizeOf3
  v25:=Tryz.zeroValue3
  t32:=Tryz.underlying210
  a32:=Tryz.isAgg210
  z32:=Tryz.sizeOf210
  v32:=Tryz.zeroValue210
  t35:=Tryz.underlying245
  a35:=Tryz.isAgg245
  z35:=Tryz.sizeOf245
  v35:=Tryz.zeroValue245
  t36:=Tryz.underlying246
  a36:=Tryz.isAgg246
  z36:=Tryz.sizeOf246
  v36:=Tryz.zeroValue246
  t41:=Tryz.underlying251
  a41:=Tryz.isAgg251
  z41:=Tryz.sizeOf251
  v41:=Tryz.zeroValue251
  t44:=Tryz.underlying254
  a44:=Tryz.isAgg254
  z44:=Tryz.sizeOf254
  v44:=Tryz.zeroValue254
  t46:=Tryz.underlying256
  a46:=Tryz.isAgg256
  z46:=Tryz.sizeOf256
  v46:=Tryz.zeroValue256
  t53:=Tryz.underlying285
  a53:=Tryz.isAgg285
  z53:=Tryz.sizeOf285
  v53:=Tryz.zeroValue285
  t57:=Tryz.underlying289
  a57:=Tryz.isAgg289
  z57:=Tryz.sizeOf289
  v57:=Tryz.zeroValue289
  t63:=Tryz.underlying299
  a63:=Tryz.isAgg299
  z63:=Tryz.sizeOf299
  v63:=Tryz.zeroValue299
  t64:=Tryz.underlying300
  a64:=Tryz.isAgg300
  z64:=Tryz.sizeOf300
  v64:=Tryz.zeroValue300 }
open Go.Sort Go.RowKit Go.Proofs in
theorem Tryz.slices_Sort_int (blk off cap:Nat) (zs:List Int) (w:World) (hH:Holds (Value.int .i64) w blk off zs.toArray) (hblk:blk < w.heap.size) (hsz:zs.length < 4611686018427387904) :
    Calls Tryz.prog 94 #[.slice (some ⟨blk,off,none⟩) zs.length cap] w fun e w' =>
      e=.returned (.tuple #[])∧∃ n os,w'=grow (putRow (Value.int .i64) (Sort.ahead w n) blk off (zs.mergeSort fun x y=>decide (x≤y)).toArray) os:=AnyM.slices_Sort_int Tryz.laysSlM5_f94 blk off cap zs w hH hblk hsz
open Go.RowKit Go.Sort Go.Proofs in
theorem Tryz.slices_Sort_int_none (p:Option Addr) (cap:Nat) (w:World) :
    Calls Tryz.prog 94 #[.slice p 0 cap] w fun e w'=>e=.returned (.tuple #[])∧w'=w:=AnyM.slices_Sort_int_none Tryz.laysSlM5_f94 p cap w
end Go.Proofs.YtolgelipcgcbhaaGreat
namespace Go.Proofs.YtolgelipcgcbhaaGreat
open Go.Abs
open Nat (reduceAdd reduceSub reduceLT reduceLeDiff reduceMul reduceEqDiff)
open Go.Abs renaming vcC→Q0,lateX→Q1,strp→Q2,binA→Q3,elems→Q4,cells→Q5,scalar→Q6,eqC→Q7,keyA→Q8,intsA→Q9,lookA→QA,ofVs→QB,mpOf→QC
set_option linter.unusedVariables false
set_option linter.unusedSimpArgs false
set_option maxHeartbeats 4000000
set_option maxRecDepth 100000
def c95:CF:=⟨61,(jo [jn 2] [0]
 (.seq (jo [jm 6 0,je 7 6,ju .lss 8 7 2] [0,8]
 (.cond (.t 8) (jo [jm 9 0,jm 2 9] [2]
 .ret)
 .skip))
 (.seq (jo [jc 3 1] [0,3]
 (.block 0 (.loop (.seq (jo [jm 10 3,jm 11 0,je 12 11,jt .lss 13 10 12] [0,3,13]
 (.cond (.t 13) .skip
 (.exit 0)))
 (.seq (.block 1 (.seq (.draw [jm 16 0,jm 17 3,ji 18 1 16 17,jl 19 18,jm 20 0,jm 21 3,ju .sub 22 21 1,ji 23 1 20 22,jl 24 23,jt .eql 25 19 24] [] [0,3,25])
 (.cond (.t 25) (jo [jm 26 0,jm 27 3,jw 28 (.subs 1 (.t 26) (.t 27)),jm 4 28] [0,3,4]
 (.seq (jo [jc 5 1] [0,3,4,5]
 (.block 2 (.loop (.seq (jo [jm 29 5,jm 30 4,je 31 30,jt .lss 32 29 31] [0,3,4,5,32]
 (.cond (.t 32) .skip
 (.exit 2)))
 (.seq (.block 3 (.seq (.draw [jm 35 4,jm 36 5,ji 37 1 35 36,jl 38 37,jm 39 4,jm 40 5,ju .sub 41 40 1,ji 42 1 39 41,jl 43 42,jt .neq 44 38 43] [] [0,3,4,5,44])
 (.cond (.t 44) (jo [jm 45 0,jm 46 3,jm 47 4,jm 48 5,ji 49 1 47 48,jl 50 49,ji 51 1 45 46,js 1 51 50] [0,3,4,5]
 (.ops [jm 52 3,ju .add 53 52 1,jm 3 53] [0,3,4,5]))
 .skip)))
 (.ops [jm 33 5,ju .add 34 33 1,jm 5 34] [0,3,4,5]))))))
 (jo [jm 54 0,jm 55 3,jw 56 (.subs 1 (.t 54) (.t 55)),⟨none,.clr 3 1 [.int .i64 0] (.t 56),none⟩] [0,3]
 (jo [jm 57 0,jm 58 3,jw 59 (.slice 1 (.t 57) none (some (.t 58))),jm 2 59] [2]
 .ret))))
 .skip)))
 (.ops [jm 14 3,ju .add 15 14 1,jm 3 15] [0,3]))))))
 (jo [jm 60 0,jm 2 60] [2]
 .ret)))),[.t 2]⟩
theorem k95:chkF Tryz.prog Tryz.f95 c95=true:=by kernel_rfl
def c36:CF:=⟨39,(jo [jx 1 37 4 0,jn 2,jc 3 0] [1]
 (jo [jn 4] [1,4]
 (.seq (jo [jf 9 0 1,jl 10 9,je 11 10,jc 12 0] [1,4,10,11,12]
 (.block 0 (.loop (jo [jt .lss 13 12 11] [1,4,10,11,12,13]
 (.seq (.cond (.t 13) .skip
 (.exit 0))
 (.seq (.block 1 (jo [ji 14 24 10 12,jk 15 24 14,jw 6 (.alloc 72 24 z24),js 24 6 15] [1,4,6,10,11,12]
 (.ops [jm 16 4,jf 17 3 6,jl 18 17,jw 19 (.bsl false 3 1 1 [.int .i64 0] [(0,1,(.t 18))]),jw 20 (.app 3 1 8 (.t 16) (.t 19)),jm 4 20] [1,4,10,11,12])))
 (.ops [ju .add 21 12 1,jm 12 21] [1,4,10,11,12])))))))
 (.seq (jo [jf 22 1 1,jl 23 22,je 24 23,jc 25 0] [4,23,24,25]
 (.block 2 (.loop (jo [jt .lss 26 25 24] [4,23,24,25,26]
 (.seq (.cond (.t 26) .skip
 (.exit 2))
 (.seq (.block 3 (jo [ji 27 5 23 25,jk 28 5 27,jw 8 (.alloc 64 5 [.int .i64 0,.int .i64 0,.int .i64 0,.int .i64 0,.int .i64 0]),js 5 8 28] [4,8,23,24,25]
 (.ops [jm 29 4,jf 30 1 8,jl 31 30,jw 32 (.bsl false 3 1 1 [.int .i64 0] [(0,1,(.t 31))]),jw 33 (.app 3 1 8 (.t 29) (.t 32)),jm 4 33] [4,23,24,25])))
 (.ops [ju .add 34 25 1,jm 25 34] [4,23,24,25])))))))
 (jo [jm 35 4,jy 36 94 [35]] [4]
 (jo [jm 37 4,jy 38 95 [37],jm 2 38,jc 3 0] [2,3]
 .ret)))))),[.t 2,.t 3]⟩
theorem k36:chkF Tryz.prog Tryz.f36 c36=true:=by kernel_rfl
theorem compI1_snoc (x:Int):∀ (r:List Int) (a:Int),compI1 a (r++[x])=if (r.getLast?).getD a=x then compI1 a r else compI1 a r++[x]
  | [],a=>by
    simp only [List.nil_append,compI1,List.getLast?_nil,Option.getD_none]
    by_cases h:a=x <;> simp [h]
  | b::r,a=>by
    have h:=compI1_snoc x r
    have e:((b::r).getLast?).getD a=(r.getLast?).getD b:=by
      cases r with
      | nil=>rfl
      | cons c s=>simp [List.getLast?_cons]
    rw [e]
    simp only [List.cons_append,compI1]
    by_cases hab:a=b
    · subst hab; rw [if_pos rfl,if_pos rfl,h]
    · rw [if_neg hab,if_neg hab,h]
      split <;> rfl
theorem compI_next {l:List Int} {j:Nat} (h0:0 < j) (hj:j < l.length):compI (l.take (j+1))=if l.getD (j - 1) 0=l.getD j 0 then compI (l.take j) else compI (l.take j)++[l.getD j 0]:=by
  cases l with
  | nil=>simp at hj
  | cons a r =>
    obtain ⟨i,rfl⟩:∃ i,j=i+1:=⟨j - 1,by omega⟩
    have hir:i < r.length:=by simpa using hj
    have e1:r.take (i+1)=r.take i++[r.getD i 0]:=by rw [List.take_add_one,getD_lt 0 hir]; rfl
    have e2:((r.take i).getLast?).getD a=(a::r).getD i 0:=by
      cases i with
      | zero=>rfl
      | succ i =>
        rw [List.take_add_one,getD_lt 0 (show i < r.length by omega)]
        simp
    rw [List.take_succ_cons,List.take_succ_cons]
    simp only [compI]
    rw [e1,compI1_snoc,e2]
    rfl
structure CmpS (l R:List Int) (k j:Nat):Prop where
  len:R.length=l.length
  pos:0 < k
  lt:k < j
  le:j≤l.length
  tk:R.take k=compI (l.take j)
  dr:R.drop (j - 1)=l.drop (j - 1)
theorem CmpS.get {l R:List Int} {k j:Nat} (h:CmpS l R k j) (i:Nat) (hi:j - 1≤i):R.getD i 0=l.getD i 0:=by
  have h1:(R.drop (j - 1))[i - (j - 1)]?=(l.drop (j - 1))[i - (j - 1)]?:=by rw [h.dr]
  rw [List.getElem?_drop,List.getElem?_drop,show j - 1+(i - (j - 1))=i by omega] at h1
  rw [List.getD_eq_getElem?_getD,List.getD_eq_getElem?_getD,h1]
theorem CmpS.drop1 {l R:List Int} {k j:Nat} (h:CmpS l R k j):R.drop j=l.drop j:=by
  have h1:(R.drop (j - 1)).drop 1=(l.drop (j - 1)).drop 1:=by rw [h.dr]
  have:=h.lt
  rw [List.drop_drop,List.drop_drop,show j - 1+1=j by omega] at h1
  exact h1
theorem CmpS.skip {l R:List Int} {k j:Nat} (h:CmpS l R k j) (hj:j < l.length) (e:l.getD (j - 1) 0=l.getD j 0):CmpS l R k (j+1) :=
  ⟨h.len,h.pos,by have:=h.lt; omega,hj,by rw [h.tk,compI_next (by have:=h.lt; omega) hj,if_pos e],by simpa using h.drop1⟩
theorem CmpS.keep {l R:List Int} {k j:Nat} (h:CmpS l R k j) (hj:j < l.length) (e:¬ l.getD (j - 1) 0=l.getD j 0):CmpS l (R.set k (l.getD j 0)) (k+1) (j+1):=by
  have hlt:=h.lt
  have hlen:=h.len
  refine ⟨by rw [List.length_set]; exact h.len,by omega,by omega,hj,?_,?_⟩
  · rw [List.take_add_one,List.getElem?_set_self (by omega),List.take_set_of_le (Nat.le_refl _),h.tk,compI_next (by omega) hj,if_neg e]; rfl
  · rw [Nat.add_sub_cancel,List.drop_set_of_lt (by omega)]; exact h.drop1
theorem CmpS.init {l:List Int} {k:Nat} (hk:0 < k) (hl:k < l.length) (h:compI (l.take k)=l.take k) (e:l.getD (k - 1) 0=l.getD k 0):CmpS l l k (k+1) :=
  ⟨rfl,hk,by omega,hl,by rw [compI_next hk hl,if_pos e,h],rfl⟩
theorem compact_does (σ:Sto) (f:Nat) (l:List Int) (hl:l.length < 9223372036854775808) (hf:σ.at f 0=some ⟨3,1,l.map (fun z=>[n z]),none⟩) :
    Does Tryz.prog 95 [.own f 0 l.length] σ (Left σ f (inS (compI l))):=by
  refine dB_ Tryz.call95 Tryz.func95 k95 ?_
  unfold c95
  by_cases h2:l.length < 2
  · have he:compI l=l:=by
      match l,h2 with
      | [],_=>rfl
      | [a],_=>rfl
    rw [he]
    refine AWPC.freeze1 (t:=0) (f:=f) (n:=l.length) (o:=⟨3,1,l.map (fun z=>[n z]),none⟩) rfl hf (by simp) (by simp) ?_
    ((refine Au ?_;repeat' constructor)<;>intros<;>refine hD_ ?_)
    all_goals try (exfalso;omega)
    exact .mk [] rfl (by simp)
  · ((refine Ax @hf ?_;repeat' constructor)<;>intros<;>refine hD_ ?_)
    all_goals try (exfalso;omega)
    refine AWPC.loopS (α:={ k:Nat // 0 < k∧k≤l.length∧compI (l.take k)=l.take k }) [3] (fun k=>[(3,n k.1)]) (fun k=>l.length - k.1) ⟨1,by omega,by omega,by cases l with | nil=>rfl | cons a r=>rfl⟩ ?_ ?_
    · (simp only [zN,zT,zV,zS,zU,Q0,Q1,ex,Q2,Q3,Q4,Q5,Q6,Q7,Q8,Q9,QA,QB,QC,Nat.reduceBEq,reduceAdd,reduceSub,reduceLT,reduceLeDiff,reduceMul,reduceEqDiff,reduceIte]; try simp)
    · rintro ⟨k,hk0,hkl,hc⟩
      simp only at hk0 hkl hc ⊢
      by_cases hlt:k < l.length
      · have hs1:(l.map fun z:Int=>[n z]).getD k []=[n (l.getD k 0)]:=row (f:=fun z:Int=>[n z]) 0 hlt
        have hs0:(l.map fun z:Int=>[n z]).getD ((k:Int) - 1).toNat []=[n (l.getD (k - 1) 0)]:=rowPrev (f:=fun z:Int=>[n z]) 0 hlt
        by_cases e:l.getD (k - 1) 0=l.getD k 0
        · have hI:=CmpS.init hk0 hlt hc e
          rw [e] at hs0
          ((refine Ax (And.intro @hf (And.intro @hs1 @hs0)) ?_;repeat' constructor)<;>intros<;>refine hD_ ?_)
          all_goals try (exfalso;omega)
          refine AWPC.loopE (α:={ x:Nat × Nat × List Int × Sto // 0 < x.2.1∧CmpS l x.2.2.1 x.1 (k+x.2.1) }) [3,5] (fun x=>[(3,n x.1.1),(5,n x.1.2.1)])
            (fun x=>σ.upd f 0 ⟨3,1,x.1.2.2.1.map (fun z=>[n z]),none⟩++x.1.2.2.2) (fun x=>l.length - k - x.1.2.1) ⟨(k,1,l,[]),Nat.one_pos,hI⟩ ?_ (by rw [upd_self hf,List.append_nil]) ?_
          · (simp only [zN,zT,zV,zS,zU,Q0,Q1,ex,Q2,Q3,Q4,Q5,Q6,Q7,Q8,Q9,QA,QB,QC,Nat.reduceBEq,reduceAdd,reduceSub,reduceLT,reduceLeDiff,reduceMul,reduceEqDiff,reduceIte]; try simp)
          · rintro ⟨⟨i,j,R,μ⟩,hj0,hD⟩
            simp only at hj0 hD
            obtain ⟨U,hU⟩:∃ U,U=σ.upd f 0 ⟨3,1,R.map (fun z=>[n z]),none⟩:=⟨_,rfl⟩
            have hflt:=at_lt hf
            have hUl:List.length U=List.length σ:=by rw [hU,upd_length]
            have hA:∀ μ,Sto.at (U++μ) f 0=some ⟨3,1,R.map (fun z=>[n z]),none⟩:=fun μ=>by rw [at_appL (by omega),hU,at_upd_same hf]
            have hB:∀ o μ,Sto.upd (U++μ) f 0 o=σ.upd f 0 o++μ:=fun o μ=>by rw [upd_appL (by omega),hU,upd_upd hf]
            simp only [← hU]
            have hRl:=hD.len
            have hi1:=hD.lt
            by_cases hlt:k+j < l.length
            · have hr1:(R.map fun z:Int=>[n z]).getD (k+j) []=[n (R.getD (k+j) 0)]:=row (f:=fun z:Int=>[n z]) 0 (by omega)
              have hr0:(R.map fun z:Int=>[n z]).getD (k+((j:Int) - 1).toNat) []=[n (R.getD (k+j - 1) 0)]:=by
                rw [show k+((j:Int) - 1).toNat=k+j - 1 by omega]
                exact row (f:=fun z:Int=>[n z]) 0 (by omega)
              rw [hD.get _ (by omega)] at hr1 hr0
              have hw:IntKind.i64.wrap ((j:Int) - 1)=(j:Int) - 1:=by simp (disch:=omega) only [wr64,Int.zero_sub]
              have hsi:(R.map fun z:Int=>[n z]).getD i []=[n (R.getD i 0)]:=row (f:=fun z:Int=>[n z]) 0 (by omega)
              have hset:(R.map fun z:Int=>[n z]).set i [n (l.getD (k+j) 0)]=(R.set i (l.getD (k+j) 0)).map fun z:Int=>[n z]:=by rw [List.map_set]
              by_cases e:l.getD (k+j - 1) 0=l.getD (k+j) 0
              · have hN:=hD.skip hlt e
                rw [e] at hr0
                ((refine Ax (And.intro @hA (And.intro @hB (And.intro @hw (And.intro @hr1 (And.intro @hr0 @hRl))))) ?_;repeat' constructor)<;>intros<;>refine hD_ ?_)
                all_goals try (exfalso;omega)
                exact ⟨⟨(i,j+1,R,μ),by simp,hN⟩,by simp,by simp [hU],by simp only; omega⟩
              · have hN:=hD.keep hlt e
                have e':¬ l.getD (k+j) 0=l.getD (k+j - 1) 0:=fun h=>e h.symm
                ((refine Ax (And.intro @hA (And.intro @hB (And.intro @hw (And.intro @hr1 (And.intro @hr0 (And.intro @hRl (And.intro @hsi (And.intro @hset @e')))))))) ?_;repeat' constructor)<;>intros<;>refine hD_ ?_)
                all_goals try (exfalso;omega)
                exact ⟨⟨(i+1,j+1,R.set i (l.getD (k+j) 0),μ),by simp,hN⟩,by simp,by simp,by simp only; omega⟩
            · have hjl:k+j=l.length:=by have:=hD.le; omega
              have hnl:¬ ((j:Int) < (l.length:Int) - (k:Int)):=by omega
              iterate 4
                ((first
 | refine vn rfl ?_
 | simp (disch:=omega) only [wr64,Int.zero_sub]
 | refine bo (fun _=>?_) fun _=>?_
 | refine im fun _=>?_
 | refine cF ?_
 | refine om ?_
 | refine an ?_
 | fail) <;> try simp only [zN, zT, zV, zS, zU, vcC, lateX, ex, strp, binA, elems, cells, scalar, eqC, keyA, intsA, lookA, ofVs, mpOf, Nat.reduceBEq, reduceAdd, reduceSub, reduceLT, reduceLeDiff, reduceMul, reduceEqDiff, reduceIte, hA, hRl, hnl, List.length_map])
              ((first
 | refine vn rfl ?_
 | simp (disch:=omega) only [wr64,Int.zero_sub]
 | refine bo (fun _=>?_) fun _=>?_
 | refine im fun _=>?_
 | refine cF ?_
 | refine om ?_
 | refine an ?_
 | fail) <;> try simp only [zN, zT, zV, zS, zU, vcC, lateX, ex, strp, binA, elems, cells, scalar, eqC, keyA, intsA, lookA, ofVs, mpOf, Nat.reduceBEq, reduceAdd, reduceSub, reduceLT, reduceLeDiff, reduceMul, reduceEqDiff, reduceIte, hA, hB, hRl, List.length_map])
              have hm1:(List.take i (R.map fun z:Int=>[n z])).length=i:=by rw [List.length_take,List.length_map]; omega
              have hfin:R.take i=compI l:=by rw [hD.tk,hjl,List.take_length]
              refine AWPC.freeze1 (t:=0) (f:=f) (n:=l.length) (o:=⟨3,1,List.take i (R.map fun z=>[n z])++List.replicate (l.length - i) [n 0],none⟩) rfl (by rw [at_appL (by rw [upd_length]; omega),at_upd_same hf])
                (by simp only [List.length_append,hm1,List.length_replicate]; omega) (by simp) ?_
              have hlen2:((List.take i (R.map fun z:Int=>[n z])++List.replicate (l.length - i) [n 0]).length:Int)=l.length:=by simp only [List.length_append,hm1,List.length_replicate]; omega
              have htk2:List.take i (List.take i (R.map fun z:Int=>[n z])++List.replicate (l.length - i) [n 0])=(compI l).map fun z:Int=>[n z]:=by
                rw [List.take_append_of_le_length (by omega),List.take_take,Nat.min_self,← List.map_take,hfin]
              generalize List.take i (R.map fun z:Int=>[n z])++List.replicate (l.length - i) [n 0]=es at hlen2 htk2
              ((refine Ax (And.intro @hlen2 @htk2) ?_;repeat' constructor)<;>intros<;>refine hD_ ?_)
              refine ⟨by simp [sideL,ov,gt,cnd],⟨by omega,by omega,by omega⟩,?_⟩
              ((refine Au ?_;repeat' constructor)<;>intros<;>refine hD_ ?_)
              exact .mk μ rfl (gone_upd hf)
        · have e':¬ l.getD k 0=l.getD (k - 1) 0:=fun h=>e h.symm
          have hN:compI (l.take (k+1))=l.take (k+1):=by rw [compI_next hk0 hlt,if_neg e,hc,List.take_add_one,getD_lt 0 hlt]; rfl
          ((refine Ax (And.intro @hf (And.intro @hs1 (And.intro @hs0 @e'))) ?_;repeat' constructor)<;>intros<;>refine hD_ ?_)
          all_goals try (exfalso;omega)
          exact ⟨⟨k+1,by omega,hlt,hN⟩,by simp,by simp only; omega⟩
      · obtain rfl:k=l.length:=by omega
        rw [List.take_length] at hc
        rw [hc]
        refine AWPC.freeze1 (t:=0) (f:=f) (n:=l.length) (o:=⟨3,1,l.map (fun z=>[n z]),none⟩) rfl hf (by simp) (by simp) ?_
        ((refine Au ?_;repeat' constructor)<;>intros<;>refine hD_ ?_)
        all_goals try (exfalso;omega)
        exact .mk [] rfl (by simp)
theorem sortI_does (σ:Sto) (f:Nat) (l:List Int) (hf:σ.at f 0=some ⟨3,1,l.map (fun z=>[n z]),none⟩) (hl:l.length < 4611686018427387904) :
    Does Tryz.prog 94 [.own f 0 l.length] σ (fun _ σ'=>σ'=σ.upd f 0 ⟨3,1,(srtI l).map (fun z=>[n z]),none⟩) :=
  sort_ints Tryz.slices_Sort_int Tryz.slices_Sort_int_none Tryz.call94 σ f 3 l hf hl
theorem mapsnoc {α:Type} {g:α→Int} {l:List α} {i:Nat} (d:α) (h:i < l.length):(l.take (i+1)).map g=(l.take i).map g++[g (l.getD i d)]:=by rw [List.take_add_one,getD_lt d h]; simp
theorem Weeks_spec (r:Rgr) (hs:r.sheets.length < 1099511627776) (hr:r.reads.length < 1099511627776):Pure Tryz.prog 36 [.agg r.cs] (.tup [inS (weeksT r),n 0]):=by
  refine pB_ Tryz.call36 Tryz.func36 k36 ?_
  unfold c36
  obtain ⟨d,hd⟩:∃ d:Fld,True:=⟨⟨nm0,0,0,sht0,[],[]⟩,trivial⟩
  ((refine Au ?_;repeat' constructor)<;>intros<;>refine hD_ ?_)
  refine AWPC.own0 3 1 4 rfl ?_
  refine AWPC.loopE (α:={ x:Nat × List Int × Sto // x.1≤r.sheets.length∧x.2.1=(r.sheets.take x.1).map Fld.week }) [4,12] (fun x=>[(4,.own 0 0 x.1.2.1.length),(12,n x.1.1)])
    (fun x=>some [⟨3,1,x.1.2.1.map (fun z=>[n z]),none⟩]::x.1.2.2) (fun x=>r.sheets.length - x.1.1) ⟨(0,[],[]),Nat.zero_le _,rfl⟩ ?_ rfl ?_
  · (simp only [zN,zT,zV,zS,zU,Q0,Q1,ex,Q2,Q3,Q4,Q5,Q6,Q7,Q8,Q9,QA,QB,QC,Nat.reduceBEq,reduceAdd,reduceSub,reduceLT,reduceLeDiff,reduceMul,reduceEqDiff,reduceIte]; try simp)
  · rintro ⟨⟨i,W,ν⟩,hi,hW⟩
    simp only at hi hW
    have hWl:W.length=i:=by rw [hW,List.length_map,List.length_take]; omega
    generalize hM:W.map (fun z=>[n z])=M
    have hMl:M.length=i:=by rw [← hM,List.length_map]; exact hWl
    simp only [hM]
    by_cases hlt:i < r.sheets.length
    · have hx:(r.sheets.map Fld.cs).getD i []=Fld.cs (r.sheets.getD i d):=row d hlt
      have hN:=mapsnoc (g:=Fld.week) d hlt
      rw [← hW] at hN
      generalize r.sheets.getD i d=x at hx hN
      ((refine Ax (And.intro @hx (And.intro @hMl @hWl)) ?_;repeat' constructor)<;>intros<;>refine hD_ ?_)
      all_goals try (exfalso;omega)
      refine ⟨⟨(i+1,W++[x.week],ν++[some [⟨72,24,[x.cs],none⟩]]),hlt,hN.symm⟩,?_,?_,by simp only; omega⟩
      · simp [hWl]
      · simp [← hM]
    · obtain rfl:i=r.sheets.length:=by omega
      rw [List.take_length] at hW
      ((refine Ax @hWl ?_;repeat' constructor)<;>intros<;>refine hD_ ?_)
      all_goals try (exfalso;omega)
      refine AWPC.loopE (α:={ x:Nat × List Int × Sto // x.1≤r.reads.length∧x.2.1=r.sheets.map Fld.week++(r.reads.take x.1).map Rd.week }) [4,25] (fun x=>[(4,.own 0 0 x.1.2.1.length),(25,n x.1.1)])
        (fun x=>some [⟨3,1,x.1.2.1.map (fun z=>[n z]),none⟩]::x.1.2.2) (fun x=>r.reads.length - x.1.1) ⟨(0,W,ν),Nat.zero_le _,by simp [hW]⟩ ?_ (by rw [← hM]) ?_
      · simp only [hWl]; (simp only [zN,zT,zV,zS,zU,Q0,Q1,ex,Q2,Q3,Q4,Q5,Q6,Q7,Q8,Q9,QA,QB,QC,Nat.reduceBEq,reduceAdd,reduceSub,reduceLT,reduceLeDiff,reduceMul,reduceEqDiff,reduceIte]; try simp)
      · rintro ⟨⟨i,V,ν⟩,hi,hV⟩
        simp only at hi hV
        have hVl:V.length=r.sheets.length+i:=by rw [hV,List.length_append,List.length_map,List.length_map,List.length_take]; omega
        by_cases hlt:i < r.reads.length
        · generalize hM:V.map (fun z=>[n z])=M
          have hMl:M.length=r.sheets.length+i:=by rw [← hM,List.length_map]; exact hVl
          simp only [hM]
          have hx:(r.reads.map Rd.cs).getD i []=Rd.cs (r.reads.getD i rd0):=row rd0 hlt
          have hN:=mapsnoc (g:=Rd.week) rd0 hlt
          generalize r.reads.getD i rd0=x at hx hN
          ((refine Ax (And.intro @hx (And.intro @hMl @hVl)) ?_;repeat' constructor)<;>intros<;>refine hD_ ?_)
          all_goals try (exfalso;omega)
          refine ⟨⟨(i+1,V++[x.week],ν++[some [⟨64,5,[x.cs],none⟩]]),hlt,by simp only; rw [hN,hV,List.append_assoc]⟩,?_,?_,by simp only; omega⟩
          · simp [hVl,Nat.add_assoc]
          · simp [← hM]
        · obtain rfl:i=r.reads.length:=by omega
          rw [List.take_length] at hV
          rw [show weeksT r=compI (srtI V) by rw [hV]; rfl]
          have hSl:(srtI V).length=V.length:=(srtI_perm V).length_eq
          ((refine Au ?_;repeat' constructor)<;>intros<;>refine hD_ ?_)
          all_goals try (exfalso;omega)
          refine .inr (.inl ⟨_,_,_,_,rfl,fun _=>⟨sortI_does _ 0 V rfl (by omega),?_⟩,fun h=>by cases h⟩)
          rintro r1 σ1 rfl
          refine Zy ?_
          simp only [zN,zT,zV,zS,zU,Q0,Q1,ex,Q2,Q3,Q4,Q5,Q6,Q7,Q8,Q9,QA,QB,QC,Nat.reduceBEq,reduceAdd,reduceSub,reduceLT,reduceLeDiff,reduceMul,reduceEqDiff,reduceIte]
          ((refine Au ?_;repeat' constructor)<;>intros<;>refine hD_ ?_)
          refine .inr (.inl ⟨_,_,_,_,rfl,fun _=>⟨by rw [← hSl]; exact compact_does _ 0 (srtI V) (by omega) rfl,?_⟩,fun h=>by cases h⟩)
          rintro r1 σ1 ⟨ν1,rfl,rfl⟩
          refine Zy ?_
          simp only [zN,zT,zV,zS,zU,Q0,Q1,ex,Q2,Q3,Q4,Q5,Q6,Q7,Q8,Q9,QA,QB,QC,Nat.reduceBEq,reduceAdd,reduceSub,reduceLT,reduceLeDiff,reduceMul,reduceEqDiff,reduceIte]
          ((refine Au ?_;repeat' constructor)<;>intros<;>refine hD_ ?_)
          exact Frz.tupL ⟨Frz.pure (by simp),Frz.pure (by simp),trivial⟩
def c213:CF:=⟨53,(jo [jm 10 1,ju .add 11 10 1,jm 8 11] [0,1,2,3,8]
 (.block 0 (.loop (.seq (jo [jm 12 8,jm 13 2,jt .lss 14 12 13] [0,1,2,3,8,14]
 (.cond (.t 14) .skip
 (.exit 0)))
 (.seq (.block 1 (jo [jm 17 8,jm 9 17] [0,1,2,3,8,9]
 (.block 2 (.loop (.seq (.seq (.draw [jm 18 9,jm 19 1,jt .gtr 20 18 19,jm 21 20,ja 21 (jm 22 3),ja 21 (jm 23 0),ja 21 (jm 24 9),ja 21 (ji 25 24 23 24),ja 21 (jk 26 24 25),ja 21 (jm 27 0),ja 21 (jm 28 9),ja 21 (ju .sub 29 28 1),ja 21 (ji 30 24 27 29),ja 21 (jk 31 24 30)] [⟨some 32,.call (.t 22) [(.t 26),(.t 31)],some (21,true)⟩,ja 21 (ju .lss 33 32 0),jp 34 21 33] [0,1,2,3,8,9,34])
 (.cond (.t 34) .skip
 (.exit 2)))
 (.seq (.block 3 (.draww [0,1,2,3,4,5,6,7,8,9,10,11,12,13,14,15,16,17] [2,3,4] 1 [jm 37 0,jm 38 9,jm 39 0,jm 40 9,ju .sub 41 40 1,jm 42 0,jm 43 9,ju .sub 44 43 1,ji 45 24 42 44,jk 46 24 45,jm 47 0,jm 48 9,ji 49 24 47 48,jk 50 24 49,ji 51 24 37 38] [js 24 51 46,ji 52 24 39 41,js 24 52 50] [0,1,2,3,8,9]))
 (.ops [jm 35 9,ju .sub 36 35 1,jm 9 36] [0,1,2,3,8,9])))))))
 (.ops [jm 15 8,ju .add 16 15 1,jm 8 16] [0,1,2,3,8])))))),[]⟩
theorem k213:chkF Tryz.prog Tryz.f213 c213=true:=by kernel_rfl
def c167:CF:=⟨63,(jo [jc 6 20] [0,1,2,6]
 (jo [jm 10 6,jc 7 0,jm 8 10] [0,1,2,6,7,8]
 (.seq (.block 0 (.loop (.seq (jo [jm 11 8,jm 12 1,jt .leq 13 11 12] [0,1,2,6,7,8,13]
 (.cond (.t 13) .skip
 (.exit 0)))
 (.block 1 (jo [jm 14 0,jm 15 7,jm 16 8,jm 17 2,jy 18 213 [14,15,16,17]] [0,1,2,6,8]
 (jo [jm 19 8,jm 7 19] [0,1,2,6,7,8]
 (.ops [jm 20 8,jm 21 6,jt .add 22 20 21,jm 8 22] [0,1,2,6,7,8])))))))
 (jo [jm 23 0,jm 24 7,jm 25 1,jm 26 2,jy 27 213 [23,24,25,26]] [0,1,2,6]
 (.block 2 (.loop (.seq (jo [jm 28 6,jm 29 1,jt .lss 30 28 29] [0,1,2,6,30]
 (.cond (.t 30) .skip
 (.exit 2)))
 (.block 3 (jo [jm 31 6,jw 32 (.bin .mul (.c (.int .i64 2)) (.t 31)),jc 7 0,jm 8 32] [0,1,2,6,7,8]
 (.seq (.block 4 (.loop (.seq (jo [jm 33 8,jm 34 1,jt .leq 35 33 34] [0,1,2,6,7,8,35]
 (.cond (.t 35) .skip
 (.exit 4)))
 (.block 5 (jo [jm 36 0,jm 37 7,jm 38 7,jm 39 6,jt .add 40 38 39,jm 41 8,jm 42 2,jy 43 214 [36,37,40,41,42]] [0,1,2,6,8]
 (jo [jm 44 8,jm 7 44] [0,1,2,6,7,8]
 (.ops [jm 45 8,jm 46 6,jw 47 (.bin .mul (.c (.int .i64 2)) (.t 46)),jt .add 48 45 47,jm 8 48] [0,1,2,6,7,8])))))))
 (.seq (jo [jm 49 7,jm 50 6,jt .add 51 49 50,jm 9 51] [0,1,2,6,7,9]
 (jo [jm 52 9,jm 53 1,jt .lss 54 52 53] [0,1,2,6,7,9,54]
 (.cond (.t 54) (.ops [jm 55 0,jm 56 7,jm 57 9,jm 58 1,jm 59 2,jy 60 214 [55,56,57,58,59]] [0,1,2,6])
 .skip)))
 (.ops [jm 61 6,ju .mul 62 61 2,jm 6 62] [0,1,2,6])))))))))))),[]⟩
theorem k167:chkF Tryz.prog Tryz.f167 c167=true:=by kernel_rfl
def c99:CF:=⟨9,(.ops [jm 4 0,jm 5 0,je 6 5,jm 7 1,jy 8 167 [4,6,7]] []),[]⟩
theorem k99:chkF Tryz.prog Tryz.f99 c99=true:=by kernel_rfl
def c37:CF:=⟨84,(jo [jx 3 26 6 0,jx 4 37 4 1,jw 6 (.alloc 86 9 [.slice none 0 0,.int .i64 0,.int .i64 0,.int .i64 0,.int .i64 0,.int .i64 0,.int .i64 0,.slice none 0 0,.slice none 0 0]),jc 7 0] [2,3,4,6]
 (.seq (jo [jk 14 6 3,jy 15 43 [14],jm 8 15] [2,3,4,6,8]
 (jo [jm 16 8,ju .neq 17 16 0] [2,3,4,6,8,17]
 (.cond (.t 17) (jo [jw 18 (.build [.slice none 0 0,.int .i64 0,.int .i64 0,.int .i64 0,.int .i64 0,.int .i64 0,.int .i64 0,.slice none 0 0,.slice none 0 0] []),jm 19 8,js 9 6 18,jm 7 19] [6,7]
 .ret)
 .skip)))
 (.seq (jo [jm 20 2,jw 21 (.call (.f 96) [(.t 20),(.c (.int .i64 0)),(.c (.int .i64 10000))]),jv 22 21] [2,3,4,6,22]
 (.cond (.t 22) (jo [jw 23 (.build [.slice none 0 0,.int .i64 0,.int .i64 0,.int .i64 0,.int .i64 0,.int .i64 0,.int .i64 0,.slice none 0 0,.slice none 0 0] []),js 9 6 23,jc 7 1] [6,7]
 .ret)
 .skip))
 (jo [jk 24 6 3,jm 25 2,jw 26 (.build [.slice none 0 0,.int .i64 0,.int .i64 0,.int .i64 0,.int .i64 0,.int .i64 0,.int .i64 0,.slice none 0 0,.slice none 0 0] [(0,6,(.t 24)),(6,1,(.t 25))]),jw 9 (.alloc 86 9 [.slice none 0 0,.int .i64 0,.int .i64 0,.int .i64 0,.int .i64 0,.int .i64 0,.int .i64 0,.slice none 0 0,.slice none 0 0]),js 9 9 26] [2,4,6,9]
 (jo [jf 27 2 4,jl 28 27,jy 29 97 [28],jf 30 0 9,jf 31 0 30,js 1 31 29] [2,4,6,9]
 (.seq (jo [jf 32 0 4,jl 33 32,je 34 33,jc 35 0] [2,4,6,9,33,34,35]
 (.block 0 (.loop (jo [jt .lss 36 35 34] [2,4,6,9,33,34,35,36]
 (.seq (.cond (.t 36) .skip
 (.exit 0))
 (.seq (.block 1 (jo [ji 37 24 33 35,jk 38 24 37,jw 11 (.alloc 72 24 z24),js 24 11 38] [2,4,6,9,11,33,34,35]
 (jo [jf 39 3 11,jl 40 39,jm 41 2,jt .eql 42 40 41] [2,4,6,9,11,33,34,35,42]
 (.cond (.t 42) (.draw [jf 43 7 9,jl 44 43,jk 45 24 11,jy 46 98 [45],jw 47 (.bsl false 72 24 1 z24 [(0,24,(.t 46))])] [jw 48 (.app 72 24 288 (.t 44) (.t 47)),jf 49 7 9,js 1 49 48] [2,4,6,9,33,34,35])
 .skip))))
 (.ops [ju .add 50 35 1,jm 35 50] [2,4,6,9,33,34,35])))))))
 (jo [jf 51 7 9,jl 52 51,jw 53 (.call (.f 99) [(.t 52),(.f 100)])] [2,4,6,9]
 (.seq (jo [jf 54 1 4,jl 55 54,je 56 55,jc 57 0] [2,6,9,55,56,57]
 (.block 2 (.loop (jo [jt .lss 58 57 56] [2,6,9,55,56,57,58]
 (.seq (.cond (.t 58) .skip
 (.exit 2))
 (.seq (.block 3 (jo [ji 59 5 55 57,jk 60 5 59,jw 13 (.alloc 64 5 [.int .i64 0,.int .i64 0,.int .i64 0,.int .i64 0,.int .i64 0]),js 5 13 60] [2,6,9,13,55,56,57]
 (jo [jf 61 1 13,jl 62 61,jm 63 2,jt .eql 64 62 63] [2,6,9,13,55,56,57,64]
 (.cond (.t 64) (.ops [jf 65 8 9,jl 66 65,jk 67 5 13,jw 68 (.bsl false 64 5 1 [.int .i64 0,.int .i64 0,.int .i64 0,.int .i64 0,.int .i64 0] [(0,5,(.t 67))]),jw 69 (.app 64 5 40 (.t 66) (.t 68)),jf 70 8 9,js 1 70 69] [2,6,9,55,56,57])
 .skip))))
 (.ops [ju .add 71 57 1,jm 57 71] [2,6,9,55,56,57])))))))
 (.seq (jo [jf 72 7 9,jl 73 72,je 74 73,ju .gtr 75 74 64,jm 76 75,jd 76 (jf 77 8 9),jd 76 (jl 78 77),jd 76 (je 79 78),jd 76 (ju .gtr 80 79 64),jq 81 76 80] [6,9,81]
 (.cond (.t 81) (jo [jw 82 (.build [.slice none 0 0,.int .i64 0,.int .i64 0,.int .i64 0,.int .i64 0,.int .i64 0,.int .i64 0,.slice none 0 0,.slice none 0 0] []),js 9 6 82,jc 7 2] [6,7]
 .ret)
 .skip))
 (jo [jk 83 9 9,js 9 6 83,jc 7 0] [6,7]
 .ret)))))))))),[.c 6 (some 9),.t 7]⟩
theorem k37:chkF Tryz.prog Tryz.f37 c37=true:=by kernel_rfl
def SortF (K:List Fld→Prop):Prop:=∀ (σ:Sto) (f:Nat) (l:List Fld),K l→σ.at f 0=some ⟨72,24,l.map Fld.cs,none⟩ →
  Does Tryz.prog 99 [.own f 0 l.length,.fn (.func 100) [] []] σ (fun _ σ'=>σ'=σ.upd f 0 ⟨72,24,(srtF l).map Fld.cs,none⟩)
theorem insertion0 (σ:Sto) (f:Nat) (m:Nat) (hm:m≤1):Does Tryz.prog 213 [.own f 0 m,n 0,n m,.fn (.func 100) [] []] σ (fun _ σ'=>σ'=σ):=by
  refine dB_ Tryz.call213 Tryz.func213 k213 ?_
  unfold c213
  ((refine Au ?_;repeat' constructor)<;>intros<;>refine hD_ ?_)
  refine AWPC.loopS (α:=Unit) [8] (fun _=>[(8,n 1)]) (fun _=>0) () ?_ ?_
  · (simp only [zN,zT,zV,zS,zU,Q0,Q1,ex,Q2,Q3,Q4,Q5,Q6,Q7,Q8,Q9,QA,QB,QC,Nat.reduceBEq,reduceAdd,reduceSub,reduceLT,reduceLeDiff,reduceMul,reduceEqDiff,reduceIte]; try simp)
  · rintro ⟨⟩
    ((refine Au ?_;repeat' constructor)<;>intros<;>refine hD_ ?_)
    all_goals first | (exfalso; omega) | rfl
theorem stable0 (σ:Sto) (f:Nat) (m:Nat) (hm:m≤1):Does Tryz.prog 167 [.own f 0 m,n m,.fn (.func 100) [] []] σ (fun _ σ'=>σ'=σ):=by
  refine dB_ Tryz.call167 Tryz.func167 k167 ?_
  unfold c167
  have hm1:¬ (20≤(m:Int)):=by omega
  have hm2:¬ (20 < (m:Int)):=by omega
  ((refine Au ?_;repeat' constructor)<;>intros<;>refine hD_ ?_)
  refine AWPC.loopS (α:=Unit) [7,8] (fun _=>[(7,n 0),(8,n 20)]) (fun _=>0) () ?_ ?_
  · (simp only [zN,zT,zV,zS,zU,Q0,Q1,ex,Q2,Q3,Q4,Q5,Q6,Q7,Q8,Q9,QA,QB,QC,Nat.reduceBEq,reduceAdd,reduceSub,reduceLT,reduceLeDiff,reduceMul,reduceEqDiff,reduceIte]; try simp)
  · rintro ⟨⟩
    ((refine Ax @hm1 ?_;repeat' constructor)<;>intros<;>refine hD_ ?_)
    all_goals try (exfalso;omega)
    refine .inr (.inl ⟨_,_,_,_,rfl,fun _=>⟨insertion0 σ f m hm,?_⟩,fun h=>by cases h⟩)
    rintro r σ' rfl
    refine Zy ?_
    simp only [zN,zT,zV,zS,zU,Q0,Q1,ex,Q2,Q3,Q4,Q5,Q6,Q7,Q8,Q9,QA,QB,QC,Nat.reduceBEq,reduceAdd,reduceSub,reduceLT,reduceLeDiff,reduceMul,reduceEqDiff,reduceIte]
    ((refine Au ?_;repeat' constructor)<;>intros<;>refine hD_ ?_)
    refine AWPC.loopS (α:=Unit) [6] (fun _=>[(6,n 20)]) (fun _=>0) () ?_ ?_
    · (simp only [zN,zT,zV,zS,zU,Q0,Q1,ex,Q2,Q3,Q4,Q5,Q6,Q7,Q8,Q9,QA,QB,QC,Nat.reduceBEq,reduceAdd,reduceSub,reduceLT,reduceLeDiff,reduceMul,reduceEqDiff,reduceIte]; try simp)
    · rintro ⟨⟩
      ((refine Ax @hm2 ?_;repeat' constructor)<;>intros<;>refine hD_ ?_)
      all_goals first | (exfalso; omega) | rfl
theorem srtF_few {l:List Fld} (h:l.length≤1):srtF l=l:=by
  cases l with
  | nil=>rfl
  | cons a r=>cases r with
    | nil=>rfl
    | cons x r=>simp only [List.length_cons] at h; omega
theorem sortF0:SortF fun l=>l.length≤1:=fun σ f l hl hf=>by
  refine dB_ Tryz.call99 Tryz.func99 k99 ?_
  unfold c99
  ((refine Ax @hf ?_;repeat' constructor)<;>intros<;>refine hD_ ?_)
  refine .inr (.inl ⟨_,_,_,_,rfl,fun _=>⟨stable0 σ f _ hl,?_⟩,fun h=>by cases h⟩)
  rintro r σ' rfl
  refine Zy ?_
  simp only [zN,zT,zV,zS,zU,Q0,Q1,ex,Q2,Q3,Q4,Q5,Q6,Q7,Q8,Q9,QA,QB,QC,Nat.reduceBEq,reduceAdd,reduceSub,reduceLT,reduceLeDiff,reduceMul,reduceEqDiff,reduceIte]
  rw [srtF_few hl]
  exact (upd_self hf).symm
theorem insF_perm (a:Fld):∀ l,(insF a l).Perm (a::l)
  | []=>.refl _
  | x::r=>by
    unfold insF
    split
    · exact .refl _
    · exact ((insF_perm a r).cons x).trans (.swap a x r)
theorem srtF_perm (l:List Fld):(srtF l).Perm l:=by
  have:∀ (l o:List Fld),(l.foldl (fun o a=>insF a o) o).Perm (l++o):=by
    intro l
    induction l with
    | nil=>exact fun o=>.refl _
    | cons a r ih=>exact fun o=>(ih _).trans (((insF_perm a o).append_left r).trans List.perm_middle)
  have:=this l []
  rwa [List.append_nil] at this
theorem WeekOf_of {K:List Fld→Prop} (hK:SortF K) (b:Bse) (hb:bseSz b) (r:Rgr) (w:Int) (hs:K (r.sheets.filter fun f=>f.week == w)) (hl:r.stns.length * 48≤140737488355328) (hh:∀ s∈r.stns,s.heights.length * 24≤140737488355328)
    (hfl:∀ f∈r.sheets,fldC f) (h1:r.sheets.length < 274877906944) (h2:r.reads.length < 1099511627776) :
    Pure Tryz.prog 37 [.agg b.cs,.agg r.cs,n w] (.tup [.agg (weekE b r w).1.cs,n (weekE b r w).2]):=by
  refine pB_ Tryz.call37 Tryz.func37 k37 ?_
  unfold c37
  have hcb:=CheckBase_spec b hb
  by_cases hbok:b.ok
  · rw [if_pos hbok] at hcb
    by_cases hw:inr w 0 10000
    · simp only [inr] at hw
      iterate 9
        ((first
 | refine vn rfl ?_
 | simp (disch:=omega) only [wr64,Int.zero_sub]
 | refine bo (fun _=>?_) fun _=>?_
 | refine im fun _=>?_
 | ((repeat refine si ?_); (first | ((first | refine .inl ⟨_,_,_,_,rfl,fun _=>pu (by first | exact hcb | exact within_a w 0 10000),?_⟩ | refine ⟨_,_,_,_,rfl,fun _=>pu (by first | exact hcb | exact within_a w 0 10000),?_⟩); (first | refine o1 ?_ | refine o2 ?_ | refine o3 ?_ | refine o4 ?_)) | refine .inl ⟨_,_,_,_,rfl,pu (by first | exact hcb | exact within_a w 0 10000),?_⟩))
 | refine cF ?_
 | refine om ?_
 | refine an ?_
 | fail) <;> try simp only [zN,zT,zV,zS,zU,Q0,Q1,ex,Q2,Q3,Q4,Q5,Q6,Q7,Q8,Q9,QA,QB,QC,Nat.reduceBEq,reduceAdd,reduceSub,reduceLT,reduceLeDiff,reduceMul,reduceEqDiff,reduceIte])
      ((first
 | refine vn rfl ?_
 | simp (disch:=omega) only [wr64,Int.zero_sub]
 | refine bo (fun _=>?_) fun _=>?_
 | refine im fun _=>?_
 | ((repeat refine si ?_); (first | ((first | refine .inl ⟨_,_,_,_,rfl,fun _=>pu (by first | exact hcb | exact within_a w 0 10000),?_⟩ | refine ⟨_,_,_,_,rfl,fun _=>pu (by first | exact hcb | exact within_a w 0 10000),?_⟩); (first | refine o1 ?_ | refine o2 ?_ | refine o3 ?_ | refine o4 ?_)) | refine .inl ⟨_,_,_,_,rfl,pu (by first | exact hcb | exact within_a w 0 10000),?_⟩))
 | refine cF ?_
 | refine om ?_
 | refine an ?_
 | fail) <;> try simp only [zN,zT,zV,zS,zU,Q0,Q1,ex,Q2,Q3,Q4,Q5,Q6,Q7,Q8,Q9,QA,QB,QC,Nat.reduceBEq,reduceAdd,reduceSub,reduceLT,reduceLeDiff,reduceMul,reduceEqDiff,reduceIte])
      all_goals try (exfalso;omega)
      iterate 2
        ((first
 | refine vn rfl ?_
 | simp (disch:=omega) only [wr64,Int.zero_sub]
 | refine bo (fun _=>?_) fun _=>?_
 | refine im fun _=>?_
 | ((repeat refine si ?_); (first | ((first | refine .inl ⟨_,_,_,_,rfl,fun _=>pu (by first | exact hcb | exact within_a w 0 10000),?_⟩ | refine ⟨_,_,_,_,rfl,fun _=>pu (by first | exact hcb | exact within_a w 0 10000),?_⟩); (first | refine o1 ?_ | refine o2 ?_ | refine o3 ?_ | refine o4 ?_)) | refine .inl ⟨_,_,_,_,rfl,pu (by first | exact hcb | exact within_a w 0 10000),?_⟩))
 | refine cF ?_
 | refine om ?_
 | refine an ?_
 | fail) <;> try simp only [zN,zT,zV,zS,zU,Q0,Q1,ex,Q2,Q3,Q4,Q5,Q6,Q7,Q8,Q9,QA,QB,QC,Nat.reduceBEq,reduceAdd,reduceSub,reduceLT,reduceLeDiff,reduceMul,reduceEqDiff,reduceIte])
      refine AWPC.own0c 72 24 (f:=1) (i:=0) (e:=0) (j:=7) rfl (by simp) rfl ?_
      refine AWPC.own0c 64 5 (f:=1) (i:=0) (e:=0) (j:=8) rfl (by simp) rfl ?_
      refine AWPC.sto (σ':=[some [⟨86,9,[[.v (.slice none 0 0),n 0,n 0,n 0,n 0,n 0,n 0,.v (.slice none 0 0),.v (.slice none 0 0)]],none⟩],some [⟨86,9,[[snS b.stns,n b.fixed,n b.each,n b.term,n b.ticks,n b.clerks,n w,.own 2 0 0,.own 3 0 0]],none⟩],some [⟨72,24,[],none⟩],some [⟨64,5,[],none⟩]]) rfl ?_
      ((refine Au ?_;repeat' constructor)<;>intros<;>refine hD_ ?_)
      refine .inr (.inl ⟨_,_,_,_,rfl,fun _=>⟨copiedStations_does r.stns hl hh _,?_⟩,fun h=>by cases h⟩)
      rintro r1 σ1 ⟨ν,rfl,rfl⟩
      refine Zy ?_
      simp only [zN,zT,zV,zS,zU,Q0,Q1,ex,Q2,Q3,Q4,Q5,Q6,Q7,Q8,Q9,QA,QB,QC,Nat.reduceBEq,reduceAdd,reduceSub,reduceLT,reduceLeDiff,reduceMul,reduceEqDiff,reduceIte,List.length_map]
      ((refine Au ?_;repeat' constructor)<;>intros<;>refine hD_ ?_)
      refine AWPC.loopE (α:={ x:Nat × List Fld × Sto // x.1≤r.sheets.length∧x.2.1=(r.sheets.take x.1).filter fun f=>f.week == w }) [35] (fun x=>[(35,n x.1.1)])
        (fun x=>some [⟨86,9,[[.v (.slice none 0 0),n 0,n 0,n 0,n 0,n 0,n 0,.v (.slice none 0 0),.v (.slice none 0 0)]],none⟩]::some [⟨86,9,[[.own 4 0 r.stns.length,n b.fixed,n b.each,n b.term,n b.ticks,n b.clerks,n w,.own 2 0 x.1.2.1.length,.own 3 0 0]],none⟩]::some [⟨72,24,x.1.2.1.map Fld.cs,none⟩]::some [⟨64,5,[],none⟩]::some [⟨109,4,r.stns.map Stn.cs,none⟩]::x.1.2.2)
        (fun x=>r.sheets.length - x.1.1) ⟨(0,[],ν),Nat.zero_le _,rfl⟩ ?_ rfl ?_
      · (simp only [zN,zT,zV,zS,zU,Q0,Q1,ex,Q2,Q3,Q4,Q5,Q6,Q7,Q8,Q9,QA,QB,QC,Nat.reduceBEq,reduceAdd,reduceSub,reduceLT,reduceLeDiff,reduceMul,reduceEqDiff,reduceIte]; try simp)
      · rintro ⟨⟨i,S,μ⟩,hi,hS⟩
        simp only at hi hS
        obtain ⟨d,hd⟩:∃ d:Fld,True:=⟨⟨nm0,0,0,sht0,[],[]⟩,trivial⟩
        have hSl:S.length≤r.sheets.length:=by rw [hS]; exact Nat.le_trans (List.length_filter_le _ _) (by rw [List.length_take]; omega)
        by_cases hlt:i < r.sheets.length
        · generalize hM:S.map Fld.cs=M
          have hMl:M.length=S.length:=by rw [← hM,List.length_map]
          have hx:(r.sheets.map Fld.cs).getD i []=Fld.cs (r.sheets.getD i d):=row d hlt
          have hN:=filter_next (q:=fun f:Fld=>f.week == w) (getD_lt d hlt)
          rw [← hS] at hN
          have hcf:=copiedFiled_spec (r.sheets.getD i d) (hfl _ (List.mem_of_getElem? (getD_lt d hlt)))
          generalize r.sheets.getD i d=x at hx hN hcf
          by_cases hxw:x.week=w
          · rw [show (x.week == w)=true by simp [hxw],if_pos rfl] at hN
            ((refine Az (And.intro @hx (And.intro @hMl @hxw)) @hcf ?_;repeat' constructor)<;>intros<;>refine hD_ ?_)
            all_goals try (exfalso;omega)
            refine ⟨⟨(i+1,S++[x],μ++[some [⟨72,24,[x.cs],none⟩]]),hlt,hN.symm⟩,by simp,?_,by simp only; omega⟩
            simp [← hM]
          · rw [show (x.week == w)=false by simp [hxw],if_neg (by decide)] at hN
            ((refine Az (And.intro @hx (And.intro @hMl @hxw)) @hcf ?_;repeat' constructor)<;>intros<;>refine hD_ ?_)
            all_goals try (exfalso;omega)
            refine ⟨⟨(i+1,S,μ++[some [⟨72,24,[x.cs],none⟩]]),hlt,hN.symm⟩,by simp,?_,by simp only; omega⟩
            simp [← hM]
        · obtain rfl:i=r.sheets.length:=by omega
          rw [List.take_length] at hS
          ((refine Au ?_;repeat' constructor)<;>intros<;>refine hD_ ?_)
          all_goals try (exfalso;omega)
          refine .inr (.inl ⟨_,_,_,_,rfl,fun _=>⟨hK _ 2 S (by rw [hS]; exact hs) rfl,?_⟩,fun h=>by cases h⟩)
          rintro r1 σ1 rfl
          refine Zy ?_
          have hsp:(srtF S).length=S.length:=(srtF_perm S).length_eq
          simp only [zN,zT,zV,zS,zU,Q0,Q1,ex,Q2,Q3,Q4,Q5,Q6,Q7,Q8,Q9,QA,QB,QC,Nat.reduceBEq,reduceAdd,reduceSub,reduceLT,reduceLeDiff,reduceMul,reduceEqDiff,reduceIte]
          generalize hT:srtF S=T at hsp
          rw [← hsp]
          rw [← hsp] at hSl
          ((refine Au ?_;repeat' constructor)<;>intros<;>refine hD_ ?_)
          refine AWPC.loopE (α:={ x:Nat × List Rd × Sto // x.1≤r.reads.length∧x.2.1=(r.reads.take x.1).filter fun f=>f.week == w }) [57] (fun x=>[(57,n x.1.1)])
            (fun x=>some [⟨86,9,[[.v (.slice none 0 0),n 0,n 0,n 0,n 0,n 0,n 0,.v (.slice none 0 0),.v (.slice none 0 0)]],none⟩]::some [⟨86,9,[[.own 4 0 r.stns.length,n b.fixed,n b.each,n b.term,n b.ticks,n b.clerks,n w,.own 2 0 T.length,.own 3 0 x.1.2.1.length]],none⟩]::some [⟨72,24,T.map Fld.cs,none⟩]::some [⟨64,5,x.1.2.1.map Rd.cs,none⟩]::some [⟨109,4,r.stns.map Stn.cs,none⟩]::x.1.2.2)
            (fun x=>r.reads.length - x.1.1) ⟨(0,[],μ),Nat.zero_le _,rfl⟩ ?_ rfl ?_
          · (simp only [zN,zT,zV,zS,zU,Q0,Q1,ex,Q2,Q3,Q4,Q5,Q6,Q7,Q8,Q9,QA,QB,QC,Nat.reduceBEq,reduceAdd,reduceSub,reduceLT,reduceLeDiff,reduceMul,reduceEqDiff,reduceIte]; try simp)
          · rintro ⟨⟨i,R,μ⟩,hi,hR⟩
            simp only at hi hR
            have hRl:R.length≤r.reads.length:=by rw [hR]; exact Nat.le_trans (List.length_filter_le _ _) (by rw [List.length_take]; omega)
            by_cases hlt:i < r.reads.length
            · generalize hM:R.map Rd.cs=M
              have hMl:M.length=R.length:=by rw [← hM,List.length_map]
              have hx:(r.reads.map Rd.cs).getD i []=Rd.cs (r.reads.getD i rd0):=row rd0 hlt
              have hN:=filter_next (q:=fun f:Rd=>f.week == w) (getD_lt rd0 hlt)
              rw [← hR] at hN
              generalize r.reads.getD i rd0=x at hx hN
              by_cases hxw:x.week=w
              · rw [show (x.week == w)=true by simp [hxw],if_pos rfl] at hN
                ((refine Ax (And.intro @hx (And.intro @hMl @hxw)) ?_;repeat' constructor)<;>intros<;>refine hD_ ?_)
                all_goals try (exfalso;omega)
                refine ⟨⟨(i+1,R++[x],μ++[some [⟨64,5,[x.cs],none⟩]]),hlt,hN.symm⟩,by simp,?_,by simp only; omega⟩
                simp [← hM,hxw]
              · rw [show (x.week == w)=false by simp [hxw],if_neg (by decide)] at hN
                ((refine Ax (And.intro @hx (And.intro @hMl @hxw)) ?_;repeat' constructor)<;>intros<;>refine hD_ ?_)
                all_goals try (exfalso;omega)
                refine ⟨⟨(i+1,R,μ++[some [⟨64,5,[x.cs],none⟩]]),hlt,hN.symm⟩,by simp,?_,by simp only; omega⟩
                simp [← hM]
            · obtain rfl:i=r.reads.length:=by omega
              rw [List.take_length] at hR
              have hWT:weekT b r w=⟨{ b with stns:=r.stns },w,T,R⟩:=by unfold weekT; rw [hR,← hT,hS]
              by_cases h64:64 < T.length∨64 < R.length
              · have hE:weekE b r w=(wk0,2):=by unfold weekE; rw [if_neg (fun h=>h hbok),if_neg (fun h=>h hw),hWT]; exact if_pos h64
                rw [hE]
                ((refine Au ?_;repeat' constructor)<;>intros<;>refine hD_ ?_)
                all_goals try (exfalso;omega)
                all_goals exact Frz.tupL ⟨Frz.aggL ⟨Frz.nil0,Frz.pure (by simp),Frz.pure (by simp),Frz.pure (by simp),Frz.pure (by simp),Frz.pure (by simp),Frz.pure (by simp),Frz.nil0,Frz.nil0,trivial⟩,Frz.pure (by simp),trivial⟩
              · have hE:weekE b r w=(weekT b r w,0):=by unfold weekE; rw [if_neg (fun h=>h hbok),if_neg (fun h=>h hw),hWT]; exact if_neg h64
                rw [hE,hWT]
                ((refine Au ?_;repeat' constructor)<;>intros<;>refine hD_ ?_)
                all_goals try (exfalso;omega)
                all_goals exact Frz.tupL ⟨Frz.aggL ⟨Frz.ownL (T:=109) (cs:=Stn.cs) rfl rfl (by decide) sn_pc (fun a=>rfl),Frz.pure (by simp),Frz.pure (by simp),Frz.pure (by simp),Frz.pure (by simp),Frz.pure (by simp),Frz.pure (by simp),Frz.ownL (T:=72) (cs:=Fld.cs) rfl rfl (by decide) (fun a=>Fld.pc a) (fun a=>rfl),Frz.ownL (T:=64) (cs:=Rd.cs) rfl rfl (by decide) rd_pc (fun a=>rfl),trivial⟩,Frz.pure (by simp),trivial⟩
    · have hE:weekE b r w=(wk0,1):=by unfold weekE; rw [if_neg (fun h=>h hbok),if_pos hw]
      rw [hE]
      simp only [inr] at hw
      ((refine Ay (And.intro @hcb (within_a w 0 10000)) ?_;repeat' constructor)<;>intros<;>refine hD_ ?_)
      all_goals try (exfalso;omega)
      all_goals exact Frz.tupL ⟨Frz.aggL ⟨Frz.nil0,Frz.pure (by simp),Frz.pure (by simp),Frz.pure (by simp),Frz.pure (by simp),Frz.pure (by simp),Frz.pure (by simp),Frz.nil0,Frz.nil0,trivial⟩,Frz.pure (by simp),trivial⟩
  · rw [if_neg hbok] at hcb
    have hE:weekE b r w=(wk0,100):=by unfold weekE; rw [if_pos hbok]
    rw [hE]
    ((refine Ay @hcb ?_;repeat' constructor)<;>intros<;>refine hD_ ?_)
    all_goals try (exfalso;omega)
    all_goals exact Frz.tupL ⟨Frz.aggL ⟨Frz.nil0,Frz.pure (by simp),Frz.pure (by simp),Frz.pure (by simp),Frz.pure (by simp),Frz.pure (by simp),Frz.pure (by simp),Frz.nil0,Frz.nil0,trivial⟩,Frz.pure (by simp),trivial⟩
def c28:CF:=⟨26,(jo [jb 4 false] [0,1]
 (.seq (jo [jm 6 0,je 7 6,jm 8 1,je 9 8,jt .neq 10 7 9] [0,1,10]
 (.cond (.t 10) (jo [jb 4 false] [4]
 .ret)
 .skip))
 (.seq (jo [jc 5 0] [0,1,5]
 (.block 0 (.loop (.seq (jo [jm 11 5,jm 12 0,je 13 12,jt .lss 14 11 13] [0,1,5,14]
 (.cond (.t 14) .skip
 (.exit 0)))
 (.seq (.block 1 (.seq (.draw [jm 17 0,jm 18 5,ji 19 2 17 18,jk 20 2 19,jm 21 1,jm 22 5,ji 23 2 21 22,jk 24 2 23,jw 25 (.eqs true [some .i64,some .i64] (.t 20) (.t 24))] [] [0,1,5,25])
 (.cond (.t 25) (jo [jb 4 false] [4]
 .ret)
 .skip)))
 (.ops [jm 15 5,ju .add 16 15 1,jm 5 16] [0,1,5]))))))
 (jo [jb 4 true] [4]
 .ret)))),[.t 4]⟩
theorem k28:chkF Tryz.prog Tryz.f28 c28=true:=by kernel_rfl
def c68:CF:=⟨26,(jo [jb 4 false] [0,1]
 (.seq (jo [jm 6 0,je 7 6,jm 8 1,je 9 8,jt .neq 10 7 9] [0,1,10]
 (.cond (.t 10) (jo [jb 4 false] [4]
 .ret)
 .skip))
 (.seq (jo [jc 5 0] [0,1,5]
 (.block 0 (.loop (.seq (jo [jm 11 5,jm 12 0,je 13 12,jt .lss 14 11 13] [0,1,5,14]
 (.cond (.t 14) .skip
 (.exit 0)))
 (.seq (.block 1 (.seq (.draw [jm 17 0,jm 18 5,ji 19 1 17 18,jl 20 19,jm 21 1,jm 22 5,ji 23 1 21 22,jl 24 23,jt .neq 25 20 24] [] [0,1,5,25])
 (.cond (.t 25) (jo [jb 4 false] [4]
 .ret)
 .skip)))
 (.ops [jm 15 5,ju .add 16 15 1,jm 5 16] [0,1,5]))))))
 (jo [jb 4 true] [4]
 .ret)))),[.t 4]⟩
theorem k68:chkF Tryz.prog Tryz.f68 c68=true:=by kernel_rfl
def c77:CF:=⟨8,(jo [jw 0 (.alloc 26 6 [.slice none 0 0,.int .i64 0,.int .i64 0,.int .i64 0,.int .i64 0,.int .i64 0])] [0]
 (jo [jw 1 (.build [.int .i64 0,.int .i64 0] [(0,1,(.c (.int .i64 100))),(1,1,(.c (.int .i64 100)))]),jw 2 (.build [.int .i64 0,.int .i64 0,.int .i64 0] [(1,2,(.t 1))]),jw 3 (.bsl false 66 3 1 [.int .i64 0,.int .i64 0,.int .i64 0] [(0,3,(.t 2))]),jw 4 (.build [.int .i64 0,.int .i64 0,.int .i64 0,.slice none 0 0] [(0,1,(.c (.int .i64 5))),(3,1,(.t 3))]),jw 5 (.bsl false 109 4 1 [.int .i64 0,.int .i64 0,.int .i64 0,.slice none 0 0] [(0,4,(.t 4))]),jw 6 (.build [.int .i64 0,.int .i64 0] [(0,1,(.c (.int .i64 10)))]),jw 7 (.build [.slice none 0 0,.int .i64 0,.int .i64 0,.int .i64 0,.int .i64 0,.int .i64 0] [(0,1,(.t 5)),(1,2,(.t 6)),(3,1,(.c (.int .i64 50))),(4,1,(.c (.int .i64 100))),(5,1,(.c (.int .i64 2)))]),js 6 0 7] [0]
 .ret)),[.c 0 (some 6)]⟩
theorem k77:chkF Tryz.prog Tryz.f77 c77=true:=by kernel_rfl
def c79:CF:=⟨12,(jo [jw 6 (.alloc 68 38 z38)] [0,1,2,6]
 (jo [jm 7 0,jm 8 0,jm 9 1,jm 10 2,jw 11 (.build z38 [(0,1,(.c (.int .i64 1))),(1,1,(.t 7)),(2,1,(.t 8)),(3,1,(.t 9)),(4,1,(.t 10))]),js 38 6 11] [6]
 .ret)),[.c 6 (some 38)]⟩
theorem k79:chkF Tryz.prog Tryz.f79 c79=true:=by kernel_rfl
def c140:CF:=⟨12,(jo [jw 0 (.alloc 60 18 z18)] [0]
 (jo [jw 2 (.build [.int .i64 0,.int .i64 0] [(0,1,(.c (.int .i64 1000))),(1,1,(.c (.int .i64 1000)))]),jw 1 (.alloc 48 2 [.int .i64 0,.int .i64 0]),js 2 1 2] [0,1]
 (jo [jk 3 2 1,jk 4 2 1,jw 5 (.build [.int .i64 0,.int .i64 0,.int .i64 0,.int .i64 0,.int .i64 0,.int .i64 0,.int .i64 0,.int .i64 0,.int .i64 0,.int .i64 0] [(0,1,(.c (.int .i64 100))),(1,1,(.c (.int .i64 1000))),(3,1,(.c (.int .i64 9600))),(4,1,(.c (.int .i64 10600))),(5,1,(.c (.int .i64 3))),(6,2,(.t 3)),(8,2,(.t 4))]),jw 6 (.build [.int .i64 0,.int .i64 0] [(0,1,(.c (.int .i64 1))),(1,1,(.c (.int .i64 2)))]),jw 7 (.build [.int .i64 0,.int .i64 0] [(0,1,(.c (.int .i64 1))),(1,1,(.c (.int .i64 2)))]),jw 8 (.bsl false 48 2 2 [.int .i64 0,.int .i64 0,.int .i64 0,.int .i64 0] [(0,2,(.t 6)),(2,2,(.t 7))]),jw 9 (.build [.slice none 0 0,.slice none 0 0] [(0,1,(.t 8))]),jw 10 (.build [.int .i64 0,.int .i64 0,.int .i64 0,.int .i64 0] [(0,1,(.c (.int .i64 1))),(3,1,(.c (.int .i64 10)))]),jw 11 (.build z18 [(0,10,(.t 5)),(12,2,(.t 9)),(14,4,(.t 10))]),js 18 0 11] [0]
 .ret))),[.c 0 (some 18)]⟩
theorem k140:chkF Tryz.prog Tryz.f140 c140=true:=by kernel_rfl
def c78:CF:=⟨52,(jo [jn 0] []
 (jo [jw 2 (.call (.f 79) [(.c (.int .i64 1)),(.c (.int .i64 10)),(.c (.int .i64 1))]),jw 3 (.call (.f 79) [(.c (.int .i64 2)),(.c (.int .i64 11)),(.c (.int .i64 2))]),jw 4 (.call (.f 79) [(.c (.int .i64 3)),(.c (.int .i64 12)),(.c (.int .i64 3))]),jw 5 (.call (.f 79) [(.c (.int .i64 4)),(.c (.int .i64 13)),(.c (.int .i64 6))]),jw 6 (.call (.f 79) [(.c (.int .i64 5)),(.c (.int .i64 14)),(.c (.int .i64 5))]),jw 7 (.bslt 68 38 5 [.int .i64 0,.int .i64 0,.int .i64 0,.int .i64 0,.int .i64 0,.int .i64 0,.int .i64 0,.int .i64 0,.int .i64 0,.int .i64 0,.int .i64 0,.int .i64 0,.int .i64 0,.int .i64 0,.int .i64 0,.int .i64 0,.int .i64 0,.slice none 0 0,.slice none 0 0,.slice none 0 0,.slice none 0 0,.int .i64 0,.int .i64 0,.int .i64 0,.int .i64 0,.int .i64 0,.int .i64 0,.int .i64 0,.int .i64 0,.int .i64 0,.int .i64 0,.int .i64 0,.int .i64 0,.int .i64 0,.int .i64 0,.int .i64 0,.int .i64 0,.int .i64 0,.int .i64 0,.int .i64 0,.int .i64 0,.int .i64 0,.int .i64 0,.int .i64 0,.int .i64 0,.int .i64 0,.int .i64 0,.int .i64 0,.int .i64 0,.int .i64 0,.int .i64 0,.int .i64 0,.int .i64 0,.int .i64 0,.int .i64 0,.slice none 0 0,.slice none 0 0,.slice none 0 0,.slice none 0 0,.int .i64 0,.int .i64 0,.int .i64 0,.int .i64 0,.int .i64 0,.int .i64 0,.int .i64 0,.int .i64 0,.int .i64 0,.int .i64 0,.int .i64 0,.int .i64 0,.int .i64 0,.int .i64 0,.int .i64 0,.int .i64 0,.int .i64 0,.int .i64 0,.int .i64 0,.int .i64 0,.int .i64 0,.int .i64 0,.int .i64 0,.int .i64 0,.int .i64 0,.int .i64 0,.int .i64 0,.int .i64 0,.int .i64 0,.int .i64 0,.int .i64 0,.int .i64 0,.int .i64 0,.int .i64 0,.slice none 0 0,.slice none 0 0,.slice none 0 0,.slice none 0 0,.int .i64 0,.int .i64 0,.int .i64 0,.int .i64 0,.int .i64 0,.int .i64 0,.int .i64 0,.int .i64 0,.int .i64 0,.int .i64 0,.int .i64 0,.int .i64 0,.int .i64 0,.int .i64 0,.int .i64 0,.int .i64 0,.int .i64 0,.int .i64 0,.int .i64 0,.int .i64 0,.int .i64 0,.int .i64 0,.int .i64 0,.int .i64 0,.int .i64 0,.int .i64 0,.int .i64 0,.int .i64 0,.int .i64 0,.int .i64 0,.int .i64 0,.int .i64 0,.int .i64 0,.int .i64 0,.slice none 0 0,.slice none 0 0,.slice none 0 0,.slice none 0 0,.int .i64 0,.int .i64 0,.int .i64 0,.int .i64 0,.int .i64 0,.int .i64 0,.int .i64 0,.int .i64 0,.int .i64 0,.int .i64 0,.int .i64 0,.int .i64 0,.int .i64 0,.int .i64 0,.int .i64 0,.int .i64 0,.int .i64 0,.int .i64 0,.int .i64 0,.int .i64 0,.int .i64 0,.int .i64 0,.int .i64 0,.int .i64 0,.int .i64 0,.int .i64 0,.int .i64 0,.int .i64 0,.int .i64 0,.int .i64 0,.int .i64 0,.int .i64 0,.int .i64 0,.int .i64 0,.slice none 0 0,.slice none 0 0,.slice none 0 0,.slice none 0 0,.int .i64 0,.int .i64 0,.int .i64 0,.int .i64 0,.int .i64 0,.int .i64 0,.int .i64 0,.int .i64 0,.int .i64 0,.int .i64 0,.int .i64 0,.int .i64 0,.int .i64 0,.int .i64 0,.int .i64 0,.int .i64 0,.int .i64 0] [(0,38,(.t 2)),(38,38,(.t 3)),(76,38,(.t 4)),(114,38,(.t 5)),(152,38,(.t 6))]),jm 1 7] [1]
 (jo [jm 8 1,jw 9 (.iaddr 38 (.t 8) (.c (.int .i64 0))),jf 10 5 9,⟨none,.store 1 (.t 10) (.c (.int .i64 5)),none⟩] [1]
 (jo [jm 11 1,jw 12 (.iaddr 38 (.t 11) (.c (.int .i64 0))),jf 13 6 12,⟨none,.store 1 (.t 13) (.c (.int .i64 3)),none⟩] [1]
 (jo [jm 14 1,jy 15 140 [],jw 16 (.iaddr 38 (.t 14) (.c (.int .i64 0))),jf 17 7 16,js 18 17 15] [1]
 (jo [jm 18 1,jw 19 (.build [.int .i64 0,.int .i64 0] [(0,1,(.c (.int .i64 1))),(1,1,(.c (.int .i64 1)))]),jw 20 (.iaddr 38 (.t 18) (.c (.int .i64 1))),jf 21 36 20,js 2 21 19] [1]
 (jo [jm 22 1,jw 23 (.build [.int .i64 0,.int .i64 0] [(0,1,(.c (.int .i64 4))),(1,1,(.c (.int .i64 6)))]),jw 24 (.build [.int .i64 0,.int .i64 0,.int .i64 0] [(1,2,(.t 23))]),jw 25 (.iaddr 38 (.t 22) (.c (.int .i64 1))),jf 26 25 25,js 3 26 24] [1]
 (jo [jm 27 1,jw 28 (.build [.int .i64 0,.int .i64 0] [(0,1,(.c (.int .i64 10000))),(1,1,(.c (.int .i64 10010)))]),jw 29 (.build [.int .i64 0,.int .i64 0,.int .i64 0,.int .i64 0,.int .i64 0] [(0,1,(.c (.int .i64 5))),(1,1,(.c (.int .i64 3))),(2,1,(.c (.int .i64 20))),(3,2,(.t 28))]),jw 30 (.iaddr 38 (.t 27) (.c (.int .i64 2))),jf 31 28 30,js 5 31 29] [1]
 (jo [jm 32 1,jw 33 (.build [.int .i64 0,.int .i64 0] [(0,1,(.c (.int .i64 1))),(1,1,(.c (.int .i64 2)))]),jw 34 (.iaddr 38 (.t 32) (.c (.int .i64 3))),jf 35 36 34,js 2 35 33] [1]
 (jo [jm 36 1,jw 37 (.build [.int .i64 0,.int .i64 0] [(0,1,(.c (.int .i64 5))),(1,1,(.c (.int .i64 6)))]),jw 38 (.build [.int .i64 0,.int .i64 0,.int .i64 0] [(1,2,(.t 37))]),jw 39 (.iaddr 38 (.t 36) (.c (.int .i64 3))),jf 40 25 39,js 3 40 38] [1]
 (jo [jm 41 1,jw 42 (.build [.int .i64 0,.int .i64 0] [(0,1,(.c (.int .i64 1))),(1,1,(.c (.int .i64 1)))]),jw 43 (.iaddr 38 (.t 41) (.c (.int .i64 4))),jf 44 36 43,js 2 44 42] [1]
 (jo [jm 45 1,jw 46 (.iaddr 38 (.t 45) (.c (.int .i64 4))),jf 47 5 46,⟨none,.store 1 (.t 47) (.c (.int .i64 5)),none⟩] [1]
 (jo [jm 48 1,jw 49 (.iaddr 38 (.t 48) (.c (.int .i64 4))),jf 50 6 49,⟨none,.store 1 (.t 50) (.c (.int .i64 4)),none⟩] [1]
 (jo [jm 51 1,jm 0 51] [0]
 .ret)))))))))))))),[.t 0]⟩
theorem k78:chkF Tryz.prog Tryz.f78 c78=true:=by kernel_rfl
def c18:CF:=⟨181,(jo [jb 0 false] []
 (jo [jy 15 77 [],jy 16 78 [],jy 17 21 [15,16],jm 14 17,jz 18 0 14,jz 19 1 14,jw 1 (.alloc 37 4 [.slice none 0 0,.slice none 0 0,.slice none 0 0,.slice none 0 0]),js 4 1 18,jm 2 19] [1,2]
 (jo [jy 21 77 [],jy 22 78 [],jw 23 (.call (.f 23) [(.t 21),(.t 22),(.c (.int .i64 11)),(.c (.int .i64 100))]),jm 20 23,jz 24 0 20,jz 25 1 20,jw 3 (.alloc 37 4 [.slice none 0 0,.slice none 0 0,.slice none 0 0,.slice none 0 0]),js 4 3 24,jm 4 25] [1,2,3,4]
 (jo [jk 27 4 1,jy 28 36 [27],jm 26 28,jz 29 0 26,jz 30 1 26,jm 5 29,jm 6 30] [1,2,3,4,5,6]
 (jo [jy 32 77 [],jy 33 78 [],jw 34 (.build [.int .i64 0,.int .i64 0] [(0,1,(.c (.int .i64 1))),(1,1,(.c (.int .i64 2)))]),jy 35 25 [32,33,34],jm 31 35,jz 36 0 31,jz 37 1 31,jm 7 36,jm 8 37] [1,2,3,4,5,6,7,8]
 (.seq (.drawl 5 [jy 39 77 [],jk 40 4 1,jw 41 (.call (.f 37) [(.t 39),(.t 40),(.c (.int .i64 3))]),jm 38 41,jz 42 0 38,jz 43 1 38,jw 9 (.alloc 86 9 [.slice none 0 0,.int .i64 0,.int .i64 0,.int .i64 0,.int .i64 0,.int .i64 0,.int .i64 0,.slice none 0 0,.slice none 0 0])] [js 9 9 42,jm 10 43] [1,2,3,4,5,6,7,8,9,10])
 (jo [jw 44 (.call (.f 79) [(.c (.int .i64 6)),(.c (.int .i64 15)),(.c (.int .i64 7))]),jw 11 (.alloc 68 38 z38),js 38 11 44] [1,2,3,4,5,6,7,8,9,10,11]
 (jo [jw 45 (.build [.int .i64 0,.int .i64 0] [(0,1,(.c (.int .i64 1))),(1,1,(.c (.int .i64 1)))]),jf 46 36 11,js 2 46 45] [1,2,3,4,5,6,7,8,9,10,11]
 (.seq (.drawl 8 [jy 48 77 [],jy 49 78 [],jk 50 38 11,jw 51 (.bsl false 68 38 1 z38 [(0,38,(.t 50))]),jw 52 (.appi 68 38 368 (.t 49) (.t 51)),jy 53 21 [48,52],jm 47 53,jz 54 0 47,jz 55 1 47,jw 12 (.alloc 37 4 [.slice none 0 0,.slice none 0 0,.slice none 0 0,.slice none 0 0])] [js 4 12 54,jm 13 55] [1,2,3,4,5,6,7,8,9,10,12,13])
 (.seq (jo [jm 56 2,ju .neq 57 56 0,jm 58 57,jd 58 (jm 59 4),jd 58 (ju .neq 60 59 0),jq 61 58 60,jm 62 61,jd 62 (jm 63 6),jd 62 (ju .neq 64 63 0),jq 65 62 64,jm 66 65,jd 66 (jm 67 8),jd 66 (ju .neq 68 67 0),jq 69 66 68,jm 70 69,jd 70 (jm 71 10),jd 70 (ju .neq 72 71 0),jq 73 70 72,jm 74 73,jd 74 (jm 75 13),jd 74 (ju .neq 76 75 0),jq 77 74 76,jm 78 77,jd 78 (jf 79 0 1),jd 78 (jl 80 79),jd 78 (je 81 80),jd 78 (ju .neq 82 81 1),jq 83 78 82,jm 84 83,jd 84 (jf 85 0 1),jd 84 (jl 86 85),⟨some 87,.iaddr 24 (.t 86) (.c (.int .i64 0)),some (84,false)⟩,jd 84 (jf 88 22 87),jd 84 (jl 89 88),jd 84 (je 90 89),jd 84 (ju .neq 91 90 1),jq 92 84 91,jm 93 92,jd 93 (jf 94 0 3),jd 93 (jl 95 94),jd 93 (je 96 95),jd 93 (ju .neq 97 96 1),jq 98 93 97,jm 99 98,jd 99 (jf 100 0 3),jd 99 (jl 101 100),⟨some 102,.iaddr 24 (.t 101) (.c (.int .i64 0)),some (99,false)⟩,jd 99 (jf 103 22 102),jd 99 (jl 104 103),jd 99 (je 105 104),jd 99 (ju .neq 106 105 1),jq 107 99 106,jm 108 107,jd 108 (jf 109 3 12),jd 108 (jl 110 109),jd 108 (je 111 110),jd 108 (ju .neq 112 111 3),jq 113 108 112] [1,3,5,7,9,12,113]
 (.cond (.t 113) (jo [jb 0 false] [0]
 .ret)
 .skip))
 (jo [jf 114 0 1,jl 115 114,jw 116 (.iaddr 24 (.t 115) (.c (.int .i64 0))),jf 117 3 116,jl 118 117,ju .eql 119 118 4,jm 120 119,ja 120 (jf 121 0 1),ja 120 (jl 122 121),⟨some 123,.iaddr 24 (.t 122) (.c (.int .i64 0)),some (120,true)⟩,ja 120 (jf 124 22 123),ja 120 (jl 125 124),⟨some 126,.iaddr 3 (.t 125) (.c (.int .i64 0)),some (120,true)⟩,ja 120 (jf 127 1 126),ja 120 (jf 128 0 127),ja 120 (jl 129 128),ja 120 (ju .eql 130 129 5),jp 131 120 130,jm 132 131,ja 132 (jf 133 0 3),ja 132 (jl 134 133),⟨some 135,.iaddr 24 (.t 134) (.c (.int .i64 0)),some (132,true)⟩,ja 132 (jf 136 3 135),ja 132 (jl 137 136),ja 132 (ju .eql 138 137 3),jp 139 132 138,jm 140 139,ja 140 (jf 141 0 3),ja 140 (jl 142 141),⟨some 143,.iaddr 24 (.t 142) (.c (.int .i64 0)),some (140,true)⟩,ja 140 (jf 144 22 143),ja 140 (jl 145 144),⟨some 146,.iaddr 3 (.t 145) (.c (.int .i64 0)),some (140,true)⟩,ja 140 (jf 147 1 146),ja 140 (jf 148 0 147),ja 140 (jl 149 148),ja 140 (ju .eql 150 149 4),jp 151 140 150,jm 152 151,ja 152 (jm 153 5),⟨some 154,.bsl false 3 1 2 [.int .i64 0,.int .i64 0] [(0,1,(.c (.int .i64 3))),(1,1,(.c (.int .i64 4)))],some (152,true)⟩,ja 152 (jy 155 68 [153,154]),jp 156 152 155,jm 157 156,ja 157 (jm 158 7),⟨some 159,.build [.int .i64 0,.int .i64 0] [(0,1,(.c (.int .i64 1))),(1,1,(.c (.int .i64 4)))],some (157,true)⟩,⟨some 160,.bsl false 29 2 1 [.int .i64 0,.int .i64 0] [(0,2,(.t 159))],some (157,true)⟩,ja 157 (jy 161 28 [158,160]),jp 162 157 161,jm 163 162,ja 163 (jf 164 7 9),ja 163 (jl 165 164),ja 163 (je 166 165),ja 163 (ju .eql 167 166 0),jp 168 163 167,jm 169 168,ja 169 (jf 170 8 9),ja 169 (jl 171 170),ja 169 (je 172 171),ja 169 (ju .eql 173 172 1),jp 174 169 173,jm 175 174,ja 175 (jf 176 0 12),ja 175 (jl 177 176),ja 175 (je 178 177),ja 175 (ju .eql 179 178 0),jp 180 175 179,jm 0 180] [0]
 .ret))))))))))),[.t 0]⟩
theorem k18:chkF Tryz.prog Tryz.f18 c18=true:=by kernel_rfl
theorem sameNm (a b:List Nm) (ha:a.length < 9223372036854775808) (hb:b.length < 9223372036854775808):Pure Tryz.prog 28 [nmS a,nmS b] (bl (decide (a=b))):=by
  refine pB_ Tryz.call28 Tryz.func28 k28 ?_
  unfold c28
  ((refine Au ?_;repeat' constructor)<;>intros<;>refine hD_ ?_)
  · rename_i h
    rw [decide_eq_false fun e=>by subst e; omega]; exact Frz.eq rfl (by simp)
  rename_i hne
  have hlen:a.length=b.length:=by omega
  refine AWPC.loopI 5 a.length (fun i=>a.take i=b.take i) (by simp) ?_ ?_
  · (simp only [zN,zT,zV,zS,zU,Q0,Q1,ex,Q2,Q3,Q4,Q5,Q6,Q7,Q8,Q9,QA,QB,QC,Nat.reduceBEq,reduceAdd,reduceSub,reduceLT,reduceLeDiff,reduceMul,reduceEqDiff,reduceIte]; try simp)
  · intro i hi hI
    by_cases hlt:i < a.length
    · have hx:(a.map Nm.cs).getD i []=Nm.cs (a.getD i nm0):=row _ hlt
      have hy:(b.map Nm.cs).getD i []=Nm.cs (b.getD i nm0):=row _ (by omega)
      have hk:a.getD i nm0=b.getD i nm0↔a.take (i+1)=b.take (i+1):=by
        rw [List.take_add_one,List.take_add_one,hI,getD_lt nm0 hlt,getD_lt nm0 (show i < b.length by omega)]; simp
      generalize a.getD i nm0=x at hx hk
      generalize b.getD i nm0=y at hy hk
      obtain ⟨x1,x2⟩:=x
      obtain ⟨y1,y2⟩:=y
      simp only [Nm.mk.injEq] at hk
      ((refine Ax (And.intro @hx @hy) ?_;repeat' constructor)<;>intros<;>refine hD_ ?_)
      all_goals try (exfalso;omega)
      · rename_i h
        rw [decide_eq_false fun e=>by
          have:=hk.2 (by rw [e])
          omega]
        exact Frz.eq rfl (by simp)
      · rename_i h
        exact ⟨⟨i+1,hlt,hk.1 (by omega)⟩,by simp,by simp only; omega⟩
    · obtain rfl:i=a.length:=by omega
      ((refine Au ?_;repeat' constructor)<;>intros<;>refine hD_ ?_)
      all_goals try (exfalso;omega)
      rw [List.take_length,hlen,List.take_length] at hI
      rw [decide_eq_true hI]
      exact Frz.eq rfl (by simp)
theorem sameInt (a b:List Int) (ha:a.length < 9223372036854775808) (hb:b.length < 9223372036854775808):Pure Tryz.prog 68 [inS a,inS b] (bl (decide (a=b))):=by
  refine pB_ Tryz.call68 Tryz.func68 k68 ?_
  unfold c68
  ((refine Au ?_;repeat' constructor)<;>intros<;>refine hD_ ?_)
  · rename_i h
    rw [decide_eq_false fun e=>by subst e; omega]; exact Frz.eq rfl (by simp)
  rename_i hne
  have hlen:a.length=b.length:=by omega
  refine AWPC.loopI 5 a.length (fun i=>a.take i=b.take i) (by simp) ?_ ?_
  · (simp only [zN,zT,zV,zS,zU,Q0,Q1,ex,Q2,Q3,Q4,Q5,Q6,Q7,Q8,Q9,QA,QB,QC,Nat.reduceBEq,reduceAdd,reduceSub,reduceLT,reduceLeDiff,reduceMul,reduceEqDiff,reduceIte]; try simp)
  · intro i hi hI
    by_cases hlt:i < a.length
    · have hx:(a.map (fun z=>[n z])).getD i []=(fun z=>[n z]) (a.getD i 0):=row _ hlt
      have hy:(b.map (fun z=>[n z])).getD i []=(fun z=>[n z]) (b.getD i 0):=row _ (by omega)
      have hk:a.getD i 0=b.getD i 0↔a.take (i+1)=b.take (i+1):=by
        rw [List.take_add_one,List.take_add_one,hI,getD_lt 0 hlt,getD_lt 0 (show i < b.length by omega)]; simp
      generalize a.getD i 0=x at hx hk
      generalize b.getD i 0=y at hy hk
      ((refine Ax (And.intro @hx @hy) ?_;repeat' constructor)<;>intros<;>refine hD_ ?_)
      all_goals try (exfalso;omega)
      · rename_i h
        rw [decide_eq_false fun e=>by
          have:=hk.2 (by rw [e])
          omega]
        exact Frz.eq rfl (by simp)
      · rename_i h
        exact ⟨⟨i+1,hlt,hk.1 (by omega)⟩,by simp,by simp only; omega⟩
    · obtain rfl:i=a.length:=by omega
      ((refine Au ?_;repeat' constructor)<;>intros<;>refine hD_ ?_)
      all_goals try (exfalso;omega)
      rw [List.take_length,hlen,List.take_length] at hI
      rw [decide_eq_true hI]
      exact Frz.eq rfl (by simp)
def offB:Bse:=⟨[⟨5,0,0,[⟨0,⟨100,100⟩⟩]⟩],10,0,50,100,2⟩
def chartS:Sht:=⟨⟨100,1000,0,9600,10600,3,⟨1000,1000⟩,⟨1000,1000⟩⟩,[],[],[⟨1,2⟩,⟨1,2⟩],[],⟨1,⟨0,0⟩,10⟩⟩
def noteN (num day kind:Int):Nt:={ nt0 with clerk:=1,num:=num,clock:=num,day:=day,kind:=kind }
def sampL:List Nt:=[{ noteN 1 10 1 with stn:=5,week:=3,sheet:=chartS },{ noteN 2 11 2 with ref:=⟨1,1⟩,mark:=⟨0,⟨4,6⟩⟩ },{ noteN 3 12 3 with read:=⟨5,3,20,⟨10000,10010⟩⟩ },
  { noteN 4 13 6 with ref:=⟨1,2⟩,mark:=⟨0,⟨5,6⟩⟩ },{ noteN 5 14 5 with ref:=⟨1,1⟩,stn:=5,week:=4 }]
abbrev noteC (num day kind:Int):List AV:=[n 1,n num,n num,n day,n kind,n 0,n 0,n 0,n 0,n 0,n 0,n 0,n 0,n 0,n 0,n 0,n 0,.sl 3 [],.sl 1 [],.sl 2 [],.sl 3 [],n 0,n 0,n 0,n 0,n 0,n 0,n 0,n 0,n 0,n 0,n 0,n 0,n 0,n 0,n 0,n 0,n 0]
theorem office_spec:Pure Tryz.prog 77 [] (.agg offB.cs):=by
  refine pB_ Tryz.call77 Tryz.func77 k77 ?_
  unfold c77
  ((refine Au ?_;repeat' constructor)<;>intros<;>refine hD_ ?_)
  exact Frz.aggL ⟨Frz.eq rfl (snS_pure offB.stns),Frz.eq rfl (PureV.v _),Frz.eq rfl (PureV.v _),Frz.eq rfl (PureV.v _),Frz.eq rfl (PureV.v _),Frz.eq rfl (PureV.v _),trivial⟩
theorem note_spec (num day kind:Int):Pure Tryz.prog 79 [n num,n day,n kind] (.agg (noteC num day kind)):=by
  refine pB_ Tryz.call79 Tryz.func79 k79 ?_
  unfold c79
  ((refine Au ?_;repeat' constructor)<;>intros<;>refine hD_ ?_)
  exact Frz.aggL ⟨Frz.eq rfl (PureV.v _),Frz.eq rfl (PureV.v _),Frz.eq rfl (PureV.v _),Frz.eq rfl (PureV.v _),Frz.eq rfl (PureV.v _),Frz.eq rfl (PureV.v _),Frz.eq rfl (PureV.v _),Frz.eq rfl (PureV.v _),Frz.eq rfl (PureV.v _),Frz.eq rfl (PureV.v _),Frz.eq rfl (PureV.v _),Frz.eq rfl (PureV.v _),Frz.eq rfl (PureV.v _),Frz.eq rfl (PureV.v _),Frz.eq rfl (PureV.v _),Frz.eq rfl (PureV.v _),Frz.eq rfl (PureV.v _),Frz.nil0,Frz.nil0,Frz.nil0,Frz.nil0,Frz.eq rfl (PureV.v _),Frz.eq rfl (PureV.v _),Frz.eq rfl (PureV.v _),Frz.eq rfl (PureV.v _),Frz.eq rfl (PureV.v _),Frz.eq rfl (PureV.v _),Frz.eq rfl (PureV.v _),Frz.eq rfl (PureV.v _),Frz.eq rfl (PureV.v _),Frz.eq rfl (PureV.v _),Frz.eq rfl (PureV.v _),Frz.eq rfl (PureV.v _),Frz.eq rfl (PureV.v _),Frz.eq rfl (PureV.v _),Frz.eq rfl (PureV.v _),Frz.eq rfl (PureV.v _),Frz.eq rfl (PureV.v _),trivial⟩
theorem chart_spec:Pure Tryz.prog 140 [] (.agg chartS.cs):=by
  refine pB_ Tryz.call140 Tryz.func140 k140 ?_
  unfold c140
  ((refine Au ?_;repeat' constructor)<;>intros<;>refine hD_ ?_)
  exact Frz.aggL ⟨Frz.eq rfl (PureV.v _),Frz.eq rfl (PureV.v _),Frz.eq rfl (PureV.v _),Frz.eq rfl (PureV.v _),Frz.eq rfl (PureV.v _),Frz.eq rfl (PureV.v _),Frz.eq rfl (PureV.v _),Frz.eq rfl (PureV.v _),Frz.eq rfl (PureV.v _),Frz.eq rfl (PureV.v _),Frz.nil0,Frz.nil0,Frz.eq rfl (PureV.sl fun e he c hc=>by simp at he; rcases he with rfl | rfl <;> (simp at hc; rcases hc with rfl | rfl <;> exact PureV.v _)),Frz.nil0,Frz.eq rfl (PureV.v _),Frz.eq rfl (PureV.v _),Frz.eq rfl (PureV.v _),Frz.eq rfl (PureV.v _),trivial⟩
theorem sampleF_spec:Pure Tryz.prog 78 [] (.fresh 38 (sampL.map Nt.cs)):=by
  refine pB_ Tryz.call78 Tryz.func78 k78 ?_
  unfold c78
  ((refine Ay (And.intro (note_spec 1 10 1) (And.intro (note_spec 2 11 2) (And.intro (note_spec 3 12 3) (And.intro (note_spec 4 13 6) (And.intro (note_spec 5 14 5) @chart_spec))))) ?_;repeat' constructor)<;>intros<;>refine hD_ ?_)
  exact Frz.tightL (T:=68) (cs:=Nt.cs) (l:=sampL) rfl rfl (by decide) (fun a=>Nt.pc a) (fun a=>rfl)
theorem sample_spec:Pure Tryz.prog 78 [] (ntS sampL):=sampleF_spec.slack
def outN:Nt:={ noteN 6 15 7 with ref:=⟨1,1⟩ }
def reg1:Rgr:=⟨[⟨⟨1,1⟩,5,4,chartS,[⟨0,⟨5,6⟩⟩],[⟨1,2⟩]⟩],[⟨5,3,20,⟨10000,10010⟩⟩],offB.stns,[]⟩
def reg2:Rgr:=⟨[⟨⟨1,1⟩,5,3,chartS,[⟨0,⟨4,6⟩⟩],[⟨1,2⟩]⟩],[],offB.stns,[]⟩
def reg3:Rgr:=⟨[],[⟨5,3,20,⟨10000,10010⟩⟩],offB.stns,[⟨1,2⟩,⟨1,4⟩,⟨1,5⟩]⟩
theorem ev1:foldE offB sampL=(reg1,0):=by decide +kernel
theorem ev2:asofE offB sampL 11 100=(reg2,0):=by decide +kernel
theorem ev3:weeksT reg1=[3,4]:=by decide +kernel
theorem ev4:chainE offB sampL ⟨1,2⟩=([⟨1,4⟩],0):=by decide +kernel
theorem ev5:weekE offB reg1 3=(⟨offB,3,[],[⟨5,3,20,⟨10000,10010⟩⟩]⟩,0):=by decide +kernel
theorem ev6:foldE offB (sampL++[outN])=(reg3,0):=by decide +kernel
theorem offSz:bseSz offB:=by
  refine ⟨by decide,fun s hs=>?_⟩
  simp only [offB,List.mem_singleton] at hs
  subst hs
  decide
theorem sampSz:∀ a∈sampL++[outN],ntSz a:=by
  intro a ha
  simp only [sampL,List.cons_append,List.nil_append,List.mem_cons,List.not_mem_nil,or_false] at ha
  rcases ha with rfl | rfl | rfl | rfl | rfl | rfl <;> exact ⟨by decide,by decide,by decide,by decide⟩
theorem sampS:setSz sampL:=⟨by decide,fun a ha=>sampSz a (by simp [ha])⟩
theorem samp6:setSz (sampL++[outN]):=⟨by decide,sampSz⟩
theorem regC:∀ f∈reg1.sheets,fldC f:=by
  intro f hf
  simp only [reg1,List.mem_singleton] at hf
  subst hf
  exact ⟨⟨by decide,by decide,by decide,by decide⟩,by decide,by decide⟩
theorem awake_spec:Pure Tryz.prog 18 [] (bl true):=by
  have f1:=Fold_spec offB offSz sampL sampS
  rw [ev1] at f1
  have f2:=AsOf_spec offB offSz sampL sampS 11 100
  rw [ev2] at f2
  have f3:=Weeks_spec reg1 (by decide) (by decide)
  rw [ev3] at f3
  have f4:=Chain_spec offB offSz sampL sampS ⟨1,2⟩
  rw [ev4] at f4
  have f5:=WeekOf_of sortF0 offB offSz reg1 3 (by decide) (by decide) (by decide) regC (by decide) (by decide)
  rw [ev5] at f5
  have f6:=Fold_spec offB offSz (sampL++[outN]) samp6
  rw [ev6] at f6
  refine pB_ Tryz.call18 Tryz.func18 k18 ?_
  unfold c18
  iterate 22
    ((first
 | refine vn rfl ?_
 | simp (disch:=omega) only [wr64,Int.zero_sub]
 | refine bo (fun _=>?_) fun _=>?_
 | refine im fun _=>?_
 | ((repeat refine si ?_); (first | ((first | refine .inl ⟨_,_,_,_,rfl,fun _=>pu (by first | exact office_spec | exact sample_spec | exact f1 | exact f2 | exact f3 | exact f4 | exact f5 | exact f6 | exact note_spec 6 15 7 | exact sameInt [3,4] [3,4] (by decide) (by decide) | exact sameNm [⟨1,4⟩] [⟨1,4⟩] (by decide) (by decide)),?_⟩ | refine ⟨_,_,_,_,rfl,fun _=>pu (by first | exact office_spec | exact sample_spec | exact f1 | exact f2 | exact f3 | exact f4 | exact f5 | exact f6 | exact note_spec 6 15 7 | exact sameInt [3,4] [3,4] (by decide) (by decide) | exact sameNm [⟨1,4⟩] [⟨1,4⟩] (by decide) (by decide)),?_⟩); (first | refine o1 ?_ | refine o2 ?_ | refine o3 ?_ | refine o4 ?_)) | refine .inl ⟨_,_,_,_,rfl,pu (by first | exact office_spec | exact sample_spec | exact f1 | exact f2 | exact f3 | exact f4 | exact f5 | exact f6 | exact note_spec 6 15 7 | exact sameInt [3,4] [3,4] (by decide) (by decide) | exact sameNm [⟨1,4⟩] [⟨1,4⟩] (by decide) (by decide)),?_⟩))
 | refine cF ?_
 | refine om ?_
 | refine an ?_
 | fail) <;> try simp only [zN,zT,zV,zS,zU,Q0,Q1,ex,Q2,Q3,Q4,Q5,Q6,Q7,Q8,Q9,QA,QB,QC,Nat.reduceBEq,reduceAdd,reduceSub,reduceLT,reduceLeDiff,reduceMul,reduceEqDiff,reduceIte,reg1,reg2,reg3,List.map_cons,List.map_nil,List.length_cons,List.length_nil])
  (repeat' ((first
 | refine vn rfl ?_
 | simp (disch:=omega) only [wr64,Int.zero_sub]
 | refine bo (fun _=>?_) fun _=>?_
 | refine im fun _=>?_
 | ((repeat refine si ?_); (first | ((first | refine .inl ⟨_,_,_,_,rfl,fun _=>pu (by first | exact office_spec | exact sampleF_spec | exact f1 | exact f2 | exact f3 | exact f4 | exact f5 | exact f6 | exact note_spec 6 15 7 | exact sameInt [3,4] [3,4] (by decide) (by decide) | exact sameNm [⟨1,4⟩] [⟨1,4⟩] (by decide) (by decide)),?_⟩ | refine ⟨_,_,_,_,rfl,fun _=>pu (by first | exact office_spec | exact sampleF_spec | exact f1 | exact f2 | exact f3 | exact f4 | exact f5 | exact f6 | exact note_spec 6 15 7 | exact sameInt [3,4] [3,4] (by decide) (by decide) | exact sameNm [⟨1,4⟩] [⟨1,4⟩] (by decide) (by decide)),?_⟩); (first | refine o1 ?_ | refine o2 ?_ | refine o3 ?_ | refine o4 ?_)) | refine .inl ⟨_,_,_,_,rfl,pu (by first | exact office_spec | exact sampleF_spec | exact f1 | exact f2 | exact f3 | exact f4 | exact f5 | exact f6 | exact note_spec 6 15 7 | exact sameInt [3,4] [3,4] (by decide) (by decide) | exact sameNm [⟨1,4⟩] [⟨1,4⟩] (by decide) (by decide)),?_⟩))
 | refine cF ?_
 | refine om ?_
 | refine an ?_
 | fail) <;> try simp only [zN,zT,zV,zS,zU,Q0,Q1,ex,Q2,Q3,Q4,Q5,Q6,Q7,Q8,Q9,QA,QB,QC,Nat.reduceBEq,reduceAdd,reduceSub,reduceLT,reduceLeDiff,reduceMul,reduceEqDiff,reduceIte,reg1,reg2,reg3,List.map_cons,List.map_nil,List.length_cons,List.length_nil]))
  refine ⟨⟨by simp,by simp [sampL],by decide⟩,?_⟩
  have happ:∀ r,r=Nt.cs outN→List.map Nt.cs sampL++[r]=(sampL++[outN]).map Nt.cs:=by rintro _ rfl; simp
  rw [happ]
  rotate_left
  · rfl
  clear happ
  generalize sampL++[outN]=sx at f6 ⊢
  (repeat' ((first
 | refine vn rfl ?_
 | simp (disch:=omega) only [wr64,Int.zero_sub]
 | refine bo (fun _=>?_) fun _=>?_
 | refine im fun _=>?_
 | ((repeat refine si ?_); (first | ((first | refine .inl ⟨_,_,_,_,rfl,fun _=>pu (by first | exact office_spec | exact sampleF_spec | exact f1 | exact f2 | exact f3 | exact f4 | exact f5 | exact f6 | exact note_spec 6 15 7 | exact sameInt [3,4] [3,4] (by decide) (by decide) | exact sameNm [⟨1,4⟩] [⟨1,4⟩] (by decide) (by decide)),?_⟩ | refine ⟨_,_,_,_,rfl,fun _=>pu (by first | exact office_spec | exact sampleF_spec | exact f1 | exact f2 | exact f3 | exact f4 | exact f5 | exact f6 | exact note_spec 6 15 7 | exact sameInt [3,4] [3,4] (by decide) (by decide) | exact sameNm [⟨1,4⟩] [⟨1,4⟩] (by decide) (by decide)),?_⟩); (first | refine o1 ?_ | refine o2 ?_ | refine o3 ?_ | refine o4 ?_)) | refine .inl ⟨_,_,_,_,rfl,pu (by first | exact office_spec | exact sampleF_spec | exact f1 | exact f2 | exact f3 | exact f4 | exact f5 | exact f6 | exact note_spec 6 15 7 | exact sameInt [3,4] [3,4] (by decide) (by decide) | exact sameNm [⟨1,4⟩] [⟨1,4⟩] (by decide) (by decide)),?_⟩))
 | refine cF ?_
 | refine om ?_
 | refine an ?_
 | fail) <;> try simp only [zN,zT,zV,zS,zU,Q0,Q1,ex,Q2,Q3,Q4,Q5,Q6,Q7,Q8,Q9,QA,QB,QC,Nat.reduceBEq,reduceAdd,reduceSub,reduceLT,reduceLeDiff,reduceMul,reduceEqDiff,reduceIte,reg1,reg2,reg3,List.map_cons,List.map_nil,List.length_cons,List.length_nil]))
  all_goals exact Frz.eq rfl (by simp)
def c181:CF:=⟨26,(jo [jb 4 false] [0,1]
 (.seq (jo [jm 6 0,je 7 6,jm 8 1,je 9 8,jt .neq 10 7 9] [0,1,10]
 (.cond (.t 10) (jo [jb 4 false] [4]
 .ret)
 .skip))
 (.seq (jo [jc 5 0] [0,1,5]
 (.block 0 (.loop (.seq (jo [jm 11 5,jm 12 0,je 13 12,jt .lss 14 11 13] [0,1,5,14]
 (.cond (.t 14) .skip
 (.exit 0)))
 (.seq (.block 1 (.seq (.draw [jm 17 0,jm 18 5,ji 19 2 17 18,jk 20 2 19,jm 21 1,jm 22 5,ji 23 2 21 22,jk 24 2 23,jw 25 (.eqs true [some .i64,some .i64] (.t 20) (.t 24))] [] [0,1,5,25])
 (.cond (.t 25) (jo [jb 4 false] [4]
 .ret)
 .skip)))
 (.ops [jm 15 5,ju .add 16 15 1,jm 5 16] [0,1,5]))))))
 (jo [jb 4 true] [4]
 .ret)))),[.t 4]⟩
theorem k181:chkF Tryz.prog Tryz.f181 c181=true:=by kernel_rfl
def c117:CF:=⟨39,(jo [jx 2 56 2 0,jx 3 56 2 1,jb 4 false] [2,3]
 (.seq (jo [jf 6 0 2,jl 7 6,jf 8 0 3,jl 9 8,jy 10 181 [7,9],jv 11 10,jm 12 11,jd 12 (jf 13 1 2),jd 12 (jl 14 13),jd 12 (je 15 14),jd 12 (jf 16 1 3),jd 12 (jl 17 16),jd 12 (je 18 17),jd 12 (jt .neq 19 15 18),jq 20 12 19] [2,3,20]
 (.cond (.t 20) (jo [jb 4 false] [4]
 .ret)
 .skip))
 (.seq (jo [jc 5 0] [2,3,5]
 (.block 0 (.loop (.seq (jo [jm 21 5,jf 22 1 2,jl 23 22,je 24 23,jt .lss 25 21 24] [2,3,5,25]
 (.cond (.t 25) .skip
 (.exit 0)))
 (.seq (.block 1 (.seq (.draw [jf 28 1 2,jl 29 28,jm 30 5,ji 31 3 29 30,jk 32 3 31,jf 33 1 3,jl 34 33,jm 35 5,ji 36 3 34 35,jk 37 3 36,jw 38 (.eqs true [some .i64,some .i64,some .i64] (.t 32) (.t 37))] [] [2,3,5,38])
 (.cond (.t 38) (jo [jb 4 false] [4]
 .ret)
 .skip)))
 (.ops [jm 26 5,ju .add 27 26 1,jm 5 27] [2,3,5]))))))
 (jo [jb 4 true] [4]
 .ret)))),[.t 4]⟩
theorem k117:chkF Tryz.prog Tryz.f117 c117=true:=by kernel_rfl
def c53:CF:=⟨61,(jo [jx 2 60 18 0,jx 3 60 18 1,jb 4 false] [2,3]
 (.seq (jo [jf 6 0 2,jk 7 10 6,jf 8 0 3,jk 9 10 8,jw 10 (.eqs true [some .i64,some .i64,some .i64,some .i64,some .i64,some .i64,some .i64,some .i64,some .i64,some .i64] (.t 7) (.t 9)),jm 11 10,jd 11 (jf 12 14 2),jd 11 (jk 13 4 12),jd 11 (jf 14 14 3),jd 11 (jk 15 4 14),⟨some 16,.eqs true [some .i64,some .i64,some .i64,some .i64] (.t 13) (.t 15),some (11,false)⟩,jq 17 11 16,jm 18 17,jd 18 (jf 19 12 2),jd 18 (jk 20 2 19),jd 18 (jf 21 12 3),jd 18 (jk 22 2 21),jd 18 (jy 23 117 [20,22]),jd 18 (jv 24 23),jq 25 18 24,jm 26 25,jd 26 (jf 27 11 2),jd 26 (jl 28 27),jd 26 (jf 29 11 3),jd 26 (jl 30 29),jd 26 (jy 31 68 [28,30]),jd 26 (jv 32 31),jq 33 26 32,jm 34 33,jd 34 (jf 35 10 2),jd 34 (jl 36 35),jd 34 (je 37 36),jd 34 (jf 38 10 3),jd 34 (jl 39 38),jd 34 (je 40 39),jd 34 (jt .neq 41 37 40),jq 42 34 41] [2,3,42]
 (.cond (.t 42) (jo [jb 4 false] [4]
 .ret)
 .skip))
 (.seq (jo [jc 5 0] [2,3,5]
 (.block 0 (.loop (.seq (jo [jm 43 5,jf 44 10 2,jl 45 44,je 46 45,jt .lss 47 43 46] [2,3,5,47]
 (.cond (.t 47) .skip
 (.exit 0)))
 (.seq (.block 1 (.seq (.draw [jf 50 10 2,jl 51 50,jm 52 5,ji 53 3 51 52,jk 54 3 53,jf 55 10 3,jl 56 55,jm 57 5,ji 58 3 56 57,jk 59 3 58,jw 60 (.eqs true [some .i64,some .i64,some .i64] (.t 54) (.t 59))] [] [2,3,5,60])
 (.cond (.t 60) (jo [jb 4 false] [4]
 .ret)
 .skip)))
 (.ops [jm 48 5,ju .add 49 48 1,jm 5 49] [2,3,5]))))))
 (jo [jb 4 true] [4]
 .ret)))),[.t 4]⟩
theorem k53:chkF Tryz.prog Tryz.f53 c53=true:=by kernel_rfl
theorem sameSp (a b:List Sp) (ha:a.length < 9223372036854775808) (hb:b.length < 9223372036854775808):Pure Tryz.prog 181 [spnS a,spnS b] (bl (decide (a=b))):=by
  refine pB_ Tryz.call181 Tryz.func181 k181 ?_
  unfold c181
  ((refine Au ?_;repeat' constructor)<;>intros<;>refine hD_ ?_)
  · rename_i h
    rw [decide_eq_false fun e=>by subst e; omega]; exact Frz.eq rfl (by simp)
  rename_i hne
  have hlen:a.length=b.length:=by omega
  refine AWPC.loopI 5 a.length (fun i=>a.take i=b.take i) (by simp) ?_ ?_
  · (simp only [zN,zT,zV,zS,zU,Q0,Q1,ex,Q2,Q3,Q4,Q5,Q6,Q7,Q8,Q9,QA,QB,QC,Nat.reduceBEq,reduceAdd,reduceSub,reduceLT,reduceLeDiff,reduceMul,reduceEqDiff,reduceIte]; try simp)
  · intro i hi hI
    by_cases hlt:i < a.length
    · have hx:(a.map Sp.cs).getD i []=Sp.cs (a.getD i ⟨0,0⟩):=row _ hlt
      have hy:(b.map Sp.cs).getD i []=Sp.cs (b.getD i ⟨0,0⟩):=row _ (by omega)
      have hk:a.getD i ⟨0,0⟩=b.getD i ⟨0,0⟩↔a.take (i+1)=b.take (i+1):=by
        rw [List.take_add_one,List.take_add_one,hI,getD_lt ⟨0,0⟩ hlt,getD_lt ⟨0,0⟩ (show i < b.length by omega)]; simp
      generalize a.getD i ⟨0,0⟩=x at hx hk
      generalize b.getD i ⟨0,0⟩=y at hy hk
      obtain ⟨x1,x2⟩:=x
      obtain ⟨y1,y2⟩:=y
      simp only [Sp.mk.injEq] at hk
      ((refine Ax (And.intro @hx @hy) ?_;repeat' constructor)<;>intros<;>refine hD_ ?_)
      all_goals try (exfalso;omega)
      · rename_i h
        rw [decide_eq_false fun e=>by
          have:=hk.2 (by rw [e])
          omega]
        exact Frz.eq rfl (by simp)
      · rename_i h
        exact ⟨⟨i+1,hlt,hk.1 (by omega)⟩,by simp,by simp only; omega⟩
    · obtain rfl:i=a.length:=by omega
      ((refine Au ?_;repeat' constructor)<;>intros<;>refine hD_ ?_)
      all_goals try (exfalso;omega)
      rw [List.take_length,hlen,List.take_length] at hI
      rw [decide_eq_true hI]
      exact Frz.eq rfl (by simp)
theorem sameDrum_spec (a b:List Sp × List Mk) (ha:a.1.length < 9223372036854775808∧a.2.length < 9223372036854775808) (hb:b.1.length < 9223372036854775808∧b.2.length < 9223372036854775808):Pure Tryz.prog 117 [.agg [spnS a.1,mkS a.2],.agg [spnS b.1,mkS b.2]] (bl (decide (a=b))):=by
  refine pB_ Tryz.call117 Tryz.func117 k117 ?_
  unfold c117
  obtain ⟨a1,a2⟩:=a
  obtain ⟨b1,b2⟩:=b
  simp only at ha hb
  have h1:=sameSp a1 b1 ha.1 hb.1
  by_cases e1:a1=b1
  · rw [decide_eq_true e1] at h1
    by_cases hlen:a2.length=b2.length
    · have hlen':(a2.length:Int)=(b2.length:Int):=by omega
      have hd:decide ((a1,a2)=(b1,b2))=decide (a2=b2):=by rw [decide_eq_decide]; simp [e1]
      rw [hd]
      ((refine Az @hlen' @h1 ?_;repeat' constructor)<;>intros<;>refine hD_ ?_)
      all_goals try (exfalso;omega)
      refine AWPC.loopI 5 a2.length (fun i=>a2.take i=b2.take i) (by simp) ?_ ?_
      · (simp only [zN,zT,zV,zS,zU,Q0,Q1,ex,Q2,Q3,Q4,Q5,Q6,Q7,Q8,Q9,QA,QB,QC,Nat.reduceBEq,reduceAdd,reduceSub,reduceLT,reduceLeDiff,reduceMul,reduceEqDiff,reduceIte]; try simp)
      · intro i hi hI
        by_cases hlt:i < a2.length
        · have hx:(a2.map Mk.cs).getD i []=Mk.cs (a2.getD i mk0):=row _ hlt
          have hy:(b2.map Mk.cs).getD i []=Mk.cs (b2.getD i mk0):=row _ (by omega)
          have hk:a2.getD i mk0=b2.getD i mk0↔a2.take (i+1)=b2.take (i+1):=by
            rw [List.take_add_one,List.take_add_one,hI,getD_lt mk0 hlt,getD_lt mk0 (show i < b2.length by omega)]; simp
          generalize a2.getD i mk0=x at hx hk
          generalize b2.getD i mk0=y at hy hk
          obtain ⟨x1,⟨x2,x3⟩⟩:=x
          obtain ⟨y1,⟨y2,y3⟩⟩:=y
          simp only [Mk.mk.injEq,Sp.mk.injEq] at hk
          ((refine Ax (And.intro @hx @hy) ?_;repeat' constructor)<;>intros<;>refine hD_ ?_)
          all_goals try (exfalso;omega)
          · rename_i h
            rw [decide_eq_false fun e=>by
              have:=hk.2 (by rw [e])
              omega]
            exact Frz.eq rfl (by simp)
          · rename_i h
            exact ⟨⟨i+1,hlt,hk.1 (by omega)⟩,by simp,by simp only; omega⟩
        · obtain rfl:i=a2.length:=by omega
          ((refine Au ?_;repeat' constructor)<;>intros<;>refine hD_ ?_)
          all_goals try (exfalso;omega)
          rw [List.take_length,hlen,List.take_length] at hI
          rw [decide_eq_true hI]
          exact Frz.eq rfl (by simp)
    · rw [decide_eq_false (fun e=>hlen (by rw [(Prod.mk.inj e).2]))]
      ((refine Ay @h1 ?_;repeat' constructor)<;>intros<;>refine hD_ ?_)
      all_goals try (exfalso;omega)
      all_goals exact Frz.eq rfl (by simp)
  · rw [decide_eq_false e1] at h1
    rw [decide_eq_false (fun e=>e1 (Prod.mk.inj e).1)]
    ((refine Ay @h1 ?_;repeat' constructor)<;>intros<;>refine hD_ ?_)
    all_goals try (exfalso;omega)
    all_goals exact Frz.eq rfl (by simp)
theorem rSameSheet_spec (a b:Sht) (ha:shtSz a) (hb:shtSz b):Pure Tryz.prog 53 [.agg a.cs,.agg b.cs] (bl (decide (a=b))):=by
  refine pB_ Tryz.call53 Tryz.func53 k53 ?_
  unfold c53
  have h1:=sameDrum_spec (a.rates,a.stops) (b.rates,b.stops) ⟨ha.2.2.1,ha.2.2.2⟩ ⟨hb.2.2.1,hb.2.2.2⟩
  have h2:=sameInt a.blots b.blots ha.2.1 hb.2.1
  have ht1:=ha.1
  have ht2:=hb.1
  ((refine Ay (And.intro @h1 @h2) ?_;repeat' constructor)<;>intros<;>refine hD_ ?_)
  all_goals try (exfalso;omega)
  · rename_i h
    rw [decide_eq_false fun e=>?_]
    · exact Frz.eq rfl (by simp)
    · subst e
      simp at h
  · rename_i h
    obtain ⟨⟨⟨⟨hp,hn⟩,hd⟩,hb'⟩,ht⟩:(((a.paper=b.paper∧a.pen=b.pen)∧(a.rates,a.stops)=(b.rates,b.stops))∧a.blots=b.blots)∧a.trace.length=b.trace.length:=by
      obtain ⟨⟨p1,p2,p3,p4,p5,p6,⟨p7,p8⟩,⟨p9,p10⟩⟩,_,_,_,_,⟨q1,⟨q2,q3⟩,q4⟩⟩:=a
      obtain ⟨⟨r1,r2,r3,r4,r5,r6,⟨r7,r8⟩,⟨r9,r10⟩⟩,_,_,_,_,⟨s1,⟨s2,s3⟩,s4⟩⟩:=b
      simp only [not_or,Classical.not_not] at h
      obtain ⟨⟨⟨⟨e1,e2⟩,e3⟩,e4⟩,e5⟩:=h
      refine ⟨⟨⟨⟨?_,?_⟩,e3⟩,e4⟩,by exact_mod_cast e5⟩
      · simpa [and_assoc] using e1
      · simpa [and_assoc] using e2
    have hd':decide (a=b)=decide (a.trace=b.trace):=by
      rw [decide_eq_decide]
      obtain ⟨a1,a2,a3,a4,a5,a6⟩:=a
      obtain ⟨b1,b2,b3,b4,b5,b6⟩:=b
      simp only [Sht.mk.injEq,Prod.mk.injEq] at hp hn hd hb' ⊢
      simp [hp,hn,hd,hb']
    rw [hd']
    clear h hd' h1 h2
    obtain ⟨a1,a2,a3,a4,a5,a6⟩:=a
    obtain ⟨b1,b2,b3,b4,b5,b6⟩:=b
    simp only at ht ht1 ht2 ⊢
    have hlen':(a2.length:Int)=(b2.length:Int):=by omega
    refine AWPC.loopI 5 a2.length (fun i=>a2.take i=b2.take i) (by simp) ?_ ?_
    · (simp only [zN,zT,zV,zS,zU,Q0,Q1,ex,Q2,Q3,Q4,Q5,Q6,Q7,Q8,Q9,QA,QB,QC,Nat.reduceBEq,reduceAdd,reduceSub,reduceLT,reduceLeDiff,reduceMul,reduceEqDiff,reduceIte]; try simp)
    · intro i hi hI
      by_cases hlt:i < a2.length
      · have hx:(a2.map Pt.cs).getD i []=Pt.cs (a2.getD i ⟨0,0,0⟩):=row _ hlt
        have hy:(b2.map Pt.cs).getD i []=Pt.cs (b2.getD i ⟨0,0,0⟩):=row _ (by omega)
        have hk:a2.getD i ⟨0,0,0⟩=b2.getD i ⟨0,0,0⟩↔a2.take (i+1)=b2.take (i+1):=by
          rw [List.take_add_one,List.take_add_one,hI,getD_lt ⟨0,0,0⟩ hlt,getD_lt ⟨0,0,0⟩ (show i < b2.length by omega)]; simp
        generalize a2.getD i ⟨0,0,0⟩=x at hx hk
        generalize b2.getD i ⟨0,0,0⟩=y at hy hk
        obtain ⟨x1,x2,x3⟩:=x
        obtain ⟨y1,y2,y3⟩:=y
        simp only [Pt.mk.injEq] at hk
        ((refine Ax (And.intro @hx @hy) ?_;repeat' constructor)<;>intros<;>refine hD_ ?_)
        all_goals try (exfalso;omega)
        · rename_i h
          rw [decide_eq_false fun e=>by
            have:=hk.2 (by rw [e])
            omega]
          exact Frz.eq rfl (by simp)
        · rename_i h
          exact ⟨⟨i+1,hlt,hk.1 (by omega)⟩,by simp,by simp only; omega⟩
      · obtain rfl:i=a2.length:=by omega
        ((refine Au ?_;repeat' constructor)<;>intros<;>refine hD_ ?_)
        all_goals try (exfalso;omega)
        rw [List.take_length,ht,List.take_length] at hI
        rw [decide_eq_true hI]
        exact Frz.eq rfl (by simp)
end Go.Proofs.YtolgelipcgcbhaaGreat
namespace Go.Proofs.YtolgelipcgcbhaaGreat
open Go.Abs
open Nat (reduceAdd reduceSub reduceLT reduceLeDiff reduceMul reduceEqDiff)
set_option linter.unusedVariables false
set_option linter.unusedSimpArgs false
set_option maxHeartbeats 4000000
set_option maxRecDepth 100000
def c50:CF:=⟨87,(jo [jx 2 68 38 0,jx 3 68 38 1,jb 4 false] [2,3]
 (jo [jf 5 0 2,jl 6 5,jf 7 0 3,jl 8 7,jt .eql 9 6 8,jm 10 9,ja 10 (jf 11 1 2),ja 10 (jl 12 11),ja 10 (jf 13 1 3),ja 10 (jl 14 13),ja 10 (jt .eql 15 12 14),jp 16 10 15,jm 17 16,ja 17 (jf 18 2 2),ja 17 (jl 19 18),ja 17 (jf 20 2 3),ja 17 (jl 21 20),ja 17 (jt .eql 22 19 21),jp 23 17 22,jm 24 23,ja 24 (jf 25 3 2),ja 24 (jl 26 25),ja 24 (jf 27 3 3),ja 24 (jl 28 27),ja 24 (jt .eql 29 26 28),jp 30 24 29,jm 31 30,ja 31 (jf 32 4 2),ja 31 (jl 33 32),ja 31 (jf 34 4 3),ja 31 (jl 35 34),ja 31 (jt .eql 36 33 35),jp 37 31 36,jm 38 37,ja 38 (jf 39 5 2),ja 38 (jl 40 39),ja 38 (jf 41 5 3),ja 38 (jl 42 41),ja 38 (jt .eql 43 40 42),jp 44 38 43,jm 45 44,ja 45 (jf 46 6 2),ja 45 (jl 47 46),ja 45 (jf 48 6 3),ja 45 (jl 49 48),ja 45 (jt .eql 50 47 49),jp 51 45 50,jm 52 51,ja 52 (jf 53 25 2),ja 52 (jk 54 3 53),ja 52 (jf 55 25 3),ja 52 (jk 56 3 55),⟨some 57,.eqs false [some .i64,some .i64,some .i64] (.t 54) (.t 56),some (52,true)⟩,jp 58 52 57,jm 59 58,ja 59 (jf 60 28 2),ja 59 (jk 61 5 60),ja 59 (jf 62 28 3),ja 59 (jk 63 5 62),⟨some 64,.eqs false [some .i64,some .i64,some .i64,some .i64,some .i64] (.t 61) (.t 63),some (59,true)⟩,jp 65 59 64,jm 66 65,ja 66 (jf 67 33 2),ja 66 (jk 68 3 67),ja 66 (jf 69 33 3),ja 66 (jk 70 3 69),⟨some 71,.eqs false [some .i64,some .i64,some .i64] (.t 68) (.t 70),some (66,true)⟩,jp 72 66 71,jm 73 72,ja 73 (jf 74 36 2),ja 73 (jk 75 2 74),ja 73 (jf 76 36 3),ja 73 (jk 77 2 76),⟨some 78,.eqs false [some .i64,some .i64] (.t 75) (.t 77),some (73,true)⟩,jp 79 73 78,jm 80 79,ja 80 (jf 81 7 2),ja 80 (jk 82 18 81),ja 80 (jf 83 7 3),ja 80 (jk 84 18 83),ja 80 (jy 85 53 [82,84]),jp 86 80 85,jm 4 86] [4]
 .ret)),[.t 4]⟩
theorem k50:chkF Tryz.prog Tryz.f50 c50=true:=by kernel_rfl
theorem rSame_spec (a b:Nt) (ha:shtSz a.sheet) (hb:shtSz b.sheet):Pure Tryz.prog 50 [.agg a.cs,.agg b.cs] (bl (decide (a=b))):=by
  refine pB_ Tryz.call50 Tryz.func50 k50 ?_
  unfold c50
  have h1:=rSameSheet_spec a.sheet b.sheet ha hb
  ((refine Ay @h1 ?_;repeat' constructor)<;>intros<;>refine hD_ ?_)
  refine Frz.eq (congrArg bl ?_) (by simp)
  clear h1
  obtain ⟨a1,a2,a3,a4,a5,a6,a7,a8,⟨a9,⟨a10,a11⟩⟩,⟨a12,a13,a14,⟨a15,a16⟩⟩,⟨a17,⟨a18,a19⟩⟩,⟨a20,a21⟩⟩:=a
  obtain ⟨b1,b2,b3,b4,b5,b6,b7,b8,⟨b9,⟨b10,b11⟩⟩,⟨b12,b13,b14,⟨b15,b16⟩⟩,⟨b17,⟨b18,b19⟩⟩,⟨b20,b21⟩⟩:=b
  simp only [Nt.mk.injEq,Mk.mk.injEq,Rd.mk.injEq,Hgt.mk.injEq,Nm.mk.injEq,Sp.mk.injEq,and_assoc]
  rw [decide_eq_decide]
  constructor <;> (intro h; simp_all)
end Go.Proofs.YtolgelipcgcbhaaGreat
namespace Go.Proofs.YtolgelipcgcbhaaGreat
open Go.Abs
open Nat (reduceAdd reduceSub reduceLT reduceLeDiff reduceMul reduceEqDiff)
open Go.Abs renaming vcC→Q0,lateX→Q1,strp→Q2,binA→Q3,elems→Q4,cells→Q5,scalar→Q6,eqC→Q7,keyA→Q8,intsA→Q9,lookA→QA,ofVs→QB,mpOf→QC
set_option linter.unusedVariables false
set_option linter.unusedSimpArgs false
set_option maxHeartbeats 4000000
set_option maxRecDepth 100000
def c33:CF:=⟨39,(jo [jx 1 60 18 0,jb 2 false] [1]
 (jo [jf 3 10 1,jl 4 3,je 5 4,ju .leq 6 5 40,jm 7 6,jd 7 (jf 8 10 1),jd 7 (jl 9 8),jd 7 (je 10 9),jd 7 (ju .gtr 11 10 2000),jd 7 (jm 12 11),ja 12 (jf 13 10 1),ja 12 (jl 14 13),ja 12 (je 15 14),ja 12 (ju .leq 16 15 4000),jd 7 (jp 17 12 16),jq 18 7 17,jm 19 18,ja 19 (jf 20 11 1),ja 19 (jl 21 20),ja 19 (je 22 21),ja 19 (ju .leq 23 22 250),jp 24 19 23,jm 25 24,ja 25 (jf 26 12 1),ja 25 (jf 27 0 26),ja 25 (jl 28 27),ja 25 (je 29 28),ja 25 (ju .leq 30 29 250),jp 31 25 30,jm 32 31,ja 32 (jf 33 12 1),ja 32 (jf 34 1 33),ja 32 (jl 35 34),ja 32 (je 36 35),ja 32 (ju .leq 37 36 40),jp 38 32 37,jm 2 38] [2]
 .ret)),[.t 2]⟩
theorem k33:chkF Tryz.prog Tryz.f33 c33=true:=by kernel_rfl
def c19:CF:=⟨35,(jo [jx 1 26 6 0,jb 2 false] [1]
 (.seq (jo [jf 4 0 1,jl 5 4,je 6 5,ju .gtr 7 6 8,jm 8 7,ja 8 (jf 9 0 1),ja 8 (jl 10 9),ja 8 (je 11 10),ja 8 (ju .leq 12 11 32),jp 13 8 12,jm 14 13,jd 14 (jf 15 0 1),jd 14 (jl 16 15),jd 14 (je 17 16),jd 14 (ju .gtr 18 17 100),jq 19 14 18] [1,19]
 (.cond (.t 19) (jo [jb 2 false] [2]
 .ret)
 .skip))
 (.seq (jo [jc 3 0] [1,3]
 (.block 0 (.loop (.seq (jo [jm 20 3,jf 21 0 1,jl 22 21,je 23 22,jt .lss 24 20 23] [1,3,24]
 (.cond (.t 24) .skip
 (.exit 0)))
 (.seq (.block 1 (jo [jf 27 0 1,jl 28 27,jm 29 3,ji 30 4 28 29,jf 31 3 30,jl 32 31,je 33 32,ju .gtr 34 33 40] [1,3,34]
 (.cond (.t 34) (jo [jb 2 false] [2]
 .ret)
 .skip)))
 (.ops [jm 25 3,ju .add 26 25 1,jm 3 26] [1,3]))))))
 (jo [jb 2 true] [2]
 .ret)))),[.t 2]⟩
theorem k19:chkF Tryz.prog Tryz.f19 c19=true:=by kernel_rfl
def c20:CF:=⟨30,(jo [jb 2 false] [0]
 (.seq (jo [jm 4 0,je 5 4,ju .gtr 6 5 40,jm 7 6,ja 7 (jm 8 0),ja 7 (je 9 8),ja 7 (ju .leq 10 9 400),jp 11 7 10,jm 12 11,jd 12 (jm 13 0),jd 12 (je 14 13),jd 12 (ju .gtr 15 14 800),jq 16 12 15] [0,16]
 (.cond (.t 16) (jo [jb 2 false] [2]
 .ret)
 .skip))
 (.seq (jo [jc 3 0] [0,3]
 (.block 0 (.loop (.seq (jo [jm 17 3,jm 18 0,je 19 18,jt .lss 20 17 19] [0,3,20]
 (.cond (.t 20) .skip
 (.exit 0)))
 (.seq (.block 1 (jo [jm 23 0,jm 24 3,ji 25 38 23 24,jf 26 7 25,jk 27 18 26,jy 28 33 [27],jv 29 28] [0,3,29]
 (.cond (.t 29) (jo [jb 2 false] [2]
 .ret)
 .skip)))
 (.ops [jm 21 3,ju .add 22 21 1,jm 3 22] [0,3]))))))
 (jo [jb 2 true] [2]
 .ret)))),[.t 2]⟩
theorem k20:chkF Tryz.prog Tryz.f20 c20=true:=by kernel_rfl
def slightB (s:Sht):Bool:=(decide (s.trace.length≤40) || (decide (2000 < s.trace.length) && decide (s.trace.length≤4000))) && decide (s.blots.length≤250) && decide (s.rates.length≤250) && decide (s.stops.length≤40)
def smallB (b:Bse):Bool:=!((decide (8 < b.stns.length) && decide (b.stns.length≤32)) || decide (100 < b.stns.length)) && b.stns.all fun s=>decide (s.heights.length≤40)
def fewB (l:List Nt):Bool:=!((decide (40 < l.length) && decide (l.length≤400)) || decide (800 < l.length)) && l.all fun a=>slightB a.sheet
theorem slight_spec (s:Sht):Pure Tryz.prog 33 [.agg s.cs] (bl (slightB s)):=by
  refine pB_ Tryz.call33 Tryz.func33 k33 ?_
  unfold c33
  ((refine Au ?_;repeat' constructor)<;>intros<;>refine hD_ ?_)
  refine Frz.eq (congrArg bl ?_) (by simp)
  unfold slightB
  rw [Bool.eq_iff_iff]
  simp only [Bool.and_eq_true,Bool.or_eq_true,decide_eq_true_eq]
  omega
theorem small_spec (b:Bse) (hb:bseSz b):Pure Tryz.prog 19 [.agg b.cs] (bl (smallB b)):=by
  refine pB_ Tryz.call19 Tryz.func19 k19 ?_
  unfold c19
  have h1:=hb.1
  by_cases hbig:(8 < b.stns.length∧b.stns.length≤32)∨100 < b.stns.length
  · have hE:smallB b=false:=by
      unfold smallB
      have:((decide (8 < b.stns.length) && decide (b.stns.length≤32)) || decide (100 < b.stns.length))=true:=by simpa using hbig
      rw [this]; rfl
    rw [hE]
    ((refine Au ?_;repeat' constructor)<;>intros<;>refine hD_ ?_)
    all_goals first | (exfalso; omega) | exact Frz.eq rfl (by simp)
  · have hE:smallB b=b.stns.all fun s=>decide (s.heights.length≤40):=by
      unfold smallB
      have:((decide (8 < b.stns.length) && decide (b.stns.length≤32)) || decide (100 < b.stns.length))=false:=by rw [Bool.eq_false_iff]; simpa using hbig
      rw [this]; rfl
    rw [hE]
    ((refine Au ?_;repeat' constructor)<;>intros<;>refine hD_ ?_)
    all_goals try (exfalso;omega)
    refine AWPC.loopI 3 b.stns.length (fun i=>((b.stns.drop i).all fun s=>decide (s.heights.length≤40))=b.stns.all fun s=>decide (s.heights.length≤40)) (by simp) ?_ ?_
    · (simp only [zN,zT,zV,zS,zU,Q0,Q1,ex,Q2,Q3,Q4,Q5,Q6,Q7,Q8,Q9,QA,QB,QC,Nat.reduceBEq,reduceAdd,reduceSub,reduceLT,reduceLeDiff,reduceMul,reduceEqDiff,reduceIte]; try simp)
    · intro i hi hI
      by_cases hlt:i < b.stns.length
      · obtain ⟨x,hx⟩:∃ x,b.stns[i]?=some x:=⟨_,List.getElem?_eq_getElem hlt⟩
        have hh:=hb.2 x (List.mem_of_getElem? hx)
        rw [drop_cons hx,List.all_cons] at hI
        (repeat' ((first
 | refine vn rfl ?_
 | simp (disch:=omega) only [wr64,Int.zero_sub]
 | refine bo (fun _=>?_) fun _=>?_
 | refine im fun _=>?_
 | refine cF ?_
 | refine om ?_
 | refine an ?_
 | fail) <;> try simp only [zN, zT, zV, zS, zU, vcC, lateX, ex, strp, binA, elems, cells, scalar, eqC, keyA, intsA, lookA, ofVs, mpOf, Nat.reduceBEq, reduceAdd, reduceSub, reduceLT, reduceLeDiff, reduceMul, reduceEqDiff, reduceIte, getD_map hx]))
        all_goals try (exfalso;omega)
        · rename_i h
          rw [show decide (x.heights.length≤40)=false by simp; omega,Bool.false_and] at hI
          rw [← hI]
          exact Frz.eq rfl (by simp)
        · rename_i h
          rw [show decide (x.heights.length≤40)=true by simp; omega,Bool.true_and] at hI
          exact ⟨⟨i+1,hlt,hI⟩,by simp,by simp only; omega⟩
      · obtain rfl:i=b.stns.length:=by omega
        rw [List.drop_length,List.all_nil] at hI
        ((refine Au ?_;repeat' constructor)<;>intros<;>refine hD_ ?_)
        all_goals try (exfalso;omega)
        rw [← hI]
        exact Frz.eq rfl (by simp)
theorem few_spec (l:List Nt) (hl:l.length < 9223372036854775808):Pure Tryz.prog 20 [ntS l] (bl (fewB l)):=by
  refine pB_ Tryz.call20 Tryz.func20 k20 ?_
  unfold c20
  by_cases hbig:(40 < l.length∧l.length≤400)∨800 < l.length
  · have hE:fewB l=false:=by
      unfold fewB
      have:((decide (40 < l.length) && decide (l.length≤400)) || decide (800 < l.length))=true:=by simpa using hbig
      rw [this]; rfl
    rw [hE]
    ((refine Au ?_;repeat' constructor)<;>intros<;>refine hD_ ?_)
    all_goals first | (exfalso; omega) | exact Frz.eq rfl (by simp)
  · have hE:fewB l=l.all fun a=>slightB a.sheet:=by
      unfold fewB
      have:((decide (40 < l.length) && decide (l.length≤400)) || decide (800 < l.length))=false:=by rw [Bool.eq_false_iff]; simpa using hbig
      rw [this]; rfl
    rw [hE]
    ((refine Au ?_;repeat' constructor)<;>intros<;>refine hD_ ?_)
    all_goals try (exfalso;omega)
    refine AWPC.loopI 3 l.length (fun i=>((l.drop i).all fun a=>slightB a.sheet)=l.all fun a=>slightB a.sheet) (by simp) ?_ ?_
    · (simp only [zN,zT,zV,zS,zU,Q0,Q1,ex,Q2,Q3,Q4,Q5,Q6,Q7,Q8,Q9,QA,QB,QC,Nat.reduceBEq,reduceAdd,reduceSub,reduceLT,reduceLeDiff,reduceMul,reduceEqDiff,reduceIte]; try simp)
    · intro i hi hI
      by_cases hlt:i < l.length
      · obtain ⟨x,hx⟩:∃ x,l[i]?=some x:=⟨_,List.getElem?_eq_getElem hlt⟩
        rw [drop_cons hx,List.all_cons] at hI
        have hc:=slight_spec x.sheet
        cases hs:slightB x.sheet with
        | false =>
          rw [hs] at hI hc
          (repeat' ((first
 | refine vn rfl ?_
 | simp (disch:=omega) only [wr64,Int.zero_sub]
 | refine bo (fun _=>?_) fun _=>?_
 | refine im fun _=>?_
 | ((repeat refine si ?_); (first | ((first | refine .inl ⟨_,_,_,_,rfl,fun _=>pu hc,?_⟩ | refine ⟨_,_,_,_,rfl,fun _=>pu hc,?_⟩); (first | refine o1 ?_ | refine o2 ?_ | refine o3 ?_ | refine o4 ?_)) | refine .inl ⟨_,_,_,_,rfl,pu hc,?_⟩))
 | refine cF ?_
 | refine om ?_
 | refine an ?_
 | fail) <;> try simp only [zN, zT, zV, zS, zU, vcC, lateX, ex, strp, binA, elems, cells, scalar, eqC, keyA, intsA, lookA, ofVs, mpOf, Nat.reduceBEq, reduceAdd, reduceSub, reduceLT, reduceLeDiff, reduceMul, reduceEqDiff, reduceIte, getD_map hx]))
          all_goals try (exfalso;omega)
          rw [← hI]
          exact Frz.eq rfl (by simp)
        | true =>
          rw [hs] at hI hc
          rw [Bool.true_and] at hI
          (repeat' ((first
 | refine vn rfl ?_
 | simp (disch:=omega) only [wr64,Int.zero_sub]
 | refine bo (fun _=>?_) fun _=>?_
 | refine im fun _=>?_
 | ((repeat refine si ?_); (first | ((first | refine .inl ⟨_,_,_,_,rfl,fun _=>pu hc,?_⟩ | refine ⟨_,_,_,_,rfl,fun _=>pu hc,?_⟩); (first | refine o1 ?_ | refine o2 ?_ | refine o3 ?_ | refine o4 ?_)) | refine .inl ⟨_,_,_,_,rfl,pu hc,?_⟩))
 | refine cF ?_
 | refine om ?_
 | refine an ?_
 | fail) <;> try simp only [zN, zT, zV, zS, zU, vcC, lateX, ex, strp, binA, elems, cells, scalar, eqC, keyA, intsA, lookA, ofVs, mpOf, Nat.reduceBEq, reduceAdd, reduceSub, reduceLT, reduceLeDiff, reduceMul, reduceEqDiff, reduceIte, getD_map hx]))
          all_goals try (exfalso;omega)
          exact ⟨⟨i+1,hlt,hI⟩,by simp,by simp only; omega⟩
      · obtain rfl:i=l.length:=by omega
        rw [List.drop_length,List.all_nil] at hI
        ((refine Au ?_;repeat' constructor)<;>intros<;>refine hD_ ?_)
        all_goals try (exfalso;omega)
        rw [← hI]
        exact Frz.eq rfl (by simp)
def c172:CF:=⟨144,(jo [jx 2 26 6 0,jx 3 68 38 1,jw 4 (.alloc 68 38 z38),jb 5 false] [2,3,4]
 (.seq (jo [jf 7 4 3,jl 8 7] [2,3,4,8]
 (.block 0 (jo [ju .eql 10 8 1,jm 9 10] [2,3,4,8,9]
 (.cond (.t 9) (.seq (.drawl 17 [jf 11 5 3,jl 12 11,jf 13 6 3,jl 14 13,jf 15 7 3,jk 16 18 15,jw 17 (.build z38 [(5,1,(.t 12)),(6,1,(.t 14)),(7,18,(.t 16))]),jk 18 6 2,jf 19 5 3,jl 20 19,jf 21 6 3,jl 22 21,jy 23 215 [18,20,22],jm 24 23,ja 24 (jf 25 7 3),ja 24 (jk 26 18 25),ja 24 (jy 27 216 [26]),jp 28 24 27] [js 38 4 17,jm 5 28] [4,5])
 .ret)
 (jo [ju .eql 30 8 2,jm 29 30] [2,3,4,8,29]
 (.cond (.t 29) (.seq (.drawl 12 [jf 31 36 3,jk 32 2 31,jf 33 25 3,jk 34 3 33,jw 35 (.build z38 [(36,2,(.t 32)),(25,3,(.t 34))]),jf 36 36 3,jk 37 2 36,jy 38 173 [37],jm 39 38,ja 39 (jf 40 25 3),ja 39 (jk 41 3 40),ja 39 (jy 42 217 [41]),jp 43 39 42] [js 38 4 35,jm 5 43] [4,5])
 .ret)
 (jo [ju .eql 45 8 3,jm 44 45] [2,3,4,8,44]
 (.cond (.t 44) (.seq (.draw [jf 46 28 3,jk 47 5 46,jw 48 (.build z38 [(28,5,(.t 47))]),jk 49 6 2,jf 50 28 3,jk 51 5 50,jy 52 218 [49,51]] [js 38 4 48,jm 5 52] [4,5])
 .ret)
 (jo [ju .eql 54 8 4,jm 53 54] [2,3,4,8,53]
 (.cond (.t 53) (jo [jf 55 33 3,jk 56 3 55,jw 6 (.alloc 66 3 [.int .i64 0,.int .i64 0,.int .i64 0]),js 3 6 56] [2,3,4,6]
 (.seq (.draww [0,1,2,3,4,5,6,7,8,9,10,11,12,13,14,15,16,17,18,19,20,21,22,23,24,25,26] [20,21,22,23,24] 1 [jf 57 5 3,jl 58 57,jk 59 3 6,jw 60 (.build z38 [(5,1,(.t 58)),(33,3,(.t 59))]),jk 61 6 2,jf 62 5 3,jl 63 62,jf 64 0 6,jl 65 64,jy 66 215 [61,63,65],jm 67 66,ja 67 (jf 68 1 6),ja 67 (jf 69 0 68),ja 67 (jl 70 69),ja 67 (jf 71 1 6),ja 67 (jf 72 1 71),ja 67 (jl 73 72),⟨some 74,.call (.f 113) [(.t 70),(.c (.int .i64 0)),(.t 73)],some (67,true)⟩,jp 75 67 74,jm 76 75,ja 76 (jf 77 1 6),ja 76 (jf 78 1 77),ja 76 (jl 79 78),ja 76 (ju .leq 80 79 4000),jp 81 76 80] [js 38 4 60,jm 5 81] [4,5])
 .ret))
 (jo [ju .eql 83 8 5,jm 82 83] [2,3,4,8,82]
 (.cond (.t 82) (.seq (.drawl 17 [jf 84 36 3,jk 85 2 84,jf 86 5 3,jl 87 86,jf 88 6 3,jl 89 88,jw 90 (.build z38 [(36,2,(.t 85)),(5,1,(.t 87)),(6,1,(.t 89))]),jf 91 36 3,jk 92 2 91,jy 93 173 [92],jm 94 93,ja 94 (jk 95 6 2),ja 94 (jf 96 5 3),ja 94 (jl 97 96),ja 94 (jf 98 6 3),ja 94 (jl 99 98),ja 94 (jy 100 215 [95,97,99]),jp 101 94 100] [js 38 4 90,jm 5 101] [4,5])
 .ret)
 (jo [ju .eql 103 8 6,jm 102 103] [2,3,4,8,102]
 (.cond (.t 102) (.seq (jo [jf 104 28 3,jf 105 0 104,jl 106 105,ju .neq 107 106 0] [2,3,4,107]
 (.cond (.t 107) (.seq (.drawl 13 [jf 108 36 3,jk 109 2 108,jf 110 28 3,jk 111 5 110,jw 112 (.build z38 [(36,2,(.t 109)),(28,5,(.t 111))]),jf 113 36 3,jk 114 2 113,jy 115 173 [114],jm 116 115,ja 116 (jk 117 6 2),ja 116 (jf 118 28 3),ja 116 (jk 119 5 118),ja 116 (jy 120 218 [117,119]),jp 121 116 120] [js 38 4 112,jm 5 121] [4,5])
 .ret)
 .skip))
 (.seq (.drawl 12 [jf 122 36 3,jk 123 2 122,jf 124 25 3,jk 125 3 124,jw 126 (.build z38 [(36,2,(.t 123)),(25,3,(.t 125))]),jf 127 36 3,jk 128 2 127,jy 129 173 [128],jm 130 129,ja 130 (jf 131 25 3),ja 130 (jk 132 3 131),ja 130 (jy 133 217 [132]),jp 134 130 133] [js 38 4 126,jm 5 134] [4,5])
 .ret))
 (jo [ju .eql 136 8 7,jm 135 136] [3,4,135]
 (.cond (.t 135) (.seq (.draw [jf 137 36 3,jk 138 2 137,jw 139 (.build z38 [(36,2,(.t 138))]),jf 140 36 3,jk 141 2 140,jy 142 173 [141]] [js 38 4 139,jm 5 142] [4,5])
 .ret)
 .skip))))))))))))))))
 (jo [jw 143 (.build z38 []),js 38 4 143,jb 5 false] [4,5]
 .ret))),[.c 4 (some 38),.t 5]⟩
theorem k172:chkF Tryz.prog Tryz.f172 c172=true:=by kernel_rfl
def c108:CF:=⟨49,(jo [jx 2 26 6 0,jx 3 68 38 1,jb 4 false] [2,3]
 (jo [jk 8 6 2,jk 9 38 3,jy 10 172 [8,9],jm 7 10,jz 11 0 7,jz 12 1 7,jw 5 (.alloc 68 38 z38),js 38 5 11,jm 6 12] [3,5,6]
 (jo [jf 13 0 3,jl 14 13,jf 15 0 5,js 1 15 14] [3,5,6]
 (jo [jf 16 1 3,jl 17 16,jf 18 1 5,js 1 18 17] [3,5,6]
 (jo [jf 19 2 3,jl 20 19,jf 21 2 5,js 1 21 20] [3,5,6]
 (jo [jf 22 3 3,jl 23 22,jf 24 3 5,js 1 24 23] [3,5,6]
 (jo [jf 25 4 3,jl 26 25,jf 27 4 5,js 1 27 26] [3,5,6]
 (jo [jm 28 6,jm 29 28,ja 29 (jk 30 38 5),ja 29 (jk 31 38 3),ja 29 (jy 32 50 [30,31]),jp 33 29 32,jm 34 33,ja 34 (jk 35 38 3),ja 34 (jy 36 92 [35]),ja 34 (jy 37 173 [36]),jp 38 34 37,jm 39 38,ja 39 (jf 40 2 3),ja 39 (jl 41 40),⟨some 42,.call (.f 113) [(.t 41),(.c (.int .i64 1)),(.c (.int .i64 1099511627776))],some (39,true)⟩,jp 43 39 42,jm 44 43,ja 44 (jf 45 3 3),ja 44 (jl 46 45),⟨some 47,.call (.f 113) [(.t 46),(.c (.int .i64 0)),(.c (.int .i64 10000))],some (44,true)⟩,jp 48 44 47,jm 4 48] [4]
 .ret)))))))),[.t 4]⟩
theorem k108:chkF Tryz.prog Tryz.f108 c108=true:=by kernel_rfl
def c109:CF:=⟨20,(jo [jx 2 29 2 0,jx 3 29 2 1,jb 4 false] [2,3]
 (.seq (jo [jf 5 0 2,jl 6 5,jf 7 0 3,jl 8 7,jt .neq 9 6 8] [2,3,9]
 (.cond (.t 9) (jo [jf 10 0 2,jl 11 10,jf 12 0 3,jl 13 12,jt .lss 14 11 13,jm 4 14] [4]
 .ret)
 .skip))
 (jo [jf 15 1 2,jl 16 15,jf 17 1 3,jl 18 17,jt .lss 19 16 18,jm 4 19] [4]
 .ret))),[.t 4]⟩
theorem k109:chkF Tryz.prog Tryz.f109 c109=true:=by kernel_rfl
def c48:CF:=⟨30,(jo [jx 2 68 38 0,jx 3 68 38 1,jb 4 false] [2,3]
 (.seq (jo [jf 5 3 2,jl 6 5,jf 7 3 3,jl 8 7,jt .neq 9 6 8] [2,3,9]
 (.cond (.t 9) (jo [jf 10 3 2,jl 11 10,jf 12 3 3,jl 13 12,jt .lss 14 11 13,jm 4 14] [4]
 .ret)
 .skip))
 (.seq (jo [jf 15 2 2,jl 16 15,jf 17 2 3,jl 18 17,jt .neq 19 16 18] [2,3,19]
 (.cond (.t 19) (jo [jf 20 2 2,jl 21 20,jf 22 2 3,jl 23 22,jt .lss 24 21 23,jm 4 24] [4]
 .ret)
 .skip))
 (.seq (.draw [jk 25 38 2,jy 26 92 [25],jk 27 38 3,jy 28 92 [27],jy 29 109 [26,28],jm 4 29] [] [4])
 .ret)))),[.t 4]⟩
theorem k48:chkF Tryz.prog Tryz.f48 c48=true:=by kernel_rfl
def c42:CF:=⟨61,(jo [jx 2 26 6 0,jc 4 0,jc 5 0] [1,2]
 (.seq (jo [jk 7 6 2,jy 8 44 [7],ju .neq 9 8 0] [1,2,9]
 (.cond (.t 9) (jo [jc 4 100,jc 5 0] [4,5]
 .ret)
 .skip))
 (.seq (jo [jm 10 1,je 11 10,ju .gtr 12 11 400] [1,2,12]
 (.cond (.t 12) (jo [jc 4 2,jc 5 0] [4,5]
 .ret)
 .skip))
 (.seq (jo [jc 6 0] [1,2,6]
 (.block 0 (.loop (.seq (jo [jm 13 6,jm 14 1,je 15 14,jt .lss 16 13 15] [1,2,6,16]
 (.cond (.t 16) .skip
 (.exit 0)))
 (.seq (.block 1 (.seq (.seq (.draw [jk 19 6 2,jm 20 1,jm 21 6,ji 22 38 20 21,jk 23 38 22,jy 24 108 [19,23],jv 25 24] [] [1,2,6,25])
 (.cond (.t 25) (jo [jm 26 6,jc 4 60,jm 5 26] [4,5]
 .ret)
 .skip))
 (.seq (.seq (.draw [jm 27 6,ju .gtr 28 27 0,jm 29 28,ja 29 (jm 30 1),ja 29 (jm 31 6),ja 29 (ji 32 38 30 31),ja 29 (jk 33 38 32),ja 29 (jy 34 92 [33]),ja 29 (jm 35 1),ja 29 (jm 36 6),ja 29 (ju .sub 37 36 1),ja 29 (ji 38 38 35 37),ja 29 (jk 39 38 38),ja 29 (jy 40 92 [39]),⟨some 41,.eqs false [some .i64,some .i64] (.t 34) (.t 40),some (29,true)⟩,jp 42 29 41] [] [1,2,6,42])
 (.cond (.t 42) (jo [jm 43 6,jc 4 61,jm 5 43] [4,5]
 .ret)
 .skip))
 (.seq (.draw [jm 44 6,ju .gtr 45 44 0,jm 46 45,ja 46 (jm 47 1),ja 46 (jm 48 6),ja 46 (ji 49 38 47 48),ja 46 (jk 50 38 49),ja 46 (jy 51 92 [50]),ja 46 (jm 52 1),ja 46 (jm 53 6),ja 46 (ju .sub 54 53 1),ja 46 (ji 55 38 52 54),ja 46 (jk 56 38 55),ja 46 (jy 57 92 [56]),ja 46 (jy 58 109 [51,57]),jp 59 46 58] [] [1,2,6,59])
 (.cond (.t 59) (jo [jm 60 6,jc 4 1,jm 5 60] [4,5]
 .ret)
 .skip)))))
 (.ops [jm 17 6,ju .add 18 17 1,jm 6 18] [1,2,6]))))))
 (jo [jc 4 0,jc 5 0] [4,5]
 .ret))))),[.t 4,.t 5]⟩
theorem k42:chkF Tryz.prog Tryz.f42 c42=true:=by kernel_rfl
def contT (a:Nt):Nt:={ a.bare with clerk:=0,num:=0,clock:=0,day:=0,kind:=0 }
theorem bare_head (a:Nt):a.bare.clerk=a.clerk∧a.bare.num=a.num∧a.bare.clock=a.clock∧a.bare.day=a.day∧a.bare.kind=a.kind:=by
  unfold Nt.bare
  repeat' split
  all_goals exact ⟨rfl,rfl,rfl,rfl,rfl⟩
theorem bare_cont (a:Nt):a.bare={ (contT a) with clerk:=a.clerk,num:=a.num,clock:=a.clock,day:=a.day,kind:=a.kind }:=by
  obtain ⟨h1,h2,h3,h4,h5⟩:=bare_head a
  rw [← h1,← h2,← h3,← h4,← h5]; rfl
theorem cont_sz {a:Nt} (h:ntSz a):ntSz (contT a):=bareSz h
theorem cmpN_lt {x y:Nm}:cmpN x y < 0↔(¬ x.clerk=y.clerk∧x.clerk < y.clerk)∨(x.clerk=y.clerk∧x.num < y.num):=by
  unfold cmpN orI sgn
  repeat' split
  all_goals omega
theorem cmpN_gt {x y:Nm}:0 < cmpN y x↔cmpN x y < 0:=by
  unfold cmpN orI sgn
  repeat' split
  all_goals omega
theorem cmpN_zero {x y:Nm}:cmpN y x=0↔x.clerk=y.clerk∧x.num=y.num:=by
  unfold cmpN orI sgn
  repeat' split
  all_goals omega
theorem rContent_spec (b:Bse) (hb:bseSz b) (a:Nt) (ha:ntSz a):Pure Tryz.prog 172 [.agg b.cs,.agg a.cs] (.tup [.agg (contT a).cs,bl (decide (a.says b))]):=by
  refine pB_ Tryz.call172 Tryz.func172 k172 ?_
  unfold c172
  by_cases h1:a.kind=1
  · have e1:(contT a)={ nt0 with stn:=a.stn,week:=a.week,sheet:=a.sheet }:=by unfold contT Nt.bare; simp only [h1,if_true,if_false,ne_eq,not_true_eq_false,not_false_eq_true,Int.reduceEq]; rfl
    have e2:decide (a.says b)=(decide (placed b a.stn a.week) && decide a.sheet.ok):=by rw [Bool.eq_iff_iff]; unfold Nt.says; simp [h1]
    rw [e1,e2]
    have p1:=rPlace_spec b hb a.stn a.week
    generalize decide (placed b a.stn a.week)=x0 at p1
    have v:=rValid_spec a.sheet ha
    generalize decide a.sheet.ok=x1 at v
    (repeat' ((first
 | refine vn rfl ?_
 | simp (disch:=omega) only [wr64,Int.zero_sub]
 | refine bo (fun _=>?_) fun _=>?_
 | refine im fun _=>?_
 | ((repeat refine si ?_); (first | ((first | refine .inl ⟨_,_,_,_,rfl,fun _=>pu (by first | exact p1 | exact v),?_⟩ | refine ⟨_,_,_,_,rfl,fun _=>pu (by first | exact p1 | exact v),?_⟩); (first | refine o1 ?_ | refine o2 ?_ | refine o3 ?_ | refine o4 ?_)) | refine .inl ⟨_,_,_,_,rfl,pu (by first | exact p1 | exact v),?_⟩))
 | refine cF ?_
 | refine om ?_
 | refine an ?_
 | fail) <;> try simp only [zN,zT,zV,zS,zU,Q0,Q1,ex,Q2,Q3,Q4,Q5,Q6,Q7,Q8,Q9,QA,QB,QC,Nat.reduceBEq,reduceAdd,reduceSub,reduceLT,reduceLeDiff,reduceMul,reduceEqDiff,reduceIte,h1,z38,Sht.cs]))
    all_goals try (exfalso;omega)
    all_goals refine Frz.tupL ⟨Frz.aggL ?_,Frz.eq (congrArg bl (by (first | rfl | (cases x0 <;> cases x1 <;> simp [Bool.and_assoc]) | (rw [Bool.eq_iff_iff]; cases x0 <;> cases x1 <;> simp <;> omega)))) (by simp),trivial⟩
    all_goals simp only [Nt.cs,nt0,sht0,mk0,rd0,hgt0,nm0,FL]
    all_goals repeat' apply And.intro
    all_goals first | trivial | exact Frz.nil0 | exact Frz.eq rfl (by simp) | exact Frz.eq (by simp [*]) (by simp)
  by_cases h2:a.kind=2
  · have e1:(contT a)={ nt0 with ref:=a.ref,mark:=a.mark }:=by unfold contT Nt.bare; simp only [h2,if_true,if_false,ne_eq,not_true_eq_false,not_false_eq_true,Int.reduceEq]; rfl
    have e2:decide (a.says b)=(decide a.ref.ok && decide a.mark.ok):=by rw [Bool.eq_iff_iff]; unfold Nt.says; simp [h2]
    rw [e1,e2]
    have r1:=rRight_spec a.ref
    generalize decide a.ref.ok=x0 at r1
    have m1:=rMark_spec a.mark
    generalize decide a.mark.ok=x1 at m1
    (repeat' ((first
 | refine vn rfl ?_
 | simp (disch:=omega) only [wr64,Int.zero_sub]
 | refine bo (fun _=>?_) fun _=>?_
 | refine im fun _=>?_
 | ((repeat refine si ?_); (first | ((first | refine .inl ⟨_,_,_,_,rfl,fun _=>pu (by first | exact r1 | exact m1),?_⟩ | refine ⟨_,_,_,_,rfl,fun _=>pu (by first | exact r1 | exact m1),?_⟩); (first | refine o1 ?_ | refine o2 ?_ | refine o3 ?_ | refine o4 ?_)) | refine .inl ⟨_,_,_,_,rfl,pu (by first | exact r1 | exact m1),?_⟩))
 | refine cF ?_
 | refine om ?_
 | refine an ?_
 | fail) <;> try simp only [zN,zT,zV,zS,zU,Q0,Q1,ex,Q2,Q3,Q4,Q5,Q6,Q7,Q8,Q9,QA,QB,QC,Nat.reduceBEq,reduceAdd,reduceSub,reduceLT,reduceLeDiff,reduceMul,reduceEqDiff,reduceIte,h2,z38,Sht.cs]))
    all_goals try (exfalso;omega)
    all_goals refine Frz.tupL ⟨Frz.aggL ?_,Frz.eq (congrArg bl (by (first | rfl | (cases x0 <;> cases x1 <;> simp [Bool.and_assoc]) | (rw [Bool.eq_iff_iff]; cases x0 <;> cases x1 <;> simp <;> omega)))) (by simp),trivial⟩
    all_goals simp only [Nt.cs,nt0,sht0,mk0,rd0,hgt0,nm0,FL]
    all_goals repeat' apply And.intro
    all_goals first | trivial | exact Frz.nil0 | exact Frz.eq rfl (by simp) | exact Frz.eq (by simp [*]) (by simp)
  by_cases h3:a.kind=3
  · have e1:(contT a)={ nt0 with read:=a.read }:=by unfold contT Nt.bare; simp only [h3,if_true,if_false,ne_eq,not_true_eq_false,not_false_eq_true,Int.reduceEq]; rfl
    have e2:decide (a.says b)=(decide (a.read.ok b)):=by rw [Bool.eq_iff_iff]; unfold Nt.says; simp [h3]
    rw [e1,e2]
    have d1:=rRead_spec b hb a.read
    generalize decide (a.read.ok b)=x0 at d1
    (repeat' ((first
 | refine vn rfl ?_
 | simp (disch:=omega) only [wr64,Int.zero_sub]
 | refine bo (fun _=>?_) fun _=>?_
 | refine im fun _=>?_
 | ((repeat refine si ?_); (first | ((first | refine .inl ⟨_,_,_,_,rfl,fun _=>pu d1,?_⟩ | refine ⟨_,_,_,_,rfl,fun _=>pu d1,?_⟩); (first | refine o1 ?_ | refine o2 ?_ | refine o3 ?_ | refine o4 ?_)) | refine .inl ⟨_,_,_,_,rfl,pu d1,?_⟩))
 | refine cF ?_
 | refine om ?_
 | refine an ?_
 | fail) <;> try simp only [zN,zT,zV,zS,zU,Q0,Q1,ex,Q2,Q3,Q4,Q5,Q6,Q7,Q8,Q9,QA,QB,QC,Nat.reduceBEq,reduceAdd,reduceSub,reduceLT,reduceLeDiff,reduceMul,reduceEqDiff,reduceIte,h3,z38,Sht.cs]))
    all_goals try (exfalso;omega)
    all_goals refine Frz.tupL ⟨Frz.aggL ?_,Frz.eq (congrArg bl (by (first | rfl | (cases x0 <;> simp [Bool.and_assoc]) | (rw [Bool.eq_iff_iff]; cases x0 <;> simp <;> omega)))) (by simp),trivial⟩
    all_goals simp only [Nt.cs,nt0,sht0,mk0,rd0,hgt0,nm0,FL]
    all_goals repeat' apply And.intro
    all_goals first | trivial | exact Frz.nil0 | exact Frz.eq rfl (by simp) | exact Frz.eq (by simp [*]) (by simp)
  by_cases h4:a.kind=4
  · have e1:(contT a)={ nt0 with stn:=a.stn,height:=a.height }:=by unfold contT Nt.bare; simp only [h4,if_true,if_false,ne_eq,not_true_eq_false,not_false_eq_true,Int.reduceEq]; rfl
    have e2:decide (a.says b)=(decide (placed b a.stn a.height.week) && decide (spIn a.height.metres 0 4000)):=by rw [Bool.eq_iff_iff]; unfold Nt.says; simp [h4]
    rw [e1,e2]
    have p2:=rPlace_spec b hb a.stn a.height.week
    generalize decide (placed b a.stn a.height.week)=x0 at p2
    (repeat' ((first
 | refine vn rfl ?_
 | simp (disch:=omega) only [wr64,Int.zero_sub]
 | refine bo (fun _=>?_) fun _=>?_
 | refine im fun _=>?_
 | ((repeat refine si ?_); (first | ((first | refine .inl ⟨_,_,_,_,rfl,fun _=>pu (by first | exact p2 | exact within_r a.height.metres.lo 0 a.height.metres.hi),?_⟩ | refine ⟨_,_,_,_,rfl,fun _=>pu (by first | exact p2 | exact within_r a.height.metres.lo 0 a.height.metres.hi),?_⟩); (first | refine o1 ?_ | refine o2 ?_ | refine o3 ?_ | refine o4 ?_)) | refine .inl ⟨_,_,_,_,rfl,pu (by first | exact p2 | exact within_r a.height.metres.lo 0 a.height.metres.hi),?_⟩))
 | refine cF ?_
 | refine om ?_
 | refine an ?_
 | fail) <;> try simp only [zN,zT,zV,zS,zU,Q0,Q1,ex,Q2,Q3,Q4,Q5,Q6,Q7,Q8,Q9,QA,QB,QC,Nat.reduceBEq,reduceAdd,reduceSub,reduceLT,reduceLeDiff,reduceMul,reduceEqDiff,reduceIte,h4,z38,Sht.cs]))
    all_goals try (exfalso;omega)
    all_goals refine Frz.tupL ⟨Frz.aggL ?_,Frz.eq (congrArg bl (by (first | rfl | (cases x0 <;> simp [Bool.and_assoc]) | (rw [Bool.eq_iff_iff]; cases x0 <;> simp <;> omega)))) (by simp),trivial⟩
    all_goals simp only [Nt.cs,nt0,sht0,mk0,rd0,hgt0,nm0,FL]
    all_goals repeat' apply And.intro
    all_goals first | trivial | exact Frz.nil0 | exact Frz.eq rfl (by simp) | exact Frz.eq (by simp [*]) (by simp)
  by_cases h5:a.kind=5
  · have e1:(contT a)={ nt0 with ref:=a.ref,stn:=a.stn,week:=a.week }:=by unfold contT Nt.bare; simp only [h5,if_true,if_false,ne_eq,not_true_eq_false,not_false_eq_true,Int.reduceEq]; rfl
    have e2:decide (a.says b)=(decide a.ref.ok && decide (placed b a.stn a.week)):=by rw [Bool.eq_iff_iff]; unfold Nt.says; simp [h5]; try (intros; constructor <;> (intro h; simp_all))
    rw [e1,e2]
    have r1:=rRight_spec a.ref
    generalize decide a.ref.ok=x0 at r1
    have p1:=rPlace_spec b hb a.stn a.week
    generalize decide (placed b a.stn a.week)=x1 at p1
    (repeat' ((first
 | refine vn rfl ?_
 | simp (disch:=omega) only [wr64,Int.zero_sub]
 | refine bo (fun _=>?_) fun _=>?_
 | refine im fun _=>?_
 | ((repeat refine si ?_); (first | ((first | refine .inl ⟨_,_,_,_,rfl,fun _=>pu (by first | exact r1 | exact p1),?_⟩ | refine ⟨_,_,_,_,rfl,fun _=>pu (by first | exact r1 | exact p1),?_⟩); (first | refine o1 ?_ | refine o2 ?_ | refine o3 ?_ | refine o4 ?_)) | refine .inl ⟨_,_,_,_,rfl,pu (by first | exact r1 | exact p1),?_⟩))
 | refine cF ?_
 | refine om ?_
 | refine an ?_
 | fail) <;> try simp only [zN,zT,zV,zS,zU,Q0,Q1,ex,Q2,Q3,Q4,Q5,Q6,Q7,Q8,Q9,QA,QB,QC,Nat.reduceBEq,reduceAdd,reduceSub,reduceLT,reduceLeDiff,reduceMul,reduceEqDiff,reduceIte,h5,z38,Sht.cs]))
    all_goals try (exfalso;omega)
    all_goals refine Frz.tupL ⟨Frz.aggL ?_,Frz.eq (congrArg bl (by (first | rfl | (cases x0 <;> cases x1 <;> simp [Bool.and_assoc]) | (rw [Bool.eq_iff_iff]; cases x0 <;> cases x1 <;> simp <;> omega)))) (by simp),trivial⟩
    all_goals simp only [Nt.cs,nt0,sht0,mk0,rd0,hgt0,nm0,FL]
    all_goals repeat' apply And.intro
    all_goals first | trivial | exact Frz.nil0 | exact Frz.eq rfl (by simp) | exact Frz.eq (by simp [*]) (by simp)
  by_cases h6:a.kind=6
  · by_cases h0:a.read.stn=0
    · have e1:(contT a)={ nt0 with ref:=a.ref,mark:=a.mark }:=by unfold contT Nt.bare; simp only [h6,h0,if_true,if_false,ne_eq,not_true_eq_false,not_false_eq_true,Int.reduceEq]; rfl
      have e2:decide (a.says b)=(decide a.ref.ok && decide a.mark.ok):=by rw [Bool.eq_iff_iff]; unfold Nt.says; simp [h6,h0]
      rw [e1,e2]
      have r1:=rRight_spec a.ref
      generalize decide a.ref.ok=x0 at r1
      have m1:=rMark_spec a.mark
      generalize decide a.mark.ok=x1 at m1
      (repeat' ((first
 | refine vn rfl ?_
 | simp (disch:=omega) only [wr64,Int.zero_sub]
 | refine bo (fun _=>?_) fun _=>?_
 | refine im fun _=>?_
 | ((repeat refine si ?_); (first | ((first | refine .inl ⟨_,_,_,_,rfl,fun _=>pu (by first | exact r1 | exact m1),?_⟩ | refine ⟨_,_,_,_,rfl,fun _=>pu (by first | exact r1 | exact m1),?_⟩); (first | refine o1 ?_ | refine o2 ?_ | refine o3 ?_ | refine o4 ?_)) | refine .inl ⟨_,_,_,_,rfl,pu (by first | exact r1 | exact m1),?_⟩))
 | refine cF ?_
 | refine om ?_
 | refine an ?_
 | fail) <;> try simp only [zN,zT,zV,zS,zU,Q0,Q1,ex,Q2,Q3,Q4,Q5,Q6,Q7,Q8,Q9,QA,QB,QC,Nat.reduceBEq,reduceAdd,reduceSub,reduceLT,reduceLeDiff,reduceMul,reduceEqDiff,reduceIte,h6,h0,z38,Sht.cs]))
      all_goals try (exfalso;omega)
      all_goals refine Frz.tupL ⟨Frz.aggL ?_,Frz.eq (congrArg bl (by (first | rfl | (cases x0 <;> cases x1 <;> simp [Bool.and_assoc]) | (rw [Bool.eq_iff_iff]; cases x0 <;> cases x1 <;> simp <;> omega)))) (by simp),trivial⟩
      all_goals simp only [Nt.cs,nt0,sht0,mk0,rd0,hgt0,nm0,FL]
      all_goals repeat' apply And.intro
      all_goals first | trivial | exact Frz.nil0 | exact Frz.eq rfl (by simp) | exact Frz.eq (by simp [*]) (by simp)
    · have e1:(contT a)={ nt0 with ref:=a.ref,read:=a.read }:=by unfold contT Nt.bare; simp only [h6,h0,if_true,if_false,ne_eq,not_true_eq_false,not_false_eq_true,Int.reduceEq]; rfl
      have e2:decide (a.says b)=(decide a.ref.ok && decide (a.read.ok b)):=by rw [Bool.eq_iff_iff]; unfold Nt.says; simp [h6,h0]
      rw [e1,e2]
      have r1:=rRight_spec a.ref
      generalize decide a.ref.ok=x0 at r1
      have d1:=rRead_spec b hb a.read
      generalize decide (a.read.ok b)=x1 at d1
      (repeat' ((first
 | refine vn rfl ?_
 | simp (disch:=omega) only [wr64,Int.zero_sub]
 | refine bo (fun _=>?_) fun _=>?_
 | refine im fun _=>?_
 | ((repeat refine si ?_); (first | ((first | refine .inl ⟨_,_,_,_,rfl,fun _=>pu (by first | exact r1 | exact d1),?_⟩ | refine ⟨_,_,_,_,rfl,fun _=>pu (by first | exact r1 | exact d1),?_⟩); (first | refine o1 ?_ | refine o2 ?_ | refine o3 ?_ | refine o4 ?_)) | refine .inl ⟨_,_,_,_,rfl,pu (by first | exact r1 | exact d1),?_⟩))
 | refine cF ?_
 | refine om ?_
 | refine an ?_
 | fail) <;> try simp only [zN,zT,zV,zS,zU,Q0,Q1,ex,Q2,Q3,Q4,Q5,Q6,Q7,Q8,Q9,QA,QB,QC,Nat.reduceBEq,reduceAdd,reduceSub,reduceLT,reduceLeDiff,reduceMul,reduceEqDiff,reduceIte,h6,h0,z38,Sht.cs]))
      all_goals try (exfalso;omega)
      all_goals refine Frz.tupL ⟨Frz.aggL ?_,Frz.eq (congrArg bl (by (first | rfl | (cases x0 <;> cases x1 <;> simp [Bool.and_assoc]) | (rw [Bool.eq_iff_iff]; cases x0 <;> cases x1 <;> simp <;> omega)))) (by simp),trivial⟩
      all_goals simp only [Nt.cs,nt0,sht0,mk0,rd0,hgt0,nm0,FL]
      all_goals repeat' apply And.intro
      all_goals first | trivial | exact Frz.nil0 | exact Frz.eq rfl (by simp) | exact Frz.eq (by simp [*]) (by simp)
  by_cases h7:a.kind=7
  · have e1:(contT a)={ nt0 with ref:=a.ref }:=by unfold contT Nt.bare; simp only [h7,if_true,if_false,ne_eq,not_true_eq_false,not_false_eq_true,Int.reduceEq]; rfl
    have e2:decide (a.says b)=(decide a.ref.ok):=by rw [Bool.eq_iff_iff]; unfold Nt.says; simp [h7]
    rw [e1,e2]
    have r1:=rRight_spec a.ref
    generalize decide a.ref.ok=x0 at r1
    (repeat' ((first
 | refine vn rfl ?_
 | simp (disch:=omega) only [wr64,Int.zero_sub]
 | refine bo (fun _=>?_) fun _=>?_
 | refine im fun _=>?_
 | ((repeat refine si ?_); (first | ((first | refine .inl ⟨_,_,_,_,rfl,fun _=>pu r1,?_⟩ | refine ⟨_,_,_,_,rfl,fun _=>pu r1,?_⟩); (first | refine o1 ?_ | refine o2 ?_ | refine o3 ?_ | refine o4 ?_)) | refine .inl ⟨_,_,_,_,rfl,pu r1,?_⟩))
 | refine cF ?_
 | refine om ?_
 | refine an ?_
 | fail) <;> try simp only [zN,zT,zV,zS,zU,Q0,Q1,ex,Q2,Q3,Q4,Q5,Q6,Q7,Q8,Q9,QA,QB,QC,Nat.reduceBEq,reduceAdd,reduceSub,reduceLT,reduceLeDiff,reduceMul,reduceEqDiff,reduceIte,h7,z38,Sht.cs]))
    all_goals try (exfalso;omega)
    all_goals refine Frz.tupL ⟨Frz.aggL ?_,Frz.eq (congrArg bl (by (first | rfl | (cases x0 <;> simp [Bool.and_assoc]) | (rw [Bool.eq_iff_iff]; cases x0 <;> simp <;> omega)))) (by simp),trivial⟩
    all_goals simp only [Nt.cs,nt0,sht0,mk0,rd0,hgt0,nm0,FL]
    all_goals repeat' apply And.intro
    all_goals first | trivial | exact Frz.nil0 | exact Frz.eq rfl (by simp) | exact Frz.eq (by simp [*]) (by simp)
  have e1:(contT a)=nt0:=by unfold contT Nt.bare; simp only [h1,h2,h3,h4,h5,h6,h7,if_true,if_false,ne_eq,not_true_eq_false,not_false_eq_true,Int.reduceEq]; rfl
  have e2:decide (a.says b)=(false):=by rw [Bool.eq_iff_iff]; unfold Nt.says; simp [h1,h2,h3,h4,h5,h6,h7]
  rw [e1,e2]
  (repeat' ((first
 | refine vn rfl ?_
 | simp (disch:=omega) only [wr64,Int.zero_sub]
 | refine bo (fun _=>?_) fun _=>?_
 | refine im fun _=>?_
 | refine cF ?_
 | refine om ?_
 | refine an ?_
 | fail) <;> try simp only [zN,zT,zV,zS,zU,Q0,Q1,ex,Q2,Q3,Q4,Q5,Q6,Q7,Q8,Q9,QA,QB,QC,Nat.reduceBEq,reduceAdd,reduceSub,reduceLT,reduceLeDiff,reduceMul,reduceEqDiff,reduceIte,h1,h2,h3,h4,h5,h6,h7,z38,Sht.cs]))
  all_goals try (exfalso;omega)
  all_goals refine Frz.tupL ⟨Frz.aggL ?_,Frz.eq (congrArg bl (by (first | rfl | (skip <;> simp [Bool.and_assoc]) | (rw [Bool.eq_iff_iff]; skip <;> simp <;> omega)))) (by simp),trivial⟩
  all_goals simp only [Nt.cs,nt0,sht0,mk0,rd0,hgt0,nm0,FL]
  all_goals repeat' apply And.intro
  all_goals first | trivial | exact Frz.nil0 | exact Frz.eq rfl (by simp) | exact Frz.eq (by simp [*]) (by simp)
theorem rFormed_spec (b:Bse) (hb:bseSz b) (a:Nt) (ha:ntSz a):Pure Tryz.prog 108 [.agg b.cs,.agg a.cs] (bl (decide (a.ok b))):=by
  refine pB_ Tryz.call108 Tryz.func108 k108 ?_
  unfold c108
  have h1:=rContent_spec b hb a ha
  have h2:=rSame_spec { (contT a) with clerk:=a.clerk,num:=a.num,clock:=a.clock,day:=a.day,kind:=a.kind } a (cont_sz ha) ha
  rw [← bare_cont a] at h2
  have h2':Pure Tryz.prog 50 [.agg (Nt.cs { (contT a) with clerk:=a.clerk,num:=a.num,clock:=a.clock,day:=a.day,kind:=a.kind }),.agg a.cs] (bl (decide (a.bare=a))):=by rw [← bare_cont a]; exact h2
  clear h2
  have h3:=rName_spec a
  have h4:=rRight_spec a.nm
  have hd:decide (a.ok b)=(decide (a.says b) && (decide (a.bare=a) && (decide a.nm.ok && (decide (inr a.clock 1 1099511627776) && decide (inr a.day 0 10000))))):=by
    rw [Bool.eq_iff_iff]; simp only [Bool.and_eq_true,decide_eq_true_eq]
    exact ⟨fun ⟨g1,g2,g3,g4,g5⟩=>⟨g5,g1.symm,g2,g3,g4⟩,fun ⟨g5,g1,g2,g3,g4⟩=>⟨g1.symm,g2,g3,g4,g5⟩⟩
  rw [hd]
  generalize decide (a.bare=a)=x1 at h2'
  generalize decide a.nm.ok=x2 at h4
  generalize decide (a.says b)=x3 at h1
  generalize contT a=c at h1 h2'
  obtain ⟨c1,c2,c3,c4,c5,c6,c7,c8,c9,c10,c11,c12⟩:=c
  simp only [Nt.cs,Sht.cs] at h1 h2'
  (repeat' ((first
 | refine vn rfl ?_
 | simp (disch:=omega) only [wr64,Int.zero_sub]
 | refine bo (fun _=>?_) fun _=>?_
 | refine im fun _=>?_
 | ((repeat refine si ?_); (first | ((first | refine .inl ⟨_,_,_,_,rfl,fun _=>pu (by first | exact h1 | exact h2' | exact h3 | exact h4 | exact within_r a.clock 1 1099511627776 | exact within_r a.day 0 10000),?_⟩ | refine ⟨_,_,_,_,rfl,fun _=>pu (by first | exact h1 | exact h2' | exact h3 | exact h4 | exact within_r a.clock 1 1099511627776 | exact within_r a.day 0 10000),?_⟩); (first | refine o1 ?_ | refine o2 ?_ | refine o3 ?_ | refine o4 ?_)) | refine .inl ⟨_,_,_,_,rfl,pu (by first | exact h1 | exact h2' | exact h3 | exact h4 | exact within_r a.clock 1 1099511627776 | exact within_r a.day 0 10000),?_⟩))
 | refine cF ?_
 | refine om ?_
 | refine an ?_
 | fail) <;> try simp only [zN,zT,zV,zS,zU,Q0,Q1,ex,Q2,Q3,Q4,Q5,Q6,Q7,Q8,Q9,QA,QB,QC,Nat.reduceBEq,reduceAdd,reduceSub,reduceLT,reduceLeDiff,reduceMul,reduceEqDiff,reduceIte,z38,Sht.cs]))
  all_goals refine Frz.eq (congrArg bl ?_) (by simp)
  all_goals simp [Bool.and_assoc]
theorem rAhead_spec (x y:Nm):Pure Tryz.prog 109 [.agg x.cs,.agg y.cs] (bl (decide (cmpN x y < 0))):=by
  refine pB_ Tryz.call109 Tryz.func109 k109 ?_
  unfold c109
  have h:=@cmpN_lt x y
  ((refine Au ?_;repeat' constructor)<;>intros<;>refine hD_ ?_)
  all_goals exact Frz.eq (congrArg bl (by rw [decide_eq_decide]; omega)) (by simp)
theorem rBefore_spec (a b:Nt):Pure Tryz.prog 48 [.agg a.cs,.agg b.cs] (bl (decide (cmpT a b < 0))):=by
  refine pB_ Tryz.call48 Tryz.func48 k48 ?_
  unfold c48
  have h1:=rName_spec a
  have h2:=rName_spec b
  have h3:=rAhead_spec a.nm b.nm
  have hc:cmpT a b=orI (sgn a.day b.day) (orI (sgn a.clock b.clock) (cmpN a.nm b.nm)):=rfl
  generalize cmpN a.nm b.nm=c at h3 hc
  have hc2:cmpT a b < 0↔(¬ a.day=b.day∧a.day < b.day)∨(a.day=b.day∧((¬ a.clock=b.clock∧a.clock < b.clock)∨(a.clock=b.clock∧c < 0))):=by
    rw [hc]; unfold orI sgn
    repeat' split
    all_goals omega
  ((refine Ay (And.intro @h1 (And.intro @h2 @h3)) ?_;repeat' constructor)<;>intros<;>refine hD_ ?_)
  all_goals exact Frz.eq (congrArg bl (by rw [decide_eq_decide]; omega)) (by simp)
theorem rCheckSet_spec (b:Bse) (hb:bseSz b) (l:List Nt) (hl:setSz l):Pure Tryz.prog 42 [.agg b.cs,ntS l] (.tup [n (setE b l).1,n (setE b l).2]):=by
  refine pB_ Tryz.call42 Tryz.func42 k42 ?_
  unfold c42
  have h1:=rCheckBase_spec b hb
  have hl0:=hl.1
  by_cases g:b.ok
  · rw [if_pos g] at h1
    by_cases hlen:400 < l.length
    · have e:setE b l=(2,0):=by unfold setE; rw [if_neg (fun h=>h g),if_pos hlen]
      rw [e]
      ((refine Ay @h1 ?_;repeat' constructor)<;>intros<;>refine hD_ ?_)
      all_goals first | (exfalso; omega) | exact Frz.eq rfl (by simp)
    have e:setE b l=firstE (ntE b l) l.length:=by unfold setE; rw [if_neg (fun h=>h g),if_neg hlen]
    ((refine Ay @h1 ?_;repeat' constructor)<;>intros<;>refine hD_ ?_)
    all_goals try (exfalso;omega)
    refine AWPC.loopE (α:={ x:Nat × Sto // x.1≤l.length∧∀ j,j < x.1→ntE b l j=0 }) [6] (fun x=>[(6,n x.1.1)]) (fun x=>x.1.2) (fun x=>l.length - x.1.1) ⟨(0,[]),by simp,by simp⟩ ?_ rfl ?_
    · (simp only [zN,zT,zV,zS,zU,Q0,Q1,ex,Q2,Q3,Q4,Q5,Q6,Q7,Q8,Q9,QA,QB,QC,Nat.reduceBEq,reduceAdd,reduceSub,reduceLT,reduceLeDiff,reduceMul,reduceEqDiff,reduceIte]; try simp)
    · rintro ⟨⟨i,τ⟩,hi,hI⟩
      simp only at hi hI
      by_cases hlt:i < l.length
      · have hs:(l.map Nt.cs).getD i []=Nt.cs (l.getD i default):=row default hlt
        have hp:=rowPrev (f:=Nt.cs) default hlt
        have h2:=rFormed_spec b hb (l.getD i default) (hl.2 _ (List.mem_of_getElem? (getD_lt default hlt)))
        have hE:ntE b l i=if ¬ (l.getD i default).ok b then 60 else if i=0 then 0 else if cmpN (l.getD (i - 1) default).nm (l.getD i default).nm=0 then 61 else if 0 < cmpN (l.getD (i - 1) default).nm (l.getD i default).nm then 1 else 0:=rfl
        have hbad:ntE b l i≠0→setE b l=(ntE b l i,i):=fun h=>by rw [e,firstE_at hlt hI h]
        generalize l.getD i default=x at hs h2 hE
        generalize l.getD (i - 1) default=y at hp hE
        have h3:=rName_spec x
        have h4:=rName_spec y
        have h5:=rAhead_spec x.nm y.nm
        have hz:cmpN y.nm x.nm=0↔x.clerk=y.clerk∧x.num=y.num:=cmpN_zero
        have hg:=@cmpN_gt x.nm y.nm
        generalize cmpN y.nm x.nm=c at hE hz hg
        generalize cmpN x.nm y.nm=c' at h5 hg
        by_cases hok:x.ok b
        · rw [decide_eq_true hok] at h2
          rw [if_neg (fun h=>h hok)] at hE
          ((refine Az (And.intro @hs @hp) (And.intro @h2 (And.intro @h3 (And.intro @h4 @h5))) ?_;repeat' constructor)<;>intros<;>refine hD_ ?_)
          all_goals try (exfalso;omega)
          all_goals first
            | (have e2:ntE b l i=61:=by rw [hE,if_neg (by omega),if_pos (by omega)]
               rw [hbad (by omega),e2]; exact Frz.eq rfl (by simp))
            | (have e2:ntE b l i=1:=by rw [hE,if_neg (by omega),if_neg (by omega),if_pos (by omega)]
               rw [hbad (by omega),e2]; exact Frz.eq rfl (by simp))
            | exact ⟨⟨(i+1,_),hlt,all_next hI (by rw [hE,if_pos (by omega)])⟩,by simp,rfl,by simp only; omega⟩
            | exact ⟨⟨(i+1,_),hlt,all_next hI (by rcases Nat.eq_zero_or_pos i with hi0 | hi0 <;> first | (rw [hE,if_pos hi0]; done) | (rw [hE,if_neg (by omega),if_neg (by omega),if_neg (by omega)]; done))⟩,by simp,rfl,by simp only; omega⟩
        · rw [decide_eq_false hok] at h2
          rw [if_pos hok] at hE
          ((refine Az (And.intro @hs @hp) (And.intro @h2 (And.intro @h3 (And.intro @h4 @h5))) ?_;repeat' constructor)<;>intros<;>refine hD_ ?_)
          all_goals try (exfalso;omega)
          rw [hbad (by omega),hE]; exact Frz.eq rfl (by simp)
      · obtain rfl:i=l.length:=by omega
        ((refine Au ?_;repeat' constructor)<;>intros<;>refine hD_ ?_)
        all_goals try (exfalso;omega)
        rw [e,firstE_none hI]; exact Frz.eq rfl (by simp)
  · rw [if_neg g] at h1
    have e:setE b l=(100,0):=by unfold setE; rw [if_pos g]
    rw [e]
    ((refine Ay @h1 ?_;repeat' constructor)<;>intros<;>refine hD_ ?_)
    all_goals first | (exfalso; omega) | exact Frz.eq rfl (by simp)
end Go.Proofs.YtolgelipcgcbhaaGreat
