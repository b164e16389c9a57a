/- Part 10 of the texts that the claim rests on: abstract values over the walk, and contracts of functions. -/
import Derived.Test.YtolgelipcgcbhaaGreatBl9
import Derived.Shelf.SortM.Plain
import Derived.Shelf.SortM.SortNone
import Derived.Test.YtolgelipcgcbhaaGreatProg
import Derived.Test.YtolgelipcgcbhaaGreatRows
namespace Go.Proofs.YtolgelipcgcbhaaGreat
open Go.Shelf
def Tryz.laysSlM5_f94_ren:Go.Shelf.Ren:=⟨fun | 5=>94 | 8=>162 | 7=>161 | 19=>207 | 20=>208 | 10=>198 | 11=>199 | 12=>200 | 13=>201 | 14=>202 | 15=>203 | 16=>204 | 17=>205 | 18=>206 | 30=>233 | 31=>234 | 32=>235 | 33=>236 | 34=>237 | 35=>168 | 40=>250 | n=>n,fun | 23=>52 | 25=>3 | 3=>3 | 32=>210 | 22=>52 | 0=>0 | 44=>254 | 46=>256 | 4=>4 | 36=>246 | 35=>245 | 41=>251 | 5=>5 | 9=>9 | 53=>285 | 57=>289 | 63=>299 | 64=>300 | n=>n,fun | n=>n⟩
theorem Tryz.laysSlM5_f94:Go.Proofs.SlLaysM.n5 Tryz.prog Tryz.laysSlM5_f94_ren:={
  mixed:=by kernel_rfl
  f5:=⟨Tryz.f94.name,by decide,Tryz.func94.trans (congrArg some (by kernel_rfl))⟩
  f7:=⟨Tryz.f161.name,by decide,Tryz.func161.trans (congrArg some (by kernel_rfl))⟩
  f8:=Tryz.func162.trans (congrArg some (by kernel_rfl))
  f10:=⟨Tryz.f198.name,by decide,Tryz.func198.trans (congrArg some (by kernel_rfl))⟩
  f11:=⟨Tryz.f199.name,by decide,Tryz.func199.trans (congrArg some (by kernel_rfl))⟩
  f12:=⟨Tryz.f200.name,by decide,Tryz.func200.trans (congrArg some (by kernel_rfl))⟩
  f13:=⟨Tryz.f201.name,by decide,Tryz.func201.trans (congrArg some (by kernel_rfl))⟩
  f14:=⟨Tryz.f202.name,by decide,Tryz.func202.trans (congrArg some (by kernel_rfl))⟩
  f15:=⟨Tryz.f203.name,by decide,Tryz.func203.trans (congrArg some (by kernel_rfl))⟩
  f16:=⟨Tryz.f204.name,by decide,Tryz.func204.trans (congrArg some (by kernel_rfl))⟩
  f17:=⟨Tryz.f205.name,by decide,Tryz.func205.trans (congrArg some (by kernel_rfl))⟩
  f18:=⟨Tryz.f206.name,by decide,Tryz.func206.trans (congrArg some (by kernel_rfl))⟩
  f19:=Tryz.func207.trans (congrArg some (by kernel_rfl))
  f20:=Tryz.func208.trans (congrArg some (by kernel_rfl))
  f30:=⟨Tryz.f233.name,by decide,Tryz.func233.trans (congrArg some (by kernel_rfl))⟩
  f31:=Tryz.func234.trans (congrArg some (by kernel_rfl))
  f32:=Tryz.func235.trans (congrArg some (by kernel_rfl))
  f33:=⟨Tryz.f236.name,by decide,Tryz.func236.trans (congrArg some (by kernel_rfl))⟩
  f34:=⟨Tryz.f237.name,by decide,Tryz.func237.trans (congrArg some (by kernel_rfl))⟩
  f35:=⟨Tryz.f168.name,by decide,Tryz.func168.trans (congrArg some (by kernel_rfl))⟩
  f40:=⟨Tryz.f250.name,by decide,Tryz.func250.trans (congrArg some (by kernel_rfl))⟩
  t0:=Tryz.underlying0
  a0:=Tryz.isAgg0
  z0:=Tryz.sizeOf0
  v0:=Tryz.zeroValue0
  t3:=Tryz.underlying3
  a3:=Tryz.isAgg3
  z3:=Tryz.sizeOf3
  v3:=Tryz.zeroValue3
  t4:=Tryz.underlying4
  a4:=Tryz.isAgg4
  z4:=Tryz.sizeOf4
  v4:=Tryz.zeroValue4
  t5:=Tryz.underlying5
  a5:=Tryz.isAgg5
  z5:=Tryz.sizeOf5
  v5:=Tryz.zeroValue5
  t9:=Tryz.underlying9
  a9:=Tryz.isAgg9
  z9:=Tryz.sizeOf9
  v9:=Tryz.zeroValue9
  t22:=Tryz.underlying52
  a22:=Tryz.isAgg52
  z22:=Tryz.sizeOf52
  v22:=Tryz.zeroValue52
  t23:=Tryz.underlying52
  a23:=Tryz.isAgg52
  z23:=Tryz.sizeOf52
  v23:=Tryz.zeroValue52
  t25:=Tryz.underlying3
  a25:=Tryz.isAgg3
  z25:=Tryz.sizeOf3
  v25:=Tryz.zeroValue3
  t32:=Tryz.underlying210
  a32:=Tryz.isAgg210
  z32:=Tryz.sizeOf210
  v32:=Tryz.zeroValue210
  t35:=Tryz.underlying245
  a35:=Tryz.isAgg245
  z35:=Tryz.sizeOf245
  v35:=Tryz.zeroValue245
  t36:=Tryz.underlying246
  a36:=Tryz.isAgg246
  z36:=Tryz.sizeOf246
  v36:=Tryz.zeroValue246
  t41:=Tryz.underlying251
  a41:=Tryz.isAgg251
  z41:=Tryz.sizeOf251
  v41:=Tryz.zeroValue251
  t44:=Tryz.underlying254
  a44:=Tryz.isAgg254
  z44:=Tryz.sizeOf254
  v44:=Tryz.zeroValue254
  t46:=Tryz.underlying256
  a46:=Tryz.isAgg256
  z46:=Tryz.sizeOf256
  v46:=Tryz.zeroValue256
  t53:=Tryz.underlying285
  a53:=Tryz.isAgg285
  z53:=Tryz.sizeOf285
  v53:=Tryz.zeroValue285
  t57:=Tryz.underlying289
  a57:=Tryz.isAgg289
  z57:=Tryz.sizeOf289
  v57:=Tryz.zeroValue289
  t63:=Tryz.underlying299
  a63:=Tryz.isAgg299
  z63:=Tryz.sizeOf299
  v63:=Tryz.zeroValue299
  t64:=Tryz.underlying300
  a64:=Tryz.isAgg300
  z64:=Tryz.sizeOf300
  v64:=Tryz.zeroValue300 }
open Go.Sort Go.RowKit Go.Proofs in
theorem Tryz.slices_Sort_int (blk off cap:Nat) (zs:List Int) (w:World) (hH:Holds (Value.int .i64) w blk off zs.toArray) (hblk:blk < w.heap.size) (hsz:zs.length < 4611686018427387904) :
    Calls Tryz.prog 94 #[.slice (some ⟨blk,off,none⟩) zs.length cap] w fun e w' =>
      e=.returned (.tuple #[])∧∃ n os,w'=grow (putRow (Value.int .i64) (Sort.ahead w n) blk off (zs.mergeSort fun x y=>decide (x≤y)).toArray) os:=AnyM.slices_Sort_int Tryz.laysSlM5_f94 blk off cap zs w hH hblk hsz
open Go.RowKit Go.Sort Go.Proofs in
theorem Tryz.slices_Sort_int_none (p:Option Addr) (cap:Nat) (w:World) :
    Calls Tryz.prog 94 #[.slice p 0 cap] w fun e w'=>e=.returned (.tuple #[])∧w'=w:=AnyM.slices_Sort_int_none Tryz.laysSlM5_f94 p cap w
end Go.Proofs.YtolgelipcgcbhaaGreat
namespace Go.Proofs.YtolgelipcgcbhaaGreat
open Go.Abs
open Nat (reduceAdd reduceSub reduceLT reduceLeDiff reduceMul reduceEqDiff)
set_option linter.unusedVariables false
set_option linter.unusedSimpArgs false
set_option maxHeartbeats 4000000
set_option maxRecDepth 100000
def c95:CF:=⟨61,(jo [jn 2] [0]
 (.seq (jo [jm 6 0,je 7 6,ju .lss 8 7 2] [0,8]
 (.cond (.t 8) (jo [jm 9 0,jm 2 9] [2]
 .ret)
 .skip))
 (.seq (jo [jc 3 1] [0,3]
 (.block 0 (.loop (.seq (jo [jm 10 3,jm 11 0,je 12 11,jt .lss 13 10 12] [0,3,13]
 (.cond (.t 13) .skip
 (.exit 0)))
 (.seq (.block 1 (.seq (.draw [jm 16 0,jm 17 3,ji 18 1 16 17,jl 19 18,jm 20 0,jm 21 3,ju .sub 22 21 1,ji 23 1 20 22,jl 24 23,jt .eql 25 19 24] [] [0,3,25])
 (.cond (.t 25) (jo [jm 26 0,jm 27 3,jw 28 (.subs 1 (.t 26) (.t 27)),jm 4 28] [0,3,4]
 (.seq (jo [jc 5 1] [0,3,4,5]
 (.block 2 (.loop (.seq (jo [jm 29 5,jm 30 4,je 31 30,jt .lss 32 29 31] [0,3,4,5,32]
 (.cond (.t 32) .skip
 (.exit 2)))
 (.seq (.block 3 (.seq (.draw [jm 35 4,jm 36 5,ji 37 1 35 36,jl 38 37,jm 39 4,jm 40 5,ju .sub 41 40 1,ji 42 1 39 41,jl 43 42,jt .neq 44 38 43] [] [0,3,4,5,44])
 (.cond (.t 44) (jo [jm 45 0,jm 46 3,jm 47 4,jm 48 5,ji 49 1 47 48,jl 50 49,ji 51 1 45 46,js 1 51 50] [0,3,4,5]
 (.ops [jm 52 3,ju .add 53 52 1,jm 3 53] [0,3,4,5]))
 .skip)))
 (.ops [jm 33 5,ju .add 34 33 1,jm 5 34] [0,3,4,5]))))))
 (jo [jm 54 0,jm 55 3,jw 56 (.subs 1 (.t 54) (.t 55)),⟨none,.clr 3 1 [.int .i64 0] (.t 56),none⟩] [0,3]
 (jo [jm 57 0,jm 58 3,jw 59 (.slice 1 (.t 57) none (some (.t 58))),jm 2 59] [2]
 .ret))))
 .skip)))
 (.ops [jm 14 3,ju .add 15 14 1,jm 3 15] [0,3]))))))
 (jo [jm 60 0,jm 2 60] [2]
 .ret)))),[.t 2]⟩
theorem k95:chkF Tryz.prog Tryz.f95 c95=true:=by kernel_rfl
def c36:CF:=⟨39,(jo [jx 1 37 4 0,jn 2,jc 3 0] [1]
 (jo [jn 4] [1,4]
 (.seq (jo [jf 9 0 1,jl 10 9,je 11 10,jc 12 0] [1,4,10,11,12]
 (.block 0 (.loop (jo [jt .lss 13 12 11] [1,4,10,11,12,13]
 (.seq (.cond (.t 13) .skip
 (.exit 0))
 (.seq (.block 1 (jo [ji 14 24 10 12,jk 15 24 14,jw 6 (.alloc 72 24 z24),js 24 6 15] [1,4,6,10,11,12]
 (.ops [jm 16 4,jf 17 3 6,jl 18 17,jw 19 (.bsl false 3 1 1 [.int .i64 0] [(0,1,(.t 18))]),jw 20 (.app 3 1 8 (.t 16) (.t 19)),jm 4 20] [1,4,10,11,12])))
 (.ops [ju .add 21 12 1,jm 12 21] [1,4,10,11,12])))))))
 (.seq (jo [jf 22 1 1,jl 23 22,je 24 23,jc 25 0] [4,23,24,25]
 (.block 2 (.loop (jo [jt .lss 26 25 24] [4,23,24,25,26]
 (.seq (.cond (.t 26) .skip
 (.exit 2))
 (.seq (.block 3 (jo [ji 27 5 23 25,jk 28 5 27,jw 8 (.alloc 64 5 [.int .i64 0,.int .i64 0,.int .i64 0,.int .i64 0,.int .i64 0]),js 5 8 28] [4,8,23,24,25]
 (.ops [jm 29 4,jf 30 1 8,jl 31 30,jw 32 (.bsl false 3 1 1 [.int .i64 0] [(0,1,(.t 31))]),jw 33 (.app 3 1 8 (.t 29) (.t 32)),jm 4 33] [4,23,24,25])))
 (.ops [ju .add 34 25 1,jm 25 34] [4,23,24,25])))))))
 (jo [jm 35 4,jy 36 94 [35]] [4]
 (jo [jm 37 4,jy 38 95 [37],jm 2 38,jc 3 0] [2,3]
 .ret)))))),[.t 2,.t 3]⟩
theorem k36:chkF Tryz.prog Tryz.f36 c36=true:=by kernel_rfl
theorem compI1_snoc (x:Int):∀ (r:List Int) (a:Int),compI1 a (r++[x])=if (r.getLast?).getD a=x then compI1 a r else compI1 a r++[x]
  | [],a=>by
    simp only [List.nil_append,compI1,List.getLast?_nil,Option.getD_none]
    by_cases h:a=x <;> simp [h]
  | b::r,a=>by
    have h:=compI1_snoc x r
    have e:((b::r).getLast?).getD a=(r.getLast?).getD b:=by
      cases r with
      | nil=>rfl
      | cons c s=>simp [List.getLast?_cons]
    rw [e]
    simp only [List.cons_append,compI1]
    by_cases hab:a=b
    · subst hab; rw [if_pos rfl,if_pos rfl,h]
    · rw [if_neg hab,if_neg hab,h]
      split <;> rfl
theorem compI_next {l:List Int} {j:Nat} (h0:0 < j) (hj:j < l.length):compI (l.take (j+1))=if l.getD (j - 1) 0=l.getD j 0 then compI (l.take j) else compI (l.take j)++[l.getD j 0]:=by
  cases l with
  | nil=>simp at hj
  | cons a r =>
    obtain ⟨i,rfl⟩:∃ i,j=i+1:=⟨j - 1,by omega⟩
    have hir:i < r.length:=by simpa using hj
    have e1:r.take (i+1)=r.take i++[r.getD i 0]:=by rw [List.take_add_one,getD_lt 0 hir]; rfl
    have e2:((r.take i).getLast?).getD a=(a::r).getD i 0:=by
      cases i with
      | zero=>rfl
      | succ i =>
        rw [List.take_add_one,getD_lt 0 (show i < r.length by omega)]
        simp
    rw [List.take_succ_cons,List.take_succ_cons]
    simp only [compI]
    rw [e1,compI1_snoc,e2]
    rfl
structure CmpS (l R:List Int) (k j:Nat):Prop where
  len:R.length=l.length
  pos:0 < k
  lt:k < j
  le:j≤l.length
  tk:R.take k=compI (l.take j)
  dr:R.drop (j - 1)=l.drop (j - 1)
theorem CmpS.get {l R:List Int} {k j:Nat} (h:CmpS l R k j) (i:Nat) (hi:j - 1≤i):R.getD i 0=l.getD i 0:=by
  have h1:(R.drop (j - 1))[i - (j - 1)]?=(l.drop (j - 1))[i - (j - 1)]?:=by rw [h.dr]
  rw [List.getElem?_drop,List.getElem?_drop,show j - 1+(i - (j - 1))=i by omega] at h1
  rw [List.getD_eq_getElem?_getD,List.getD_eq_getElem?_getD,h1]
theorem CmpS.drop1 {l R:List Int} {k j:Nat} (h:CmpS l R k j):R.drop j=l.drop j:=by
  have h1:(R.drop (j - 1)).drop 1=(l.drop (j - 1)).drop 1:=by rw [h.dr]
  have:=h.lt
  rw [List.drop_drop,List.drop_drop,show j - 1+1=j by omega] at h1
  exact h1
theorem CmpS.skip {l R:List Int} {k j:Nat} (h:CmpS l R k j) (hj:j < l.length) (e:l.getD (j - 1) 0=l.getD j 0):CmpS l R k (j+1) :=
  ⟨h.len,h.pos,by have:=h.lt; omega,hj,by rw [h.tk,compI_next (by have:=h.lt; omega) hj,if_pos e],by simpa using h.drop1⟩
theorem CmpS.keep {l R:List Int} {k j:Nat} (h:CmpS l R k j) (hj:j < l.length) (e:¬ l.getD (j - 1) 0=l.getD j 0):CmpS l (R.set k (l.getD j 0)) (k+1) (j+1):=by
  have hlt:=h.lt
  have hlen:=h.len
  refine ⟨by rw [List.length_set]; exact h.len,by omega,by omega,hj,?_,?_⟩
  · rw [List.take_add_one,List.getElem?_set_self (by omega),List.take_set_of_le (Nat.le_refl _),h.tk,compI_next (by omega) hj,if_neg e]; rfl
  · rw [Nat.add_sub_cancel,List.drop_set_of_lt (by omega)]; exact h.drop1
theorem CmpS.init {l:List Int} {k:Nat} (hk:0 < k) (hl:k < l.length) (h:compI (l.take k)=l.take k) (e:l.getD (k - 1) 0=l.getD k 0):CmpS l l k (k+1) :=
  ⟨rfl,hk,by omega,hl,by rw [compI_next hk hl,if_pos e,h],rfl⟩
theorem compact_does (σ:Sto) (f:Nat) (l:List Int) (hl:l.length < 9223372036854775808) (hf:σ.at f 0=some ⟨3,1,l.map (fun z=>[n z]),none⟩) :
    Does Tryz.prog 95 [.own f 0 l.length] σ (Left σ f (inS (compI l))):=by
  refine Does.of_body Tryz.call95 Tryz.func95 k95 (Nat.le_of_ble_eq_true rfl) ?_
  unfold c95
  by_cases h2:l.length < 2
  · have he:compI l=l:=by
      match l,h2 with
      | [],_=>rfl
      | [a],_=>rfl
    rw [he]
    refine AWPC.freeze1 (t:=0) (f:=f) (n:=l.length) (o:=⟨3,1,l.map (fun z=>[n z]),none⟩) rfl hf (by simp) (by simp) ?_
    ((refine Au ?_;repeat' first|exact True.intro|refine Cj.mk ?_ ?_)<;>intros<;>refine hD_ ?_)
    all_goals try (exfalso; omega)
    exact .mk [] rfl (by simp)
  · ((refine Ax @hf ?_;repeat' first|exact True.intro|refine Cj.mk ?_ ?_)<;>intros<;>refine hD_ ?_)
    all_goals try (exfalso; omega)
    refine AWPC.loopS (α:={ k:Nat // 0 < k∧k≤l.length∧compI (l.take k)=l.take k }) [3] (fun k=>[(3,n k.1)]) (fun k=>l.length - k.1) ⟨1,by omega,by omega,by cases l with | nil=>rfl | cons a r=>rfl⟩ ?_ ?_
    · (simp only [zN,zT,zV,zS,zU,vcC,lateX,ex,strp,binA,elems,cells,scalar,eqC,keyA,intsA,lookA,ofVs,mpOf,Nat.reduceBEq,reduceAdd,reduceSub,reduceLT,reduceLeDiff,reduceMul,reduceEqDiff,reduceIte]; try simp)
    · rintro ⟨k,hk0,hkl,hc⟩
      simp only at hk0 hkl hc ⊢
      by_cases hlt:k < l.length
      · have hs1:(l.map fun z:Int=>[n z]).getD k []=[n (l.getD k 0)]:=row (f:=fun z:Int=>[n z]) 0 hlt
        have hs0:(l.map fun z:Int=>[n z]).getD ((k:Int) - 1).toNat []=[n (l.getD (k - 1) 0)]:=rowPrev (f:=fun z:Int=>[n z]) 0 hlt
        by_cases e:l.getD (k - 1) 0=l.getD k 0
        · have hI:=CmpS.init hk0 hlt hc e
          rw [e] at hs0
          ((refine Ax (And.intro @hf (And.intro @hs1 @hs0)) ?_;repeat' first|exact True.intro|refine Cj.mk ?_ ?_)<;>intros<;>refine hD_ ?_)
          all_goals try (exfalso; omega)
          refine AWPC.loopE (α:={ x:Nat × Nat × List Int × Sto // 0 < x.2.1∧CmpS l x.2.2.1 x.1 (k+x.2.1) }) [3,5] (fun x=>[(3,n x.1.1),(5,n x.1.2.1)])
            (fun x=>σ.upd f 0 ⟨3,1,x.1.2.2.1.map (fun z=>[n z]),none⟩++x.1.2.2.2) (fun x=>l.length - k - x.1.2.1) ⟨(k,1,l,[]),Nat.one_pos,hI⟩ ?_ (by rw [upd_self hf,List.append_nil]) ?_
          · (simp only [zN,zT,zV,zS,zU,vcC,lateX,ex,strp,binA,elems,cells,scalar,eqC,keyA,intsA,lookA,ofVs,mpOf,Nat.reduceBEq,reduceAdd,reduceSub,reduceLT,reduceLeDiff,reduceMul,reduceEqDiff,reduceIte]; try simp)
          · rintro ⟨⟨i,j,R,μ⟩,hj0,hD⟩
            simp only at hj0 hD
            obtain ⟨U,hU⟩:∃ U,U=σ.upd f 0 ⟨3,1,R.map (fun z=>[n z]),none⟩:=⟨_,rfl⟩
            have hflt:=at_lt hf
            have hUl:List.length U=List.length σ:=by rw [hU,upd_length]
            have hA:∀ μ,Sto.at (U++μ) f 0=some ⟨3,1,R.map (fun z=>[n z]),none⟩:=fun μ=>by rw [at_appL (by omega),hU,at_upd_same hf]
            have hB:∀ o μ,Sto.upd (U++μ) f 0 o=σ.upd f 0 o++μ:=fun o μ=>by rw [upd_appL (by omega),hU,upd_upd hf]
            simp only [← hU]
            have hRl:=hD.len
            have hi1:=hD.lt
            by_cases hlt:k+j < l.length
            · have hr1:(R.map fun z:Int=>[n z]).getD (k+j) []=[n (R.getD (k+j) 0)]:=row (f:=fun z:Int=>[n z]) 0 (by omega)
              have hr0:(R.map fun z:Int=>[n z]).getD (k+((j:Int) - 1).toNat) []=[n (R.getD (k+j - 1) 0)]:=by
                rw [show k+((j:Int) - 1).toNat=k+j - 1 by omega]
                exact row (f:=fun z:Int=>[n z]) 0 (by omega)
              rw [hD.get _ (by omega)] at hr1 hr0
              have hw:IntKind.i64.wrap ((j:Int) - 1)=(j:Int) - 1:=by simp (disch:=omega) only [wr64,Int.zero_sub]
              have hsi:(R.map fun z:Int=>[n z]).getD i []=[n (R.getD i 0)]:=row (f:=fun z:Int=>[n z]) 0 (by omega)
              have hset:(R.map fun z:Int=>[n z]).set i [n (l.getD (k+j) 0)]=(R.set i (l.getD (k+j) 0)).map fun z:Int=>[n z]:=by rw [List.map_set]
              by_cases e:l.getD (k+j - 1) 0=l.getD (k+j) 0
              · have hN:=hD.skip hlt e
                rw [e] at hr0
                ((refine Ax (And.intro @hA (And.intro @hB (And.intro @hw (And.intro @hr1 (And.intro @hr0 @hRl))))) ?_;repeat' first|exact True.intro|refine Cj.mk ?_ ?_)<;>intros<;>refine hD_ ?_)
                all_goals try (exfalso; omega)
                exact ⟨⟨(i,j+1,R,μ),by simp,hN⟩,by simp,by simp [hU],by simp only; omega⟩
              · have hN:=hD.keep hlt e
                have e':¬ l.getD (k+j) 0=l.getD (k+j - 1) 0:=fun h=>e h.symm
                ((refine Ax (And.intro @hA (And.intro @hB (And.intro @hw (And.intro @hr1 (And.intro @hr0 (And.intro @hRl (And.intro @hsi (And.intro @hset @e')))))))) ?_;repeat' first|exact True.intro|refine Cj.mk ?_ ?_)<;>intros<;>refine hD_ ?_)
                all_goals try (exfalso; omega)
                exact ⟨⟨(i+1,j+1,R.set i (l.getD (k+j) 0),μ),by simp,hN⟩,by simp,by simp,by simp only; omega⟩
            · have hjl:k+j=l.length:=by have:=hD.le; omega
              have hnl:¬ ((j:Int) < (l.length:Int) - (k:Int)):=by omega
              ((first
 | refine vn rfl ?_
 | simp (disch:=omega) only [wr64,Int.zero_sub]
 | refine bo (fun _=>?_) fun _=>?_
 | refine im fun _=>?_
 | refine cF ?_
 | refine om ?_
 | refine an ?_
 | fail) <;> try simp only [zN, zT, zV, zS, zU, vcC, lateX, ex, strp, binA, elems, cells, scalar, eqC, keyA, intsA, lookA, ofVs, mpOf, Nat.reduceBEq, reduceAdd, reduceSub, reduceLT, reduceLeDiff, reduceMul, reduceEqDiff, reduceIte, hA, hRl, hnl, List.length_map])
              ((first
 | refine vn rfl ?_
 | simp (disch:=omega) only [wr64,Int.zero_sub]
 | refine bo (fun _=>?_) fun _=>?_
 | refine im fun _=>?_
 | refine cF ?_
 | refine om ?_
 | refine an ?_
 | fail) <;> try simp only [zN, zT, zV, zS, zU, vcC, lateX, ex, strp, binA, elems, cells, scalar, eqC, keyA, intsA, lookA, ofVs, mpOf, Nat.reduceBEq, reduceAdd, reduceSub, reduceLT, reduceLeDiff, reduceMul, reduceEqDiff, reduceIte, hA, hRl, hnl, List.length_map])
              ((first
 | refine vn rfl ?_
 | simp (disch:=omega) only [wr64,Int.zero_sub]
 | refine bo (fun _=>?_) fun _=>?_
 | refine im fun _=>?_
 | refine cF ?_
 | refine om ?_
 | refine an ?_
 | fail) <;> try simp only [zN, zT, zV, zS, zU, vcC, lateX, ex, strp, binA, elems, cells, scalar, eqC, keyA, intsA, lookA, ofVs, mpOf, Nat.reduceBEq, reduceAdd, reduceSub, reduceLT, reduceLeDiff, reduceMul, reduceEqDiff, reduceIte, hA, hRl, hnl, List.length_map])
              ((first
 | refine vn rfl ?_
 | simp (disch:=omega) only [wr64,Int.zero_sub]
 | refine bo (fun _=>?_) fun _=>?_
 | refine im fun _=>?_
 | refine cF ?_
 | refine om ?_
 | refine an ?_
 | fail) <;> try simp only [zN, zT, zV, zS, zU, vcC, lateX, ex, strp, binA, elems, cells, scalar, eqC, keyA, intsA, lookA, ofVs, mpOf, Nat.reduceBEq, reduceAdd, reduceSub, reduceLT, reduceLeDiff, reduceMul, reduceEqDiff, reduceIte, hA, hRl, hnl, List.length_map])
              ((first
 | refine vn rfl ?_
 | simp (disch:=omega) only [wr64,Int.zero_sub]
 | refine bo (fun _=>?_) fun _=>?_
 | refine im fun _=>?_
 | refine cF ?_
 | refine om ?_
 | refine an ?_
 | fail) <;> try simp only [zN, zT, zV, zS, zU, vcC, lateX, ex, strp, binA, elems, cells, scalar, eqC, keyA, intsA, lookA, ofVs, mpOf, Nat.reduceBEq, reduceAdd, reduceSub, reduceLT, reduceLeDiff, reduceMul, reduceEqDiff, reduceIte, hA, hB, hRl, List.length_map])
              have hm1:(List.take i (R.map fun z:Int=>[n z])).length=i:=by rw [List.length_take,List.length_map]; omega
              have hfin:R.take i=compI l:=by rw [hD.tk,hjl,List.take_length]
              refine AWPC.freeze1 (t:=0) (f:=f) (n:=l.length) (o:=⟨3,1,List.take i (R.map fun z=>[n z])++List.replicate (l.length - i) [n 0],none⟩) rfl (by rw [at_appL (by rw [upd_length]; omega),at_upd_same hf])
                (by simp only [List.length_append,hm1,List.length_replicate]; omega) (by simp) ?_
              have hlen2:((List.take i (R.map fun z:Int=>[n z])++List.replicate (l.length - i) [n 0]).length:Int)=l.length:=by simp only [List.length_append,hm1,List.length_replicate]; omega
              have htk2:List.take i (List.take i (R.map fun z:Int=>[n z])++List.replicate (l.length - i) [n 0])=(compI l).map fun z:Int=>[n z]:=by
                rw [List.take_append_of_le_length (by omega),List.take_take,Nat.min_self,← List.map_take,hfin]
              generalize List.take i (R.map fun z:Int=>[n z])++List.replicate (l.length - i) [n 0]=es at hlen2 htk2
              ((refine Ax (And.intro @hlen2 @htk2) ?_;repeat' first|exact True.intro|refine Cj.mk ?_ ?_)<;>intros<;>refine hD_ ?_)
              refine ⟨by simp [sideL,ov,gt,cnd],⟨by omega,by omega,by omega⟩,?_⟩
              ((refine Au ?_;repeat' first|exact True.intro|refine Cj.mk ?_ ?_)<;>intros<;>refine hD_ ?_)
              exact .mk μ rfl (gone_upd hf)
        · have e':¬ l.getD k 0=l.getD (k - 1) 0:=fun h=>e h.symm
          have hN:compI (l.take (k+1))=l.take (k+1):=by rw [compI_next hk0 hlt,if_neg e,hc,List.take_add_one,getD_lt 0 hlt]; rfl
          ((refine Ax (And.intro @hf (And.intro @hs1 (And.intro @hs0 @e'))) ?_;repeat' first|exact True.intro|refine Cj.mk ?_ ?_)<;>intros<;>refine hD_ ?_)
          all_goals try (exfalso; omega)
          exact ⟨⟨k+1,by omega,hlt,hN⟩,by simp,by simp only; omega⟩
      · obtain rfl:k=l.length:=by omega
        rw [List.take_length] at hc
        rw [hc]
        refine AWPC.freeze1 (t:=0) (f:=f) (n:=l.length) (o:=⟨3,1,l.map (fun z=>[n z]),none⟩) rfl hf (by simp) (by simp) ?_
        ((refine Au ?_;repeat' first|exact True.intro|refine Cj.mk ?_ ?_)<;>intros<;>refine hD_ ?_)
        all_goals try (exfalso; omega)
        exact .mk [] rfl (by simp)
theorem sortI_does (σ:Sto) (f:Nat) (l:List Int) (hf:σ.at f 0=some ⟨3,1,l.map (fun z=>[n z]),none⟩) (hl:l.length < 4611686018427387904) :
    Does Tryz.prog 94 [.own f 0 l.length] σ (fun _ σ'=>σ'=σ.upd f 0 ⟨3,1,(srtI l).map (fun z=>[n z]),none⟩) :=
  sort_ints Tryz.slices_Sort_int Tryz.slices_Sort_int_none Tryz.call94 σ f 3 l hf hl
theorem mapsnoc {α:Type} {g:α→Int} {l:List α} {i:Nat} (d:α) (h:i < l.length):(l.take (i+1)).map g=(l.take i).map g++[g (l.getD i d)]:=by rw [List.take_add_one,getD_lt d h]; simp
theorem Weeks_spec (r:Rgr) (hs:r.sheets.length < 1099511627776) (hr:r.reads.length < 1099511627776):Pure Tryz.prog 36 [.agg r.cs] (.tup [inS (weeksT r),n 0]):=by
  refine Pure.of_body Tryz.call36 Tryz.func36 k36 (Nat.le_of_ble_eq_true rfl) ?_
  unfold c36
  obtain ⟨d,hd⟩:∃ d:Fld,True:=⟨⟨nm0,0,0,sht0,[],[]⟩,trivial⟩
  ((refine Au ?_;repeat' first|exact True.intro|refine Cj.mk ?_ ?_)<;>intros<;>refine hD_ ?_)
  refine AWPC.own0 3 1 4 rfl ?_
  refine AWPC.loopE (α:={ x:Nat × List Int × Sto // x.1≤r.sheets.length∧x.2.1=(r.sheets.take x.1).map Fld.week }) [4,12] (fun x=>[(4,.own 0 0 x.1.2.1.length),(12,n x.1.1)])
    (fun x=>some [⟨3,1,x.1.2.1.map (fun z=>[n z]),none⟩]::x.1.2.2) (fun x=>r.sheets.length - x.1.1) ⟨(0,[],[]),Nat.zero_le _,rfl⟩ ?_ rfl ?_
  · (simp only [zN,zT,zV,zS,zU,vcC,lateX,ex,strp,binA,elems,cells,scalar,eqC,keyA,intsA,lookA,ofVs,mpOf,Nat.reduceBEq,reduceAdd,reduceSub,reduceLT,reduceLeDiff,reduceMul,reduceEqDiff,reduceIte]; try simp)
  · rintro ⟨⟨i,W,ν⟩,hi,hW⟩
    simp only at hi hW
    have hWl:W.length=i:=by rw [hW,List.length_map,List.length_take]; omega
    generalize hM:W.map (fun z=>[n z])=M
    have hMl:M.length=i:=by rw [← hM,List.length_map]; exact hWl
    simp only [hM]
    by_cases hlt:i < r.sheets.length
    · have hx:(r.sheets.map Fld.cs).getD i []=Fld.cs (r.sheets.getD i d):=row d hlt
      have hN:=mapsnoc (g:=Fld.week) d hlt
      rw [← hW] at hN
      generalize r.sheets.getD i d=x at hx hN
      ((refine Ax (And.intro @hx (And.intro @hMl @hWl)) ?_;repeat' first|exact True.intro|refine Cj.mk ?_ ?_)<;>intros<;>refine hD_ ?_)
      all_goals try (exfalso; omega)
      refine ⟨⟨(i+1,W++[x.week],ν++[some [⟨72,24,[x.cs],none⟩]]),hlt,hN.symm⟩,?_,?_,by simp only; omega⟩
      · simp [hWl]
      · simp [← hM]
    · obtain rfl:i=r.sheets.length:=by omega
      rw [List.take_length] at hW
      ((refine Ax @hWl ?_;repeat' first|exact True.intro|refine Cj.mk ?_ ?_)<;>intros<;>refine hD_ ?_)
      all_goals try (exfalso; omega)
      refine AWPC.loopE (α:={ x:Nat × List Int × Sto // x.1≤r.reads.length∧x.2.1=r.sheets.map Fld.week++(r.reads.take x.1).map Rd.week }) [4,25] (fun x=>[(4,.own 0 0 x.1.2.1.length),(25,n x.1.1)])
        (fun x=>some [⟨3,1,x.1.2.1.map (fun z=>[n z]),none⟩]::x.1.2.2) (fun x=>r.reads.length - x.1.1) ⟨(0,W,ν),Nat.zero_le _,by simp [hW]⟩ ?_ (by rw [← hM]) ?_
      · simp only [hWl]; (simp only [zN,zT,zV,zS,zU,vcC,lateX,ex,strp,binA,elems,cells,scalar,eqC,keyA,intsA,lookA,ofVs,mpOf,Nat.reduceBEq,reduceAdd,reduceSub,reduceLT,reduceLeDiff,reduceMul,reduceEqDiff,reduceIte]; try simp)
      · rintro ⟨⟨i,V,ν⟩,hi,hV⟩
        simp only at hi hV
        have hVl:V.length=r.sheets.length+i:=by rw [hV,List.length_append,List.length_map,List.length_map,List.length_take]; omega
        by_cases hlt:i < r.reads.length
        · generalize hM:V.map (fun z=>[n z])=M
          have hMl:M.length=r.sheets.length+i:=by rw [← hM,List.length_map]; exact hVl
          simp only [hM]
          have hx:(r.reads.map Rd.cs).getD i []=Rd.cs (r.reads.getD i rd0):=row rd0 hlt
          have hN:=mapsnoc (g:=Rd.week) rd0 hlt
          generalize r.reads.getD i rd0=x at hx hN
          ((refine Ax (And.intro @hx (And.intro @hMl @hVl)) ?_;repeat' first|exact True.intro|refine Cj.mk ?_ ?_)<;>intros<;>refine hD_ ?_)
          all_goals try (exfalso; omega)
          refine ⟨⟨(i+1,V++[x.week],ν++[some [⟨64,5,[x.cs],none⟩]]),hlt,by simp only; rw [hN,hV,List.append_assoc]⟩,?_,?_,by simp only; omega⟩
          · simp [hVl,Nat.add_assoc]
          · simp [← hM]
        · obtain rfl:i=r.reads.length:=by omega
          rw [List.take_length] at hV
          rw [show weeksT r=compI (srtI V) by rw [hV]; rfl]
          have hSl:(srtI V).length=V.length:=(srtI_perm V).length_eq
          ((refine Au ?_;repeat' first|exact True.intro|refine Cj.mk ?_ ?_)<;>intros<;>refine hD_ ?_)
          all_goals try (exfalso; omega)
          refine .inr (.inl ⟨_,_,_,_,rfl,fun _=>⟨sortI_does _ 0 V rfl (by omega),?_⟩,fun h=>by cases h⟩)
          rintro r1 σ1 rfl
          refine owp_of_exs ?_
          simp only [zN,zT,zV,zS,zU,vcC,lateX,ex,strp,binA,elems,cells,scalar,eqC,keyA,intsA,lookA,ofVs,mpOf,Nat.reduceBEq,reduceAdd,reduceSub,reduceLT,reduceLeDiff,reduceMul,reduceEqDiff,reduceIte]
          ((refine Au ?_;repeat' first|exact True.intro|refine Cj.mk ?_ ?_)<;>intros<;>refine hD_ ?_)
          refine .inr (.inl ⟨_,_,_,_,rfl,fun _=>⟨by rw [← hSl]; exact compact_does _ 0 (srtI V) (by omega) rfl,?_⟩,fun h=>by cases h⟩)
          rintro r1 σ1 ⟨ν1,rfl,rfl⟩
          refine owp_of_exs ?_
          simp only [zN,zT,zV,zS,zU,vcC,lateX,ex,strp,binA,elems,cells,scalar,eqC,keyA,intsA,lookA,ofVs,mpOf,Nat.reduceBEq,reduceAdd,reduceSub,reduceLT,reduceLeDiff,reduceMul,reduceEqDiff,reduceIte]
          ((refine Au ?_;repeat' first|exact True.intro|refine Cj.mk ?_ ?_)<;>intros<;>refine hD_ ?_)
          exact Frz.tupL ⟨Frz.pure (by simp),Frz.pure (by simp),trivial⟩
def c100:CF:=⟨10,(jo [jx 2 72 24 0,jx 3 72 24 1,jc 4 0] [2,3]
 (jo [jf 5 2 2,jl 6 5,jf 7 2 3,jl 8 7,jy 9 101 [6,8],jm 4 9] [4]
 .ret)),[.t 4]⟩
theorem k100:chkF Tryz.prog Tryz.f100 c100=true:=by kernel_rfl
def c213:CF:=⟨53,(jo [jm 10 1,ju .add 11 10 1,jm 8 11] [0,1,2,3,8]
 (.block 0 (.loop (.seq (jo [jm 12 8,jm 13 2,jt .lss 14 12 13] [0,1,2,3,8,14]
 (.cond (.t 14) .skip
 (.exit 0)))
 (.seq (.block 1 (jo [jm 17 8,jm 9 17] [0,1,2,3,8,9]
 (.block 2 (.loop (.seq (.seq (.draw [jm 18 9,jm 19 1,jt .gtr 20 18 19,jm 21 20,ja 21 (jm 22 3),ja 21 (jm 23 0),ja 21 (jm 24 9),ja 21 (ji 25 24 23 24),ja 21 (jk 26 24 25),ja 21 (jm 27 0),ja 21 (jm 28 9),ja 21 (ju .sub 29 28 1),ja 21 (ji 30 24 27 29),ja 21 (jk 31 24 30)] [⟨some 32,.call (.t 22) [(.t 26),(.t 31)],some (21,true)⟩,ja 21 (ju .lss 33 32 0),jp 34 21 33] [0,1,2,3,8,9,34])
 (.cond (.t 34) .skip
 (.exit 2)))
 (.seq (.block 3 (.draww [0,1,2,3,4,5,6,7,8,9,10,11,12,13,14,15,16,17] [2,3,4] 1 [jm 37 0,jm 38 9,jm 39 0,jm 40 9,ju .sub 41 40 1,jm 42 0,jm 43 9,ju .sub 44 43 1,ji 45 24 42 44,jk 46 24 45,jm 47 0,jm 48 9,ji 49 24 47 48,jk 50 24 49,ji 51 24 37 38] [js 24 51 46,ji 52 24 39 41,js 24 52 50] [0,1,2,3,8,9]))
 (.ops [jm 35 9,ju .sub 36 35 1,jm 9 36] [0,1,2,3,8,9])))))))
 (.ops [jm 15 8,ju .add 16 15 1,jm 8 16] [0,1,2,3,8])))))),[]⟩
theorem k213:chkF Tryz.prog Tryz.f213 c213=true:=by kernel_rfl
def c167:CF:=⟨63,(jo [jc 6 20] [0,1,2,6]
 (jo [jm 10 6,jc 7 0,jm 8 10] [0,1,2,6,7,8]
 (.seq (.block 0 (.loop (.seq (jo [jm 11 8,jm 12 1,jt .leq 13 11 12] [0,1,2,6,7,8,13]
 (.cond (.t 13) .skip
 (.exit 0)))
 (.block 1 (jo [jm 14 0,jm 15 7,jm 16 8,jm 17 2,jy 18 213 [14,15,16,17]] [0,1,2,6,8]
 (jo [jm 19 8,jm 7 19] [0,1,2,6,7,8]
 (.ops [jm 20 8,jm 21 6,jt .add 22 20 21,jm 8 22] [0,1,2,6,7,8])))))))
 (jo [jm 23 0,jm 24 7,jm 25 1,jm 26 2,jy 27 213 [23,24,25,26]] [0,1,2,6]
 (.block 2 (.loop (.seq (jo [jm 28 6,jm 29 1,jt .lss 30 28 29] [0,1,2,6,30]
 (.cond (.t 30) .skip
 (.exit 2)))
 (.block 3 (jo [jm 31 6,jw 32 (.bin .mul (.c (.int .i64 2)) (.t 31)),jc 7 0,jm 8 32] [0,1,2,6,7,8]
 (.seq (.block 4 (.loop (.seq (jo [jm 33 8,jm 34 1,jt .leq 35 33 34] [0,1,2,6,7,8,35]
 (.cond (.t 35) .skip
 (.exit 4)))
 (.block 5 (jo [jm 36 0,jm 37 7,jm 38 7,jm 39 6,jt .add 40 38 39,jm 41 8,jm 42 2,jy 43 214 [36,37,40,41,42]] [0,1,2,6,8]
 (jo [jm 44 8,jm 7 44] [0,1,2,6,7,8]
 (.ops [jm 45 8,jm 46 6,jw 47 (.bin .mul (.c (.int .i64 2)) (.t 46)),jt .add 48 45 47,jm 8 48] [0,1,2,6,7,8])))))))
 (.seq (jo [jm 49 7,jm 50 6,jt .add 51 49 50,jm 9 51] [0,1,2,6,7,9]
 (jo [jm 52 9,jm 53 1,jt .lss 54 52 53] [0,1,2,6,7,9,54]
 (.cond (.t 54) (.ops [jm 55 0,jm 56 7,jm 57 9,jm 58 1,jm 59 2,jy 60 214 [55,56,57,58,59]] [0,1,2,6])
 .skip)))
 (.ops [jm 61 6,ju .mul 62 61 2,jm 6 62] [0,1,2,6])))))))))))),[]⟩
theorem k167:chkF Tryz.prog Tryz.f167 c167=true:=by kernel_rfl
def c99:CF:=⟨9,(.ops [jm 4 0,jm 5 0,je 6 5,jm 7 1,jy 8 167 [4,6,7]] []),[]⟩
theorem k99:chkF Tryz.prog Tryz.f99 c99=true:=by kernel_rfl
def c37:CF:=⟨84,(jo [jx 3 26 6 0,jx 4 37 4 1,jw 6 (.alloc 86 9 [.slice none 0 0,.int .i64 0,.int .i64 0,.int .i64 0,.int .i64 0,.int .i64 0,.int .i64 0,.slice none 0 0,.slice none 0 0]),jc 7 0] [2,3,4,6]
 (.seq (jo [jk 14 6 3,jy 15 43 [14],jm 8 15] [2,3,4,6,8]
 (jo [jm 16 8,ju .neq 17 16 0] [2,3,4,6,8,17]
 (.cond (.t 17) (jo [jw 18 (.build [.slice none 0 0,.int .i64 0,.int .i64 0,.int .i64 0,.int .i64 0,.int .i64 0,.int .i64 0,.slice none 0 0,.slice none 0 0] []),jm 19 8,js 9 6 18,jm 7 19] [6,7]
 .ret)
 .skip)))
 (.seq (jo [jm 20 2,jw 21 (.call (.f 96) [(.t 20),(.c (.int .i64 0)),(.c (.int .i64 10000))]),jv 22 21] [2,3,4,6,22]
 (.cond (.t 22) (jo [jw 23 (.build [.slice none 0 0,.int .i64 0,.int .i64 0,.int .i64 0,.int .i64 0,.int .i64 0,.int .i64 0,.slice none 0 0,.slice none 0 0] []),js 9 6 23,jc 7 1] [6,7]
 .ret)
 .skip))
 (jo [jk 24 6 3,jm 25 2,jw 26 (.build [.slice none 0 0,.int .i64 0,.int .i64 0,.int .i64 0,.int .i64 0,.int .i64 0,.int .i64 0,.slice none 0 0,.slice none 0 0] [(0,6,(.t 24)),(6,1,(.t 25))]),jw 9 (.alloc 86 9 [.slice none 0 0,.int .i64 0,.int .i64 0,.int .i64 0,.int .i64 0,.int .i64 0,.int .i64 0,.slice none 0 0,.slice none 0 0]),js 9 9 26] [2,4,6,9]
 (jo [jf 27 2 4,jl 28 27,jy 29 97 [28],jf 30 0 9,jf 31 0 30,js 1 31 29] [2,4,6,9]
 (.seq (jo [jf 32 0 4,jl 33 32,je 34 33,jc 35 0] [2,4,6,9,33,34,35]
 (.block 0 (.loop (jo [jt .lss 36 35 34] [2,4,6,9,33,34,35,36]
 (.seq (.cond (.t 36) .skip
 (.exit 0))
 (.seq (.block 1 (jo [ji 37 24 33 35,jk 38 24 37,jw 11 (.alloc 72 24 z24),js 24 11 38] [2,4,6,9,11,33,34,35]
 (jo [jf 39 3 11,jl 40 39,jm 41 2,jt .eql 42 40 41] [2,4,6,9,11,33,34,35,42]
 (.cond (.t 42) (.draw [jf 43 7 9,jl 44 43,jk 45 24 11,jy 46 98 [45],jw 47 (.bsl false 72 24 1 z24 [(0,24,(.t 46))])] [jw 48 (.app 72 24 288 (.t 44) (.t 47)),jf 49 7 9,js 1 49 48] [2,4,6,9,33,34,35])
 .skip))))
 (.ops [ju .add 50 35 1,jm 35 50] [2,4,6,9,33,34,35])))))))
 (jo [jf 51 7 9,jl 52 51,jw 53 (.call (.f 99) [(.t 52),(.f 100)])] [2,4,6,9]
 (.seq (jo [jf 54 1 4,jl 55 54,je 56 55,jc 57 0] [2,6,9,55,56,57]
 (.block 2 (.loop (jo [jt .lss 58 57 56] [2,6,9,55,56,57,58]
 (.seq (.cond (.t 58) .skip
 (.exit 2))
 (.seq (.block 3 (jo [ji 59 5 55 57,jk 60 5 59,jw 13 (.alloc 64 5 [.int .i64 0,.int .i64 0,.int .i64 0,.int .i64 0,.int .i64 0]),js 5 13 60] [2,6,9,13,55,56,57]
 (jo [jf 61 1 13,jl 62 61,jm 63 2,jt .eql 64 62 63] [2,6,9,13,55,56,57,64]
 (.cond (.t 64) (.ops [jf 65 8 9,jl 66 65,jk 67 5 13,jw 68 (.bsl false 64 5 1 [.int .i64 0,.int .i64 0,.int .i64 0,.int .i64 0,.int .i64 0] [(0,5,(.t 67))]),jw 69 (.app 64 5 40 (.t 66) (.t 68)),jf 70 8 9,js 1 70 69] [2,6,9,55,56,57])
 .skip))))
 (.ops [ju .add 71 57 1,jm 57 71] [2,6,9,55,56,57])))))))
 (.seq (jo [jf 72 7 9,jl 73 72,je 74 73,ju .gtr 75 74 64,jm 76 75,jd 76 (jf 77 8 9),jd 76 (jl 78 77),jd 76 (je 79 78),jd 76 (ju .gtr 80 79 64),jq 81 76 80] [6,9,81]
 (.cond (.t 81) (jo [jw 82 (.build [.slice none 0 0,.int .i64 0,.int .i64 0,.int .i64 0,.int .i64 0,.int .i64 0,.int .i64 0,.slice none 0 0,.slice none 0 0] []),js 9 6 82,jc 7 2] [6,7]
 .ret)
 .skip))
 (jo [jk 83 9 9,js 9 6 83,jc 7 0] [6,7]
 .ret)))))))))),[.c 6 (some 9),.t 7]⟩
theorem k37:chkF Tryz.prog Tryz.f37 c37=true:=by kernel_rfl
theorem week1_spec (x y:Fld):Pure Tryz.prog 100 [.agg x.cs,.agg y.cs] (n (sgn x.stn y.stn)):=by
  refine Pure.of_body Tryz.call100 Tryz.func100 k100 (Nat.le_of_ble_eq_true rfl) ?_
  unfold c100
  ((refine Ay (Compare_spec x.stn y.stn) ?_;repeat' first|exact True.intro|refine Cj.mk ?_ ?_)<;>intros<;>refine hD_ ?_)
  exact Frz.eq rfl (by simp)
def SortF (K:List Fld→Prop):Prop:=∀ (σ:Sto) (f:Nat) (l:List Fld),K l→σ.at f 0=some ⟨72,24,l.map Fld.cs,none⟩ →
  Does Tryz.prog 99 [.own f 0 l.length,.fn (.func 100) [] []] σ (fun _ σ'=>σ'=σ.upd f 0 ⟨72,24,(srtF l).map Fld.cs,none⟩)
theorem insertion0 (σ:Sto) (f:Nat) (m:Nat) (hm:m≤1):Does Tryz.prog 213 [.own f 0 m,n 0,n m,.fn (.func 100) [] []] σ (fun _ σ'=>σ'=σ):=by
  refine Does.of_body Tryz.call213 Tryz.func213 k213 (Nat.le_of_ble_eq_true rfl) ?_
  unfold c213
  ((refine Au ?_;repeat' first|exact True.intro|refine Cj.mk ?_ ?_)<;>intros<;>refine hD_ ?_)
  refine AWPC.loopS (α:=Unit) [8] (fun _=>[(8,n 1)]) (fun _=>0) () ?_ ?_
  · (simp only [zN,zT,zV,zS,zU,vcC,lateX,ex,strp,binA,elems,cells,scalar,eqC,keyA,intsA,lookA,ofVs,mpOf,Nat.reduceBEq,reduceAdd,reduceSub,reduceLT,reduceLeDiff,reduceMul,reduceEqDiff,reduceIte]; try simp)
  · rintro ⟨⟩
    ((refine Au ?_;repeat' first|exact True.intro|refine Cj.mk ?_ ?_)<;>intros<;>refine hD_ ?_)
    all_goals first | (exfalso; omega) | rfl
theorem stable0 (σ:Sto) (f:Nat) (m:Nat) (hm:m≤1):Does Tryz.prog 167 [.own f 0 m,n m,.fn (.func 100) [] []] σ (fun _ σ'=>σ'=σ):=by
  refine Does.of_body Tryz.call167 Tryz.func167 k167 (Nat.le_of_ble_eq_true rfl) ?_
  unfold c167
  have hm1:¬ (20≤(m:Int)):=by omega
  have hm2:¬ (20 < (m:Int)):=by omega
  ((refine Au ?_;repeat' first|exact True.intro|refine Cj.mk ?_ ?_)<;>intros<;>refine hD_ ?_)
  refine AWPC.loopS (α:=Unit) [7,8] (fun _=>[(7,n 0),(8,n 20)]) (fun _=>0) () ?_ ?_
  · (simp only [zN,zT,zV,zS,zU,vcC,lateX,ex,strp,binA,elems,cells,scalar,eqC,keyA,intsA,lookA,ofVs,mpOf,Nat.reduceBEq,reduceAdd,reduceSub,reduceLT,reduceLeDiff,reduceMul,reduceEqDiff,reduceIte]; try simp)
  · rintro ⟨⟩
    ((refine Ax @hm1 ?_;repeat' first|exact True.intro|refine Cj.mk ?_ ?_)<;>intros<;>refine hD_ ?_)
    all_goals try (exfalso; omega)
    refine .inr (.inl ⟨_,_,_,_,rfl,fun _=>⟨insertion0 σ f m hm,?_⟩,fun h=>by cases h⟩)
    rintro r σ' rfl
    refine owp_of_exs ?_
    simp only [zN,zT,zV,zS,zU,vcC,lateX,ex,strp,binA,elems,cells,scalar,eqC,keyA,intsA,lookA,ofVs,mpOf,Nat.reduceBEq,reduceAdd,reduceSub,reduceLT,reduceLeDiff,reduceMul,reduceEqDiff,reduceIte]
    ((refine Au ?_;repeat' first|exact True.intro|refine Cj.mk ?_ ?_)<;>intros<;>refine hD_ ?_)
    refine AWPC.loopS (α:=Unit) [6] (fun _=>[(6,n 20)]) (fun _=>0) () ?_ ?_
    · (simp only [zN,zT,zV,zS,zU,vcC,lateX,ex,strp,binA,elems,cells,scalar,eqC,keyA,intsA,lookA,ofVs,mpOf,Nat.reduceBEq,reduceAdd,reduceSub,reduceLT,reduceLeDiff,reduceMul,reduceEqDiff,reduceIte]; try simp)
    · rintro ⟨⟩
      ((refine Ax @hm2 ?_;repeat' first|exact True.intro|refine Cj.mk ?_ ?_)<;>intros<;>refine hD_ ?_)
      all_goals first | (exfalso; omega) | rfl
theorem srtF_few {l:List Fld} (h:l.length≤1):srtF l=l:=by
  cases l with
  | nil=>rfl
  | cons a r=>cases r with
    | nil=>rfl
    | cons x r=>simp only [List.length_cons] at h; omega
theorem sortF0:SortF fun l=>l.length≤1:=fun σ f l hl hf=>by
  refine Does.of_body Tryz.call99 Tryz.func99 k99 (Nat.le_of_ble_eq_true rfl) ?_
  unfold c99
  ((refine Ax @hf ?_;repeat' first|exact True.intro|refine Cj.mk ?_ ?_)<;>intros<;>refine hD_ ?_)
  refine .inr (.inl ⟨_,_,_,_,rfl,fun _=>⟨stable0 σ f _ hl,?_⟩,fun h=>by cases h⟩)
  rintro r σ' rfl
  refine owp_of_exs ?_
  simp only [zN,zT,zV,zS,zU,vcC,lateX,ex,strp,binA,elems,cells,scalar,eqC,keyA,intsA,lookA,ofVs,mpOf,Nat.reduceBEq,reduceAdd,reduceSub,reduceLT,reduceLeDiff,reduceMul,reduceEqDiff,reduceIte]
  rw [srtF_few hl]
  exact (upd_self hf).symm
theorem insF_perm (a:Fld):∀ l,(insF a l).Perm (a::l)
  | []=>.refl _
  | x::r=>by
    unfold insF
    split
    · exact .refl _
    · exact ((insF_perm a r).cons x).trans (.swap a x r)
theorem srtF_perm (l:List Fld):(srtF l).Perm l:=by
  have:∀ (l o:List Fld),(l.foldl (fun o a=>insF a o) o).Perm (l++o):=by
    intro l
    induction l with
    | nil=>exact fun o=>.refl _
    | cons a r ih=>exact fun o=>(ih _).trans (((insF_perm a o).append_left r).trans List.perm_middle)
  have:=this l []
  rwa [List.append_nil] at this
theorem WeekOf_of {K:List Fld→Prop} (hK:SortF K) (b:Bse) (hb:bseSz b) (r:Rgr) (w:Int) (hs:K (r.sheets.filter fun f=>f.week == w)) (hl:r.stns.length * 48≤140737488355328) (hh:∀ s∈r.stns,s.heights.length * 24≤140737488355328)
    (hfl:∀ f∈r.sheets,fldC f) (h1:r.sheets.length < 274877906944) (h2:r.reads.length < 1099511627776) :
    Pure Tryz.prog 37 [.agg b.cs,.agg r.cs,n w] (.tup [.agg (weekE b r w).1.cs,n (weekE b r w).2]):=by
  refine Pure.of_body Tryz.call37 Tryz.func37 k37 (Nat.le_of_ble_eq_true rfl) ?_
  unfold c37
  have hcb:=CheckBase_spec b hb
  by_cases hbok:b.ok
  · rw [if_pos hbok] at hcb
    by_cases hw:inr w 0 10000
    · simp only [inr] at hw
      ((first
 | refine vn rfl ?_
 | simp (disch:=omega) only [wr64,Int.zero_sub]
 | refine bo (fun _=>?_) fun _=>?_
 | refine im fun _=>?_
 | ((repeat refine si ?_); (first | ((first | refine .inl ⟨_,_,_,_,rfl,fun _=>pu (by first | exact hcb | exact within_a w 0 10000),?_⟩ | refine ⟨_,_,_,_,rfl,fun _=>pu (by first | exact hcb | exact within_a w 0 10000),?_⟩); (first | refine o1 ?_ | refine o2 ?_ | refine o3 ?_ | refine o4 ?_)) | refine .inl ⟨_,_,_,_,rfl,pu (by first | exact hcb | exact within_a w 0 10000),?_⟩))
 | refine cF ?_
 | refine om ?_
 | refine an ?_
 | fail) <;> try simp only [zN,zT,zV,zS,zU,vcC,lateX,ex,strp,binA,elems,cells,scalar,eqC,keyA,intsA,lookA,ofVs,mpOf,Nat.reduceBEq,reduceAdd,reduceSub,reduceLT,reduceLeDiff,reduceMul,reduceEqDiff,reduceIte])
      ((first
 | refine vn rfl ?_
 | simp (disch:=omega) only [wr64,Int.zero_sub]
 | refine bo (fun _=>?_) fun _=>?_
 | refine im fun _=>?_
 | ((repeat refine si ?_); (first | ((first | refine .inl ⟨_,_,_,_,rfl,fun _=>pu (by first | exact hcb | exact within_a w 0 10000),?_⟩ | refine ⟨_,_,_,_,rfl,fun _=>pu (by first | exact hcb | exact within_a w 0 10000),?_⟩); (first | refine o1 ?_ | refine o2 ?_ | refine o3 ?_ | refine o4 ?_)) | refine .inl ⟨_,_,_,_,rfl,pu (by first | exact hcb | exact within_a w 0 10000),?_⟩))
 | refine cF ?_
 | refine om ?_
 | refine an ?_
 | fail) <;> try simp only [zN,zT,zV,zS,zU,vcC,lateX,ex,strp,binA,elems,cells,scalar,eqC,keyA,intsA,lookA,ofVs,mpOf,Nat.reduceBEq,reduceAdd,reduceSub,reduceLT,reduceLeDiff,reduceMul,reduceEqDiff,reduceIte])
      ((first
 | refine vn rfl ?_
 | simp (disch:=omega) only [wr64,Int.zero_sub]
 | refine bo (fun _=>?_) fun _=>?_
 | refine im fun _=>?_
 | ((repeat refine si ?_); (first | ((first | refine .inl ⟨_,_,_,_,rfl,fun _=>pu (by first | exact hcb | exact within_a w 0 10000),?_⟩ | refine ⟨_,_,_,_,rfl,fun _=>pu (by first | exact hcb | exact within_a w 0 10000),?_⟩); (first | refine o1 ?_ | refine o2 ?_ | refine o3 ?_ | refine o4 ?_)) | refine .inl ⟨_,_,_,_,rfl,pu (by first | exact hcb | exact within_a w 0 10000),?_⟩))
 | refine cF ?_
 | refine om ?_
 | refine an ?_
 | fail) <;> try simp only [zN,zT,zV,zS,zU,vcC,lateX,ex,strp,binA,elems,cells,scalar,eqC,keyA,intsA,lookA,ofVs,mpOf,Nat.reduceBEq,reduceAdd,reduceSub,reduceLT,reduceLeDiff,reduceMul,reduceEqDiff,reduceIte])
      ((first
 | refine vn rfl ?_
 | simp (disch:=omega) only [wr64,Int.zero_sub]
 | refine bo (fun _=>?_) fun _=>?_
 | refine im fun _=>?_
 | ((repeat refine si ?_); (first | ((first | refine .inl ⟨_,_,_,_,rfl,fun _=>pu (by first | exact hcb | exact within_a w 0 10000),?_⟩ | refine ⟨_,_,_,_,rfl,fun _=>pu (by first | exact hcb | exact within_a w 0 10000),?_⟩); (first | refine o1 ?_ | refine o2 ?_ | refine o3 ?_ | refine o4 ?_)) | refine .inl ⟨_,_,_,_,rfl,pu (by first | exact hcb | exact within_a w 0 10000),?_⟩))
 | refine cF ?_
 | refine om ?_
 | refine an ?_
 | fail) <;> try simp only [zN,zT,zV,zS,zU,vcC,lateX,ex,strp,binA,elems,cells,scalar,eqC,keyA,intsA,lookA,ofVs,mpOf,Nat.reduceBEq,reduceAdd,reduceSub,reduceLT,reduceLeDiff,reduceMul,reduceEqDiff,reduceIte])
      ((first
 | refine vn rfl ?_
 | simp (disch:=omega) only [wr64,Int.zero_sub]
 | refine bo (fun _=>?_) fun _=>?_
 | refine im fun _=>?_
 | ((repeat refine si ?_); (first | ((first | refine .inl ⟨_,_,_,_,rfl,fun _=>pu (by first | exact hcb | exact within_a w 0 10000),?_⟩ | refine ⟨_,_,_,_,rfl,fun _=>pu (by first | exact hcb | exact within_a w 0 10000),?_⟩); (first | refine o1 ?_ | refine o2 ?_ | refine o3 ?_ | refine o4 ?_)) | refine .inl ⟨_,_,_,_,rfl,pu (by first | exact hcb | exact within_a w 0 10000),?_⟩))
 | refine cF ?_
 | refine om ?_
 | refine an ?_
 | fail) <;> try simp only [zN,zT,zV,zS,zU,vcC,lateX,ex,strp,binA,elems,cells,scalar,eqC,keyA,intsA,lookA,ofVs,mpOf,Nat.reduceBEq,reduceAdd,reduceSub,reduceLT,reduceLeDiff,reduceMul,reduceEqDiff,reduceIte])
      ((first
 | refine vn rfl ?_
 | simp (disch:=omega) only [wr64,Int.zero_sub]
 | refine bo (fun _=>?_) fun _=>?_
 | refine im fun _=>?_
 | ((repeat refine si ?_); (first | ((first | refine .inl ⟨_,_,_,_,rfl,fun _=>pu (by first | exact hcb | exact within_a w 0 10000),?_⟩ | refine ⟨_,_,_,_,rfl,fun _=>pu (by first | exact hcb | exact within_a w 0 10000),?_⟩); (first | refine o1 ?_ | refine o2 ?_ | refine o3 ?_ | refine o4 ?_)) | refine .inl ⟨_,_,_,_,rfl,pu (by first | exact hcb | exact within_a w 0 10000),?_⟩))
 | refine cF ?_
 | refine om ?_
 | refine an ?_
 | fail) <;> try simp only [zN,zT,zV,zS,zU,vcC,lateX,ex,strp,binA,elems,cells,scalar,eqC,keyA,intsA,lookA,ofVs,mpOf,Nat.reduceBEq,reduceAdd,reduceSub,reduceLT,reduceLeDiff,reduceMul,reduceEqDiff,reduceIte])
      ((first
 | refine vn rfl ?_
 | simp (disch:=omega) only [wr64,Int.zero_sub]
 | refine bo (fun _=>?_) fun _=>?_
 | refine im fun _=>?_
 | ((repeat refine si ?_); (first | ((first | refine .inl ⟨_,_,_,_,rfl,fun _=>pu (by first | exact hcb | exact within_a w 0 10000),?_⟩ | refine ⟨_,_,_,_,rfl,fun _=>pu (by first | exact hcb | exact within_a w 0 10000),?_⟩); (first | refine o1 ?_ | refine o2 ?_ | refine o3 ?_ | refine o4 ?_)) | refine .inl ⟨_,_,_,_,rfl,pu (by first | exact hcb | exact within_a w 0 10000),?_⟩))
 | refine cF ?_
 | refine om ?_
 | refine an ?_
 | fail) <;> try simp only [zN,zT,zV,zS,zU,vcC,lateX,ex,strp,binA,elems,cells,scalar,eqC,keyA,intsA,lookA,ofVs,mpOf,Nat.reduceBEq,reduceAdd,reduceSub,reduceLT,reduceLeDiff,reduceMul,reduceEqDiff,reduceIte])
      ((first
 | refine vn rfl ?_
 | simp (disch:=omega) only [wr64,Int.zero_sub]
 | refine bo (fun _=>?_) fun _=>?_
 | refine im fun _=>?_
 | ((repeat refine si ?_); (first | ((first | refine .inl ⟨_,_,_,_,rfl,fun _=>pu (by first | exact hcb | exact within_a w 0 10000),?_⟩ | refine ⟨_,_,_,_,rfl,fun _=>pu (by first | exact hcb | exact within_a w 0 10000),?_⟩); (first | refine o1 ?_ | refine o2 ?_ | refine o3 ?_ | refine o4 ?_)) | refine .inl ⟨_,_,_,_,rfl,pu (by first | exact hcb | exact within_a w 0 10000),?_⟩))
 | refine cF ?_
 | refine om ?_
 | refine an ?_
 | fail) <;> try simp only [zN,zT,zV,zS,zU,vcC,lateX,ex,strp,binA,elems,cells,scalar,eqC,keyA,intsA,lookA,ofVs,mpOf,Nat.reduceBEq,reduceAdd,reduceSub,reduceLT,reduceLeDiff,reduceMul,reduceEqDiff,reduceIte])
      ((first
 | refine vn rfl ?_
 | simp (disch:=omega) only [wr64,Int.zero_sub]
 | refine bo (fun _=>?_) fun _=>?_
 | refine im fun _=>?_
 | ((repeat refine si ?_); (first | ((first | refine .inl ⟨_,_,_,_,rfl,fun _=>pu (by first | exact hcb | exact within_a w 0 10000),?_⟩ | refine ⟨_,_,_,_,rfl,fun _=>pu (by first | exact hcb | exact within_a w 0 10000),?_⟩); (first | refine o1 ?_ | refine o2 ?_ | refine o3 ?_ | refine o4 ?_)) | refine .inl ⟨_,_,_,_,rfl,pu (by first | exact hcb | exact within_a w 0 10000),?_⟩))
 | refine cF ?_
 | refine om ?_
 | refine an ?_
 | fail) <;> try simp only [zN,zT,zV,zS,zU,vcC,lateX,ex,strp,binA,elems,cells,scalar,eqC,keyA,intsA,lookA,ofVs,mpOf,Nat.reduceBEq,reduceAdd,reduceSub,reduceLT,reduceLeDiff,reduceMul,reduceEqDiff,reduceIte])
      ((first
 | refine vn rfl ?_
 | simp (disch:=omega) only [wr64,Int.zero_sub]
 | refine bo (fun _=>?_) fun _=>?_
 | refine im fun _=>?_
 | ((repeat refine si ?_); (first | ((first | refine .inl ⟨_,_,_,_,rfl,fun _=>pu (by first | exact hcb | exact within_a w 0 10000),?_⟩ | refine ⟨_,_,_,_,rfl,fun _=>pu (by first | exact hcb | exact within_a w 0 10000),?_⟩); (first | refine o1 ?_ | refine o2 ?_ | refine o3 ?_ | refine o4 ?_)) | refine .inl ⟨_,_,_,_,rfl,pu (by first | exact hcb | exact within_a w 0 10000),?_⟩))
 | refine cF ?_
 | refine om ?_
 | refine an ?_
 | fail) <;> try simp only [zN,zT,zV,zS,zU,vcC,lateX,ex,strp,binA,elems,cells,scalar,eqC,keyA,intsA,lookA,ofVs,mpOf,Nat.reduceBEq,reduceAdd,reduceSub,reduceLT,reduceLeDiff,reduceMul,reduceEqDiff,reduceIte])
      all_goals try (exfalso; omega)
      ((first
 | refine vn rfl ?_
 | simp (disch:=omega) only [wr64,Int.zero_sub]
 | refine bo (fun _=>?_) fun _=>?_
 | refine im fun _=>?_
 | ((repeat refine si ?_); (first | ((first | refine .inl ⟨_,_,_,_,rfl,fun _=>pu (by first | exact hcb | exact within_a w 0 10000),?_⟩ | refine ⟨_,_,_,_,rfl,fun _=>pu (by first | exact hcb | exact within_a w 0 10000),?_⟩); (first | refine o1 ?_ | refine o2 ?_ | refine o3 ?_ | refine o4 ?_)) | refine .inl ⟨_,_,_,_,rfl,pu (by first | exact hcb | exact within_a w 0 10000),?_⟩))
 | refine cF ?_
 | refine om ?_
 | refine an ?_
 | fail) <;> try simp only [zN,zT,zV,zS,zU,vcC,lateX,ex,strp,binA,elems,cells,scalar,eqC,keyA,intsA,lookA,ofVs,mpOf,Nat.reduceBEq,reduceAdd,reduceSub,reduceLT,reduceLeDiff,reduceMul,reduceEqDiff,reduceIte])
      ((first
 | refine vn rfl ?_
 | simp (disch:=omega) only [wr64,Int.zero_sub]
 | refine bo (fun _=>?_) fun _=>?_
 | refine im fun _=>?_
 | ((repeat refine si ?_); (first | ((first | refine .inl ⟨_,_,_,_,rfl,fun _=>pu (by first | exact hcb | exact within_a w 0 10000),?_⟩ | refine ⟨_,_,_,_,rfl,fun _=>pu (by first | exact hcb | exact within_a w 0 10000),?_⟩); (first | refine o1 ?_ | refine o2 ?_ | refine o3 ?_ | refine o4 ?_)) | refine .inl ⟨_,_,_,_,rfl,pu (by first | exact hcb | exact within_a w 0 10000),?_⟩))
 | refine cF ?_
 | refine om ?_
 | refine an ?_
 | fail) <;> try simp only [zN,zT,zV,zS,zU,vcC,lateX,ex,strp,binA,elems,cells,scalar,eqC,keyA,intsA,lookA,ofVs,mpOf,Nat.reduceBEq,reduceAdd,reduceSub,reduceLT,reduceLeDiff,reduceMul,reduceEqDiff,reduceIte])
      refine AWPC.own0c 72 24 (f:=1) (i:=0) (e:=0) (j:=7) rfl (by simp) rfl ?_
      refine AWPC.own0c 64 5 (f:=1) (i:=0) (e:=0) (j:=8) rfl (by simp) rfl ?_
      refine AWPC.sto (σ':=[some [⟨86,9,[[.v (.slice none 0 0),n 0,n 0,n 0,n 0,n 0,n 0,.v (.slice none 0 0),.v (.slice none 0 0)]],none⟩],some [⟨86,9,[[snS b.stns,n b.fixed,n b.each,n b.term,n b.ticks,n b.clerks,n w,.own 2 0 0,.own 3 0 0]],none⟩],some [⟨72,24,[],none⟩],some [⟨64,5,[],none⟩]]) rfl ?_
      ((refine Au ?_;repeat' first|exact True.intro|refine Cj.mk ?_ ?_)<;>intros<;>refine hD_ ?_)
      refine .inr (.inl ⟨_,_,_,_,rfl,fun _=>⟨copiedStations_does r.stns hl hh _,?_⟩,fun h=>by cases h⟩)
      rintro r1 σ1 ⟨ν,rfl,rfl⟩
      refine owp_of_exs ?_
      simp only [zN,zT,zV,zS,zU,vcC,lateX,ex,strp,binA,elems,cells,scalar,eqC,keyA,intsA,lookA,ofVs,mpOf,Nat.reduceBEq,reduceAdd,reduceSub,reduceLT,reduceLeDiff,reduceMul,reduceEqDiff,reduceIte,List.length_map]
      ((refine Au ?_;repeat' first|exact True.intro|refine Cj.mk ?_ ?_)<;>intros<;>refine hD_ ?_)
      refine AWPC.loopE (α:={ x:Nat × List Fld × Sto // x.1≤r.sheets.length∧x.2.1=(r.sheets.take x.1).filter fun f=>f.week == w }) [35] (fun x=>[(35,n x.1.1)])
        (fun x=>some [⟨86,9,[[.v (.slice none 0 0),n 0,n 0,n 0,n 0,n 0,n 0,.v (.slice none 0 0),.v (.slice none 0 0)]],none⟩]::some [⟨86,9,[[.own 4 0 r.stns.length,n b.fixed,n b.each,n b.term,n b.ticks,n b.clerks,n w,.own 2 0 x.1.2.1.length,.own 3 0 0]],none⟩]::some [⟨72,24,x.1.2.1.map Fld.cs,none⟩]::some [⟨64,5,[],none⟩]::some [⟨109,4,r.stns.map Stn.cs,none⟩]::x.1.2.2)
        (fun x=>r.sheets.length - x.1.1) ⟨(0,[],ν),Nat.zero_le _,rfl⟩ ?_ rfl ?_
      · (simp only [zN,zT,zV,zS,zU,vcC,lateX,ex,strp,binA,elems,cells,scalar,eqC,keyA,intsA,lookA,ofVs,mpOf,Nat.reduceBEq,reduceAdd,reduceSub,reduceLT,reduceLeDiff,reduceMul,reduceEqDiff,reduceIte]; try simp)
      · rintro ⟨⟨i,S,μ⟩,hi,hS⟩
        simp only at hi hS
        obtain ⟨d,hd⟩:∃ d:Fld,True:=⟨⟨nm0,0,0,sht0,[],[]⟩,trivial⟩
        have hSl:S.length≤r.sheets.length:=by rw [hS]; exact Nat.le_trans (List.length_filter_le _ _) (by rw [List.length_take]; omega)
        by_cases hlt:i < r.sheets.length
        · generalize hM:S.map Fld.cs=M
          have hMl:M.length=S.length:=by rw [← hM,List.length_map]
          have hx:(r.sheets.map Fld.cs).getD i []=Fld.cs (r.sheets.getD i d):=row d hlt
          have hN:=filter_next (q:=fun f:Fld=>f.week == w) (getD_lt d hlt)
          rw [← hS] at hN
          have hcf:=copiedFiled_spec (r.sheets.getD i d) (hfl _ (List.mem_of_getElem? (getD_lt d hlt)))
          generalize r.sheets.getD i d=x at hx hN hcf
          by_cases hxw:x.week=w
          · rw [show (x.week == w)=true by simp [hxw],if_pos rfl] at hN
            ((refine Az (And.intro @hx (And.intro @hMl @hxw)) @hcf ?_;repeat' first|exact True.intro|refine Cj.mk ?_ ?_)<;>intros<;>refine hD_ ?_)
            all_goals try (exfalso; omega)
            refine ⟨⟨(i+1,S++[x],μ++[some [⟨72,24,[x.cs],none⟩]]),hlt,hN.symm⟩,by simp,?_,by simp only; omega⟩
            simp [← hM]
          · rw [show (x.week == w)=false by simp [hxw],if_neg (by decide)] at hN
            ((refine Az (And.intro @hx (And.intro @hMl @hxw)) @hcf ?_;repeat' first|exact True.intro|refine Cj.mk ?_ ?_)<;>intros<;>refine hD_ ?_)
            all_goals try (exfalso; omega)
            refine ⟨⟨(i+1,S,μ++[some [⟨72,24,[x.cs],none⟩]]),hlt,hN.symm⟩,by simp,?_,by simp only; omega⟩
            simp [← hM]
        · obtain rfl:i=r.sheets.length:=by omega
          rw [List.take_length] at hS
          ((refine Au ?_;repeat' first|exact True.intro|refine Cj.mk ?_ ?_)<;>intros<;>refine hD_ ?_)
          all_goals try (exfalso; omega)
          refine .inr (.inl ⟨_,_,_,_,rfl,fun _=>⟨hK _ 2 S (by rw [hS]; exact hs) rfl,?_⟩,fun h=>by cases h⟩)
          rintro r1 σ1 rfl
          refine owp_of_exs ?_
          have hsp:(srtF S).length=S.length:=(srtF_perm S).length_eq
          simp only [zN,zT,zV,zS,zU,vcC,lateX,ex,strp,binA,elems,cells,scalar,eqC,keyA,intsA,lookA,ofVs,mpOf,Nat.reduceBEq,reduceAdd,reduceSub,reduceLT,reduceLeDiff,reduceMul,reduceEqDiff,reduceIte]
          generalize hT:srtF S=T at hsp
          rw [← hsp]
          rw [← hsp] at hSl
          ((refine Au ?_;repeat' first|exact True.intro|refine Cj.mk ?_ ?_)<;>intros<;>refine hD_ ?_)
          refine AWPC.loopE (α:={ x:Nat × List Rd × Sto // x.1≤r.reads.length∧x.2.1=(r.reads.take x.1).filter fun f=>f.week == w }) [57] (fun x=>[(57,n x.1.1)])
            (fun x=>some [⟨86,9,[[.v (.slice none 0 0),n 0,n 0,n 0,n 0,n 0,n 0,.v (.slice none 0 0),.v (.slice none 0 0)]],none⟩]::some [⟨86,9,[[.own 4 0 r.stns.length,n b.fixed,n b.each,n b.term,n b.ticks,n b.clerks,n w,.own 2 0 T.length,.own 3 0 x.1.2.1.length]],none⟩]::some [⟨72,24,T.map Fld.cs,none⟩]::some [⟨64,5,x.1.2.1.map Rd.cs,none⟩]::some [⟨109,4,r.stns.map Stn.cs,none⟩]::x.1.2.2)
            (fun x=>r.reads.length - x.1.1) ⟨(0,[],μ),Nat.zero_le _,rfl⟩ ?_ rfl ?_
          · (simp only [zN,zT,zV,zS,zU,vcC,lateX,ex,strp,binA,elems,cells,scalar,eqC,keyA,intsA,lookA,ofVs,mpOf,Nat.reduceBEq,reduceAdd,reduceSub,reduceLT,reduceLeDiff,reduceMul,reduceEqDiff,reduceIte]; try simp)
          · rintro ⟨⟨i,R,μ⟩,hi,hR⟩
            simp only at hi hR
            have hRl:R.length≤r.reads.length:=by rw [hR]; exact Nat.le_trans (List.length_filter_le _ _) (by rw [List.length_take]; omega)
            by_cases hlt:i < r.reads.length
            · generalize hM:R.map Rd.cs=M
              have hMl:M.length=R.length:=by rw [← hM,List.length_map]
              have hx:(r.reads.map Rd.cs).getD i []=Rd.cs (r.reads.getD i rd0):=row rd0 hlt
              have hN:=filter_next (q:=fun f:Rd=>f.week == w) (getD_lt rd0 hlt)
              rw [← hR] at hN
              generalize r.reads.getD i rd0=x at hx hN
              by_cases hxw:x.week=w
              · rw [show (x.week == w)=true by simp [hxw],if_pos rfl] at hN
                ((refine Ax (And.intro @hx (And.intro @hMl @hxw)) ?_;repeat' first|exact True.intro|refine Cj.mk ?_ ?_)<;>intros<;>refine hD_ ?_)
                all_goals try (exfalso; omega)
                refine ⟨⟨(i+1,R++[x],μ++[some [⟨64,5,[x.cs],none⟩]]),hlt,hN.symm⟩,by simp,?_,by simp only; omega⟩
                simp [← hM,hxw]
              · rw [show (x.week == w)=false by simp [hxw],if_neg (by decide)] at hN
                ((refine Ax (And.intro @hx (And.intro @hMl @hxw)) ?_;repeat' first|exact True.intro|refine Cj.mk ?_ ?_)<;>intros<;>refine hD_ ?_)
                all_goals try (exfalso; omega)
                refine ⟨⟨(i+1,R,μ++[some [⟨64,5,[x.cs],none⟩]]),hlt,hN.symm⟩,by simp,?_,by simp only; omega⟩
                simp [← hM]
            · obtain rfl:i=r.reads.length:=by omega
              rw [List.take_length] at hR
              have hWT:weekT b r w=⟨{ b with stns:=r.stns },w,T,R⟩:=by unfold weekT; rw [hR,← hT,hS]
              by_cases h64:64 < T.length∨64 < R.length
              · have hE:weekE b r w=(wk0,2):=by unfold weekE; rw [if_neg (fun h=>h hbok),if_neg (fun h=>h hw),hWT]; exact if_pos h64
                rw [hE]
                ((refine Au ?_;repeat' first|exact True.intro|refine Cj.mk ?_ ?_)<;>intros<;>refine hD_ ?_)
                all_goals try (exfalso; omega)
                all_goals exact Frz.tupL ⟨Frz.aggL ⟨Frz.nil0,Frz.pure (by simp),Frz.pure (by simp),Frz.pure (by simp),Frz.pure (by simp),Frz.pure (by simp),Frz.pure (by simp),Frz.nil0,Frz.nil0,trivial⟩,Frz.pure (by simp),trivial⟩
              · have hE:weekE b r w=(weekT b r w,0):=by unfold weekE; rw [if_neg (fun h=>h hbok),if_neg (fun h=>h hw),hWT]; exact if_neg h64
                rw [hE,hWT]
                ((refine Au ?_;repeat' first|exact True.intro|refine Cj.mk ?_ ?_)<;>intros<;>refine hD_ ?_)
                all_goals try (exfalso; omega)
                all_goals exact Frz.tupL ⟨Frz.aggL ⟨Frz.ownL (T:=109) (cs:=Stn.cs) rfl rfl (by decide) sn_pc (fun a=>rfl),Frz.pure (by simp),Frz.pure (by simp),Frz.pure (by simp),Frz.pure (by simp),Frz.pure (by simp),Frz.pure (by simp),Frz.ownL (T:=72) (cs:=Fld.cs) rfl rfl (by decide) (fun a=>Fld.pc a) (fun a=>rfl),Frz.ownL (T:=64) (cs:=Rd.cs) rfl rfl (by decide) rd_pc (fun a=>rfl),trivial⟩,Frz.pure (by simp),trivial⟩
    · have hE:weekE b r w=(wk0,1):=by unfold weekE; rw [if_neg (fun h=>h hbok),if_pos hw]
      rw [hE]
      simp only [inr] at hw
      ((refine Ay (And.intro @hcb (within_a w 0 10000)) ?_;repeat' first|exact True.intro|refine Cj.mk ?_ ?_)<;>intros<;>refine hD_ ?_)
      all_goals try (exfalso; omega)
      all_goals exact Frz.tupL ⟨Frz.aggL ⟨Frz.nil0,Frz.pure (by simp),Frz.pure (by simp),Frz.pure (by simp),Frz.pure (by simp),Frz.pure (by simp),Frz.pure (by simp),Frz.nil0,Frz.nil0,trivial⟩,Frz.pure (by simp),trivial⟩
  · rw [if_neg hbok] at hcb
    have hE:weekE b r w=(wk0,100):=by unfold weekE; rw [if_pos hbok]
    rw [hE]
    ((refine Ay @hcb ?_;repeat' first|exact True.intro|refine Cj.mk ?_ ?_)<;>intros<;>refine hD_ ?_)
    all_goals try (exfalso; omega)
    all_goals exact Frz.tupL ⟨Frz.aggL ⟨Frz.nil0,Frz.pure (by simp),Frz.pure (by simp),Frz.pure (by simp),Frz.pure (by simp),Frz.pure (by simp),Frz.pure (by simp),Frz.nil0,Frz.nil0,trivial⟩,Frz.pure (by simp),trivial⟩
end Go.Proofs.YtolgelipcgcbhaaGreat
namespace Go.Abs
set_option linter.unusedVariables false
set_option linter.unusedSimpArgs false
section
variable {α:Type} (key:α→Int)
def StEq (x y:List α):Prop:=∀ k,x.filter (fun a=>decide (key a=k))=y.filter (fun a=>decide (key a=k))
abbrev KSrt (x:List α):Prop:=x.Pairwise (fun a b=>key a≤key b)
variable {key}
theorem StEq.refl (x:List α):StEq key x x:=fun _=>rfl
theorem StEq.symm {x y:List α} (h:StEq key x y):StEq key y x:=fun k=>(h k).symm
theorem StEq.trans {x y z:List α} (h:StEq key x y) (g:StEq key y z):StEq key x z:=fun k=>(h k).trans (g k)
theorem StEq.app {x y u v:List α} (h:StEq key x y) (g:StEq key u v):StEq key (x++u) (y++v):=fun k=>by
  rw [List.filter_append,List.filter_append,h k,g k]
theorem StEq.mem {x y:List α} (h:StEq key x y) {a:α}:a∈x↔a∈y:=by
  have key':∀ {x y:List α},StEq key x y→a∈x→a∈y:=fun {x y} h ha=>by
    have:a∈x.filter (fun c=>decide (key c=key a)):=List.mem_filter.2 ⟨ha,by simp⟩
    rw [h (key a)] at this
    exact (List.mem_filter.1 this).1
  exact ⟨key' h,key' h.symm⟩
theorem StEq.swap {x y:List α} (h:∀ a∈x,∀ b∈y,key a≠key b):StEq key (x++y) (y++x):=fun k=>by
  rw [List.filter_append,List.filter_append]
  by_cases hx:(x.filter fun a=>decide (key a=k))=[]
  · rw [hx,List.append_nil,List.nil_append]
  · have hy:(y.filter fun a=>decide (key a=k))=[]:=by
      rw [List.filter_eq_nil_iff]
      intro b hb e
      obtain ⟨a,ha⟩:=List.exists_mem_of_ne_nil _ hx
      rw [List.mem_filter] at ha
      exact h a ha.1 b hb ((of_decide_eq_true ha.2).trans (of_decide_eq_true e).symm)
    rw [hy,List.append_nil,List.nil_append]
theorem StEq.eq:∀ {x y:List α},StEq key x y→KSrt key x→KSrt key y→x=y
  | [],[],_,_,_=>rfl
  | [],b::s,h,_,_=>absurd (h.mem.2 (List.mem_cons_self ..)) List.not_mem_nil
  | a::r,[],h,_,_=>absurd (h.mem.1 (List.mem_cons_self ..)) List.not_mem_nil
  | a::r,b::s,h,hx,hy=>by
    have hk:key a=key b:=by
      have h1:key b≤key a:=by
        rcases List.mem_cons.1 (h.mem.1 (List.mem_cons_self (a:=a))) with e | e
        · rw [e]; exact Int.le_refl _
        · exact (List.pairwise_cons.1 hy).1 a e
      have h2:key a≤key b:=by
        rcases List.mem_cons.1 (h.mem.2 (List.mem_cons_self (a:=b))) with e | e
        · rw [e]; exact Int.le_refl _
        · exact (List.pairwise_cons.1 hx).1 b e
      omega
    have h0:=h (key a)
    rw [List.filter_cons_of_pos (by simp),List.filter_cons_of_pos (by simp [hk])] at h0
    injection h0 with h1 h2
    subst h1
    rw [StEq.eq (x:=r) (y:=s) (fun k=>?_) (List.pairwise_cons.1 hx).2 (List.pairwise_cons.1 hy).2]
    by_cases e:key a=k
    · subst e; exact h2
    · have:=h k
      rwa [List.filter_cons_of_neg (by simpa using e),List.filter_cons_of_neg (by simpa using e)] at this
def insAt (E:List α) (k:Nat) (x:α):List α:=E.take k++x::E.drop k
theorem insAt_len (E:List α) {k:Nat} (x:α):(insAt E k x).length=E.length+1:=by
  unfold insAt
  rw [List.length_append,List.length_cons,List.length_take,List.length_drop]; omega
theorem insAt_self (E:List α) {k:Nat} (hk:k≤E.length) (x:α):(insAt E k x)[k]?=some x:=by
  unfold insAt
  rw [List.getElem?_append_right (by rw [List.length_take]; omega),List.length_take,Nat.min_eq_left hk,Nat.sub_self]; rfl
theorem insAt_lt (E:List α) {k j:Nat} (hj:j < k) (hk:k≤E.length) (x:α):(insAt E k x)[j]?=E[j]?:=by
  unfold insAt
  rw [List.getElem?_append_left (by rw [List.length_take]; omega),List.getElem?_take_of_lt hj]
theorem insAt_gt (E:List α) {k j:Nat} (hj:k≤j) (hk:k≤E.length) (x:α):(insAt E k x)[j+1]?=E[j]?:=by
  unfold insAt
  rw [List.getElem?_append_right (by rw [List.length_take]; omega),List.length_take,Nat.min_eq_left hk,show j+1 - k=(j - k)+1 by omega,List.getElem?_cons_succ,List.getElem?_drop,show k+(j - k)=j by omega]
theorem insAt_up (E:List α) {k:Nat} (hk:k < E.length) (x c:α) (hc:E[k]?=some c):((insAt E k x).set k c).set (k+1) x=insAt E (k+1) x:=by
  refine List.ext_getElem? fun j=>?_
  rw [List.getElem?_set,List.getElem?_set,List.length_set,insAt_len]
  by_cases h1:k+1=j
  · subst h1; rw [if_pos rfl,if_pos (by omega),insAt_self E (by omega)]
  · rw [if_neg h1]
    by_cases h2:k=j
    · subst h2; rw [if_pos rfl,if_pos (by omega),insAt_lt E (by omega) (by omega),hc]
    · rw [if_neg h2]
      by_cases h3:j < k
      · rw [insAt_lt E h3 (by omega),insAt_lt E (by omega) (by omega)]
      · obtain ⟨i,rfl⟩:∃ i,j=i+1:=⟨j - 1,by omega⟩
        rw [insAt_gt E (by omega) (by omega),insAt_gt E (by omega) (by omega)]
theorem insAt_down (E:List α) {k:Nat} (hk:k < E.length) (x c:α) (hc:E[k]?=some c):((insAt E (k+1) x).set (k+1) c).set k x=insAt E k x:=by
  refine List.ext_getElem? fun j=>?_
  rw [List.getElem?_set,List.getElem?_set,List.length_set,insAt_len]
  by_cases h2:k=j
  · subst h2; rw [if_pos rfl,if_pos (by omega),insAt_self E (by omega)]
  · rw [if_neg h2]
    by_cases h1:k+1=j
    · subst h1; rw [if_pos rfl,if_pos (by omega),insAt_gt E (by omega) (by omega),hc]
    · rw [if_neg h1]
      by_cases h3:j < k
      · rw [insAt_lt E h3 (by omega),insAt_lt E (by omega) (by omega)]
      · obtain ⟨i,rfl⟩:∃ i,j=i+1:=⟨j - 1,by omega⟩
        rw [insAt_gt E (by omega) (by omega),insAt_gt E (by omega) (by omega)]
theorem ins_down {P A B:List α} {x:α} (hA:KSrt key (A++B)) (hle:∀ a∈A,key a≤key x) (hlt:∀ b∈B,key x < key b):KSrt key (A++x::B)∧StEq key (A++x::B) ((A++B)++[x]):=by
  constructor
  · rw [KSrt,List.pairwise_append] at hA ⊢
    refine ⟨hA.1,List.pairwise_cons.2 ⟨fun b hb=>Int.le_of_lt (hlt b hb),hA.2.1⟩,fun a ha b hb=>?_⟩
    rcases List.mem_cons.1 hb with rfl | hb
    · exact hle a ha
    · exact hA.2.2 a ha b hb
  · rw [List.append_assoc]
    refine (StEq.refl A).app ?_
    exact StEq.swap (x:=[x]) (y:=B) fun a ha b hb=>by
      have:=hlt b hb
      simp only [List.mem_singleton] at ha
      subst ha; omega
def rot (l:List α) (a m b:Nat):List α:=l.take a++((l.take b).drop m++((l.take m).drop a++l.drop b))
theorem rot_app {P X Y Q:List α} {a m b:Nat} (ha:a=P.length) (hm:m=P.length+X.length) (hb:b=P.length+X.length+Y.length):rot (P++(X++(Y++Q))) a m b=P++(Y++(X++Q)):=by
  subst ha hm hb
  have h1:(P++(X++(Y++Q))).take P.length=P:=List.take_left ..
  have h2:(P++(X++(Y++Q))).take (P.length+X.length)=P++X:=by rw [← List.append_assoc,← List.length_append]; exact List.take_left ..
  have h3:(P++(X++(Y++Q))).take (P.length+X.length+Y.length)=(P++X)++Y:=by
    rw [← List.append_assoc,← List.append_assoc,← List.length_append,← List.length_append]; exact List.take_left ..
  have h4:(P++(X++(Y++Q))).drop (P.length+X.length+Y.length)=Q:=by
    rw [← List.append_assoc,← List.append_assoc,← List.length_append,← List.length_append]; exact List.drop_left ..
  unfold rot
  rw [h1,h2,h3,h4,← List.length_append,List.drop_left,List.drop_left]
theorem parts4 (l:List α) {a m b:Nat} (h1:a≤m) (h2:m≤b) (h3:b≤l.length):∃ P X Y Q,l=P++(X++(Y++Q))∧P.length=a∧X.length=m - a∧Y.length=b - m:=by
  refine ⟨l.take a,(l.drop a).take (m - a),(l.drop m).take (b - m),l.drop b,?_,by rw [List.length_take]; omega,by rw [List.length_take,List.length_drop]; omega,by rw [List.length_take,List.length_drop]; omega⟩
  have e1:l.drop m=(l.drop m).take (b - m)++l.drop b:=by
    conv=>lhs; rw [← List.take_append_drop (b - m) (l.drop m)]
    rw [List.drop_drop,show m+(b - m)=b by omega]
  have e2:l.drop a=(l.drop a).take (m - a)++l.drop m:=by
    conv=>lhs; rw [← List.take_append_drop (m - a) (l.drop a)]
    rw [List.drop_drop,show a+(m - a)=m by omega]
  rw [← e1,← e2,List.take_append_drop]
def swp (l:List α) (a b i:Nat):List α:=l.take a++((l.drop b).take i++(((l.drop (a+i)).take (b - (a+i)))++((l.drop a).take i++l.drop (b+i))))
theorem swp_get {l:List α} {a b i:Nat} (h1:a+i≤b) (h2:b+i≤l.length) (j:Nat):(swp l a b i)[j]?=if a≤j∧j < a+i then l[j+(b - a)]? else if b≤j∧j < b+i then l[j - (b - a)]? else l[j]?:=by
  unfold swp
  have hl1:(l.take a).length=a:=by rw [List.length_take]; omega
  have hl2:((l.drop b).take i).length=i:=by rw [List.length_take,List.length_drop]; omega
  have hl3:((l.drop (a+i)).take (b - (a+i))).length=b - (a+i):=by rw [List.length_take,List.length_drop]; omega
  have hl4:((l.drop a).take i).length=i:=by rw [List.length_take,List.length_drop]; omega
  by_cases c1:j < a
  · rw [List.getElem?_append_left (by omega),List.getElem?_take_of_lt c1,if_neg (by omega),if_neg (by omega)]
  rw [List.getElem?_append_right (by omega),hl1]
  by_cases c2:j < a+i
  · rw [List.getElem?_append_left (by omega),List.getElem?_take_of_lt (by omega),List.getElem?_drop,if_pos ⟨by omega,c2⟩]
    congr 1; omega
  rw [List.getElem?_append_right (by omega),hl2]
  by_cases c3:j < b
  · rw [List.getElem?_append_left (by omega),List.getElem?_take_of_lt (by omega),List.getElem?_drop,if_neg (by omega),if_neg (by omega)]
    congr 1; omega
  rw [List.getElem?_append_right (by omega),hl3]
  by_cases c4:j < b+i
  · rw [List.getElem?_append_left (by omega),List.getElem?_take_of_lt (by omega),List.getElem?_drop,if_neg (by omega),if_pos ⟨by omega,c4⟩]
    congr 1; omega
  rw [List.getElem?_append_right (by omega),hl4,List.getElem?_drop,if_neg (by omega),if_neg (by omega)]
  congr 1; omega
theorem swp_len {l:List α} {a b i:Nat} (h1:a+i≤b) (h2:b+i≤l.length):(swp l a b i).length=l.length:=by
  unfold swp
  simp only [List.length_append,List.length_take,List.length_drop]; omega
theorem swp_zero (l:List α) {a b:Nat} (h1:a≤b) (h2:b≤l.length):swp l a b 0=l:=by
  refine List.ext_getElem? fun j=>?_
  rw [swp_get (by omega) (by omega),if_neg (by omega),if_neg (by omega)]
theorem swp_next {l:List α} {a b i:Nat} (h1:a+i < b) (h2:b+i < l.length) {u v:α} (hu:(swp l a b i)[a+i]?=some u) (hv:(swp l a b i)[b+i]?=some v):((swp l a b i).set (a+i) v).set (b+i) u=swp l a b (i+1):=by
  have gu:=hu
  have gv:=hv
  rw [swp_get (by omega) (by omega),if_neg (by omega),if_neg (by omega)] at gu gv
  refine List.ext_getElem? fun j=>?_
  rw [List.getElem?_set,List.getElem?_set,List.length_set,swp_len (by omega) (by omega),swp_get (by omega) (by omega),swp_get (i:=i+1) (by omega) (by omega)]
  by_cases c1:b+i=j
  · subst c1
    rw [if_pos rfl,if_pos (by omega),if_neg (by omega),if_pos (by omega),show b+i - (b - a)=a+i by omega,gu]
  rw [if_neg c1]
  by_cases c2:a+i=j
  · subst c2
    rw [if_pos rfl,if_pos (by omega),if_pos (by omega),show a+i+(b - a)=b+i by omega,gv]
  rw [if_neg c2]
  by_cases c3:a≤j∧j < a+i
  · rw [if_pos c3,if_pos (by omega)]
  rw [if_neg c3]
  by_cases c4:b≤j∧j < b+i
  · rw [if_pos c4,if_neg (by omega),if_pos (by omega)]
  rw [if_neg c4,if_neg (by omega),if_neg (by omega)]
theorem swp_app {P A M B Q:List α} {a b n:Nat} (ha:a=P.length) (hA:A.length=n) (hB:B.length=n) (hb:b=P.length+n+M.length):swp (P++(A++(M++(B++Q)))) a b n=P++(B++(M++(A++Q))):=by
  subst ha hb
  have e1:(P++(A++(M++(B++Q)))).drop P.length=A++(M++(B++Q)):=List.drop_left ..
  have e2:(P++(A++(M++(B++Q)))).drop (P.length+n)=M++(B++Q):=by rw [← List.drop_drop,e1,← hA]; exact List.drop_left ..
  have e3:(P++(A++(M++(B++Q)))).drop (P.length+n+M.length)=B++Q:=by rw [← List.drop_drop,e2]; exact List.drop_left ..
  have e4:(P++(A++(M++(B++Q)))).drop (P.length+n+M.length+n)=Q:=by rw [← List.drop_drop,e3,← hB]; exact List.drop_left ..
  have e5:(P++(A++(M++(B++Q)))).take P.length=P:=List.take_left ..
  unfold swp
  rw [e1,e2,e3,e4,e5,show P.length+n+M.length - (P.length+n)=M.length by omega]
  congr 1
  have f1:(B++Q).take n=B:=by rw [← hB]; exact List.take_left ..
  have f2:(M++(B++Q)).take M.length=M:=List.take_left ..
  have f3:(A++(M++(B++Q))).take n=A:=by rw [← hA]; exact List.take_left ..
  rw [f1,f2,f3]
theorem rot_gt {l:List α} {a m b:Nat} (h1:a≤m) (h2:m≤b) (h3:b≤l.length) (h:b - m < m - a):rot (swp l a m (b - m)) (a+(b - m)) m b=rot l a m b:=by
  obtain ⟨P,X,Y,Q,rfl,hP,hX,hY⟩:=parts4 l h1 h2 h3
  obtain ⟨X1,X2,rfl,hX1⟩:∃ X1 X2,X=X1++X2∧X1.length=b - m:=⟨X.take (b - m),X.drop (b - m),(List.take_append_drop _ _).symm,by rw [List.length_take]; omega⟩
  rw [List.length_append] at hX
  rw [rot_app (X:=X1++X2) hP.symm (by rw [List.length_append]; omega) (by rw [List.length_append]; omega)]
  have hs:swp (P++(X1++X2++(Y++Q))) a m (b - m)=P++(Y++(X2++(X1++Q))):=by
    rw [List.append_assoc X1]
    exact swp_app hP.symm hX1 hY (by omega)
  rw [hs]
  have:=rot_app (P:=P++Y) (X:=X2) (Y:=X1) (Q:=Q) (a:=a+(b - m)) (m:=m) (b:=b) (by rw [List.length_append]; omega) (by rw [List.length_append]; omega) (by rw [List.length_append]; omega)
  rw [List.append_assoc] at this
  rw [this,List.append_assoc,List.append_assoc]
theorem rot_lt {l:List α} {a m b:Nat} (h1:a≤m) (h2:m≤b) (h3:b≤l.length) (h:m - a < b - m):rot (swp l a (b - (m - a)) (m - a)) a m (b - (m - a))=rot l a m b:=by
  obtain ⟨P,X,Y,Q,rfl,hP,hX,hY⟩:=parts4 l h1 h2 h3
  obtain ⟨Y1,Y2,rfl,hY1⟩:∃ Y1 Y2,Y=Y1++Y2∧Y1.length=b - m - (m - a):=⟨Y.take (b - m - (m - a)),Y.drop (b - m - (m - a)),(List.take_append_drop _ _).symm,by rw [List.length_take]; omega⟩
  rw [List.length_append] at hY
  rw [rot_app (Y:=Y1++Y2) hP.symm (by omega) (by rw [List.length_append]; omega)]
  have hs:swp (P++(X++(Y1++Y2++Q))) a (b - (m - a)) (m - a)=P++(Y2++(Y1++(X++Q))):=by
    rw [List.append_assoc Y1]
    exact swp_app hP.symm hX (by omega) (by omega)
  rw [hs,rot_app (Y:=Y1) hP.symm (by omega) (by omega),List.append_assoc]
theorem rot_eq {l:List α} {a m b:Nat} (h1:a≤m) (h2:m≤b) (h3:b≤l.length) (h:m - a=b - m):swp l a m (m - a)=rot l a m b:=by
  obtain ⟨P,X,Y,Q,rfl,hP,hX,hY⟩:=parts4 l h1 h2 h3
  rw [rot_app hP.symm (by omega) (by omega)]
  exact swp_app (M:=[]) hP.symm hX (by omega) (by simp; omega)
theorem rot_len {l:List α} {a m b:Nat} (h1:a≤m) (h2:m≤b) (h3:b≤l.length):(rot l a m b).length=l.length:=by
  unfold rot
  simp only [List.length_append,List.length_take,List.length_drop]; omega
end
end Go.Abs
namespace Go.Abs
set_option linter.unusedVariables false
set_option linter.unusedSimpArgs false
set_option maxHeartbeats 4000000
section
variable {α:Type}
def insK (key:α→Int) (a:α):List α→List α
  | []=>[a]
  | x::r=>if key a < key x then a::x::r else x::insK key a r
def srtK (key:α→Int) (l:List α):List α:=l.foldl (fun o a=>insK key a o) []
variable {key:α→Int}
theorem insK_at {a:α}:∀ {A B:List α},(∀ x∈A,key x≤key a)→(∀ x∈B,key a < key x)→insK key a (A++B)=A++a::B
  | [],[],_,_=>rfl
  | [],b::r,_,h=>by
    show insK key a (b::r)=_
    unfold insK
    rw [if_pos (h b (List.mem_cons_self ..))]; rfl
  | x::A,B,h,g=>by
    show insK key a (x::(A++B))=_
    unfold insK
    have:=h x (List.mem_cons_self ..)
    rw [if_neg (by omega),insK_at (fun y hy=>h y (List.mem_cons_of_mem _ hy)) g]; rfl
theorem split_at (key:α→Int) (z:Int):∀ {l:List α},KSrt key l→∃ A B,l=A++B∧(∀ x∈A,key x≤z)∧(∀ x∈B,z < key x)
  | [],_=>⟨[],[],rfl,by simp,by simp⟩
  | x::r,h=>by
    rw [KSrt,List.pairwise_cons] at h
    obtain ⟨A,B,h1,h2,h3⟩:=split_at key z h.2
    by_cases hx:key x≤z
    · refine ⟨x::A,B,by rw [h1]; rfl,fun y hy=>?_,h3⟩
      rcases List.mem_cons.1 hy with rfl | hy
      · exact hx
      · exact h2 y hy
    · refine ⟨[],x::r,rfl,by simp,fun y hy=>?_⟩
      rcases List.mem_cons.1 hy with rfl | hy
      · omega
      · have:=h.1 y hy; omega
theorem insK_spec {a:α} {l:List α} (h:KSrt key l):KSrt key (insK key a l)∧StEq key (insK key a l) (l++[a]):=by
  obtain ⟨A,B,rfl,h2,h3⟩:=split_at key (key a) h
  rw [insK_at h2 h3]
  exact ins_down (P:=[]) h h2 h3
theorem srtK_snoc (l:List α) (a:α):srtK key (l++[a])=insK key a (srtK key l):=by
  unfold srtK; rw [List.foldl_append]; rfl
theorem srtK_spec (l:List α):KSrt key (srtK key l)∧StEq key (srtK key l) l:=by
  have:∀ (r:List α),KSrt key (srtK key r.reverse)∧StEq key (srtK key r.reverse) r.reverse:=by
    intro r
    induction r with
    | nil=>exact ⟨.nil,.refl _⟩
    | cons a r ih =>
      rw [List.reverse_cons,srtK_snoc]
      obtain ⟨h1,h2⟩:=insK_spec (a:=a) ih.1
      exact ⟨h1,h2.trans (ih.2.app (.refl _))⟩
  have:=this l.reverse
  rwa [List.reverse_reverse] at this
theorem srtK_eq {l z:List α} (h1:KSrt key z) (h2:StEq key z l):srtK key l=z :=
  StEq.eq ((srtK_spec l).2.trans h2.symm) (srtK_spec l).1 h1
theorem srtK_self {l:List α} (h:KSrt key l):srtK key l=l:=srtK_eq h (.refl _)
theorem srtK_len (l:List α):(srtK key l).length=l.length:=by
  have ins:∀ (a:α) (l:List α),(insK key a l).length=l.length+1:=by
    intro a l
    induction l with
    | nil=>rfl
    | cons x r ih =>
      unfold insK
      split
      · rfl
      · rw [List.length_cons,ih,List.length_cons]
  have:∀ (l o:List α),(l.foldl (fun o a=>insK key a o) o).length=l.length+o.length:=by
    intro l
    induction l with
    | nil=>intro o; simp
    | cons a r ih=>intro o; rw [List.foldl_cons,ih,ins,List.length_cons]; omega
  exact this l []
theorem srtK_st {x y:List α} (h:StEq key x y):srtK key x=srtK key y:=srtK_eq (srtK_spec y).1 ((srtK_spec y).2.trans h.symm)
theorem srtK_split {X1 X2 Y1 Y2:List α} (hX:KSrt key (X1++X2)) (hY:KSrt key (Y1++Y2)) (h1:∀ x∈X2,∀ y∈Y1,key y < key x) (h2:∀ x∈X1,∀ y∈Y2,key x≤key y) :
    srtK key ((X1++X2)++(Y1++Y2))=srtK key (X1++Y1)++srtK key (X2++Y2):=by
  rw [KSrt,List.pairwise_append] at hX hY
  obtain ⟨s1,t1⟩:=srtK_spec (key:=key) (X1++Y1)
  obtain ⟨s2,t2⟩:=srtK_spec (key:=key) (X2++Y2)
  refine srtK_eq ?_ ?_
  · refine List.pairwise_append.2 ⟨s1,s2,fun a ha b hb=>?_⟩
    have ha:=t1.mem.1 ha
    have hb:=t2.mem.1 hb
    rw [List.mem_append] at ha hb
    rcases ha with ha | ha <;> rcases hb with hb | hb
    · exact hX.2.2 a ha b hb
    · exact h2 a ha b hb
    · exact Int.le_of_lt (h1 b hb a ha)
    · exact hY.2.2 a ha b hb
  · refine (t1.app t2).trans ?_
    have e1:(X1++Y1)++(X2++Y2)=X1++((Y1++X2)++Y2):=by simp
    have e2:(X1++X2)++(Y1++Y2)=X1++((X2++Y1)++Y2):=by simp
    rw [e1,e2]
    exact (StEq.refl _).app (StEq.app (StEq.swap fun a ha b hb=>by have:=h1 b hb a ha; omega) (.refl _))
abbrev seg (l:List α) (i j:Nat):List α:=(l.take j).drop i
def stS (key:α→Int) (l:List α) (a b:Nat):List α:=l.take a++(srtK key (seg l a b)++l.drop b)
theorem seg_app {P X R:List α} {i j:Nat} (hi:i=P.length) (hj:j=P.length+X.length):seg (P++(X++R)) i j=X:=by
  subst hi hj
  have:(P++(X++R)).take (P.length+X.length)=P++X:=by rw [← List.append_assoc,← List.length_append]; exact List.take_left ..
  show List.drop _ (List.take _ _)=X
  rw [this]; exact List.drop_left ..
theorem stS_app {P X R:List α} {i j:Nat} (hi:i=P.length) (hj:j=P.length+X.length):stS key (P++(X++R)) i j=P++(srtK key X++R):=by
  unfold stS
  rw [seg_app hi hj]
  subst hi hj
  have h1:(P++(X++R)).take P.length=P:=List.take_left ..
  have h2:(P++(X++R)).drop (P.length+X.length)=R:=by rw [← List.append_assoc,← List.length_append]; exact List.drop_left ..
  rw [h1,h2]
theorem stS_len {l:List α} {a b:Nat} (h1:a≤b) (h2:b≤l.length):(stS key l a b).length=l.length:=by
  unfold stS
  rw [List.length_append,List.length_append,srtK_len]
  simp only [List.length_take,List.length_drop]; omega
theorem mem_seg {l:List α} {i j:Nat} {d x:α} (h:x∈seg l i j) (hj:j≤l.length):∃ t,i≤t∧t < j∧l.getD t d=x:=by
  obtain ⟨u,hu,rfl⟩:=List.getElem_of_mem h
  simp only [List.length_drop,List.length_take] at hu
  refine ⟨i+u,by omega,by omega,?_⟩
  rw [List.getElem_drop,List.getElem_take,List.getD_eq_getElem?_getD,List.getElem?_eq_getElem (by omega)]; rfl
theorem seg_le {l:List α} {i j u v:Nat} {d:α} (h:KSrt key (seg l i j)) (hj:j≤l.length) (h1:i≤u) (h2:u≤v) (h3:v < j):key (l.getD u d)≤key (l.getD v d):=by
  by_cases e:u=v
  · subst e; exact Int.le_refl _
  have:=(List.pairwise_iff_getElem.1 h) (u - i) (v - i) (by simp only [List.length_drop,List.length_take]; omega) (by simp only [List.length_drop,List.length_take]; omega) (by omega)
  simp only [List.getElem_drop,List.getElem_take] at this
  rw [List.getD_eq_getElem?_getD,List.getD_eq_getElem?_getD,List.getElem?_eq_getElem (by omega),List.getElem?_eq_getElem (by omega)]
  simpa only [show i+(u - i)=u by omega,show i+(v - i)=v by omega,Option.getD_some] using this
theorem erase_app {P R:List α} {x:α} {a:Nat} (ha:a=P.length):(P++(x::R)).eraseIdx a=P++R:=by
  subst ha
  rw [List.eraseIdx_append_of_length_le (Nat.le_refl _),Nat.sub_self]; rfl
theorem insAt_app {P R:List α} {x:α} {k:Nat} (hk:k=P.length):insAt (P++R) k x=P++x::R:=by
  subst hk
  unfold insAt
  have h1:(P++R).take P.length=P:=List.take_left ..
  have h2:(P++R).drop P.length=R:=List.drop_left ..
  rw [h1,h2]
theorem erase_ins {l:List α} {a:Nat} (h:a < l.length) (d:α):insAt (l.eraseIdx a) a (l.getD a d)=l:=by
  obtain ⟨P,X,Y,Q,rfl,hP,hX,hY⟩:=parts4 l (a:=a) (m:=a+1) (b:=a+1) (by omega) (Nat.le_refl _) h
  rw [show Y=[] by rw [← List.length_eq_zero_iff]; omega]
  obtain ⟨x,rfl⟩:=List.length_eq_one_iff.1 (show X.length=1 by omega)
  rw [List.nil_append,List.singleton_append,erase_app hP.symm,insAt_app hP.symm]
  congr 1
  rw [List.getD_eq_getElem?_getD,List.getElem?_append_right (by omega),hP,Nat.sub_self]; rfl
theorem stS_one1 {l:List α} {a i b:Nat} (d:α) (h1:a+1≤i) (h2:i≤b) (h3:b≤l.length) (hY:KSrt key (seg l (a+1) b)) (hl:∀ t,a+1≤t→t < i→key (l.getD t d) < key (l.getD a d)) (hr:∀ t,i≤t→t < b→key (l.getD a d)≤key (l.getD t d)) :
    insAt (l.eraseIdx a) (i - 1) (l.getD a d)=stS key l a b:=by
  obtain ⟨P,X,Y,Q,rfl,hP,hX,hYl⟩:=parts4 l (a:=a) (m:=a+1) (b:=b) (by omega) (by omega) h3
  obtain ⟨x,rfl⟩:=List.length_eq_one_iff.1 (show X.length=1 by omega)
  obtain ⟨Y1,Y2,rfl,hY1⟩:∃ Y1 Y2,Y=Y1++Y2∧Y1.length=i - (a+1):=⟨Y.take (i - (a+1)),Y.drop (i - (a+1)),(List.take_append_drop _ _).symm,by rw [List.length_take]; omega⟩
  rw [List.length_append] at hYl
  have hx:(P++([x]++((Y1++Y2)++Q))).getD a d=x:=by
    rw [List.getD_eq_getElem?_getD,List.getElem?_append_right (by omega),hP,Nat.sub_self]; rfl
  have e0:P++([x]++((Y1++Y2)++Q))=(P++[x])++((Y1++Y2)++Q):=by simp
  have e1:P++([x]++((Y1++Y2)++Q))=(P++[x])++(Y1++(Y2++Q)):=by simp
  have e2:P++([x]++((Y1++Y2)++Q))=(P++[x]++Y1)++(Y2++Q):=by simp
  have e3:P++([x]++((Y1++Y2)++Q))=P++(([x]++(Y1++Y2))++Q):=by simp
  rw [e0,seg_app (by simp; omega) (by simp; omega)] at hY
  rw [hx] at hl hr ⊢
  have hY1':∀ y∈Y1,key y < key x:=fun y hy=>by
    rw [← seg_app (P:=P++[x]) (X:=Y1) (R:=Y2++Q) (i:=a+1) (j:=i) (by simp; omega) (by simp; omega),← e1] at hy
    obtain ⟨t,t1,t2,rfl⟩:=mem_seg (d:=d) hy (Nat.le_trans h2 h3)
    exact hl t t1 t2
  have hY2':∀ y∈Y2,key x≤key y:=fun y hy=>by
    rw [← seg_app (P:=P++[x]++Y1) (X:=Y2) (R:=Q) (i:=i) (j:=b) (by simp; omega) (by simp; omega),← e2] at hy
    obtain ⟨t,t1,t2,rfl⟩:=mem_seg (d:=d) hy h3
    exact hr t t1 t2
  have e4:P++((Y1++Y2)++Q)=(P++Y1)++(Y2++Q):=by simp
  rw [List.singleton_append,erase_app hP.symm,e4,insAt_app (by rw [List.length_append]; omega)]
  rw [show P++x::((Y1++Y2)++Q)=P++(([x]++(Y1++Y2))++Q) by simp,stS_app hP.symm (by simp; omega)]
  have:srtK key ([x]++(Y1++Y2))=Y1++x::Y2:=by
    rw [KSrt,List.pairwise_append] at hY
    refine srtK_eq (List.pairwise_append.2 ⟨hY.1,List.pairwise_cons.2 ⟨hY2',hY.2.1⟩,fun y hy z hz=>?_⟩) ?_
    · rcases List.mem_cons.1 hz with rfl | hz
      · exact Int.le_of_lt (hY1' y hy)
      · exact hY.2.2 y hy z hz
    · rw [show Y1++x::Y2=(Y1++[x])++Y2 by simp,show [x]++(Y1++Y2)=([x]++Y1)++Y2 by simp]
      refine StEq.app (StEq.swap fun y hy z hz=>?_) (.refl _)
      simp only [List.mem_singleton] at hz
      subst hz
      have:=hY1' y hy; omega
  rw [this]; simp
theorem stS_one2 {l:List α} {a i m:Nat} (d:α) (h1:a≤i) (h2:i≤m) (h3:m+1≤l.length) (hX:KSrt key (seg l a m)) (hl:∀ t,a≤t→t < i→key (l.getD t d)≤key (l.getD m d)) (hr:∀ t,i≤t→t < m→key (l.getD m d) < key (l.getD t d)) :
    insAt (l.eraseIdx m) i (l.getD m d)=stS key l a (m+1):=by
  obtain ⟨P,X,Y,Q,rfl,hP,hXl,hYl⟩:=parts4 l (a:=a) (m:=m) (b:=m+1) (by omega) (by omega) h3
  obtain ⟨y,rfl⟩:=List.length_eq_one_iff.1 (show Y.length=1 by omega)
  obtain ⟨X1,X2,rfl,hX1⟩:∃ X1 X2,X=X1++X2∧X1.length=i - a:=⟨X.take (i - a),X.drop (i - a),(List.take_append_drop _ _).symm,by rw [List.length_take]; omega⟩
  rw [List.length_append] at hXl
  have hy:(P++((X1++X2)++([y]++Q))).getD m d=y:=by
    rw [List.getD_eq_getElem?_getD,List.getElem?_append_right (by omega),List.getElem?_append_right (by rw [List.length_append]; omega),show m - P.length - (X1++X2).length=0 by rw [List.length_append]; omega]; rfl
  have e1:P++((X1++X2)++([y]++Q))=P++(X1++(X2++([y]++Q))):=by simp
  have e2:P++((X1++X2)++([y]++Q))=(P++X1)++(X2++([y]++Q)):=by simp
  have e3:P++((X1++X2)++([y]++Q))=P++(((X1++X2)++[y])++Q):=by simp
  have e5:P++((X1++X2)++([y]++Q))=(P++(X1++X2))++(y::Q):=by simp
  rw [seg_app hP.symm (by rw [List.length_append]; omega)] at hX
  rw [hy] at hl hr ⊢
  have hX1':∀ x∈X1,key x≤key y:=fun x hx=>by
    rw [← seg_app (P:=P) (X:=X1) (R:=X2++([y]++Q)) (i:=a) (j:=i) hP.symm (by omega),← e1] at hx
    obtain ⟨t,t1,t2,rfl⟩:=mem_seg (d:=d) hx (by omega)
    exact hl t t1 t2
  have hX2':∀ x∈X2,key y < key x:=fun x hx=>by
    rw [← seg_app (P:=P++X1) (X:=X2) (R:=[y]++Q) (i:=i) (j:=m) (by simp; omega) (by simp; omega),← e2] at hx
    obtain ⟨t,t1,t2,rfl⟩:=mem_seg (d:=d) hx (by omega)
    exact hr t t1 t2
  have e4:(P++(X1++X2))++Q=(P++X1)++(X2++Q):=by simp
  rw [e5,erase_app (by simp; omega),e4,insAt_app (by rw [List.length_append]; omega),← e5,e3,stS_app hP.symm (by simp; omega)]
  have:srtK key ((X1++X2)++[y])=X1++y::X2:=by
    obtain ⟨g1,g2⟩:=ins_down (P:=[]) hX hX1' hX2'
    exact srtK_eq g1 g2
  rw [this]; simp
theorem stS_sym {l:List α} {a s m e b mid:Nat} (d:α) (h1:a≤s) (h2:s≤m) (h3:m≤e) (h4:e≤b) (h5:b≤l.length) (hmid:mid=s+(e - m)) (hX:KSrt key (seg l a m)) (hY:KSrt key (seg l m b))
    (hlt:s < m→m < e→key (l.getD (e - 1) d) < key (l.getD s d)) (hle:a < s→e < b→key (l.getD (s - 1) d)≤key (l.getD e d)) :
    KSrt key (seg (rot l s m e) a s)∧KSrt key (seg (rot l s m e) s mid)∧(s=a∨s=mid→stS key (rot l s m e) a mid=rot l s m e) ∧
    KSrt key (seg (stS key (rot l s m e) a mid) mid e)∧KSrt key (seg (stS key (rot l s m e) a mid) e b)∧stS key (stS key (rot l s m e) a mid) mid b=stS key l a b ∧
    (mid=e∨e=b→stS key (stS key (rot l s m e) a mid) mid b=stS key (rot l s m e) a mid):=by
  obtain ⟨P,X,Y,Q,rfl,hP,hXl,hYl⟩:=parts4 l (a:=a) (m:=m) (b:=b) (by omega) (by omega) h5
  obtain ⟨X1,X2,rfl,hX1⟩:∃ X1 X2,X=X1++X2∧X1.length=s - a:=⟨X.take (s - a),X.drop (s - a),(List.take_append_drop _ _).symm,by rw [List.length_take]; omega⟩
  obtain ⟨Y1,Y2,rfl,hY1⟩:∃ Y1 Y2,Y=Y1++Y2∧Y1.length=e - m:=⟨Y.take (e - m),Y.drop (e - m),(List.take_append_drop _ _).symm,by rw [List.length_take]; omega⟩
  rw [List.length_append] at hXl hYl
  have e0:P++((X1++X2)++((Y1++Y2)++Q))=(P++X1)++(X2++(Y1++(Y2++Q))):=by simp
  have e1:P++((X1++X2)++((Y1++Y2)++Q))=(P++(X1++X2))++((Y1++Y2)++Q):=by simp
  have e2:P++((X1++X2)++((Y1++Y2)++Q))=P++(X1++(X2++((Y1++Y2)++Q))):=by simp
  have e3:P++((X1++X2)++((Y1++Y2)++Q))=(P++(X1++X2))++(Y1++(Y2++Q)):=by simp
  have e4:P++((X1++X2)++((Y1++Y2)++Q))=(P++(X1++X2)++Y1)++(Y2++Q):=by simp
  have e5:P++((X1++X2)++((Y1++Y2)++Q))=P++(((X1++X2)++(Y1++Y2))++Q):=by simp
  have hX0:=hX
  have hY0:=hY
  rw [seg_app hP.symm (by rw [List.length_append]; omega)] at hX
  rw [e1,seg_app (by simp; omega) (by simp; omega)] at hY
  have hX':=hX
  have hY':=hY
  rw [KSrt,List.pairwise_append] at hX hY
  have hgt:∀ x∈X2,∀ y∈Y1,key y < key x:=fun x hx y hy=>by
    have hs:s < m:=by have:=List.length_pos_of_mem hx; omega
    have he:m < e:=by have:=List.length_pos_of_mem hy; omega
    rw [← seg_app (P:=P++X1) (X:=X2) (R:=Y1++(Y2++Q)) (i:=s) (j:=m) (by simp; omega) (by simp; omega),← e0] at hx
    rw [← seg_app (P:=P++(X1++X2)) (X:=Y1) (R:=Y2++Q) (i:=m) (j:=e) (by simp; omega) (by simp; omega),← e3] at hy
    obtain ⟨t,t1,t2,rfl⟩:=mem_seg (d:=d) hx (by omega)
    obtain ⟨u,u1,u2,rfl⟩:=mem_seg (d:=d) hy (by omega)
    have g1:=seg_le (d:=d) hX0 (by omega) h1 t1 t2
    have g2:=seg_le (d:=d) hY0 h5 u1 (show u≤e - 1 by omega) (by omega)
    have:=hlt hs he
    omega
  have hll:∀ x∈X1,∀ y∈Y2,key x≤key y:=fun x hx y hy=>by
    have hs:a < s:=by have:=List.length_pos_of_mem hx; omega
    have he:e < b:=by have:=List.length_pos_of_mem hy; omega
    rw [← seg_app (P:=P) (X:=X1) (R:=X2++((Y1++Y2)++Q)) (i:=a) (j:=s) hP.symm (by omega),← e2] at hx
    rw [← seg_app (P:=P++(X1++X2)++Y1) (X:=Y2) (R:=Q) (i:=e) (j:=b) (by simp; omega) (by simp; omega),← e4] at hy
    obtain ⟨t,t1,t2,rfl⟩:=mem_seg (d:=d) hx (by omega)
    obtain ⟨u,u1,u2,rfl⟩:=mem_seg (d:=d) hy (by omega)
    have g1:=seg_le (d:=d) hX0 (by omega) t1 (show t≤s - 1 by omega) (by omega)
    have g2:=seg_le (d:=d) hY0 h5 h3 u1 u2
    have:=hle hs he
    omega
  have hrot:rot (P++((X1++X2)++((Y1++Y2)++Q))) s m e=P++(X1++(Y1++(X2++(Y2++Q)))):=by
    rw [e0,rot_app (by simp; omega) (by simp; omega) (by simp; omega)]; simp
  rw [hrot]
  have e6:P++(X1++(Y1++(X2++(Y2++Q))))=(P++X1)++(Y1++(X2++(Y2++Q))):=by simp
  have e7:P++(X1++(Y1++(X2++(Y2++Q))))=P++((X1++Y1)++(X2++(Y2++Q))):=by simp
  have hst:stS key (P++(X1++(Y1++(X2++(Y2++Q))))) a mid=P++(srtK key (X1++Y1)++(X2++(Y2++Q))):=by
    rw [e7]; exact stS_app hP.symm (by simp; omega)
  have hzl:(srtK key (X1++Y1)).length=X1.length+Y1.length:=by rw [srtK_len,List.length_append]
  have e8:P++(srtK key (X1++Y1)++(X2++(Y2++Q)))=(P++srtK key (X1++Y1))++(X2++(Y2++Q)):=by simp
  have e9:P++(srtK key (X1++Y1)++(X2++(Y2++Q)))=(P++srtK key (X1++Y1)++X2)++(Y2++Q):=by simp
  have e10:P++(srtK key (X1++Y1)++(X2++(Y2++Q)))=(P++srtK key (X1++Y1))++((X2++Y2)++Q):=by simp
  rw [hst]
  refine ⟨?_,?_,?_,?_,?_,?_,?_⟩
  · rw [seg_app hP.symm (by omega)]; exact hX.1
  · rw [e6,seg_app (by simp; omega) (by simp; omega)]; exact hY.1
  · intro h
    have:srtK key (X1++Y1)=X1++Y1:=by
      rcases h with h | h
      · rw [show X1=[] by rw [← List.length_eq_zero_iff]; omega]; exact srtK_self hY.1
      · rw [show Y1=[] by rw [← List.length_eq_zero_iff]; omega,List.append_nil]; exact srtK_self hX.1
    rw [this]; simp
  · rw [e8,seg_app (by simp; omega) (by simp; omega)]; exact hX.2.1
  · rw [e9,seg_app (by simp; omega) (by simp; omega)]; exact hY.2.1
  · rw [e10,stS_app (by simp; omega) (by simp; omega),e5,stS_app hP.symm (by simp; omega),srtK_split hX' hY' hgt hll]; simp
  · intro h
    rw [e10,stS_app (by simp; omega) (by simp; omega)]
    have:srtK key (X2++Y2)=X2++Y2:=by
      rcases h with h | h
      · rw [show X2=[] by rw [← List.length_eq_zero_iff]; omega]; exact srtK_self hY.2.1
      · rw [show Y2=[] by rw [← List.length_eq_zero_iff]; omega,List.append_nil]; exact srtK_self hX.2.1
    rw [this]
theorem rot_same {l:List α} {s m e:Nat} (h1:s≤m) (h2:m≤e) (h3:e≤l.length) (h:s=m∨m=e):rot l s m e=l:=by
  obtain ⟨P,X,Y,Q,rfl,hP,hX,hY⟩:=parts4 l h1 h2 h3
  rw [rot_app hP.symm (by omega) (by omega)]
  rcases h with h | h
  · rw [show X=[] by rw [← List.length_eq_zero_iff]; omega]; simp
  · rw [show Y=[] by rw [← List.length_eq_zero_iff]; omega]; simp
end
section
variable {α:Type} {key:α→Int}
theorem stS_parts {l:List α} {a b:Nat} (h1:a≤b) (h2:b≤l.length):∃ P X Q,l=P++(X++Q)∧P.length=a∧P.length+X.length=b∧stS key l a b=P++(srtK key X++Q)∧seg l a b=X:=by
  obtain ⟨P,X,Y,Q,rfl,hP,hX,hY⟩:=parts4 l (a:=a) (m:=b) (b:=b) h1 (Nat.le_refl _) h2
  rw [show Y=[] by rw [← List.length_eq_zero_iff]; omega,List.nil_append]
  exact ⟨P,X,Q,rfl,hP,by omega,stS_app hP.symm (by omega),seg_app hP.symm (by omega)⟩
theorem stS_seg {l:List α} {a b:Nat} (h1:a≤b) (h2:b≤l.length):seg (stS key l a b) a b=srtK key (seg l a b):=by
  obtain ⟨P,X,Q,rfl,hP,hX,hs,hg⟩:=stS_parts (key:=key) h1 h2
  rw [hs,hg,seg_app hP.symm (by rw [srtK_len]; omega)]
theorem stS_take {l:List α} {a b:Nat} (h1:a≤b) (h2:b≤l.length) {j:Nat} (hj:j≤a):(stS key l a b).take j=l.take j:=by
  obtain ⟨P,X,Q,rfl,hP,hX,hs,hg⟩:=stS_parts (key:=key) h1 h2
  rw [hs,List.take_append_of_le_length (by omega),List.take_append_of_le_length (by omega)]
theorem stS_drop {l:List α} {a b:Nat} (h1:a≤b) (h2:b≤l.length) {j:Nat} (hj:b≤j):(stS key l a b).drop j=l.drop j:=by
  obtain ⟨P,X,Q,rfl,hP,hX,hs,hg⟩:=stS_parts (key:=key) h1 h2
  have e1:(P++(srtK key X++Q)).drop b=Q:=by rw [← List.append_assoc,← hX,← srtK_len (key:=key) X,← List.length_append]; exact List.drop_left ..
  have e2:(P++(X++Q)).drop b=Q:=by rw [← List.append_assoc,← hX,← List.length_append]; exact List.drop_left ..
  rw [hs,show j=b+(j - b) by omega,← List.drop_drop,← List.drop_drop,e1,e2]
theorem stS_low {l:List α} {a b:Nat} (h1:a≤b) (h2:b≤l.length) {i j:Nat} (hj:j≤a):seg (stS key l a b) i j=seg l i j:=by
  show List.drop i (List.take j _)=_
  rw [stS_take h1 h2 hj]
theorem stS_high {l:List α} {a b:Nat} (h1:a≤b) (h2:b≤l.length) {i j:Nat} (hi:b≤i):seg (stS key l a b) i j=seg l i j:=by
  show List.drop i (List.take j _)=List.drop i (List.take j _)
  rw [List.drop_take,List.drop_take,stS_drop h1 h2 hi]
theorem stS_st {l:List α} {a b:Nat} (h1:a≤b) (h2:b≤l.length):StEq key (stS key l a b) l:=by
  obtain ⟨P,X,Q,rfl,hP,hX,hs,hg⟩:=stS_parts (key:=key) h1 h2
  rw [hs]
  exact (StEq.refl P).app ((srtK_spec X).2.app (.refl Q))
theorem seg_end {l:List α} {i j:Nat} (h:l.length≤j):seg l i j=seg l i l.length:=by
  show List.drop i (List.take j l)=List.drop i (List.take l.length l)
  rw [List.take_of_length_le h,List.take_length]
theorem seg_out {l:List α} {i j:Nat} (h:l.length≤i):seg l i j=[]:=by
  show List.drop i (List.take j l)=[]
  rw [List.drop_eq_nil_iff,List.length_take]; omega
theorem seg_one {l:List α} {i:Nat}:KSrt key (seg l i (i+1)):=by
  have:(seg l i (i+1)).length≤1:=by
    show (List.drop i (List.take (i+1) l)).length≤1
    rw [List.length_drop,List.length_take]; omega
  match h:seg l i (i+1) with
  | []=>exact .nil
  | [x]=>exact List.pairwise_singleton _ _
  | x::y::r=>rw [h] at this; simp at this
theorem stS_none {l:List α} {a b:Nat} (h1:a≤b) (h2:b≤l.length) (h:KSrt key (seg l a b)):stS key l a b=l:=by
  obtain ⟨P,X,Q,rfl,hP,hX,hs,hg⟩:=stS_parts (key:=key) h1 h2
  rw [hg] at h
  rw [hs,srtK_self h]
theorem stS_next {l:List α} {a i:Nat} (h1:a≤i) (h2:i < l.length):stS key (stS key l a i) a (i+1)=stS key l a (i+1):=by
  obtain ⟨P,X,Y,Q,rfl,hP,hX,hY⟩:=parts4 l (a:=a) (m:=i) (b:=i+1) h1 (by omega) h2
  rw [stS_app hP.symm (by omega),← List.append_assoc (srtK key X) Y Q,stS_app hP.symm (by rw [List.length_append,srtK_len]; omega),← List.append_assoc X Y Q,stS_app hP.symm (by rw [List.length_append]; omega)]
  rw [srtK_st ((srtK_spec X).2.app (StEq.refl Y))]
theorem ins_step {l:List α} {a i j:Nat} (d:α) (h1:a≤j) (h2:j≤i) (h3:i < l.length) (hr:∀ t,j≤t→t < i→key ((stS key l a i).getD i d) < key ((stS key l a i).getD t d)) (hl:a < j→key ((stS key l a i).getD (j - 1) d)≤key ((stS key l a i).getD i d)) :
    insAt ((stS key l a i).eraseIdx i) j ((stS key l a i).getD i d)=stS key l a (i+1):=by
  have hai:a≤i:=Nat.le_trans h1 h2
  have hs:KSrt key (seg (stS key l a i) a i):=by rw [stS_seg hai (by omega)]; exact (srtK_spec _).1
  have hlen:=stS_len (key:=key) hai (show i≤l.length by omega)
  rw [stS_one2 (key:=key) d h1 h2 (by omega) hs (fun t t1 t2=>?_) hr,stS_next hai h3]
  exact Int.le_trans (seg_le hs (by omega) t1 (show t≤j - 1 by omega) (by omega)) (hl (by omega))
theorem erase_lt {l:List α} {i t:Nat} (h:t < i) (d:α):(l.eraseIdx i).getD t d=l.getD t d:=by
  rw [List.getD_eq_getElem?_getD,List.getD_eq_getElem?_getD,List.getElem?_eraseIdx_of_lt h]
theorem insAt_selfD (E:List α) {k:Nat} (hk:k≤E.length) (x d:α):(insAt E k x).getD k d=x:=by
  rw [List.getD_eq_getElem?_getD,insAt_self E hk]; rfl
theorem insAt_ltD (E:List α) {k j:Nat} (hj:j < k) (hk:k≤E.length) (x d:α):(insAt E k x).getD j d=E.getD j d:=by
  rw [List.getD_eq_getElem?_getD,insAt_lt E hj hk,List.getD_eq_getElem?_getD]
theorem insAt_gtD (E:List α) {k j:Nat} (hj:k≤j) (hk:k≤E.length) (x d:α):(insAt E k x).getD (j+1) d=E.getD j d:=by
  rw [List.getD_eq_getElem?_getD,insAt_gt E hj hk,List.getD_eq_getElem?_getD]
def SBlk (key:α→Int) (bs:Nat) (W:List α):Prop:=∀ i,bs ∣ i→KSrt key (seg W i (i+bs))
theorem dvd_step {c i a:Nat} (h1:c ∣ i) (h2:c ∣ a) (h:i < a):i+c≤a:=by
  have:=Nat.le_of_dvd (by omega) (Nat.dvd_sub h2 h1)
  omega
structure BlkS (key:α→Int) (l:List α) (bs a:Nat) (W:List α):Prop where
  dv:bs ∣ a
  le:a≤l.length
  len:W.length=l.length
  st:StEq key W l
  done:∀ i,bs ∣ i→i < a→KSrt key (seg W i (i+bs))
theorem BlkS.init (l:List α) (bs:Nat):BlkS key l bs 0 l:=⟨Nat.dvd_zero _,Nat.zero_le _,rfl,.refl _,fun i _ h=>by omega⟩
theorem BlkS.next {l:List α} {bs a:Nat} {W:List α} (h0:0 < bs) (h:BlkS key l bs a W) (hb:a+bs≤l.length):BlkS key l bs (a+bs) (stS key W a (a+bs)):=by
  have hl:=h.len
  refine ⟨Nat.dvd_add h.dv (Nat.dvd_refl _),hb,by rw [stS_len (by omega) (by omega),hl],(stS_st (by omega) (by omega)).trans h.st,fun i hi hlt=>?_⟩
  by_cases hia:i < a
  · rw [stS_low (by omega) (by omega) (dvd_step hi h.dv hia)]; exact h.done i hi hia
  · obtain rfl:i=a:=by
      refine Classical.byContradiction fun hn=>?_
      have:=dvd_step h.dv hi (by omega)
      omega
    rw [stS_seg (by omega) (by omega)]; exact (srtK_spec _).1
theorem BlkS.fin {l:List α} {bs a:Nat} {W:List α} (h0:0 < bs) (h:BlkS key l bs a W) (hb:l.length < a+bs):SBlk key bs (stS key W a l.length)∧StEq key (stS key W a l.length) l∧(stS key W a l.length).length=l.length:=by
  have hl:=h.len
  have hle:=h.le
  have hlen:=stS_len (key:=key) (l:=W) (show a≤l.length by omega) (by omega)
  refine ⟨fun i hi=>?_,(stS_st (by omega) (by omega)).trans h.st,by omega⟩
  by_cases hia:i < a
  · rw [stS_low (by omega) (by omega) (dvd_step hi h.dv hia)]; exact h.done i hi hia
  · by_cases e:i=a
    · subst e
      rw [seg_end (by omega),hlen,hl,stS_seg (by omega) (by omega)]; exact (srtK_spec _).1
    · have:=dvd_step h.dv hi (by omega)
      rw [seg_out (by omega)]; exact .nil
structure MrgS (key:α→Int) (l:List α) (bs a:Nat) (W:List α):Prop where
  dv:2 * bs ∣ a
  le:a≤l.length
  len:W.length=l.length
  st:StEq key W l
  done:∀ i,2 * bs ∣ i→i < a→KSrt key (seg W i (i+2 * bs))
  todo:∀ i,bs ∣ i→a≤i→KSrt key (seg W i (i+bs))
theorem MrgS.init {l:List α} {bs:Nat} {W:List α} (h:SBlk key bs W) (hl:W.length=l.length) (hs:StEq key W l):MrgS key l bs 0 W :=
  ⟨Nat.dvd_zero _,Nat.zero_le _,hl,hs,fun i _ h=>by omega,fun i hi _=>h i hi⟩
theorem MrgS.dvb {l:List α} {bs a:Nat} {W:List α} (h:MrgS key l bs a W):bs ∣ a:=Nat.dvd_trans (Nat.dvd_mul_left bs 2) h.dv
theorem MrgS.pre {l:List α} {bs a:Nat} {W:List α} (h:MrgS key l bs a W):KSrt key (seg W a (a+bs))∧KSrt key (seg W (a+bs) (a+2 * bs)):=by
  refine ⟨h.todo a h.dvb (Nat.le_refl _),?_⟩
  have:=h.todo (a+bs) (Nat.dvd_add h.dvb (Nat.dvd_refl _)) (by omega)
  rwa [show a+bs+bs=a+2 * bs by omega] at this
theorem MrgS.next {l:List α} {bs a:Nat} {W:List α} (h0:0 < bs) (h:MrgS key l bs a W) (hb:a+2 * bs≤l.length):MrgS key l bs (a+2 * bs) (stS key W a (a+2 * bs)):=by
  have hl:=h.len
  refine ⟨Nat.dvd_add h.dv (Nat.dvd_refl _),hb,by rw [stS_len (by omega) (by omega),hl],(stS_st (by omega) (by omega)).trans h.st,fun i hi hlt=>?_,fun i hi hge=>?_⟩
  · by_cases hia:i < a
    · rw [stS_low (by omega) (by omega) (dvd_step hi h.dv hia)]; exact h.done i hi hia
    · obtain rfl:i=a:=by
        refine Classical.byContradiction fun hn=>?_
        have:=dvd_step h.dv hi (by omega)
        omega
      rw [stS_seg (by omega) (by omega)]; exact (srtK_spec _).1
  · rw [stS_high (by omega) (by omega) hge]; exact h.todo i hi (by omega)
theorem MrgS.fin {l:List α} {bs a:Nat} {W W':List α} (h0:0 < bs) (h:MrgS key l bs a W) (hb:l.length < a+2 * bs) (hW:W'=if a+bs < l.length then stS key W a l.length else W):SBlk key (2 * bs) W'∧StEq key W' l∧W'.length=l.length:=by
  have hl:=h.len
  have hle:=h.le
  have hlen:=stS_len (key:=key) (l:=W) (show a≤l.length by omega) (by omega)
  subst hW
  by_cases hm:a+bs < l.length
  · rw [if_pos hm]
    refine ⟨fun i hi=>?_,(stS_st (by omega) (by omega)).trans h.st,by omega⟩
    by_cases hia:i < a
    · rw [stS_low (by omega) (by omega) (dvd_step hi h.dv hia)]; exact h.done i hi hia
    · by_cases e:i=a
      · subst e
        rw [seg_end (by omega),hlen,hl,stS_seg (by omega) (by omega)]; exact (srtK_spec _).1
      · have:=dvd_step h.dv hi (by omega)
        rw [seg_out (by omega)]; exact .nil
  · rw [if_neg hm]
    refine ⟨fun i hi=>?_,h.st,hl⟩
    by_cases hia:i < a
    · exact h.done i hi hia
    · by_cases e:i=a
      · subst e
        have:=h.todo i h.dvb (Nat.le_refl _)
        rw [seg_end (by omega)] at this
        rw [seg_end (by omega)]
        exact this
      · have:=dvd_step h.dv hi (by omega)
        rw [seg_out (by omega)]; exact .nil
theorem SBlk.fin {l:List α} {bs:Nat} {W:List α} (h:SBlk key bs W) (hs:StEq key W l) (hl:W.length=l.length) (hb:l.length≤bs):W=srtK key l:=by
  have h1:=h 0 (Nat.dvd_zero _)
  have h2:seg W 0 (0+bs)=W:=by
    show List.drop 0 (List.take _ W)=W
    rw [List.drop_zero,List.take_of_length_le (by omega)]
  rw [h2] at h1
  exact (srtK_eq h1 hs).symm
end
end Go.Abs
namespace Go.Proofs.YtolgelipcgcbhaaGreat
open Go.Abs
open Nat (reduceAdd reduceSub reduceLT reduceLeDiff reduceMul reduceEqDiff)
set_option linter.unusedVariables false
set_option linter.unusedSimpArgs false
set_option maxHeartbeats 4000000
set_option maxRecDepth 100000
def c251:CF:=⟨38,(jo [jc 10 0] [0,1,2,3,10]
 (.block 0 (.loop (.seq (jo [jm 11 10,jm 12 3,jt .lss 13 11 12] [0,1,2,3,10,13]
 (.cond (.t 13) .skip
 (.exit 0)))
 (.seq (.block 1 (.draww [0,1,2,3,4,5,6,7,8,9,10,11,12,13,14,15,16,17,18,19,20,21,22,23] [4,5,6,7] 1 [jm 16 0,jm 17 1,jm 18 10,jt .add 19 17 18,jm 20 0,jm 21 2,jm 22 10,jt .add 23 21 22,jm 24 0,jm 25 2,jm 26 10,jt .add 27 25 26,ji 28 24 24 27,jk 29 24 28,jm 30 0,jm 31 1,jm 32 10,jt .add 33 31 32,ji 34 24 30 33,jk 35 24 34,ji 36 24 16 19] [js 24 36 29,ji 37 24 20 23,js 24 37 35] [0,1,2,3,10]))
 (.ops [jm 14 10,ju .add 15 14 1,jm 10 15] [0,1,2,3,10])))))),[]⟩
theorem k251:chkF Tryz.prog Tryz.f251 c251=true:=by kernel_rfl
def c238:CF:=⟨58,(jo [jm 12 2,jm 13 1,jt .sub 14 12 13,jm 10 14] [0,2,3,4,10]
 (jo [jm 15 3,jm 16 2,jt .sub 17 15 16,jm 11 17] [0,2,4,10,11]
 (.seq (.block 0 (.loop (.seq (jo [jm 18 10,jm 19 11,jt .neq 20 18 19] [0,2,4,10,11,20]
 (.cond (.t 20) .skip
 (.exit 0)))
 (.block 1 (jo [jm 21 10,jm 22 11,jt .gtr 23 21 22] [0,2,4,10,11,23]
 (.cond (.t 23) (jo [jm 24 0,jm 25 2,jm 26 10,jt .sub 27 25 26,jm 28 2,jm 29 11,jm 30 4,jy 31 251 [24,27,28,29,30]] [0,2,4,10,11]
 (.ops [jm 32 10,jm 33 11,jt .sub 34 32 33,jm 10 34] [0,2,4,10,11]))
 (jo [jm 35 0,jm 36 2,jm 37 10,jt .sub 38 36 37,jm 39 2,jm 40 11,jt .add 41 39 40,jm 42 10,jt .sub 43 41 42,jm 44 10,jm 45 4,jy 46 251 [35,38,43,44,45]] [0,2,4,10,11]
 (.ops [jm 47 11,jm 48 10,jt .sub 49 47 48,jm 11 49] [0,2,4,10,11]))))))))
 (.ops [jm 50 0,jm 51 2,jm 52 10,jt .sub 53 51 52,jm 54 2,jm 55 10,jm 56 4,jy 57 251 [50,53,54,55,56]] [])))),[]⟩
theorem k238:chkF Tryz.prog Tryz.f238 c238=true:=by kernel_rfl
abbrev obF (l:List Fld):Ob:=⟨72,24,l.map Fld.cs,none⟩
abbrev wkC:AV:=.fn (.func 100) [] []
def fz0:Fld:=⟨nm0,0,0,sht0,[],[]⟩
theorem row24 (W:List Fld) (i j:Nat) (v:Fld):List.drop 24 (((W.map Fld.cs).set i v.cs).getD j [])=[]:=by
  have:((W.map Fld.cs).set i v.cs)=(W.set i v).map Fld.cs:=by rw [List.map_set]
  rw [this,List.getD_eq_getElem?_getD,List.getElem?_map]
  cases (W.set i v)[j]? <;> rfl
theorem swapRange_does (σ:Sto) (f N:Nat) (l:List Fld) (a b m:Nat) (hf:σ.at f 0=some (obF l)) (hn:l.length=N) (h1:a+m≤b) (h2:b+m≤N) (hl:N < 1099511627776) :
    Does Tryz.prog 251 [.own f 0 N,n a,n b,n m,wkC] σ (fun _ σ'=>σ'=σ.upd f 0 (obF (swp l a b m))):=by
  refine Does.of_body Tryz.call251 Tryz.func251 k251 (Nat.le_of_ble_eq_true rfl) ?_
  unfold c251
  ((refine Au ?_;repeat' first|exact True.intro|refine Cj.mk ?_ ?_)<;>intros<;>refine hD_ ?_)
  refine AWPC.loopE (α:={ i:Nat // i≤m }) [10] (fun i=>[(10,n i.1)]) (fun i=>σ.upd f 0 (obF (swp l a b i.1))) (fun i=>m - i.1) ⟨0,Nat.zero_le _⟩ ?_ (by simp only; rw [swp_zero l (by omega) (by omega),upd_self hf]) ?_
  · (simp only [zN,zT,zV,zS,zU,vcC,lateX,ex,strp,binA,elems,cells,scalar,eqC,keyA,intsA,lookA,ofVs,mpOf,Nat.reduceBEq,reduceAdd,reduceSub,reduceLT,reduceLeDiff,reduceMul,reduceEqDiff,reduceIte]; try simp)
  · rintro ⟨i,hi⟩
    simp only
    have hWl:(swp l a b i).length=N:=(swp_len (by omega) (by omega)).trans hn
    have hN:∀ u v,i < m→(swp l a b i)[a+i]?=some u→(swp l a b i)[b+i]?=some v→((swp l a b i).set (a+i) v).set (b+i) u=swp l a b (i+1):=fun u v h hu hv=>swp_next (by omega) (by omega) hu hv
    have hC:∀ o,Sto.at (σ.upd f 0 o) f 0=some o:=fun o=>at_upd_same hf
    have hD:∀ o o',(σ.upd f 0 o).upd f 0 o'=σ.upd f 0 o':=fun o o'=>upd_upd hf
    by_cases hlt:i < m
    · generalize swp l a b i=W at hWl hN
      have e1:(W.map Fld.cs).getD ((a:Int)+(i:Int)).toNat []=Fld.cs (W.getD (a+i) fz0):=by rw [show ((a:Int)+(i:Int)).toNat=a+i by omega]; exact row fz0 (by omega)
      have e2:(W.map Fld.cs).getD ((b:Int)+(i:Int)).toNat []=Fld.cs (W.getD (b+i) fz0):=by rw [show ((b:Int)+(i:Int)).toNat=b+i by omega]; exact row fz0 (by omega)
      have hN:=hN _ _ hlt (getD_lt fz0 (by omega)) (getD_lt fz0 (by omega))
      have e3:∀ u v:Fld,((W.map Fld.cs).set ((a:Int)+(i:Int)).toNat v.cs).set ((b:Int)+(i:Int)).toNat u.cs=((W.set (a+i) v).set (b+i) u).map Fld.cs:=fun u v=>by
        rw [show ((a:Int)+(i:Int)).toNat=a+i by omega,show ((b:Int)+(i:Int)).toNat=b+i by omega,List.map_set,List.map_set]
      generalize W.getD (a+i) fz0=u at e1 hN
      generalize W.getD (b+i) fz0=v at e2 hN
      have e3:=e3 u v
      rw [hN] at e3
      have e4:List.drop 24 (((W.map Fld.cs).set ((a:Int)+(i:Int)).toNat v.cs).getD ((b:Int)+(i:Int)).toNat [])=[]:=row24 _ _ _ _
      clear hN
      (repeat' ((first
 | refine vn rfl ?_
 | simp (disch:=omega) only [wr64,Int.zero_sub]
 | refine bo (fun _=>?_) fun _=>?_
 | refine im fun _=>?_
 | refine cF ?_
 | refine om ?_
 | refine an ?_
 | fail) <;> try simp only [zN,zT,zV,zS,zU,vcC,lateX,ex,strp,binA,elems,cells,scalar,eqC,keyA,intsA,lookA,ofVs,mpOf,Nat.reduceBEq,reduceAdd,reduceSub,reduceLT,reduceLeDiff,reduceMul,reduceEqDiff,reduceIte,hC,hD,hWl,e1,e2,e4,List.length_map,List.length_set]))
      all_goals try (exfalso; omega)
      exact ⟨⟨i+1,hlt⟩,by simp,by rw [e3],by simp only; omega⟩
    · obtain rfl:i=m:=by omega
      ((refine Au ?_;repeat' first|exact True.intro|refine Cj.mk ?_ ?_)<;>intros<;>refine hD_ ?_)
      all_goals try (exfalso; omega)
theorem rotate_does (σ:Sto) (f N:Nat) (l:List Fld) (a m b:Nat) (hf:σ.at f 0=some (obF l)) (hn:l.length=N) (h1:a < m) (h2:m < b) (h3:b≤N) (hl:N < 1099511627776) :
    Does Tryz.prog 238 [.own f 0 N,n a,n m,n b,wkC] σ (fun _ σ'=>σ'=σ.upd f 0 (obF (rot l a m b))):=by
  refine Does.of_body Tryz.call238 Tryz.func238 k238 (Nat.le_of_ble_eq_true rfl) ?_
  unfold c238
  ((refine Au ?_;repeat' first|exact True.intro|refine Cj.mk ?_ ?_)<;>intros<;>refine hD_ ?_)
  refine AWPC.loopE (α:={ x:Nat × Nat × List Fld // 0 < x.1∧0 < x.2.1∧x.1≤m∧m+x.2.1≤N∧x.2.2.length=N∧rot x.2.2 (m - x.1) m (m+x.2.1)=rot l a m b }) [10,11] (fun x=>[(10,n x.1.1),(11,n x.1.2.1)]) (fun x=>σ.upd f 0 (obF x.1.2.2)) (fun x=>x.1.1+x.1.2.1)
    ⟨(m - a,b - m,l),by dsimp only; omega,by dsimp only; omega,by dsimp only; omega,by dsimp only; omega,hn,by dsimp only; rw [show m - (m - a)=a by omega,show m+(b - m)=b by omega]⟩ ?_ (by simp only; rw [upd_self hf]) ?_
  · (simp only [zN,zT,zV,zS,zU,vcC,lateX,ex,strp,binA,elems,cells,scalar,eqC,keyA,intsA,lookA,ofVs,mpOf,Nat.reduceBEq,reduceAdd,reduceSub,reduceLT,reduceLeDiff,reduceMul,reduceEqDiff,reduceIte]; try simp)
    omega
  · rintro ⟨⟨i,j,W⟩,hi,hj,him,hjn,hW,hR⟩
    simp only at hi hj him hjn hW hR ⊢
    have hC:Sto.at (σ.upd f 0 (obF W)) f 0=some (obF W):=at_upd_same hf
    have hD:∀ o,(σ.upd f 0 (obF W)).upd f 0 o=σ.upd f 0 o:=fun o=>upd_upd hf
    have hcall:∀ u v w:Nat,u+w≤v→v+w≤N→Does Tryz.prog 251 [.own f 0 N,n u,n v,n w,wkC] (σ.upd f 0 (obF W)) (fun _ σ'=>σ'=σ.upd f 0 (obF (swp W u v w))):=fun u v w k1 k2=>by
      have:=swapRange_does (σ.upd f 0 (obF W)) f N W u v w hC hW k1 k2 hl
      simp only [hD] at this
      exact this
    have hmi:((m - i:Nat):Int)=(m:Int) - (i:Int):=by omega
    rcases Nat.lt_trichotomy i j with h | h | h
    · have hc:=hcall (m - i) (m+j - i) i (by omega) (by omega)
      have hN:=rot_lt (l:=W) (a:=m - i) (m:=m) (b:=m+j) (by omega) (by omega) (by omega) (by omega)
      rw [show m - (m - i)=i by omega] at hN
      have hWl:=swp_len (l:=W) (a:=m - i) (b:=m+j - i) (i:=i) (by omega) (by omega)
      rw [hmi,show ((m+j - i:Nat):Int)=(m:Int)+(j:Int) - (i:Int) by omega] at hc
      ((refine Au ?_;repeat' first|exact True.intro|refine Cj.mk ?_ ?_)<;>intros<;>refine hD_ ?_)
      all_goals try (exfalso; omega)
      refine .inr (.inl ⟨_,_,_,_,rfl,fun _=>⟨hc,?_⟩,fun h=>by cases h⟩)
      rintro r σ' rfl
      refine owp_of_exs ?_
      simp only [zN,zT,zV,zS,zU,vcC,lateX,ex,strp,binA,elems,cells,scalar,eqC,keyA,intsA,lookA,ofVs,mpOf,Nat.reduceBEq,reduceAdd,reduceSub,reduceLT,reduceLeDiff,reduceMul,reduceEqDiff,reduceIte]
      ((refine Au ?_;repeat' first|exact True.intro|refine Cj.mk ?_ ?_)<;>intros<;>refine hD_ ?_)
      exact ⟨⟨(i,j - i,swp W (m - i) (m+j - i) i),hi,by dsimp only; omega,him,by dsimp only; omega,hWl.trans hW,by dsimp only; rw [show m+(j - i)=m+j - i by omega,hN,hR]⟩,by simp; omega,rfl,by simp only; omega⟩
    · subst h
      have hc:=hcall (m - i) m i (by omega) (by omega)
      rw [hmi] at hc
      have hN:=rot_eq (l:=W) (a:=m - i) (m:=m) (b:=m+i) (by omega) (by omega) (by omega) (by omega)
      rw [show m - (m - i)=i by omega,hR] at hN
      ((refine Au ?_;repeat' first|exact True.intro|refine Cj.mk ?_ ?_)<;>intros<;>refine hD_ ?_)
      all_goals try (exfalso; omega)
      refine .inr (.inl ⟨_,_,_,_,rfl,fun _=>⟨hc,?_⟩,fun h=>by cases h⟩)
      rintro r σ' rfl
      refine owp_of_exs ?_
      simp only [zN,zT,zV,zS,zU,vcC,lateX,ex,strp,binA,elems,cells,scalar,eqC,keyA,intsA,lookA,ofVs,mpOf,Nat.reduceBEq,reduceAdd,reduceSub,reduceLT,reduceLeDiff,reduceMul,reduceEqDiff,reduceIte]
      rw [hN]
    · have hc:=hcall (m - i) m j (by omega) (by omega)
      rw [hmi] at hc
      have hN:=rot_gt (l:=W) (a:=m - i) (m:=m) (b:=m+j) (by omega) (by omega) (by omega) (by omega)
      rw [show m+j - m=j by omega,hR] at hN
      have hWl:=swp_len (l:=W) (a:=m - i) (b:=m) (i:=j) (by omega) (by omega)
      ((refine Au ?_;repeat' first|exact True.intro|refine Cj.mk ?_ ?_)<;>intros<;>refine hD_ ?_)
      all_goals try (exfalso; omega)
      refine .inr (.inl ⟨_,_,_,_,rfl,fun _=>⟨hc,?_⟩,fun h=>by cases h⟩)
      rintro r σ' rfl
      refine owp_of_exs ?_
      simp only [zN,zT,zV,zS,zU,vcC,lateX,ex,strp,binA,elems,cells,scalar,eqC,keyA,intsA,lookA,ofVs,mpOf,Nat.reduceBEq,reduceAdd,reduceSub,reduceLT,reduceLeDiff,reduceMul,reduceEqDiff,reduceIte]
      ((refine Au ?_;repeat' first|exact True.intro|refine Cj.mk ?_ ?_)<;>intros<;>refine hD_ ?_)
      exact ⟨⟨(i - j,j,swp W (m - i) m j),by dsimp only; omega,hj,by dsimp only; omega,hjn,hWl.trans hW,by dsimp only; rw [show m - (i - j)=m - i+j by omega,hN]⟩,by simp; omega,rfl,by simp only; omega⟩
theorem sgn_lt {a b:Int}:sgn a b < 0↔a < b:=by unfold sgn; repeat' split <;> omega
theorem insertion_does (σ:Sto) (f N:Nat) (l:List Fld) (a b:Nat) (hf:σ.at f 0=some (obF l)) (hn:l.length=N) (h1:a≤b) (h2:b≤N) (hl:N < 1099511627776) :
    Does Tryz.prog 213 [.own f 0 N,n a,n b,wkC] σ (fun _ σ'=>σ'=σ.upd f 0 (obF (stS Fld.stn l a b))):=by
  refine Does.of_body Tryz.call213 Tryz.func213 k213 (Nat.le_of_ble_eq_true rfl) ?_
  unfold c213
  by_cases hab:a=b
  · subst hab
    have hz:stS Fld.stn l a a=l:=by
      refine stS_none (Nat.le_refl _) (by omega) ?_
      have:seg l a a=[]:=by
        show List.drop a (List.take a l)=[]
        rw [List.drop_eq_nil_iff,List.length_take]; omega
      rw [this]; exact .nil
    rw [hz,upd_self hf]
    ((refine Au ?_;repeat' first|exact True.intro|refine Cj.mk ?_ ?_)<;>intros<;>refine hD_ ?_)
    refine AWPC.loopS (α:=Unit) [8] (fun _=>[(8,n ((a:Int)+1))]) (fun _=>0) () ?_ ?_
    · (simp only [zN,zT,zV,zS,zU,vcC,lateX,ex,strp,binA,elems,cells,scalar,eqC,keyA,intsA,lookA,ofVs,mpOf,Nat.reduceBEq,reduceAdd,reduceSub,reduceLT,reduceLeDiff,reduceMul,reduceEqDiff,reduceIte]; try simp)
    · rintro ⟨⟩
      ((refine Au ?_;repeat' first|exact True.intro|refine Cj.mk ?_ ?_)<;>intros<;>refine hD_ ?_)
      all_goals first | (exfalso; omega) | rfl
  ((refine Au ?_;repeat' first|exact True.intro|refine Cj.mk ?_ ?_)<;>intros<;>refine hD_ ?_)
  refine AWPC.loopE (α:={ i:Nat // a+1≤i∧i≤b }) [8] (fun i=>[(8,n i.1)]) (fun i=>σ.upd f 0 (obF (stS Fld.stn l a i.1))) (fun i=>b - i.1) ⟨a+1,by omega,by omega⟩ ?_ (by simp only; rw [stS_none (by omega) (by omega) seg_one,upd_self hf]) ?_
  · (simp only [zN,zT,zV,zS,zU,vcC,lateX,ex,strp,binA,elems,cells,scalar,eqC,keyA,intsA,lookA,ofVs,mpOf,Nat.reduceBEq,reduceAdd,reduceSub,reduceLT,reduceLeDiff,reduceMul,reduceEqDiff,reduceIte]; try simp)
  · rintro ⟨i,hi,hib⟩
    simp only at hi hib ⊢
    by_cases hlt:i < b
    · obtain ⟨W,hW⟩:∃ W,W=stS Fld.stn l a i:=⟨_,rfl⟩
      have hWl:W.length=N:=by rw [hW,stS_len (by omega) (by omega),hn]
      have hfin:∀ j,a≤j→j≤i→(∀ t,j≤t→t < i→(W.getD i fz0).stn < (W.getD t fz0).stn)→(a < j→(W.getD (j - 1) fz0).stn≤(W.getD i fz0).stn)→insAt (W.eraseIdx i) j (W.getD i fz0)=stS Fld.stn l a (i+1):=fun j k1 k2 k3 k4=>by
        rw [hW]; rw [hW] at k3 k4
        exact ins_step fz0 k1 k2 (by omega) k3 k4
      have h0:=erase_ins (l:=W) (a:=i) (by omega) fz0
      have hEl:(W.eraseIdx i).length=N - 1:=by rw [List.length_eraseIdx_of_lt (by omega),hWl]
      have hEg:∀ t,t < i→(W.eraseIdx i).getD t fz0=W.getD t fz0:=fun t ht=>erase_lt ht fz0
      rw [← hW]
      clear hW
      obtain ⟨x,hx⟩:∃ x,x=W.getD i fz0:=⟨_,rfl⟩
      obtain ⟨E,hE⟩:∃ E,E=W.eraseIdx i:=⟨_,rfl⟩
      rw [← hx,← hE] at h0 hfin
      rw [← hE] at hEl hEg
      rw [← h0]
      clear hx hE
      ((refine Au ?_;repeat' first|exact True.intro|refine Cj.mk ?_ ?_)<;>intros<;>refine hD_ ?_)
      all_goals try (exfalso; omega)
      refine AWPC.loopE (α:={ j:Nat // a≤j∧j≤i∧∀ t,j≤t→t < i→x.stn < (E.getD t fz0).stn }) [9] (fun j=>[(9,n j.1)]) (fun j=>σ.upd f 0 (obF (insAt E j.1 x))) (fun j=>j.1) ⟨i,by omega,by omega,fun t k1 k2=>by omega⟩ ?_ rfl ?_
      · (simp only [zN,zT,zV,zS,zU,vcC,lateX,ex,strp,binA,elems,cells,scalar,eqC,keyA,intsA,lookA,ofVs,mpOf,Nat.reduceBEq,reduceAdd,reduceSub,reduceLT,reduceLeDiff,reduceMul,reduceEqDiff,reduceIte]; try simp)
      · rintro ⟨j,hj,hji,hI⟩
        simp only at hj hji hI ⊢
        have hC:∀ o,Sto.at (σ.upd f 0 o) f 0=some o:=fun o=>at_upd_same hf
        have hD:∀ o o',(σ.upd f 0 o).upd f 0 o'=σ.upd f 0 o':=fun o o'=>upd_upd hf
        have hVl:(insAt E j x).length=N:=by rw [insAt_len,hEl]; omega
        have g1:(insAt E j x).getD j fz0=x:=insAt_selfD E (by omega) x fz0
        have r1:((insAt E j x).map Fld.cs).getD j []=Fld.cs x:=by rw [row fz0 (by omega),g1]
        by_cases hja:a < j
        · have g2:(insAt E j x).getD (j - 1) fz0=E.getD (j - 1) fz0:=insAt_ltD E (by omega) (by omega) x fz0
          have r2:((insAt E j x).map Fld.cs).getD ((j:Int) - 1).toNat []=Fld.cs (E.getD (j - 1) fz0):=by rw [show ((j:Int) - 1).toNat=j - 1 by omega,row fz0 (by omega),g2]
          have hw:=week1_spec x (E.getD (j - 1) fz0)
          by_cases hc:x.stn < (E.getD (j - 1) fz0).stn
          · have hs:=sgn_lt.2 hc
            have hN:=insAt_down E (k:=j - 1) (by omega) x (E.getD (j - 1) fz0) (getD_lt fz0 (by omega))
            rw [show j - 1+1=j by omega] at hN
            have e3:∀ v:Fld,(((insAt E j x).map Fld.cs).set j v.cs).set ((j:Int) - 1).toNat x.cs=(((insAt E j x).set j v).set (j - 1) x).map Fld.cs:=fun v=>by
              rw [show ((j:Int) - 1).toNat=j - 1 by omega,List.map_set,List.map_set]
            have e3:=e3 (E.getD (j - 1) fz0)
            rw [hN] at e3
            have e4:List.drop 24 ((((insAt E j x).map Fld.cs).set j (E.getD (j - 1) fz0).cs).getD ((j:Int) - 1).toNat [])=[]:=row24 _ _ _ _
            have hI':∀ t,j - 1≤t→t < i→x.stn < (E.getD t fz0).stn:=fun t k1 k2=>by
              rcases (show t=j - 1∨j≤t by omega) with rfl | k3
              · exact hc
              · exact hI t k3 k2
            generalize E.getD (j - 1) fz0=v at r2 hw hc hs e3 e4
            clear hN
            (repeat' ((first
 | refine vn rfl ?_
 | simp (disch:=omega) only [wr64,Int.zero_sub]
 | refine bo (fun _=>?_) fun _=>?_
 | refine im fun _=>?_
 | ((repeat refine si ?_); (first | ((first | refine .inl ⟨_,_,_,_,rfl,fun _=>pu hw,?_⟩ | refine ⟨_,_,_,_,rfl,fun _=>pu hw,?_⟩); (first | refine o1 ?_ | refine o2 ?_ | refine o3 ?_ | refine o4 ?_)) | refine .inl ⟨_,_,_,_,rfl,pu hw,?_⟩))
 | refine cF ?_
 | refine om ?_
 | refine an ?_
 | fail) <;> try simp only [zN, zT, zV, zS, zU, vcC, lateX, ex, strp, binA, elems, cells, scalar, eqC, keyA, intsA, lookA, ofVs, mpOf, Nat.reduceBEq, reduceAdd, reduceSub, reduceLT, reduceLeDiff, reduceMul, reduceEqDiff, reduceIte, hC, hD, hVl, r1, r2, e4, List.length_map, List.length_set]))
            all_goals try (exfalso; omega)
            exact ⟨⟨j - 1,by omega,by omega,hI'⟩,by simp; omega,by rw [e3],by simp only; omega⟩
          · have hs:¬ sgn x.stn (E.getD (j - 1) fz0).stn < 0:=fun h=>hc (sgn_lt.1 h)
            have hF:=hfin j hj hji (fun t k1 k2=>by rw [← hEg t k2]; exact hI t k1 k2) (fun _=>by rw [← hEg _ (by omega)]; omega)
            generalize E.getD (j - 1) fz0=v at r2 hw hc hs
            (repeat' ((first
 | refine vn rfl ?_
 | simp (disch:=omega) only [wr64,Int.zero_sub]
 | refine bo (fun _=>?_) fun _=>?_
 | refine im fun _=>?_
 | ((repeat refine si ?_); (first | ((first | refine .inl ⟨_,_,_,_,rfl,fun _=>pu hw,?_⟩ | refine ⟨_,_,_,_,rfl,fun _=>pu hw,?_⟩); (first | refine o1 ?_ | refine o2 ?_ | refine o3 ?_ | refine o4 ?_)) | refine .inl ⟨_,_,_,_,rfl,pu hw,?_⟩))
 | refine cF ?_
 | refine om ?_
 | refine an ?_
 | fail) <;> try simp only [zN, zT, zV, zS, zU, vcC, lateX, ex, strp, binA, elems, cells, scalar, eqC, keyA, intsA, lookA, ofVs, mpOf, Nat.reduceBEq, reduceAdd, reduceSub, reduceLT, reduceLeDiff, reduceMul, reduceEqDiff, reduceIte, hC, hD, hVl, r1, r2, List.length_map, List.length_set]))
            all_goals try (exfalso; omega)
            exact ⟨⟨i+1,by omega,by omega⟩,by simp,by rw [hF],by simp only; omega⟩
        · obtain rfl:j=a:=by omega
          have hF:=hfin j hj hji (fun t k1 k2=>by rw [← hEg t k2]; exact hI t k1 k2) (fun h=>absurd h hja)
          have r2:((insAt E j x).map Fld.cs).getD ((j:Int) - 1).toNat []=[]∨∃ y:Fld,((insAt E j x).map Fld.cs).getD ((j:Int) - 1).toNat []=y.cs:=by
            exact .inr ⟨_,row fz0 (by omega)⟩
          obtain ⟨y,r2⟩:∃ y:Fld,((insAt E j x).map Fld.cs).getD ((j:Int) - 1).toNat []=y.cs:=⟨_,row fz0 (by omega)⟩
          have hw:=week1_spec x y
          (repeat' ((first
 | refine vn rfl ?_
 | simp (disch:=omega) only [wr64,Int.zero_sub]
 | refine bo (fun _=>?_) fun _=>?_
 | refine im fun _=>?_
 | ((repeat refine si ?_); (first | ((first | refine .inl ⟨_,_,_,_,rfl,fun _=>pu hw,?_⟩ | refine ⟨_,_,_,_,rfl,fun _=>pu hw,?_⟩); (first | refine o1 ?_ | refine o2 ?_ | refine o3 ?_ | refine o4 ?_)) | refine .inl ⟨_,_,_,_,rfl,pu hw,?_⟩))
 | refine cF ?_
 | refine om ?_
 | refine an ?_
 | fail) <;> try simp only [zN, zT, zV, zS, zU, vcC, lateX, ex, strp, binA, elems, cells, scalar, eqC, keyA, intsA, lookA, ofVs, mpOf, Nat.reduceBEq, reduceAdd, reduceSub, reduceLT, reduceLeDiff, reduceMul, reduceEqDiff, reduceIte, hC, hD, hVl, r1, r2, List.length_map, List.length_set]))
          all_goals try (exfalso; omega)
          exact ⟨⟨i+1,by omega,by omega⟩,by simp,by rw [hF],by simp only; omega⟩
    · obtain rfl:i=b:=by omega
      ((refine Au ?_;repeat' first|exact True.intro|refine Cj.mk ?_ ?_)<;>intros<;>refine hD_ ?_)
      all_goals try (exfalso; omega)
def c214:CF:=⟨220,(.seq (jo [jm 25 2,jm 26 1,jt .sub 27 25 26,ju .eql 28 27 1] [0,1,2,3,4,28]
 (.cond (.t 28) (jo [jm 29 2,jm 10 29] [0,1,3,4,10]
 (jo [jm 30 3,jm 11 30] [0,1,4,10,11]
 (.seq (.block 0 (.loop (.seq (jo [jm 31 10,jm 32 11,jt .lss 33 31 32] [0,1,4,10,11,33]
 (.cond (.t 33) .skip
 (.exit 0)))
 (.block 1 (jo [jm 34 10,jm 35 11,jt .add 36 34 35,jw 37 (.cnv .u64 (.t 36)),jw 38 (.bin .shr (.t 37) (.c (.int .u64 1))),jw 39 (.cnv .i64 (.t 38)),jm 12 39] [0,1,4,10,11,12]
 (.seq (.draw [jm 40 4,jm 41 0,jm 42 12,ji 43 24 41 42,jk 44 24 43,jm 45 0,jm 46 1,ji 47 24 45 46,jk 48 24 47] [jw 49 (.call (.t 40) [(.t 44),(.t 48)]),ju .lss 50 49 0] [0,1,4,10,11,12,50])
 (.cond (.t 50) (.ops [jm 51 12,ju .add 52 51 1,jm 10 52] [0,1,4,10,11])
 (.ops [jm 53 12,jm 11 53] [0,1,4,10,11]))))))))
 (.seq (jo [jm 54 1,jm 13 54] [0,10,13]
 (.block 2 (.loop (.seq (jo [jm 55 13,jm 56 10,ju .sub 57 56 1,jt .lss 58 55 57] [0,10,13,58]
 (.cond (.t 58) .skip
 (.exit 2)))
 (.seq (.block 3 (.draww [0,1,2,3,4,5,6,7,8,9,10,11,12,13,14,15,16,17] [2,3,4] 1 [jm 61 0,jm 62 13,jm 63 0,jm 64 13,ju .add 65 64 1,jm 66 0,jm 67 13,ju .add 68 67 1,ji 69 24 66 68,jk 70 24 69,jm 71 0,jm 72 13,ji 73 24 71 72,jk 74 24 73,ji 75 24 61 62] [js 24 75 70,ji 76 24 63 65,js 24 76 74] [0,10,13]))
 (.ops [jm 59 13,ju .add 60 59 1,jm 13 60] [0,10,13]))))))
 .ret))))
 .skip))
 (.seq (jo [jm 77 3,jm 78 2,jt .sub 79 77 78,ju .eql 80 79 1] [0,1,2,3,4,80]
 (.cond (.t 80) (jo [jm 81 1,jm 14 81] [0,2,4,14]
 (jo [jm 82 2,jm 15 82] [0,2,4,14,15]
 (.seq (.block 4 (.loop (.seq (jo [jm 83 14,jm 84 15,jt .lss 85 83 84] [0,2,4,14,15,85]
 (.cond (.t 85) .skip
 (.exit 4)))
 (.block 5 (jo [jm 86 14,jm 87 15,jt .add 88 86 87,jw 89 (.cnv .u64 (.t 88)),jw 90 (.bin .shr (.t 89) (.c (.int .u64 1))),jw 91 (.cnv .i64 (.t 90)),jm 16 91] [0,2,4,14,15,16]
 (.seq (.draw [jm 92 4,jm 93 0,jm 94 2,ji 95 24 93 94,jk 96 24 95,jm 97 0,jm 98 16,ji 99 24 97 98,jk 100 24 99] [jw 101 (.call (.t 92) [(.t 96),(.t 100)]),ju .lss 102 101 0,jv 103 102] [0,2,4,14,15,16,103])
 (.cond (.t 103) (.ops [jm 104 16,ju .add 105 104 1,jm 14 105] [0,2,4,14,15])
 (.ops [jm 106 16,jm 15 106] [0,2,4,14,15]))))))))
 (.seq (jo [jm 107 2,jm 17 107] [0,14,17]
 (.block 6 (.loop (.seq (jo [jm 108 17,jm 109 14,jt .gtr 110 108 109] [0,14,17,110]
 (.cond (.t 110) .skip
 (.exit 6)))
 (.seq (.block 7 (.draww [0,1,2,3,4,5,6,7,8,9,10,11,12,13,14,15,16,17] [2,3,4] 1 [jm 113 0,jm 114 17,jm 115 0,jm 116 17,ju .sub 117 116 1,jm 118 0,jm 119 17,ju .sub 120 119 1,ji 121 24 118 120,jk 122 24 121,jm 123 0,jm 124 17,ji 125 24 123 124,jk 126 24 125,ji 127 24 113 114] [js 24 127 122,ji 128 24 115 117,js 24 128 126] [0,14,17]))
 (.ops [jm 111 17,ju .sub 112 111 1,jm 17 112] [0,14,17]))))))
 .ret))))
 .skip))
 (jo [jm 129 1,jm 130 3,jt .add 131 129 130,jw 132 (.cnv .u64 (.t 131)),jw 133 (.bin .shr (.t 132) (.c (.int .u64 1))),jw 134 (.cnv .i64 (.t 133)),jm 18 134] [0,1,2,3,4,18]
 (jo [jm 135 18,jm 136 2,jt .add 137 135 136,jm 19 137] [0,1,2,3,4,18,19]
 (jo [jc 20 0,jc 21 0] [0,1,2,3,4,18,19]
 (.seq (jo [jm 138 2,jm 139 18,jt .gtr 140 138 139] [0,1,2,3,4,18,19,140]
 (.cond (.t 140) (jo [jm 141 19,jm 142 3,jt .sub 143 141 142,jm 20 143] [0,1,2,3,4,18,19,20]
 (.ops [jm 144 18,jm 21 144] [0,1,2,3,4,18,19,20,21]))
 (jo [jm 145 1,jm 20 145] [0,1,2,3,4,18,19,20]
 (.ops [jm 146 2,jm 21 146] [0,1,2,3,4,18,19,20,21]))))
 (jo [jm 147 19,ju .sub 148 147 1,jm 22 148] [0,1,2,3,4,18,19,20,21,22]
 (.seq (.block 8 (.loop (.seq (jo [jm 149 20,jm 150 21,jt .lss 151 149 150] [0,1,2,3,4,18,19,20,21,22,151]
 (.cond (.t 151) .skip
 (.exit 8)))
 (.block 9 (jo [jm 152 20,jm 153 21,jt .add 154 152 153,jw 155 (.cnv .u64 (.t 154)),jw 156 (.bin .shr (.t 155) (.c (.int .u64 1))),jw 157 (.cnv .i64 (.t 156)),jm 23 157] [0,1,2,3,4,18,19,20,21,22,23]
 (.seq (.draw [jm 158 4,jm 159 0,jm 160 22,jm 161 23,jt .sub 162 160 161,ji 163 24 159 162,jk 164 24 163,jm 165 0,jm 166 23,ji 167 24 165 166,jk 168 24 167] [jw 169 (.call (.t 158) [(.t 164),(.t 168)]),ju .lss 170 169 0,jv 171 170] [0,1,2,3,4,18,19,20,21,22,23,171])
 (.cond (.t 171) (.ops [jm 172 23,ju .add 173 172 1,jm 20 173] [0,1,2,3,4,18,19,20,21,22])
 (.ops [jm 174 23,jm 21 174] [0,1,2,3,4,18,19,20,21,22]))))))))
 (jo [jm 175 19,jm 176 20,jt .sub 177 175 176,jm 24 177] [0,1,2,3,4,18,20,24]
 (.seq (jo [jm 178 20,jm 179 2,jt .lss 180 178 179,jm 181 180,ja 181 (jm 182 2),ja 181 (jm 183 24),ja 181 (jt .lss 184 182 183),jp 185 181 184] [0,1,2,3,4,18,20,24,185]
 (.cond (.t 185) (.ops [jm 186 0,jm 187 20,jm 188 2,jm 189 24,jm 190 4,jy 191 238 [186,187,188,189,190]] [0,1,3,4,18,20,24])
 .skip))
 (.seq (jo [jm 192 1,jm 193 20,jt .lss 194 192 193,jm 195 194,ja 195 (jm 196 20),ja 195 (jm 197 18),ja 195 (jt .lss 198 196 197),jp 199 195 198] [0,1,3,4,18,20,24,199]
 (.cond (.t 199) (.ops [jm 200 0,jm 201 1,jm 202 20,jm 203 18,jm 204 4,jy 205 214 [200,201,202,203,204]] [0,3,4,18,24])
 .skip))
 (jo [jm 206 18,jm 207 24,jt .lss 208 206 207,jm 209 208,ja 209 (jm 210 24),ja 209 (jm 211 3),ja 209 (jt .lss 212 210 211),jp 213 209 212] [0,3,4,18,24,213]
 (.cond (.t 213) (.ops [jm 214 0,jm 215 18,jm 216 24,jm 217 3,jm 218 4,jy 219 214 [214,215,216,217,218]] [])
 .skip))))))))))))),[]⟩
theorem k214:chkF Tryz.prog Tryz.f214 c214=true:=by kernel_rfl
theorem mid2 (x y:Nat) (h:x+y < 4398046511104):IntKind.wrap .i64 (Int.fdiv (IntKind.wrap .u64 ((x:Int)+(y:Int))) (2 ^ min (Int.toNat 1) (IntKind.bits .u64)))=(((x+y) / 2:Nat):Int):=by
  have h1:IntKind.wrap .u64 ((x:Int)+(y:Int))=(x:Int)+(y:Int):=by
    rw [IntKind.wrap_u64]; omega
  rw [h1]
  have h2:Int.fdiv ((x:Int)+(y:Int)) (2 ^ min (Int.toNat 1) (IntKind.bits .u64))=(((x+y) / 2:Nat):Int):=by
    show Int.fdiv _ (2 ^ min 1 64)=_
    rw [Int.fdiv_eq_ediv_of_nonneg _ (by decide)]
    show ((x:Int)+(y:Int)) / 2=_
    omega
  rw [h2]
  exact wr64 _ (by omega) (by omega)
inductive SymI (m:Env) (S:Sto) (Q:Nat→Nat→Prop) (env:Env):Sto→Prop
  | mk (s r:Nat) (hq:Q s r) (h:Sub ((20,n s)::(21,n r)::m) env):SymI m S Q env S
inductive SymT (m:Env) (S:Sto) (env:Env):Sto→Prop
  | mk (h:Sub m env):SymT m S env S
theorem symMerge_does (M:Nat):∀ (σ:Sto) (f N:Nat) (l:List Fld) (a m b:Nat),b - a≤M→σ.at f 0=some (obF l)→l.length=N→a < m→m < b→b≤N→N < 1099511627776→KSrt Fld.stn (seg l a m)→KSrt Fld.stn (seg l m b) →
    Does Tryz.prog 214 [.own f 0 N,n a,n m,n b,wkC] σ (fun _ σ'=>σ'=σ.upd f 0 (obF (stS Fld.stn l a b))):=by
  induction M with
  | zero=>intro σ f N l a m b h0 _ _ h1 h2; omega
  | succ M ih =>
    intro σ f N l a m b h0 hf hn h1 h2 h3 hl hX hY
    refine Does.of_body Tryz.call214 Tryz.func214 k214 (Nat.le_of_ble_eq_true rfl) ?_
    unfold c214
    have hC:∀ o,Sto.at (σ.upd f 0 o) f 0=some o:=fun o=>at_upd_same hf
    have hD:∀ o o',(σ.upd f 0 o).upd f 0 o'=σ.upd f 0 o':=fun o o'=>upd_upd hf
    by_cases hA:m=a+1
    · subst hA
      obtain ⟨v,hv⟩:∃ v,v=l.getD a fz0:=⟨_,rfl⟩
      have r2:(l.map Fld.cs).getD a []=Fld.cs v:=by rw [hv]; exact row fz0 (by omega)
      have hfin:∀ i,a+1≤i→i≤b→(∀ t,a+1≤t→t < i→(l.getD t fz0).stn < v.stn)→(∀ t,i≤t→t < b→v.stn≤(l.getD t fz0).stn)→insAt (l.eraseIdx a) (i - 1) v=stS Fld.stn l a b:=fun i k1 k2 k3 k4=>by
        rw [hv]; rw [hv] at k3 k4
        exact stS_one1 fz0 k1 k2 (by omega) hY k3 k4
      have hE0:=erase_ins (l:=l) (a:=a) (by omega) fz0
      have hEl:(l.eraseIdx a).length=N - 1:=by rw [List.length_eraseIdx_of_lt (by omega),hn]
      rw [← hv] at hE0
      ((refine Ax @hf ?_;repeat' first|exact True.intro|refine Cj.mk ?_ ?_)<;>intros<;>refine hD_ ?_)
      all_goals try (exfalso; omega)
      refine AWPC.loopS (α:={ x:Nat × Nat // a+1≤x.1∧x.1≤x.2∧x.2≤b∧(∀ t,a+1≤t→t < x.1→(l.getD t fz0).stn < v.stn)∧∀ t,x.2≤t→t < b→v.stn≤(l.getD t fz0).stn }) [10,11] (fun x=>[(10,n x.1.1),(11,n x.1.2)]) (fun x=>x.1.2 - x.1.1) ⟨(a+1,b),Nat.le_refl _,by dsimp only; omega,Nat.le_refl _,fun t k1 k2=>by dsimp only at k2; omega,fun t k1 k2=>by dsimp only at k1; omega⟩ ?_ ?_
      · (simp only [zN,zT,zV,zS,zU,vcC,lateX,ex,strp,binA,elems,cells,scalar,eqC,keyA,intsA,lookA,ofVs,mpOf,Nat.reduceBEq,reduceAdd,reduceSub,reduceLT,reduceLeDiff,reduceMul,reduceEqDiff,reduceIte]; try simp)
      · rintro ⟨⟨i,j⟩,hi,hij,hj,hL,hR⟩
        simp only at hi hij hj hL hR
        by_cases hlt:i < j
        · have hm:=mid2 i j (by omega)
          obtain ⟨h,hh⟩:∃ h,h=(i+j) / 2:=⟨_,rfl⟩
          rw [← hh] at hm
          have g1:i≤h:=by omega
          have g2:h < j:=by omega
          clear hh
          have r1:(l.map Fld.cs).getD h []=Fld.cs (l.getD h fz0):=row fz0 (by omega)
          have hw:=week1_spec (l.getD h fz0) v
          by_cases hc:(l.getD h fz0).stn < v.stn
          · have hs:=sgn_lt.2 hc
            have hL':∀ t,a+1≤t→t < h+1→(l.getD t fz0).stn < v.stn:=fun t k1 k2=>Int.lt_of_le_of_lt (seg_le hY (by omega) k1 (show t≤h by omega) (by omega)) hc
            clear hv hE0 hfin
            generalize l.getD h fz0=u at r1 hw hc hs
            ((refine Az (And.intro @hf (And.intro @hm (And.intro @r1 (And.intro @r2 @hn)))) @hw ?_;repeat' first|exact True.intro|refine Cj.mk ?_ ?_)<;>intros<;>refine hD_ ?_)
            all_goals try (exfalso; omega)
            exact ⟨⟨(h+1,j),by dsimp only; omega,by dsimp only; omega,hj,hL',hR⟩,by simp,by simp only; omega⟩
          · have hs:¬ sgn (l.getD h fz0).stn v.stn < 0:=fun h=>hc (sgn_lt.1 h)
            have hR':∀ t,h≤t→t < b→v.stn≤(l.getD t fz0).stn:=fun t k1 k2=>Int.le_trans (by omega) (seg_le (d:=fz0) hY (by omega) (show a+1≤h by omega) k1 (by omega))
            clear hv hE0 hfin
            generalize l.getD h fz0=u at r1 hw hc hs
            ((refine Az (And.intro @hf (And.intro @hm (And.intro @r1 (And.intro @r2 @hn)))) @hw ?_;repeat' first|exact True.intro|refine Cj.mk ?_ ?_)<;>intros<;>refine hD_ ?_)
            all_goals try (exfalso; omega)
            exact ⟨⟨(i,h),hi,by dsimp only; omega,by dsimp only; omega,hL,hR'⟩,by simp,by simp only; omega⟩
        · obtain rfl:i=j:=by omega
          have hF:=hfin i hi hj hL hR
          clear hfin hv
          generalize l.eraseIdx a=E at hE0 hEl hF
          ((refine Ax @hf ?_;repeat' first|exact True.intro|refine Cj.mk ?_ ?_)<;>intros<;>refine hD_ ?_)
          all_goals try (exfalso; omega)
          refine AWPC.loopE (α:={ k:Nat // a≤k∧k≤i - 1 }) [13] (fun k=>[(13,n k.1)]) (fun k=>σ.upd f 0 (obF (insAt E k.1 v))) (fun k=>i - k.1) ⟨a,by omega,by omega⟩ ?_ (by simp only; rw [hE0,upd_self hf]) ?_
          · (simp only [zN,zT,zV,zS,zU,vcC,lateX,ex,strp,binA,elems,cells,scalar,eqC,keyA,intsA,lookA,ofVs,mpOf,Nat.reduceBEq,reduceAdd,reduceSub,reduceLT,reduceLeDiff,reduceMul,reduceEqDiff,reduceIte]; try simp)
          · rintro ⟨k,hk,hki⟩
            simp only at hk hki ⊢
            by_cases hlt:k < i - 1
            · have hN:=insAt_up E (k:=k) (by omega) v (E.getD k fz0) (getD_lt fz0 (by omega))
              have hVl:(insAt E k v).length=N:=by rw [insAt_len,hEl]; omega
              have q1:((insAt E k v).map Fld.cs).getD k []=Fld.cs v:=by rw [row fz0 (by omega),insAt_selfD E (by omega)]
              have q2:((insAt E k v).map Fld.cs).getD ((k:Int)+1).toNat []=Fld.cs (E.getD k fz0):=by rw [show ((k:Int)+1).toNat=k+1 by omega,row fz0 (by omega),insAt_gtD E (Nat.le_refl _) (by omega)]
              have e3:∀ w:Fld,(((insAt E k v).map Fld.cs).set k w.cs).set ((k:Int)+1).toNat v.cs=(((insAt E k v).set k w).set (k+1) v).map Fld.cs:=fun w=>by
                rw [show ((k:Int)+1).toNat=k+1 by omega,List.map_set,List.map_set]
              have e3:=e3 (E.getD k fz0)
              rw [hN] at e3
              have e4:List.drop 24 ((((insAt E k v).map Fld.cs).set k (E.getD k fz0).cs).getD ((k:Int)+1).toNat [])=[]:=row24 _ _ _ _
              clear hN
              generalize E.getD k fz0=w at q2 e3 e4
              (repeat' ((first
 | refine vn rfl ?_
 | simp (disch:=omega) only [wr64,Int.zero_sub]
 | refine bo (fun _=>?_) fun _=>?_
 | refine im fun _=>?_
 | refine cF ?_
 | refine om ?_
 | refine an ?_
 | fail) <;> try simp only [zN, zT, zV, zS, zU, vcC, lateX, ex, strp, binA, elems, cells, scalar, eqC, keyA, intsA, lookA, ofVs, mpOf, Nat.reduceBEq, reduceAdd, reduceSub, reduceLT, reduceLeDiff, reduceMul, reduceEqDiff, reduceIte, hC, hD, hVl, q1, q2, e4, List.length_map, List.length_set]))
              all_goals try (exfalso; omega)
              exact ⟨⟨k+1,by omega,by omega⟩,by simp,by rw [e3],by simp only; omega⟩
            · obtain rfl:k=i - 1:=by omega
              rw [hF]
              ((refine Au ?_;repeat' first|exact True.intro|refine Cj.mk ?_ ?_)<;>intros<;>refine hD_ ?_)
              all_goals try (exfalso; omega)
    · by_cases hB:b=m+1
      · subst hB
        obtain ⟨v,hv⟩:∃ v,v=l.getD m fz0:=⟨_,rfl⟩
        have r2:(l.map Fld.cs).getD m []=Fld.cs v:=by rw [hv]; exact row fz0 (by omega)
        have hfin:∀ i,a≤i→i≤m→(∀ t,a≤t→t < i→(l.getD t fz0).stn≤v.stn)→(∀ t,i≤t→t < m→v.stn < (l.getD t fz0).stn)→insAt (l.eraseIdx m) i v=stS Fld.stn l a (m+1):=fun i k1 k2 k3 k4=>by
          rw [hv]; rw [hv] at k3 k4
          exact stS_one2 fz0 k1 k2 (by omega) hX k3 k4
        have hE0:=erase_ins (l:=l) (a:=m) (by omega) fz0
        have hEl:(l.eraseIdx m).length=N - 1:=by rw [List.length_eraseIdx_of_lt (by omega),hn]
        rw [← hv] at hE0
        ((refine Ax @hf ?_;repeat' first|exact True.intro|refine Cj.mk ?_ ?_)<;>intros<;>refine hD_ ?_)
        all_goals try (exfalso; omega)
        refine AWPC.loopS (α:={ x:Nat × Nat // a≤x.1∧x.1≤x.2∧x.2≤m∧(∀ t,a≤t→t < x.1→(l.getD t fz0).stn≤v.stn)∧∀ t,x.2≤t→t < m→v.stn < (l.getD t fz0).stn }) [14,15] (fun x=>[(14,n x.1.1),(15,n x.1.2)]) (fun x=>x.1.2 - x.1.1) ⟨(a,m),Nat.le_refl _,by dsimp only; omega,Nat.le_refl _,fun t k1 k2=>by dsimp only at k2; omega,fun t k1 k2=>by dsimp only at k1; omega⟩ ?_ ?_
        · (simp only [zN,zT,zV,zS,zU,vcC,lateX,ex,strp,binA,elems,cells,scalar,eqC,keyA,intsA,lookA,ofVs,mpOf,Nat.reduceBEq,reduceAdd,reduceSub,reduceLT,reduceLeDiff,reduceMul,reduceEqDiff,reduceIte]; try simp)
        · rintro ⟨⟨i,j⟩,hi,hij,hj,hL,hR⟩
          simp only at hi hij hj hL hR
          by_cases hlt:i < j
          · have hm:=mid2 i j (by omega)
            obtain ⟨h,hh⟩:∃ h,h=(i+j) / 2:=⟨_,rfl⟩
            rw [← hh] at hm
            have g1:i≤h:=by omega
            have g2:h < j:=by omega
            clear hh
            have r1:(l.map Fld.cs).getD h []=Fld.cs (l.getD h fz0):=row fz0 (by omega)
            have hw:=week1_spec v (l.getD h fz0)
            by_cases hc:v.stn < (l.getD h fz0).stn
            · have hs:=sgn_lt.2 hc
              have hR':∀ t,h≤t→t < m→v.stn < (l.getD t fz0).stn:=fun t k1 k2=>Int.lt_of_lt_of_le hc (seg_le (d:=fz0) hX (by omega) (show a≤h by omega) k1 (by omega))
              clear hv hE0 hfin
              generalize l.getD h fz0=u at r1 hw hc hs
              ((refine Az (And.intro @hf (And.intro @hm (And.intro @r1 (And.intro @r2 @hn)))) @hw ?_;repeat' first|exact True.intro|refine Cj.mk ?_ ?_)<;>intros<;>refine hD_ ?_)
              all_goals try (exfalso; omega)
              exact ⟨⟨(i,h),hi,by dsimp only; omega,by dsimp only; omega,hL,hR'⟩,by simp,by simp only; omega⟩
            · have hs:¬ sgn v.stn (l.getD h fz0).stn < 0:=fun h=>hc (sgn_lt.1 h)
              have hL':∀ t,a≤t→t < h+1→(l.getD t fz0).stn≤v.stn:=fun t k1 k2=>Int.le_trans (seg_le hX (by omega) k1 (show t≤h by omega) (by omega)) (by omega)
              clear hv hE0 hfin
              generalize l.getD h fz0=u at r1 hw hc hs
              ((refine Az (And.intro @hf (And.intro @hm (And.intro @r1 (And.intro @r2 @hn)))) @hw ?_;repeat' first|exact True.intro|refine Cj.mk ?_ ?_)<;>intros<;>refine hD_ ?_)
              all_goals try (exfalso; omega)
              exact ⟨⟨(h+1,j),by dsimp only; omega,by dsimp only; omega,hj,hL',hR⟩,by simp,by simp only; omega⟩
          · obtain rfl:i=j:=by omega
            have hF:=hfin i hi hj hL hR
            clear hfin hv
            generalize l.eraseIdx m=E at hE0 hEl hF
            ((refine Ax @hf ?_;repeat' first|exact True.intro|refine Cj.mk ?_ ?_)<;>intros<;>refine hD_ ?_)
            all_goals try (exfalso; omega)
            refine AWPC.loopE (α:={ k:Nat // i≤k∧k≤m }) [17] (fun k=>[(17,n k.1)]) (fun k=>σ.upd f 0 (obF (insAt E k.1 v))) (fun k=>k.1) ⟨m,by omega,by omega⟩ ?_ (by simp only; rw [hE0,upd_self hf]) ?_
            · (simp only [zN,zT,zV,zS,zU,vcC,lateX,ex,strp,binA,elems,cells,scalar,eqC,keyA,intsA,lookA,ofVs,mpOf,Nat.reduceBEq,reduceAdd,reduceSub,reduceLT,reduceLeDiff,reduceMul,reduceEqDiff,reduceIte]; try simp)
            · rintro ⟨k,hk,hkm⟩
              simp only at hk hkm ⊢
              by_cases hlt:i < k
              · have hN:=insAt_down E (k:=k - 1) (by omega) v (E.getD (k - 1) fz0) (getD_lt fz0 (by omega))
                rw [show k - 1+1=k by omega] at hN
                have hVl:(insAt E k v).length=N:=by rw [insAt_len,hEl]; omega
                have q1:((insAt E k v).map Fld.cs).getD k []=Fld.cs v:=by rw [row fz0 (by omega),insAt_selfD E (by omega)]
                have q2:((insAt E k v).map Fld.cs).getD ((k:Int) - 1).toNat []=Fld.cs (E.getD (k - 1) fz0):=by rw [show ((k:Int) - 1).toNat=k - 1 by omega,row fz0 (by omega),insAt_ltD E (by omega) (by omega)]
                have e3:∀ w:Fld,(((insAt E k v).map Fld.cs).set k w.cs).set ((k:Int) - 1).toNat v.cs=(((insAt E k v).set k w).set (k - 1) v).map Fld.cs:=fun w=>by
                  rw [show ((k:Int) - 1).toNat=k - 1 by omega,List.map_set,List.map_set]
                have e3:=e3 (E.getD (k - 1) fz0)
                rw [hN] at e3
                have e4:List.drop 24 ((((insAt E k v).map Fld.cs).set k (E.getD (k - 1) fz0).cs).getD ((k:Int) - 1).toNat [])=[]:=row24 _ _ _ _
                clear hN
                generalize E.getD (k - 1) fz0=w at q2 e3 e4
                (repeat' ((first
 | refine vn rfl ?_
 | simp (disch:=omega) only [wr64,Int.zero_sub]
 | refine bo (fun _=>?_) fun _=>?_
 | refine im fun _=>?_
 | refine cF ?_
 | refine om ?_
 | refine an ?_
 | fail) <;> try simp only [zN, zT, zV, zS, zU, vcC, lateX, ex, strp, binA, elems, cells, scalar, eqC, keyA, intsA, lookA, ofVs, mpOf, Nat.reduceBEq, reduceAdd, reduceSub, reduceLT, reduceLeDiff, reduceMul, reduceEqDiff, reduceIte, hC, hD, hVl, q1, q2, e4, List.length_map, List.length_set]))
                all_goals try (exfalso; omega)
                exact ⟨⟨k - 1,by omega,by omega⟩,by simp; omega,by rw [e3],by simp only; omega⟩
              · obtain rfl:k=i:=by omega
                rw [hF]
                ((refine Au ?_;repeat' first|exact True.intro|refine Cj.mk ?_ ?_)<;>intros<;>refine hD_ ?_)
                all_goals try (exfalso; omega)
      · have hm:=mid2 a b (by omega)
        obtain ⟨mid,hmid⟩:∃ mid,mid=(a+b) / 2:=⟨_,rfl⟩
        rw [← hmid] at hm
        have m1:2 * mid≤a+b:=by omega
        have m2:a+b≤2 * mid+1:=by omega
        clear hmid
        ((first
 | refine vn rfl ?_
 | simp (disch:=omega) only [wr64,Int.zero_sub]
 | refine bo (fun _=>?_) fun _=>?_
 | refine im fun _=>?_
 | refine cF ?_
 | refine om ?_
 | refine an ?_
 | fail) <;> try simp only [zN, zT, zV, zS, zU, vcC, lateX, ex, strp, binA, elems, cells, scalar, eqC, keyA, intsA, lookA, ofVs, mpOf, Nat.reduceBEq, reduceAdd, reduceSub, reduceLT, reduceLeDiff, reduceMul, reduceEqDiff, reduceIte, hm])
        all_goals try (exfalso; omega)
        ((first
 | refine vn rfl ?_
 | simp (disch:=omega) only [wr64,Int.zero_sub]
 | refine bo (fun _=>?_) fun _=>?_
 | refine im fun _=>?_
 | refine cF ?_
 | refine om ?_
 | refine an ?_
 | fail) <;> try simp only [zN, zT, zV, zS, zU, vcC, lateX, ex, strp, binA, elems, cells, scalar, eqC, keyA, intsA, lookA, ofVs, mpOf, Nat.reduceBEq, reduceAdd, reduceSub, reduceLT, reduceLeDiff, reduceMul, reduceEqDiff, reduceIte, hm])
        all_goals try (exfalso; omega)
        ((first
 | refine vn rfl ?_
 | simp (disch:=omega) only [wr64,Int.zero_sub]
 | refine bo (fun _=>?_) fun _=>?_
 | refine im fun _=>?_
 | refine cF ?_
 | refine om ?_
 | refine an ?_
 | fail) <;> try simp only [zN, zT, zV, zS, zU, vcC, lateX, ex, strp, binA, elems, cells, scalar, eqC, keyA, intsA, lookA, ofVs, mpOf, Nat.reduceBEq, reduceAdd, reduceSub, reduceLT, reduceLeDiff, reduceMul, reduceEqDiff, reduceIte, hm])
        all_goals try (exfalso; omega)
        ((first
 | refine vn rfl ?_
 | simp (disch:=omega) only [wr64,Int.zero_sub]
 | refine bo (fun _=>?_) fun _=>?_
 | refine im fun _=>?_
 | refine cF ?_
 | refine om ?_
 | refine an ?_
 | fail) <;> try simp only [zN, zT, zV, zS, zU, vcC, lateX, ex, strp, binA, elems, cells, scalar, eqC, keyA, intsA, lookA, ofVs, mpOf, Nat.reduceBEq, reduceAdd, reduceSub, reduceLT, reduceLeDiff, reduceMul, reduceEqDiff, reduceIte, hm])
        all_goals try (exfalso; omega)
        ((first
 | refine vn rfl ?_
 | simp (disch:=omega) only [wr64,Int.zero_sub]
 | refine bo (fun _=>?_) fun _=>?_
 | refine im fun _=>?_
 | refine cF ?_
 | refine om ?_
 | refine an ?_
 | fail) <;> try simp only [zN, zT, zV, zS, zU, vcC, lateX, ex, strp, binA, elems, cells, scalar, eqC, keyA, intsA, lookA, ofVs, mpOf, Nat.reduceBEq, reduceAdd, reduceSub, reduceLT, reduceLeDiff, reduceMul, reduceEqDiff, reduceIte, hm])
        all_goals try (exfalso; omega)
        ((first
 | refine vn rfl ?_
 | simp (disch:=omega) only [wr64,Int.zero_sub]
 | refine bo (fun _=>?_) fun _=>?_
 | refine im fun _=>?_
 | refine cF ?_
 | refine om ?_
 | refine an ?_
 | fail) <;> try simp only [zN, zT, zV, zS, zU, vcC, lateX, ex, strp, binA, elems, cells, scalar, eqC, keyA, intsA, lookA, ofVs, mpOf, Nat.reduceBEq, reduceAdd, reduceSub, reduceLT, reduceLeDiff, reduceMul, reduceEqDiff, reduceIte, hm])
        all_goals try (exfalso; omega)
        ((first
 | refine vn rfl ?_
 | simp (disch:=omega) only [wr64,Int.zero_sub]
 | refine bo (fun _=>?_) fun _=>?_
 | refine im fun _=>?_
 | refine cF ?_
 | refine om ?_
 | refine an ?_
 | fail) <;> try simp only [zN, zT, zV, zS, zU, vcC, lateX, ex, strp, binA, elems, cells, scalar, eqC, keyA, intsA, lookA, ofVs, mpOf, Nat.reduceBEq, reduceAdd, reduceSub, reduceLT, reduceLeDiff, reduceMul, reduceEqDiff, reduceIte, hm])
        all_goals try (exfalso; omega)
        ((first
 | refine vn rfl ?_
 | simp (disch:=omega) only [wr64,Int.zero_sub]
 | refine bo (fun _=>?_) fun _=>?_
 | refine im fun _=>?_
 | refine cF ?_
 | refine om ?_
 | refine an ?_
 | fail) <;> try simp only [zN, zT, zV, zS, zU, vcC, lateX, ex, strp, binA, elems, cells, scalar, eqC, keyA, intsA, lookA, ofVs, mpOf, Nat.reduceBEq, reduceAdd, reduceSub, reduceLT, reduceLeDiff, reduceMul, reduceEqDiff, reduceIte, hm])
        all_goals try (exfalso; omega)
        ((first
 | refine vn rfl ?_
 | simp (disch:=omega) only [wr64,Int.zero_sub]
 | refine bo (fun _=>?_) fun _=>?_
 | refine im fun _=>?_
 | refine cF ?_
 | refine om ?_
 | refine an ?_
 | fail) <;> try simp only [zN, zT, zV, zS, zU, vcC, lateX, ex, strp, binA, elems, cells, scalar, eqC, keyA, intsA, lookA, ofVs, mpOf, Nat.reduceBEq, reduceAdd, reduceSub, reduceLT, reduceLeDiff, reduceMul, reduceEqDiff, reduceIte, hm])
        all_goals try (exfalso; omega)
        ((first
 | refine vn rfl ?_
 | simp (disch:=omega) only [wr64,Int.zero_sub]
 | refine bo (fun _=>?_) fun _=>?_
 | refine im fun _=>?_
 | refine cF ?_
 | refine om ?_
 | refine an ?_
 | fail) <;> try simp only [zN, zT, zV, zS, zU, vcC, lateX, ex, strp, binA, elems, cells, scalar, eqC, keyA, intsA, lookA, ofVs, mpOf, Nat.reduceBEq, reduceAdd, reduceSub, reduceLT, reduceLeDiff, reduceMul, reduceEqDiff, reduceIte, hm])
        all_goals try (exfalso; omega)
        ((first
 | refine vn rfl ?_
 | simp (disch:=omega) only [wr64,Int.zero_sub]
 | refine bo (fun _=>?_) fun _=>?_
 | refine im fun _=>?_
 | refine cF ?_
 | refine om ?_
 | refine an ?_
 | fail) <;> try simp only [zN, zT, zV, zS, zU, vcC, lateX, ex, strp, binA, elems, cells, scalar, eqC, keyA, intsA, lookA, ofVs, mpOf, Nat.reduceBEq, reduceAdd, reduceSub, reduceLT, reduceLeDiff, reduceMul, reduceEqDiff, reduceIte, hm])
        all_goals try (exfalso; omega)
        ((first
 | refine vn rfl ?_
 | simp (disch:=omega) only [wr64,Int.zero_sub]
 | refine bo (fun _=>?_) fun _=>?_
 | refine im fun _=>?_
 | refine cF ?_
 | refine om ?_
 | refine an ?_
 | fail) <;> try simp only [zN, zT, zV, zS, zU, vcC, lateX, ex, strp, binA, elems, cells, scalar, eqC, keyA, intsA, lookA, ofVs, mpOf, Nat.reduceBEq, reduceAdd, reduceSub, reduceLT, reduceLeDiff, reduceMul, reduceEqDiff, reduceIte, hm])
        all_goals try (exfalso; omega)
        ((first
 | refine vn rfl ?_
 | simp (disch:=omega) only [wr64,Int.zero_sub]
 | refine bo (fun _=>?_) fun _=>?_
 | refine im fun _=>?_
 | refine cF ?_
 | refine om ?_
 | refine an ?_
 | fail) <;> try simp only [zN, zT, zV, zS, zU, vcC, lateX, ex, strp, binA, elems, cells, scalar, eqC, keyA, intsA, lookA, ofVs, mpOf, Nat.reduceBEq, reduceAdd, reduceSub, reduceLT, reduceLeDiff, reduceMul, reduceEqDiff, reduceIte, hm])
        all_goals try (exfalso; omega)
        ((first
 | refine vn rfl ?_
 | simp (disch:=omega) only [wr64,Int.zero_sub]
 | refine bo (fun _=>?_) fun _=>?_
 | refine im fun _=>?_
 | refine cF ?_
 | refine om ?_
 | refine an ?_
 | fail) <;> try simp only [zN, zT, zV, zS, zU, vcC, lateX, ex, strp, binA, elems, cells, scalar, eqC, keyA, intsA, lookA, ofVs, mpOf, Nat.reduceBEq, reduceAdd, reduceSub, reduceLT, reduceLeDiff, reduceMul, reduceEqDiff, reduceIte, hm])
        all_goals try (exfalso; omega)
        ((first
 | refine vn rfl ?_
 | simp (disch:=omega) only [wr64,Int.zero_sub]
 | refine bo (fun _=>?_) fun _=>?_
 | refine im fun _=>?_
 | refine cF ?_
 | refine om ?_
 | refine an ?_
 | fail) <;> try simp only [zN, zT, zV, zS, zU, vcC, lateX, ex, strp, binA, elems, cells, scalar, eqC, keyA, intsA, lookA, ofVs, mpOf, Nat.reduceBEq, reduceAdd, reduceSub, reduceLT, reduceLeDiff, reduceMul, reduceEqDiff, reduceIte, hm])
        all_goals try (exfalso; omega)
        refine AWPC.cut (SymI [(0,.own f 0 N),(1,n a),(2,n m),(3,n b),(4,wkC),(18,n mid),(19,n ((mid:Int)+(m:Int)))] σ (fun s r=>a≤s∧s≤r∧r≤mid∧r≤m∧mid+m≤b+s∧(r=mid∨r=m)∧(s=a∨mid+m=b+s))) ?_ ?_
        · by_cases hgt:mid < m
          · ((refine Au ?_;repeat' first|exact True.intro|refine Cj.mk ?_ ?_)<;>intros<;>refine hD_ ?_)
            all_goals try (exfalso; omega)
            refine .mk (mid+m - b) mid ⟨by omega,by omega,by omega,by omega,by omega,.inl rfl,.inr (by omega)⟩ ?_
            simp only [Sub_cons,SubT]; simp [gt]; omega
          · ((refine Au ?_;repeat' first|exact True.intro|refine Cj.mk ?_ ?_)<;>intros<;>refine hD_ ?_)
            all_goals try (exfalso; omega)
            refine .mk a m ⟨by omega,by omega,by omega,by omega,by omega,.inr rfl,.inl rfl⟩ ?_
            simp only [Sub_cons,SubT]; simp [gt]
        rintro env τ ⟨s0,r0,⟨q1,q2,q3,q4,q5,q6,q7⟩,hsub⟩
        refine AWPC.weaken hsub ?_
        clear hsub hm env
        ((refine Au ?_;repeat' first|exact True.intro|refine Cj.mk ?_ ?_)<;>intros<;>refine hD_ ?_)
        all_goals try (exfalso; omega)
        refine AWPC.loopS (α:={ x:Nat × Nat // s0≤x.1∧x.1≤x.2∧x.2≤r0∧(∀ c,s0≤c→c < x.1→(l.getD c fz0).stn≤(l.getD (mid+m - 1 - c) fz0).stn)∧∀ c,x.2≤c→c < r0→(l.getD (mid+m - 1 - c) fz0).stn < (l.getD c fz0).stn }) [20,21] (fun x=>[(20,n x.1.1),(21,n x.1.2)]) (fun x=>x.1.2 - x.1.1) ⟨(s0,r0),Nat.le_refl _,q2,Nat.le_refl _,fun t k1 k2=>by dsimp only at k2; omega,fun t k1 k2=>by dsimp only at k1; omega⟩ ?_ ?_
        · (simp only [zN,zT,zV,zS,zU,vcC,lateX,ex,strp,binA,elems,cells,scalar,eqC,keyA,intsA,lookA,ofVs,mpOf,Nat.reduceBEq,reduceAdd,reduceSub,reduceLT,reduceLeDiff,reduceMul,reduceEqDiff,reduceIte]; try simp)
        · rintro ⟨⟨i,j⟩,hi,hij,hj,hL,hR⟩
          simp only at hi hij hj hL hR
          by_cases hlt:i < j
          · have hm:=mid2 i j (by omega)
            obtain ⟨c,hh⟩:∃ c,c=(i+j) / 2:=⟨_,rfl⟩
            rw [← hh] at hm
            have g1:i≤c:=by omega
            have g2:c < j:=by omega
            clear hh
            have r1:(l.map Fld.cs).getD c []=Fld.cs (l.getD c fz0):=row fz0 (by omega)
            have r2:(l.map Fld.cs).getD ((mid:Int)+(m:Int) - 1 - (c:Int)).toNat []=Fld.cs (l.getD (mid+m - 1 - c) fz0):=by rw [show ((mid:Int)+(m:Int) - 1 - (c:Int)).toNat=mid+m - 1 - c by omega]; exact row fz0 (by omega)
            have hw:=week1_spec (l.getD (mid+m - 1 - c) fz0) (l.getD c fz0)
            by_cases hc:(l.getD (mid+m - 1 - c) fz0).stn < (l.getD c fz0).stn
            · have hs:=sgn_lt.2 hc
              have hR':∀ t,c≤t→t < r0→(l.getD (mid+m - 1 - t) fz0).stn < (l.getD t fz0).stn:=fun t k1 k2=>by
                have e1:=seg_le (d:=fz0) hX (by omega) (show a≤c by omega) k1 (by omega)
                have e2:=seg_le (d:=fz0) hY (by omega) (show m≤mid+m - 1 - t by omega) (show mid+m - 1 - t≤mid+m - 1 - c by omega) (by omega)
                omega
              generalize l.getD c fz0=u at r1 hw hc hs
              generalize l.getD (mid+m - 1 - c) fz0=v at r2 hw hc hs
              ((refine Az (And.intro @hf (And.intro @hm (And.intro @r1 (And.intro @r2 @hn)))) @hw ?_;repeat' first|exact True.intro|refine Cj.mk ?_ ?_)<;>intros<;>refine hD_ ?_)
              all_goals try (exfalso; omega)
              exact ⟨⟨(i,c),hi,by dsimp only; omega,by dsimp only; omega,hL,hR'⟩,by simp,by simp only; omega⟩
            · have hs:¬ sgn (l.getD (mid+m - 1 - c) fz0).stn (l.getD c fz0).stn < 0:=fun h=>hc (sgn_lt.1 h)
              have hL':∀ t,s0≤t→t < c+1→(l.getD t fz0).stn≤(l.getD (mid+m - 1 - t) fz0).stn:=fun t k1 k2=>by
                have e1:=seg_le (d:=fz0) hX (by omega) (show a≤t by omega) (show t≤c by omega) (by omega)
                have e2:=seg_le (d:=fz0) hY (by omega) (show m≤mid+m - 1 - c by omega) (show mid+m - 1 - c≤mid+m - 1 - t by omega) (by omega)
                omega
              generalize l.getD c fz0=u at r1 hw hc hs
              generalize l.getD (mid+m - 1 - c) fz0=v at r2 hw hc hs
              ((refine Az (And.intro @hf (And.intro @hm (And.intro @r1 (And.intro @r2 @hn)))) @hw ?_;repeat' first|exact True.intro|refine Cj.mk ?_ ?_)<;>intros<;>refine hD_ ?_)
              all_goals try (exfalso; omega)
              exact ⟨⟨(c+1,j),by dsimp only; omega,by dsimp only; omega,hj,hL',hR⟩,by simp,by simp only; omega⟩
          · obtain rfl:i=j:=by omega
            obtain ⟨e,he⟩:∃ e,e=mid+m - i:=⟨_,rfl⟩
            have e1:m≤e:=by omega
            have e2:e≤b:=by omega
            have e3:(e:Int)=(mid:Int)+(m:Int) - (i:Int):=by omega
            obtain ⟨k1,k2,k3,k4,k5,k6,k7⟩:=stS_sym (key:=Fld.stn) (l:=l) (a:=a) (s:=i) (m:=m) (e:=e) (b:=b) (mid:=mid) fz0 (by omega) (by omega) e1 e2 (by omega) (by omega) hX hY
              (fun g1 g2=>by rw [show e - 1=mid+m - 1 - i by omega]; exact hR i (Nat.le_refl _) (by omega))
              (fun g1 g2=>by have:=hL (i - 1) (by omega) (by omega); rwa [show mid+m - 1 - (i - 1)=e by omega] at this)
            have hl1:(rot l i m e).length=N:=by rw [rot_len (by omega) e1 (by omega),hn]
            have hl2:(stS Fld.stn (rot l i m e) a mid).length=N:=by rw [stS_len (by omega) (by omega),hl1]
            have hro:i < m→m < e→_:=fun g1 g2=>rotate_does σ f N l i m e hf hn g1 g2 (by omega) hl
            rw [e3] at hro
            have hsm:i=m∨m=e→rot l i m e=l:=rot_same (by omega) e1 (by omega)
            generalize rot l i m e=l1 at k1 k2 k3 k4 k5 k6 k7 hl1 hl2 hro hsm
            have hi1:a < i→i < mid→_:=fun g1 g2=>ih (σ.upd f 0 (obF l1)) f N l1 a i mid (by omega) (hC _) hl1 g1 g2 (by omega) hl k1 k2
            generalize stS Fld.stn l1 a mid=l2 at k3 k4 k5 k6 k7 hl2 hi1
            have hi2:mid < e→e < b→_:=fun g1 g2=>ih (σ.upd f 0 (obF l2)) f N l2 mid e b (by omega) (hC _) hl2 g1 g2 h3 hl k4 k5
            simp only [hD,k6] at hi1 hi2 k7
            rw [e3] at hi2
            generalize stS Fld.stn l a b=l3 at hi2 k7
            clear hC hD ih hX hY k1 k2 k4 k5 k6 hl1 hl2
            ((first
 | refine vn rfl ?_
 | simp (disch:=omega) only [wr64,Int.zero_sub]
 | refine bo (fun _=>?_) fun _=>?_
 | refine im fun _=>?_
 | refine cF ?_
 | refine om ?_
 | refine an ?_
 | fail) <;> try simp only [zN, zT, zV, zS, zU, vcC, lateX, ex, strp, binA, elems, cells, scalar, eqC, keyA, intsA, lookA, ofVs, mpOf, Nat.reduceBEq, reduceAdd, reduceSub, reduceLT, reduceLeDiff, reduceMul, reduceEqDiff, reduceIte])
            ((first
 | refine vn rfl ?_
 | simp (disch:=omega) only [wr64,Int.zero_sub]
 | refine bo (fun _=>?_) fun _=>?_
 | refine im fun _=>?_
 | refine cF ?_
 | refine om ?_
 | refine an ?_
 | fail) <;> try simp only [zN, zT, zV, zS, zU, vcC, lateX, ex, strp, binA, elems, cells, scalar, eqC, keyA, intsA, lookA, ofVs, mpOf, Nat.reduceBEq, reduceAdd, reduceSub, reduceLT, reduceLeDiff, reduceMul, reduceEqDiff, reduceIte])
            ((first
 | refine vn rfl ?_
 | simp (disch:=omega) only [wr64,Int.zero_sub]
 | refine bo (fun _=>?_) fun _=>?_
 | refine im fun _=>?_
 | refine cF ?_
 | refine om ?_
 | refine an ?_
 | fail) <;> try simp only [zN, zT, zV, zS, zU, vcC, lateX, ex, strp, binA, elems, cells, scalar, eqC, keyA, intsA, lookA, ofVs, mpOf, Nat.reduceBEq, reduceAdd, reduceSub, reduceLT, reduceLeDiff, reduceMul, reduceEqDiff, reduceIte])
            ((first
 | refine vn rfl ?_
 | simp (disch:=omega) only [wr64,Int.zero_sub]
 | refine bo (fun _=>?_) fun _=>?_
 | refine im fun _=>?_
 | refine cF ?_
 | refine om ?_
 | refine an ?_
 | fail) <;> try simp only [zN, zT, zV, zS, zU, vcC, lateX, ex, strp, binA, elems, cells, scalar, eqC, keyA, intsA, lookA, ofVs, mpOf, Nat.reduceBEq, reduceAdd, reduceSub, reduceLT, reduceLeDiff, reduceMul, reduceEqDiff, reduceIte])
            refine AWPC.cut (SymT [(0,.own f 0 N),(1,n a),(3,n b),(4,wkC),(18,n mid),(20,n i),(24,n ((mid:Int)+(m:Int) - (i:Int)))] (σ.upd f 0 (obF l1))) ?_ ?_
            · by_cases g:i < m∧m < e
              · have hro:=hro g.1 g.2
                ((refine Au ?_;repeat' first|exact True.intro|refine Cj.mk ?_ ?_)<;>intros<;>refine hD_ ?_)
                all_goals try (exfalso; omega)
                refine .inr (.inl ⟨_,_,_,_,rfl,fun _=>⟨hro,?_⟩,fun h=>by cases h⟩)
                rintro r σ' rfl
                refine owp_of_exs ?_
                simp only [zN,zT,zV,zS,zU,vcC,lateX,ex,strp,binA,elems,cells,scalar,eqC,keyA,intsA,lookA,ofVs,mpOf,Nat.reduceBEq,reduceAdd,reduceSub,reduceLT,reduceLeDiff,reduceMul,reduceEqDiff,reduceIte]
                exact .mk (by simp only [Sub_cons,SubT]; simp [gt])
              · rw [hsm (by omega),upd_self hf]
                clear hro hi1 hi2
                ((refine Au ?_;repeat' first|exact True.intro|refine Cj.mk ?_ ?_)<;>intros<;>refine hD_ ?_)
                all_goals try (exfalso; omega)
                exact .mk (by simp only [Sub_cons,SubT]; simp [gt])
            rintro env τ ⟨hsub⟩
            refine AWPC.weaken hsub ?_
            clear hsub hro hsm env
            refine AWPC.cut (SymT [(0,.own f 0 N),(3,n b),(4,wkC),(18,n mid),(24,n ((mid:Int)+(m:Int) - (i:Int)))] (σ.upd f 0 (obF l2))) ?_ ?_
            · by_cases g:a < i∧i < mid
              · have hi1:=hi1 g.1 g.2
                ((refine Au ?_;repeat' first|exact True.intro|refine Cj.mk ?_ ?_)<;>intros<;>refine hD_ ?_)
                all_goals try (exfalso; omega)
                refine .inr (.inl ⟨_,_,_,_,rfl,fun _=>⟨hi1,?_⟩,fun h=>by cases h⟩)
                rintro r σ' rfl
                refine owp_of_exs ?_
                simp only [zN,zT,zV,zS,zU,vcC,lateX,ex,strp,binA,elems,cells,scalar,eqC,keyA,intsA,lookA,ofVs,mpOf,Nat.reduceBEq,reduceAdd,reduceSub,reduceLT,reduceLeDiff,reduceMul,reduceEqDiff,reduceIte]
                exact .mk (by simp only [Sub_cons,SubT]; simp [gt])
              · rw [k3 (by omega)]
                clear hi1 hi2
                ((refine Au ?_;repeat' first|exact True.intro|refine Cj.mk ?_ ?_)<;>intros<;>refine hD_ ?_)
                all_goals try (exfalso; omega)
                exact .mk (by simp only [Sub_cons,SubT]; simp [gt])
            rintro env τ ⟨hsub⟩
            refine AWPC.weaken hsub ?_
            clear hsub hi1 k3 env
            by_cases g:mid < e∧e < b
            · have hi2:=hi2 g.1 g.2
              ((refine Au ?_;repeat' first|exact True.intro|refine Cj.mk ?_ ?_)<;>intros<;>refine hD_ ?_)
              all_goals try (exfalso; omega)
              refine .inr (.inl ⟨_,_,_,_,rfl,fun _=>⟨hi2,?_⟩,fun h=>by cases h⟩)
              rintro r σ' rfl
              refine owp_of_exs ?_
              simp only [zN,zT,zV,zS,zU,vcC,lateX,ex,strp,binA,elems,cells,scalar,eqC,keyA,intsA,lookA,ofVs,mpOf,Nat.reduceBEq,reduceAdd,reduceSub,reduceLT,reduceLeDiff,reduceMul,reduceEqDiff,reduceIte]
            · rw [k7 (by omega)]
              clear hi2
              ((refine Au ?_;repeat' first|exact True.intro|refine Cj.mk ?_ ?_)<;>intros<;>refine hD_ ?_)
              all_goals try (exfalso; omega)
end Go.Proofs.YtolgelipcgcbhaaGreat
namespace Go.Abs
set_option linter.unusedVariables false
set_option linter.unusedSimpArgs false
theorem entN_pair (S T:List Nt):(entN S T).Pairwise (fun x a=>samP S a x=false):=by
  unfold entN
  refine foldl_pre (G:=entA S) (l:=T.filter (kd 1)) (x:=[]) (fun p x=>x.Pairwise (fun x a=>samP S a x=false)) (fun p a s x _ h=>?_) .nil
  unfold entA
  split
  · exact h
  · rename_i hn
    rw [List.pairwise_append]
    refine ⟨h,List.pairwise_singleton _ _,fun c hc d hd=>?_⟩
    simp only [List.mem_singleton] at hd
    subst hd
    cases hs:samP S d c with
    | false=>rfl
    | true=>exact absurd (List.any_eq_true.2 ⟨c,hc,hs⟩) hn
theorem findIdx_pair {α:Type} {q:α→Bool} {l:List α} {i:Nat} {a:α} (ha:l[i]?=some a) (hq:q a=true) (hp:∀ j c,j < i→l[j]?=some c→q c=false):l.findIdx? q=some i:=by
  obtain ⟨hi,rfl⟩:=List.getElem?_eq_some_iff.1 ha
  rw [List.findIdx?_eq_some_iff_getElem]
  exact ⟨hi,hq,fun j hj=>by rw [hp j _ hj (List.getElem?_eq_getElem (by omega))]; decide⟩
structure OneT (b:Bse) (l:List Nt) (i:Nat) (x:Fld) (a:Nt):Prop where
  inl:a∈l
  st:a∈standT l
  nm:a.nm=x.name
  kd:a.kind=1
  eq:x=fld (standT l) a
  at':sheetAt (refT b l).sheets x.stn x.week=some i
  by':sheetBy (refT b l).sheets x.name=some i
theorem oneT {b:Bse} {l:List Nt} (ok:(setE b l).1=0) {i:Nat} {x:Fld} (hx:(refT b l).sheets[i]?=some x):∃ a,OneT b l i x a:=by
  have hn:=standT_nodup (setE_nodup ok)
  have hs:(refT b l).sheets=(entN (standT l) (standT l)).map (fld (standT l)):=shsR_ent _ _
  rw [hs,List.getElem?_map] at hx
  obtain ⟨a,ha,rfl⟩:=Option.map_eq_some_iff.1 hx
  have hm:=entN_mem (List.mem_of_getElem? ha)
  refine ⟨a,(mem_standT.1 hm.1).1,hm.1,rfl,hm.2,rfl,?_,?_⟩
  · rw [hs]
    refine findIdx_pair (a:=fld (standT l) a) (by rw [List.getElem?_map,ha]; rfl) (by simp) fun j c hj hc=>?_
    rw [List.getElem?_map] at hc
    obtain ⟨d,hd,rfl⟩:=Option.map_eq_some_iff.1 hc
    exact (List.pairwise_iff_getElem.1 (entN_pair (standT l) (standT l))) j i (List.getElem?_eq_some_iff.1 hd).1 (List.getElem?_eq_some_iff.1 ha).1 hj ▸ by
      obtain ⟨_,e1⟩:=List.getElem?_eq_some_iff.1 hd
      obtain ⟨_,e2⟩:=List.getElem?_eq_some_iff.1 ha
      subst e1; subst e2
      rfl
  · rw [hs]
    refine findIdx_pair (a:=fld (standT l) a) (by rw [List.getElem?_map,ha]; rfl) (by simp) fun j c hj hc=>?_
    rw [List.getElem?_map] at hc
    obtain ⟨d,hd,rfl⟩:=Option.map_eq_some_iff.1 hc
    have hsub:((entN (standT l) (standT l)).map Nt.nm).Nodup:=hn.sublist (((entN_sub _ _).trans List.filter_sublist).map _)
    obtain ⟨h1,e1⟩:=List.getElem?_eq_some_iff.1 hd
    obtain ⟨h2,e2⟩:=List.getElem?_eq_some_iff.1 ha
    have:=(List.pairwise_iff_getElem.1 hsub) j i (by simpa using h1) (by simpa using h2) hj
    simp only [List.getElem_map,e1,e2] at this
    simpa [fld] using this
theorem mks_mem {S:List Nt} {m:Nm} {k:Nt} (h:k∈mks S m):k∈S∧k.kind=2∧k.ref=m∧cnt S k=true:=by
  unfold mks at h
  rw [List.mem_filter] at h
  obtain ⟨h1,h2⟩:=h
  simp only [Bool.and_eq_true,kd_iff,onT,decide_eq_true_eq] at h2
  exact ⟨h1,h2.1,h2.2.1,h2.2.2⟩
theorem knw_mem {S:List Nt} (a:Nt):knw S a=a∨(knw S a∈S∧(knw S a).kind=6∧(knw S a).ref=a.nm∧corr S (knw S a)=true):=by
  unfold knw
  cases h:(S.filter fun k=>kd 6 k && (onT a.nm k && corr S k)).getLast? with
  | none=>exact .inl rfl
  | some c =>
    have hc:=List.mem_of_getLast? h
    rw [List.mem_filter] at hc
    simp only [Bool.and_eq_true,kd_iff,onT,decide_eq_true_eq] at hc
    exact .inr ⟨hc.1,hc.2.1,hc.2.2.1,hc.2.2.2⟩
theorem mks_len {S:List Nt} (hn:(S.map Nt.nm).Nodup) (m:Nm):(mks S m).length≤64:=by
  cases hl:(mks S m).getLast? with
  | none=>rw [List.getLast?_eq_none_iff] at hl; simp [hl]
  | some k =>
    obtain ⟨p,hp⟩:=List.getLast?_eq_some_iff.1 hl
    have hk:=mks_mem (List.mem_of_getLast? hl)
    have h0:S.filter (fun k=>kd 2 k && (onT m k && cnt S k))=p++k::[]:=hp
    obtain ⟨h1,_,_⟩:=bef_filter hn h0
    have hc:=hk.2.2.2
    unfold cnt at hc
    simp only [Bool.and_eq_true,decide_eq_true_eq] at hc
    have h2:p.length≤((bef S k).filter fun x=>kd 2 x && (onT k.ref x && mkd S x)).length:=by
      have e:p=((bef S k).filter fun x=>kd 2 x && (onT k.ref x && mkd S x)).filter (fun x=>cnt S x):=by
        rw [← h1,ff]
        refine List.filter_congr fun x hx=>?_
        rw [hk.2.2.1]
        unfold cnt
        cases kd 2 x <;> cases onT m x <;> cases mkd S x <;> simp
      rw [e]; exact List.length_filter_le _ _
    rw [show mks S m=p++[k] from hp,List.length_append,List.length_singleton]
    omega
theorem putH_perm (h:Hgt):∀ l:List Hgt,(putH h l).Perm (h::l)
  | []=>List.Perm.refl _
  | g::r=>by
    unfold putH
    split
    · exact ((putH_perm h r).cons g).trans (List.Perm.swap h g r)
    · exact List.Perm.refl _
theorem ids_lt {l:List Stn} (h:(stnsE l).1=0):∀ j,j < l.length→∀ i,i < j→(l.getD i default).id < (l.getD j default).id:=by
  intro j
  induction j with
  | zero=>intro _ i hi; omega
  | succ j ih =>
    intro hj i hi
    have h1:=(stnE_zero.1 ((stnsE_zero.1 h).2 (j+1) hj)).2.1 (by omega)
    rw [Nat.add_sub_cancel] at h1
    by_cases e:i=j
    · subst e; exact h1
    · exact Int.lt_trans (ih (by omega) i (by omega)) h1
theorem ids_inj {l:List Stn} (h:(stnsE l).1=0) {i j:Nat} (hi:i < l.length) (hj:j < l.length) (e:(l.getD i default).id=(l.getD j default).id):i=j:=by
  rcases Nat.lt_trichotomy i j with g | g | g
  · have:=ids_lt h j hj i g; omega
  · exact g
  · have:=ids_lt h i hi j g; omega
theorem SameS.len {b l:List Stn} (h:SameS b l):l.length=b.length:=by
  have:=congrArg List.length h.ids
  simpa using this
theorem SameS.id {b l:List Stn} (h:SameS b l) (i:Nat) (hi:i < b.length):(l.getD i default).id=(b.getD i default).id:=by
  have h1:=congrArg (fun x=>x[i]?) h.ids
  simp only [List.getElem?_map] at h1
  have hl:i < l.length:=by rw [h.len]; exact hi
  rw [List.getElem?_eq_getElem hl,List.getElem?_eq_getElem hi] at h1
  rw [List.getD_eq_getElem?_getD,List.getD_eq_getElem?_getD,List.getElem?_eq_getElem hl,List.getElem?_eq_getElem hi]
  simpa using h1
def okS (b:List Stn) (S:List Nt) (a:Nt):Bool:=decide ((movR (stsR b (bef S a)) a).2=0)
def HgI (b:List Stn) (S p:List Nt) (x:List Stn):Prop :=
  SameS b x∧∀ i,i < b.length→(x.getD i default).x=(b.getD i default).x∧(x.getD i default).y=(b.getD i default).y ∧
    (x.getD i default).heights.Perm ((b.getD i default).heights++(p.filter fun a=>decide (a.stn=(b.getD i default).id) && okS b S a).map Nt.height)
theorem hg_all {b:List Stn} (hb:(stnsE b).1=0) {S:List Nt} (hn:(S.map Nt.nm).Nodup) (hp:∀ a∈S,a.kind=4→(stnOf b a.stn).2=0):HgI b S (S.filter (kd 4)) (stsR b S):=by
  unfold stsR
  refine (foldl_pre (G:=raiR) (l:=S.filter (kd 4)) (x:=b) (fun p x=>x=p.foldl raiR b∧HgI b S p x) ?_ ⟨rfl,⟨hb,rfl⟩,fun i _=>⟨rfl,rfl,by simp⟩⟩).2
  rintro p a s x h ⟨hx,hs,hI⟩
  obtain ⟨hbf,hmm,hq⟩:=bef_filter hn h
  have hpre:stsR b (bef S a)=x:=by unfold stsR; rw [hbf,hx]
  have hpl:(stnOf b a.stn).2=0:=hp a hmm (kd_iff.1 hq)
  refine ⟨by rw [List.foldl_append,← hx]; rfl,hs.raiR a,fun i hi=>?_⟩
  obtain ⟨h1,h2,h3⟩:=hI i hi
  have hof:=hs.of hb a.stn
  have hpx:(stnOf x a.stn).2=0:=by rw [hof]; exact hpl
  obtain ⟨hj,hid⟩:=stnOf_lt hpx
  have hil:i < x.length:=by rw [hs.len]; exact hi
  have hok:okS b S a=decide ((movR x a).2=0):=by unfold okS; rw [hpre]
  rw [List.filter_append,List.map_append]
  by_cases hz:(movR x a).2=0
  · have hr:raiR x a=x.set (stnOf x a.stn).1 (movR x a).1:=by unfold raiR; rw [if_neg (by omega)]
    have hmv:=(move_ok hz).1
    have hmv:(movR x a).1={ x.getD (stnOf x a.stn).1 default with heights:=putH a.height (x.getD (stnOf x a.stn).1 default).heights }:=hmv
    rw [hr,hmv]
    rw [decide_eq_true hz] at hok
    generalize (stnOf x a.stn).1=j at hj hid
    rw [getD_set hj]
    by_cases e:i=j
    · subst e
      rw [if_pos rfl]
      have:a.stn=(b.getD i default).id:=by rw [← hs.id i hi,hid]
      refine ⟨h1,h2,?_⟩
      simp only [List.filter_cons,List.filter_nil,hok,this,decide_true,Bool.and_self,if_true,List.map_cons,List.map_nil]
      refine (putH_perm _ _).trans ((h3.cons a.height).trans ?_)
      rw [← List.append_assoc]
      exact (List.perm_append_singleton _ _).symm
    · rw [if_neg e]
      have:¬ a.stn=(b.getD i default).id:=fun e2=>e (ids_inj hs.ok hil hj (by rw [hs.id i hi,hid,e2]))
      refine ⟨h1,h2,?_⟩
      simp only [List.filter_cons,List.filter_nil,this,decide_false,Bool.false_and,if_neg (Bool.false_ne_true),List.map_nil,List.append_nil]
      exact h3
  · have hr:raiR x a=x:=by unfold raiR; rw [if_pos hz]
    rw [hr]
    rw [decide_eq_false hz] at hok
    refine ⟨h1,h2,?_⟩
    simp only [List.filter_cons,List.filter_nil,hok,Bool.and_false,if_neg (Bool.false_ne_true),List.map_nil,List.append_nil]
    exact h3
theorem standT_perm (l:List Nt):(standT l).Perm ((l.filter fun a=>a.kind != 7).filter fun a=>!goneT l a.nm):=(srtT_perm _).filter _
def hgQ (l:List Nt) (C:List Nm) (id:Int) (a:Nt):Bool:=decide (a.kind=4) && (decide (a.stn=id) && (!decide (a.nm∈C) && !goneT l a.nm))
structure StnsT (b:Bse) (l:List Nt) (R:Rgr) (i:Nat):Prop where
  id:(R.stns.getD i default).id=(b.stns.getD i default).id
  x:(R.stns.getD i default).x=(b.stns.getD i default).x
  y:(R.stns.getD i default).y=(b.stns.getD i default).y
  base:∀ h∈(b.stns.getD i default).heights,h∈(R.stns.getD i default).heights
  said:∀ a∈l,hgQ l R.confl (R.stns.getD i default).id a=true→a.height∈(R.stns.getD i default).heights
  len:(R.stns.getD i default).heights.length=(b.stns.getD i default).heights.length+(l.filter (hgQ l R.confl (R.stns.getD i default).id)).length
  back:stnBack b R (R.stns.getD i default).id=(R.stns.getD i default,0)
theorem stnsT {b:Bse} {l:List Nt} (ok:(setE b l).1=0):(stnsE (refT b l).stns).1=0∧(refT b l).stns.length=b.stns.length∧∀ i,i < b.stns.length→StnsT b l (refT b l) i:=by
  obtain ⟨hb,_,hoks,_⟩:=setE_ok ok
  have hnl:=setE_nodup ok
  have hn:=standT_nodup hnl
  obtain ⟨hs,hI⟩:=hg_all hb.1 hn (fun a ha h4=>by
    have h1:=(hoks a (mem_standT.1 ha).1).2.2.2.2
    unfold Nt.says at h1
    rw [if_neg (by omega),if_neg (by omega),if_neg (by omega),if_pos h4] at h1
    exact h1.1.1)
  have hst:(refT b l).stns=stsR b.stns (standT l):=rfl
  refine ⟨hs.ok,hs.len,fun i hi=>?_⟩
  obtain ⟨h1,h2,h3⟩:=hI i hi
  have hid:=hs.id i hi
  have hcf:∀ a∈l,a.kind=4→goneT l a.nm=false→(decide (a.nm∈(refT b l).confl)=!okS b.stns (standT l) a):=fun a ha h4 hg=>by
    have e1:a.nm∈(refT b l).confl↔badR b l a=true:=by
      show a.nm∈(l.filter (badR b l)).map Nt.nm↔_
      rw [List.mem_map]
      constructor
      · rintro ⟨d,hd,e⟩
        rw [List.mem_filter] at hd
        rw [nm_inj hnl hd.1 ha e] at hd
        exact hd.2
      · intro h; exact ⟨a,List.mem_filter.2 ⟨ha,h⟩,rfl⟩
    have e2:badR b l a=!okS b.stns (standT l) a:=by
      unfold badR badS okS
      rw [if_neg (by omega),hg,if_neg (by omega),if_neg (by omega),if_pos h4]
      by_cases hz:(movR (stsR b.stns (bef (standT l) a)) a).2=0 <;> simp [hz]
    rw [← e2,Bool.eq_iff_iff,decide_eq_true_eq,e1]
  have hfil:((standT l).filter (kd 4)).filter (fun a=>decide (a.stn=(b.stns.getD i default).id) && okS b.stns (standT l) a)=(standT l).filter fun a=>kd 4 a && (decide (a.stn=(b.stns.getD i default).id) && okS b.stns (standT l) a):=by
    rw [List.filter_filter]
    exact List.filter_congr fun a _=>Bool.and_comm _ _
  rw [hfil] at h3
  have hperm:((standT l).filter fun a=>kd 4 a && (decide (a.stn=(b.stns.getD i default).id) && okS b.stns (standT l) a)).Perm (l.filter (hgQ l (refT b l).confl (b.stns.getD i default).id)):=by
    refine ((standT_perm l).filter _).trans ?_
    rw [List.filter_filter,List.filter_filter]
    have:(l.filter fun a=>((kd 4 a && (decide (a.stn=(b.stns.getD i default).id) && okS b.stns (standT l) a)) && (!goneT l a.nm)) && (a.kind != 7))=l.filter (hgQ l (refT b l).confl (b.stns.getD i default).id):=by
      refine List.filter_congr fun a ha=>?_
      unfold hgQ
      by_cases h4:a.kind=4
      · cases hg:goneT l a.nm with
        | true=>simp
        | false =>
          rw [hcf a ha h4 hg]
          simp [h4,kd]
      · simp [h4,kd]
    rw [this]
  refine ⟨hid,h1,h2,fun h hh=>h3.mem_iff.2 (List.mem_append.2 (.inl hh)),fun a ha hq=>?_,?_,?_⟩
  · rw [hst,hid] at hq
    exact h3.mem_iff.2 (List.mem_append.2 (.inr (List.mem_map.2 ⟨a,hperm.mem_iff.2 (List.mem_filter.2 ⟨ha,hq⟩),rfl⟩)))
  · rw [hst,hid,h3.length_eq,List.length_append,List.length_map,hperm.length_eq]
  · unfold stnBack
    rw [if_neg (fun h=>h hb)]
    have hil:i < (stsR b.stns (standT l)).length:=by rw [hs.len]; exact hi
    have hf:((refT b l).stns++b.stns).find? (fun s=>s.id == ((refT b l).stns.getD i default).id)=some ((refT b l).stns.getD i default):=by
      rw [hst]
      rw [List.find?_append]
      have:(stsR b.stns (standT l)).find? (fun s=>s.id == ((stsR b.stns (standT l)).getD i default).id)=some ((stsR b.stns (standT l)).getD i default):=by
        rw [List.find?_eq_some_iff_getElem]
        refine ⟨by simp,i,hil,?_,fun j hj=>?_⟩
        · rw [List.getD_eq_getElem?_getD,List.getElem?_eq_getElem hil]; rfl
        · have h5:=ids_lt hs.ok i hil j hj
          have e:(stsR b.stns (standT l))[j]=(stsR b.stns (standT l)).getD j default:=by rw [List.getD_eq_getElem?_getD,List.getElem?_eq_getElem (by omega)]; rfl
          rw [e]
          simp only [Bool.not_eq_true',beq_eq_false_iff_ne]
          omega
      rw [this]; rfl
    rw [hf]
theorem insF_eqW (a:Fld):∀ l,insF a l=insK Fld.stn a l
  | []=>rfl
  | x::r=>by unfold insF insK; rw [insF_eqW a r]
theorem srtF_eq (l:List Fld):srtF l=srtK Fld.stn l:=by
  unfold srtF srtK
  congr 1
  funext o a
  exact insF_eqW a o
theorem insI_permW (a:Int):∀ l,(insI a l).Perm (a::l)
  | []=>.refl _
  | x::r=>by
    unfold insI
    split
    · exact .refl _
    · exact ((insI_permW a r).cons x).trans (.swap a x r)
theorem srtI_permW (l:List Int):(srtI l).Perm l:=by
  have:∀ (l o:List Int),(l.foldl (fun o a=>insI a o) o).Perm (l++o):=by
    intro l
    induction l with
    | nil=>exact fun o=>.refl _
    | cons a r ih=>exact fun o=>(ih _).trans (((insI_permW a o).append_left r).trans List.perm_middle)
  have:=this l []
  rwa [List.append_nil] at this
theorem insI_leW {a:Int}:∀ {l:List Int},l.Pairwise (·≤·)→(insI a l).Pairwise (·≤·)
  | [],_=>List.pairwise_singleton _ _
  | x::r,h=>by
    rw [List.pairwise_cons] at h
    unfold insI
    split
    · rename_i hlt
      refine List.pairwise_cons.2 ⟨fun y hy=>?_,List.pairwise_cons.2 h⟩
      rcases List.mem_cons.1 hy with rfl | hy
      · omega
      · have:=h.1 y hy; omega
    · rename_i hlt
      refine List.pairwise_cons.2 ⟨fun y hy=>?_,insI_leW h.2⟩
      rcases List.mem_cons.1 ((insI_permW a r).mem_iff.1 hy) with rfl | hy
      · omega
      · exact h.1 y hy
theorem srtI_leW (l:List Int):(srtI l).Pairwise (·≤·):=by
  have:∀ (l o:List Int),o.Pairwise (·≤·)→(l.foldl (fun o a=>insI a o) o).Pairwise (·≤·):=by
    intro l
    induction l with
    | nil=>exact fun o h=>h
    | cons a r ih=>exact fun o h=>ih _ (insI_leW h)
  exact this l [] .nil
theorem compI1_specW:∀ (r:List Int) (a:Int),(a::r).Pairwise (·≤·)→(compI1 a r).Pairwise (· < ·)∧(∀ x,x∈compI1 a r↔x∈a::r)
  | [],a,_=>⟨by simp [compI1],fun x=>Iff.rfl⟩
  | b::r,a,hp=>by
    rw [List.pairwise_cons] at hp
    unfold compI1
    by_cases e:a=b
    · subst e
      rw [if_pos rfl]
      obtain ⟨h1,h2⟩:=compI1_specW r a hp.2
      exact ⟨h1,fun x=>by rw [h2]; simp⟩
    · rw [if_neg e]
      obtain ⟨h1,h2⟩:=compI1_specW r b hp.2
      refine ⟨List.pairwise_cons.2 ⟨fun y hy=>?_,h1⟩,fun x=>by rw [List.mem_cons,h2]; simp⟩
      have hab:=hp.1 b (by simp)
      rcases List.mem_cons.1 ((h2 y).1 hy) with rfl | hy'
      · omega
      · have:=(List.pairwise_cons.1 hp.2).1 y hy'; omega
theorem compI_specW {l:List Int} (h:l.Pairwise (·≤·)):(compI l).Pairwise (· < ·)∧∀ x,x∈compI l↔x∈l:=by
  cases l with
  | nil=>exact ⟨.nil,fun x=>Iff.rfl⟩
  | cons a r=>exact compI1_specW r a h
theorem weeksT_spec (R:Rgr):(weeksT R).Pairwise (· < ·)∧∀ w,w∈weeksT R↔w∈R.sheets.map Fld.week++R.reads.map Rd.week:=by
  obtain ⟨h1,h2⟩:=compI_specW (srtI_leW (R.sheets.map Fld.week++R.reads.map Rd.week))
  exact ⟨h1,fun w=>(h2 w).trans (srtI_permW _).mem_iff⟩
def inWk {α:Type} (f:α→Int) (l:List α) (ws:List Int):Nat:=(l.filter fun x=>decide (f x∈ws)).length
theorem inWk_next {α:Type} (f:α→Int) (l:List α) {ws:List Int} (h:ws.Pairwise (· < ·)) {i:Nat} {w:Int} (hw:ws[i]?=some w):inWk f l (ws.take (i+1))=inWk f l (ws.take i)+(l.filter fun x=>f x == w).length:=by
  have hn:w ∉ ws.take i:=fun hm=>by
    obtain ⟨j,hj,rfl⟩:=List.getElem_of_mem hm
    rw [List.getElem_take] at hw
    obtain ⟨hi,e⟩:=List.getElem?_eq_some_iff.1 hw
    rw [List.length_take] at hj
    have:=List.pairwise_iff_getElem.1 h j i (by omega) hi (by omega)
    omega
  have ht:ws.take (i+1)=ws.take i++[w]:=by rw [List.take_add_one,hw]; rfl
  rw [ht]
  unfold inWk
  generalize ws.take i=u at hn
  induction l with
  | nil=>rfl
  | cons x r ih =>
    simp only [List.filter_cons,List.mem_append,List.mem_singleton,beq_iff_eq,decide_eq_true_eq] at ih ⊢
    by_cases h1:f x=w
    · have:¬ f x∈u:=fun h=>hn (h1 ▸ h)
      simp only [h1,or_true,if_true,List.length_cons] at ih ⊢
      rw [if_neg hn,ih]; omega
    · by_cases h2:f x∈u
      · simp only [h1,h2,or_false,if_true,if_false,List.length_cons] at ih ⊢
        rw [ih]; omega
      · simp only [h1,h2,or_false,if_false] at ih ⊢
        exact ih
theorem inWk_all {α:Type} (f:α→Int) (l:List α) {ws:List Int} (h:∀ x∈l,f x∈ws):inWk f l ws=l.length:=by
  unfold inWk
  rw [List.filter_eq_self.2 fun x hx=>decide_eq_true (h x hx)]
theorem inWk_nil {α:Type} (f:α→Int) (l:List α):inWk f l []=0:=by
  unfold inWk
  rw [List.filter_eq_nil_iff.2 fun x _=>by simp]; rfl
theorem flg_mem {S:List Nt} (a:Nt):flg S a=a∨(flg S a∈S∧(flg S a).kind=5):=by
  unfold flg
  cases h:(S.filter fun k=>kd 5 k && onT a.nm k).getLast? with
  | none=>exact .inl rfl
  | some c =>
    have hc:=List.mem_of_getLast? h
    rw [List.mem_filter] at hc
    simp only [Bool.and_eq_true,kd_iff] at hc
    exact .inr ⟨hc.1,hc.2.1⟩
theorem week_sheet {b:Bse} {a:Nt} (h:a.ok b) (hk:a.kind=1∨a.kind=5):inr a.week 0 10000:=by
  have h1:=h.2.2.2.2
  unfold Nt.says at h1
  rcases hk with hk | hk
  · rw [if_pos hk] at h1; exact h1.1.2
  · rw [if_neg (by omega),if_neg (by omega),if_neg (by omega),if_neg (by omega),if_pos hk] at h1; exact h1.1.2
theorem week_read {b:Bse} {a:Nt} (h:a.ok b) (hk:a.kind=3∨(a.kind=6∧a.read.stn≠0)):inr a.read.week 0 10000:=by
  have h1:=h.2.2.2.2
  unfold Nt.says at h1
  rcases hk with hk | ⟨hk,h0⟩
  · rw [if_neg (by omega),if_neg (by omega),if_pos hk] at h1; exact h1.1.2
  · rw [if_neg (by omega),if_neg (by omega),if_neg (by omega),if_neg (by omega),if_neg (by omega),if_pos hk,if_pos h0] at h1; exact h1.2.1.2
structure WeeksT (b:Bse) (l:List Nt) (R:Rgr):Prop where
  len:R.sheets.length≤l.length∧R.reads.length≤l.length
  wks:(weeksT R).Pairwise (· < ·)
  rng:∀ w∈weeksT R,inr w 0 10000
  fst:∀ w∈weeksT R,0 < (srtF (R.sheets.filter fun f=>f.week == w)).length+(R.reads.filter fun x=>x.week == w).length
  shs:∀ x∈R.sheets,x.week∈weeksT R
  rds:∀ x∈R.reads,x.week∈weeksT R
  one:∀ x∈R.sheets,∃ i,sheetAt R.sheets x.stn x.week=some i∧R.sheets[i]?=some x
  srt:∀ w,(srtF (R.sheets.filter fun f=>f.week == w)).Pairwise (fun x y=>x.stn < y.stn)
theorem srtF_mem {l:List Fld} {x:Fld}:x∈srtF l↔x∈l:=by rw [srtF_eq]; exact (srtK_spec l).2.mem
theorem srtF_len (l:List Fld):(srtF l).length=l.length:=by rw [srtF_eq]; exact srtK_len l
theorem weeksT_law {b:Bse} {l:List Nt} (ok:(setE b l).1=0):WeeksT b l (refT b l):=by
  obtain ⟨_,_,hoks,_⟩:=setE_ok ok
  have hn:=standT_nodup (setE_nodup ok)
  have inl:∀ c∈standT l,c∈l:=fun c hc=>(mem_standT.1 hc).1
  have hS:=standT_len l
  have hsh:(refT b l).sheets=(entN (standT l) (standT l)).map (fld (standT l)):=shsR_ent _ _
  have hrd:(refT b l).reads=((standT l).filter (kd 3)).map fun a=>(knw (standT l) a).read:=rfl
  obtain ⟨w1,w2⟩:=weeksT_spec (refT b l)
  have one:∀ i x,(refT b l).sheets[i]?=some x→sheetAt (refT b l).sheets x.stn x.week=some i:=fun i x hx=>by
    obtain ⟨a,ha⟩:=oneT ok hx
    exact ha.at'
  have one':∀ x∈(refT b l).sheets,∃ i,sheetAt (refT b l).sheets x.stn x.week=some i∧(refT b l).sheets[i]?=some x:=fun x hx=>by
    obtain ⟨i,hi⟩:=List.getElem?_of_mem hx
    exact ⟨i,one i x hi,hi⟩
  refine ⟨⟨?_,?_⟩,w1,fun w hw=>?_,fun w hw=>?_,fun x hx=>(w2 _).2 (List.mem_append.2 (.inl (List.mem_map.2 ⟨x,hx,rfl⟩))),fun x hx=>(w2 _).2 (List.mem_append.2 (.inr (List.mem_map.2 ⟨x,hx,rfl⟩))),one',fun w=>?_⟩
  · rw [hsh,List.length_map]
    have h1:=(entN_sub (standT l) (standT l)).length_le
    have h2:=List.length_filter_le (kd 1) (standT l)
    omega
  · rw [hrd,List.length_map]
    have h2:=List.length_filter_le (kd 3) (standT l)
    omega
  · rcases List.mem_append.1 ((w2 w).1 hw) with h | h
    · obtain ⟨x,hx,rfl⟩:=List.mem_map.1 h
      rw [hsh] at hx
      obtain ⟨a,ha,rfl⟩:=List.mem_map.1 hx
      obtain ⟨g1,g2⟩:=entN_mem ha
      show inr (flg (standT l) a).week 0 10000
      rcases flg_mem (S:=standT l) a with e | ⟨c1,c2⟩
      · rw [e]; exact week_sheet (hoks a (inl a g1)) (.inl g2)
      · exact week_sheet (hoks _ (inl _ c1)) (.inr c2)
    · obtain ⟨x,hx,rfl⟩:=List.mem_map.1 h
      rw [hrd] at hx
      obtain ⟨a,ha,rfl⟩:=List.mem_map.1 hx
      rw [List.mem_filter,kd_iff] at ha
      rcases knw_mem (S:=standT l) a with e | ⟨c1,c2,c3,c4⟩
      · rw [e]; exact week_read (hoks a (inl a ha.1)) (.inl ha.2)
      · refine week_read (hoks _ (inl _ c1)) (.inr ⟨c2,fun h0=>?_⟩)
        have hf:fq (standT l) (fun _=>true) (knw (standT l) a).ref=some a:=(fq_some hn).2 ⟨ha.1,c3.symm,rfl⟩
        unfold corr at c4
        rw [hf] at c4
        simp only at c4
        rw [if_neg (by omega),kd_ff.2 (by omega)] at c4
        simp at c4
  · rcases List.mem_append.1 ((w2 w).1 hw) with h | h
    · obtain ⟨x,hx,rfl⟩:=List.mem_map.1 h
      have:x∈srtF ((refT b l).sheets.filter fun f=>f.week == x.week):=srtF_mem.2 (List.mem_filter.2 ⟨hx,by simp⟩)
      have:=List.length_pos_of_mem this
      omega
    · obtain ⟨x,hx,rfl⟩:=List.mem_map.1 h
      have:x∈(refT b l).reads.filter fun f=>f.week == x.week:=List.mem_filter.2 ⟨hx,by simp⟩
      have:=List.length_pos_of_mem this
      omega
  · have hnd:((refT b l).sheets.filter fun f=>f.week == w).Pairwise (fun x y=>¬ x.stn=y.stn):=by
      rw [List.pairwise_filter]
      refine List.pairwise_iff_getElem.2 fun i j hi hj hij h1 h2 e=>?_
      have g1:=one i _ (List.getElem?_eq_getElem hi)
      have g2:=one j _ (List.getElem?_eq_getElem hj)
      simp only [beq_iff_eq] at h1 h2
      rw [h1] at g1
      rw [h2,← e,g1] at g2
      injection g2 with g2
      omega
    have hnd2:(srtF ((refT b l).sheets.filter fun f=>f.week == w)).Pairwise (fun x y=>¬ x.stn=y.stn):=by
      have hp:(srtF ((refT b l).sheets.filter fun f=>f.week == w)).Perm ((refT b l).sheets.filter fun f=>f.week == w):=by
        have:∀ (l o:List Fld),(l.foldl (fun o a=>insF a o) o).Perm (l++o):=by
          intro l
          induction l with
          | nil=>exact fun o=>.refl _
          | cons a r ih =>
            have ip:∀ l,(insF a l).Perm (a::l):=by
              intro l
              induction l with
              | nil=>exact .refl _
              | cons x r ih =>
                unfold insF
                split
                · exact .refl _
                · exact (ih.cons x).trans (.swap a x r)
            exact fun o=>(ih _).trans (((ip o).append_left r).trans List.perm_middle)
        have:=this ((refT b l).sheets.filter fun f=>f.week == w) []
        rwa [List.append_nil] at this
      exact (hp.pairwise_iff (fun {x y} h e=>h e.symm)).2 hnd
    have hs:=(srtK_spec (key:=Fld.stn) ((refT b l).sheets.filter fun f=>f.week == w)).1
    rw [← srtF_eq] at hs
    exact (List.Pairwise.and hs hnd2).imp fun {x y} ⟨h1,h2⟩=>by omega
end Go.Abs
namespace Go.Proofs.YtolgelipcgcbhaaGreat
open Go.Abs
open Nat (reduceAdd reduceSub reduceLT reduceLeDiff reduceMul reduceEqDiff)
set_option linter.unusedVariables false
set_option linter.unusedSimpArgs false
set_option maxHeartbeats 4000000
set_option maxRecDepth 100000
theorem stable_does (σ:Sto) (f N:Nat) (l:List Fld) (hf:σ.at f 0=some (obF l)) (hn:l.length=N) (hl:N < 1099511627776) :
    Does Tryz.prog 167 [.own f 0 N,n N,wkC] σ (fun _ σ'=>σ'=σ.upd f 0 (obF (srtK Fld.stn l))):=by
  refine Does.of_body Tryz.call167 Tryz.func167 k167 (Nat.le_of_ble_eq_true rfl) ?_
  unfold c167
  have hC:∀ o,Sto.at (σ.upd f 0 o) f 0=some o:=fun o=>at_upd_same hf
  have hD:∀ o o',(σ.upd f 0 o).upd f 0 o'=σ.upd f 0 o':=fun o o'=>upd_upd hf
  have hins:∀ (W:List Fld) (a b:Nat),W.length=N→a≤b→b≤N→Does Tryz.prog 213 [.own f 0 N,n a,n b,wkC] (σ.upd f 0 (obF W)) (fun _ σ'=>σ'=σ.upd f 0 (obF (stS Fld.stn W a b))):=fun W a b h1 h2 h3=>by
    have:=insertion_does (σ.upd f 0 (obF W)) f N W a b (hC _) h1 h2 h3 hl
    simpa only [hD] using this
  have hmrg:∀ (W:List Fld) (a m b:Nat),W.length=N→a < m→m < b→b≤N→KSrt Fld.stn (seg W a m)→KSrt Fld.stn (seg W m b)→Does Tryz.prog 214 [.own f 0 N,n a,n m,n b,wkC] (σ.upd f 0 (obF W)) (fun _ σ'=>σ'=σ.upd f 0 (obF (stS Fld.stn W a b))):=fun W a m b h1 h2 h3 h4 h5 h6=>by
    have:=symMerge_does (b - a) (σ.upd f 0 (obF W)) f N W a m b (Nat.le_refl _) (hC _) h1 h2 h3 h4 hl h5 h6
    simpa only [hD] using this
  clear hC hD
  ((refine Au ?_;repeat' first|exact True.intro|refine Cj.mk ?_ ?_)<;>intros<;>refine hD_ ?_)
  refine AWPC.loopE (α:={ x:Nat × List Fld // BlkS Fld.stn l 20 x.1 x.2 }) [7,8] (fun x=>[(7,n x.1.1),(8,n ((x.1.1:Int)+20))]) (fun x=>σ.upd f 0 (obF x.1.2)) (fun x=>N - x.1.1) ⟨(0,l),BlkS.init l 20⟩ ?_ (by simp only; rw [upd_self hf]) ?_
  · (simp only [zN,zT,zV,zS,zU,vcC,lateX,ex,strp,binA,elems,cells,scalar,eqC,keyA,intsA,lookA,ofVs,mpOf,Nat.reduceBEq,reduceAdd,reduceSub,reduceLT,reduceLeDiff,reduceMul,reduceEqDiff,reduceIte]; try simp)
  · rintro ⟨⟨a,W⟩,hB⟩
    simp only at hB ⊢
    have hle:=hB.le
    have hWl:=hB.len.trans hn
    by_cases hlt:a+20≤N
    · have hc:=hins W a (a+20) hWl (by omega) hlt
      have hN:=hB.next (by decide) (by omega)
      rw [show ((a+20:Nat):Int)=(a:Int)+20 by omega] at hc
      ((refine Au ?_;repeat' first|exact True.intro|refine Cj.mk ?_ ?_)<;>intros<;>refine hD_ ?_)
      all_goals try (exfalso; omega)
      refine .inr (.inl ⟨_,_,_,_,rfl,fun _=>⟨hc,?_⟩,fun h=>by cases h⟩)
      rintro r σ' rfl
      refine owp_of_exs ?_
      simp only [zN,zT,zV,zS,zU,vcC,lateX,ex,strp,binA,elems,cells,scalar,eqC,keyA,intsA,lookA,ofVs,mpOf,Nat.reduceBEq,reduceAdd,reduceSub,reduceLT,reduceLeDiff,reduceMul,reduceEqDiff,reduceIte]
      ((refine Au ?_;repeat' first|exact True.intro|refine Cj.mk ?_ ?_)<;>intros<;>refine hD_ ?_)
      exact ⟨⟨(a+20,stS Fld.stn W a (a+20)),hN⟩,by simp,rfl,by simp only; omega⟩
    · have hc:=hins W a N hWl (by omega) (Nat.le_refl _)
      obtain ⟨w1,w2,w3⟩:=hB.fin (by decide) (by omega)
      rw [hn] at w1 w2 w3
      ((refine Au ?_;repeat' first|exact True.intro|refine Cj.mk ?_ ?_)<;>intros<;>refine hD_ ?_)
      all_goals try (exfalso; omega)
      refine .inr (.inl ⟨_,_,_,_,rfl,fun _=>⟨hc,?_⟩,fun h=>by cases h⟩)
      rintro r σ' rfl
      refine owp_of_exs ?_
      simp only [zN,zT,zV,zS,zU,vcC,lateX,ex,strp,binA,elems,cells,scalar,eqC,keyA,intsA,lookA,ofVs,mpOf,Nat.reduceBEq,reduceAdd,reduceSub,reduceLT,reduceLeDiff,reduceMul,reduceEqDiff,reduceIte]
      ((refine Au ?_;repeat' first|exact True.intro|refine Cj.mk ?_ ?_)<;>intros<;>refine hD_ ?_)
      refine AWPC.loopE (α:={ x:Nat × List Fld // 0 < x.1∧SBlk Fld.stn x.1 x.2∧StEq Fld.stn x.2 l∧x.2.length=N∧x.1 < 4398046511104 }) [6] (fun x=>[(6,n x.1.1)]) (fun x=>σ.upd f 0 (obF x.1.2)) (fun x=>N - x.1.1) ⟨(20,stS Fld.stn W a N),by dsimp only; omega,w1,w2,w3,by dsimp only; omega⟩ ?_ rfl ?_
      · (simp only [zN,zT,zV,zS,zU,vcC,lateX,ex,strp,binA,elems,cells,scalar,eqC,keyA,intsA,lookA,ofVs,mpOf,Nat.reduceBEq,reduceAdd,reduceSub,reduceLT,reduceLeDiff,reduceMul,reduceEqDiff,reduceIte]; try simp)
      · clear hB hWl hc hlt hle w1 w2 w3
        rintro ⟨⟨bs,W⟩,hb0,hB,hst,hWl,hbs⟩
        simp only at hb0 hB hst hWl hbs ⊢
        by_cases hlt:bs < N
        · ((refine Au ?_;repeat' first|exact True.intro|refine Cj.mk ?_ ?_)<;>intros<;>refine hD_ ?_)
          all_goals try (exfalso; omega)
          refine AWPC.loopE (α:={ x:Nat × List Fld // MrgS Fld.stn l bs x.1 x.2 }) [7,8] (fun x=>[(7,n x.1.1),(8,n ((x.1.1:Int)+2 * (bs:Int)))]) (fun x=>σ.upd f 0 (obF x.1.2)) (fun x=>N - x.1.1) ⟨(0,W),MrgS.init hB (hWl.trans hn.symm) hst⟩ ?_ rfl ?_
          · (simp only [zN,zT,zV,zS,zU,vcC,lateX,ex,strp,binA,elems,cells,scalar,eqC,keyA,intsA,lookA,ofVs,mpOf,Nat.reduceBEq,reduceAdd,reduceSub,reduceLT,reduceLeDiff,reduceMul,reduceEqDiff,reduceIte]; try simp)
          · skip
            rintro ⟨⟨a,W⟩,hM⟩
            simp only at hM ⊢
            have hle:=hM.le
            have hWl:=hM.len.trans hn
            obtain ⟨p1,p2⟩:=hM.pre
            by_cases hla:a+2 * bs≤N
            · have hc:=hmrg W a (a+bs) (a+2 * bs) hWl (by omega) (by omega) hla p1 p2
              have hN:=hM.next hb0 (by omega)
              rw [show ((a+bs:Nat):Int)=(a:Int)+(bs:Int) by omega,show ((a+2 * bs:Nat):Int)=(a:Int)+2 * (bs:Int) by omega] at hc
              ((refine Au ?_;repeat' first|exact True.intro|refine Cj.mk ?_ ?_)<;>intros<;>refine hD_ ?_)
              all_goals try (exfalso; omega)
              refine .inr (.inl ⟨_,_,_,_,rfl,fun _=>⟨hc,?_⟩,fun h=>by cases h⟩)
              rintro r σ' rfl
              refine owp_of_exs ?_
              simp only [zN,zT,zV,zS,zU,vcC,lateX,ex,strp,binA,elems,cells,scalar,eqC,keyA,intsA,lookA,ofVs,mpOf,Nat.reduceBEq,reduceAdd,reduceSub,reduceLT,reduceLeDiff,reduceMul,reduceEqDiff,reduceIte]
              ((refine Au ?_;repeat' first|exact True.intro|refine Cj.mk ?_ ?_)<;>intros<;>refine hD_ ?_)
              exact ⟨⟨(a+2 * bs,stS Fld.stn W a (a+2 * bs)),hN⟩,by simp,rfl,by simp only; omega⟩
            · have hF:=fun W'=>hM.fin (W':=W') hb0 (by omega)
              by_cases hm:a+bs < N
              · obtain ⟨f1,f2,f3⟩:=hF (stS Fld.stn W a N) (by rw [if_pos (by omega),hn])
                have p3:KSrt Fld.stn (seg W (a+bs) N):=by
                  rw [seg_end (by omega),hWl] at p2; exact p2
                have hc:=hmrg W a (a+bs) N hWl (by omega) hm (Nat.le_refl _) p1 p3
                rw [show ((a+bs:Nat):Int)=(a:Int)+(bs:Int) by omega] at hc
                ((refine Au ?_;repeat' first|exact True.intro|refine Cj.mk ?_ ?_)<;>intros<;>refine hD_ ?_)
                all_goals try (exfalso; omega)
                refine .inr (.inl ⟨_,_,_,_,rfl,fun _=>⟨hc,?_⟩,fun h=>by cases h⟩)
                rintro r σ' rfl
                refine owp_of_exs ?_
                simp only [zN,zT,zV,zS,zU,vcC,lateX,ex,strp,binA,elems,cells,scalar,eqC,keyA,intsA,lookA,ofVs,mpOf,Nat.reduceBEq,reduceAdd,reduceSub,reduceLT,reduceLeDiff,reduceMul,reduceEqDiff,reduceIte]
                ((refine Au ?_;repeat' first|exact True.intro|refine Cj.mk ?_ ?_)<;>intros<;>refine hD_ ?_)
                exact ⟨⟨(2 * bs,stS Fld.stn W a N),by dsimp only; omega,f1,f2,by dsimp only; omega,by dsimp only; omega⟩,by simp; omega,rfl,by simp only; omega⟩
              · obtain ⟨f1,f2,f3⟩:=hF W (by rw [if_neg (by omega)])
                ((refine Au ?_;repeat' first|exact True.intro|refine Cj.mk ?_ ?_)<;>intros<;>refine hD_ ?_)
                all_goals try (exfalso; omega)
                exact ⟨⟨(2 * bs,W),by dsimp only; omega,f1,f2,hWl,by dsimp only; omega⟩,by simp; omega,rfl,by simp only; omega⟩
        · have hfin:=hB.fin hst (hWl.trans hn.symm) (by omega)
          rw [← hfin]
          ((refine Au ?_;repeat' first|exact True.intro|refine Cj.mk ?_ ?_)<;>intros<;>refine hD_ ?_)
          all_goals try (exfalso; omega)
theorem sortF:SortF fun l=>l.length < 1099511627776:=fun σ f l hl hf=>by
  refine Does.of_body Tryz.call99 Tryz.func99 k99 (Nat.le_of_ble_eq_true rfl) ?_
  unfold c99
  ((refine Ax @hf ?_;repeat' first|exact True.intro|refine Cj.mk ?_ ?_)<;>intros<;>refine hD_ ?_)
  refine .inr (.inl ⟨_,_,_,_,rfl,fun _=>⟨stable_does σ f _ l hf rfl hl,?_⟩,fun h=>by cases h⟩)
  rintro r σ' rfl
  refine owp_of_exs ?_
  simp only [zN,zT,zV,zS,zU,vcC,lateX,ex,strp,binA,elems,cells,scalar,eqC,keyA,intsA,lookA,ofVs,mpOf,Nat.reduceBEq,reduceAdd,reduceSub,reduceLT,reduceLeDiff,reduceMul,reduceEqDiff,reduceIte]
  rw [srtF_eq]
def c25:CF:=⟨44,(jo [jx 3 26 6 0,jx 5 29 2 2,jn 6,jc 7 0] [1,3,5]
 (.seq (jo [jk 12 6 3,jm 13 1,jw 14 (.bsl false 27 1 1 [.slice none 0 0] [(0,1,(.t 13))]),jy 15 80 [12,14],jm 8 15] [1,5,8]
 (jo [jm 16 8,ju .neq 17 16 0] [1,5,8,17]
 (.cond (.t 17) (jo [jm 18 8,jn 6,jm 7 18] [6,7]
 .ret)
 .skip)))
 (jo [jc 9 0] [1,5]
 (.seq (.seq (.draw [jm 19 1,jy 20 87 [19],jk 21 2 5,jw 22 (.look 2 true z38 false (.t 20) (.t 21)),jw 23 (.field 4 none (.t 22))] [] [1,5,23])
 (.block 0 (jo [ju .eql 25 23 1,jm 24 25] [1,5,23,24]
 (.cond (.t 24) (.ops [jc 9 5] [1,5,9])
 (.seq (jo [ju .eql 27 23 2,jm 26 27] [1,5,23,26]
 (.cond (.t 26) .skip
 (.ops [ju .eql 28 23 3,jm 26 28] [1,5,26])))
 (.cond (.t 26) (.ops [jc 9 6] [1,5,9])
 (jo [jn 6,jc 7 3] [6,7]
 .ret)))))))
 (jo [jw 10 (.alloc 35 1 [.slice none 0 0])] [1,5,9,10]
 (.seq (jo [jm 29 1,jm 30 9,jw 31 (.bsl false 3 1 1 [.int .i64 0] [(0,1,(.t 30))]),jy 32 88 [29,31]] [5,10,32]
 (.block 1 (.rng (.t 32) [33] (.ops [jw 11 (.alloc 68 38 z38),js 38 11 33] [5,10,11])
 (.block 2 (jo [jf 34 36 11,jk 35 2 34,jk 36 2 5,jw 37 (.eqs false [some .i64,some .i64] (.t 35) (.t 36))] [5,10,11,37]
 (.cond (.t 37) (.draw [jl 38 10,jk 39 38 11,jy 40 89 [39],jw 41 (.bsl false 29 2 1 [.int .i64 0,.int .i64 0] [(0,2,(.t 40))])] [jw 42 (.app 29 2 16 (.t 38) (.t 41)),js 1 10 42] [5,10])
 .skip))))))
 (jo [jl 43 10,jm 6 43,jc 7 0] [6,7]
 .ret))))))),[.t 6,.t 7]⟩
theorem k25:chkF Tryz.prog Tryz.f25 c25=true:=by kernel_rfl
theorem ref_iff {a:Nt} {m:Nm}:(a.ref == m)=decide (a.ref.clerk=m.clerk∧a.ref.num=m.num):=by
  generalize a.ref=r
  cases r; cases m
  rw [Bool.eq_iff_iff]
  simp
theorem Chain_spec (b:Bse) (hb:bseSz b) (l:List Nt) (hl:setSz l) (m:Nm):Pure Tryz.prog 25 [.agg b.cs,ntS l,.agg m.cs] (.tup [nmS (chainE b l m).1,n (chainE b l m).2]):=by
  refine Pure.of_body Tryz.call25 Tryz.func25 k25 (Nat.le_of_ble_eq_true rfl) ?_
  unfold c25
  have h1:=asked_spec b hb [l] (by simp) (by simpa using hl)
  by_cases ha:askedE b [l]=0
  · rw [ha] at h1
    have hok:=(askedE_ok ha).2 l (by simp)
    have h400:=(setE_ok hok).2.1
    have hby:=byName_spec l hl
    have hA:=mget_kenc ntA m (byName l)
    cases hg:kget (byName l) m with
    | none =>
      rw [hg] at hA
      simp only [Nm.ky,Option.map_none] at hA
      have hE:chainE b l m=([],3):=by unfold chainE; rw [if_neg (by omega),hg]; rfl
      rw [hE]
      ((refine Az @hA (And.intro @h1 @hby) ?_;repeat' first|exact True.intro|refine Cj.mk ?_ ?_)<;>intros<;>refine hD_ ?_)
      all_goals try (exfalso; omega)
      all_goals exact Frz.tupL ⟨Frz.nil0,Frz.pure (by simp),trivial⟩
    | some a =>
      rw [hg] at hA
      simp only [Nm.ky,Option.map_some] at hA
      by_cases hk:a.kind=1∨a.kind=2∨a.kind=3
      · obtain ⟨k,hkk⟩:∃ k:Int,k=if a.kind=1 then 5 else 6:=⟨_,rfl⟩
        have hE:chainE b l m=(((standK l [k]).filter fun a=>a.ref == m).map Nt.nm,0):=by unfold chainE; simp only [hg,Option.getD_some]; rw [if_neg (by omega),if_pos hk,hkk]
        rw [hE]
        have hit:=stand_iter l h400 [k] (by simp) (inS [k]) (.inl rfl)
        have h2:=standing_spec l hl h400 (setE_nodup hok) [k] (inS [k]) (.inl rfl)
        have hlen:=standK_len l [k]
        generalize standK l [k]=S at hit hlen
        have hsw:(a.kind=1∧k=5)∨(a.kind=2∧k=6)∨(a.kind=3∧k=6):=by
          rcases hk with h | h | h
          · rw [if_pos h] at hkk; exact .inl ⟨h,hkk⟩
          · rw [if_neg (by omega)] at hkk; exact .inr (.inl ⟨h,hkk⟩)
          · rw [if_neg (by omega)] at hkk; exact .inr (.inr ⟨h,hkk⟩)
        clear hkk hk
        rcases hsw with ⟨hk,rfl⟩ | ⟨hk,rfl⟩ | ⟨hk,rfl⟩
        all_goals (
          ((refine Az (And.intro @hA @hk) (And.intro @h1 (And.intro @hby @h2)) ?_;repeat' first|exact True.intro|refine Cj.mk ?_ ?_)<;>intros<;>refine hD_ ?_)
          all_goals try (exfalso; omega)
          refine AWPC.own0c 29 2 (f:=0) (i:=0) (e:=0) (j:=0) rfl (by simp) rfl ?_
          refine AWPC.rng (fun R:{ R:List Nt // R.length≤S.length }=>[some [⟨35,1,[[.own 1 0 R.1.length]],none⟩],some [⟨29,2,R.1.map (fun a=>Nm.cs a.nm),none⟩]]) 2 (fun _=>rfl) (fun k x=>x.1=(S.take k).filter fun a=>a.ref == m) (fun _ _=>False) (ntTr S) ⟨[],Nat.zero_le _⟩
            rfl rfl rfl hit (fun k args h=>?_) (fun k x args ll ρ τ hk hx=>?_) (fun x τ hx=>?_) (fun _ _ _ h=>h.elim)
          · obtain ⟨a,_,rfl⟩:=ntTr_get h
            rfl
          · obtain ⟨R,hR⟩:=x
            simp only at hx
            obtain ⟨a,hs,rfl⟩:=ntTr_get hk
            have hnx:=filter_next (q:=fun a:Nt=>a.ref == m) hs
            have hRl:((S.take (k+1)).filter fun a:Nt=>a.ref == m).length≤S.length:=Nat.le_trans (List.length_filter_le _ _) (by rw [List.length_take]; omega)
            rw [← hx,ref_iff] at hnx
            simp only [par]
            generalize hM:(R.map fun a=>Nm.cs a.nm)=M
            have hMl:M.length=R.length:=by rw [← hM,List.length_map]
            simp only [hM,List.append_assoc,List.cons_append,List.nil_append]
            ((refine Au ?_;repeat' first|exact True.intro|refine Cj.mk ?_ ?_)<;>intros<;>refine hD_ ?_)
            refine ⟨⟨R,hR⟩,[some [⟨68,38,[a.cs],none⟩]],by simp [hM],fun ρ'=>?_⟩
            simp only [List.append_assoc,List.cons_append,List.nil_append,hM]
            by_cases hrf:a.ref.clerk=m.clerk∧a.ref.num=m.num
            · rw [decide_eq_true hrf] at hnx
              simp only [if_true] at hnx
              ((refine Az (And.intro @hMl @hrf) (name_spec a) ?_;repeat' first|exact True.intro|refine Cj.mk ?_ ?_)<;>intros<;>refine hD_ ?_)
              all_goals try (exfalso; omega)
              refine ⟨⟨R++[a],by rw [← hnx]; exact hRl⟩,[],?_,hnx.symm⟩
              simp [← hM]
            · rw [decide_eq_false hrf] at hnx
              simp only [Bool.false_eq_true,if_false] at hnx
              ((refine Az (And.intro @hMl @hrf) (name_spec a) ?_;repeat' first|exact True.intro|refine Cj.mk ?_ ?_)<;>intros<;>refine hD_ ?_)
              all_goals try (exfalso; omega)
              refine ⟨⟨R,hR⟩,[],?_,hnx.symm⟩
              simp [← hM]
          · obtain ⟨R,hR⟩:=x
            simp only at hx
            have hll:(ntTr S).length=S.length:=by simp [ntTr]
            rw [hll,List.take_length] at hx
            simp only [zN,zT,zV,zS,zU,vcC,lateX,ex,strp,binA,elems,cells,scalar,eqC,keyA,intsA,lookA,ofVs,mpOf,Nat.reduceBEq,reduceAdd,reduceSub,reduceLT,reduceLeDiff,reduceMul,reduceEqDiff,reduceIte]
            ((refine Au ?_;repeat' first|exact True.intro|refine Cj.mk ?_ ?_)<;>intros<;>refine hD_ ?_)
            rw [← hx]
            exact Frz.tupL ⟨by rw [nmS,List.map_map]; exact Frz.ownL (T:=29) (cs:=fun a:Nt=>Nm.cs a.nm) rfl rfl (by decide) (fun a c hc=>by simp at hc; rcases hc with rfl | rfl <;> simp) (fun a=>rfl),Frz.pure (by simp),trivial⟩)
      · have hE:chainE b l m=([],3):=by unfold chainE; simp only [hg,Option.getD_some]; rw [if_neg (by omega),if_neg hk]
        rw [hE]
        have hk1:¬ a.kind=1:=fun h=>hk (.inl h)
        have hk2:¬ a.kind=2:=fun h=>hk (.inr (.inl h))
        have hk3:¬ a.kind=3:=fun h=>hk (.inr (.inr h))
        ((refine Az (And.intro @hA (And.intro @hk1 (And.intro @hk2 @hk3))) (And.intro @h1 @hby) ?_;repeat' first|exact True.intro|refine Cj.mk ?_ ?_)<;>intros<;>refine hD_ ?_)
        all_goals try (exfalso; omega)
        all_goals exact Frz.tupL ⟨Frz.nil0,Frz.pure (by simp),trivial⟩
  · have hE:chainE b l m=([],askedE b [l]):=by unfold chainE; rw [if_pos ha]
    rw [hE]
    ((refine Ay @h1 ?_;repeat' first|exact True.intro|refine Cj.mk ?_ ?_)<;>intros<;>refine hD_ ?_)
    all_goals try (exfalso; omega)
    exact Frz.tupL ⟨Frz.nil0,Frz.pure (by simp),trivial⟩
end Go.Proofs.YtolgelipcgcbhaaGreat
