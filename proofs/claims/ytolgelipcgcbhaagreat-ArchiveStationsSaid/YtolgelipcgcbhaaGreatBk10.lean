/- Part 10 of the texts that the claim rests on: abstract values over the walk, and contracts of functions. -/
import Derived.Test.YtolgelipcgcbhaaGreatBk9
import Derived.Shelf.SortM.Plain
import Derived.Shelf.SortM.SortNone
import Derived.Test.YtolgelipcgcbhaaGreatProg
import Derived.Test.YtolgelipcgcbhaaGreatRows
namespace Go.Proofs.YtolgelipcgcbhaaGreat
open Go.Shelf
def Tryz.laysSlM5_f94_ren:Go.Shelf.Ren:=⟨fun | 5=>94 | 8=>162 | 7=>161 | 19=>207 | 20=>208 | 10=>198 | 11=>199 | 12=>200 | 13=>201 | 14=>202 | 15=>203 | 16=>204 | 17=>205 | 18=>206 | 30=>233 | 31=>234 | 32=>235 | 33=>236 | 34=>237 | 35=>168 | 40=>250 | n=>n,fun | 23=>52 | 25=>3 | 3=>3 | 32=>210 | 22=>52 | 0=>0 | 44=>254 | 46=>256 | 4=>4 | 36=>246 | 35=>245 | 41=>251 | 5=>5 | 9=>9 | 53=>285 | 57=>289 | 63=>299 | 64=>300 | n=>n,fun | n=>n⟩
theorem Tryz.laysSlM5_f94:Go.Proofs.SlLaysM.n5 Tryz.prog Tryz.laysSlM5_f94_ren:={
  mixed:=by kernel_rfl
  f5:=⟨Tryz.f94.name,by decide,Tryz.func94.trans (congrArg some (by kernel_rfl))⟩
  f7:=⟨Tryz.f161.name,by decide,Tryz.func161.trans (congrArg some (by kernel_rfl))⟩
  f8:=Tryz.func162.trans (congrArg some (by kernel_rfl))
  f10:=⟨Tryz.f198.name,by decide,Tryz.func198.trans (congrArg some (by kernel_rfl))⟩
  f11:=⟨Tryz.f199.name,by decide,Tryz.func199.trans (congrArg some (by kernel_rfl))⟩
  f12:=⟨Tryz.f200.name,by decide,Tryz.func200.trans (congrArg some (by kernel_rfl))⟩
  f13:=⟨Tryz.f201.name,by decide,Tryz.func201.trans (congrArg some (by kernel_rfl))⟩
  f14:=⟨Tryz.f202.name,by decide,Tryz.func202.trans (congrArg some (by kernel_rfl))⟩
  f15:=⟨Tryz.f203.name,by decide,Tryz.func203.trans (congrArg some (by kernel_rfl))⟩
  f16:=⟨Tryz.f204.name,by decide,Tryz.func204.trans (congrArg some (by kernel_rfl))⟩
  f17:=⟨Tryz.f205.name,by decide,Tryz.func205.trans (congrArg some (by kernel_rfl))⟩
  f18:=⟨Tryz.f206.name,by decide,Tryz.func206.trans (congrArg some (by kernel_rfl))⟩
  f19:=Tryz.func207.trans (congrArg some (by kernel_rfl))
  f20:=Tryz.func208.trans (congrArg some (by kernel_rfl))
  f30:=⟨Tryz.f233.name,by decide,Tryz.func233.trans (congrArg some (by kernel_rfl))⟩
  f31:=Tryz.func234.trans (congrArg some (by kernel_rfl))
  f32:=Tryz.func235.trans (congrArg some (by kernel_rfl))
  f33:=⟨Tryz.f236.name,by decide,Tryz.func236.trans (congrArg some (by kernel_rfl))⟩
  f34:=⟨Tryz.f237.name,by decide,Tryz.func237.trans (congrArg some (by kernel_rfl))⟩
  f35:=⟨Tryz.f168.name,by decide,Tryz.func168.trans (congrArg some (by kernel_rfl))⟩
  f40:=⟨Tryz.f250.name,by decide,Tryz.func250.trans (congrArg some (by kernel_rfl))⟩
  t0:=Tryz.underlying0
  a0:=Tryz.isAgg0
  z0:=Tryz.sizeOf0
  v0:=Tryz.zeroValue0
  t3:=Tryz.underlying3
  a3:=Tryz.isAgg3
  z3:=Tryz.sizeOf3
  v3:=Tryz.zeroValue3
  t4:=Tryz.underlying4
  a4:=Tryz.isAgg4
  z4:=Tryz.sizeOf4
  v4:=Tryz.zeroValue4
  t5:=Tryz.underlying5
  a5:=Tryz.isAgg5
  z5:=Tryz.sizeOf5
  v5:=Tryz.zeroValue5
  t9:=Tryz.underlying9
  a9:=Tryz.isAgg9
  z9:=Tryz.sizeOf9
  v9:=Tryz.zeroValue9
  t22:=Tryz.underlying52
  a22:=Tryz.isAgg52
  z22:=Tryz.sizeOf52
  v22:=Tryz.zeroValue52
  t23:=Tryz.underlying52
  a23:=Tryz.isAgg52
  z23:=Tryz.sizeOf52
  v23:=Tryz.zeroValue52
  t25:=Tryz.underlying3
  a25:=Tryz.isAgg3
  z25:=Tryz.sizeOf3
  v25:=Tryz.zeroValue3
  t32:=Tryz.underlying210
  a32:=Tryz.isAgg210
  z32:=Tryz.sizeOf210
  v32:=Tryz.zeroValue210
  t35:=Tryz.underlying245
  a35:=Tryz.isAgg245
  z35:=Tryz.sizeOf245
  v35:=Tryz.zeroValue245
  t36:=Tryz.underlying246
  a36:=Tryz.isAgg246
  z36:=Tryz.sizeOf246
  v36:=Tryz.zeroValue246
  t41:=Tryz.underlying251
  a41:=Tryz.isAgg251
  z41:=Tryz.sizeOf251
  v41:=Tryz.zeroValue251
  t44:=Tryz.underlying254
  a44:=Tryz.isAgg254
  z44:=Tryz.sizeOf254
  v44:=Tryz.zeroValue254
  t46:=Tryz.underlying256
  a46:=Tryz.isAgg256
  z46:=Tryz.sizeOf256
  v46:=Tryz.zeroValue256
  t53:=Tryz.underlying285
  a53:=Tryz.isAgg285
  z53:=Tryz.sizeOf285
  v53:=Tryz.zeroValue285
  t57:=Tryz.underlying289
  a57:=Tryz.isAgg289
  z57:=Tryz.sizeOf289
  v57:=Tryz.zeroValue289
  t63:=Tryz.underlying299
  a63:=Tryz.isAgg299
  z63:=Tryz.sizeOf299
  v63:=Tryz.zeroValue299
  t64:=Tryz.underlying300
  a64:=Tryz.isAgg300
  z64:=Tryz.sizeOf300
  v64:=Tryz.zeroValue300 }
open Go.Sort Go.RowKit Go.Proofs in
theorem Tryz.slices_Sort_int (blk off cap:Nat) (zs:List Int) (w:World) (hH:Holds (Value.int .i64) w blk off zs.toArray) (hblk:blk < w.heap.size) (hsz:zs.length < 4611686018427387904) :
    Calls Tryz.prog 94 #[.slice (some ⟨blk,off,none⟩) zs.length cap] w fun e w' =>
      e=.returned (.tuple #[])∧∃ n os,w'=grow (putRow (Value.int .i64) (Sort.ahead w n) blk off (zs.mergeSort fun x y=>decide (x≤y)).toArray) os:=AnyM.slices_Sort_int Tryz.laysSlM5_f94 blk off cap zs w hH hblk hsz
open Go.RowKit Go.Sort Go.Proofs in
theorem Tryz.slices_Sort_int_none (p:Option Addr) (cap:Nat) (w:World) :
    Calls Tryz.prog 94 #[.slice p 0 cap] w fun e w'=>e=.returned (.tuple #[])∧w'=w:=AnyM.slices_Sort_int_none Tryz.laysSlM5_f94 p cap w
end Go.Proofs.YtolgelipcgcbhaaGreat
namespace Go.Proofs.YtolgelipcgcbhaaGreat
open Go.Abs
open Nat (reduceAdd reduceSub reduceLT reduceLeDiff reduceMul reduceEqDiff)
set_option linter.unusedVariables false
set_option linter.unusedSimpArgs false
set_option maxHeartbeats 4000000
set_option maxRecDepth 100000
def c95:CF:=⟨61,(jo [jn 2] [0]
 (.seq (jo [jm 6 0,je 7 6,ju .lss 8 7 2] [0,8]
 (.cond (.t 8) (jo [jm 9 0,jm 2 9] [2]
 .ret)
 .skip))
 (.seq (jo [jc 3 1] [0,3]
 (.block 0 (.loop (.seq (jo [jm 10 3,jm 11 0,je 12 11,jt .lss 13 10 12] [0,3,13]
 (.cond (.t 13) .skip
 (.exit 0)))
 (.seq (.block 1 (.seq (.draw [jm 16 0,jm 17 3,ji 18 1 16 17,jl 19 18,jm 20 0,jm 21 3,ju .sub 22 21 1,ji 23 1 20 22,jl 24 23,jt .eql 25 19 24] [] [0,3,25])
 (.cond (.t 25) (jo [jm 26 0,jm 27 3,jw 28 (.subs 1 (.t 26) (.t 27)),jm 4 28] [0,3,4]
 (.seq (jo [jc 5 1] [0,3,4,5]
 (.block 2 (.loop (.seq (jo [jm 29 5,jm 30 4,je 31 30,jt .lss 32 29 31] [0,3,4,5,32]
 (.cond (.t 32) .skip
 (.exit 2)))
 (.seq (.block 3 (.seq (.draw [jm 35 4,jm 36 5,ji 37 1 35 36,jl 38 37,jm 39 4,jm 40 5,ju .sub 41 40 1,ji 42 1 39 41,jl 43 42,jt .neq 44 38 43] [] [0,3,4,5,44])
 (.cond (.t 44) (jo [jm 45 0,jm 46 3,jm 47 4,jm 48 5,ji 49 1 47 48,jl 50 49,ji 51 1 45 46,js 1 51 50] [0,3,4,5]
 (.ops [jm 52 3,ju .add 53 52 1,jm 3 53] [0,3,4,5]))
 .skip)))
 (.ops [jm 33 5,ju .add 34 33 1,jm 5 34] [0,3,4,5]))))))
 (jo [jm 54 0,jm 55 3,jw 56 (.subs 1 (.t 54) (.t 55)),⟨none,.clr 3 1 [.int .i64 0] (.t 56),none⟩] [0,3]
 (jo [jm 57 0,jm 58 3,jw 59 (.slice 1 (.t 57) none (some (.t 58))),jm 2 59] [2]
 .ret))))
 .skip)))
 (.ops [jm 14 3,ju .add 15 14 1,jm 3 15] [0,3]))))))
 (jo [jm 60 0,jm 2 60] [2]
 .ret)))),[.t 2]⟩
theorem k95:chkF Tryz.prog Tryz.f95 c95=true:=by kernel_rfl
def c36:CF:=⟨39,(jo [jx 1 37 4 0,jn 2,jc 3 0] [1]
 (jo [jn 4] [1,4]
 (.seq (jo [jf 9 0 1,jl 10 9,je 11 10,jc 12 0] [1,4,10,11,12]
 (.block 0 (.loop (jo [jt .lss 13 12 11] [1,4,10,11,12,13]
 (.seq (.cond (.t 13) .skip
 (.exit 0))
 (.seq (.block 1 (jo [ji 14 24 10 12,jk 15 24 14,jw 6 (.alloc 72 24 z24),js 24 6 15] [1,4,6,10,11,12]
 (.ops [jm 16 4,jf 17 3 6,jl 18 17,jw 19 (.bsl false 3 1 1 [.int .i64 0] [(0,1,(.t 18))]),jw 20 (.app 3 1 8 (.t 16) (.t 19)),jm 4 20] [1,4,10,11,12])))
 (.ops [ju .add 21 12 1,jm 12 21] [1,4,10,11,12])))))))
 (.seq (jo [jf 22 1 1,jl 23 22,je 24 23,jc 25 0] [4,23,24,25]
 (.block 2 (.loop (jo [jt .lss 26 25 24] [4,23,24,25,26]
 (.seq (.cond (.t 26) .skip
 (.exit 2))
 (.seq (.block 3 (jo [ji 27 5 23 25,jk 28 5 27,jw 8 (.alloc 64 5 [.int .i64 0,.int .i64 0,.int .i64 0,.int .i64 0,.int .i64 0]),js 5 8 28] [4,8,23,24,25]
 (.ops [jm 29 4,jf 30 1 8,jl 31 30,jw 32 (.bsl false 3 1 1 [.int .i64 0] [(0,1,(.t 31))]),jw 33 (.app 3 1 8 (.t 29) (.t 32)),jm 4 33] [4,23,24,25])))
 (.ops [ju .add 34 25 1,jm 25 34] [4,23,24,25])))))))
 (jo [jm 35 4,jy 36 94 [35]] [4]
 (jo [jm 37 4,jy 38 95 [37],jm 2 38,jc 3 0] [2,3]
 .ret)))))),[.t 2,.t 3]⟩
theorem k36:chkF Tryz.prog Tryz.f36 c36=true:=by kernel_rfl
theorem compI1_snoc (x:Int):∀ (r:List Int) (a:Int),compI1 a (r++[x])=if (r.getLast?).getD a=x then compI1 a r else compI1 a r++[x]
  | [],a=>by
    simp only [List.nil_append,compI1,List.getLast?_nil,Option.getD_none]
    by_cases h:a=x <;> simp [h]
  | b::r,a=>by
    have h:=compI1_snoc x r
    have e:((b::r).getLast?).getD a=(r.getLast?).getD b:=by
      cases r with
      | nil=>rfl
      | cons c s=>simp [List.getLast?_cons]
    rw [e]
    simp only [List.cons_append,compI1]
    by_cases hab:a=b
    · subst hab; rw [if_pos rfl,if_pos rfl,h]
    · rw [if_neg hab,if_neg hab,h]
      split <;> rfl
theorem compI_next {l:List Int} {j:Nat} (h0:0 < j) (hj:j < l.length):compI (l.take (j+1))=if l.getD (j - 1) 0=l.getD j 0 then compI (l.take j) else compI (l.take j)++[l.getD j 0]:=by
  cases l with
  | nil=>simp at hj
  | cons a r =>
    obtain ⟨i,rfl⟩:∃ i,j=i+1:=⟨j - 1,by omega⟩
    have hir:i < r.length:=by simpa using hj
    have e1:r.take (i+1)=r.take i++[r.getD i 0]:=by rw [List.take_add_one,getD_lt 0 hir]; rfl
    have e2:((r.take i).getLast?).getD a=(a::r).getD i 0:=by
      cases i with
      | zero=>rfl
      | succ i =>
        rw [List.take_add_one,getD_lt 0 (show i < r.length by omega)]
        simp
    rw [List.take_succ_cons,List.take_succ_cons]
    simp only [compI]
    rw [e1,compI1_snoc,e2]
    rfl
structure CmpS (l R:List Int) (k j:Nat):Prop where
  len:R.length=l.length
  pos:0 < k
  lt:k < j
  le:j≤l.length
  tk:R.take k=compI (l.take j)
  dr:R.drop (j - 1)=l.drop (j - 1)
theorem CmpS.get {l R:List Int} {k j:Nat} (h:CmpS l R k j) (i:Nat) (hi:j - 1≤i):R.getD i 0=l.getD i 0:=by
  have h1:(R.drop (j - 1))[i - (j - 1)]?=(l.drop (j - 1))[i - (j - 1)]?:=by rw [h.dr]
  rw [List.getElem?_drop,List.getElem?_drop,show j - 1+(i - (j - 1))=i by omega] at h1
  rw [List.getD_eq_getElem?_getD,List.getD_eq_getElem?_getD,h1]
theorem CmpS.drop1 {l R:List Int} {k j:Nat} (h:CmpS l R k j):R.drop j=l.drop j:=by
  have h1:(R.drop (j - 1)).drop 1=(l.drop (j - 1)).drop 1:=by rw [h.dr]
  have:=h.lt
  rw [List.drop_drop,List.drop_drop,show j - 1+1=j by omega] at h1
  exact h1
theorem CmpS.skip {l R:List Int} {k j:Nat} (h:CmpS l R k j) (hj:j < l.length) (e:l.getD (j - 1) 0=l.getD j 0):CmpS l R k (j+1) :=
  ⟨h.len,h.pos,by have:=h.lt; omega,hj,by rw [h.tk,compI_next (by have:=h.lt; omega) hj,if_pos e],by simpa using h.drop1⟩
theorem CmpS.keep {l R:List Int} {k j:Nat} (h:CmpS l R k j) (hj:j < l.length) (e:¬ l.getD (j - 1) 0=l.getD j 0):CmpS l (R.set k (l.getD j 0)) (k+1) (j+1):=by
  have hlt:=h.lt
  have hlen:=h.len
  refine ⟨by rw [List.length_set]; exact h.len,by omega,by omega,hj,?_,?_⟩
  · rw [List.take_add_one,List.getElem?_set_self (by omega),List.take_set_of_le (Nat.le_refl _),h.tk,compI_next (by omega) hj,if_neg e]; rfl
  · rw [Nat.add_sub_cancel,List.drop_set_of_lt (by omega)]; exact h.drop1
theorem CmpS.init {l:List Int} {k:Nat} (hk:0 < k) (hl:k < l.length) (h:compI (l.take k)=l.take k) (e:l.getD (k - 1) 0=l.getD k 0):CmpS l l k (k+1) :=
  ⟨rfl,hk,by omega,hl,by rw [compI_next hk hl,if_pos e,h],rfl⟩
theorem compact_does (σ:Sto) (f:Nat) (l:List Int) (hl:l.length < 9223372036854775808) (hf:σ.at f 0=some ⟨3,1,l.map (fun z=>[n z]),none⟩) :
    Does Tryz.prog 95 [.own f 0 l.length] σ (Left σ f (inS (compI l))):=by
  refine Does.of_body Tryz.call95 Tryz.func95 k95 (Nat.le_of_ble_eq_true rfl) ?_
  unfold c95
  by_cases h2:l.length < 2
  · have he:compI l=l:=by
      match l,h2 with
      | [],_=>rfl
      | [a],_=>rfl
    rw [he]
    refine AWPC.freeze1 (t:=0) (f:=f) (n:=l.length) (o:=⟨3,1,l.map (fun z=>[n z]),none⟩) rfl hf (by simp) (by simp) ?_
    ((refine Au ?_;repeat' first|exact True.intro|refine Cj.mk ?_ ?_)<;>intros<;>refine hD_ ?_)
    all_goals try (exfalso; omega)
    exact .mk [] rfl (by simp)
  · ((refine Ax @hf ?_;repeat' first|exact True.intro|refine Cj.mk ?_ ?_)<;>intros<;>refine hD_ ?_)
    all_goals try (exfalso; omega)
    refine AWPC.loopS (α:={ k:Nat // 0 < k∧k≤l.length∧compI (l.take k)=l.take k }) [3] (fun k=>[(3,n k.1)]) (fun k=>l.length - k.1) ⟨1,by omega,by omega,by cases l with | nil=>rfl | cons a r=>rfl⟩ ?_ ?_
    · (simp only [zN,zT,zV,zS,zU,vcC,lateX,ex,strp,binA,elems,cells,scalar,eqC,keyA,intsA,lookA,ofVs,mpOf,Nat.reduceBEq,reduceAdd,reduceSub,reduceLT,reduceLeDiff,reduceMul,reduceEqDiff,reduceIte]; try simp)
    · rintro ⟨k,hk0,hkl,hc⟩
      simp only at hk0 hkl hc ⊢
      by_cases hlt:k < l.length
      · have hs1:(l.map fun z:Int=>[n z]).getD k []=[n (l.getD k 0)]:=row (f:=fun z:Int=>[n z]) 0 hlt
        have hs0:(l.map fun z:Int=>[n z]).getD ((k:Int) - 1).toNat []=[n (l.getD (k - 1) 0)]:=rowPrev (f:=fun z:Int=>[n z]) 0 hlt
        by_cases e:l.getD (k - 1) 0=l.getD k 0
        · have hI:=CmpS.init hk0 hlt hc e
          rw [e] at hs0
          ((refine Ax (And.intro @hf (And.intro @hs1 @hs0)) ?_;repeat' first|exact True.intro|refine Cj.mk ?_ ?_)<;>intros<;>refine hD_ ?_)
          all_goals try (exfalso; omega)
          refine AWPC.loopE (α:={ x:Nat × Nat × List Int × Sto // 0 < x.2.1∧CmpS l x.2.2.1 x.1 (k+x.2.1) }) [3,5] (fun x=>[(3,n x.1.1),(5,n x.1.2.1)])
            (fun x=>σ.upd f 0 ⟨3,1,x.1.2.2.1.map (fun z=>[n z]),none⟩++x.1.2.2.2) (fun x=>l.length - k - x.1.2.1) ⟨(k,1,l,[]),Nat.one_pos,hI⟩ ?_ (by rw [upd_self hf,List.append_nil]) ?_
          · (simp only [zN,zT,zV,zS,zU,vcC,lateX,ex,strp,binA,elems,cells,scalar,eqC,keyA,intsA,lookA,ofVs,mpOf,Nat.reduceBEq,reduceAdd,reduceSub,reduceLT,reduceLeDiff,reduceMul,reduceEqDiff,reduceIte]; try simp)
          · rintro ⟨⟨i,j,R,μ⟩,hj0,hD⟩
            simp only at hj0 hD
            obtain ⟨U,hU⟩:∃ U,U=σ.upd f 0 ⟨3,1,R.map (fun z=>[n z]),none⟩:=⟨_,rfl⟩
            have hflt:=at_lt hf
            have hUl:List.length U=List.length σ:=by rw [hU,upd_length]
            have hA:∀ μ,Sto.at (U++μ) f 0=some ⟨3,1,R.map (fun z=>[n z]),none⟩:=fun μ=>by rw [at_appL (by omega),hU,at_upd_same hf]
            have hB:∀ o μ,Sto.upd (U++μ) f 0 o=σ.upd f 0 o++μ:=fun o μ=>by rw [upd_appL (by omega),hU,upd_upd hf]
            simp only [← hU]
            have hRl:=hD.len
            have hi1:=hD.lt
            by_cases hlt:k+j < l.length
            · have hr1:(R.map fun z:Int=>[n z]).getD (k+j) []=[n (R.getD (k+j) 0)]:=row (f:=fun z:Int=>[n z]) 0 (by omega)
              have hr0:(R.map fun z:Int=>[n z]).getD (k+((j:Int) - 1).toNat) []=[n (R.getD (k+j - 1) 0)]:=by
                rw [show k+((j:Int) - 1).toNat=k+j - 1 by omega]
                exact row (f:=fun z:Int=>[n z]) 0 (by omega)
              rw [hD.get _ (by omega)] at hr1 hr0
              have hw:IntKind.i64.wrap ((j:Int) - 1)=(j:Int) - 1:=by simp (disch:=omega) only [wr64,Int.zero_sub]
              have hsi:(R.map fun z:Int=>[n z]).getD i []=[n (R.getD i 0)]:=row (f:=fun z:Int=>[n z]) 0 (by omega)
              have hset:(R.map fun z:Int=>[n z]).set i [n (l.getD (k+j) 0)]=(R.set i (l.getD (k+j) 0)).map fun z:Int=>[n z]:=by rw [List.map_set]
              by_cases e:l.getD (k+j - 1) 0=l.getD (k+j) 0
              · have hN:=hD.skip hlt e
                rw [e] at hr0
                ((refine Ax (And.intro @hA (And.intro @hB (And.intro @hw (And.intro @hr1 (And.intro @hr0 @hRl))))) ?_;repeat' first|exact True.intro|refine Cj.mk ?_ ?_)<;>intros<;>refine hD_ ?_)
                all_goals try (exfalso; omega)
                exact ⟨⟨(i,j+1,R,μ),by simp,hN⟩,by simp,by simp [hU],by simp only; omega⟩
              · have hN:=hD.keep hlt e
                have e':¬ l.getD (k+j) 0=l.getD (k+j - 1) 0:=fun h=>e h.symm
                ((refine Ax (And.intro @hA (And.intro @hB (And.intro @hw (And.intro @hr1 (And.intro @hr0 (And.intro @hRl (And.intro @hsi (And.intro @hset @e')))))))) ?_;repeat' first|exact True.intro|refine Cj.mk ?_ ?_)<;>intros<;>refine hD_ ?_)
                all_goals try (exfalso; omega)
                exact ⟨⟨(i+1,j+1,R.set i (l.getD (k+j) 0),μ),by simp,hN⟩,by simp,by simp,by simp only; omega⟩
            · have hjl:k+j=l.length:=by have:=hD.le; omega
              have hnl:¬ ((j:Int) < (l.length:Int) - (k:Int)):=by omega
              ((first
 | refine vn rfl ?_
 | simp (disch:=omega) only [wr64,Int.zero_sub]
 | refine bo (fun _=>?_) fun _=>?_
 | refine im fun _=>?_
 | refine cF ?_
 | refine om ?_
 | refine an ?_
 | fail) <;> try simp only [zN, zT, zV, zS, zU, vcC, lateX, ex, strp, binA, elems, cells, scalar, eqC, keyA, intsA, lookA, ofVs, mpOf, Nat.reduceBEq, reduceAdd, reduceSub, reduceLT, reduceLeDiff, reduceMul, reduceEqDiff, reduceIte, hA, hRl, hnl, List.length_map])
              ((first
 | refine vn rfl ?_
 | simp (disch:=omega) only [wr64,Int.zero_sub]
 | refine bo (fun _=>?_) fun _=>?_
 | refine im fun _=>?_
 | refine cF ?_
 | refine om ?_
 | refine an ?_
 | fail) <;> try simp only [zN, zT, zV, zS, zU, vcC, lateX, ex, strp, binA, elems, cells, scalar, eqC, keyA, intsA, lookA, ofVs, mpOf, Nat.reduceBEq, reduceAdd, reduceSub, reduceLT, reduceLeDiff, reduceMul, reduceEqDiff, reduceIte, hA, hRl, hnl, List.length_map])
              ((first
 | refine vn rfl ?_
 | simp (disch:=omega) only [wr64,Int.zero_sub]
 | refine bo (fun _=>?_) fun _=>?_
 | refine im fun _=>?_
 | refine cF ?_
 | refine om ?_
 | refine an ?_
 | fail) <;> try simp only [zN, zT, zV, zS, zU, vcC, lateX, ex, strp, binA, elems, cells, scalar, eqC, keyA, intsA, lookA, ofVs, mpOf, Nat.reduceBEq, reduceAdd, reduceSub, reduceLT, reduceLeDiff, reduceMul, reduceEqDiff, reduceIte, hA, hRl, hnl, List.length_map])
              ((first
 | refine vn rfl ?_
 | simp (disch:=omega) only [wr64,Int.zero_sub]
 | refine bo (fun _=>?_) fun _=>?_
 | refine im fun _=>?_
 | refine cF ?_
 | refine om ?_
 | refine an ?_
 | fail) <;> try simp only [zN, zT, zV, zS, zU, vcC, lateX, ex, strp, binA, elems, cells, scalar, eqC, keyA, intsA, lookA, ofVs, mpOf, Nat.reduceBEq, reduceAdd, reduceSub, reduceLT, reduceLeDiff, reduceMul, reduceEqDiff, reduceIte, hA, hRl, hnl, List.length_map])
              ((first
 | refine vn rfl ?_
 | simp (disch:=omega) only [wr64,Int.zero_sub]
 | refine bo (fun _=>?_) fun _=>?_
 | refine im fun _=>?_
 | refine cF ?_
 | refine om ?_
 | refine an ?_
 | fail) <;> try simp only [zN, zT, zV, zS, zU, vcC, lateX, ex, strp, binA, elems, cells, scalar, eqC, keyA, intsA, lookA, ofVs, mpOf, Nat.reduceBEq, reduceAdd, reduceSub, reduceLT, reduceLeDiff, reduceMul, reduceEqDiff, reduceIte, hA, hB, hRl, List.length_map])
              have hm1:(List.take i (R.map fun z:Int=>[n z])).length=i:=by rw [List.length_take,List.length_map]; omega
              have hfin:R.take i=compI l:=by rw [hD.tk,hjl,List.take_length]
              refine AWPC.freeze1 (t:=0) (f:=f) (n:=l.length) (o:=⟨3,1,List.take i (R.map fun z=>[n z])++List.replicate (l.length - i) [n 0],none⟩) rfl (by rw [at_appL (by rw [upd_length]; omega),at_upd_same hf])
                (by simp only [List.length_append,hm1,List.length_replicate]; omega) (by simp) ?_
              have hlen2:((List.take i (R.map fun z:Int=>[n z])++List.replicate (l.length - i) [n 0]).length:Int)=l.length:=by simp only [List.length_append,hm1,List.length_replicate]; omega
              have htk2:List.take i (List.take i (R.map fun z:Int=>[n z])++List.replicate (l.length - i) [n 0])=(compI l).map fun z:Int=>[n z]:=by
                rw [List.take_append_of_le_length (by omega),List.take_take,Nat.min_self,← List.map_take,hfin]
              generalize List.take i (R.map fun z:Int=>[n z])++List.replicate (l.length - i) [n 0]=es at hlen2 htk2
              ((refine Ax (And.intro @hlen2 @htk2) ?_;repeat' first|exact True.intro|refine Cj.mk ?_ ?_)<;>intros<;>refine hD_ ?_)
              refine ⟨by simp [sideL,ov,gt,cnd],⟨by omega,by omega,by omega⟩,?_⟩
              ((refine Au ?_;repeat' first|exact True.intro|refine Cj.mk ?_ ?_)<;>intros<;>refine hD_ ?_)
              exact .mk μ rfl (gone_upd hf)
        · have e':¬ l.getD k 0=l.getD (k - 1) 0:=fun h=>e h.symm
          have hN:compI (l.take (k+1))=l.take (k+1):=by rw [compI_next hk0 hlt,if_neg e,hc,List.take_add_one,getD_lt 0 hlt]; rfl
          ((refine Ax (And.intro @hf (And.intro @hs1 (And.intro @hs0 @e'))) ?_;repeat' first|exact True.intro|refine Cj.mk ?_ ?_)<;>intros<;>refine hD_ ?_)
          all_goals try (exfalso; omega)
          exact ⟨⟨k+1,by omega,hlt,hN⟩,by simp,by simp only; omega⟩
      · obtain rfl:k=l.length:=by omega
        rw [List.take_length] at hc
        rw [hc]
        refine AWPC.freeze1 (t:=0) (f:=f) (n:=l.length) (o:=⟨3,1,l.map (fun z=>[n z]),none⟩) rfl hf (by simp) (by simp) ?_
        ((refine Au ?_;repeat' first|exact True.intro|refine Cj.mk ?_ ?_)<;>intros<;>refine hD_ ?_)
        all_goals try (exfalso; omega)
        exact .mk [] rfl (by simp)
theorem sortI_does (σ:Sto) (f:Nat) (l:List Int) (hf:σ.at f 0=some ⟨3,1,l.map (fun z=>[n z]),none⟩) (hl:l.length < 4611686018427387904) :
    Does Tryz.prog 94 [.own f 0 l.length] σ (fun _ σ'=>σ'=σ.upd f 0 ⟨3,1,(srtI l).map (fun z=>[n z]),none⟩) :=
  sort_ints Tryz.slices_Sort_int Tryz.slices_Sort_int_none Tryz.call94 σ f 3 l hf hl
theorem mapsnoc {α:Type} {g:α→Int} {l:List α} {i:Nat} (d:α) (h:i < l.length):(l.take (i+1)).map g=(l.take i).map g++[g (l.getD i d)]:=by rw [List.take_add_one,getD_lt d h]; simp
theorem Weeks_spec (r:Rgr) (hs:r.sheets.length < 1099511627776) (hr:r.reads.length < 1099511627776):Pure Tryz.prog 36 [.agg r.cs] (.tup [inS (weeksT r),n 0]):=by
  refine Pure.of_body Tryz.call36 Tryz.func36 k36 (Nat.le_of_ble_eq_true rfl) ?_
  unfold c36
  obtain ⟨d,hd⟩:∃ d:Fld,True:=⟨⟨nm0,0,0,sht0,[],[]⟩,trivial⟩
  ((refine Au ?_;repeat' first|exact True.intro|refine Cj.mk ?_ ?_)<;>intros<;>refine hD_ ?_)
  refine AWPC.own0 3 1 4 rfl ?_
  refine AWPC.loopE (α:={ x:Nat × List Int × Sto // x.1≤r.sheets.length∧x.2.1=(r.sheets.take x.1).map Fld.week }) [4,12] (fun x=>[(4,.own 0 0 x.1.2.1.length),(12,n x.1.1)])
    (fun x=>some [⟨3,1,x.1.2.1.map (fun z=>[n z]),none⟩]::x.1.2.2) (fun x=>r.sheets.length - x.1.1) ⟨(0,[],[]),Nat.zero_le _,rfl⟩ ?_ rfl ?_
  · (simp only [zN,zT,zV,zS,zU,vcC,lateX,ex,strp,binA,elems,cells,scalar,eqC,keyA,intsA,lookA,ofVs,mpOf,Nat.reduceBEq,reduceAdd,reduceSub,reduceLT,reduceLeDiff,reduceMul,reduceEqDiff,reduceIte]; try simp)
  · rintro ⟨⟨i,W,ν⟩,hi,hW⟩
    simp only at hi hW
    have hWl:W.length=i:=by rw [hW,List.length_map,List.length_take]; omega
    generalize hM:W.map (fun z=>[n z])=M
    have hMl:M.length=i:=by rw [← hM,List.length_map]; exact hWl
    simp only [hM]
    by_cases hlt:i < r.sheets.length
    · have hx:(r.sheets.map Fld.cs).getD i []=Fld.cs (r.sheets.getD i d):=row d hlt
      have hN:=mapsnoc (g:=Fld.week) d hlt
      rw [← hW] at hN
      generalize r.sheets.getD i d=x at hx hN
      ((refine Ax (And.intro @hx (And.intro @hMl @hWl)) ?_;repeat' first|exact True.intro|refine Cj.mk ?_ ?_)<;>intros<;>refine hD_ ?_)
      all_goals try (exfalso; omega)
      refine ⟨⟨(i+1,W++[x.week],ν++[some [⟨72,24,[x.cs],none⟩]]),hlt,hN.symm⟩,?_,?_,by simp only; omega⟩
      · simp [hWl]
      · simp [← hM]
    · obtain rfl:i=r.sheets.length:=by omega
      rw [List.take_length] at hW
      ((refine Ax @hWl ?_;repeat' first|exact True.intro|refine Cj.mk ?_ ?_)<;>intros<;>refine hD_ ?_)
      all_goals try (exfalso; omega)
      refine AWPC.loopE (α:={ x:Nat × List Int × Sto // x.1≤r.reads.length∧x.2.1=r.sheets.map Fld.week++(r.reads.take x.1).map Rd.week }) [4,25] (fun x=>[(4,.own 0 0 x.1.2.1.length),(25,n x.1.1)])
        (fun x=>some [⟨3,1,x.1.2.1.map (fun z=>[n z]),none⟩]::x.1.2.2) (fun x=>r.reads.length - x.1.1) ⟨(0,W,ν),Nat.zero_le _,by simp [hW]⟩ ?_ (by rw [← hM]) ?_
      · simp only [hWl]; (simp only [zN,zT,zV,zS,zU,vcC,lateX,ex,strp,binA,elems,cells,scalar,eqC,keyA,intsA,lookA,ofVs,mpOf,Nat.reduceBEq,reduceAdd,reduceSub,reduceLT,reduceLeDiff,reduceMul,reduceEqDiff,reduceIte]; try simp)
      · rintro ⟨⟨i,V,ν⟩,hi,hV⟩
        simp only at hi hV
        have hVl:V.length=r.sheets.length+i:=by rw [hV,List.length_append,List.length_map,List.length_map,List.length_take]; omega
        by_cases hlt:i < r.reads.length
        · generalize hM:V.map (fun z=>[n z])=M
          have hMl:M.length=r.sheets.length+i:=by rw [← hM,List.length_map]; exact hVl
          simp only [hM]
          have hx:(r.reads.map Rd.cs).getD i []=Rd.cs (r.reads.getD i rd0):=row rd0 hlt
          have hN:=mapsnoc (g:=Rd.week) rd0 hlt
          generalize r.reads.getD i rd0=x at hx hN
          ((refine Ax (And.intro @hx (And.intro @hMl @hVl)) ?_;repeat' first|exact True.intro|refine Cj.mk ?_ ?_)<;>intros<;>refine hD_ ?_)
          all_goals try (exfalso; omega)
          refine ⟨⟨(i+1,V++[x.week],ν++[some [⟨64,5,[x.cs],none⟩]]),hlt,by simp only; rw [hN,hV,List.append_assoc]⟩,?_,?_,by simp only; omega⟩
          · simp [hVl,Nat.add_assoc]
          · simp [← hM]
        · obtain rfl:i=r.reads.length:=by omega
          rw [List.take_length] at hV
          rw [show weeksT r=compI (srtI V) by rw [hV]; rfl]
          have hSl:(srtI V).length=V.length:=(srtI_perm V).length_eq
          ((refine Au ?_;repeat' first|exact True.intro|refine Cj.mk ?_ ?_)<;>intros<;>refine hD_ ?_)
          all_goals try (exfalso; omega)
          refine .inr (.inl ⟨_,_,_,_,rfl,fun _=>⟨sortI_does _ 0 V rfl (by omega),?_⟩,fun h=>by cases h⟩)
          rintro r1 σ1 rfl
          refine owp_of_exs ?_
          simp only [zN,zT,zV,zS,zU,vcC,lateX,ex,strp,binA,elems,cells,scalar,eqC,keyA,intsA,lookA,ofVs,mpOf,Nat.reduceBEq,reduceAdd,reduceSub,reduceLT,reduceLeDiff,reduceMul,reduceEqDiff,reduceIte]
          ((refine Au ?_;repeat' first|exact True.intro|refine Cj.mk ?_ ?_)<;>intros<;>refine hD_ ?_)
          refine .inr (.inl ⟨_,_,_,_,rfl,fun _=>⟨by rw [← hSl]; exact compact_does _ 0 (srtI V) (by omega) rfl,?_⟩,fun h=>by cases h⟩)
          rintro r1 σ1 ⟨ν1,rfl,rfl⟩
          refine owp_of_exs ?_
          simp only [zN,zT,zV,zS,zU,vcC,lateX,ex,strp,binA,elems,cells,scalar,eqC,keyA,intsA,lookA,ofVs,mpOf,Nat.reduceBEq,reduceAdd,reduceSub,reduceLT,reduceLeDiff,reduceMul,reduceEqDiff,reduceIte]
          ((refine Au ?_;repeat' first|exact True.intro|refine Cj.mk ?_ ?_)<;>intros<;>refine hD_ ?_)
          exact Frz.tupL ⟨Frz.pure (by simp),Frz.pure (by simp),trivial⟩
def c213:CF:=⟨53,(jo [jm 10 1,ju .add 11 10 1,jm 8 11] [0,1,2,3,8]
 (.block 0 (.loop (.seq (jo [jm 12 8,jm 13 2,jt .lss 14 12 13] [0,1,2,3,8,14]
 (.cond (.t 14) .skip
 (.exit 0)))
 (.seq (.block 1 (jo [jm 17 8,jm 9 17] [0,1,2,3,8,9]
 (.block 2 (.loop (.seq (.seq (.draw [jm 18 9,jm 19 1,jt .gtr 20 18 19,jm 21 20,ja 21 (jm 22 3),ja 21 (jm 23 0),ja 21 (jm 24 9),ja 21 (ji 25 24 23 24),ja 21 (jk 26 24 25),ja 21 (jm 27 0),ja 21 (jm 28 9),ja 21 (ju .sub 29 28 1),ja 21 (ji 30 24 27 29),ja 21 (jk 31 24 30)] [⟨some 32,.call (.t 22) [(.t 26),(.t 31)],some (21,true)⟩,ja 21 (ju .lss 33 32 0),jp 34 21 33] [0,1,2,3,8,9,34])
 (.cond (.t 34) .skip
 (.exit 2)))
 (.seq (.block 3 (.draww [0,1,2,3,4,5,6,7,8,9,10,11,12,13,14,15,16,17] [2,3,4] 1 [jm 37 0,jm 38 9,jm 39 0,jm 40 9,ju .sub 41 40 1,jm 42 0,jm 43 9,ju .sub 44 43 1,ji 45 24 42 44,jk 46 24 45,jm 47 0,jm 48 9,ji 49 24 47 48,jk 50 24 49,ji 51 24 37 38] [js 24 51 46,ji 52 24 39 41,js 24 52 50] [0,1,2,3,8,9]))
 (.ops [jm 35 9,ju .sub 36 35 1,jm 9 36] [0,1,2,3,8,9])))))))
 (.ops [jm 15 8,ju .add 16 15 1,jm 8 16] [0,1,2,3,8])))))),[]⟩
theorem k213:chkF Tryz.prog Tryz.f213 c213=true:=by kernel_rfl
def c167:CF:=⟨63,(jo [jc 6 20] [0,1,2,6]
 (jo [jm 10 6,jc 7 0,jm 8 10] [0,1,2,6,7,8]
 (.seq (.block 0 (.loop (.seq (jo [jm 11 8,jm 12 1,jt .leq 13 11 12] [0,1,2,6,7,8,13]
 (.cond (.t 13) .skip
 (.exit 0)))
 (.block 1 (jo [jm 14 0,jm 15 7,jm 16 8,jm 17 2,jy 18 213 [14,15,16,17]] [0,1,2,6,8]
 (jo [jm 19 8,jm 7 19] [0,1,2,6,7,8]
 (.ops [jm 20 8,jm 21 6,jt .add 22 20 21,jm 8 22] [0,1,2,6,7,8])))))))
 (jo [jm 23 0,jm 24 7,jm 25 1,jm 26 2,jy 27 213 [23,24,25,26]] [0,1,2,6]
 (.block 2 (.loop (.seq (jo [jm 28 6,jm 29 1,jt .lss 30 28 29] [0,1,2,6,30]
 (.cond (.t 30) .skip
 (.exit 2)))
 (.block 3 (jo [jm 31 6,jw 32 (.bin .mul (.c (.int .i64 2)) (.t 31)),jc 7 0,jm 8 32] [0,1,2,6,7,8]
 (.seq (.block 4 (.loop (.seq (jo [jm 33 8,jm 34 1,jt .leq 35 33 34] [0,1,2,6,7,8,35]
 (.cond (.t 35) .skip
 (.exit 4)))
 (.block 5 (jo [jm 36 0,jm 37 7,jm 38 7,jm 39 6,jt .add 40 38 39,jm 41 8,jm 42 2,jy 43 214 [36,37,40,41,42]] [0,1,2,6,8]
 (jo [jm 44 8,jm 7 44] [0,1,2,6,7,8]
 (.ops [jm 45 8,jm 46 6,jw 47 (.bin .mul (.c (.int .i64 2)) (.t 46)),jt .add 48 45 47,jm 8 48] [0,1,2,6,7,8])))))))
 (.seq (jo [jm 49 7,jm 50 6,jt .add 51 49 50,jm 9 51] [0,1,2,6,7,9]
 (jo [jm 52 9,jm 53 1,jt .lss 54 52 53] [0,1,2,6,7,9,54]
 (.cond (.t 54) (.ops [jm 55 0,jm 56 7,jm 57 9,jm 58 1,jm 59 2,jy 60 214 [55,56,57,58,59]] [0,1,2,6])
 .skip)))
 (.ops [jm 61 6,ju .mul 62 61 2,jm 6 62] [0,1,2,6])))))))))))),[]⟩
theorem k167:chkF Tryz.prog Tryz.f167 c167=true:=by kernel_rfl
def c99:CF:=⟨9,(.ops [jm 4 0,jm 5 0,je 6 5,jm 7 1,jy 8 167 [4,6,7]] []),[]⟩
theorem k99:chkF Tryz.prog Tryz.f99 c99=true:=by kernel_rfl
def c37:CF:=⟨84,(jo [jx 3 26 6 0,jx 4 37 4 1,jw 6 (.alloc 86 9 [.slice none 0 0,.int .i64 0,.int .i64 0,.int .i64 0,.int .i64 0,.int .i64 0,.int .i64 0,.slice none 0 0,.slice none 0 0]),jc 7 0] [2,3,4,6]
 (.seq (jo [jk 14 6 3,jy 15 43 [14],jm 8 15] [2,3,4,6,8]
 (jo [jm 16 8,ju .neq 17 16 0] [2,3,4,6,8,17]
 (.cond (.t 17) (jo [jw 18 (.build [.slice none 0 0,.int .i64 0,.int .i64 0,.int .i64 0,.int .i64 0,.int .i64 0,.int .i64 0,.slice none 0 0,.slice none 0 0] []),jm 19 8,js 9 6 18,jm 7 19] [6,7]
 .ret)
 .skip)))
 (.seq (jo [jm 20 2,jw 21 (.call (.f 96) [(.t 20),(.c (.int .i64 0)),(.c (.int .i64 10000))]),jv 22 21] [2,3,4,6,22]
 (.cond (.t 22) (jo [jw 23 (.build [.slice none 0 0,.int .i64 0,.int .i64 0,.int .i64 0,.int .i64 0,.int .i64 0,.int .i64 0,.slice none 0 0,.slice none 0 0] []),js 9 6 23,jc 7 1] [6,7]
 .ret)
 .skip))
 (jo [jk 24 6 3,jm 25 2,jw 26 (.build [.slice none 0 0,.int .i64 0,.int .i64 0,.int .i64 0,.int .i64 0,.int .i64 0,.int .i64 0,.slice none 0 0,.slice none 0 0] [(0,6,(.t 24)),(6,1,(.t 25))]),jw 9 (.alloc 86 9 [.slice none 0 0,.int .i64 0,.int .i64 0,.int .i64 0,.int .i64 0,.int .i64 0,.int .i64 0,.slice none 0 0,.slice none 0 0]),js 9 9 26] [2,4,6,9]
 (jo [jf 27 2 4,jl 28 27,jy 29 97 [28],jf 30 0 9,jf 31 0 30,js 1 31 29] [2,4,6,9]
 (.seq (jo [jf 32 0 4,jl 33 32,je 34 33,jc 35 0] [2,4,6,9,33,34,35]
 (.block 0 (.loop (jo [jt .lss 36 35 34] [2,4,6,9,33,34,35,36]
 (.seq (.cond (.t 36) .skip
 (.exit 0))
 (.seq (.block 1 (jo [ji 37 24 33 35,jk 38 24 37,jw 11 (.alloc 72 24 z24),js 24 11 38] [2,4,6,9,11,33,34,35]
 (jo [jf 39 3 11,jl 40 39,jm 41 2,jt .eql 42 40 41] [2,4,6,9,11,33,34,35,42]
 (.cond (.t 42) (.draw [jf 43 7 9,jl 44 43,jk 45 24 11,jy 46 98 [45],jw 47 (.bsl false 72 24 1 z24 [(0,24,(.t 46))])] [jw 48 (.app 72 24 288 (.t 44) (.t 47)),jf 49 7 9,js 1 49 48] [2,4,6,9,33,34,35])
 .skip))))
 (.ops [ju .add 50 35 1,jm 35 50] [2,4,6,9,33,34,35])))))))
 (jo [jf 51 7 9,jl 52 51,jw 53 (.call (.f 99) [(.t 52),(.f 100)])] [2,4,6,9]
 (.seq (jo [jf 54 1 4,jl 55 54,je 56 55,jc 57 0] [2,6,9,55,56,57]
 (.block 2 (.loop (jo [jt .lss 58 57 56] [2,6,9,55,56,57,58]
 (.seq (.cond (.t 58) .skip
 (.exit 2))
 (.seq (.block 3 (jo [ji 59 5 55 57,jk 60 5 59,jw 13 (.alloc 64 5 [.int .i64 0,.int .i64 0,.int .i64 0,.int .i64 0,.int .i64 0]),js 5 13 60] [2,6,9,13,55,56,57]
 (jo [jf 61 1 13,jl 62 61,jm 63 2,jt .eql 64 62 63] [2,6,9,13,55,56,57,64]
 (.cond (.t 64) (.ops [jf 65 8 9,jl 66 65,jk 67 5 13,jw 68 (.bsl false 64 5 1 [.int .i64 0,.int .i64 0,.int .i64 0,.int .i64 0,.int .i64 0] [(0,5,(.t 67))]),jw 69 (.app 64 5 40 (.t 66) (.t 68)),jf 70 8 9,js 1 70 69] [2,6,9,55,56,57])
 .skip))))
 (.ops [ju .add 71 57 1,jm 57 71] [2,6,9,55,56,57])))))))
 (.seq (jo [jf 72 7 9,jl 73 72,je 74 73,ju .gtr 75 74 64,jm 76 75,jd 76 (jf 77 8 9),jd 76 (jl 78 77),jd 76 (je 79 78),jd 76 (ju .gtr 80 79 64),jq 81 76 80] [6,9,81]
 (.cond (.t 81) (jo [jw 82 (.build [.slice none 0 0,.int .i64 0,.int .i64 0,.int .i64 0,.int .i64 0,.int .i64 0,.int .i64 0,.slice none 0 0,.slice none 0 0] []),js 9 6 82,jc 7 2] [6,7]
 .ret)
 .skip))
 (jo [jk 83 9 9,js 9 6 83,jc 7 0] [6,7]
 .ret)))))))))),[.c 6 (some 9),.t 7]⟩
theorem k37:chkF Tryz.prog Tryz.f37 c37=true:=by kernel_rfl
def SortF (K:List Fld→Prop):Prop:=∀ (σ:Sto) (f:Nat) (l:List Fld),K l→σ.at f 0=some ⟨72,24,l.map Fld.cs,none⟩ →
  Does Tryz.prog 99 [.own f 0 l.length,.fn (.func 100) [] []] σ (fun _ σ'=>σ'=σ.upd f 0 ⟨72,24,(srtF l).map Fld.cs,none⟩)
theorem insertion0 (σ:Sto) (f:Nat) (m:Nat) (hm:m≤1):Does Tryz.prog 213 [.own f 0 m,n 0,n m,.fn (.func 100) [] []] σ (fun _ σ'=>σ'=σ):=by
  refine Does.of_body Tryz.call213 Tryz.func213 k213 (Nat.le_of_ble_eq_true rfl) ?_
  unfold c213
  ((refine Au ?_;repeat' first|exact True.intro|refine Cj.mk ?_ ?_)<;>intros<;>refine hD_ ?_)
  refine AWPC.loopS (α:=Unit) [8] (fun _=>[(8,n 1)]) (fun _=>0) () ?_ ?_
  · (simp only [zN,zT,zV,zS,zU,vcC,lateX,ex,strp,binA,elems,cells,scalar,eqC,keyA,intsA,lookA,ofVs,mpOf,Nat.reduceBEq,reduceAdd,reduceSub,reduceLT,reduceLeDiff,reduceMul,reduceEqDiff,reduceIte]; try simp)
  · rintro ⟨⟩
    ((refine Au ?_;repeat' first|exact True.intro|refine Cj.mk ?_ ?_)<;>intros<;>refine hD_ ?_)
    all_goals first | (exfalso; omega) | rfl
theorem stable0 (σ:Sto) (f:Nat) (m:Nat) (hm:m≤1):Does Tryz.prog 167 [.own f 0 m,n m,.fn (.func 100) [] []] σ (fun _ σ'=>σ'=σ):=by
  refine Does.of_body Tryz.call167 Tryz.func167 k167 (Nat.le_of_ble_eq_true rfl) ?_
  unfold c167
  have hm1:¬ (20≤(m:Int)):=by omega
  have hm2:¬ (20 < (m:Int)):=by omega
  ((refine Au ?_;repeat' first|exact True.intro|refine Cj.mk ?_ ?_)<;>intros<;>refine hD_ ?_)
  refine AWPC.loopS (α:=Unit) [7,8] (fun _=>[(7,n 0),(8,n 20)]) (fun _=>0) () ?_ ?_
  · (simp only [zN,zT,zV,zS,zU,vcC,lateX,ex,strp,binA,elems,cells,scalar,eqC,keyA,intsA,lookA,ofVs,mpOf,Nat.reduceBEq,reduceAdd,reduceSub,reduceLT,reduceLeDiff,reduceMul,reduceEqDiff,reduceIte]; try simp)
  · rintro ⟨⟩
    ((refine Ax @hm1 ?_;repeat' first|exact True.intro|refine Cj.mk ?_ ?_)<;>intros<;>refine hD_ ?_)
    all_goals try (exfalso; omega)
    refine .inr (.inl ⟨_,_,_,_,rfl,fun _=>⟨insertion0 σ f m hm,?_⟩,fun h=>by cases h⟩)
    rintro r σ' rfl
    refine owp_of_exs ?_
    simp only [zN,zT,zV,zS,zU,vcC,lateX,ex,strp,binA,elems,cells,scalar,eqC,keyA,intsA,lookA,ofVs,mpOf,Nat.reduceBEq,reduceAdd,reduceSub,reduceLT,reduceLeDiff,reduceMul,reduceEqDiff,reduceIte]
    ((refine Au ?_;repeat' first|exact True.intro|refine Cj.mk ?_ ?_)<;>intros<;>refine hD_ ?_)
    refine AWPC.loopS (α:=Unit) [6] (fun _=>[(6,n 20)]) (fun _=>0) () ?_ ?_
    · (simp only [zN,zT,zV,zS,zU,vcC,lateX,ex,strp,binA,elems,cells,scalar,eqC,keyA,intsA,lookA,ofVs,mpOf,Nat.reduceBEq,reduceAdd,reduceSub,reduceLT,reduceLeDiff,reduceMul,reduceEqDiff,reduceIte]; try simp)
    · rintro ⟨⟩
      ((refine Ax @hm2 ?_;repeat' first|exact True.intro|refine Cj.mk ?_ ?_)<;>intros<;>refine hD_ ?_)
      all_goals first | (exfalso; omega) | rfl
theorem srtF_few {l:List Fld} (h:l.length≤1):srtF l=l:=by
  cases l with
  | nil=>rfl
  | cons a r=>cases r with
    | nil=>rfl
    | cons x r=>simp only [List.length_cons] at h; omega
theorem sortF0:SortF fun l=>l.length≤1:=fun σ f l hl hf=>by
  refine Does.of_body Tryz.call99 Tryz.func99 k99 (Nat.le_of_ble_eq_true rfl) ?_
  unfold c99
  ((refine Ax @hf ?_;repeat' first|exact True.intro|refine Cj.mk ?_ ?_)<;>intros<;>refine hD_ ?_)
  refine .inr (.inl ⟨_,_,_,_,rfl,fun _=>⟨stable0 σ f _ hl,?_⟩,fun h=>by cases h⟩)
  rintro r σ' rfl
  refine owp_of_exs ?_
  simp only [zN,zT,zV,zS,zU,vcC,lateX,ex,strp,binA,elems,cells,scalar,eqC,keyA,intsA,lookA,ofVs,mpOf,Nat.reduceBEq,reduceAdd,reduceSub,reduceLT,reduceLeDiff,reduceMul,reduceEqDiff,reduceIte]
  rw [srtF_few hl]
  exact (upd_self hf).symm
theorem insF_perm (a:Fld):∀ l,(insF a l).Perm (a::l)
  | []=>.refl _
  | x::r=>by
    unfold insF
    split
    · exact .refl _
    · exact ((insF_perm a r).cons x).trans (.swap a x r)
theorem srtF_perm (l:List Fld):(srtF l).Perm l:=by
  have:∀ (l o:List Fld),(l.foldl (fun o a=>insF a o) o).Perm (l++o):=by
    intro l
    induction l with
    | nil=>exact fun o=>.refl _
    | cons a r ih=>exact fun o=>(ih _).trans (((insF_perm a o).append_left r).trans List.perm_middle)
  have:=this l []
  rwa [List.append_nil] at this
theorem WeekOf_of {K:List Fld→Prop} (hK:SortF K) (b:Bse) (hb:bseSz b) (r:Rgr) (w:Int) (hs:K (r.sheets.filter fun f=>f.week == w)) (hl:r.stns.length * 48≤140737488355328) (hh:∀ s∈r.stns,s.heights.length * 24≤140737488355328)
    (hfl:∀ f∈r.sheets,fldC f) (h1:r.sheets.length < 274877906944) (h2:r.reads.length < 1099511627776) :
    Pure Tryz.prog 37 [.agg b.cs,.agg r.cs,n w] (.tup [.agg (weekE b r w).1.cs,n (weekE b r w).2]):=by
  refine Pure.of_body Tryz.call37 Tryz.func37 k37 (Nat.le_of_ble_eq_true rfl) ?_
  unfold c37
  have hcb:=CheckBase_spec b hb
  by_cases hbok:b.ok
  · rw [if_pos hbok] at hcb
    by_cases hw:inr w 0 10000
    · simp only [inr] at hw
      ((first
 | refine vn rfl ?_
 | simp (disch:=omega) only [wr64,Int.zero_sub]
 | refine bo (fun _=>?_) fun _=>?_
 | refine im fun _=>?_
 | ((repeat refine si ?_); (first | ((first | refine .inl ⟨_,_,_,_,rfl,fun _=>pu (by first | exact hcb | exact within_a w 0 10000),?_⟩ | refine ⟨_,_,_,_,rfl,fun _=>pu (by first | exact hcb | exact within_a w 0 10000),?_⟩); (first | refine o1 ?_ | refine o2 ?_ | refine o3 ?_ | refine o4 ?_)) | refine .inl ⟨_,_,_,_,rfl,pu (by first | exact hcb | exact within_a w 0 10000),?_⟩))
 | refine cF ?_
 | refine om ?_
 | refine an ?_
 | fail) <;> try simp only [zN,zT,zV,zS,zU,vcC,lateX,ex,strp,binA,elems,cells,scalar,eqC,keyA,intsA,lookA,ofVs,mpOf,Nat.reduceBEq,reduceAdd,reduceSub,reduceLT,reduceLeDiff,reduceMul,reduceEqDiff,reduceIte])
      ((first
 | refine vn rfl ?_
 | simp (disch:=omega) only [wr64,Int.zero_sub]
 | refine bo (fun _=>?_) fun _=>?_
 | refine im fun _=>?_
 | ((repeat refine si ?_); (first | ((first | refine .inl ⟨_,_,_,_,rfl,fun _=>pu (by first | exact hcb | exact within_a w 0 10000),?_⟩ | refine ⟨_,_,_,_,rfl,fun _=>pu (by first | exact hcb | exact within_a w 0 10000),?_⟩); (first | refine o1 ?_ | refine o2 ?_ | refine o3 ?_ | refine o4 ?_)) | refine .inl ⟨_,_,_,_,rfl,pu (by first | exact hcb | exact within_a w 0 10000),?_⟩))
 | refine cF ?_
 | refine om ?_
 | refine an ?_
 | fail) <;> try simp only [zN,zT,zV,zS,zU,vcC,lateX,ex,strp,binA,elems,cells,scalar,eqC,keyA,intsA,lookA,ofVs,mpOf,Nat.reduceBEq,reduceAdd,reduceSub,reduceLT,reduceLeDiff,reduceMul,reduceEqDiff,reduceIte])
      ((first
 | refine vn rfl ?_
 | simp (disch:=omega) only [wr64,Int.zero_sub]
 | refine bo (fun _=>?_) fun _=>?_
 | refine im fun _=>?_
 | ((repeat refine si ?_); (first | ((first | refine .inl ⟨_,_,_,_,rfl,fun _=>pu (by first | exact hcb | exact within_a w 0 10000),?_⟩ | refine ⟨_,_,_,_,rfl,fun _=>pu (by first | exact hcb | exact within_a w 0 10000),?_⟩); (first | refine o1 ?_ | refine o2 ?_ | refine o3 ?_ | refine o4 ?_)) | refine .inl ⟨_,_,_,_,rfl,pu (by first | exact hcb | exact within_a w 0 10000),?_⟩))
 | refine cF ?_
 | refine om ?_
 | refine an ?_
 | fail) <;> try simp only [zN,zT,zV,zS,zU,vcC,lateX,ex,strp,binA,elems,cells,scalar,eqC,keyA,intsA,lookA,ofVs,mpOf,Nat.reduceBEq,reduceAdd,reduceSub,reduceLT,reduceLeDiff,reduceMul,reduceEqDiff,reduceIte])
      ((first
 | refine vn rfl ?_
 | simp (disch:=omega) only [wr64,Int.zero_sub]
 | refine bo (fun _=>?_) fun _=>?_
 | refine im fun _=>?_
 | ((repeat refine si ?_); (first | ((first | refine .inl ⟨_,_,_,_,rfl,fun _=>pu (by first | exact hcb | exact within_a w 0 10000),?_⟩ | refine ⟨_,_,_,_,rfl,fun _=>pu (by first | exact hcb | exact within_a w 0 10000),?_⟩); (first | refine o1 ?_ | refine o2 ?_ | refine o3 ?_ | refine o4 ?_)) | refine .inl ⟨_,_,_,_,rfl,pu (by first | exact hcb | exact within_a w 0 10000),?_⟩))
 | refine cF ?_
 | refine om ?_
 | refine an ?_
 | fail) <;> try simp only [zN,zT,zV,zS,zU,vcC,lateX,ex,strp,binA,elems,cells,scalar,eqC,keyA,intsA,lookA,ofVs,mpOf,Nat.reduceBEq,reduceAdd,reduceSub,reduceLT,reduceLeDiff,reduceMul,reduceEqDiff,reduceIte])
      ((first
 | refine vn rfl ?_
 | simp (disch:=omega) only [wr64,Int.zero_sub]
 | refine bo (fun _=>?_) fun _=>?_
 | refine im fun _=>?_
 | ((repeat refine si ?_); (first | ((first | refine .inl ⟨_,_,_,_,rfl,fun _=>pu (by first | exact hcb | exact within_a w 0 10000),?_⟩ | refine ⟨_,_,_,_,rfl,fun _=>pu (by first | exact hcb | exact within_a w 0 10000),?_⟩); (first | refine o1 ?_ | refine o2 ?_ | refine o3 ?_ | refine o4 ?_)) | refine .inl ⟨_,_,_,_,rfl,pu (by first | exact hcb | exact within_a w 0 10000),?_⟩))
 | refine cF ?_
 | refine om ?_
 | refine an ?_
 | fail) <;> try simp only [zN,zT,zV,zS,zU,vcC,lateX,ex,strp,binA,elems,cells,scalar,eqC,keyA,intsA,lookA,ofVs,mpOf,Nat.reduceBEq,reduceAdd,reduceSub,reduceLT,reduceLeDiff,reduceMul,reduceEqDiff,reduceIte])
      ((first
 | refine vn rfl ?_
 | simp (disch:=omega) only [wr64,Int.zero_sub]
 | refine bo (fun _=>?_) fun _=>?_
 | refine im fun _=>?_
 | ((repeat refine si ?_); (first | ((first | refine .inl ⟨_,_,_,_,rfl,fun _=>pu (by first | exact hcb | exact within_a w 0 10000),?_⟩ | refine ⟨_,_,_,_,rfl,fun _=>pu (by first | exact hcb | exact within_a w 0 10000),?_⟩); (first | refine o1 ?_ | refine o2 ?_ | refine o3 ?_ | refine o4 ?_)) | refine .inl ⟨_,_,_,_,rfl,pu (by first | exact hcb | exact within_a w 0 10000),?_⟩))
 | refine cF ?_
 | refine om ?_
 | refine an ?_
 | fail) <;> try simp only [zN,zT,zV,zS,zU,vcC,lateX,ex,strp,binA,elems,cells,scalar,eqC,keyA,intsA,lookA,ofVs,mpOf,Nat.reduceBEq,reduceAdd,reduceSub,reduceLT,reduceLeDiff,reduceMul,reduceEqDiff,reduceIte])
      ((first
 | refine vn rfl ?_
 | simp (disch:=omega) only [wr64,Int.zero_sub]
 | refine bo (fun _=>?_) fun _=>?_
 | refine im fun _=>?_
 | ((repeat refine si ?_); (first | ((first | refine .inl ⟨_,_,_,_,rfl,fun _=>pu (by first | exact hcb | exact within_a w 0 10000),?_⟩ | refine ⟨_,_,_,_,rfl,fun _=>pu (by first | exact hcb | exact within_a w 0 10000),?_⟩); (first | refine o1 ?_ | refine o2 ?_ | refine o3 ?_ | refine o4 ?_)) | refine .inl ⟨_,_,_,_,rfl,pu (by first | exact hcb | exact within_a w 0 10000),?_⟩))
 | refine cF ?_
 | refine om ?_
 | refine an ?_
 | fail) <;> try simp only [zN,zT,zV,zS,zU,vcC,lateX,ex,strp,binA,elems,cells,scalar,eqC,keyA,intsA,lookA,ofVs,mpOf,Nat.reduceBEq,reduceAdd,reduceSub,reduceLT,reduceLeDiff,reduceMul,reduceEqDiff,reduceIte])
      ((first
 | refine vn rfl ?_
 | simp (disch:=omega) only [wr64,Int.zero_sub]
 | refine bo (fun _=>?_) fun _=>?_
 | refine im fun _=>?_
 | ((repeat refine si ?_); (first | ((first | refine .inl ⟨_,_,_,_,rfl,fun _=>pu (by first | exact hcb | exact within_a w 0 10000),?_⟩ | refine ⟨_,_,_,_,rfl,fun _=>pu (by first | exact hcb | exact within_a w 0 10000),?_⟩); (first | refine o1 ?_ | refine o2 ?_ | refine o3 ?_ | refine o4 ?_)) | refine .inl ⟨_,_,_,_,rfl,pu (by first | exact hcb | exact within_a w 0 10000),?_⟩))
 | refine cF ?_
 | refine om ?_
 | refine an ?_
 | fail) <;> try simp only [zN,zT,zV,zS,zU,vcC,lateX,ex,strp,binA,elems,cells,scalar,eqC,keyA,intsA,lookA,ofVs,mpOf,Nat.reduceBEq,reduceAdd,reduceSub,reduceLT,reduceLeDiff,reduceMul,reduceEqDiff,reduceIte])
      ((first
 | refine vn rfl ?_
 | simp (disch:=omega) only [wr64,Int.zero_sub]
 | refine bo (fun _=>?_) fun _=>?_
 | refine im fun _=>?_
 | ((repeat refine si ?_); (first | ((first | refine .inl ⟨_,_,_,_,rfl,fun _=>pu (by first | exact hcb | exact within_a w 0 10000),?_⟩ | refine ⟨_,_,_,_,rfl,fun _=>pu (by first | exact hcb | exact within_a w 0 10000),?_⟩); (first | refine o1 ?_ | refine o2 ?_ | refine o3 ?_ | refine o4 ?_)) | refine .inl ⟨_,_,_,_,rfl,pu (by first | exact hcb | exact within_a w 0 10000),?_⟩))
 | refine cF ?_
 | refine om ?_
 | refine an ?_
 | fail) <;> try simp only [zN,zT,zV,zS,zU,vcC,lateX,ex,strp,binA,elems,cells,scalar,eqC,keyA,intsA,lookA,ofVs,mpOf,Nat.reduceBEq,reduceAdd,reduceSub,reduceLT,reduceLeDiff,reduceMul,reduceEqDiff,reduceIte])
      ((first
 | refine vn rfl ?_
 | simp (disch:=omega) only [wr64,Int.zero_sub]
 | refine bo (fun _=>?_) fun _=>?_
 | refine im fun _=>?_
 | ((repeat refine si ?_); (first | ((first | refine .inl ⟨_,_,_,_,rfl,fun _=>pu (by first | exact hcb | exact within_a w 0 10000),?_⟩ | refine ⟨_,_,_,_,rfl,fun _=>pu (by first | exact hcb | exact within_a w 0 10000),?_⟩); (first | refine o1 ?_ | refine o2 ?_ | refine o3 ?_ | refine o4 ?_)) | refine .inl ⟨_,_,_,_,rfl,pu (by first | exact hcb | exact within_a w 0 10000),?_⟩))
 | refine cF ?_
 | refine om ?_
 | refine an ?_
 | fail) <;> try simp only [zN,zT,zV,zS,zU,vcC,lateX,ex,strp,binA,elems,cells,scalar,eqC,keyA,intsA,lookA,ofVs,mpOf,Nat.reduceBEq,reduceAdd,reduceSub,reduceLT,reduceLeDiff,reduceMul,reduceEqDiff,reduceIte])
      all_goals try (exfalso; omega)
      ((first
 | refine vn rfl ?_
 | simp (disch:=omega) only [wr64,Int.zero_sub]
 | refine bo (fun _=>?_) fun _=>?_
 | refine im fun _=>?_
 | ((repeat refine si ?_); (first | ((first | refine .inl ⟨_,_,_,_,rfl,fun _=>pu (by first | exact hcb | exact within_a w 0 10000),?_⟩ | refine ⟨_,_,_,_,rfl,fun _=>pu (by first | exact hcb | exact within_a w 0 10000),?_⟩); (first | refine o1 ?_ | refine o2 ?_ | refine o3 ?_ | refine o4 ?_)) | refine .inl ⟨_,_,_,_,rfl,pu (by first | exact hcb | exact within_a w 0 10000),?_⟩))
 | refine cF ?_
 | refine om ?_
 | refine an ?_
 | fail) <;> try simp only [zN,zT,zV,zS,zU,vcC,lateX,ex,strp,binA,elems,cells,scalar,eqC,keyA,intsA,lookA,ofVs,mpOf,Nat.reduceBEq,reduceAdd,reduceSub,reduceLT,reduceLeDiff,reduceMul,reduceEqDiff,reduceIte])
      ((first
 | refine vn rfl ?_
 | simp (disch:=omega) only [wr64,Int.zero_sub]
 | refine bo (fun _=>?_) fun _=>?_
 | refine im fun _=>?_
 | ((repeat refine si ?_); (first | ((first | refine .inl ⟨_,_,_,_,rfl,fun _=>pu (by first | exact hcb | exact within_a w 0 10000),?_⟩ | refine ⟨_,_,_,_,rfl,fun _=>pu (by first | exact hcb | exact within_a w 0 10000),?_⟩); (first | refine o1 ?_ | refine o2 ?_ | refine o3 ?_ | refine o4 ?_)) | refine .inl ⟨_,_,_,_,rfl,pu (by first | exact hcb | exact within_a w 0 10000),?_⟩))
 | refine cF ?_
 | refine om ?_
 | refine an ?_
 | fail) <;> try simp only [zN,zT,zV,zS,zU,vcC,lateX,ex,strp,binA,elems,cells,scalar,eqC,keyA,intsA,lookA,ofVs,mpOf,Nat.reduceBEq,reduceAdd,reduceSub,reduceLT,reduceLeDiff,reduceMul,reduceEqDiff,reduceIte])
      refine AWPC.own0c 72 24 (f:=1) (i:=0) (e:=0) (j:=7) rfl (by simp) rfl ?_
      refine AWPC.own0c 64 5 (f:=1) (i:=0) (e:=0) (j:=8) rfl (by simp) rfl ?_
      refine AWPC.sto (σ':=[some [⟨86,9,[[.v (.slice none 0 0),n 0,n 0,n 0,n 0,n 0,n 0,.v (.slice none 0 0),.v (.slice none 0 0)]],none⟩],some [⟨86,9,[[snS b.stns,n b.fixed,n b.each,n b.term,n b.ticks,n b.clerks,n w,.own 2 0 0,.own 3 0 0]],none⟩],some [⟨72,24,[],none⟩],some [⟨64,5,[],none⟩]]) rfl ?_
      ((refine Au ?_;repeat' first|exact True.intro|refine Cj.mk ?_ ?_)<;>intros<;>refine hD_ ?_)
      refine .inr (.inl ⟨_,_,_,_,rfl,fun _=>⟨copiedStations_does r.stns hl hh _,?_⟩,fun h=>by cases h⟩)
      rintro r1 σ1 ⟨ν,rfl,rfl⟩
      refine owp_of_exs ?_
      simp only [zN,zT,zV,zS,zU,vcC,lateX,ex,strp,binA,elems,cells,scalar,eqC,keyA,intsA,lookA,ofVs,mpOf,Nat.reduceBEq,reduceAdd,reduceSub,reduceLT,reduceLeDiff,reduceMul,reduceEqDiff,reduceIte,List.length_map]
      ((refine Au ?_;repeat' first|exact True.intro|refine Cj.mk ?_ ?_)<;>intros<;>refine hD_ ?_)
      refine AWPC.loopE (α:={ x:Nat × List Fld × Sto // x.1≤r.sheets.length∧x.2.1=(r.sheets.take x.1).filter fun f=>f.week == w }) [35] (fun x=>[(35,n x.1.1)])
        (fun x=>some [⟨86,9,[[.v (.slice none 0 0),n 0,n 0,n 0,n 0,n 0,n 0,.v (.slice none 0 0),.v (.slice none 0 0)]],none⟩]::some [⟨86,9,[[.own 4 0 r.stns.length,n b.fixed,n b.each,n b.term,n b.ticks,n b.clerks,n w,.own 2 0 x.1.2.1.length,.own 3 0 0]],none⟩]::some [⟨72,24,x.1.2.1.map Fld.cs,none⟩]::some [⟨64,5,[],none⟩]::some [⟨109,4,r.stns.map Stn.cs,none⟩]::x.1.2.2)
        (fun x=>r.sheets.length - x.1.1) ⟨(0,[],ν),Nat.zero_le _,rfl⟩ ?_ rfl ?_
      · (simp only [zN,zT,zV,zS,zU,vcC,lateX,ex,strp,binA,elems,cells,scalar,eqC,keyA,intsA,lookA,ofVs,mpOf,Nat.reduceBEq,reduceAdd,reduceSub,reduceLT,reduceLeDiff,reduceMul,reduceEqDiff,reduceIte]; try simp)
      · rintro ⟨⟨i,S,μ⟩,hi,hS⟩
        simp only at hi hS
        obtain ⟨d,hd⟩:∃ d:Fld,True:=⟨⟨nm0,0,0,sht0,[],[]⟩,trivial⟩
        have hSl:S.length≤r.sheets.length:=by rw [hS]; exact Nat.le_trans (List.length_filter_le _ _) (by rw [List.length_take]; omega)
        by_cases hlt:i < r.sheets.length
        · generalize hM:S.map Fld.cs=M
          have hMl:M.length=S.length:=by rw [← hM,List.length_map]
          have hx:(r.sheets.map Fld.cs).getD i []=Fld.cs (r.sheets.getD i d):=row d hlt
          have hN:=filter_next (q:=fun f:Fld=>f.week == w) (getD_lt d hlt)
          rw [← hS] at hN
          have hcf:=copiedFiled_spec (r.sheets.getD i d) (hfl _ (List.mem_of_getElem? (getD_lt d hlt)))
          generalize r.sheets.getD i d=x at hx hN hcf
          by_cases hxw:x.week=w
          · rw [show (x.week == w)=true by simp [hxw],if_pos rfl] at hN
            ((refine Az (And.intro @hx (And.intro @hMl @hxw)) @hcf ?_;repeat' first|exact True.intro|refine Cj.mk ?_ ?_)<;>intros<;>refine hD_ ?_)
            all_goals try (exfalso; omega)
            refine ⟨⟨(i+1,S++[x],μ++[some [⟨72,24,[x.cs],none⟩]]),hlt,hN.symm⟩,by simp,?_,by simp only; omega⟩
            simp [← hM]
          · rw [show (x.week == w)=false by simp [hxw],if_neg (by decide)] at hN
            ((refine Az (And.intro @hx (And.intro @hMl @hxw)) @hcf ?_;repeat' first|exact True.intro|refine Cj.mk ?_ ?_)<;>intros<;>refine hD_ ?_)
            all_goals try (exfalso; omega)
            refine ⟨⟨(i+1,S,μ++[some [⟨72,24,[x.cs],none⟩]]),hlt,hN.symm⟩,by simp,?_,by simp only; omega⟩
            simp [← hM]
        · obtain rfl:i=r.sheets.length:=by omega
          rw [List.take_length] at hS
          ((refine Au ?_;repeat' first|exact True.intro|refine Cj.mk ?_ ?_)<;>intros<;>refine hD_ ?_)
          all_goals try (exfalso; omega)
          refine .inr (.inl ⟨_,_,_,_,rfl,fun _=>⟨hK _ 2 S (by rw [hS]; exact hs) rfl,?_⟩,fun h=>by cases h⟩)
          rintro r1 σ1 rfl
          refine owp_of_exs ?_
          have hsp:(srtF S).length=S.length:=(srtF_perm S).length_eq
          simp only [zN,zT,zV,zS,zU,vcC,lateX,ex,strp,binA,elems,cells,scalar,eqC,keyA,intsA,lookA,ofVs,mpOf,Nat.reduceBEq,reduceAdd,reduceSub,reduceLT,reduceLeDiff,reduceMul,reduceEqDiff,reduceIte]
          generalize hT:srtF S=T at hsp
          rw [← hsp]
          rw [← hsp] at hSl
          ((refine Au ?_;repeat' first|exact True.intro|refine Cj.mk ?_ ?_)<;>intros<;>refine hD_ ?_)
          refine AWPC.loopE (α:={ x:Nat × List Rd × Sto // x.1≤r.reads.length∧x.2.1=(r.reads.take x.1).filter fun f=>f.week == w }) [57] (fun x=>[(57,n x.1.1)])
            (fun x=>some [⟨86,9,[[.v (.slice none 0 0),n 0,n 0,n 0,n 0,n 0,n 0,.v (.slice none 0 0),.v (.slice none 0 0)]],none⟩]::some [⟨86,9,[[.own 4 0 r.stns.length,n b.fixed,n b.each,n b.term,n b.ticks,n b.clerks,n w,.own 2 0 T.length,.own 3 0 x.1.2.1.length]],none⟩]::some [⟨72,24,T.map Fld.cs,none⟩]::some [⟨64,5,x.1.2.1.map Rd.cs,none⟩]::some [⟨109,4,r.stns.map Stn.cs,none⟩]::x.1.2.2)
            (fun x=>r.reads.length - x.1.1) ⟨(0,[],μ),Nat.zero_le _,rfl⟩ ?_ rfl ?_
          · (simp only [zN,zT,zV,zS,zU,vcC,lateX,ex,strp,binA,elems,cells,scalar,eqC,keyA,intsA,lookA,ofVs,mpOf,Nat.reduceBEq,reduceAdd,reduceSub,reduceLT,reduceLeDiff,reduceMul,reduceEqDiff,reduceIte]; try simp)
          · rintro ⟨⟨i,R,μ⟩,hi,hR⟩
            simp only at hi hR
            have hRl:R.length≤r.reads.length:=by rw [hR]; exact Nat.le_trans (List.length_filter_le _ _) (by rw [List.length_take]; omega)
            by_cases hlt:i < r.reads.length
            · generalize hM:R.map Rd.cs=M
              have hMl:M.length=R.length:=by rw [← hM,List.length_map]
              have hx:(r.reads.map Rd.cs).getD i []=Rd.cs (r.reads.getD i rd0):=row rd0 hlt
              have hN:=filter_next (q:=fun f:Rd=>f.week == w) (getD_lt rd0 hlt)
              rw [← hR] at hN
              generalize r.reads.getD i rd0=x at hx hN
              by_cases hxw:x.week=w
              · rw [show (x.week == w)=true by simp [hxw],if_pos rfl] at hN
                ((refine Ax (And.intro @hx (And.intro @hMl @hxw)) ?_;repeat' first|exact True.intro|refine Cj.mk ?_ ?_)<;>intros<;>refine hD_ ?_)
                all_goals try (exfalso; omega)
                refine ⟨⟨(i+1,R++[x],μ++[some [⟨64,5,[x.cs],none⟩]]),hlt,hN.symm⟩,by simp,?_,by simp only; omega⟩
                simp [← hM,hxw]
              · rw [show (x.week == w)=false by simp [hxw],if_neg (by decide)] at hN
                ((refine Ax (And.intro @hx (And.intro @hMl @hxw)) ?_;repeat' first|exact True.intro|refine Cj.mk ?_ ?_)<;>intros<;>refine hD_ ?_)
                all_goals try (exfalso; omega)
                refine ⟨⟨(i+1,R,μ++[some [⟨64,5,[x.cs],none⟩]]),hlt,hN.symm⟩,by simp,?_,by simp only; omega⟩
                simp [← hM]
            · obtain rfl:i=r.reads.length:=by omega
              rw [List.take_length] at hR
              have hWT:weekT b r w=⟨{ b with stns:=r.stns },w,T,R⟩:=by unfold weekT; rw [hR,← hT,hS]
              by_cases h64:64 < T.length∨64 < R.length
              · have hE:weekE b r w=(wk0,2):=by unfold weekE; rw [if_neg (fun h=>h hbok),if_neg (fun h=>h hw),hWT]; exact if_pos h64
                rw [hE]
                ((refine Au ?_;repeat' first|exact True.intro|refine Cj.mk ?_ ?_)<;>intros<;>refine hD_ ?_)
                all_goals try (exfalso; omega)
                all_goals exact Frz.tupL ⟨Frz.aggL ⟨Frz.nil0,Frz.pure (by simp),Frz.pure (by simp),Frz.pure (by simp),Frz.pure (by simp),Frz.pure (by simp),Frz.pure (by simp),Frz.nil0,Frz.nil0,trivial⟩,Frz.pure (by simp),trivial⟩
              · have hE:weekE b r w=(weekT b r w,0):=by unfold weekE; rw [if_neg (fun h=>h hbok),if_neg (fun h=>h hw),hWT]; exact if_neg h64
                rw [hE,hWT]
                ((refine Au ?_;repeat' first|exact True.intro|refine Cj.mk ?_ ?_)<;>intros<;>refine hD_ ?_)
                all_goals try (exfalso; omega)
                all_goals exact Frz.tupL ⟨Frz.aggL ⟨Frz.ownL (T:=109) (cs:=Stn.cs) rfl rfl (by decide) sn_pc (fun a=>rfl),Frz.pure (by simp),Frz.pure (by simp),Frz.pure (by simp),Frz.pure (by simp),Frz.pure (by simp),Frz.pure (by simp),Frz.ownL (T:=72) (cs:=Fld.cs) rfl rfl (by decide) (fun a=>Fld.pc a) (fun a=>rfl),Frz.ownL (T:=64) (cs:=Rd.cs) rfl rfl (by decide) rd_pc (fun a=>rfl),trivial⟩,Frz.pure (by simp),trivial⟩
    · have hE:weekE b r w=(wk0,1):=by unfold weekE; rw [if_neg (fun h=>h hbok),if_pos hw]
      rw [hE]
      simp only [inr] at hw
      ((refine Ay (And.intro @hcb (within_a w 0 10000)) ?_;repeat' first|exact True.intro|refine Cj.mk ?_ ?_)<;>intros<;>refine hD_ ?_)
      all_goals try (exfalso; omega)
      all_goals exact Frz.tupL ⟨Frz.aggL ⟨Frz.nil0,Frz.pure (by simp),Frz.pure (by simp),Frz.pure (by simp),Frz.pure (by simp),Frz.pure (by simp),Frz.pure (by simp),Frz.nil0,Frz.nil0,trivial⟩,Frz.pure (by simp),trivial⟩
  · rw [if_neg hbok] at hcb
    have hE:weekE b r w=(wk0,100):=by unfold weekE; rw [if_pos hbok]
    rw [hE]
    ((refine Ay @hcb ?_;repeat' first|exact True.intro|refine Cj.mk ?_ ?_)<;>intros<;>refine hD_ ?_)
    all_goals try (exfalso; omega)
    all_goals exact Frz.tupL ⟨Frz.aggL ⟨Frz.nil0,Frz.pure (by simp),Frz.pure (by simp),Frz.pure (by simp),Frz.pure (by simp),Frz.pure (by simp),Frz.pure (by simp),Frz.nil0,Frz.nil0,trivial⟩,Frz.pure (by simp),trivial⟩
def c28:CF:=⟨26,(jo [jb 4 false] [0,1]
 (.seq (jo [jm 6 0,je 7 6,jm 8 1,je 9 8,jt .neq 10 7 9] [0,1,10]
 (.cond (.t 10) (jo [jb 4 false] [4]
 .ret)
 .skip))
 (.seq (jo [jc 5 0] [0,1,5]
 (.block 0 (.loop (.seq (jo [jm 11 5,jm 12 0,je 13 12,jt .lss 14 11 13] [0,1,5,14]
 (.cond (.t 14) .skip
 (.exit 0)))
 (.seq (.block 1 (.seq (.draw [jm 17 0,jm 18 5,ji 19 2 17 18,jk 20 2 19,jm 21 1,jm 22 5,ji 23 2 21 22,jk 24 2 23,jw 25 (.eqs true [some .i64,some .i64] (.t 20) (.t 24))] [] [0,1,5,25])
 (.cond (.t 25) (jo [jb 4 false] [4]
 .ret)
 .skip)))
 (.ops [jm 15 5,ju .add 16 15 1,jm 5 16] [0,1,5]))))))
 (jo [jb 4 true] [4]
 .ret)))),[.t 4]⟩
theorem k28:chkF Tryz.prog Tryz.f28 c28=true:=by kernel_rfl
def c68:CF:=⟨26,(jo [jb 4 false] [0,1]
 (.seq (jo [jm 6 0,je 7 6,jm 8 1,je 9 8,jt .neq 10 7 9] [0,1,10]
 (.cond (.t 10) (jo [jb 4 false] [4]
 .ret)
 .skip))
 (.seq (jo [jc 5 0] [0,1,5]
 (.block 0 (.loop (.seq (jo [jm 11 5,jm 12 0,je 13 12,jt .lss 14 11 13] [0,1,5,14]
 (.cond (.t 14) .skip
 (.exit 0)))
 (.seq (.block 1 (.seq (.draw [jm 17 0,jm 18 5,ji 19 1 17 18,jl 20 19,jm 21 1,jm 22 5,ji 23 1 21 22,jl 24 23,jt .neq 25 20 24] [] [0,1,5,25])
 (.cond (.t 25) (jo [jb 4 false] [4]
 .ret)
 .skip)))
 (.ops [jm 15 5,ju .add 16 15 1,jm 5 16] [0,1,5]))))))
 (jo [jb 4 true] [4]
 .ret)))),[.t 4]⟩
theorem k68:chkF Tryz.prog Tryz.f68 c68=true:=by kernel_rfl
def c77:CF:=⟨8,(jo [jw 0 (.alloc 26 6 [.slice none 0 0,.int .i64 0,.int .i64 0,.int .i64 0,.int .i64 0,.int .i64 0])] [0]
 (jo [jw 1 (.build [.int .i64 0,.int .i64 0] [(0,1,(.c (.int .i64 100))),(1,1,(.c (.int .i64 100)))]),jw 2 (.build [.int .i64 0,.int .i64 0,.int .i64 0] [(1,2,(.t 1))]),jw 3 (.bsl false 66 3 1 [.int .i64 0,.int .i64 0,.int .i64 0] [(0,3,(.t 2))]),jw 4 (.build [.int .i64 0,.int .i64 0,.int .i64 0,.slice none 0 0] [(0,1,(.c (.int .i64 5))),(3,1,(.t 3))]),jw 5 (.bsl false 109 4 1 [.int .i64 0,.int .i64 0,.int .i64 0,.slice none 0 0] [(0,4,(.t 4))]),jw 6 (.build [.int .i64 0,.int .i64 0] [(0,1,(.c (.int .i64 10)))]),jw 7 (.build [.slice none 0 0,.int .i64 0,.int .i64 0,.int .i64 0,.int .i64 0,.int .i64 0] [(0,1,(.t 5)),(1,2,(.t 6)),(3,1,(.c (.int .i64 50))),(4,1,(.c (.int .i64 100))),(5,1,(.c (.int .i64 2)))]),js 6 0 7] [0]
 .ret)),[.c 0 (some 6)]⟩
theorem k77:chkF Tryz.prog Tryz.f77 c77=true:=by kernel_rfl
def c79:CF:=⟨12,(jo [jw 6 (.alloc 68 38 z38)] [0,1,2,6]
 (jo [jm 7 0,jm 8 0,jm 9 1,jm 10 2,jw 11 (.build z38 [(0,1,(.c (.int .i64 1))),(1,1,(.t 7)),(2,1,(.t 8)),(3,1,(.t 9)),(4,1,(.t 10))]),js 38 6 11] [6]
 .ret)),[.c 6 (some 38)]⟩
theorem k79:chkF Tryz.prog Tryz.f79 c79=true:=by kernel_rfl
def c140:CF:=⟨12,(jo [jw 0 (.alloc 60 18 z18)] [0]
 (jo [jw 2 (.build [.int .i64 0,.int .i64 0] [(0,1,(.c (.int .i64 1000))),(1,1,(.c (.int .i64 1000)))]),jw 1 (.alloc 48 2 [.int .i64 0,.int .i64 0]),js 2 1 2] [0,1]
 (jo [jk 3 2 1,jk 4 2 1,jw 5 (.build [.int .i64 0,.int .i64 0,.int .i64 0,.int .i64 0,.int .i64 0,.int .i64 0,.int .i64 0,.int .i64 0,.int .i64 0,.int .i64 0] [(0,1,(.c (.int .i64 100))),(1,1,(.c (.int .i64 1000))),(3,1,(.c (.int .i64 9600))),(4,1,(.c (.int .i64 10600))),(5,1,(.c (.int .i64 3))),(6,2,(.t 3)),(8,2,(.t 4))]),jw 6 (.build [.int .i64 0,.int .i64 0] [(0,1,(.c (.int .i64 1))),(1,1,(.c (.int .i64 2)))]),jw 7 (.build [.int .i64 0,.int .i64 0] [(0,1,(.c (.int .i64 1))),(1,1,(.c (.int .i64 2)))]),jw 8 (.bsl false 48 2 2 [.int .i64 0,.int .i64 0,.int .i64 0,.int .i64 0] [(0,2,(.t 6)),(2,2,(.t 7))]),jw 9 (.build [.slice none 0 0,.slice none 0 0] [(0,1,(.t 8))]),jw 10 (.build [.int .i64 0,.int .i64 0,.int .i64 0,.int .i64 0] [(0,1,(.c (.int .i64 1))),(3,1,(.c (.int .i64 10)))]),jw 11 (.build z18 [(0,10,(.t 5)),(12,2,(.t 9)),(14,4,(.t 10))]),js 18 0 11] [0]
 .ret))),[.c 0 (some 18)]⟩
theorem k140:chkF Tryz.prog Tryz.f140 c140=true:=by kernel_rfl
def c78:CF:=⟨52,(jo [jn 0] []
 (jo [jw 2 (.call (.f 79) [(.c (.int .i64 1)),(.c (.int .i64 10)),(.c (.int .i64 1))]),jw 3 (.call (.f 79) [(.c (.int .i64 2)),(.c (.int .i64 11)),(.c (.int .i64 2))]),jw 4 (.call (.f 79) [(.c (.int .i64 3)),(.c (.int .i64 12)),(.c (.int .i64 3))]),jw 5 (.call (.f 79) [(.c (.int .i64 4)),(.c (.int .i64 13)),(.c (.int .i64 6))]),jw 6 (.call (.f 79) [(.c (.int .i64 5)),(.c (.int .i64 14)),(.c (.int .i64 5))]),jw 7 (.bslt 68 38 5 [.int .i64 0,.int .i64 0,.int .i64 0,.int .i64 0,.int .i64 0,.int .i64 0,.int .i64 0,.int .i64 0,.int .i64 0,.int .i64 0,.int .i64 0,.int .i64 0,.int .i64 0,.int .i64 0,.int .i64 0,.int .i64 0,.int .i64 0,.slice none 0 0,.slice none 0 0,.slice none 0 0,.slice none 0 0,.int .i64 0,.int .i64 0,.int .i64 0,.int .i64 0,.int .i64 0,.int .i64 0,.int .i64 0,.int .i64 0,.int .i64 0,.int .i64 0,.int .i64 0,.int .i64 0,.int .i64 0,.int .i64 0,.int .i64 0,.int .i64 0,.int .i64 0,.int .i64 0,.int .i64 0,.int .i64 0,.int .i64 0,.int .i64 0,.int .i64 0,.int .i64 0,.int .i64 0,.int .i64 0,.int .i64 0,.int .i64 0,.int .i64 0,.int .i64 0,.int .i64 0,.int .i64 0,.int .i64 0,.int .i64 0,.slice none 0 0,.slice none 0 0,.slice none 0 0,.slice none 0 0,.int .i64 0,.int .i64 0,.int .i64 0,.int .i64 0,.int .i64 0,.int .i64 0,.int .i64 0,.int .i64 0,.int .i64 0,.int .i64 0,.int .i64 0,.int .i64 0,.int .i64 0,.int .i64 0,.int .i64 0,.int .i64 0,.int .i64 0,.int .i64 0,.int .i64 0,.int .i64 0,.int .i64 0,.int .i64 0,.int .i64 0,.int .i64 0,.int .i64 0,.int .i64 0,.int .i64 0,.int .i64 0,.int .i64 0,.int .i64 0,.int .i64 0,.int .i64 0,.int .i64 0,.int .i64 0,.slice none 0 0,.slice none 0 0,.slice none 0 0,.slice none 0 0,.int .i64 0,.int .i64 0,.int .i64 0,.int .i64 0,.int .i64 0,.int .i64 0,.int .i64 0,.int .i64 0,.int .i64 0,.int .i64 0,.int .i64 0,.int .i64 0,.int .i64 0,.int .i64 0,.int .i64 0,.int .i64 0,.int .i64 0,.int .i64 0,.int .i64 0,.int .i64 0,.int .i64 0,.int .i64 0,.int .i64 0,.int .i64 0,.int .i64 0,.int .i64 0,.int .i64 0,.int .i64 0,.int .i64 0,.int .i64 0,.int .i64 0,.int .i64 0,.int .i64 0,.int .i64 0,.slice none 0 0,.slice none 0 0,.slice none 0 0,.slice none 0 0,.int .i64 0,.int .i64 0,.int .i64 0,.int .i64 0,.int .i64 0,.int .i64 0,.int .i64 0,.int .i64 0,.int .i64 0,.int .i64 0,.int .i64 0,.int .i64 0,.int .i64 0,.int .i64 0,.int .i64 0,.int .i64 0,.int .i64 0,.int .i64 0,.int .i64 0,.int .i64 0,.int .i64 0,.int .i64 0,.int .i64 0,.int .i64 0,.int .i64 0,.int .i64 0,.int .i64 0,.int .i64 0,.int .i64 0,.int .i64 0,.int .i64 0,.int .i64 0,.int .i64 0,.int .i64 0,.slice none 0 0,.slice none 0 0,.slice none 0 0,.slice none 0 0,.int .i64 0,.int .i64 0,.int .i64 0,.int .i64 0,.int .i64 0,.int .i64 0,.int .i64 0,.int .i64 0,.int .i64 0,.int .i64 0,.int .i64 0,.int .i64 0,.int .i64 0,.int .i64 0,.int .i64 0,.int .i64 0,.int .i64 0] [(0,38,(.t 2)),(38,38,(.t 3)),(76,38,(.t 4)),(114,38,(.t 5)),(152,38,(.t 6))]),jm 1 7] [1]
 (jo [jm 8 1,jw 9 (.iaddr 38 (.t 8) (.c (.int .i64 0))),jf 10 5 9,⟨none,.store 1 (.t 10) (.c (.int .i64 5)),none⟩] [1]
 (jo [jm 11 1,jw 12 (.iaddr 38 (.t 11) (.c (.int .i64 0))),jf 13 6 12,⟨none,.store 1 (.t 13) (.c (.int .i64 3)),none⟩] [1]
 (jo [jm 14 1,jy 15 140 [],jw 16 (.iaddr 38 (.t 14) (.c (.int .i64 0))),jf 17 7 16,js 18 17 15] [1]
 (jo [jm 18 1,jw 19 (.build [.int .i64 0,.int .i64 0] [(0,1,(.c (.int .i64 1))),(1,1,(.c (.int .i64 1)))]),jw 20 (.iaddr 38 (.t 18) (.c (.int .i64 1))),jf 21 36 20,js 2 21 19] [1]
 (jo [jm 22 1,jw 23 (.build [.int .i64 0,.int .i64 0] [(0,1,(.c (.int .i64 4))),(1,1,(.c (.int .i64 6)))]),jw 24 (.build [.int .i64 0,.int .i64 0,.int .i64 0] [(1,2,(.t 23))]),jw 25 (.iaddr 38 (.t 22) (.c (.int .i64 1))),jf 26 25 25,js 3 26 24] [1]
 (jo [jm 27 1,jw 28 (.build [.int .i64 0,.int .i64 0] [(0,1,(.c (.int .i64 10000))),(1,1,(.c (.int .i64 10010)))]),jw 29 (.build [.int .i64 0,.int .i64 0,.int .i64 0,.int .i64 0,.int .i64 0] [(0,1,(.c (.int .i64 5))),(1,1,(.c (.int .i64 3))),(2,1,(.c (.int .i64 20))),(3,2,(.t 28))]),jw 30 (.iaddr 38 (.t 27) (.c (.int .i64 2))),jf 31 28 30,js 5 31 29] [1]
 (jo [jm 32 1,jw 33 (.build [.int .i64 0,.int .i64 0] [(0,1,(.c (.int .i64 1))),(1,1,(.c (.int .i64 2)))]),jw 34 (.iaddr 38 (.t 32) (.c (.int .i64 3))),jf 35 36 34,js 2 35 33] [1]
 (jo [jm 36 1,jw 37 (.build [.int .i64 0,.int .i64 0] [(0,1,(.c (.int .i64 5))),(1,1,(.c (.int .i64 6)))]),jw 38 (.build [.int .i64 0,.int .i64 0,.int .i64 0] [(1,2,(.t 37))]),jw 39 (.iaddr 38 (.t 36) (.c (.int .i64 3))),jf 40 25 39,js 3 40 38] [1]
 (jo [jm 41 1,jw 42 (.build [.int .i64 0,.int .i64 0] [(0,1,(.c (.int .i64 1))),(1,1,(.c (.int .i64 1)))]),jw 43 (.iaddr 38 (.t 41) (.c (.int .i64 4))),jf 44 36 43,js 2 44 42] [1]
 (jo [jm 45 1,jw 46 (.iaddr 38 (.t 45) (.c (.int .i64 4))),jf 47 5 46,⟨none,.store 1 (.t 47) (.c (.int .i64 5)),none⟩] [1]
 (jo [jm 48 1,jw 49 (.iaddr 38 (.t 48) (.c (.int .i64 4))),jf 50 6 49,⟨none,.store 1 (.t 50) (.c (.int .i64 4)),none⟩] [1]
 (jo [jm 51 1,jm 0 51] [0]
 .ret)))))))))))))),[.t 0]⟩
theorem k78:chkF Tryz.prog Tryz.f78 c78=true:=by kernel_rfl
def c18:CF:=⟨181,(jo [jb 0 false] []
 (jo [jy 15 77 [],jy 16 78 [],jy 17 21 [15,16],jm 14 17,jz 18 0 14,jz 19 1 14,jw 1 (.alloc 37 4 [.slice none 0 0,.slice none 0 0,.slice none 0 0,.slice none 0 0]),js 4 1 18,jm 2 19] [1,2]
 (jo [jy 21 77 [],jy 22 78 [],jw 23 (.call (.f 23) [(.t 21),(.t 22),(.c (.int .i64 11)),(.c (.int .i64 100))]),jm 20 23,jz 24 0 20,jz 25 1 20,jw 3 (.alloc 37 4 [.slice none 0 0,.slice none 0 0,.slice none 0 0,.slice none 0 0]),js 4 3 24,jm 4 25] [1,2,3,4]
 (jo [jk 27 4 1,jy 28 36 [27],jm 26 28,jz 29 0 26,jz 30 1 26,jm 5 29,jm 6 30] [1,2,3,4,5,6]
 (jo [jy 32 77 [],jy 33 78 [],jw 34 (.build [.int .i64 0,.int .i64 0] [(0,1,(.c (.int .i64 1))),(1,1,(.c (.int .i64 2)))]),jy 35 25 [32,33,34],jm 31 35,jz 36 0 31,jz 37 1 31,jm 7 36,jm 8 37] [1,2,3,4,5,6,7,8]
 (.seq (.drawl 5 [jy 39 77 [],jk 40 4 1,jw 41 (.call (.f 37) [(.t 39),(.t 40),(.c (.int .i64 3))]),jm 38 41,jz 42 0 38,jz 43 1 38,jw 9 (.alloc 86 9 [.slice none 0 0,.int .i64 0,.int .i64 0,.int .i64 0,.int .i64 0,.int .i64 0,.int .i64 0,.slice none 0 0,.slice none 0 0])] [js 9 9 42,jm 10 43] [1,2,3,4,5,6,7,8,9,10])
 (jo [jw 44 (.call (.f 79) [(.c (.int .i64 6)),(.c (.int .i64 15)),(.c (.int .i64 7))]),jw 11 (.alloc 68 38 z38),js 38 11 44] [1,2,3,4,5,6,7,8,9,10,11]
 (jo [jw 45 (.build [.int .i64 0,.int .i64 0] [(0,1,(.c (.int .i64 1))),(1,1,(.c (.int .i64 1)))]),jf 46 36 11,js 2 46 45] [1,2,3,4,5,6,7,8,9,10,11]
 (.seq (.drawl 8 [jy 48 77 [],jy 49 78 [],jk 50 38 11,jw 51 (.bsl false 68 38 1 z38 [(0,38,(.t 50))]),jw 52 (.appi 68 38 368 (.t 49) (.t 51)),jy 53 21 [48,52],jm 47 53,jz 54 0 47,jz 55 1 47,jw 12 (.alloc 37 4 [.slice none 0 0,.slice none 0 0,.slice none 0 0,.slice none 0 0])] [js 4 12 54,jm 13 55] [1,2,3,4,5,6,7,8,9,10,12,13])
 (.seq (jo [jm 56 2,ju .neq 57 56 0,jm 58 57,jd 58 (jm 59 4),jd 58 (ju .neq 60 59 0),jq 61 58 60,jm 62 61,jd 62 (jm 63 6),jd 62 (ju .neq 64 63 0),jq 65 62 64,jm 66 65,jd 66 (jm 67 8),jd 66 (ju .neq 68 67 0),jq 69 66 68,jm 70 69,jd 70 (jm 71 10),jd 70 (ju .neq 72 71 0),jq 73 70 72,jm 74 73,jd 74 (jm 75 13),jd 74 (ju .neq 76 75 0),jq 77 74 76,jm 78 77,jd 78 (jf 79 0 1),jd 78 (jl 80 79),jd 78 (je 81 80),jd 78 (ju .neq 82 81 1),jq 83 78 82,jm 84 83,jd 84 (jf 85 0 1),jd 84 (jl 86 85),⟨some 87,.iaddr 24 (.t 86) (.c (.int .i64 0)),some (84,false)⟩,jd 84 (jf 88 22 87),jd 84 (jl 89 88),jd 84 (je 90 89),jd 84 (ju .neq 91 90 1),jq 92 84 91,jm 93 92,jd 93 (jf 94 0 3),jd 93 (jl 95 94),jd 93 (je 96 95),jd 93 (ju .neq 97 96 1),jq 98 93 97,jm 99 98,jd 99 (jf 100 0 3),jd 99 (jl 101 100),⟨some 102,.iaddr 24 (.t 101) (.c (.int .i64 0)),some (99,false)⟩,jd 99 (jf 103 22 102),jd 99 (jl 104 103),jd 99 (je 105 104),jd 99 (ju .neq 106 105 1),jq 107 99 106,jm 108 107,jd 108 (jf 109 3 12),jd 108 (jl 110 109),jd 108 (je 111 110),jd 108 (ju .neq 112 111 3),jq 113 108 112] [1,3,5,7,9,12,113]
 (.cond (.t 113) (jo [jb 0 false] [0]
 .ret)
 .skip))
 (jo [jf 114 0 1,jl 115 114,jw 116 (.iaddr 24 (.t 115) (.c (.int .i64 0))),jf 117 3 116,jl 118 117,ju .eql 119 118 4,jm 120 119,ja 120 (jf 121 0 1),ja 120 (jl 122 121),⟨some 123,.iaddr 24 (.t 122) (.c (.int .i64 0)),some (120,true)⟩,ja 120 (jf 124 22 123),ja 120 (jl 125 124),⟨some 126,.iaddr 3 (.t 125) (.c (.int .i64 0)),some (120,true)⟩,ja 120 (jf 127 1 126),ja 120 (jf 128 0 127),ja 120 (jl 129 128),ja 120 (ju .eql 130 129 5),jp 131 120 130,jm 132 131,ja 132 (jf 133 0 3),ja 132 (jl 134 133),⟨some 135,.iaddr 24 (.t 134) (.c (.int .i64 0)),some (132,true)⟩,ja 132 (jf 136 3 135),ja 132 (jl 137 136),ja 132 (ju .eql 138 137 3),jp 139 132 138,jm 140 139,ja 140 (jf 141 0 3),ja 140 (jl 142 141),⟨some 143,.iaddr 24 (.t 142) (.c (.int .i64 0)),some (140,true)⟩,ja 140 (jf 144 22 143),ja 140 (jl 145 144),⟨some 146,.iaddr 3 (.t 145) (.c (.int .i64 0)),some (140,true)⟩,ja 140 (jf 147 1 146),ja 140 (jf 148 0 147),ja 140 (jl 149 148),ja 140 (ju .eql 150 149 4),jp 151 140 150,jm 152 151,ja 152 (jm 153 5),⟨some 154,.bsl false 3 1 2 [.int .i64 0,.int .i64 0] [(0,1,(.c (.int .i64 3))),(1,1,(.c (.int .i64 4)))],some (152,true)⟩,ja 152 (jy 155 68 [153,154]),jp 156 152 155,jm 157 156,ja 157 (jm 158 7),⟨some 159,.build [.int .i64 0,.int .i64 0] [(0,1,(.c (.int .i64 1))),(1,1,(.c (.int .i64 4)))],some (157,true)⟩,⟨some 160,.bsl false 29 2 1 [.int .i64 0,.int .i64 0] [(0,2,(.t 159))],some (157,true)⟩,ja 157 (jy 161 28 [158,160]),jp 162 157 161,jm 163 162,ja 163 (jf 164 7 9),ja 163 (jl 165 164),ja 163 (je 166 165),ja 163 (ju .eql 167 166 0),jp 168 163 167,jm 169 168,ja 169 (jf 170 8 9),ja 169 (jl 171 170),ja 169 (je 172 171),ja 169 (ju .eql 173 172 1),jp 174 169 173,jm 175 174,ja 175 (jf 176 0 12),ja 175 (jl 177 176),ja 175 (je 178 177),ja 175 (ju .eql 179 178 0),jp 180 175 179,jm 0 180] [0]
 .ret))))))))))),[.t 0]⟩
theorem k18:chkF Tryz.prog Tryz.f18 c18=true:=by kernel_rfl
theorem sameNm (a b:List Nm) (ha:a.length < 9223372036854775808) (hb:b.length < 9223372036854775808):Pure Tryz.prog 28 [nmS a,nmS b] (bl (decide (a=b))):=by
  refine Pure.of_body Tryz.call28 Tryz.func28 k28 (Nat.le_of_ble_eq_true rfl) ?_
  unfold c28
  ((refine Au ?_;repeat' first|exact True.intro|refine Cj.mk ?_ ?_)<;>intros<;>refine hD_ ?_)
  · rename_i h
    rw [decide_eq_false fun e=>by subst e; omega]; exact Frz.eq rfl (by simp)
  rename_i hne
  have hlen:a.length=b.length:=by omega
  refine AWPC.loopI 5 a.length (fun i=>a.take i=b.take i) (by simp) ?_ ?_
  · (simp only [zN,zT,zV,zS,zU,vcC,lateX,ex,strp,binA,elems,cells,scalar,eqC,keyA,intsA,lookA,ofVs,mpOf,Nat.reduceBEq,reduceAdd,reduceSub,reduceLT,reduceLeDiff,reduceMul,reduceEqDiff,reduceIte]; try simp)
  · intro i hi hI
    by_cases hlt:i < a.length
    · have hx:(a.map Nm.cs).getD i []=Nm.cs (a.getD i nm0):=row _ hlt
      have hy:(b.map Nm.cs).getD i []=Nm.cs (b.getD i nm0):=row _ (by omega)
      have hk:a.getD i nm0=b.getD i nm0↔a.take (i+1)=b.take (i+1):=by
        rw [List.take_add_one,List.take_add_one,hI,getD_lt nm0 hlt,getD_lt nm0 (show i < b.length by omega)]; simp
      generalize a.getD i nm0=x at hx hk
      generalize b.getD i nm0=y at hy hk
      obtain ⟨x1,x2⟩:=x
      obtain ⟨y1,y2⟩:=y
      simp only [Nm.mk.injEq] at hk
      ((refine Ax (And.intro @hx @hy) ?_;repeat' first|exact True.intro|refine Cj.mk ?_ ?_)<;>intros<;>refine hD_ ?_)
      all_goals try (exfalso; omega)
      · rename_i h
        rw [decide_eq_false fun e=>by
          have:=hk.2 (by rw [e])
          omega]
        exact Frz.eq rfl (by simp)
      · rename_i h
        exact ⟨⟨i+1,hlt,hk.1 (by omega)⟩,by simp,by simp only; omega⟩
    · obtain rfl:i=a.length:=by omega
      ((refine Au ?_;repeat' first|exact True.intro|refine Cj.mk ?_ ?_)<;>intros<;>refine hD_ ?_)
      all_goals try (exfalso; omega)
      rw [List.take_length,hlen,List.take_length] at hI
      rw [decide_eq_true hI]
      exact Frz.eq rfl (by simp)
theorem sameInt (a b:List Int) (ha:a.length < 9223372036854775808) (hb:b.length < 9223372036854775808):Pure Tryz.prog 68 [inS a,inS b] (bl (decide (a=b))):=by
  refine Pure.of_body Tryz.call68 Tryz.func68 k68 (Nat.le_of_ble_eq_true rfl) ?_
  unfold c68
  ((refine Au ?_;repeat' first|exact True.intro|refine Cj.mk ?_ ?_)<;>intros<;>refine hD_ ?_)
  · rename_i h
    rw [decide_eq_false fun e=>by subst e; omega]; exact Frz.eq rfl (by simp)
  rename_i hne
  have hlen:a.length=b.length:=by omega
  refine AWPC.loopI 5 a.length (fun i=>a.take i=b.take i) (by simp) ?_ ?_
  · (simp only [zN,zT,zV,zS,zU,vcC,lateX,ex,strp,binA,elems,cells,scalar,eqC,keyA,intsA,lookA,ofVs,mpOf,Nat.reduceBEq,reduceAdd,reduceSub,reduceLT,reduceLeDiff,reduceMul,reduceEqDiff,reduceIte]; try simp)
  · intro i hi hI
    by_cases hlt:i < a.length
    · have hx:(a.map (fun z=>[n z])).getD i []=(fun z=>[n z]) (a.getD i 0):=row _ hlt
      have hy:(b.map (fun z=>[n z])).getD i []=(fun z=>[n z]) (b.getD i 0):=row _ (by omega)
      have hk:a.getD i 0=b.getD i 0↔a.take (i+1)=b.take (i+1):=by
        rw [List.take_add_one,List.take_add_one,hI,getD_lt 0 hlt,getD_lt 0 (show i < b.length by omega)]; simp
      generalize a.getD i 0=x at hx hk
      generalize b.getD i 0=y at hy hk
      ((refine Ax (And.intro @hx @hy) ?_;repeat' first|exact True.intro|refine Cj.mk ?_ ?_)<;>intros<;>refine hD_ ?_)
      all_goals try (exfalso; omega)
      · rename_i h
        rw [decide_eq_false fun e=>by
          have:=hk.2 (by rw [e])
          omega]
        exact Frz.eq rfl (by simp)
      · rename_i h
        exact ⟨⟨i+1,hlt,hk.1 (by omega)⟩,by simp,by simp only; omega⟩
    · obtain rfl:i=a.length:=by omega
      ((refine Au ?_;repeat' first|exact True.intro|refine Cj.mk ?_ ?_)<;>intros<;>refine hD_ ?_)
      all_goals try (exfalso; omega)
      rw [List.take_length,hlen,List.take_length] at hI
      rw [decide_eq_true hI]
      exact Frz.eq rfl (by simp)
def offB:Bse:=⟨[⟨5,0,0,[⟨0,⟨100,100⟩⟩]⟩],10,0,50,100,2⟩
def chartS:Sht:=⟨⟨100,1000,0,9600,10600,3,⟨1000,1000⟩,⟨1000,1000⟩⟩,[],[],[⟨1,2⟩,⟨1,2⟩],[],⟨1,⟨0,0⟩,10⟩⟩
def noteN (num day kind:Int):Nt:={ nt0 with clerk:=1,num:=num,clock:=num,day:=day,kind:=kind }
def sampL:List Nt:=[{ noteN 1 10 1 with stn:=5,week:=3,sheet:=chartS },{ noteN 2 11 2 with ref:=⟨1,1⟩,mark:=⟨0,⟨4,6⟩⟩ },{ noteN 3 12 3 with read:=⟨5,3,20,⟨10000,10010⟩⟩ },
  { noteN 4 13 6 with ref:=⟨1,2⟩,mark:=⟨0,⟨5,6⟩⟩ },{ noteN 5 14 5 with ref:=⟨1,1⟩,stn:=5,week:=4 }]
abbrev noteC (num day kind:Int):List AV:=[n 1,n num,n num,n day,n kind,n 0,n 0,n 0,n 0,n 0,n 0,n 0,n 0,n 0,n 0,n 0,n 0,.sl 3 [],.sl 1 [],.sl 2 [],.sl 3 [],n 0,n 0,n 0,n 0,n 0,n 0,n 0,n 0,n 0,n 0,n 0,n 0,n 0,n 0,n 0,n 0,n 0]
theorem office_spec:Pure Tryz.prog 77 [] (.agg offB.cs):=by
  refine Pure.of_body Tryz.call77 Tryz.func77 k77 (Nat.le_of_ble_eq_true rfl) ?_
  unfold c77
  ((refine Au ?_;repeat' first|exact True.intro|refine Cj.mk ?_ ?_)<;>intros<;>refine hD_ ?_)
  exact Frz.aggL ⟨Frz.eq rfl (snS_pure offB.stns),Frz.eq rfl (PureV.v _),Frz.eq rfl (PureV.v _),Frz.eq rfl (PureV.v _),Frz.eq rfl (PureV.v _),Frz.eq rfl (PureV.v _),trivial⟩
theorem note_spec (num day kind:Int):Pure Tryz.prog 79 [n num,n day,n kind] (.agg (noteC num day kind)):=by
  refine Pure.of_body Tryz.call79 Tryz.func79 k79 (Nat.le_of_ble_eq_true rfl) ?_
  unfold c79
  ((refine Au ?_;repeat' first|exact True.intro|refine Cj.mk ?_ ?_)<;>intros<;>refine hD_ ?_)
  exact Frz.aggL ⟨Frz.eq rfl (PureV.v _),Frz.eq rfl (PureV.v _),Frz.eq rfl (PureV.v _),Frz.eq rfl (PureV.v _),Frz.eq rfl (PureV.v _),Frz.eq rfl (PureV.v _),Frz.eq rfl (PureV.v _),Frz.eq rfl (PureV.v _),Frz.eq rfl (PureV.v _),Frz.eq rfl (PureV.v _),Frz.eq rfl (PureV.v _),Frz.eq rfl (PureV.v _),Frz.eq rfl (PureV.v _),Frz.eq rfl (PureV.v _),Frz.eq rfl (PureV.v _),Frz.eq rfl (PureV.v _),Frz.eq rfl (PureV.v _),Frz.nil0,Frz.nil0,Frz.nil0,Frz.nil0,Frz.eq rfl (PureV.v _),Frz.eq rfl (PureV.v _),Frz.eq rfl (PureV.v _),Frz.eq rfl (PureV.v _),Frz.eq rfl (PureV.v _),Frz.eq rfl (PureV.v _),Frz.eq rfl (PureV.v _),Frz.eq rfl (PureV.v _),Frz.eq rfl (PureV.v _),Frz.eq rfl (PureV.v _),Frz.eq rfl (PureV.v _),Frz.eq rfl (PureV.v _),Frz.eq rfl (PureV.v _),Frz.eq rfl (PureV.v _),Frz.eq rfl (PureV.v _),Frz.eq rfl (PureV.v _),Frz.eq rfl (PureV.v _),trivial⟩
theorem chart_spec:Pure Tryz.prog 140 [] (.agg chartS.cs):=by
  refine Pure.of_body Tryz.call140 Tryz.func140 k140 (Nat.le_of_ble_eq_true rfl) ?_
  unfold c140
  ((refine Au ?_;repeat' first|exact True.intro|refine Cj.mk ?_ ?_)<;>intros<;>refine hD_ ?_)
  exact Frz.aggL ⟨Frz.eq rfl (PureV.v _),Frz.eq rfl (PureV.v _),Frz.eq rfl (PureV.v _),Frz.eq rfl (PureV.v _),Frz.eq rfl (PureV.v _),Frz.eq rfl (PureV.v _),Frz.eq rfl (PureV.v _),Frz.eq rfl (PureV.v _),Frz.eq rfl (PureV.v _),Frz.eq rfl (PureV.v _),Frz.nil0,Frz.nil0,Frz.eq rfl (PureV.sl fun e he c hc=>by simp at he; rcases he with rfl | rfl <;> (simp at hc; rcases hc with rfl | rfl <;> exact PureV.v _)),Frz.nil0,Frz.eq rfl (PureV.v _),Frz.eq rfl (PureV.v _),Frz.eq rfl (PureV.v _),Frz.eq rfl (PureV.v _),trivial⟩
theorem sampleF_spec:Pure Tryz.prog 78 [] (.fresh 38 (sampL.map Nt.cs)):=by
  refine Pure.of_body Tryz.call78 Tryz.func78 k78 (Nat.le_of_ble_eq_true rfl) ?_
  unfold c78
  ((refine Ay (And.intro (note_spec 1 10 1) (And.intro (note_spec 2 11 2) (And.intro (note_spec 3 12 3) (And.intro (note_spec 4 13 6) (And.intro (note_spec 5 14 5) @chart_spec))))) ?_;repeat' first|exact True.intro|refine Cj.mk ?_ ?_)<;>intros<;>refine hD_ ?_)
  exact Frz.tightL (T:=68) (cs:=Nt.cs) (l:=sampL) rfl rfl (by decide) (fun a=>Nt.pc a) (fun a=>rfl)
theorem sample_spec:Pure Tryz.prog 78 [] (ntS sampL):=sampleF_spec.slack
def outN:Nt:={ noteN 6 15 7 with ref:=⟨1,1⟩ }
def reg1:Rgr:=⟨[⟨⟨1,1⟩,5,4,chartS,[⟨0,⟨5,6⟩⟩],[⟨1,2⟩]⟩],[⟨5,3,20,⟨10000,10010⟩⟩],offB.stns,[]⟩
def reg2:Rgr:=⟨[⟨⟨1,1⟩,5,3,chartS,[⟨0,⟨4,6⟩⟩],[⟨1,2⟩]⟩],[],offB.stns,[]⟩
def reg3:Rgr:=⟨[],[⟨5,3,20,⟨10000,10010⟩⟩],offB.stns,[⟨1,2⟩,⟨1,4⟩,⟨1,5⟩]⟩
theorem ev1:foldE offB sampL=(reg1,0):=by decide +kernel
theorem ev2:asofE offB sampL 11 100=(reg2,0):=by decide +kernel
theorem ev3:weeksT reg1=[3,4]:=by decide +kernel
theorem ev4:chainE offB sampL ⟨1,2⟩=([⟨1,4⟩],0):=by decide +kernel
theorem ev5:weekE offB reg1 3=(⟨offB,3,[],[⟨5,3,20,⟨10000,10010⟩⟩]⟩,0):=by decide +kernel
theorem ev6:foldE offB (sampL++[outN])=(reg3,0):=by decide +kernel
theorem offSz:bseSz offB:=by
  refine ⟨by decide,fun s hs=>?_⟩
  simp only [offB,List.mem_singleton] at hs
  subst hs
  decide
theorem sampSz:∀ a∈sampL++[outN],ntSz a:=by
  intro a ha
  simp only [sampL,List.cons_append,List.nil_append,List.mem_cons,List.not_mem_nil,or_false] at ha
  rcases ha with rfl | rfl | rfl | rfl | rfl | rfl <;> exact ⟨by decide,by decide,by decide,by decide⟩
theorem sampS:setSz sampL:=⟨by decide,fun a ha=>sampSz a (by simp [ha])⟩
theorem samp6:setSz (sampL++[outN]):=⟨by decide,sampSz⟩
theorem regC:∀ f∈reg1.sheets,fldC f:=by
  intro f hf
  simp only [reg1,List.mem_singleton] at hf
  subst hf
  exact ⟨⟨by decide,by decide,by decide,by decide⟩,by decide,by decide⟩
theorem awake_spec:Pure Tryz.prog 18 [] (bl true):=by
  have f1:=Fold_spec offB offSz sampL sampS
  rw [ev1] at f1
  have f2:=AsOf_spec offB offSz sampL sampS 11 100
  rw [ev2] at f2
  have f3:=Weeks_spec reg1 (by decide) (by decide)
  rw [ev3] at f3
  have f4:=Chain_spec offB offSz sampL sampS ⟨1,2⟩
  rw [ev4] at f4
  have f5:=WeekOf_of sortF0 offB offSz reg1 3 (by decide) (by decide) (by decide) regC (by decide) (by decide)
  rw [ev5] at f5
  have f6:=Fold_spec offB offSz (sampL++[outN]) samp6
  rw [ev6] at f6
  refine Pure.of_body Tryz.call18 Tryz.func18 k18 (Nat.le_of_ble_eq_true rfl) ?_
  unfold c18
  ((first
 | refine vn rfl ?_
 | simp (disch:=omega) only [wr64,Int.zero_sub]
 | refine bo (fun _=>?_) fun _=>?_
 | refine im fun _=>?_
 | ((repeat refine si ?_); (first | ((first | refine .inl ⟨_,_,_,_,rfl,fun _=>pu (by first | exact office_spec | exact sample_spec | exact f1 | exact f2 | exact f3 | exact f4 | exact f5 | exact f6 | exact note_spec 6 15 7 | exact sameInt [3,4] [3,4] (by decide) (by decide) | exact sameNm [⟨1,4⟩] [⟨1,4⟩] (by decide) (by decide)),?_⟩ | refine ⟨_,_,_,_,rfl,fun _=>pu (by first | exact office_spec | exact sample_spec | exact f1 | exact f2 | exact f3 | exact f4 | exact f5 | exact f6 | exact note_spec 6 15 7 | exact sameInt [3,4] [3,4] (by decide) (by decide) | exact sameNm [⟨1,4⟩] [⟨1,4⟩] (by decide) (by decide)),?_⟩); (first | refine o1 ?_ | refine o2 ?_ | refine o3 ?_ | refine o4 ?_)) | refine .inl ⟨_,_,_,_,rfl,pu (by first | exact office_spec | exact sample_spec | exact f1 | exact f2 | exact f3 | exact f4 | exact f5 | exact f6 | exact note_spec 6 15 7 | exact sameInt [3,4] [3,4] (by decide) (by decide) | exact sameNm [⟨1,4⟩] [⟨1,4⟩] (by decide) (by decide)),?_⟩))
 | refine cF ?_
 | refine om ?_
 | refine an ?_
 | fail) <;> try simp only [zN,zT,zV,zS,zU,vcC,lateX,ex,strp,binA,elems,cells,scalar,eqC,keyA,intsA,lookA,ofVs,mpOf,Nat.reduceBEq,reduceAdd,reduceSub,reduceLT,reduceLeDiff,reduceMul,reduceEqDiff,reduceIte,reg1,reg2,reg3,List.map_cons,List.map_nil,List.length_cons,List.length_nil])
  ((first
 | refine vn rfl ?_
 | simp (disch:=omega) only [wr64,Int.zero_sub]
 | refine bo (fun _=>?_) fun _=>?_
 | refine im fun _=>?_
 | ((repeat refine si ?_); (first | ((first | refine .inl ⟨_,_,_,_,rfl,fun _=>pu (by first | exact office_spec | exact sample_spec | exact f1 | exact f2 | exact f3 | exact f4 | exact f5 | exact f6 | exact note_spec 6 15 7 | exact sameInt [3,4] [3,4] (by decide) (by decide) | exact sameNm [⟨1,4⟩] [⟨1,4⟩] (by decide) (by decide)),?_⟩ | refine ⟨_,_,_,_,rfl,fun _=>pu (by first | exact office_spec | exact sample_spec | exact f1 | exact f2 | exact f3 | exact f4 | exact f5 | exact f6 | exact note_spec 6 15 7 | exact sameInt [3,4] [3,4] (by decide) (by decide) | exact sameNm [⟨1,4⟩] [⟨1,4⟩] (by decide) (by decide)),?_⟩); (first | refine o1 ?_ | refine o2 ?_ | refine o3 ?_ | refine o4 ?_)) | refine .inl ⟨_,_,_,_,rfl,pu (by first | exact office_spec | exact sample_spec | exact f1 | exact f2 | exact f3 | exact f4 | exact f5 | exact f6 | exact note_spec 6 15 7 | exact sameInt [3,4] [3,4] (by decide) (by decide) | exact sameNm [⟨1,4⟩] [⟨1,4⟩] (by decide) (by decide)),?_⟩))
 | refine cF ?_
 | refine om ?_
 | refine an ?_
 | fail) <;> try simp only [zN,zT,zV,zS,zU,vcC,lateX,ex,strp,binA,elems,cells,scalar,eqC,keyA,intsA,lookA,ofVs,mpOf,Nat.reduceBEq,reduceAdd,reduceSub,reduceLT,reduceLeDiff,reduceMul,reduceEqDiff,reduceIte,reg1,reg2,reg3,List.map_cons,List.map_nil,List.length_cons,List.length_nil])
  ((first
 | refine vn rfl ?_
 | simp (disch:=omega) only [wr64,Int.zero_sub]
 | refine bo (fun _=>?_) fun _=>?_
 | refine im fun _=>?_
 | ((repeat refine si ?_); (first | ((first | refine .inl ⟨_,_,_,_,rfl,fun _=>pu (by first | exact office_spec | exact sample_spec | exact f1 | exact f2 | exact f3 | exact f4 | exact f5 | exact f6 | exact note_spec 6 15 7 | exact sameInt [3,4] [3,4] (by decide) (by decide) | exact sameNm [⟨1,4⟩] [⟨1,4⟩] (by decide) (by decide)),?_⟩ | refine ⟨_,_,_,_,rfl,fun _=>pu (by first | exact office_spec | exact sample_spec | exact f1 | exact f2 | exact f3 | exact f4 | exact f5 | exact f6 | exact note_spec 6 15 7 | exact sameInt [3,4] [3,4] (by decide) (by decide) | exact sameNm [⟨1,4⟩] [⟨1,4⟩] (by decide) (by decide)),?_⟩); (first | refine o1 ?_ | refine o2 ?_ | refine o3 ?_ | refine o4 ?_)) | refine .inl ⟨_,_,_,_,rfl,pu (by first | exact office_spec | exact sample_spec | exact f1 | exact f2 | exact f3 | exact f4 | exact f5 | exact f6 | exact note_spec 6 15 7 | exact sameInt [3,4] [3,4] (by decide) (by decide) | exact sameNm [⟨1,4⟩] [⟨1,4⟩] (by decide) (by decide)),?_⟩))
 | refine cF ?_
 | refine om ?_
 | refine an ?_
 | fail) <;> try simp only [zN,zT,zV,zS,zU,vcC,lateX,ex,strp,binA,elems,cells,scalar,eqC,keyA,intsA,lookA,ofVs,mpOf,Nat.reduceBEq,reduceAdd,reduceSub,reduceLT,reduceLeDiff,reduceMul,reduceEqDiff,reduceIte,reg1,reg2,reg3,List.map_cons,List.map_nil,List.length_cons,List.length_nil])
  ((first
 | refine vn rfl ?_
 | simp (disch:=omega) only [wr64,Int.zero_sub]
 | refine bo (fun _=>?_) fun _=>?_
 | refine im fun _=>?_
 | ((repeat refine si ?_); (first | ((first | refine .inl ⟨_,_,_,_,rfl,fun _=>pu (by first | exact office_spec | exact sample_spec | exact f1 | exact f2 | exact f3 | exact f4 | exact f5 | exact f6 | exact note_spec 6 15 7 | exact sameInt [3,4] [3,4] (by decide) (by decide) | exact sameNm [⟨1,4⟩] [⟨1,4⟩] (by decide) (by decide)),?_⟩ | refine ⟨_,_,_,_,rfl,fun _=>pu (by first | exact office_spec | exact sample_spec | exact f1 | exact f2 | exact f3 | exact f4 | exact f5 | exact f6 | exact note_spec 6 15 7 | exact sameInt [3,4] [3,4] (by decide) (by decide) | exact sameNm [⟨1,4⟩] [⟨1,4⟩] (by decide) (by decide)),?_⟩); (first | refine o1 ?_ | refine o2 ?_ | refine o3 ?_ | refine o4 ?_)) | refine .inl ⟨_,_,_,_,rfl,pu (by first | exact office_spec | exact sample_spec | exact f1 | exact f2 | exact f3 | exact f4 | exact f5 | exact f6 | exact note_spec 6 15 7 | exact sameInt [3,4] [3,4] (by decide) (by decide) | exact sameNm [⟨1,4⟩] [⟨1,4⟩] (by decide) (by decide)),?_⟩))
 | refine cF ?_
 | refine om ?_
 | refine an ?_
 | fail) <;> try simp only [zN,zT,zV,zS,zU,vcC,lateX,ex,strp,binA,elems,cells,scalar,eqC,keyA,intsA,lookA,ofVs,mpOf,Nat.reduceBEq,reduceAdd,reduceSub,reduceLT,reduceLeDiff,reduceMul,reduceEqDiff,reduceIte,reg1,reg2,reg3,List.map_cons,List.map_nil,List.length_cons,List.length_nil])
  ((first
 | refine vn rfl ?_
 | simp (disch:=omega) only [wr64,Int.zero_sub]
 | refine bo (fun _=>?_) fun _=>?_
 | refine im fun _=>?_
 | ((repeat refine si ?_); (first | ((first | refine .inl ⟨_,_,_,_,rfl,fun _=>pu (by first | exact office_spec | exact sample_spec | exact f1 | exact f2 | exact f3 | exact f4 | exact f5 | exact f6 | exact note_spec 6 15 7 | exact sameInt [3,4] [3,4] (by decide) (by decide) | exact sameNm [⟨1,4⟩] [⟨1,4⟩] (by decide) (by decide)),?_⟩ | refine ⟨_,_,_,_,rfl,fun _=>pu (by first | exact office_spec | exact sample_spec | exact f1 | exact f2 | exact f3 | exact f4 | exact f5 | exact f6 | exact note_spec 6 15 7 | exact sameInt [3,4] [3,4] (by decide) (by decide) | exact sameNm [⟨1,4⟩] [⟨1,4⟩] (by decide) (by decide)),?_⟩); (first | refine o1 ?_ | refine o2 ?_ | refine o3 ?_ | refine o4 ?_)) | refine .inl ⟨_,_,_,_,rfl,pu (by first | exact office_spec | exact sample_spec | exact f1 | exact f2 | exact f3 | exact f4 | exact f5 | exact f6 | exact note_spec 6 15 7 | exact sameInt [3,4] [3,4] (by decide) (by decide) | exact sameNm [⟨1,4⟩] [⟨1,4⟩] (by decide) (by decide)),?_⟩))
 | refine cF ?_
 | refine om ?_
 | refine an ?_
 | fail) <;> try simp only [zN,zT,zV,zS,zU,vcC,lateX,ex,strp,binA,elems,cells,scalar,eqC,keyA,intsA,lookA,ofVs,mpOf,Nat.reduceBEq,reduceAdd,reduceSub,reduceLT,reduceLeDiff,reduceMul,reduceEqDiff,reduceIte,reg1,reg2,reg3,List.map_cons,List.map_nil,List.length_cons,List.length_nil])
  ((first
 | refine vn rfl ?_
 | simp (disch:=omega) only [wr64,Int.zero_sub]
 | refine bo (fun _=>?_) fun _=>?_
 | refine im fun _=>?_
 | ((repeat refine si ?_); (first | ((first | refine .inl ⟨_,_,_,_,rfl,fun _=>pu (by first | exact office_spec | exact sample_spec | exact f1 | exact f2 | exact f3 | exact f4 | exact f5 | exact f6 | exact note_spec 6 15 7 | exact sameInt [3,4] [3,4] (by decide) (by decide) | exact sameNm [⟨1,4⟩] [⟨1,4⟩] (by decide) (by decide)),?_⟩ | refine ⟨_,_,_,_,rfl,fun _=>pu (by first | exact office_spec | exact sample_spec | exact f1 | exact f2 | exact f3 | exact f4 | exact f5 | exact f6 | exact note_spec 6 15 7 | exact sameInt [3,4] [3,4] (by decide) (by decide) | exact sameNm [⟨1,4⟩] [⟨1,4⟩] (by decide) (by decide)),?_⟩); (first | refine o1 ?_ | refine o2 ?_ | refine o3 ?_ | refine o4 ?_)) | refine .inl ⟨_,_,_,_,rfl,pu (by first | exact office_spec | exact sample_spec | exact f1 | exact f2 | exact f3 | exact f4 | exact f5 | exact f6 | exact note_spec 6 15 7 | exact sameInt [3,4] [3,4] (by decide) (by decide) | exact sameNm [⟨1,4⟩] [⟨1,4⟩] (by decide) (by decide)),?_⟩))
 | refine cF ?_
 | refine om ?_
 | refine an ?_
 | fail) <;> try simp only [zN,zT,zV,zS,zU,vcC,lateX,ex,strp,binA,elems,cells,scalar,eqC,keyA,intsA,lookA,ofVs,mpOf,Nat.reduceBEq,reduceAdd,reduceSub,reduceLT,reduceLeDiff,reduceMul,reduceEqDiff,reduceIte,reg1,reg2,reg3,List.map_cons,List.map_nil,List.length_cons,List.length_nil])
  ((first
 | refine vn rfl ?_
 | simp (disch:=omega) only [wr64,Int.zero_sub]
 | refine bo (fun _=>?_) fun _=>?_
 | refine im fun _=>?_
 | ((repeat refine si ?_); (first | ((first | refine .inl ⟨_,_,_,_,rfl,fun _=>pu (by first | exact office_spec | exact sample_spec | exact f1 | exact f2 | exact f3 | exact f4 | exact f5 | exact f6 | exact note_spec 6 15 7 | exact sameInt [3,4] [3,4] (by decide) (by decide) | exact sameNm [⟨1,4⟩] [⟨1,4⟩] (by decide) (by decide)),?_⟩ | refine ⟨_,_,_,_,rfl,fun _=>pu (by first | exact office_spec | exact sample_spec | exact f1 | exact f2 | exact f3 | exact f4 | exact f5 | exact f6 | exact note_spec 6 15 7 | exact sameInt [3,4] [3,4] (by decide) (by decide) | exact sameNm [⟨1,4⟩] [⟨1,4⟩] (by decide) (by decide)),?_⟩); (first | refine o1 ?_ | refine o2 ?_ | refine o3 ?_ | refine o4 ?_)) | refine .inl ⟨_,_,_,_,rfl,pu (by first | exact office_spec | exact sample_spec | exact f1 | exact f2 | exact f3 | exact f4 | exact f5 | exact f6 | exact note_spec 6 15 7 | exact sameInt [3,4] [3,4] (by decide) (by decide) | exact sameNm [⟨1,4⟩] [⟨1,4⟩] (by decide) (by decide)),?_⟩))
 | refine cF ?_
 | refine om ?_
 | refine an ?_
 | fail) <;> try simp only [zN,zT,zV,zS,zU,vcC,lateX,ex,strp,binA,elems,cells,scalar,eqC,keyA,intsA,lookA,ofVs,mpOf,Nat.reduceBEq,reduceAdd,reduceSub,reduceLT,reduceLeDiff,reduceMul,reduceEqDiff,reduceIte,reg1,reg2,reg3,List.map_cons,List.map_nil,List.length_cons,List.length_nil])
  ((first
 | refine vn rfl ?_
 | simp (disch:=omega) only [wr64,Int.zero_sub]
 | refine bo (fun _=>?_) fun _=>?_
 | refine im fun _=>?_
 | ((repeat refine si ?_); (first | ((first | refine .inl ⟨_,_,_,_,rfl,fun _=>pu (by first | exact office_spec | exact sample_spec | exact f1 | exact f2 | exact f3 | exact f4 | exact f5 | exact f6 | exact note_spec 6 15 7 | exact sameInt [3,4] [3,4] (by decide) (by decide) | exact sameNm [⟨1,4⟩] [⟨1,4⟩] (by decide) (by decide)),?_⟩ | refine ⟨_,_,_,_,rfl,fun _=>pu (by first | exact office_spec | exact sample_spec | exact f1 | exact f2 | exact f3 | exact f4 | exact f5 | exact f6 | exact note_spec 6 15 7 | exact sameInt [3,4] [3,4] (by decide) (by decide) | exact sameNm [⟨1,4⟩] [⟨1,4⟩] (by decide) (by decide)),?_⟩); (first | refine o1 ?_ | refine o2 ?_ | refine o3 ?_ | refine o4 ?_)) | refine .inl ⟨_,_,_,_,rfl,pu (by first | exact office_spec | exact sample_spec | exact f1 | exact f2 | exact f3 | exact f4 | exact f5 | exact f6 | exact note_spec 6 15 7 | exact sameInt [3,4] [3,4] (by decide) (by decide) | exact sameNm [⟨1,4⟩] [⟨1,4⟩] (by decide) (by decide)),?_⟩))
 | refine cF ?_
 | refine om ?_
 | refine an ?_
 | fail) <;> try simp only [zN,zT,zV,zS,zU,vcC,lateX,ex,strp,binA,elems,cells,scalar,eqC,keyA,intsA,lookA,ofVs,mpOf,Nat.reduceBEq,reduceAdd,reduceSub,reduceLT,reduceLeDiff,reduceMul,reduceEqDiff,reduceIte,reg1,reg2,reg3,List.map_cons,List.map_nil,List.length_cons,List.length_nil])
  ((first
 | refine vn rfl ?_
 | simp (disch:=omega) only [wr64,Int.zero_sub]
 | refine bo (fun _=>?_) fun _=>?_
 | refine im fun _=>?_
 | ((repeat refine si ?_); (first | ((first | refine .inl ⟨_,_,_,_,rfl,fun _=>pu (by first | exact office_spec | exact sample_spec | exact f1 | exact f2 | exact f3 | exact f4 | exact f5 | exact f6 | exact note_spec 6 15 7 | exact sameInt [3,4] [3,4] (by decide) (by decide) | exact sameNm [⟨1,4⟩] [⟨1,4⟩] (by decide) (by decide)),?_⟩ | refine ⟨_,_,_,_,rfl,fun _=>pu (by first | exact office_spec | exact sample_spec | exact f1 | exact f2 | exact f3 | exact f4 | exact f5 | exact f6 | exact note_spec 6 15 7 | exact sameInt [3,4] [3,4] (by decide) (by decide) | exact sameNm [⟨1,4⟩] [⟨1,4⟩] (by decide) (by decide)),?_⟩); (first | refine o1 ?_ | refine o2 ?_ | refine o3 ?_ | refine o4 ?_)) | refine .inl ⟨_,_,_,_,rfl,pu (by first | exact office_spec | exact sample_spec | exact f1 | exact f2 | exact f3 | exact f4 | exact f5 | exact f6 | exact note_spec 6 15 7 | exact sameInt [3,4] [3,4] (by decide) (by decide) | exact sameNm [⟨1,4⟩] [⟨1,4⟩] (by decide) (by decide)),?_⟩))
 | refine cF ?_
 | refine om ?_
 | refine an ?_
 | fail) <;> try simp only [zN,zT,zV,zS,zU,vcC,lateX,ex,strp,binA,elems,cells,scalar,eqC,keyA,intsA,lookA,ofVs,mpOf,Nat.reduceBEq,reduceAdd,reduceSub,reduceLT,reduceLeDiff,reduceMul,reduceEqDiff,reduceIte,reg1,reg2,reg3,List.map_cons,List.map_nil,List.length_cons,List.length_nil])
  ((first
 | refine vn rfl ?_
 | simp (disch:=omega) only [wr64,Int.zero_sub]
 | refine bo (fun _=>?_) fun _=>?_
 | refine im fun _=>?_
 | ((repeat refine si ?_); (first | ((first | refine .inl ⟨_,_,_,_,rfl,fun _=>pu (by first | exact office_spec | exact sample_spec | exact f1 | exact f2 | exact f3 | exact f4 | exact f5 | exact f6 | exact note_spec 6 15 7 | exact sameInt [3,4] [3,4] (by decide) (by decide) | exact sameNm [⟨1,4⟩] [⟨1,4⟩] (by decide) (by decide)),?_⟩ | refine ⟨_,_,_,_,rfl,fun _=>pu (by first | exact office_spec | exact sample_spec | exact f1 | exact f2 | exact f3 | exact f4 | exact f5 | exact f6 | exact note_spec 6 15 7 | exact sameInt [3,4] [3,4] (by decide) (by decide) | exact sameNm [⟨1,4⟩] [⟨1,4⟩] (by decide) (by decide)),?_⟩); (first | refine o1 ?_ | refine o2 ?_ | refine o3 ?_ | refine o4 ?_)) | refine .inl ⟨_,_,_,_,rfl,pu (by first | exact office_spec | exact sample_spec | exact f1 | exact f2 | exact f3 | exact f4 | exact f5 | exact f6 | exact note_spec 6 15 7 | exact sameInt [3,4] [3,4] (by decide) (by decide) | exact sameNm [⟨1,4⟩] [⟨1,4⟩] (by decide) (by decide)),?_⟩))
 | refine cF ?_
 | refine om ?_
 | refine an ?_
 | fail) <;> try simp only [zN,zT,zV,zS,zU,vcC,lateX,ex,strp,binA,elems,cells,scalar,eqC,keyA,intsA,lookA,ofVs,mpOf,Nat.reduceBEq,reduceAdd,reduceSub,reduceLT,reduceLeDiff,reduceMul,reduceEqDiff,reduceIte,reg1,reg2,reg3,List.map_cons,List.map_nil,List.length_cons,List.length_nil])
  ((first
 | refine vn rfl ?_
 | simp (disch:=omega) only [wr64,Int.zero_sub]
 | refine bo (fun _=>?_) fun _=>?_
 | refine im fun _=>?_
 | ((repeat refine si ?_); (first | ((first | refine .inl ⟨_,_,_,_,rfl,fun _=>pu (by first | exact office_spec | exact sample_spec | exact f1 | exact f2 | exact f3 | exact f4 | exact f5 | exact f6 | exact note_spec 6 15 7 | exact sameInt [3,4] [3,4] (by decide) (by decide) | exact sameNm [⟨1,4⟩] [⟨1,4⟩] (by decide) (by decide)),?_⟩ | refine ⟨_,_,_,_,rfl,fun _=>pu (by first | exact office_spec | exact sample_spec | exact f1 | exact f2 | exact f3 | exact f4 | exact f5 | exact f6 | exact note_spec 6 15 7 | exact sameInt [3,4] [3,4] (by decide) (by decide) | exact sameNm [⟨1,4⟩] [⟨1,4⟩] (by decide) (by decide)),?_⟩); (first | refine o1 ?_ | refine o2 ?_ | refine o3 ?_ | refine o4 ?_)) | refine .inl ⟨_,_,_,_,rfl,pu (by first | exact office_spec | exact sample_spec | exact f1 | exact f2 | exact f3 | exact f4 | exact f5 | exact f6 | exact note_spec 6 15 7 | exact sameInt [3,4] [3,4] (by decide) (by decide) | exact sameNm [⟨1,4⟩] [⟨1,4⟩] (by decide) (by decide)),?_⟩))
 | refine cF ?_
 | refine om ?_
 | refine an ?_
 | fail) <;> try simp only [zN,zT,zV,zS,zU,vcC,lateX,ex,strp,binA,elems,cells,scalar,eqC,keyA,intsA,lookA,ofVs,mpOf,Nat.reduceBEq,reduceAdd,reduceSub,reduceLT,reduceLeDiff,reduceMul,reduceEqDiff,reduceIte,reg1,reg2,reg3,List.map_cons,List.map_nil,List.length_cons,List.length_nil])
  ((first
 | refine vn rfl ?_
 | simp (disch:=omega) only [wr64,Int.zero_sub]
 | refine bo (fun _=>?_) fun _=>?_
 | refine im fun _=>?_
 | ((repeat refine si ?_); (first | ((first | refine .inl ⟨_,_,_,_,rfl,fun _=>pu (by first | exact office_spec | exact sample_spec | exact f1 | exact f2 | exact f3 | exact f4 | exact f5 | exact f6 | exact note_spec 6 15 7 | exact sameInt [3,4] [3,4] (by decide) (by decide) | exact sameNm [⟨1,4⟩] [⟨1,4⟩] (by decide) (by decide)),?_⟩ | refine ⟨_,_,_,_,rfl,fun _=>pu (by first | exact office_spec | exact sample_spec | exact f1 | exact f2 | exact f3 | exact f4 | exact f5 | exact f6 | exact note_spec 6 15 7 | exact sameInt [3,4] [3,4] (by decide) (by decide) | exact sameNm [⟨1,4⟩] [⟨1,4⟩] (by decide) (by decide)),?_⟩); (first | refine o1 ?_ | refine o2 ?_ | refine o3 ?_ | refine o4 ?_)) | refine .inl ⟨_,_,_,_,rfl,pu (by first | exact office_spec | exact sample_spec | exact f1 | exact f2 | exact f3 | exact f4 | exact f5 | exact f6 | exact note_spec 6 15 7 | exact sameInt [3,4] [3,4] (by decide) (by decide) | exact sameNm [⟨1,4⟩] [⟨1,4⟩] (by decide) (by decide)),?_⟩))
 | refine cF ?_
 | refine om ?_
 | refine an ?_
 | fail) <;> try simp only [zN,zT,zV,zS,zU,vcC,lateX,ex,strp,binA,elems,cells,scalar,eqC,keyA,intsA,lookA,ofVs,mpOf,Nat.reduceBEq,reduceAdd,reduceSub,reduceLT,reduceLeDiff,reduceMul,reduceEqDiff,reduceIte,reg1,reg2,reg3,List.map_cons,List.map_nil,List.length_cons,List.length_nil])
  ((first
 | refine vn rfl ?_
 | simp (disch:=omega) only [wr64,Int.zero_sub]
 | refine bo (fun _=>?_) fun _=>?_
 | refine im fun _=>?_
 | ((repeat refine si ?_); (first | ((first | refine .inl ⟨_,_,_,_,rfl,fun _=>pu (by first | exact office_spec | exact sample_spec | exact f1 | exact f2 | exact f3 | exact f4 | exact f5 | exact f6 | exact note_spec 6 15 7 | exact sameInt [3,4] [3,4] (by decide) (by decide) | exact sameNm [⟨1,4⟩] [⟨1,4⟩] (by decide) (by decide)),?_⟩ | refine ⟨_,_,_,_,rfl,fun _=>pu (by first | exact office_spec | exact sample_spec | exact f1 | exact f2 | exact f3 | exact f4 | exact f5 | exact f6 | exact note_spec 6 15 7 | exact sameInt [3,4] [3,4] (by decide) (by decide) | exact sameNm [⟨1,4⟩] [⟨1,4⟩] (by decide) (by decide)),?_⟩); (first | refine o1 ?_ | refine o2 ?_ | refine o3 ?_ | refine o4 ?_)) | refine .inl ⟨_,_,_,_,rfl,pu (by first | exact office_spec | exact sample_spec | exact f1 | exact f2 | exact f3 | exact f4 | exact f5 | exact f6 | exact note_spec 6 15 7 | exact sameInt [3,4] [3,4] (by decide) (by decide) | exact sameNm [⟨1,4⟩] [⟨1,4⟩] (by decide) (by decide)),?_⟩))
 | refine cF ?_
 | refine om ?_
 | refine an ?_
 | fail) <;> try simp only [zN,zT,zV,zS,zU,vcC,lateX,ex,strp,binA,elems,cells,scalar,eqC,keyA,intsA,lookA,ofVs,mpOf,Nat.reduceBEq,reduceAdd,reduceSub,reduceLT,reduceLeDiff,reduceMul,reduceEqDiff,reduceIte,reg1,reg2,reg3,List.map_cons,List.map_nil,List.length_cons,List.length_nil])
  ((first
 | refine vn rfl ?_
 | simp (disch:=omega) only [wr64,Int.zero_sub]
 | refine bo (fun _=>?_) fun _=>?_
 | refine im fun _=>?_
 | ((repeat refine si ?_); (first | ((first | refine .inl ⟨_,_,_,_,rfl,fun _=>pu (by first | exact office_spec | exact sample_spec | exact f1 | exact f2 | exact f3 | exact f4 | exact f5 | exact f6 | exact note_spec 6 15 7 | exact sameInt [3,4] [3,4] (by decide) (by decide) | exact sameNm [⟨1,4⟩] [⟨1,4⟩] (by decide) (by decide)),?_⟩ | refine ⟨_,_,_,_,rfl,fun _=>pu (by first | exact office_spec | exact sample_spec | exact f1 | exact f2 | exact f3 | exact f4 | exact f5 | exact f6 | exact note_spec 6 15 7 | exact sameInt [3,4] [3,4] (by decide) (by decide) | exact sameNm [⟨1,4⟩] [⟨1,4⟩] (by decide) (by decide)),?_⟩); (first | refine o1 ?_ | refine o2 ?_ | refine o3 ?_ | refine o4 ?_)) | refine .inl ⟨_,_,_,_,rfl,pu (by first | exact office_spec | exact sample_spec | exact f1 | exact f2 | exact f3 | exact f4 | exact f5 | exact f6 | exact note_spec 6 15 7 | exact sameInt [3,4] [3,4] (by decide) (by decide) | exact sameNm [⟨1,4⟩] [⟨1,4⟩] (by decide) (by decide)),?_⟩))
 | refine cF ?_
 | refine om ?_
 | refine an ?_
 | fail) <;> try simp only [zN,zT,zV,zS,zU,vcC,lateX,ex,strp,binA,elems,cells,scalar,eqC,keyA,intsA,lookA,ofVs,mpOf,Nat.reduceBEq,reduceAdd,reduceSub,reduceLT,reduceLeDiff,reduceMul,reduceEqDiff,reduceIte,reg1,reg2,reg3,List.map_cons,List.map_nil,List.length_cons,List.length_nil])
  ((first
 | refine vn rfl ?_
 | simp (disch:=omega) only [wr64,Int.zero_sub]
 | refine bo (fun _=>?_) fun _=>?_
 | refine im fun _=>?_
 | ((repeat refine si ?_); (first | ((first | refine .inl ⟨_,_,_,_,rfl,fun _=>pu (by first | exact office_spec | exact sample_spec | exact f1 | exact f2 | exact f3 | exact f4 | exact f5 | exact f6 | exact note_spec 6 15 7 | exact sameInt [3,4] [3,4] (by decide) (by decide) | exact sameNm [⟨1,4⟩] [⟨1,4⟩] (by decide) (by decide)),?_⟩ | refine ⟨_,_,_,_,rfl,fun _=>pu (by first | exact office_spec | exact sample_spec | exact f1 | exact f2 | exact f3 | exact f4 | exact f5 | exact f6 | exact note_spec 6 15 7 | exact sameInt [3,4] [3,4] (by decide) (by decide) | exact sameNm [⟨1,4⟩] [⟨1,4⟩] (by decide) (by decide)),?_⟩); (first | refine o1 ?_ | refine o2 ?_ | refine o3 ?_ | refine o4 ?_)) | refine .inl ⟨_,_,_,_,rfl,pu (by first | exact office_spec | exact sample_spec | exact f1 | exact f2 | exact f3 | exact f4 | exact f5 | exact f6 | exact note_spec 6 15 7 | exact sameInt [3,4] [3,4] (by decide) (by decide) | exact sameNm [⟨1,4⟩] [⟨1,4⟩] (by decide) (by decide)),?_⟩))
 | refine cF ?_
 | refine om ?_
 | refine an ?_
 | fail) <;> try simp only [zN,zT,zV,zS,zU,vcC,lateX,ex,strp,binA,elems,cells,scalar,eqC,keyA,intsA,lookA,ofVs,mpOf,Nat.reduceBEq,reduceAdd,reduceSub,reduceLT,reduceLeDiff,reduceMul,reduceEqDiff,reduceIte,reg1,reg2,reg3,List.map_cons,List.map_nil,List.length_cons,List.length_nil])
  ((first
 | refine vn rfl ?_
 | simp (disch:=omega) only [wr64,Int.zero_sub]
 | refine bo (fun _=>?_) fun _=>?_
 | refine im fun _=>?_
 | ((repeat refine si ?_); (first | ((first | refine .inl ⟨_,_,_,_,rfl,fun _=>pu (by first | exact office_spec | exact sample_spec | exact f1 | exact f2 | exact f3 | exact f4 | exact f5 | exact f6 | exact note_spec 6 15 7 | exact sameInt [3,4] [3,4] (by decide) (by decide) | exact sameNm [⟨1,4⟩] [⟨1,4⟩] (by decide) (by decide)),?_⟩ | refine ⟨_,_,_,_,rfl,fun _=>pu (by first | exact office_spec | exact sample_spec | exact f1 | exact f2 | exact f3 | exact f4 | exact f5 | exact f6 | exact note_spec 6 15 7 | exact sameInt [3,4] [3,4] (by decide) (by decide) | exact sameNm [⟨1,4⟩] [⟨1,4⟩] (by decide) (by decide)),?_⟩); (first | refine o1 ?_ | refine o2 ?_ | refine o3 ?_ | refine o4 ?_)) | refine .inl ⟨_,_,_,_,rfl,pu (by first | exact office_spec | exact sample_spec | exact f1 | exact f2 | exact f3 | exact f4 | exact f5 | exact f6 | exact note_spec 6 15 7 | exact sameInt [3,4] [3,4] (by decide) (by decide) | exact sameNm [⟨1,4⟩] [⟨1,4⟩] (by decide) (by decide)),?_⟩))
 | refine cF ?_
 | refine om ?_
 | refine an ?_
 | fail) <;> try simp only [zN,zT,zV,zS,zU,vcC,lateX,ex,strp,binA,elems,cells,scalar,eqC,keyA,intsA,lookA,ofVs,mpOf,Nat.reduceBEq,reduceAdd,reduceSub,reduceLT,reduceLeDiff,reduceMul,reduceEqDiff,reduceIte,reg1,reg2,reg3,List.map_cons,List.map_nil,List.length_cons,List.length_nil])
  ((first
 | refine vn rfl ?_
 | simp (disch:=omega) only [wr64,Int.zero_sub]
 | refine bo (fun _=>?_) fun _=>?_
 | refine im fun _=>?_
 | ((repeat refine si ?_); (first | ((first | refine .inl ⟨_,_,_,_,rfl,fun _=>pu (by first | exact office_spec | exact sample_spec | exact f1 | exact f2 | exact f3 | exact f4 | exact f5 | exact f6 | exact note_spec 6 15 7 | exact sameInt [3,4] [3,4] (by decide) (by decide) | exact sameNm [⟨1,4⟩] [⟨1,4⟩] (by decide) (by decide)),?_⟩ | refine ⟨_,_,_,_,rfl,fun _=>pu (by first | exact office_spec | exact sample_spec | exact f1 | exact f2 | exact f3 | exact f4 | exact f5 | exact f6 | exact note_spec 6 15 7 | exact sameInt [3,4] [3,4] (by decide) (by decide) | exact sameNm [⟨1,4⟩] [⟨1,4⟩] (by decide) (by decide)),?_⟩); (first | refine o1 ?_ | refine o2 ?_ | refine o3 ?_ | refine o4 ?_)) | refine .inl ⟨_,_,_,_,rfl,pu (by first | exact office_spec | exact sample_spec | exact f1 | exact f2 | exact f3 | exact f4 | exact f5 | exact f6 | exact note_spec 6 15 7 | exact sameInt [3,4] [3,4] (by decide) (by decide) | exact sameNm [⟨1,4⟩] [⟨1,4⟩] (by decide) (by decide)),?_⟩))
 | refine cF ?_
 | refine om ?_
 | refine an ?_
 | fail) <;> try simp only [zN,zT,zV,zS,zU,vcC,lateX,ex,strp,binA,elems,cells,scalar,eqC,keyA,intsA,lookA,ofVs,mpOf,Nat.reduceBEq,reduceAdd,reduceSub,reduceLT,reduceLeDiff,reduceMul,reduceEqDiff,reduceIte,reg1,reg2,reg3,List.map_cons,List.map_nil,List.length_cons,List.length_nil])
  ((first
 | refine vn rfl ?_
 | simp (disch:=omega) only [wr64,Int.zero_sub]
 | refine bo (fun _=>?_) fun _=>?_
 | refine im fun _=>?_
 | ((repeat refine si ?_); (first | ((first | refine .inl ⟨_,_,_,_,rfl,fun _=>pu (by first | exact office_spec | exact sample_spec | exact f1 | exact f2 | exact f3 | exact f4 | exact f5 | exact f6 | exact note_spec 6 15 7 | exact sameInt [3,4] [3,4] (by decide) (by decide) | exact sameNm [⟨1,4⟩] [⟨1,4⟩] (by decide) (by decide)),?_⟩ | refine ⟨_,_,_,_,rfl,fun _=>pu (by first | exact office_spec | exact sample_spec | exact f1 | exact f2 | exact f3 | exact f4 | exact f5 | exact f6 | exact note_spec 6 15 7 | exact sameInt [3,4] [3,4] (by decide) (by decide) | exact sameNm [⟨1,4⟩] [⟨1,4⟩] (by decide) (by decide)),?_⟩); (first | refine o1 ?_ | refine o2 ?_ | refine o3 ?_ | refine o4 ?_)) | refine .inl ⟨_,_,_,_,rfl,pu (by first | exact office_spec | exact sample_spec | exact f1 | exact f2 | exact f3 | exact f4 | exact f5 | exact f6 | exact note_spec 6 15 7 | exact sameInt [3,4] [3,4] (by decide) (by decide) | exact sameNm [⟨1,4⟩] [⟨1,4⟩] (by decide) (by decide)),?_⟩))
 | refine cF ?_
 | refine om ?_
 | refine an ?_
 | fail) <;> try simp only [zN,zT,zV,zS,zU,vcC,lateX,ex,strp,binA,elems,cells,scalar,eqC,keyA,intsA,lookA,ofVs,mpOf,Nat.reduceBEq,reduceAdd,reduceSub,reduceLT,reduceLeDiff,reduceMul,reduceEqDiff,reduceIte,reg1,reg2,reg3,List.map_cons,List.map_nil,List.length_cons,List.length_nil])
  ((first
 | refine vn rfl ?_
 | simp (disch:=omega) only [wr64,Int.zero_sub]
 | refine bo (fun _=>?_) fun _=>?_
 | refine im fun _=>?_
 | ((repeat refine si ?_); (first | ((first | refine .inl ⟨_,_,_,_,rfl,fun _=>pu (by first | exact office_spec | exact sample_spec | exact f1 | exact f2 | exact f3 | exact f4 | exact f5 | exact f6 | exact note_spec 6 15 7 | exact sameInt [3,4] [3,4] (by decide) (by decide) | exact sameNm [⟨1,4⟩] [⟨1,4⟩] (by decide) (by decide)),?_⟩ | refine ⟨_,_,_,_,rfl,fun _=>pu (by first | exact office_spec | exact sample_spec | exact f1 | exact f2 | exact f3 | exact f4 | exact f5 | exact f6 | exact note_spec 6 15 7 | exact sameInt [3,4] [3,4] (by decide) (by decide) | exact sameNm [⟨1,4⟩] [⟨1,4⟩] (by decide) (by decide)),?_⟩); (first | refine o1 ?_ | refine o2 ?_ | refine o3 ?_ | refine o4 ?_)) | refine .inl ⟨_,_,_,_,rfl,pu (by first | exact office_spec | exact sample_spec | exact f1 | exact f2 | exact f3 | exact f4 | exact f5 | exact f6 | exact note_spec 6 15 7 | exact sameInt [3,4] [3,4] (by decide) (by decide) | exact sameNm [⟨1,4⟩] [⟨1,4⟩] (by decide) (by decide)),?_⟩))
 | refine cF ?_
 | refine om ?_
 | refine an ?_
 | fail) <;> try simp only [zN,zT,zV,zS,zU,vcC,lateX,ex,strp,binA,elems,cells,scalar,eqC,keyA,intsA,lookA,ofVs,mpOf,Nat.reduceBEq,reduceAdd,reduceSub,reduceLT,reduceLeDiff,reduceMul,reduceEqDiff,reduceIte,reg1,reg2,reg3,List.map_cons,List.map_nil,List.length_cons,List.length_nil])
  ((first
 | refine vn rfl ?_
 | simp (disch:=omega) only [wr64,Int.zero_sub]
 | refine bo (fun _=>?_) fun _=>?_
 | refine im fun _=>?_
 | ((repeat refine si ?_); (first | ((first | refine .inl ⟨_,_,_,_,rfl,fun _=>pu (by first | exact office_spec | exact sample_spec | exact f1 | exact f2 | exact f3 | exact f4 | exact f5 | exact f6 | exact note_spec 6 15 7 | exact sameInt [3,4] [3,4] (by decide) (by decide) | exact sameNm [⟨1,4⟩] [⟨1,4⟩] (by decide) (by decide)),?_⟩ | refine ⟨_,_,_,_,rfl,fun _=>pu (by first | exact office_spec | exact sample_spec | exact f1 | exact f2 | exact f3 | exact f4 | exact f5 | exact f6 | exact note_spec 6 15 7 | exact sameInt [3,4] [3,4] (by decide) (by decide) | exact sameNm [⟨1,4⟩] [⟨1,4⟩] (by decide) (by decide)),?_⟩); (first | refine o1 ?_ | refine o2 ?_ | refine o3 ?_ | refine o4 ?_)) | refine .inl ⟨_,_,_,_,rfl,pu (by first | exact office_spec | exact sample_spec | exact f1 | exact f2 | exact f3 | exact f4 | exact f5 | exact f6 | exact note_spec 6 15 7 | exact sameInt [3,4] [3,4] (by decide) (by decide) | exact sameNm [⟨1,4⟩] [⟨1,4⟩] (by decide) (by decide)),?_⟩))
 | refine cF ?_
 | refine om ?_
 | refine an ?_
 | fail) <;> try simp only [zN,zT,zV,zS,zU,vcC,lateX,ex,strp,binA,elems,cells,scalar,eqC,keyA,intsA,lookA,ofVs,mpOf,Nat.reduceBEq,reduceAdd,reduceSub,reduceLT,reduceLeDiff,reduceMul,reduceEqDiff,reduceIte,reg1,reg2,reg3,List.map_cons,List.map_nil,List.length_cons,List.length_nil])
  ((first
 | refine vn rfl ?_
 | simp (disch:=omega) only [wr64,Int.zero_sub]
 | refine bo (fun _=>?_) fun _=>?_
 | refine im fun _=>?_
 | ((repeat refine si ?_); (first | ((first | refine .inl ⟨_,_,_,_,rfl,fun _=>pu (by first | exact office_spec | exact sample_spec | exact f1 | exact f2 | exact f3 | exact f4 | exact f5 | exact f6 | exact note_spec 6 15 7 | exact sameInt [3,4] [3,4] (by decide) (by decide) | exact sameNm [⟨1,4⟩] [⟨1,4⟩] (by decide) (by decide)),?_⟩ | refine ⟨_,_,_,_,rfl,fun _=>pu (by first | exact office_spec | exact sample_spec | exact f1 | exact f2 | exact f3 | exact f4 | exact f5 | exact f6 | exact note_spec 6 15 7 | exact sameInt [3,4] [3,4] (by decide) (by decide) | exact sameNm [⟨1,4⟩] [⟨1,4⟩] (by decide) (by decide)),?_⟩); (first | refine o1 ?_ | refine o2 ?_ | refine o3 ?_ | refine o4 ?_)) | refine .inl ⟨_,_,_,_,rfl,pu (by first | exact office_spec | exact sample_spec | exact f1 | exact f2 | exact f3 | exact f4 | exact f5 | exact f6 | exact note_spec 6 15 7 | exact sameInt [3,4] [3,4] (by decide) (by decide) | exact sameNm [⟨1,4⟩] [⟨1,4⟩] (by decide) (by decide)),?_⟩))
 | refine cF ?_
 | refine om ?_
 | refine an ?_
 | fail) <;> try simp only [zN,zT,zV,zS,zU,vcC,lateX,ex,strp,binA,elems,cells,scalar,eqC,keyA,intsA,lookA,ofVs,mpOf,Nat.reduceBEq,reduceAdd,reduceSub,reduceLT,reduceLeDiff,reduceMul,reduceEqDiff,reduceIte,reg1,reg2,reg3,List.map_cons,List.map_nil,List.length_cons,List.length_nil])
  ((first
 | refine vn rfl ?_
 | simp (disch:=omega) only [wr64,Int.zero_sub]
 | refine bo (fun _=>?_) fun _=>?_
 | refine im fun _=>?_
 | ((repeat refine si ?_); (first | ((first | refine .inl ⟨_,_,_,_,rfl,fun _=>pu (by first | exact office_spec | exact sample_spec | exact f1 | exact f2 | exact f3 | exact f4 | exact f5 | exact f6 | exact note_spec 6 15 7 | exact sameInt [3,4] [3,4] (by decide) (by decide) | exact sameNm [⟨1,4⟩] [⟨1,4⟩] (by decide) (by decide)),?_⟩ | refine ⟨_,_,_,_,rfl,fun _=>pu (by first | exact office_spec | exact sample_spec | exact f1 | exact f2 | exact f3 | exact f4 | exact f5 | exact f6 | exact note_spec 6 15 7 | exact sameInt [3,4] [3,4] (by decide) (by decide) | exact sameNm [⟨1,4⟩] [⟨1,4⟩] (by decide) (by decide)),?_⟩); (first | refine o1 ?_ | refine o2 ?_ | refine o3 ?_ | refine o4 ?_)) | refine .inl ⟨_,_,_,_,rfl,pu (by first | exact office_spec | exact sample_spec | exact f1 | exact f2 | exact f3 | exact f4 | exact f5 | exact f6 | exact note_spec 6 15 7 | exact sameInt [3,4] [3,4] (by decide) (by decide) | exact sameNm [⟨1,4⟩] [⟨1,4⟩] (by decide) (by decide)),?_⟩))
 | refine cF ?_
 | refine om ?_
 | refine an ?_
 | fail) <;> try simp only [zN,zT,zV,zS,zU,vcC,lateX,ex,strp,binA,elems,cells,scalar,eqC,keyA,intsA,lookA,ofVs,mpOf,Nat.reduceBEq,reduceAdd,reduceSub,reduceLT,reduceLeDiff,reduceMul,reduceEqDiff,reduceIte,reg1,reg2,reg3,List.map_cons,List.map_nil,List.length_cons,List.length_nil])
  (repeat' ((first
 | refine vn rfl ?_
 | simp (disch:=omega) only [wr64,Int.zero_sub]
 | refine bo (fun _=>?_) fun _=>?_
 | refine im fun _=>?_
 | ((repeat refine si ?_); (first | ((first | refine .inl ⟨_,_,_,_,rfl,fun _=>pu (by first | exact office_spec | exact sampleF_spec | exact f1 | exact f2 | exact f3 | exact f4 | exact f5 | exact f6 | exact note_spec 6 15 7 | exact sameInt [3,4] [3,4] (by decide) (by decide) | exact sameNm [⟨1,4⟩] [⟨1,4⟩] (by decide) (by decide)),?_⟩ | refine ⟨_,_,_,_,rfl,fun _=>pu (by first | exact office_spec | exact sampleF_spec | exact f1 | exact f2 | exact f3 | exact f4 | exact f5 | exact f6 | exact note_spec 6 15 7 | exact sameInt [3,4] [3,4] (by decide) (by decide) | exact sameNm [⟨1,4⟩] [⟨1,4⟩] (by decide) (by decide)),?_⟩); (first | refine o1 ?_ | refine o2 ?_ | refine o3 ?_ | refine o4 ?_)) | refine .inl ⟨_,_,_,_,rfl,pu (by first | exact office_spec | exact sampleF_spec | exact f1 | exact f2 | exact f3 | exact f4 | exact f5 | exact f6 | exact note_spec 6 15 7 | exact sameInt [3,4] [3,4] (by decide) (by decide) | exact sameNm [⟨1,4⟩] [⟨1,4⟩] (by decide) (by decide)),?_⟩))
 | refine cF ?_
 | refine om ?_
 | refine an ?_
 | fail) <;> try simp only [zN,zT,zV,zS,zU,vcC,lateX,ex,strp,binA,elems,cells,scalar,eqC,keyA,intsA,lookA,ofVs,mpOf,Nat.reduceBEq,reduceAdd,reduceSub,reduceLT,reduceLeDiff,reduceMul,reduceEqDiff,reduceIte,reg1,reg2,reg3,List.map_cons,List.map_nil,List.length_cons,List.length_nil]))
  refine ⟨⟨by simp,by simp [sampL],by decide⟩,?_⟩
  have happ:∀ r,r=Nt.cs outN→List.map Nt.cs sampL++[r]=(sampL++[outN]).map Nt.cs:=by rintro _ rfl; simp
  rw [happ]
  rotate_left
  · rfl
  clear happ
  generalize sampL++[outN]=sx at f6 ⊢
  (repeat' ((first
 | refine vn rfl ?_
 | simp (disch:=omega) only [wr64,Int.zero_sub]
 | refine bo (fun _=>?_) fun _=>?_
 | refine im fun _=>?_
 | ((repeat refine si ?_); (first | ((first | refine .inl ⟨_,_,_,_,rfl,fun _=>pu (by first | exact office_spec | exact sampleF_spec | exact f1 | exact f2 | exact f3 | exact f4 | exact f5 | exact f6 | exact note_spec 6 15 7 | exact sameInt [3,4] [3,4] (by decide) (by decide) | exact sameNm [⟨1,4⟩] [⟨1,4⟩] (by decide) (by decide)),?_⟩ | refine ⟨_,_,_,_,rfl,fun _=>pu (by first | exact office_spec | exact sampleF_spec | exact f1 | exact f2 | exact f3 | exact f4 | exact f5 | exact f6 | exact note_spec 6 15 7 | exact sameInt [3,4] [3,4] (by decide) (by decide) | exact sameNm [⟨1,4⟩] [⟨1,4⟩] (by decide) (by decide)),?_⟩); (first | refine o1 ?_ | refine o2 ?_ | refine o3 ?_ | refine o4 ?_)) | refine .inl ⟨_,_,_,_,rfl,pu (by first | exact office_spec | exact sampleF_spec | exact f1 | exact f2 | exact f3 | exact f4 | exact f5 | exact f6 | exact note_spec 6 15 7 | exact sameInt [3,4] [3,4] (by decide) (by decide) | exact sameNm [⟨1,4⟩] [⟨1,4⟩] (by decide) (by decide)),?_⟩))
 | refine cF ?_
 | refine om ?_
 | refine an ?_
 | fail) <;> try simp only [zN,zT,zV,zS,zU,vcC,lateX,ex,strp,binA,elems,cells,scalar,eqC,keyA,intsA,lookA,ofVs,mpOf,Nat.reduceBEq,reduceAdd,reduceSub,reduceLT,reduceLeDiff,reduceMul,reduceEqDiff,reduceIte,reg1,reg2,reg3,List.map_cons,List.map_nil,List.length_cons,List.length_nil]))
  all_goals exact Frz.eq rfl (by simp)
def c181:CF:=⟨26,(jo [jb 4 false] [0,1]
 (.seq (jo [jm 6 0,je 7 6,jm 8 1,je 9 8,jt .neq 10 7 9] [0,1,10]
 (.cond (.t 10) (jo [jb 4 false] [4]
 .ret)
 .skip))
 (.seq (jo [jc 5 0] [0,1,5]
 (.block 0 (.loop (.seq (jo [jm 11 5,jm 12 0,je 13 12,jt .lss 14 11 13] [0,1,5,14]
 (.cond (.t 14) .skip
 (.exit 0)))
 (.seq (.block 1 (.seq (.draw [jm 17 0,jm 18 5,ji 19 2 17 18,jk 20 2 19,jm 21 1,jm 22 5,ji 23 2 21 22,jk 24 2 23,jw 25 (.eqs true [some .i64,some .i64] (.t 20) (.t 24))] [] [0,1,5,25])
 (.cond (.t 25) (jo [jb 4 false] [4]
 .ret)
 .skip)))
 (.ops [jm 15 5,ju .add 16 15 1,jm 5 16] [0,1,5]))))))
 (jo [jb 4 true] [4]
 .ret)))),[.t 4]⟩
theorem k181:chkF Tryz.prog Tryz.f181 c181=true:=by kernel_rfl
def c117:CF:=⟨39,(jo [jx 2 56 2 0,jx 3 56 2 1,jb 4 false] [2,3]
 (.seq (jo [jf 6 0 2,jl 7 6,jf 8 0 3,jl 9 8,jy 10 181 [7,9],jv 11 10,jm 12 11,jd 12 (jf 13 1 2),jd 12 (jl 14 13),jd 12 (je 15 14),jd 12 (jf 16 1 3),jd 12 (jl 17 16),jd 12 (je 18 17),jd 12 (jt .neq 19 15 18),jq 20 12 19] [2,3,20]
 (.cond (.t 20) (jo [jb 4 false] [4]
 .ret)
 .skip))
 (.seq (jo [jc 5 0] [2,3,5]
 (.block 0 (.loop (.seq (jo [jm 21 5,jf 22 1 2,jl 23 22,je 24 23,jt .lss 25 21 24] [2,3,5,25]
 (.cond (.t 25) .skip
 (.exit 0)))
 (.seq (.block 1 (.seq (.draw [jf 28 1 2,jl 29 28,jm 30 5,ji 31 3 29 30,jk 32 3 31,jf 33 1 3,jl 34 33,jm 35 5,ji 36 3 34 35,jk 37 3 36,jw 38 (.eqs true [some .i64,some .i64,some .i64] (.t 32) (.t 37))] [] [2,3,5,38])
 (.cond (.t 38) (jo [jb 4 false] [4]
 .ret)
 .skip)))
 (.ops [jm 26 5,ju .add 27 26 1,jm 5 27] [2,3,5]))))))
 (jo [jb 4 true] [4]
 .ret)))),[.t 4]⟩
theorem k117:chkF Tryz.prog Tryz.f117 c117=true:=by kernel_rfl
def c53:CF:=⟨61,(jo [jx 2 60 18 0,jx 3 60 18 1,jb 4 false] [2,3]
 (.seq (jo [jf 6 0 2,jk 7 10 6,jf 8 0 3,jk 9 10 8,jw 10 (.eqs true [some .i64,some .i64,some .i64,some .i64,some .i64,some .i64,some .i64,some .i64,some .i64,some .i64] (.t 7) (.t 9)),jm 11 10,jd 11 (jf 12 14 2),jd 11 (jk 13 4 12),jd 11 (jf 14 14 3),jd 11 (jk 15 4 14),⟨some 16,.eqs true [some .i64,some .i64,some .i64,some .i64] (.t 13) (.t 15),some (11,false)⟩,jq 17 11 16,jm 18 17,jd 18 (jf 19 12 2),jd 18 (jk 20 2 19),jd 18 (jf 21 12 3),jd 18 (jk 22 2 21),jd 18 (jy 23 117 [20,22]),jd 18 (jv 24 23),jq 25 18 24,jm 26 25,jd 26 (jf 27 11 2),jd 26 (jl 28 27),jd 26 (jf 29 11 3),jd 26 (jl 30 29),jd 26 (jy 31 68 [28,30]),jd 26 (jv 32 31),jq 33 26 32,jm 34 33,jd 34 (jf 35 10 2),jd 34 (jl 36 35),jd 34 (je 37 36),jd 34 (jf 38 10 3),jd 34 (jl 39 38),jd 34 (je 40 39),jd 34 (jt .neq 41 37 40),jq 42 34 41] [2,3,42]
 (.cond (.t 42) (jo [jb 4 false] [4]
 .ret)
 .skip))
 (.seq (jo [jc 5 0] [2,3,5]
 (.block 0 (.loop (.seq (jo [jm 43 5,jf 44 10 2,jl 45 44,je 46 45,jt .lss 47 43 46] [2,3,5,47]
 (.cond (.t 47) .skip
 (.exit 0)))
 (.seq (.block 1 (.seq (.draw [jf 50 10 2,jl 51 50,jm 52 5,ji 53 3 51 52,jk 54 3 53,jf 55 10 3,jl 56 55,jm 57 5,ji 58 3 56 57,jk 59 3 58,jw 60 (.eqs true [some .i64,some .i64,some .i64] (.t 54) (.t 59))] [] [2,3,5,60])
 (.cond (.t 60) (jo [jb 4 false] [4]
 .ret)
 .skip)))
 (.ops [jm 48 5,ju .add 49 48 1,jm 5 49] [2,3,5]))))))
 (jo [jb 4 true] [4]
 .ret)))),[.t 4]⟩
theorem k53:chkF Tryz.prog Tryz.f53 c53=true:=by kernel_rfl
theorem sameSp (a b:List Sp) (ha:a.length < 9223372036854775808) (hb:b.length < 9223372036854775808):Pure Tryz.prog 181 [spnS a,spnS b] (bl (decide (a=b))):=by
  refine Pure.of_body Tryz.call181 Tryz.func181 k181 (Nat.le_of_ble_eq_true rfl) ?_
  unfold c181
  ((refine Au ?_;repeat' first|exact True.intro|refine Cj.mk ?_ ?_)<;>intros<;>refine hD_ ?_)
  · rename_i h
    rw [decide_eq_false fun e=>by subst e; omega]; exact Frz.eq rfl (by simp)
  rename_i hne
  have hlen:a.length=b.length:=by omega
  refine AWPC.loopI 5 a.length (fun i=>a.take i=b.take i) (by simp) ?_ ?_
  · (simp only [zN,zT,zV,zS,zU,vcC,lateX,ex,strp,binA,elems,cells,scalar,eqC,keyA,intsA,lookA,ofVs,mpOf,Nat.reduceBEq,reduceAdd,reduceSub,reduceLT,reduceLeDiff,reduceMul,reduceEqDiff,reduceIte]; try simp)
  · intro i hi hI
    by_cases hlt:i < a.length
    · have hx:(a.map Sp.cs).getD i []=Sp.cs (a.getD i ⟨0,0⟩):=row _ hlt
      have hy:(b.map Sp.cs).getD i []=Sp.cs (b.getD i ⟨0,0⟩):=row _ (by omega)
      have hk:a.getD i ⟨0,0⟩=b.getD i ⟨0,0⟩↔a.take (i+1)=b.take (i+1):=by
        rw [List.take_add_one,List.take_add_one,hI,getD_lt ⟨0,0⟩ hlt,getD_lt ⟨0,0⟩ (show i < b.length by omega)]; simp
      generalize a.getD i ⟨0,0⟩=x at hx hk
      generalize b.getD i ⟨0,0⟩=y at hy hk
      obtain ⟨x1,x2⟩:=x
      obtain ⟨y1,y2⟩:=y
      simp only [Sp.mk.injEq] at hk
      ((refine Ax (And.intro @hx @hy) ?_;repeat' first|exact True.intro|refine Cj.mk ?_ ?_)<;>intros<;>refine hD_ ?_)
      all_goals try (exfalso; omega)
      · rename_i h
        rw [decide_eq_false fun e=>by
          have:=hk.2 (by rw [e])
          omega]
        exact Frz.eq rfl (by simp)
      · rename_i h
        exact ⟨⟨i+1,hlt,hk.1 (by omega)⟩,by simp,by simp only; omega⟩
    · obtain rfl:i=a.length:=by omega
      ((refine Au ?_;repeat' first|exact True.intro|refine Cj.mk ?_ ?_)<;>intros<;>refine hD_ ?_)
      all_goals try (exfalso; omega)
      rw [List.take_length,hlen,List.take_length] at hI
      rw [decide_eq_true hI]
      exact Frz.eq rfl (by simp)
theorem sameDrum_spec (a b:List Sp × List Mk) (ha:a.1.length < 9223372036854775808∧a.2.length < 9223372036854775808) (hb:b.1.length < 9223372036854775808∧b.2.length < 9223372036854775808):Pure Tryz.prog 117 [.agg [spnS a.1,mkS a.2],.agg [spnS b.1,mkS b.2]] (bl (decide (a=b))):=by
  refine Pure.of_body Tryz.call117 Tryz.func117 k117 (Nat.le_of_ble_eq_true rfl) ?_
  unfold c117
  obtain ⟨a1,a2⟩:=a
  obtain ⟨b1,b2⟩:=b
  simp only at ha hb
  have h1:=sameSp a1 b1 ha.1 hb.1
  by_cases e1:a1=b1
  · rw [decide_eq_true e1] at h1
    by_cases hlen:a2.length=b2.length
    · have hlen':(a2.length:Int)=(b2.length:Int):=by omega
      have hd:decide ((a1,a2)=(b1,b2))=decide (a2=b2):=by rw [decide_eq_decide]; simp [e1]
      rw [hd]
      ((refine Az @hlen' @h1 ?_;repeat' first|exact True.intro|refine Cj.mk ?_ ?_)<;>intros<;>refine hD_ ?_)
      all_goals try (exfalso; omega)
      refine AWPC.loopI 5 a2.length (fun i=>a2.take i=b2.take i) (by simp) ?_ ?_
      · (simp only [zN,zT,zV,zS,zU,vcC,lateX,ex,strp,binA,elems,cells,scalar,eqC,keyA,intsA,lookA,ofVs,mpOf,Nat.reduceBEq,reduceAdd,reduceSub,reduceLT,reduceLeDiff,reduceMul,reduceEqDiff,reduceIte]; try simp)
      · intro i hi hI
        by_cases hlt:i < a2.length
        · have hx:(a2.map Mk.cs).getD i []=Mk.cs (a2.getD i mk0):=row _ hlt
          have hy:(b2.map Mk.cs).getD i []=Mk.cs (b2.getD i mk0):=row _ (by omega)
          have hk:a2.getD i mk0=b2.getD i mk0↔a2.take (i+1)=b2.take (i+1):=by
            rw [List.take_add_one,List.take_add_one,hI,getD_lt mk0 hlt,getD_lt mk0 (show i < b2.length by omega)]; simp
          generalize a2.getD i mk0=x at hx hk
          generalize b2.getD i mk0=y at hy hk
          obtain ⟨x1,⟨x2,x3⟩⟩:=x
          obtain ⟨y1,⟨y2,y3⟩⟩:=y
          simp only [Mk.mk.injEq,Sp.mk.injEq] at hk
          ((refine Ax (And.intro @hx @hy) ?_;repeat' first|exact True.intro|refine Cj.mk ?_ ?_)<;>intros<;>refine hD_ ?_)
          all_goals try (exfalso; omega)
          · rename_i h
            rw [decide_eq_false fun e=>by
              have:=hk.2 (by rw [e])
              omega]
            exact Frz.eq rfl (by simp)
          · rename_i h
            exact ⟨⟨i+1,hlt,hk.1 (by omega)⟩,by simp,by simp only; omega⟩
        · obtain rfl:i=a2.length:=by omega
          ((refine Au ?_;repeat' first|exact True.intro|refine Cj.mk ?_ ?_)<;>intros<;>refine hD_ ?_)
          all_goals try (exfalso; omega)
          rw [List.take_length,hlen,List.take_length] at hI
          rw [decide_eq_true hI]
          exact Frz.eq rfl (by simp)
    · rw [decide_eq_false (fun e=>hlen (by rw [(Prod.mk.inj e).2]))]
      ((refine Ay @h1 ?_;repeat' first|exact True.intro|refine Cj.mk ?_ ?_)<;>intros<;>refine hD_ ?_)
      all_goals try (exfalso; omega)
      all_goals exact Frz.eq rfl (by simp)
  · rw [decide_eq_false e1] at h1
    rw [decide_eq_false (fun e=>e1 (Prod.mk.inj e).1)]
    ((refine Ay @h1 ?_;repeat' first|exact True.intro|refine Cj.mk ?_ ?_)<;>intros<;>refine hD_ ?_)
    all_goals try (exfalso; omega)
    all_goals exact Frz.eq rfl (by simp)
theorem rSameSheet_spec (a b:Sht) (ha:shtSz a) (hb:shtSz b):Pure Tryz.prog 53 [.agg a.cs,.agg b.cs] (bl (decide (a=b))):=by
  refine Pure.of_body Tryz.call53 Tryz.func53 k53 (Nat.le_of_ble_eq_true rfl) ?_
  unfold c53
  have h1:=sameDrum_spec (a.rates,a.stops) (b.rates,b.stops) ⟨ha.2.2.1,ha.2.2.2⟩ ⟨hb.2.2.1,hb.2.2.2⟩
  have h2:=sameInt a.blots b.blots ha.2.1 hb.2.1
  have ht1:=ha.1
  have ht2:=hb.1
  ((refine Ay (And.intro @h1 @h2) ?_;repeat' first|exact True.intro|refine Cj.mk ?_ ?_)<;>intros<;>refine hD_ ?_)
  all_goals try (exfalso; omega)
  · rename_i h
    rw [decide_eq_false fun e=>?_]
    · exact Frz.eq rfl (by simp)
    · subst e
      simp at h
  · rename_i h
    obtain ⟨⟨⟨⟨hp,hn⟩,hd⟩,hb'⟩,ht⟩:(((a.paper=b.paper∧a.pen=b.pen)∧(a.rates,a.stops)=(b.rates,b.stops))∧a.blots=b.blots)∧a.trace.length=b.trace.length:=by
      obtain ⟨⟨p1,p2,p3,p4,p5,p6,⟨p7,p8⟩,⟨p9,p10⟩⟩,_,_,_,_,⟨q1,⟨q2,q3⟩,q4⟩⟩:=a
      obtain ⟨⟨r1,r2,r3,r4,r5,r6,⟨r7,r8⟩,⟨r9,r10⟩⟩,_,_,_,_,⟨s1,⟨s2,s3⟩,s4⟩⟩:=b
      simp only [not_or,Classical.not_not] at h
      obtain ⟨⟨⟨⟨e1,e2⟩,e3⟩,e4⟩,e5⟩:=h
      refine ⟨⟨⟨⟨?_,?_⟩,e3⟩,e4⟩,by exact_mod_cast e5⟩
      · simpa [and_assoc] using e1
      · simpa [and_assoc] using e2
    have hd':decide (a=b)=decide (a.trace=b.trace):=by
      rw [decide_eq_decide]
      obtain ⟨a1,a2,a3,a4,a5,a6⟩:=a
      obtain ⟨b1,b2,b3,b4,b5,b6⟩:=b
      simp only [Sht.mk.injEq,Prod.mk.injEq] at hp hn hd hb' ⊢
      simp [hp,hn,hd,hb']
    rw [hd']
    clear h hd' h1 h2
    obtain ⟨a1,a2,a3,a4,a5,a6⟩:=a
    obtain ⟨b1,b2,b3,b4,b5,b6⟩:=b
    simp only at ht ht1 ht2 ⊢
    have hlen':(a2.length:Int)=(b2.length:Int):=by omega
    refine AWPC.loopI 5 a2.length (fun i=>a2.take i=b2.take i) (by simp) ?_ ?_
    · (simp only [zN,zT,zV,zS,zU,vcC,lateX,ex,strp,binA,elems,cells,scalar,eqC,keyA,intsA,lookA,ofVs,mpOf,Nat.reduceBEq,reduceAdd,reduceSub,reduceLT,reduceLeDiff,reduceMul,reduceEqDiff,reduceIte]; try simp)
    · intro i hi hI
      by_cases hlt:i < a2.length
      · have hx:(a2.map Pt.cs).getD i []=Pt.cs (a2.getD i ⟨0,0,0⟩):=row _ hlt
        have hy:(b2.map Pt.cs).getD i []=Pt.cs (b2.getD i ⟨0,0,0⟩):=row _ (by omega)
        have hk:a2.getD i ⟨0,0,0⟩=b2.getD i ⟨0,0,0⟩↔a2.take (i+1)=b2.take (i+1):=by
          rw [List.take_add_one,List.take_add_one,hI,getD_lt ⟨0,0,0⟩ hlt,getD_lt ⟨0,0,0⟩ (show i < b2.length by omega)]; simp
        generalize a2.getD i ⟨0,0,0⟩=x at hx hk
        generalize b2.getD i ⟨0,0,0⟩=y at hy hk
        obtain ⟨x1,x2,x3⟩:=x
        obtain ⟨y1,y2,y3⟩:=y
        simp only [Pt.mk.injEq] at hk
        ((refine Ax (And.intro @hx @hy) ?_;repeat' first|exact True.intro|refine Cj.mk ?_ ?_)<;>intros<;>refine hD_ ?_)
        all_goals try (exfalso; omega)
        · rename_i h
          rw [decide_eq_false fun e=>by
            have:=hk.2 (by rw [e])
            omega]
          exact Frz.eq rfl (by simp)
        · rename_i h
          exact ⟨⟨i+1,hlt,hk.1 (by omega)⟩,by simp,by simp only; omega⟩
      · obtain rfl:i=a2.length:=by omega
        ((refine Au ?_;repeat' first|exact True.intro|refine Cj.mk ?_ ?_)<;>intros<;>refine hD_ ?_)
        all_goals try (exfalso; omega)
        rw [List.take_length,ht,List.take_length] at hI
        rw [decide_eq_true hI]
        exact Frz.eq rfl (by simp)
def c105:CF:=⟨26,(jo [jb 4 false] [0,1]
 (.seq (jo [jm 6 0,je 7 6,jm 8 1,je 9 8,jt .neq 10 7 9] [0,1,10]
 (.cond (.t 10) (jo [jb 4 false] [4]
 .ret)
 .skip))
 (.seq (jo [jc 5 0] [0,1,5]
 (.block 0 (.loop (.seq (jo [jm 11 5,jm 12 0,je 13 12,jt .lss 14 11 13] [0,1,5,14]
 (.cond (.t 14) .skip
 (.exit 0)))
 (.seq (.block 1 (.seq (.draw [jm 17 0,jm 18 5,ji 19 3 17 18,jk 20 3 19,jm 21 1,jm 22 5,ji 23 3 21 22,jk 24 3 23,jw 25 (.eqs true [some .i64,some .i64,some .i64] (.t 20) (.t 24))] [] [0,1,5,25])
 (.cond (.t 25) (jo [jb 4 false] [4]
 .ret)
 .skip)))
 (.ops [jm 15 5,ju .add 16 15 1,jm 5 16] [0,1,5]))))))
 (jo [jb 4 true] [4]
 .ret)))),[.t 4]⟩
theorem k105:chkF Tryz.prog Tryz.f105 c105=true:=by kernel_rfl
def c93:CF:=⟨26,(jo [jb 4 false] [0,1]
 (.seq (jo [jm 6 0,je 7 6,jm 8 1,je 9 8,jt .neq 10 7 9] [0,1,10]
 (.cond (.t 10) (jo [jb 4 false] [4]
 .ret)
 .skip))
 (.seq (jo [jc 5 0] [0,1,5]
 (.block 0 (.loop (.seq (jo [jm 11 5,jm 12 0,je 13 12,jt .lss 14 11 13] [0,1,5,14]
 (.cond (.t 14) .skip
 (.exit 0)))
 (.seq (.block 1 (.seq (.draw [jm 17 0,jm 18 5,ji 19 5 17 18,jk 20 5 19,jm 21 1,jm 22 5,ji 23 5 21 22,jk 24 5 23,jw 25 (.eqs true [some .i64,some .i64,some .i64,some .i64,some .i64] (.t 20) (.t 24))] [] [0,1,5,25])
 (.cond (.t 25) (jo [jb 4 false] [4]
 .ret)
 .skip)))
 (.ops [jm 15 5,ju .add 16 15 1,jm 5 16] [0,1,5]))))))
 (jo [jb 4 true] [4]
 .ret)))),[.t 4]⟩
theorem k93:chkF Tryz.prog Tryz.f93 c93=true:=by kernel_rfl
def c59:CF:=⟨52,(jo [jx 2 109 4 0,jx 3 109 4 1,jb 4 false] [2,3]
 (.seq (jo [jf 6 0 2,jl 7 6,jf 8 0 3,jl 9 8,jt .neq 10 7 9,jm 11 10,jd 11 (jf 12 1 2),jd 11 (jl 13 12),jd 11 (jf 14 1 3),jd 11 (jl 15 14),jd 11 (jt .neq 16 13 15),jq 17 11 16,jm 18 17,jd 18 (jf 19 2 2),jd 18 (jl 20 19),jd 18 (jf 21 2 3),jd 18 (jl 22 21),jd 18 (jt .neq 23 20 22),jq 24 18 23,jm 25 24,jd 25 (jf 26 3 2),jd 25 (jl 27 26),jd 25 (je 28 27),jd 25 (jf 29 3 3),jd 25 (jl 30 29),jd 25 (je 31 30),jd 25 (jt .neq 32 28 31),jq 33 25 32] [2,3,33]
 (.cond (.t 33) (jo [jb 4 false] [4]
 .ret)
 .skip))
 (.seq (jo [jc 5 0] [2,3,5]
 (.block 0 (.loop (.seq (jo [jm 34 5,jf 35 3 2,jl 36 35,je 37 36,jt .lss 38 34 37] [2,3,5,38]
 (.cond (.t 38) .skip
 (.exit 0)))
 (.seq (.block 1 (.seq (.draw [jf 41 3 2,jl 42 41,jm 43 5,ji 44 3 42 43,jk 45 3 44,jf 46 3 3,jl 47 46,jm 48 5,ji 49 3 47 48,jk 50 3 49,jw 51 (.eqs true [some .i64,some .i64,some .i64] (.t 45) (.t 50))] [] [2,3,5,51])
 (.cond (.t 51) (jo [jb 4 false] [4]
 .ret)
 .skip)))
 (.ops [jm 39 5,ju .add 40 39 1,jm 5 40] [2,3,5]))))))
 (jo [jb 4 true] [4]
 .ret)))),[.t 4]⟩
theorem k59:chkF Tryz.prog Tryz.f59 c59=true:=by kernel_rfl
def c38:CF:=⟨27,(jo [jb 4 false] [0,1]
 (.seq (jo [jm 6 0,je 7 6,jm 8 1,je 9 8,jt .neq 10 7 9] [0,1,10]
 (.cond (.t 10) (jo [jb 4 false] [4]
 .ret)
 .skip))
 (.seq (jo [jc 5 0] [0,1,5]
 (.block 0 (.loop (.seq (jo [jm 11 5,jm 12 0,je 13 12,jt .lss 14 11 13] [0,1,5,14]
 (.cond (.t 14) .skip
 (.exit 0)))
 (.seq (.block 1 (.seq (.draw [jm 17 0,jm 18 5,ji 19 4 17 18,jk 20 4 19,jm 21 1,jm 22 5,ji 23 4 21 22,jk 24 4 23,jy 25 59 [20,24],jv 26 25] [] [0,1,5,26])
 (.cond (.t 26) (jo [jb 4 false] [4]
 .ret)
 .skip)))
 (.ops [jm 15 5,ju .add 16 15 1,jm 5 16] [0,1,5]))))))
 (jo [jb 4 true] [4]
 .ret)))),[.t 4]⟩
theorem k38:chkF Tryz.prog Tryz.f38 c38=true:=by kernel_rfl
def c40:CF:=⟨70,(jo [jb 4 false] [0,1]
 (.seq (jo [jm 8 0,je 9 8,jm 10 1,je 11 10,jt .neq 12 9 11] [0,1,12]
 (.cond (.t 12) (jo [jb 4 false] [4]
 .ret)
 .skip))
 (.seq (jo [jc 5 0] [0,1,5]
 (.block 0 (.loop (.seq (jo [jm 13 5,jm 14 0,je 15 14,jt .lss 16 13 15] [0,1,5,16]
 (.cond (.t 16) .skip
 (.exit 0)))
 (.seq (.block 1 (jo [jm 19 0,jm 20 5,ji 21 24 19 20,jk 22 24 21,jw 6 (.alloc 72 24 z24),js 24 6 22] [0,1,5,6]
 (jo [jm 23 1,jm 24 5,ji 25 24 23 24,jk 26 24 25,jw 7 (.alloc 72 24 z24),js 24 7 26] [0,1,5,6,7]
 (jo [jf 27 0 6,jk 28 2 27,jf 29 0 7,jk 30 2 29,jw 31 (.eqs true [some .i64,some .i64] (.t 28) (.t 30)),jm 32 31,jd 32 (jf 33 2 6),jd 32 (jl 34 33),jd 32 (jf 35 2 7),jd 32 (jl 36 35),jd 32 (jt .neq 37 34 36),jq 38 32 37,jm 39 38,jd 39 (jf 40 3 6),jd 39 (jl 41 40),jd 39 (jf 42 3 7),jd 39 (jl 43 42),jd 39 (jt .neq 44 41 43),jq 45 39 44,jm 46 45,jd 46 (jf 47 4 6),jd 46 (jk 48 18 47),jd 46 (jf 49 4 7),jd 46 (jk 50 18 49),jd 46 (jy 51 53 [48,50]),jd 46 (jv 52 51),jq 53 46 52,jm 54 53,jd 54 (jf 55 22 6),jd 54 (jl 56 55),jd 54 (jf 57 22 7),jd 54 (jl 58 57),jd 54 (jy 59 105 [56,58]),jd 54 (jv 60 59),jq 61 54 60,jm 62 61,jd 62 (jf 63 23 6),jd 62 (jl 64 63),jd 62 (jf 65 23 7),jd 62 (jl 66 65),jd 62 (jy 67 28 [64,66]),jd 62 (jv 68 67),jq 69 62 68] [0,1,5,69]
 (.cond (.t 69) (jo [jb 4 false] [4]
 .ret)
 .skip)))))
 (.ops [jm 17 5,ju .add 18 17 1,jm 5 18] [0,1,5]))))))
 (jo [jb 4 true] [4]
 .ret)))),[.t 4]⟩
theorem k40:chkF Tryz.prog Tryz.f40 c40=true:=by kernel_rfl
def c27:CF:=⟨31,(jo [jx 2 37 4 0,jx 3 37 4 1,jb 4 false] [2,3]
 (jo [jf 5 0 2,jl 6 5,jf 7 0 3,jl 8 7,jy 9 40 [6,8],jm 10 9,ja 10 (jf 11 1 2),ja 10 (jl 12 11),ja 10 (jf 13 1 3),ja 10 (jl 14 13),ja 10 (jy 15 93 [12,14]),jp 16 10 15,jm 17 16,ja 17 (jf 18 2 2),ja 17 (jl 19 18),ja 17 (jf 20 2 3),ja 17 (jl 21 20),ja 17 (jy 22 38 [19,21]),jp 23 17 22,jm 24 23,ja 24 (jf 25 3 2),ja 24 (jl 26 25),ja 24 (jf 27 3 3),ja 24 (jl 28 27),ja 24 (jy 29 28 [26,28]),jp 30 24 29,jm 4 30] [4]
 .ret)),[.t 4]⟩
theorem k27:chkF Tryz.prog Tryz.f27 c27=true:=by kernel_rfl
theorem sameMk (a b:List Mk) (ha:a.length < 9223372036854775808) (hb:b.length < 9223372036854775808):Pure Tryz.prog 105 [mkS a,mkS b] (bl (decide (a=b))):=by
  refine Pure.of_body Tryz.call105 Tryz.func105 k105 (Nat.le_of_ble_eq_true rfl) ?_
  unfold c105
  ((refine Au ?_;repeat' first|exact True.intro|refine Cj.mk ?_ ?_)<;>intros<;>refine hD_ ?_)
  · rename_i h
    rw [decide_eq_false fun e=>by subst e; omega]; exact Frz.eq rfl (by simp)
  rename_i hne
  have hlen:a.length=b.length:=by omega
  refine AWPC.loopI 5 a.length (fun i=>a.take i=b.take i) (by simp) ?_ ?_
  · (simp only [zN,zT,zV,zS,zU,vcC,lateX,ex,strp,binA,elems,cells,scalar,eqC,keyA,intsA,lookA,ofVs,mpOf,Nat.reduceBEq,reduceAdd,reduceSub,reduceLT,reduceLeDiff,reduceMul,reduceEqDiff,reduceIte]; try simp)
  · intro i hi hI
    by_cases hlt:i < a.length
    · have hx:(a.map Mk.cs).getD i []=Mk.cs (a.getD i mk0):=row _ hlt
      have hy:(b.map Mk.cs).getD i []=Mk.cs (b.getD i mk0):=row _ (by omega)
      have hk:a.getD i mk0=b.getD i mk0↔a.take (i+1)=b.take (i+1):=by
        rw [List.take_add_one,List.take_add_one,hI,getD_lt mk0 hlt,getD_lt mk0 (show i < b.length by omega)]; simp
      generalize a.getD i mk0=x at hx hk
      generalize b.getD i mk0=y at hy hk
      obtain ⟨x1,x2,x3⟩:=x
      obtain ⟨y1,y2,y3⟩:=y
      simp only [Mk.mk.injEq,Sp.mk.injEq] at hk
      ((refine Ax (And.intro @hx @hy) ?_;repeat' first|exact True.intro|refine Cj.mk ?_ ?_)<;>intros<;>refine hD_ ?_)
      all_goals try (exfalso; omega)
      · rename_i h
        rw [decide_eq_false fun e=>by
          have:=hk.2 (by rw [e])
          omega]
        exact Frz.eq rfl (by simp)
      · rename_i h
        exact ⟨⟨i+1,hlt,hk.1 (by omega)⟩,by simp,by simp only; omega⟩
    · obtain rfl:i=a.length:=by omega
      ((refine Au ?_;repeat' first|exact True.intro|refine Cj.mk ?_ ?_)<;>intros<;>refine hD_ ?_)
      all_goals try (exfalso; omega)
      rw [List.take_length,hlen,List.take_length] at hI
      rw [decide_eq_true hI]
      exact Frz.eq rfl (by simp)
theorem sameRd (a b:List Rd) (ha:a.length < 9223372036854775808) (hb:b.length < 9223372036854775808):Pure Tryz.prog 93 [rdS a,rdS b] (bl (decide (a=b))):=by
  refine Pure.of_body Tryz.call93 Tryz.func93 k93 (Nat.le_of_ble_eq_true rfl) ?_
  unfold c93
  ((refine Au ?_;repeat' first|exact True.intro|refine Cj.mk ?_ ?_)<;>intros<;>refine hD_ ?_)
  · rename_i h
    rw [decide_eq_false fun e=>by subst e; omega]; exact Frz.eq rfl (by simp)
  rename_i hne
  have hlen:a.length=b.length:=by omega
  refine AWPC.loopI 5 a.length (fun i=>a.take i=b.take i) (by simp) ?_ ?_
  · (simp only [zN,zT,zV,zS,zU,vcC,lateX,ex,strp,binA,elems,cells,scalar,eqC,keyA,intsA,lookA,ofVs,mpOf,Nat.reduceBEq,reduceAdd,reduceSub,reduceLT,reduceLeDiff,reduceMul,reduceEqDiff,reduceIte]; try simp)
  · intro i hi hI
    by_cases hlt:i < a.length
    · have hx:(a.map Rd.cs).getD i []=Rd.cs (a.getD i rd0):=row _ hlt
      have hy:(b.map Rd.cs).getD i []=Rd.cs (b.getD i rd0):=row _ (by omega)
      have hk:a.getD i rd0=b.getD i rd0↔a.take (i+1)=b.take (i+1):=by
        rw [List.take_add_one,List.take_add_one,hI,getD_lt rd0 hlt,getD_lt rd0 (show i < b.length by omega)]; simp
      generalize a.getD i rd0=x at hx hk
      generalize b.getD i rd0=y at hy hk
      obtain ⟨x1,x2,x3,⟨x4,x5⟩⟩:=x
      obtain ⟨y1,y2,y3,⟨y4,y5⟩⟩:=y
      simp only [Rd.mk.injEq,Sp.mk.injEq] at hk
      ((refine Ax (And.intro @hx @hy) ?_;repeat' first|exact True.intro|refine Cj.mk ?_ ?_)<;>intros<;>refine hD_ ?_)
      all_goals try (exfalso; omega)
      · rename_i h
        rw [decide_eq_false fun e=>by
          have:=hk.2 (by rw [e])
          omega]
        exact Frz.eq rfl (by simp)
      · rename_i h
        exact ⟨⟨i+1,hlt,hk.1 (by omega)⟩,by simp,by simp only; omega⟩
    · obtain rfl:i=a.length:=by omega
      ((refine Au ?_;repeat' first|exact True.intro|refine Cj.mk ?_ ?_)<;>intros<;>refine hD_ ?_)
      all_goals try (exfalso; omega)
      rw [List.take_length,hlen,List.take_length] at hI
      rw [decide_eq_true hI]
      exact Frz.eq rfl (by simp)
theorem sameStn_spec (a b:Stn) (ha:a.heights.length < 9223372036854775808) (hb:b.heights.length < 9223372036854775808):Pure Tryz.prog 59 [.agg a.cs,.agg b.cs] (bl (decide (a=b))):=by
  refine Pure.of_body Tryz.call59 Tryz.func59 k59 (Nat.le_of_ble_eq_true rfl) ?_
  unfold c59
  obtain ⟨i1,x1,y1,l⟩:=a
  obtain ⟨i2,x2,y2,m⟩:=b
  simp only at ha hb
  have hd:decide ((⟨i1,x1,y1,l⟩:Stn)=⟨i2,x2,y2,m⟩)=decide (i1=i2∧x1=x2∧y1=y2∧l=m):=by rw [decide_eq_decide]; simp
  rw [hd]
  by_cases hg:i1=i2∧x1=x2∧y1=y2∧l.length=m.length
  · obtain ⟨g1,g2,g3,hlen⟩:=hg
    have hd2:decide (i1=i2∧x1=x2∧y1=y2∧l=m)=decide (l=m):=by rw [decide_eq_decide]; simp [g1,g2,g3]
    rw [hd2]
    have hlen':(l.length:Int)=(m.length:Int):=by omega
    ((refine Ax (And.intro @hlen' (And.intro @g1 (And.intro @g2 @g3))) ?_;repeat' first|exact True.intro|refine Cj.mk ?_ ?_)<;>intros<;>refine hD_ ?_)
    all_goals try (exfalso; omega)
    refine AWPC.loopI 5 l.length (fun i=>l.take i=m.take i) (by simp) ?_ ?_
    · (simp only [zN,zT,zV,zS,zU,vcC,lateX,ex,strp,binA,elems,cells,scalar,eqC,keyA,intsA,lookA,ofVs,mpOf,Nat.reduceBEq,reduceAdd,reduceSub,reduceLT,reduceLeDiff,reduceMul,reduceEqDiff,reduceIte]; try simp)
    · intro i hi hI
      by_cases hlt:i < l.length
      · have hx:(l.map Hgt.cs).getD i []=Hgt.cs (l.getD i hgt0):=row _ hlt
        have hy:(m.map Hgt.cs).getD i []=Hgt.cs (m.getD i hgt0):=row _ (by omega)
        have hk:l.getD i hgt0=m.getD i hgt0↔l.take (i+1)=m.take (i+1):=by
          rw [List.take_add_one,List.take_add_one,hI,getD_lt hgt0 hlt,getD_lt hgt0 (show i < m.length by omega)]; simp
        generalize l.getD i hgt0=x at hx hk
        generalize m.getD i hgt0=y at hy hk
        obtain ⟨x1,⟨x2,x3⟩⟩:=x
        obtain ⟨y1,⟨y2,y3⟩⟩:=y
        simp only [Hgt.mk.injEq,Sp.mk.injEq] at hk
        ((refine Ax (And.intro @hx @hy) ?_;repeat' first|exact True.intro|refine Cj.mk ?_ ?_)<;>intros<;>refine hD_ ?_)
        all_goals try (exfalso; omega)
        · rename_i h
          rw [decide_eq_false fun e=>by
            have:=hk.2 (by rw [e])
            omega]
          exact Frz.eq rfl (by simp)
        · rename_i h
          exact ⟨⟨i+1,hlt,hk.1 (by omega)⟩,by simp,by simp only; omega⟩
      · obtain rfl:i=l.length:=by omega
        ((refine Au ?_;repeat' first|exact True.intro|refine Cj.mk ?_ ?_)<;>intros<;>refine hD_ ?_)
        all_goals try (exfalso; omega)
        rw [List.take_length,hlen,List.take_length] at hI
        rw [decide_eq_true hI]
        exact Frz.eq rfl (by simp)
  · rw [decide_eq_false (fun h=>hg ⟨h.1,h.2.1,h.2.2.1,by rw [h.2.2.2]⟩)]
    ((refine Au ?_;repeat' first|exact True.intro|refine Cj.mk ?_ ?_)<;>intros<;>refine hD_ ?_)
    all_goals try (exfalso; omega)
    all_goals exact Frz.eq rfl (by simp)
theorem sameStns (a b:List Stn) (ha:stnSz a) (hb:stnSz b):Pure Tryz.prog 38 [snS a,snS b] (bl (decide (a=b))):=by
  refine Pure.of_body Tryz.call38 Tryz.func38 k38 (Nat.le_of_ble_eq_true rfl) ?_
  unfold c38
  have ha0:=ha.1
  have hb0:=hb.1
  by_cases hlen:a.length=b.length
  · have hlen':(a.length:Int)=(b.length:Int):=by omega
    ((refine Ax @hlen' ?_;repeat' first|exact True.intro|refine Cj.mk ?_ ?_)<;>intros<;>refine hD_ ?_)
    all_goals try (exfalso; omega)
    refine AWPC.loopI 5 a.length (fun i=>a.take i=b.take i) (by simp) ?_ ?_
    · (simp only [zN,zT,zV,zS,zU,vcC,lateX,ex,strp,binA,elems,cells,scalar,eqC,keyA,intsA,lookA,ofVs,mpOf,Nat.reduceBEq,reduceAdd,reduceSub,reduceLT,reduceLeDiff,reduceMul,reduceEqDiff,reduceIte]; try simp)
    · intro i hi hI
      by_cases hlt:i < a.length
      · have hx:(a.map Stn.cs).getD i []=Stn.cs (a.getD i default):=row _ hlt
        have hy:(b.map Stn.cs).getD i []=Stn.cs (b.getD i default):=row _ (by omega)
        have hk:a.getD i default=b.getD i default↔a.take (i+1)=b.take (i+1):=by
          rw [List.take_add_one,List.take_add_one,hI,getD_lt default hlt,getD_lt default (show i < b.length by omega)]; simp
        have hc:=sameStn_spec (a.getD i default) (b.getD i default) (ha.2 _ (List.mem_of_getElem? (getD_lt default hlt))) (hb.2 _ (List.mem_of_getElem? (getD_lt default (show i < b.length by omega))))
        by_cases e:a.getD i default=b.getD i default
        · rw [decide_eq_true e] at hc
          have hN:=hk.1 e
          generalize a.getD i default=x at hx hc
          generalize b.getD i default=y at hy hc
          ((refine Az (And.intro @hx @hy) @hc ?_;repeat' first|exact True.intro|refine Cj.mk ?_ ?_)<;>intros<;>refine hD_ ?_)
          all_goals try (exfalso; omega)
          exact ⟨⟨i+1,hlt,hN⟩,by simp,by simp only; omega⟩
        · rw [decide_eq_false e] at hc
          rw [decide_eq_false (fun h:a=b=>e (by rw [h]))]
          generalize a.getD i default=x at hx hc
          generalize b.getD i default=y at hy hc
          ((refine Az (And.intro @hx @hy) @hc ?_;repeat' first|exact True.intro|refine Cj.mk ?_ ?_)<;>intros<;>refine hD_ ?_)
          all_goals try (exfalso; omega)
          exact Frz.eq rfl (by simp)
      · obtain rfl:i=a.length:=by omega
        ((refine Au ?_;repeat' first|exact True.intro|refine Cj.mk ?_ ?_)<;>intros<;>refine hD_ ?_)
        all_goals try (exfalso; omega)
        rw [List.take_length,hlen,List.take_length] at hI
        rw [decide_eq_true hI]
        exact Frz.eq rfl (by simp)
  · rw [decide_eq_false (fun h:a=b=>hlen (by rw [h]))]
    ((refine Au ?_;repeat' first|exact True.intro|refine Cj.mk ?_ ?_)<;>intros<;>refine hD_ ?_)
    all_goals try (exfalso; omega)
    all_goals exact Frz.eq rfl (by simp)
def fld0:Fld:=⟨nm0,0,0,sht0,[],[]⟩
def fldSz (f:Fld):Prop:=shtSz f.sheet∧f.marks.length < 9223372036854775808∧f.names.length < 9223372036854775808
def fldsSz (l:List Fld):Prop:=l.length < 9223372036854775808∧∀ f∈l,fldSz f
theorem sameFld (a b:List Fld) (ha:fldsSz a) (hb:fldsSz b):Pure Tryz.prog 40 [fdS a,fdS b] (bl (decide (a=b))):=by
  refine Pure.of_body Tryz.call40 Tryz.func40 k40 (Nat.le_of_ble_eq_true rfl) ?_
  unfold c40
  have ha0:=ha.1
  have hb0:=hb.1
  by_cases hlen:a.length=b.length
  · have hlen':(a.length:Int)=(b.length:Int):=by omega
    ((refine Ax @hlen' ?_;repeat' first|exact True.intro|refine Cj.mk ?_ ?_)<;>intros<;>refine hD_ ?_)
    all_goals try (exfalso; omega)
    refine AWPC.loopE (α:={ x:Nat × Sto // x.1≤a.length∧a.take x.1=b.take x.1 }) [5] (fun x=>[(5,n x.1.1)]) (fun x=>x.1.2) (fun x=>a.length - x.1.1) ⟨(0,[]),Nat.zero_le _,by simp⟩ ?_ rfl ?_
    · (simp only [zN,zT,zV,zS,zU,vcC,lateX,ex,strp,binA,elems,cells,scalar,eqC,keyA,intsA,lookA,ofVs,mpOf,Nat.reduceBEq,reduceAdd,reduceSub,reduceLT,reduceLeDiff,reduceMul,reduceEqDiff,reduceIte]; try simp)
    · rintro ⟨⟨i,μ⟩,hi,hI⟩
      simp only at hi hI
      by_cases hlt:i < a.length
      · have hx:(a.map Fld.cs).getD i []=Fld.cs (a.getD i fld0):=row _ hlt
        have hy:(b.map Fld.cs).getD i []=Fld.cs (b.getD i fld0):=row _ (by omega)
        have hk:a.getD i fld0=b.getD i fld0↔a.take (i+1)=b.take (i+1):=by
          rw [List.take_add_one,List.take_add_one,hI,getD_lt fld0 hlt,getD_lt fld0 (show i < b.length by omega)]; simp
        have xs:=ha.2 _ (List.mem_of_getElem? (getD_lt fld0 hlt))
        have ys:=hb.2 _ (List.mem_of_getElem? (getD_lt fld0 (show i < b.length by omega)))
        generalize a.getD i fld0=x at hx hk xs
        generalize b.getD i fld0=y at hy hk ys
        have c1:=rSameSheet_spec x.sheet y.sheet xs.1 ys.1
        have c2:=sameMk x.marks y.marks xs.2.1 ys.2.1
        have c3:=sameNm x.names y.names xs.2.2 ys.2.2
        have hk2:(x.name.clerk=y.name.clerk∧x.name.num=y.name.num)∧x.stn=y.stn∧x.week=y.week∧x.sheet=y.sheet∧x.marks=y.marks∧x.names=y.names↔a.take (i+1)=b.take (i+1):=by
          rw [← hk]
          obtain ⟨⟨n1,n2⟩,p1,p2,p3,p4,p5⟩:=x
          obtain ⟨⟨m1,m2⟩,q1,q2,q3,q4,q5⟩:=y
          simp
        by_cases d1:x.sheet=y.sheet
        · rw [decide_eq_true d1] at c1
          by_cases d2:x.marks=y.marks
          · rw [decide_eq_true d2] at c2
            by_cases d3:x.names=y.names
            · rw [decide_eq_true d3] at c3
              have hk3:(x.name.clerk=y.name.clerk∧x.name.num=y.name.num)∧x.stn=y.stn∧x.week=y.week↔a.take (i+1)=b.take (i+1):=by rw [← hk2]; simp [d1,d2,d3]
              clear hk hk2
              ((refine Az (And.intro @hx @hy) (And.intro @c1 (And.intro @c2 @c3)) ?_;repeat' first|exact True.intro|refine Cj.mk ?_ ?_)<;>intros<;>refine hD_ ?_)
              all_goals try (exfalso; omega)
              · rename_i h
                rw [decide_eq_false fun e=>by
                  have:=hk3.2 (by rw [e])
                  omega]
                exact Frz.eq rfl (by simp)
              · rename_i h
                exact ⟨⟨(i+1,μ++[some [⟨72,24,[x.cs],none⟩],some [⟨72,24,[y.cs],none⟩]]),hlt,hk3.1 (by omega)⟩,by simp,by simp,by simp only; omega⟩
            · rw [decide_eq_false d3] at c3
              rw [decide_eq_false (fun h:a=b=>d3 (hk2.2 (by rw [h])).2.2.2.2.2)]
              clear hk hk2
              ((refine Az (And.intro @hx @hy) (And.intro @c1 (And.intro @c2 @c3)) ?_;repeat' first|exact True.intro|refine Cj.mk ?_ ?_)<;>intros<;>refine hD_ ?_)
              all_goals try (exfalso; omega)
              all_goals exact Frz.eq rfl (by simp)
          · rw [decide_eq_false d2] at c2
            rw [decide_eq_false (fun h:a=b=>d2 (hk2.2 (by rw [h])).2.2.2.2.1)]
            clear hk hk2
            ((refine Az (And.intro @hx @hy) (And.intro @c1 (And.intro @c2 @c3)) ?_;repeat' first|exact True.intro|refine Cj.mk ?_ ?_)<;>intros<;>refine hD_ ?_)
            all_goals try (exfalso; omega)
            all_goals exact Frz.eq rfl (by simp)
        · rw [decide_eq_false d1] at c1
          rw [decide_eq_false (fun h:a=b=>d1 (hk2.2 (by rw [h])).2.2.2.1)]
          clear hk hk2
          ((refine Az (And.intro @hx @hy) (And.intro @c1 (And.intro @c2 @c3)) ?_;repeat' first|exact True.intro|refine Cj.mk ?_ ?_)<;>intros<;>refine hD_ ?_)
          all_goals try (exfalso; omega)
          all_goals exact Frz.eq rfl (by simp)
      · obtain rfl:i=a.length:=by omega
        ((refine Au ?_;repeat' first|exact True.intro|refine Cj.mk ?_ ?_)<;>intros<;>refine hD_ ?_)
        all_goals try (exfalso; omega)
        rw [List.take_length,hlen,List.take_length] at hI
        rw [decide_eq_true hI]
        exact Frz.eq rfl (by simp)
  · rw [decide_eq_false (fun h:a=b=>hlen (by rw [h]))]
    ((refine Au ?_;repeat' first|exact True.intro|refine Cj.mk ?_ ?_)<;>intros<;>refine hD_ ?_)
    all_goals try (exfalso; omega)
    all_goals exact Frz.eq rfl (by simp)
def rgrSz (r:Rgr):Prop:=fldsSz r.sheets∧r.reads.length < 9223372036854775808∧stnSz r.stns∧r.confl.length < 9223372036854775808
theorem sameRgr (a b:Rgr) (ha:rgrSz a) (hb:rgrSz b):Pure Tryz.prog 27 [.agg a.cs,.agg b.cs] (bl (decide (a=b))):=by
  refine Pure.of_body Tryz.call27 Tryz.func27 k27 (Nat.le_of_ble_eq_true rfl) ?_
  unfold c27
  have c1:=sameFld a.sheets b.sheets ha.1 hb.1
  have c2:=sameRd a.reads b.reads ha.2.1 hb.2.1
  have c3:=sameStns a.stns b.stns ha.2.2.1 hb.2.2.1
  have c4:=sameNm a.confl b.confl ha.2.2.2 hb.2.2.2
  have hd:decide (a=b)=(decide (a.sheets=b.sheets) && (decide (a.reads=b.reads) && (decide (a.stns=b.stns) && decide (a.confl=b.confl)))):=by
    rw [Bool.eq_iff_iff]
    cases a; cases b
    simp
  rw [hd]
  clear hd
  generalize decide (a.sheets=b.sheets)=z1 at c1
  generalize decide (a.reads=b.reads)=z2 at c2
  generalize decide (a.stns=b.stns)=z3 at c3
  generalize decide (a.confl=b.confl)=z4 at c4
  clear ha hb
  ((refine Ay (And.intro @c1 (And.intro @c2 (And.intro @c3 @c4))) ?_;repeat' first|exact True.intro|refine Cj.mk ?_ ?_)<;>intros<;>refine hD_ ?_)
  all_goals exact Frz.eq (congrArg bl (by cases z1 <;> cases z2 <;> cases z3 <;> cases z4 <;> rfl)) (by simp)
def c33:CF:=⟨39,(jo [jx 1 60 18 0,jb 2 false] [1]
 (jo [jf 3 10 1,jl 4 3,je 5 4,ju .leq 6 5 40,jm 7 6,jd 7 (jf 8 10 1),jd 7 (jl 9 8),jd 7 (je 10 9),jd 7 (ju .gtr 11 10 2000),jd 7 (jm 12 11),ja 12 (jf 13 10 1),ja 12 (jl 14 13),ja 12 (je 15 14),ja 12 (ju .leq 16 15 4000),jd 7 (jp 17 12 16),jq 18 7 17,jm 19 18,ja 19 (jf 20 11 1),ja 19 (jl 21 20),ja 19 (je 22 21),ja 19 (ju .leq 23 22 250),jp 24 19 23,jm 25 24,ja 25 (jf 26 12 1),ja 25 (jf 27 0 26),ja 25 (jl 28 27),ja 25 (je 29 28),ja 25 (ju .leq 30 29 250),jp 31 25 30,jm 32 31,ja 32 (jf 33 12 1),ja 32 (jf 34 1 33),ja 32 (jl 35 34),ja 32 (je 36 35),ja 32 (ju .leq 37 36 40),jp 38 32 37,jm 2 38] [2]
 .ret)),[.t 2]⟩
theorem k33:chkF Tryz.prog Tryz.f33 c33=true:=by kernel_rfl
def c19:CF:=⟨35,(jo [jx 1 26 6 0,jb 2 false] [1]
 (.seq (jo [jf 4 0 1,jl 5 4,je 6 5,ju .gtr 7 6 8,jm 8 7,ja 8 (jf 9 0 1),ja 8 (jl 10 9),ja 8 (je 11 10),ja 8 (ju .leq 12 11 32),jp 13 8 12,jm 14 13,jd 14 (jf 15 0 1),jd 14 (jl 16 15),jd 14 (je 17 16),jd 14 (ju .gtr 18 17 100),jq 19 14 18] [1,19]
 (.cond (.t 19) (jo [jb 2 false] [2]
 .ret)
 .skip))
 (.seq (jo [jc 3 0] [1,3]
 (.block 0 (.loop (.seq (jo [jm 20 3,jf 21 0 1,jl 22 21,je 23 22,jt .lss 24 20 23] [1,3,24]
 (.cond (.t 24) .skip
 (.exit 0)))
 (.seq (.block 1 (jo [jf 27 0 1,jl 28 27,jm 29 3,ji 30 4 28 29,jf 31 3 30,jl 32 31,je 33 32,ju .gtr 34 33 40] [1,3,34]
 (.cond (.t 34) (jo [jb 2 false] [2]
 .ret)
 .skip)))
 (.ops [jm 25 3,ju .add 26 25 1,jm 3 26] [1,3]))))))
 (jo [jb 2 true] [2]
 .ret)))),[.t 2]⟩
theorem k19:chkF Tryz.prog Tryz.f19 c19=true:=by kernel_rfl
def c20:CF:=⟨30,(jo [jb 2 false] [0]
 (.seq (jo [jm 4 0,je 5 4,ju .gtr 6 5 40,jm 7 6,ja 7 (jm 8 0),ja 7 (je 9 8),ja 7 (ju .leq 10 9 400),jp 11 7 10,jm 12 11,jd 12 (jm 13 0),jd 12 (je 14 13),jd 12 (ju .gtr 15 14 800),jq 16 12 15] [0,16]
 (.cond (.t 16) (jo [jb 2 false] [2]
 .ret)
 .skip))
 (.seq (jo [jc 3 0] [0,3]
 (.block 0 (.loop (.seq (jo [jm 17 3,jm 18 0,je 19 18,jt .lss 20 17 19] [0,3,20]
 (.cond (.t 20) .skip
 (.exit 0)))
 (.seq (.block 1 (jo [jm 23 0,jm 24 3,ji 25 38 23 24,jf 26 7 25,jk 27 18 26,jy 28 33 [27],jv 29 28] [0,3,29]
 (.cond (.t 29) (jo [jb 2 false] [2]
 .ret)
 .skip)))
 (.ops [jm 21 3,ju .add 22 21 1,jm 3 22] [0,3]))))))
 (jo [jb 2 true] [2]
 .ret)))),[.t 2]⟩
theorem k20:chkF Tryz.prog Tryz.f20 c20=true:=by kernel_rfl
def slightB (s:Sht):Bool:=(decide (s.trace.length≤40) || (decide (2000 < s.trace.length) && decide (s.trace.length≤4000))) && decide (s.blots.length≤250) && decide (s.rates.length≤250) && decide (s.stops.length≤40)
def smallB (b:Bse):Bool:=!((decide (8 < b.stns.length) && decide (b.stns.length≤32)) || decide (100 < b.stns.length)) && b.stns.all fun s=>decide (s.heights.length≤40)
def fewB (l:List Nt):Bool:=!((decide (40 < l.length) && decide (l.length≤400)) || decide (800 < l.length)) && l.all fun a=>slightB a.sheet
theorem slight_spec (s:Sht):Pure Tryz.prog 33 [.agg s.cs] (bl (slightB s)):=by
  refine Pure.of_body Tryz.call33 Tryz.func33 k33 (Nat.le_of_ble_eq_true rfl) ?_
  unfold c33
  ((refine Au ?_;repeat' first|exact True.intro|refine Cj.mk ?_ ?_)<;>intros<;>refine hD_ ?_)
  refine Frz.eq (congrArg bl ?_) (by simp)
  unfold slightB
  rw [Bool.eq_iff_iff]
  simp only [Bool.and_eq_true,Bool.or_eq_true,decide_eq_true_eq]
  omega
theorem small_spec (b:Bse) (hb:bseSz b):Pure Tryz.prog 19 [.agg b.cs] (bl (smallB b)):=by
  refine Pure.of_body Tryz.call19 Tryz.func19 k19 (Nat.le_of_ble_eq_true rfl) ?_
  unfold c19
  have h1:=hb.1
  by_cases hbig:(8 < b.stns.length∧b.stns.length≤32)∨100 < b.stns.length
  · have hE:smallB b=false:=by
      unfold smallB
      have:((decide (8 < b.stns.length) && decide (b.stns.length≤32)) || decide (100 < b.stns.length))=true:=by simpa using hbig
      rw [this]; rfl
    rw [hE]
    ((refine Au ?_;repeat' first|exact True.intro|refine Cj.mk ?_ ?_)<;>intros<;>refine hD_ ?_)
    all_goals first | (exfalso; omega) | exact Frz.eq rfl (by simp)
  · have hE:smallB b=b.stns.all fun s=>decide (s.heights.length≤40):=by
      unfold smallB
      have:((decide (8 < b.stns.length) && decide (b.stns.length≤32)) || decide (100 < b.stns.length))=false:=by rw [Bool.eq_false_iff]; simpa using hbig
      rw [this]; rfl
    rw [hE]
    ((refine Au ?_;repeat' first|exact True.intro|refine Cj.mk ?_ ?_)<;>intros<;>refine hD_ ?_)
    all_goals try (exfalso; omega)
    refine AWPC.loopI 3 b.stns.length (fun i=>((b.stns.drop i).all fun s=>decide (s.heights.length≤40))=b.stns.all fun s=>decide (s.heights.length≤40)) (by simp) ?_ ?_
    · (simp only [zN,zT,zV,zS,zU,vcC,lateX,ex,strp,binA,elems,cells,scalar,eqC,keyA,intsA,lookA,ofVs,mpOf,Nat.reduceBEq,reduceAdd,reduceSub,reduceLT,reduceLeDiff,reduceMul,reduceEqDiff,reduceIte]; try simp)
    · intro i hi hI
      by_cases hlt:i < b.stns.length
      · obtain ⟨x,hx⟩:∃ x,b.stns[i]?=some x:=⟨_,List.getElem?_eq_getElem hlt⟩
        have hh:=hb.2 x (List.mem_of_getElem? hx)
        rw [drop_cons hx,List.all_cons] at hI
        (repeat' ((first
 | refine vn rfl ?_
 | simp (disch:=omega) only [wr64,Int.zero_sub]
 | refine bo (fun _=>?_) fun _=>?_
 | refine im fun _=>?_
 | refine cF ?_
 | refine om ?_
 | refine an ?_
 | fail) <;> try simp only [zN, zT, zV, zS, zU, vcC, lateX, ex, strp, binA, elems, cells, scalar, eqC, keyA, intsA, lookA, ofVs, mpOf, Nat.reduceBEq, reduceAdd, reduceSub, reduceLT, reduceLeDiff, reduceMul, reduceEqDiff, reduceIte, getD_map hx]))
        all_goals try (exfalso; omega)
        · rename_i h
          rw [show decide (x.heights.length≤40)=false by simp; omega,Bool.false_and] at hI
          rw [← hI]
          exact Frz.eq rfl (by simp)
        · rename_i h
          rw [show decide (x.heights.length≤40)=true by simp; omega,Bool.true_and] at hI
          exact ⟨⟨i+1,hlt,hI⟩,by simp,by simp only; omega⟩
      · obtain rfl:i=b.stns.length:=by omega
        rw [List.drop_length,List.all_nil] at hI
        ((refine Au ?_;repeat' first|exact True.intro|refine Cj.mk ?_ ?_)<;>intros<;>refine hD_ ?_)
        all_goals try (exfalso; omega)
        rw [← hI]
        exact Frz.eq rfl (by simp)
theorem few_spec (l:List Nt) (hl:l.length < 9223372036854775808):Pure Tryz.prog 20 [ntS l] (bl (fewB l)):=by
  refine Pure.of_body Tryz.call20 Tryz.func20 k20 (Nat.le_of_ble_eq_true rfl) ?_
  unfold c20
  by_cases hbig:(40 < l.length∧l.length≤400)∨800 < l.length
  · have hE:fewB l=false:=by
      unfold fewB
      have:((decide (40 < l.length) && decide (l.length≤400)) || decide (800 < l.length))=true:=by simpa using hbig
      rw [this]; rfl
    rw [hE]
    ((refine Au ?_;repeat' first|exact True.intro|refine Cj.mk ?_ ?_)<;>intros<;>refine hD_ ?_)
    all_goals first | (exfalso; omega) | exact Frz.eq rfl (by simp)
  · have hE:fewB l=l.all fun a=>slightB a.sheet:=by
      unfold fewB
      have:((decide (40 < l.length) && decide (l.length≤400)) || decide (800 < l.length))=false:=by rw [Bool.eq_false_iff]; simpa using hbig
      rw [this]; rfl
    rw [hE]
    ((refine Au ?_;repeat' first|exact True.intro|refine Cj.mk ?_ ?_)<;>intros<;>refine hD_ ?_)
    all_goals try (exfalso; omega)
    refine AWPC.loopI 3 l.length (fun i=>((l.drop i).all fun a=>slightB a.sheet)=l.all fun a=>slightB a.sheet) (by simp) ?_ ?_
    · (simp only [zN,zT,zV,zS,zU,vcC,lateX,ex,strp,binA,elems,cells,scalar,eqC,keyA,intsA,lookA,ofVs,mpOf,Nat.reduceBEq,reduceAdd,reduceSub,reduceLT,reduceLeDiff,reduceMul,reduceEqDiff,reduceIte]; try simp)
    · intro i hi hI
      by_cases hlt:i < l.length
      · obtain ⟨x,hx⟩:∃ x,l[i]?=some x:=⟨_,List.getElem?_eq_getElem hlt⟩
        rw [drop_cons hx,List.all_cons] at hI
        have hc:=slight_spec x.sheet
        cases hs:slightB x.sheet with
        | false =>
          rw [hs] at hI hc
          (repeat' ((first
 | refine vn rfl ?_
 | simp (disch:=omega) only [wr64,Int.zero_sub]
 | refine bo (fun _=>?_) fun _=>?_
 | refine im fun _=>?_
 | ((repeat refine si ?_); (first | ((first | refine .inl ⟨_,_,_,_,rfl,fun _=>pu hc,?_⟩ | refine ⟨_,_,_,_,rfl,fun _=>pu hc,?_⟩); (first | refine o1 ?_ | refine o2 ?_ | refine o3 ?_ | refine o4 ?_)) | refine .inl ⟨_,_,_,_,rfl,pu hc,?_⟩))
 | refine cF ?_
 | refine om ?_
 | refine an ?_
 | fail) <;> try simp only [zN, zT, zV, zS, zU, vcC, lateX, ex, strp, binA, elems, cells, scalar, eqC, keyA, intsA, lookA, ofVs, mpOf, Nat.reduceBEq, reduceAdd, reduceSub, reduceLT, reduceLeDiff, reduceMul, reduceEqDiff, reduceIte, getD_map hx]))
          all_goals try (exfalso; omega)
          rw [← hI]
          exact Frz.eq rfl (by simp)
        | true =>
          rw [hs] at hI hc
          rw [Bool.true_and] at hI
          (repeat' ((first
 | refine vn rfl ?_
 | simp (disch:=omega) only [wr64,Int.zero_sub]
 | refine bo (fun _=>?_) fun _=>?_
 | refine im fun _=>?_
 | ((repeat refine si ?_); (first | ((first | refine .inl ⟨_,_,_,_,rfl,fun _=>pu hc,?_⟩ | refine ⟨_,_,_,_,rfl,fun _=>pu hc,?_⟩); (first | refine o1 ?_ | refine o2 ?_ | refine o3 ?_ | refine o4 ?_)) | refine .inl ⟨_,_,_,_,rfl,pu hc,?_⟩))
 | refine cF ?_
 | refine om ?_
 | refine an ?_
 | fail) <;> try simp only [zN, zT, zV, zS, zU, vcC, lateX, ex, strp, binA, elems, cells, scalar, eqC, keyA, intsA, lookA, ofVs, mpOf, Nat.reduceBEq, reduceAdd, reduceSub, reduceLT, reduceLeDiff, reduceMul, reduceEqDiff, reduceIte, getD_map hx]))
          all_goals try (exfalso; omega)
          exact ⟨⟨i+1,hlt,hI⟩,by simp,by simp only; omega⟩
      · obtain rfl:i=l.length:=by omega
        rw [List.drop_length,List.all_nil] at hI
        ((refine Au ?_;repeat' first|exact True.intro|refine Cj.mk ?_ ?_)<;>intros<;>refine hD_ ?_)
        all_goals try (exfalso; omega)
        rw [← hI]
        exact Frz.eq rfl (by simp)
end Go.Proofs.YtolgelipcgcbhaaGreat
namespace Go.Abs
set_option linter.unusedVariables false
set_option linter.unusedSimpArgs false
theorem mks_mem {S:List Nt} {m:Nm} {k:Nt} (h:k∈mks S m):k∈S∧k.kind=2∧k.ref=m∧cnt S k=true:=by
  unfold mks at h
  rw [List.mem_filter] at h
  obtain ⟨h1,h2⟩:=h
  simp only [Bool.and_eq_true,kd_iff,onT,decide_eq_true_eq] at h2
  exact ⟨h1,h2.1,h2.2.1,h2.2.2⟩
theorem mks_len {S:List Nt} (hn:(S.map Nt.nm).Nodup) (m:Nm):(mks S m).length≤64:=by
  cases hl:(mks S m).getLast? with
  | none=>rw [List.getLast?_eq_none_iff] at hl; simp [hl]
  | some k =>
    obtain ⟨p,hp⟩:=List.getLast?_eq_some_iff.1 hl
    have hk:=mks_mem (List.mem_of_getLast? hl)
    have h0:S.filter (fun k=>kd 2 k && (onT m k && cnt S k))=p++k::[]:=hp
    obtain ⟨h1,_,_⟩:=bef_filter hn h0
    have hc:=hk.2.2.2
    unfold cnt at hc
    simp only [Bool.and_eq_true,decide_eq_true_eq] at hc
    have h2:p.length≤((bef S k).filter fun x=>kd 2 x && (onT k.ref x && mkd S x)).length:=by
      have e:p=((bef S k).filter fun x=>kd 2 x && (onT k.ref x && mkd S x)).filter (fun x=>cnt S x):=by
        rw [← h1,ff]
        refine List.filter_congr fun x hx=>?_
        rw [hk.2.2.1]
        unfold cnt
        cases kd 2 x <;> cases onT m x <;> cases mkd S x <;> simp
      rw [e]; exact List.length_filter_le _ _
    rw [show mks S m=p++[k] from hp,List.length_append,List.length_singleton]
    omega
end Go.Abs
