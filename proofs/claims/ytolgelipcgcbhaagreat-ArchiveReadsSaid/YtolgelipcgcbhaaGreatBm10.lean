/- Part 10 of the texts that the claim rests on: abstract values over the walk, and contracts of functions. -/
import Derived.Test.YtolgelipcgcbhaaGreatBm9
import Derived.Shelf.SortM.Plain
import Derived.Shelf.SortM.SortNone
import Derived.Test.YtolgelipcgcbhaaGreatProg
import Derived.Test.YtolgelipcgcbhaaGreatRows
namespace Go.Proofs.YtolgelipcgcbhaaGreat
open Go.Shelf
def Tryz.laysSlM5_f94_ren:Go.Shelf.Ren:=⟨fun | 5=>94 | 8=>162 | 7=>161 | 19=>207 | 20=>208 | 10=>198 | 11=>199 | 12=>200 | 13=>201 | 14=>202 | 15=>203 | 16=>204 | 17=>205 | 18=>206 | 30=>233 | 31=>234 | 32=>235 | 33=>236 | 34=>237 | 35=>168 | 40=>250 | n=>n,fun | 23=>52 | 25=>3 | 3=>3 | 32=>210 | 22=>52 | 0=>0 | 44=>254 | 46=>256 | 4=>4 | 36=>246 | 35=>245 | 41=>251 | 5=>5 | 9=>9 | 53=>285 | 57=>289 | 63=>299 | 64=>300 | n=>n,fun | n=>n⟩
theorem Tryz.laysSlM5_f94:Go.Proofs.SlLaysM.n5 Tryz.prog Tryz.laysSlM5_f94_ren:={
  mixed:=by kernel_rfl
  f5:=⟨Tryz.f94.name,by decide,Tryz.func94.trans (congrArg some (by kernel_rfl))⟩
  f7:=⟨Tryz.f161.name,by decide,Tryz.func161.trans (congrArg some (by kernel_rfl))⟩
  f8:=Tryz.func162.trans (congrArg some (by kernel_rfl))
  f10:=⟨Tryz.f198.name,by decide,Tryz.func198.trans (congrArg some (by kernel_rfl))⟩
  f11:=⟨Tryz.f199.name,by decide,Tryz.func199.trans (congrArg some (by kernel_rfl))⟩
  f12:=⟨Tryz.f200.name,by decide,Tryz.func200.trans (congrArg some (by kernel_rfl))⟩
  f13:=⟨Tryz.f201.name,by decide,Tryz.func201.trans (congrArg some (by kernel_rfl))⟩
  f14:=⟨Tryz.f202.name,by decide,Tryz.func202.trans (congrArg some (by kernel_rfl))⟩
  f15:=⟨Tryz.f203.name,by decide,Tryz.func203.trans (congrArg some (by kernel_rfl))⟩
  f16:=⟨Tryz.f204.name,by decide,Tryz.func204.trans (congrArg some (by kernel_rfl))⟩
  f17:=⟨Tryz.f205.name,by decide,Tryz.func205.trans (congrArg some (by kernel_rfl))⟩
  f18:=⟨Tryz.f206.name,by decide,Tryz.func206.trans (congrArg some (by kernel_rfl))⟩
  f19:=Tryz.func207.trans (congrArg some (by kernel_rfl))
  f20:=Tryz.func208.trans (congrArg some (by kernel_rfl))
  f30:=⟨Tryz.f233.name,by decide,Tryz.func233.trans (congrArg some (by kernel_rfl))⟩
  f31:=Tryz.func234.trans (congrArg some (by kernel_rfl))
  f32:=Tryz.func235.trans (congrArg some (by kernel_rfl))
  f33:=⟨Tryz.f236.name,by decide,Tryz.func236.trans (congrArg some (by kernel_rfl))⟩
  f34:=⟨Tryz.f237.name,by decide,Tryz.func237.trans (congrArg some (by kernel_rfl))⟩
  f35:=⟨Tryz.f168.name,by decide,Tryz.func168.trans (congrArg some (by kernel_rfl))⟩
  f40:=⟨Tryz.f250.name,by decide,Tryz.func250.trans (congrArg some (by kernel_rfl))⟩
  t0:=Tryz.underlying0
  a0:=Tryz.isAgg0
  z0:=Tryz.sizeOf0
  v0:=Tryz.zeroValue0
  t3:=Tryz.underlying3
  a3:=Tryz.isAgg3
  z3:=Tryz.sizeOf3
  v3:=Tryz.zeroValue3
  t4:=Tryz.underlying4
  a4:=Tryz.isAgg4
  z4:=Tryz.sizeOf4
  v4:=Tryz.zeroValue4
  t5:=Tryz.underlying5
  a5:=Tryz.isAgg5
  z5:=Tryz.sizeOf5
  v5:=Tryz.zeroValue5
  t9:=Tryz.underlying9
  a9:=Tryz.isAgg9
  z9:=Tryz.sizeOf9
  v9:=Tryz.zeroValue9
  t22:=Tryz.underlying52
  a22:=Tryz.isAgg52
  z22:=Tryz.sizeOf52
  v22:=Tryz.zeroValue52
  t23:=Tryz.underlying52
  a23:=Tryz.isAgg52
  z23:=Tryz.sizeOf52
  v23:=Tryz.zeroValue52
  t25:=Tryz.underlying3
  a25:=Tryz.isAgg3
  z25:=Tryz.sizeOf3
  v25:=Tryz.zeroValue3
  t32:=Tryz.underlying210
  a32:=Tryz.isAgg210
  z32:=Tryz.sizeOf210
  v32:=Tryz.zeroValue210
  t35:=Tryz.underlying245
  a35:=Tryz.isAgg245
  z35:=Tryz.sizeOf245
  v35:=Tryz.zeroValue245
  t36:=Tryz.underlying246
  a36:=Tryz.isAgg246
  z36:=Tryz.sizeOf246
  v36:=Tryz.zeroValue246
  t41:=Tryz.underlying251
  a41:=Tryz.isAgg251
  z41:=Tryz.sizeOf251
  v41:=Tryz.zeroValue251
  t44:=Tryz.underlying254
  a44:=Tryz.isAgg254
  z44:=Tryz.sizeOf254
  v44:=Tryz.zeroValue254
  t46:=Tryz.underlying256
  a46:=Tryz.isAgg256
  z46:=Tryz.sizeOf256
  v46:=Tryz.zeroValue256
  t53:=Tryz.underlying285
  a53:=Tryz.isAgg285
  z53:=Tryz.sizeOf285
  v53:=Tryz.zeroValue285
  t57:=Tryz.underlying289
  a57:=Tryz.isAgg289
  z57:=Tryz.sizeOf289
  v57:=Tryz.zeroValue289
  t63:=Tryz.underlying299
  a63:=Tryz.isAgg299
  z63:=Tryz.sizeOf299
  v63:=Tryz.zeroValue299
  t64:=Tryz.underlying300
  a64:=Tryz.isAgg300
  z64:=Tryz.sizeOf300
  v64:=Tryz.zeroValue300 }
open Go.Sort Go.RowKit Go.Proofs in
theorem Tryz.slices_Sort_int (blk off cap:Nat) (zs:List Int) (w:World) (hH:Holds (Value.int .i64) w blk off zs.toArray) (hblk:blk < w.heap.size) (hsz:zs.length < 4611686018427387904) :
    Calls Tryz.prog 94 #[.slice (some ⟨blk,off,none⟩) zs.length cap] w fun e w' =>
      e=.returned (.tuple #[])∧∃ n os,w'=grow (putRow (Value.int .i64) (Sort.ahead w n) blk off (zs.mergeSort fun x y=>decide (x≤y)).toArray) os:=AnyM.slices_Sort_int Tryz.laysSlM5_f94 blk off cap zs w hH hblk hsz
open Go.RowKit Go.Sort Go.Proofs in
theorem Tryz.slices_Sort_int_none (p:Option Addr) (cap:Nat) (w:World) :
    Calls Tryz.prog 94 #[.slice p 0 cap] w fun e w'=>e=.returned (.tuple #[])∧w'=w:=AnyM.slices_Sort_int_none Tryz.laysSlM5_f94 p cap w
end Go.Proofs.YtolgelipcgcbhaaGreat
namespace Go.Proofs.YtolgelipcgcbhaaGreat
open Go.Abs
open Nat (reduceAdd reduceSub reduceLT reduceLeDiff reduceMul reduceEqDiff)
set_option linter.unusedVariables false
set_option linter.unusedSimpArgs false
set_option maxHeartbeats 4000000
set_option maxRecDepth 100000
def c95:CF:=⟨61,(jo [jn 2] [0]
 (.seq (jo [jm 6 0,je 7 6,ju .lss 8 7 2] [0,8]
 (.cond (.t 8) (jo [jm 9 0,jm 2 9] [2]
 .ret)
 .skip))
 (.seq (jo [jc 3 1] [0,3]
 (.block 0 (.loop (.seq (jo [jm 10 3,jm 11 0,je 12 11,jt .lss 13 10 12] [0,3,13]
 (.cond (.t 13) .skip
 (.exit 0)))
 (.seq (.block 1 (.seq (.draw [jm 16 0,jm 17 3,ji 18 1 16 17,jl 19 18,jm 20 0,jm 21 3,ju .sub 22 21 1,ji 23 1 20 22,jl 24 23,jt .eql 25 19 24] [] [0,3,25])
 (.cond (.t 25) (jo [jm 26 0,jm 27 3,jw 28 (.subs 1 (.t 26) (.t 27)),jm 4 28] [0,3,4]
 (.seq (jo [jc 5 1] [0,3,4,5]
 (.block 2 (.loop (.seq (jo [jm 29 5,jm 30 4,je 31 30,jt .lss 32 29 31] [0,3,4,5,32]
 (.cond (.t 32) .skip
 (.exit 2)))
 (.seq (.block 3 (.seq (.draw [jm 35 4,jm 36 5,ji 37 1 35 36,jl 38 37,jm 39 4,jm 40 5,ju .sub 41 40 1,ji 42 1 39 41,jl 43 42,jt .neq 44 38 43] [] [0,3,4,5,44])
 (.cond (.t 44) (jo [jm 45 0,jm 46 3,jm 47 4,jm 48 5,ji 49 1 47 48,jl 50 49,ji 51 1 45 46,js 1 51 50] [0,3,4,5]
 (.ops [jm 52 3,ju .add 53 52 1,jm 3 53] [0,3,4,5]))
 .skip)))
 (.ops [jm 33 5,ju .add 34 33 1,jm 5 34] [0,3,4,5]))))))
 (jo [jm 54 0,jm 55 3,jw 56 (.subs 1 (.t 54) (.t 55)),⟨none,.clr 3 1 [.int .i64 0] (.t 56),none⟩] [0,3]
 (jo [jm 57 0,jm 58 3,jw 59 (.slice 1 (.t 57) none (some (.t 58))),jm 2 59] [2]
 .ret))))
 .skip)))
 (.ops [jm 14 3,ju .add 15 14 1,jm 3 15] [0,3]))))))
 (jo [jm 60 0,jm 2 60] [2]
 .ret)))),[.t 2]⟩
theorem k95:chkF Tryz.prog Tryz.f95 c95=true:=by kernel_rfl
def c36:CF:=⟨39,(jo [jx 1 37 4 0,jn 2,jc 3 0] [1]
 (jo [jn 4] [1,4]
 (.seq (jo [jf 9 0 1,jl 10 9,je 11 10,jc 12 0] [1,4,10,11,12]
 (.block 0 (.loop (jo [jt .lss 13 12 11] [1,4,10,11,12,13]
 (.seq (.cond (.t 13) .skip
 (.exit 0))
 (.seq (.block 1 (jo [ji 14 24 10 12,jk 15 24 14,jw 6 (.alloc 72 24 z24),js 24 6 15] [1,4,6,10,11,12]
 (.ops [jm 16 4,jf 17 3 6,jl 18 17,jw 19 (.bsl false 3 1 1 [.int .i64 0] [(0,1,(.t 18))]),jw 20 (.app 3 1 8 (.t 16) (.t 19)),jm 4 20] [1,4,10,11,12])))
 (.ops [ju .add 21 12 1,jm 12 21] [1,4,10,11,12])))))))
 (.seq (jo [jf 22 1 1,jl 23 22,je 24 23,jc 25 0] [4,23,24,25]
 (.block 2 (.loop (jo [jt .lss 26 25 24] [4,23,24,25,26]
 (.seq (.cond (.t 26) .skip
 (.exit 2))
 (.seq (.block 3 (jo [ji 27 5 23 25,jk 28 5 27,jw 8 (.alloc 64 5 [.int .i64 0,.int .i64 0,.int .i64 0,.int .i64 0,.int .i64 0]),js 5 8 28] [4,8,23,24,25]
 (.ops [jm 29 4,jf 30 1 8,jl 31 30,jw 32 (.bsl false 3 1 1 [.int .i64 0] [(0,1,(.t 31))]),jw 33 (.app 3 1 8 (.t 29) (.t 32)),jm 4 33] [4,23,24,25])))
 (.ops [ju .add 34 25 1,jm 25 34] [4,23,24,25])))))))
 (jo [jm 35 4,jy 36 94 [35]] [4]
 (jo [jm 37 4,jy 38 95 [37],jm 2 38,jc 3 0] [2,3]
 .ret)))))),[.t 2,.t 3]⟩
theorem k36:chkF Tryz.prog Tryz.f36 c36=true:=by kernel_rfl
theorem compI1_snoc (x:Int):∀ (r:List Int) (a:Int),compI1 a (r++[x])=if (r.getLast?).getD a=x then compI1 a r else compI1 a r++[x]
  | [],a=>by
    simp only [List.nil_append,compI1,List.getLast?_nil,Option.getD_none]
    by_cases h:a=x <;> simp [h]
  | b::r,a=>by
    have h:=compI1_snoc x r
    have e:((b::r).getLast?).getD a=(r.getLast?).getD b:=by
      cases r with
      | nil=>rfl
      | cons c s=>simp [List.getLast?_cons]
    rw [e]
    simp only [List.cons_append,compI1]
    by_cases hab:a=b
    · subst hab; rw [if_pos rfl,if_pos rfl,h]
    · rw [if_neg hab,if_neg hab,h]
      split <;> rfl
theorem compI_next {l:List Int} {j:Nat} (h0:0 < j) (hj:j < l.length):compI (l.take (j+1))=if l.getD (j - 1) 0=l.getD j 0 then compI (l.take j) else compI (l.take j)++[l.getD j 0]:=by
  cases l with
  | nil=>simp at hj
  | cons a r =>
    obtain ⟨i,rfl⟩:∃ i,j=i+1:=⟨j - 1,by omega⟩
    have hir:i < r.length:=by simpa using hj
    have e1:r.take (i+1)=r.take i++[r.getD i 0]:=by rw [List.take_add_one,getD_lt 0 hir]; rfl
    have e2:((r.take i).getLast?).getD a=(a::r).getD i 0:=by
      cases i with
      | zero=>rfl
      | succ i =>
        rw [List.take_add_one,getD_lt 0 (show i < r.length by omega)]
        simp
    rw [List.take_succ_cons,List.take_succ_cons]
    simp only [compI]
    rw [e1,compI1_snoc,e2]
    rfl
structure CmpS (l R:List Int) (k j:Nat):Prop where
  len:R.length=l.length
  pos:0 < k
  lt:k < j
  le:j≤l.length
  tk:R.take k=compI (l.take j)
  dr:R.drop (j - 1)=l.drop (j - 1)
theorem CmpS.get {l R:List Int} {k j:Nat} (h:CmpS l R k j) (i:Nat) (hi:j - 1≤i):R.getD i 0=l.getD i 0:=by
  have h1:(R.drop (j - 1))[i - (j - 1)]?=(l.drop (j - 1))[i - (j - 1)]?:=by rw [h.dr]
  rw [List.getElem?_drop,List.getElem?_drop,show j - 1+(i - (j - 1))=i by omega] at h1
  rw [List.getD_eq_getElem?_getD,List.getD_eq_getElem?_getD,h1]
theorem CmpS.drop1 {l R:List Int} {k j:Nat} (h:CmpS l R k j):R.drop j=l.drop j:=by
  have h1:(R.drop (j - 1)).drop 1=(l.drop (j - 1)).drop 1:=by rw [h.dr]
  have:=h.lt
  rw [List.drop_drop,List.drop_drop,show j - 1+1=j by omega] at h1
  exact h1
theorem CmpS.skip {l R:List Int} {k j:Nat} (h:CmpS l R k j) (hj:j < l.length) (e:l.getD (j - 1) 0=l.getD j 0):CmpS l R k (j+1) :=
  ⟨h.len,h.pos,by have:=h.lt; omega,hj,by rw [h.tk,compI_next (by have:=h.lt; omega) hj,if_pos e],by simpa using h.drop1⟩
theorem CmpS.keep {l R:List Int} {k j:Nat} (h:CmpS l R k j) (hj:j < l.length) (e:¬ l.getD (j - 1) 0=l.getD j 0):CmpS l (R.set k (l.getD j 0)) (k+1) (j+1):=by
  have hlt:=h.lt
  have hlen:=h.len
  refine ⟨by rw [List.length_set]; exact h.len,by omega,by omega,hj,?_,?_⟩
  · rw [List.take_add_one,List.getElem?_set_self (by omega),List.take_set_of_le (Nat.le_refl _),h.tk,compI_next (by omega) hj,if_neg e]; rfl
  · rw [Nat.add_sub_cancel,List.drop_set_of_lt (by omega)]; exact h.drop1
theorem CmpS.init {l:List Int} {k:Nat} (hk:0 < k) (hl:k < l.length) (h:compI (l.take k)=l.take k) (e:l.getD (k - 1) 0=l.getD k 0):CmpS l l k (k+1) :=
  ⟨rfl,hk,by omega,hl,by rw [compI_next hk hl,if_pos e,h],rfl⟩
theorem compact_does (σ:Sto) (f:Nat) (l:List Int) (hl:l.length < 9223372036854775808) (hf:σ.at f 0=some ⟨3,1,l.map (fun z=>[n z]),none⟩) :
    Does Tryz.prog 95 [.own f 0 l.length] σ (Left σ f (inS (compI l))):=by
  refine Does.of_body Tryz.call95 Tryz.func95 k95 (Nat.le_of_ble_eq_true rfl) ?_
  unfold c95
  by_cases h2:l.length < 2
  · have he:compI l=l:=by
      match l,h2 with
      | [],_=>rfl
      | [a],_=>rfl
    rw [he]
    refine AWPC.freeze1 (t:=0) (f:=f) (n:=l.length) (o:=⟨3,1,l.map (fun z=>[n z]),none⟩) rfl hf (by simp) (by simp) ?_
    ((refine Au ?_;repeat' first|exact True.intro|refine Cj.mk ?_ ?_)<;>intros<;>refine hD_ ?_)
    all_goals try (exfalso; omega)
    exact .mk [] rfl (by simp)
  · ((refine Ax @hf ?_;repeat' first|exact True.intro|refine Cj.mk ?_ ?_)<;>intros<;>refine hD_ ?_)
    all_goals try (exfalso; omega)
    refine AWPC.loopS (α:={ k:Nat // 0 < k∧k≤l.length∧compI (l.take k)=l.take k }) [3] (fun k=>[(3,n k.1)]) (fun k=>l.length - k.1) ⟨1,by omega,by omega,by cases l with | nil=>rfl | cons a r=>rfl⟩ ?_ ?_
    · (simp only [zN,zT,zV,zS,zU,vcC,lateX,ex,strp,binA,elems,cells,scalar,eqC,keyA,intsA,lookA,ofVs,mpOf,Nat.reduceBEq,reduceAdd,reduceSub,reduceLT,reduceLeDiff,reduceMul,reduceEqDiff,reduceIte]; try simp)
    · rintro ⟨k,hk0,hkl,hc⟩
      simp only at hk0 hkl hc ⊢
      by_cases hlt:k < l.length
      · have hs1:(l.map fun z:Int=>[n z]).getD k []=[n (l.getD k 0)]:=row (f:=fun z:Int=>[n z]) 0 hlt
        have hs0:(l.map fun z:Int=>[n z]).getD ((k:Int) - 1).toNat []=[n (l.getD (k - 1) 0)]:=rowPrev (f:=fun z:Int=>[n z]) 0 hlt
        by_cases e:l.getD (k - 1) 0=l.getD k 0
        · have hI:=CmpS.init hk0 hlt hc e
          rw [e] at hs0
          ((refine Ax (And.intro @hf (And.intro @hs1 @hs0)) ?_;repeat' first|exact True.intro|refine Cj.mk ?_ ?_)<;>intros<;>refine hD_ ?_)
          all_goals try (exfalso; omega)
          refine AWPC.loopE (α:={ x:Nat × Nat × List Int × Sto // 0 < x.2.1∧CmpS l x.2.2.1 x.1 (k+x.2.1) }) [3,5] (fun x=>[(3,n x.1.1),(5,n x.1.2.1)])
            (fun x=>σ.upd f 0 ⟨3,1,x.1.2.2.1.map (fun z=>[n z]),none⟩++x.1.2.2.2) (fun x=>l.length - k - x.1.2.1) ⟨(k,1,l,[]),Nat.one_pos,hI⟩ ?_ (by rw [upd_self hf,List.append_nil]) ?_
          · (simp only [zN,zT,zV,zS,zU,vcC,lateX,ex,strp,binA,elems,cells,scalar,eqC,keyA,intsA,lookA,ofVs,mpOf,Nat.reduceBEq,reduceAdd,reduceSub,reduceLT,reduceLeDiff,reduceMul,reduceEqDiff,reduceIte]; try simp)
          · rintro ⟨⟨i,j,R,μ⟩,hj0,hD⟩
            simp only at hj0 hD
            obtain ⟨U,hU⟩:∃ U,U=σ.upd f 0 ⟨3,1,R.map (fun z=>[n z]),none⟩:=⟨_,rfl⟩
            have hflt:=at_lt hf
            have hUl:List.length U=List.length σ:=by rw [hU,upd_length]
            have hA:∀ μ,Sto.at (U++μ) f 0=some ⟨3,1,R.map (fun z=>[n z]),none⟩:=fun μ=>by rw [at_appL (by omega),hU,at_upd_same hf]
            have hB:∀ o μ,Sto.upd (U++μ) f 0 o=σ.upd f 0 o++μ:=fun o μ=>by rw [upd_appL (by omega),hU,upd_upd hf]
            simp only [← hU]
            have hRl:=hD.len
            have hi1:=hD.lt
            by_cases hlt:k+j < l.length
            · have hr1:(R.map fun z:Int=>[n z]).getD (k+j) []=[n (R.getD (k+j) 0)]:=row (f:=fun z:Int=>[n z]) 0 (by omega)
              have hr0:(R.map fun z:Int=>[n z]).getD (k+((j:Int) - 1).toNat) []=[n (R.getD (k+j - 1) 0)]:=by
                rw [show k+((j:Int) - 1).toNat=k+j - 1 by omega]
                exact row (f:=fun z:Int=>[n z]) 0 (by omega)
              rw [hD.get _ (by omega)] at hr1 hr0
              have hw:IntKind.i64.wrap ((j:Int) - 1)=(j:Int) - 1:=by simp (disch:=omega) only [wr64,Int.zero_sub]
              have hsi:(R.map fun z:Int=>[n z]).getD i []=[n (R.getD i 0)]:=row (f:=fun z:Int=>[n z]) 0 (by omega)
              have hset:(R.map fun z:Int=>[n z]).set i [n (l.getD (k+j) 0)]=(R.set i (l.getD (k+j) 0)).map fun z:Int=>[n z]:=by rw [List.map_set]
              by_cases e:l.getD (k+j - 1) 0=l.getD (k+j) 0
              · have hN:=hD.skip hlt e
                rw [e] at hr0
                ((refine Ax (And.intro @hA (And.intro @hB (And.intro @hw (And.intro @hr1 (And.intro @hr0 @hRl))))) ?_;repeat' first|exact True.intro|refine Cj.mk ?_ ?_)<;>intros<;>refine hD_ ?_)
                all_goals try (exfalso; omega)
                exact ⟨⟨(i,j+1,R,μ),by simp,hN⟩,by simp,by simp [hU],by simp only; omega⟩
              · have hN:=hD.keep hlt e
                have e':¬ l.getD (k+j) 0=l.getD (k+j - 1) 0:=fun h=>e h.symm
                ((refine Ax (And.intro @hA (And.intro @hB (And.intro @hw (And.intro @hr1 (And.intro @hr0 (And.intro @hRl (And.intro @hsi (And.intro @hset @e')))))))) ?_;repeat' first|exact True.intro|refine Cj.mk ?_ ?_)<;>intros<;>refine hD_ ?_)
                all_goals try (exfalso; omega)
                exact ⟨⟨(i+1,j+1,R.set i (l.getD (k+j) 0),μ),by simp,hN⟩,by simp,by simp,by simp only; omega⟩
            · have hjl:k+j=l.length:=by have:=hD.le; omega
              have hnl:¬ ((j:Int) < (l.length:Int) - (k:Int)):=by omega
              ((first
 | refine vn rfl ?_
 | simp (disch:=omega) only [wr64,Int.zero_sub]
 | refine bo (fun _=>?_) fun _=>?_
 | refine im fun _=>?_
 | refine cF ?_
 | refine om ?_
 | refine an ?_
 | fail) <;> try simp only [zN, zT, zV, zS, zU, vcC, lateX, ex, strp, binA, elems, cells, scalar, eqC, keyA, intsA, lookA, ofVs, mpOf, Nat.reduceBEq, reduceAdd, reduceSub, reduceLT, reduceLeDiff, reduceMul, reduceEqDiff, reduceIte, hA, hRl, hnl, List.length_map])
              ((first
 | refine vn rfl ?_
 | simp (disch:=omega) only [wr64,Int.zero_sub]
 | refine bo (fun _=>?_) fun _=>?_
 | refine im fun _=>?_
 | refine cF ?_
 | refine om ?_
 | refine an ?_
 | fail) <;> try simp only [zN, zT, zV, zS, zU, vcC, lateX, ex, strp, binA, elems, cells, scalar, eqC, keyA, intsA, lookA, ofVs, mpOf, Nat.reduceBEq, reduceAdd, reduceSub, reduceLT, reduceLeDiff, reduceMul, reduceEqDiff, reduceIte, hA, hRl, hnl, List.length_map])
              ((first
 | refine vn rfl ?_
 | simp (disch:=omega) only [wr64,Int.zero_sub]
 | refine bo (fun _=>?_) fun _=>?_
 | refine im fun _=>?_
 | refine cF ?_
 | refine om ?_
 | refine an ?_
 | fail) <;> try simp only [zN, zT, zV, zS, zU, vcC, lateX, ex, strp, binA, elems, cells, scalar, eqC, keyA, intsA, lookA, ofVs, mpOf, Nat.reduceBEq, reduceAdd, reduceSub, reduceLT, reduceLeDiff, reduceMul, reduceEqDiff, reduceIte, hA, hRl, hnl, List.length_map])
              ((first
 | refine vn rfl ?_
 | simp (disch:=omega) only [wr64,Int.zero_sub]
 | refine bo (fun _=>?_) fun _=>?_
 | refine im fun _=>?_
 | refine cF ?_
 | refine om ?_
 | refine an ?_
 | fail) <;> try simp only [zN, zT, zV, zS, zU, vcC, lateX, ex, strp, binA, elems, cells, scalar, eqC, keyA, intsA, lookA, ofVs, mpOf, Nat.reduceBEq, reduceAdd, reduceSub, reduceLT, reduceLeDiff, reduceMul, reduceEqDiff, reduceIte, hA, hRl, hnl, List.length_map])
              ((first
 | refine vn rfl ?_
 | simp (disch:=omega) only [wr64,Int.zero_sub]
 | refine bo (fun _=>?_) fun _=>?_
 | refine im fun _=>?_
 | refine cF ?_
 | refine om ?_
 | refine an ?_
 | fail) <;> try simp only [zN, zT, zV, zS, zU, vcC, lateX, ex, strp, binA, elems, cells, scalar, eqC, keyA, intsA, lookA, ofVs, mpOf, Nat.reduceBEq, reduceAdd, reduceSub, reduceLT, reduceLeDiff, reduceMul, reduceEqDiff, reduceIte, hA, hB, hRl, List.length_map])
              have hm1:(List.take i (R.map fun z:Int=>[n z])).length=i:=by rw [List.length_take,List.length_map]; omega
              have hfin:R.take i=compI l:=by rw [hD.tk,hjl,List.take_length]
              refine AWPC.freeze1 (t:=0) (f:=f) (n:=l.length) (o:=⟨3,1,List.take i (R.map fun z=>[n z])++List.replicate (l.length - i) [n 0],none⟩) rfl (by rw [at_appL (by rw [upd_length]; omega),at_upd_same hf])
                (by simp only [List.length_append,hm1,List.length_replicate]; omega) (by simp) ?_
              have hlen2:((List.take i (R.map fun z:Int=>[n z])++List.replicate (l.length - i) [n 0]).length:Int)=l.length:=by simp only [List.length_append,hm1,List.length_replicate]; omega
              have htk2:List.take i (List.take i (R.map fun z:Int=>[n z])++List.replicate (l.length - i) [n 0])=(compI l).map fun z:Int=>[n z]:=by
                rw [List.take_append_of_le_length (by omega),List.take_take,Nat.min_self,← List.map_take,hfin]
              generalize List.take i (R.map fun z:Int=>[n z])++List.replicate (l.length - i) [n 0]=es at hlen2 htk2
              ((refine Ax (And.intro @hlen2 @htk2) ?_;repeat' first|exact True.intro|refine Cj.mk ?_ ?_)<;>intros<;>refine hD_ ?_)
              refine ⟨by simp [sideL,ov,gt,cnd],⟨by omega,by omega,by omega⟩,?_⟩
              ((refine Au ?_;repeat' first|exact True.intro|refine Cj.mk ?_ ?_)<;>intros<;>refine hD_ ?_)
              exact .mk μ rfl (gone_upd hf)
        · have e':¬ l.getD k 0=l.getD (k - 1) 0:=fun h=>e h.symm
          have hN:compI (l.take (k+1))=l.take (k+1):=by rw [compI_next hk0 hlt,if_neg e,hc,List.take_add_one,getD_lt 0 hlt]; rfl
          ((refine Ax (And.intro @hf (And.intro @hs1 (And.intro @hs0 @e'))) ?_;repeat' first|exact True.intro|refine Cj.mk ?_ ?_)<;>intros<;>refine hD_ ?_)
          all_goals try (exfalso; omega)
          exact ⟨⟨k+1,by omega,hlt,hN⟩,by simp,by simp only; omega⟩
      · obtain rfl:k=l.length:=by omega
        rw [List.take_length] at hc
        rw [hc]
        refine AWPC.freeze1 (t:=0) (f:=f) (n:=l.length) (o:=⟨3,1,l.map (fun z=>[n z]),none⟩) rfl hf (by simp) (by simp) ?_
        ((refine Au ?_;repeat' first|exact True.intro|refine Cj.mk ?_ ?_)<;>intros<;>refine hD_ ?_)
        all_goals try (exfalso; omega)
        exact .mk [] rfl (by simp)
theorem sortI_does (σ:Sto) (f:Nat) (l:List Int) (hf:σ.at f 0=some ⟨3,1,l.map (fun z=>[n z]),none⟩) (hl:l.length < 4611686018427387904) :
    Does Tryz.prog 94 [.own f 0 l.length] σ (fun _ σ'=>σ'=σ.upd f 0 ⟨3,1,(srtI l).map (fun z=>[n z]),none⟩) :=
  sort_ints Tryz.slices_Sort_int Tryz.slices_Sort_int_none Tryz.call94 σ f 3 l hf hl
theorem mapsnoc {α:Type} {g:α→Int} {l:List α} {i:Nat} (d:α) (h:i < l.length):(l.take (i+1)).map g=(l.take i).map g++[g (l.getD i d)]:=by rw [List.take_add_one,getD_lt d h]; simp
theorem Weeks_spec (r:Rgr) (hs:r.sheets.length < 1099511627776) (hr:r.reads.length < 1099511627776):Pure Tryz.prog 36 [.agg r.cs] (.tup [inS (weeksT r),n 0]):=by
  refine Pure.of_body Tryz.call36 Tryz.func36 k36 (Nat.le_of_ble_eq_true rfl) ?_
  unfold c36
  obtain ⟨d,hd⟩:∃ d:Fld,True:=⟨⟨nm0,0,0,sht0,[],[]⟩,trivial⟩
  ((refine Au ?_;repeat' first|exact True.intro|refine Cj.mk ?_ ?_)<;>intros<;>refine hD_ ?_)
  refine AWPC.own0 3 1 4 rfl ?_
  refine AWPC.loopE (α:={ x:Nat × List Int × Sto // x.1≤r.sheets.length∧x.2.1=(r.sheets.take x.1).map Fld.week }) [4,12] (fun x=>[(4,.own 0 0 x.1.2.1.length),(12,n x.1.1)])
    (fun x=>some [⟨3,1,x.1.2.1.map (fun z=>[n z]),none⟩]::x.1.2.2) (fun x=>r.sheets.length - x.1.1) ⟨(0,[],[]),Nat.zero_le _,rfl⟩ ?_ rfl ?_
  · (simp only [zN,zT,zV,zS,zU,vcC,lateX,ex,strp,binA,elems,cells,scalar,eqC,keyA,intsA,lookA,ofVs,mpOf,Nat.reduceBEq,reduceAdd,reduceSub,reduceLT,reduceLeDiff,reduceMul,reduceEqDiff,reduceIte]; try simp)
  · rintro ⟨⟨i,W,ν⟩,hi,hW⟩
    simp only at hi hW
    have hWl:W.length=i:=by rw [hW,List.length_map,List.length_take]; omega
    generalize hM:W.map (fun z=>[n z])=M
    have hMl:M.length=i:=by rw [← hM,List.length_map]; exact hWl
    simp only [hM]
    by_cases hlt:i < r.sheets.length
    · have hx:(r.sheets.map Fld.cs).getD i []=Fld.cs (r.sheets.getD i d):=row d hlt
      have hN:=mapsnoc (g:=Fld.week) d hlt
      rw [← hW] at hN
      generalize r.sheets.getD i d=x at hx hN
      ((refine Ax (And.intro @hx (And.intro @hMl @hWl)) ?_;repeat' first|exact True.intro|refine Cj.mk ?_ ?_)<;>intros<;>refine hD_ ?_)
      all_goals try (exfalso; omega)
      refine ⟨⟨(i+1,W++[x.week],ν++[some [⟨72,24,[x.cs],none⟩]]),hlt,hN.symm⟩,?_,?_,by simp only; omega⟩
      · simp [hWl]
      · simp [← hM]
    · obtain rfl:i=r.sheets.length:=by omega
      rw [List.take_length] at hW
      ((refine Ax @hWl ?_;repeat' first|exact True.intro|refine Cj.mk ?_ ?_)<;>intros<;>refine hD_ ?_)
      all_goals try (exfalso; omega)
      refine AWPC.loopE (α:={ x:Nat × List Int × Sto // x.1≤r.reads.length∧x.2.1=r.sheets.map Fld.week++(r.reads.take x.1).map Rd.week }) [4,25] (fun x=>[(4,.own 0 0 x.1.2.1.length),(25,n x.1.1)])
        (fun x=>some [⟨3,1,x.1.2.1.map (fun z=>[n z]),none⟩]::x.1.2.2) (fun x=>r.reads.length - x.1.1) ⟨(0,W,ν),Nat.zero_le _,by simp [hW]⟩ ?_ (by rw [← hM]) ?_
      · simp only [hWl]; (simp only [zN,zT,zV,zS,zU,vcC,lateX,ex,strp,binA,elems,cells,scalar,eqC,keyA,intsA,lookA,ofVs,mpOf,Nat.reduceBEq,reduceAdd,reduceSub,reduceLT,reduceLeDiff,reduceMul,reduceEqDiff,reduceIte]; try simp)
      · rintro ⟨⟨i,V,ν⟩,hi,hV⟩
        simp only at hi hV
        have hVl:V.length=r.sheets.length+i:=by rw [hV,List.length_append,List.length_map,List.length_map,List.length_take]; omega
        by_cases hlt:i < r.reads.length
        · generalize hM:V.map (fun z=>[n z])=M
          have hMl:M.length=r.sheets.length+i:=by rw [← hM,List.length_map]; exact hVl
          simp only [hM]
          have hx:(r.reads.map Rd.cs).getD i []=Rd.cs (r.reads.getD i rd0):=row rd0 hlt
          have hN:=mapsnoc (g:=Rd.week) rd0 hlt
          generalize r.reads.getD i rd0=x at hx hN
          ((refine Ax (And.intro @hx (And.intro @hMl @hVl)) ?_;repeat' first|exact True.intro|refine Cj.mk ?_ ?_)<;>intros<;>refine hD_ ?_)
          all_goals try (exfalso; omega)
          refine ⟨⟨(i+1,V++[x.week],ν++[some [⟨64,5,[x.cs],none⟩]]),hlt,by simp only; rw [hN,hV,List.append_assoc]⟩,?_,?_,by simp only; omega⟩
          · simp [hVl,Nat.add_assoc]
          · simp [← hM]
        · obtain rfl:i=r.reads.length:=by omega
          rw [List.take_length] at hV
          rw [show weeksT r=compI (srtI V) by rw [hV]; rfl]
          have hSl:(srtI V).length=V.length:=(srtI_perm V).length_eq
          ((refine Au ?_;repeat' first|exact True.intro|refine Cj.mk ?_ ?_)<;>intros<;>refine hD_ ?_)
          all_goals try (exfalso; omega)
          refine .inr (.inl ⟨_,_,_,_,rfl,fun _=>⟨sortI_does _ 0 V rfl (by omega),?_⟩,fun h=>by cases h⟩)
          rintro r1 σ1 rfl
          refine owp_of_exs ?_
          simp only [zN,zT,zV,zS,zU,vcC,lateX,ex,strp,binA,elems,cells,scalar,eqC,keyA,intsA,lookA,ofVs,mpOf,Nat.reduceBEq,reduceAdd,reduceSub,reduceLT,reduceLeDiff,reduceMul,reduceEqDiff,reduceIte]
          ((refine Au ?_;repeat' first|exact True.intro|refine Cj.mk ?_ ?_)<;>intros<;>refine hD_ ?_)
          refine .inr (.inl ⟨_,_,_,_,rfl,fun _=>⟨by rw [← hSl]; exact compact_does _ 0 (srtI V) (by omega) rfl,?_⟩,fun h=>by cases h⟩)
          rintro r1 σ1 ⟨ν1,rfl,rfl⟩
          refine owp_of_exs ?_
          simp only [zN,zT,zV,zS,zU,vcC,lateX,ex,strp,binA,elems,cells,scalar,eqC,keyA,intsA,lookA,ofVs,mpOf,Nat.reduceBEq,reduceAdd,reduceSub,reduceLT,reduceLeDiff,reduceMul,reduceEqDiff,reduceIte]
          ((refine Au ?_;repeat' first|exact True.intro|refine Cj.mk ?_ ?_)<;>intros<;>refine hD_ ?_)
          exact Frz.tupL ⟨Frz.pure (by simp),Frz.pure (by simp),trivial⟩
def c100:CF:=⟨10,(jo [jx 2 72 24 0,jx 3 72 24 1,jc 4 0] [2,3]
 (jo [jf 5 2 2,jl 6 5,jf 7 2 3,jl 8 7,jy 9 101 [6,8],jm 4 9] [4]
 .ret)),[.t 4]⟩
theorem k100:chkF Tryz.prog Tryz.f100 c100=true:=by kernel_rfl
def c213:CF:=⟨53,(jo [jm 10 1,ju .add 11 10 1,jm 8 11] [0,1,2,3,8]
 (.block 0 (.loop (.seq (jo [jm 12 8,jm 13 2,jt .lss 14 12 13] [0,1,2,3,8,14]
 (.cond (.t 14) .skip
 (.exit 0)))
 (.seq (.block 1 (jo [jm 17 8,jm 9 17] [0,1,2,3,8,9]
 (.block 2 (.loop (.seq (.seq (.draw [jm 18 9,jm 19 1,jt .gtr 20 18 19,jm 21 20,ja 21 (jm 22 3),ja 21 (jm 23 0),ja 21 (jm 24 9),ja 21 (ji 25 24 23 24),ja 21 (jk 26 24 25),ja 21 (jm 27 0),ja 21 (jm 28 9),ja 21 (ju .sub 29 28 1),ja 21 (ji 30 24 27 29),ja 21 (jk 31 24 30)] [⟨some 32,.call (.t 22) [(.t 26),(.t 31)],some (21,true)⟩,ja 21 (ju .lss 33 32 0),jp 34 21 33] [0,1,2,3,8,9,34])
 (.cond (.t 34) .skip
 (.exit 2)))
 (.seq (.block 3 (.draww [0,1,2,3,4,5,6,7,8,9,10,11,12,13,14,15,16,17] [2,3,4] 1 [jm 37 0,jm 38 9,jm 39 0,jm 40 9,ju .sub 41 40 1,jm 42 0,jm 43 9,ju .sub 44 43 1,ji 45 24 42 44,jk 46 24 45,jm 47 0,jm 48 9,ji 49 24 47 48,jk 50 24 49,ji 51 24 37 38] [js 24 51 46,ji 52 24 39 41,js 24 52 50] [0,1,2,3,8,9]))
 (.ops [jm 35 9,ju .sub 36 35 1,jm 9 36] [0,1,2,3,8,9])))))))
 (.ops [jm 15 8,ju .add 16 15 1,jm 8 16] [0,1,2,3,8])))))),[]⟩
theorem k213:chkF Tryz.prog Tryz.f213 c213=true:=by kernel_rfl
def c167:CF:=⟨63,(jo [jc 6 20] [0,1,2,6]
 (jo [jm 10 6,jc 7 0,jm 8 10] [0,1,2,6,7,8]
 (.seq (.block 0 (.loop (.seq (jo [jm 11 8,jm 12 1,jt .leq 13 11 12] [0,1,2,6,7,8,13]
 (.cond (.t 13) .skip
 (.exit 0)))
 (.block 1 (jo [jm 14 0,jm 15 7,jm 16 8,jm 17 2,jy 18 213 [14,15,16,17]] [0,1,2,6,8]
 (jo [jm 19 8,jm 7 19] [0,1,2,6,7,8]
 (.ops [jm 20 8,jm 21 6,jt .add 22 20 21,jm 8 22] [0,1,2,6,7,8])))))))
 (jo [jm 23 0,jm 24 7,jm 25 1,jm 26 2,jy 27 213 [23,24,25,26]] [0,1,2,6]
 (.block 2 (.loop (.seq (jo [jm 28 6,jm 29 1,jt .lss 30 28 29] [0,1,2,6,30]
 (.cond (.t 30) .skip
 (.exit 2)))
 (.block 3 (jo [jm 31 6,jw 32 (.bin .mul (.c (.int .i64 2)) (.t 31)),jc 7 0,jm 8 32] [0,1,2,6,7,8]
 (.seq (.block 4 (.loop (.seq (jo [jm 33 8,jm 34 1,jt .leq 35 33 34] [0,1,2,6,7,8,35]
 (.cond (.t 35) .skip
 (.exit 4)))
 (.block 5 (jo [jm 36 0,jm 37 7,jm 38 7,jm 39 6,jt .add 40 38 39,jm 41 8,jm 42 2,jy 43 214 [36,37,40,41,42]] [0,1,2,6,8]
 (jo [jm 44 8,jm 7 44] [0,1,2,6,7,8]
 (.ops [jm 45 8,jm 46 6,jw 47 (.bin .mul (.c (.int .i64 2)) (.t 46)),jt .add 48 45 47,jm 8 48] [0,1,2,6,7,8])))))))
 (.seq (jo [jm 49 7,jm 50 6,jt .add 51 49 50,jm 9 51] [0,1,2,6,7,9]
 (jo [jm 52 9,jm 53 1,jt .lss 54 52 53] [0,1,2,6,7,9,54]
 (.cond (.t 54) (.ops [jm 55 0,jm 56 7,jm 57 9,jm 58 1,jm 59 2,jy 60 214 [55,56,57,58,59]] [0,1,2,6])
 .skip)))
 (.ops [jm 61 6,ju .mul 62 61 2,jm 6 62] [0,1,2,6])))))))))))),[]⟩
theorem k167:chkF Tryz.prog Tryz.f167 c167=true:=by kernel_rfl
def c99:CF:=⟨9,(.ops [jm 4 0,jm 5 0,je 6 5,jm 7 1,jy 8 167 [4,6,7]] []),[]⟩
theorem k99:chkF Tryz.prog Tryz.f99 c99=true:=by kernel_rfl
def c37:CF:=⟨84,(jo [jx 3 26 6 0,jx 4 37 4 1,jw 6 (.alloc 86 9 [.slice none 0 0,.int .i64 0,.int .i64 0,.int .i64 0,.int .i64 0,.int .i64 0,.int .i64 0,.slice none 0 0,.slice none 0 0]),jc 7 0] [2,3,4,6]
 (.seq (jo [jk 14 6 3,jy 15 43 [14],jm 8 15] [2,3,4,6,8]
 (jo [jm 16 8,ju .neq 17 16 0] [2,3,4,6,8,17]
 (.cond (.t 17) (jo [jw 18 (.build [.slice none 0 0,.int .i64 0,.int .i64 0,.int .i64 0,.int .i64 0,.int .i64 0,.int .i64 0,.slice none 0 0,.slice none 0 0] []),jm 19 8,js 9 6 18,jm 7 19] [6,7]
 .ret)
 .skip)))
 (.seq (jo [jm 20 2,jw 21 (.call (.f 96) [(.t 20),(.c (.int .i64 0)),(.c (.int .i64 10000))]),jv 22 21] [2,3,4,6,22]
 (.cond (.t 22) (jo [jw 23 (.build [.slice none 0 0,.int .i64 0,.int .i64 0,.int .i64 0,.int .i64 0,.int .i64 0,.int .i64 0,.slice none 0 0,.slice none 0 0] []),js 9 6 23,jc 7 1] [6,7]
 .ret)
 .skip))
 (jo [jk 24 6 3,jm 25 2,jw 26 (.build [.slice none 0 0,.int .i64 0,.int .i64 0,.int .i64 0,.int .i64 0,.int .i64 0,.int .i64 0,.slice none 0 0,.slice none 0 0] [(0,6,(.t 24)),(6,1,(.t 25))]),jw 9 (.alloc 86 9 [.slice none 0 0,.int .i64 0,.int .i64 0,.int .i64 0,.int .i64 0,.int .i64 0,.int .i64 0,.slice none 0 0,.slice none 0 0]),js 9 9 26] [2,4,6,9]
 (jo [jf 27 2 4,jl 28 27,jy 29 97 [28],jf 30 0 9,jf 31 0 30,js 1 31 29] [2,4,6,9]
 (.seq (jo [jf 32 0 4,jl 33 32,je 34 33,jc 35 0] [2,4,6,9,33,34,35]
 (.block 0 (.loop (jo [jt .lss 36 35 34] [2,4,6,9,33,34,35,36]
 (.seq (.cond (.t 36) .skip
 (.exit 0))
 (.seq (.block 1 (jo [ji 37 24 33 35,jk 38 24 37,jw 11 (.alloc 72 24 z24),js 24 11 38] [2,4,6,9,11,33,34,35]
 (jo [jf 39 3 11,jl 40 39,jm 41 2,jt .eql 42 40 41] [2,4,6,9,11,33,34,35,42]
 (.cond (.t 42) (.draw [jf 43 7 9,jl 44 43,jk 45 24 11,jy 46 98 [45],jw 47 (.bsl false 72 24 1 z24 [(0,24,(.t 46))])] [jw 48 (.app 72 24 288 (.t 44) (.t 47)),jf 49 7 9,js 1 49 48] [2,4,6,9,33,34,35])
 .skip))))
 (.ops [ju .add 50 35 1,jm 35 50] [2,4,6,9,33,34,35])))))))
 (jo [jf 51 7 9,jl 52 51,jw 53 (.call (.f 99) [(.t 52),(.f 100)])] [2,4,6,9]
 (.seq (jo [jf 54 1 4,jl 55 54,je 56 55,jc 57 0] [2,6,9,55,56,57]
 (.block 2 (.loop (jo [jt .lss 58 57 56] [2,6,9,55,56,57,58]
 (.seq (.cond (.t 58) .skip
 (.exit 2))
 (.seq (.block 3 (jo [ji 59 5 55 57,jk 60 5 59,jw 13 (.alloc 64 5 [.int .i64 0,.int .i64 0,.int .i64 0,.int .i64 0,.int .i64 0]),js 5 13 60] [2,6,9,13,55,56,57]
 (jo [jf 61 1 13,jl 62 61,jm 63 2,jt .eql 64 62 63] [2,6,9,13,55,56,57,64]
 (.cond (.t 64) (.ops [jf 65 8 9,jl 66 65,jk 67 5 13,jw 68 (.bsl false 64 5 1 [.int .i64 0,.int .i64 0,.int .i64 0,.int .i64 0,.int .i64 0] [(0,5,(.t 67))]),jw 69 (.app 64 5 40 (.t 66) (.t 68)),jf 70 8 9,js 1 70 69] [2,6,9,55,56,57])
 .skip))))
 (.ops [ju .add 71 57 1,jm 57 71] [2,6,9,55,56,57])))))))
 (.seq (jo [jf 72 7 9,jl 73 72,je 74 73,ju .gtr 75 74 64,jm 76 75,jd 76 (jf 77 8 9),jd 76 (jl 78 77),jd 76 (je 79 78),jd 76 (ju .gtr 80 79 64),jq 81 76 80] [6,9,81]
 (.cond (.t 81) (jo [jw 82 (.build [.slice none 0 0,.int .i64 0,.int .i64 0,.int .i64 0,.int .i64 0,.int .i64 0,.int .i64 0,.slice none 0 0,.slice none 0 0] []),js 9 6 82,jc 7 2] [6,7]
 .ret)
 .skip))
 (jo [jk 83 9 9,js 9 6 83,jc 7 0] [6,7]
 .ret)))))))))),[.c 6 (some 9),.t 7]⟩
theorem k37:chkF Tryz.prog Tryz.f37 c37=true:=by kernel_rfl
theorem week1_spec (x y:Fld):Pure Tryz.prog 100 [.agg x.cs,.agg y.cs] (n (sgn x.stn y.stn)):=by
  refine Pure.of_body Tryz.call100 Tryz.func100 k100 (Nat.le_of_ble_eq_true rfl) ?_
  unfold c100
  ((refine Ay (Compare_spec x.stn y.stn) ?_;repeat' first|exact True.intro|refine Cj.mk ?_ ?_)<;>intros<;>refine hD_ ?_)
  exact Frz.eq rfl (by simp)
def SortF (K:List Fld→Prop):Prop:=∀ (σ:Sto) (f:Nat) (l:List Fld),K l→σ.at f 0=some ⟨72,24,l.map Fld.cs,none⟩ →
  Does Tryz.prog 99 [.own f 0 l.length,.fn (.func 100) [] []] σ (fun _ σ'=>σ'=σ.upd f 0 ⟨72,24,(srtF l).map Fld.cs,none⟩)
theorem insertion0 (σ:Sto) (f:Nat) (m:Nat) (hm:m≤1):Does Tryz.prog 213 [.own f 0 m,n 0,n m,.fn (.func 100) [] []] σ (fun _ σ'=>σ'=σ):=by
  refine Does.of_body Tryz.call213 Tryz.func213 k213 (Nat.le_of_ble_eq_true rfl) ?_
  unfold c213
  ((refine Au ?_;repeat' first|exact True.intro|refine Cj.mk ?_ ?_)<;>intros<;>refine hD_ ?_)
  refine AWPC.loopS (α:=Unit) [8] (fun _=>[(8,n 1)]) (fun _=>0) () ?_ ?_
  · (simp only [zN,zT,zV,zS,zU,vcC,lateX,ex,strp,binA,elems,cells,scalar,eqC,keyA,intsA,lookA,ofVs,mpOf,Nat.reduceBEq,reduceAdd,reduceSub,reduceLT,reduceLeDiff,reduceMul,reduceEqDiff,reduceIte]; try simp)
  · rintro ⟨⟩
    ((refine Au ?_;repeat' first|exact True.intro|refine Cj.mk ?_ ?_)<;>intros<;>refine hD_ ?_)
    all_goals first | (exfalso; omega) | rfl
theorem stable0 (σ:Sto) (f:Nat) (m:Nat) (hm:m≤1):Does Tryz.prog 167 [.own f 0 m,n m,.fn (.func 100) [] []] σ (fun _ σ'=>σ'=σ):=by
  refine Does.of_body Tryz.call167 Tryz.func167 k167 (Nat.le_of_ble_eq_true rfl) ?_
  unfold c167
  have hm1:¬ (20≤(m:Int)):=by omega
  have hm2:¬ (20 < (m:Int)):=by omega
  ((refine Au ?_;repeat' first|exact True.intro|refine Cj.mk ?_ ?_)<;>intros<;>refine hD_ ?_)
  refine AWPC.loopS (α:=Unit) [7,8] (fun _=>[(7,n 0),(8,n 20)]) (fun _=>0) () ?_ ?_
  · (simp only [zN,zT,zV,zS,zU,vcC,lateX,ex,strp,binA,elems,cells,scalar,eqC,keyA,intsA,lookA,ofVs,mpOf,Nat.reduceBEq,reduceAdd,reduceSub,reduceLT,reduceLeDiff,reduceMul,reduceEqDiff,reduceIte]; try simp)
  · rintro ⟨⟩
    ((refine Ax @hm1 ?_;repeat' first|exact True.intro|refine Cj.mk ?_ ?_)<;>intros<;>refine hD_ ?_)
    all_goals try (exfalso; omega)
    refine .inr (.inl ⟨_,_,_,_,rfl,fun _=>⟨insertion0 σ f m hm,?_⟩,fun h=>by cases h⟩)
    rintro r σ' rfl
    refine owp_of_exs ?_
    simp only [zN,zT,zV,zS,zU,vcC,lateX,ex,strp,binA,elems,cells,scalar,eqC,keyA,intsA,lookA,ofVs,mpOf,Nat.reduceBEq,reduceAdd,reduceSub,reduceLT,reduceLeDiff,reduceMul,reduceEqDiff,reduceIte]
    ((refine Au ?_;repeat' first|exact True.intro|refine Cj.mk ?_ ?_)<;>intros<;>refine hD_ ?_)
    refine AWPC.loopS (α:=Unit) [6] (fun _=>[(6,n 20)]) (fun _=>0) () ?_ ?_
    · (simp only [zN,zT,zV,zS,zU,vcC,lateX,ex,strp,binA,elems,cells,scalar,eqC,keyA,intsA,lookA,ofVs,mpOf,Nat.reduceBEq,reduceAdd,reduceSub,reduceLT,reduceLeDiff,reduceMul,reduceEqDiff,reduceIte]; try simp)
    · rintro ⟨⟩
      ((refine Ax @hm2 ?_;repeat' first|exact True.intro|refine Cj.mk ?_ ?_)<;>intros<;>refine hD_ ?_)
      all_goals first | (exfalso; omega) | rfl
theorem srtF_few {l:List Fld} (h:l.length≤1):srtF l=l:=by
  cases l with
  | nil=>rfl
  | cons a r=>cases r with
    | nil=>rfl
    | cons x r=>simp only [List.length_cons] at h; omega
theorem sortF0:SortF fun l=>l.length≤1:=fun σ f l hl hf=>by
  refine Does.of_body Tryz.call99 Tryz.func99 k99 (Nat.le_of_ble_eq_true rfl) ?_
  unfold c99
  ((refine Ax @hf ?_;repeat' first|exact True.intro|refine Cj.mk ?_ ?_)<;>intros<;>refine hD_ ?_)
  refine .inr (.inl ⟨_,_,_,_,rfl,fun _=>⟨stable0 σ f _ hl,?_⟩,fun h=>by cases h⟩)
  rintro r σ' rfl
  refine owp_of_exs ?_
  simp only [zN,zT,zV,zS,zU,vcC,lateX,ex,strp,binA,elems,cells,scalar,eqC,keyA,intsA,lookA,ofVs,mpOf,Nat.reduceBEq,reduceAdd,reduceSub,reduceLT,reduceLeDiff,reduceMul,reduceEqDiff,reduceIte]
  rw [srtF_few hl]
  exact (upd_self hf).symm
theorem insF_perm (a:Fld):∀ l,(insF a l).Perm (a::l)
  | []=>.refl _
  | x::r=>by
    unfold insF
    split
    · exact .refl _
    · exact ((insF_perm a r).cons x).trans (.swap a x r)
theorem srtF_perm (l:List Fld):(srtF l).Perm l:=by
  have:∀ (l o:List Fld),(l.foldl (fun o a=>insF a o) o).Perm (l++o):=by
    intro l
    induction l with
    | nil=>exact fun o=>.refl _
    | cons a r ih=>exact fun o=>(ih _).trans (((insF_perm a o).append_left r).trans List.perm_middle)
  have:=this l []
  rwa [List.append_nil] at this
theorem WeekOf_of {K:List Fld→Prop} (hK:SortF K) (b:Bse) (hb:bseSz b) (r:Rgr) (w:Int) (hs:K (r.sheets.filter fun f=>f.week == w)) (hl:r.stns.length * 48≤140737488355328) (hh:∀ s∈r.stns,s.heights.length * 24≤140737488355328)
    (hfl:∀ f∈r.sheets,fldC f) (h1:r.sheets.length < 274877906944) (h2:r.reads.length < 1099511627776) :
    Pure Tryz.prog 37 [.agg b.cs,.agg r.cs,n w] (.tup [.agg (weekE b r w).1.cs,n (weekE b r w).2]):=by
  refine Pure.of_body Tryz.call37 Tryz.func37 k37 (Nat.le_of_ble_eq_true rfl) ?_
  unfold c37
  have hcb:=CheckBase_spec b hb
  by_cases hbok:b.ok
  · rw [if_pos hbok] at hcb
    by_cases hw:inr w 0 10000
    · simp only [inr] at hw
      iterate 9
        ((first
 | refine vn rfl ?_
 | simp (disch:=omega) only [wr64,Int.zero_sub]
 | refine bo (fun _=>?_) fun _=>?_
 | refine im fun _=>?_
 | ((repeat refine si ?_); (first | ((first | refine .inl ⟨_,_,_,_,rfl,fun _=>pu (by first | exact hcb | exact within_a w 0 10000),?_⟩ | refine ⟨_,_,_,_,rfl,fun _=>pu (by first | exact hcb | exact within_a w 0 10000),?_⟩); (first | refine o1 ?_ | refine o2 ?_ | refine o3 ?_ | refine o4 ?_)) | refine .inl ⟨_,_,_,_,rfl,pu (by first | exact hcb | exact within_a w 0 10000),?_⟩))
 | refine cF ?_
 | refine om ?_
 | refine an ?_
 | fail) <;> try simp only [zN,zT,zV,zS,zU,vcC,lateX,ex,strp,binA,elems,cells,scalar,eqC,keyA,intsA,lookA,ofVs,mpOf,Nat.reduceBEq,reduceAdd,reduceSub,reduceLT,reduceLeDiff,reduceMul,reduceEqDiff,reduceIte])
      ((first
 | refine vn rfl ?_
 | simp (disch:=omega) only [wr64,Int.zero_sub]
 | refine bo (fun _=>?_) fun _=>?_
 | refine im fun _=>?_
 | ((repeat refine si ?_); (first | ((first | refine .inl ⟨_,_,_,_,rfl,fun _=>pu (by first | exact hcb | exact within_a w 0 10000),?_⟩ | refine ⟨_,_,_,_,rfl,fun _=>pu (by first | exact hcb | exact within_a w 0 10000),?_⟩); (first | refine o1 ?_ | refine o2 ?_ | refine o3 ?_ | refine o4 ?_)) | refine .inl ⟨_,_,_,_,rfl,pu (by first | exact hcb | exact within_a w 0 10000),?_⟩))
 | refine cF ?_
 | refine om ?_
 | refine an ?_
 | fail) <;> try simp only [zN,zT,zV,zS,zU,vcC,lateX,ex,strp,binA,elems,cells,scalar,eqC,keyA,intsA,lookA,ofVs,mpOf,Nat.reduceBEq,reduceAdd,reduceSub,reduceLT,reduceLeDiff,reduceMul,reduceEqDiff,reduceIte])
      all_goals try (exfalso; omega)
      iterate 2
        ((first
 | refine vn rfl ?_
 | simp (disch:=omega) only [wr64,Int.zero_sub]
 | refine bo (fun _=>?_) fun _=>?_
 | refine im fun _=>?_
 | ((repeat refine si ?_); (first | ((first | refine .inl ⟨_,_,_,_,rfl,fun _=>pu (by first | exact hcb | exact within_a w 0 10000),?_⟩ | refine ⟨_,_,_,_,rfl,fun _=>pu (by first | exact hcb | exact within_a w 0 10000),?_⟩); (first | refine o1 ?_ | refine o2 ?_ | refine o3 ?_ | refine o4 ?_)) | refine .inl ⟨_,_,_,_,rfl,pu (by first | exact hcb | exact within_a w 0 10000),?_⟩))
 | refine cF ?_
 | refine om ?_
 | refine an ?_
 | fail) <;> try simp only [zN,zT,zV,zS,zU,vcC,lateX,ex,strp,binA,elems,cells,scalar,eqC,keyA,intsA,lookA,ofVs,mpOf,Nat.reduceBEq,reduceAdd,reduceSub,reduceLT,reduceLeDiff,reduceMul,reduceEqDiff,reduceIte])
      refine AWPC.own0c 72 24 (f:=1) (i:=0) (e:=0) (j:=7) rfl (by simp) rfl ?_
      refine AWPC.own0c 64 5 (f:=1) (i:=0) (e:=0) (j:=8) rfl (by simp) rfl ?_
      refine AWPC.sto (σ':=[some [⟨86,9,[[.v (.slice none 0 0),n 0,n 0,n 0,n 0,n 0,n 0,.v (.slice none 0 0),.v (.slice none 0 0)]],none⟩],some [⟨86,9,[[snS b.stns,n b.fixed,n b.each,n b.term,n b.ticks,n b.clerks,n w,.own 2 0 0,.own 3 0 0]],none⟩],some [⟨72,24,[],none⟩],some [⟨64,5,[],none⟩]]) rfl ?_
      ((refine Au ?_;repeat' first|exact True.intro|refine Cj.mk ?_ ?_)<;>intros<;>refine hD_ ?_)
      refine .inr (.inl ⟨_,_,_,_,rfl,fun _=>⟨copiedStations_does r.stns hl hh _,?_⟩,fun h=>by cases h⟩)
      rintro r1 σ1 ⟨ν,rfl,rfl⟩
      refine owp_of_exs ?_
      simp only [zN,zT,zV,zS,zU,vcC,lateX,ex,strp,binA,elems,cells,scalar,eqC,keyA,intsA,lookA,ofVs,mpOf,Nat.reduceBEq,reduceAdd,reduceSub,reduceLT,reduceLeDiff,reduceMul,reduceEqDiff,reduceIte,List.length_map]
      ((refine Au ?_;repeat' first|exact True.intro|refine Cj.mk ?_ ?_)<;>intros<;>refine hD_ ?_)
      refine AWPC.loopE (α:={ x:Nat × List Fld × Sto // x.1≤r.sheets.length∧x.2.1=(r.sheets.take x.1).filter fun f=>f.week == w }) [35] (fun x=>[(35,n x.1.1)])
        (fun x=>some [⟨86,9,[[.v (.slice none 0 0),n 0,n 0,n 0,n 0,n 0,n 0,.v (.slice none 0 0),.v (.slice none 0 0)]],none⟩]::some [⟨86,9,[[.own 4 0 r.stns.length,n b.fixed,n b.each,n b.term,n b.ticks,n b.clerks,n w,.own 2 0 x.1.2.1.length,.own 3 0 0]],none⟩]::some [⟨72,24,x.1.2.1.map Fld.cs,none⟩]::some [⟨64,5,[],none⟩]::some [⟨109,4,r.stns.map Stn.cs,none⟩]::x.1.2.2)
        (fun x=>r.sheets.length - x.1.1) ⟨(0,[],ν),Nat.zero_le _,rfl⟩ ?_ rfl ?_
      · (simp only [zN,zT,zV,zS,zU,vcC,lateX,ex,strp,binA,elems,cells,scalar,eqC,keyA,intsA,lookA,ofVs,mpOf,Nat.reduceBEq,reduceAdd,reduceSub,reduceLT,reduceLeDiff,reduceMul,reduceEqDiff,reduceIte]; try simp)
      · rintro ⟨⟨i,S,μ⟩,hi,hS⟩
        simp only at hi hS
        obtain ⟨d,hd⟩:∃ d:Fld,True:=⟨⟨nm0,0,0,sht0,[],[]⟩,trivial⟩
        have hSl:S.length≤r.sheets.length:=by rw [hS]; exact Nat.le_trans (List.length_filter_le _ _) (by rw [List.length_take]; omega)
        by_cases hlt:i < r.sheets.length
        · generalize hM:S.map Fld.cs=M
          have hMl:M.length=S.length:=by rw [← hM,List.length_map]
          have hx:(r.sheets.map Fld.cs).getD i []=Fld.cs (r.sheets.getD i d):=row d hlt
          have hN:=filter_next (q:=fun f:Fld=>f.week == w) (getD_lt d hlt)
          rw [← hS] at hN
          have hcf:=copiedFiled_spec (r.sheets.getD i d) (hfl _ (List.mem_of_getElem? (getD_lt d hlt)))
          generalize r.sheets.getD i d=x at hx hN hcf
          by_cases hxw:x.week=w
          · rw [show (x.week == w)=true by simp [hxw],if_pos rfl] at hN
            ((refine Az (And.intro @hx (And.intro @hMl @hxw)) @hcf ?_;repeat' first|exact True.intro|refine Cj.mk ?_ ?_)<;>intros<;>refine hD_ ?_)
            all_goals try (exfalso; omega)
            refine ⟨⟨(i+1,S++[x],μ++[some [⟨72,24,[x.cs],none⟩]]),hlt,hN.symm⟩,by simp,?_,by simp only; omega⟩
            simp [← hM]
          · rw [show (x.week == w)=false by simp [hxw],if_neg (by decide)] at hN
            ((refine Az (And.intro @hx (And.intro @hMl @hxw)) @hcf ?_;repeat' first|exact True.intro|refine Cj.mk ?_ ?_)<;>intros<;>refine hD_ ?_)
            all_goals try (exfalso; omega)
            refine ⟨⟨(i+1,S,μ++[some [⟨72,24,[x.cs],none⟩]]),hlt,hN.symm⟩,by simp,?_,by simp only; omega⟩
            simp [← hM]
        · obtain rfl:i=r.sheets.length:=by omega
          rw [List.take_length] at hS
          ((refine Au ?_;repeat' first|exact True.intro|refine Cj.mk ?_ ?_)<;>intros<;>refine hD_ ?_)
          all_goals try (exfalso; omega)
          refine .inr (.inl ⟨_,_,_,_,rfl,fun _=>⟨hK _ 2 S (by rw [hS]; exact hs) rfl,?_⟩,fun h=>by cases h⟩)
          rintro r1 σ1 rfl
          refine owp_of_exs ?_
          have hsp:(srtF S).length=S.length:=(srtF_perm S).length_eq
          simp only [zN,zT,zV,zS,zU,vcC,lateX,ex,strp,binA,elems,cells,scalar,eqC,keyA,intsA,lookA,ofVs,mpOf,Nat.reduceBEq,reduceAdd,reduceSub,reduceLT,reduceLeDiff,reduceMul,reduceEqDiff,reduceIte]
          generalize hT:srtF S=T at hsp
          rw [← hsp]
          rw [← hsp] at hSl
          ((refine Au ?_;repeat' first|exact True.intro|refine Cj.mk ?_ ?_)<;>intros<;>refine hD_ ?_)
          refine AWPC.loopE (α:={ x:Nat × List Rd × Sto // x.1≤r.reads.length∧x.2.1=(r.reads.take x.1).filter fun f=>f.week == w }) [57] (fun x=>[(57,n x.1.1)])
            (fun x=>some [⟨86,9,[[.v (.slice none 0 0),n 0,n 0,n 0,n 0,n 0,n 0,.v (.slice none 0 0),.v (.slice none 0 0)]],none⟩]::some [⟨86,9,[[.own 4 0 r.stns.length,n b.fixed,n b.each,n b.term,n b.ticks,n b.clerks,n w,.own 2 0 T.length,.own 3 0 x.1.2.1.length]],none⟩]::some [⟨72,24,T.map Fld.cs,none⟩]::some [⟨64,5,x.1.2.1.map Rd.cs,none⟩]::some [⟨109,4,r.stns.map Stn.cs,none⟩]::x.1.2.2)
            (fun x=>r.reads.length - x.1.1) ⟨(0,[],μ),Nat.zero_le _,rfl⟩ ?_ rfl ?_
          · (simp only [zN,zT,zV,zS,zU,vcC,lateX,ex,strp,binA,elems,cells,scalar,eqC,keyA,intsA,lookA,ofVs,mpOf,Nat.reduceBEq,reduceAdd,reduceSub,reduceLT,reduceLeDiff,reduceMul,reduceEqDiff,reduceIte]; try simp)
          · rintro ⟨⟨i,R,μ⟩,hi,hR⟩
            simp only at hi hR
            have hRl:R.length≤r.reads.length:=by rw [hR]; exact Nat.le_trans (List.length_filter_le _ _) (by rw [List.length_take]; omega)
            by_cases hlt:i < r.reads.length
            · generalize hM:R.map Rd.cs=M
              have hMl:M.length=R.length:=by rw [← hM,List.length_map]
              have hx:(r.reads.map Rd.cs).getD i []=Rd.cs (r.reads.getD i rd0):=row rd0 hlt
              have hN:=filter_next (q:=fun f:Rd=>f.week == w) (getD_lt rd0 hlt)
              rw [← hR] at hN
              generalize r.reads.getD i rd0=x at hx hN
              by_cases hxw:x.week=w
              · rw [show (x.week == w)=true by simp [hxw],if_pos rfl] at hN
                ((refine Ax (And.intro @hx (And.intro @hMl @hxw)) ?_;repeat' first|exact True.intro|refine Cj.mk ?_ ?_)<;>intros<;>refine hD_ ?_)
                all_goals try (exfalso; omega)
                refine ⟨⟨(i+1,R++[x],μ++[some [⟨64,5,[x.cs],none⟩]]),hlt,hN.symm⟩,by simp,?_,by simp only; omega⟩
                simp [← hM,hxw]
              · rw [show (x.week == w)=false by simp [hxw],if_neg (by decide)] at hN
                ((refine Ax (And.intro @hx (And.intro @hMl @hxw)) ?_;repeat' first|exact True.intro|refine Cj.mk ?_ ?_)<;>intros<;>refine hD_ ?_)
                all_goals try (exfalso; omega)
                refine ⟨⟨(i+1,R,μ++[some [⟨64,5,[x.cs],none⟩]]),hlt,hN.symm⟩,by simp,?_,by simp only; omega⟩
                simp [← hM]
            · obtain rfl:i=r.reads.length:=by omega
              rw [List.take_length] at hR
              have hWT:weekT b r w=⟨{ b with stns:=r.stns },w,T,R⟩:=by unfold weekT; rw [hR,← hT,hS]
              by_cases h64:64 < T.length∨64 < R.length
              · have hE:weekE b r w=(wk0,2):=by unfold weekE; rw [if_neg (fun h=>h hbok),if_neg (fun h=>h hw),hWT]; exact if_pos h64
                rw [hE]
                ((refine Au ?_;repeat' first|exact True.intro|refine Cj.mk ?_ ?_)<;>intros<;>refine hD_ ?_)
                all_goals try (exfalso; omega)
                all_goals exact Frz.tupL ⟨Frz.aggL ⟨Frz.nil0,Frz.pure (by simp),Frz.pure (by simp),Frz.pure (by simp),Frz.pure (by simp),Frz.pure (by simp),Frz.pure (by simp),Frz.nil0,Frz.nil0,trivial⟩,Frz.pure (by simp),trivial⟩
              · have hE:weekE b r w=(weekT b r w,0):=by unfold weekE; rw [if_neg (fun h=>h hbok),if_neg (fun h=>h hw),hWT]; exact if_neg h64
                rw [hE,hWT]
                ((refine Au ?_;repeat' first|exact True.intro|refine Cj.mk ?_ ?_)<;>intros<;>refine hD_ ?_)
                all_goals try (exfalso; omega)
                all_goals exact Frz.tupL ⟨Frz.aggL ⟨Frz.ownL (T:=109) (cs:=Stn.cs) rfl rfl (by decide) sn_pc (fun a=>rfl),Frz.pure (by simp),Frz.pure (by simp),Frz.pure (by simp),Frz.pure (by simp),Frz.pure (by simp),Frz.pure (by simp),Frz.ownL (T:=72) (cs:=Fld.cs) rfl rfl (by decide) (fun a=>Fld.pc a) (fun a=>rfl),Frz.ownL (T:=64) (cs:=Rd.cs) rfl rfl (by decide) rd_pc (fun a=>rfl),trivial⟩,Frz.pure (by simp),trivial⟩
    · have hE:weekE b r w=(wk0,1):=by unfold weekE; rw [if_neg (fun h=>h hbok),if_pos hw]
      rw [hE]
      simp only [inr] at hw
      ((refine Ay (And.intro @hcb (within_a w 0 10000)) ?_;repeat' first|exact True.intro|refine Cj.mk ?_ ?_)<;>intros<;>refine hD_ ?_)
      all_goals try (exfalso; omega)
      all_goals exact Frz.tupL ⟨Frz.aggL ⟨Frz.nil0,Frz.pure (by simp),Frz.pure (by simp),Frz.pure (by simp),Frz.pure (by simp),Frz.pure (by simp),Frz.pure (by simp),Frz.nil0,Frz.nil0,trivial⟩,Frz.pure (by simp),trivial⟩
  · rw [if_neg hbok] at hcb
    have hE:weekE b r w=(wk0,100):=by unfold weekE; rw [if_pos hbok]
    rw [hE]
    ((refine Ay @hcb ?_;repeat' first|exact True.intro|refine Cj.mk ?_ ?_)<;>intros<;>refine hD_ ?_)
    all_goals try (exfalso; omega)
    all_goals exact Frz.tupL ⟨Frz.aggL ⟨Frz.nil0,Frz.pure (by simp),Frz.pure (by simp),Frz.pure (by simp),Frz.pure (by simp),Frz.pure (by simp),Frz.pure (by simp),Frz.nil0,Frz.nil0,trivial⟩,Frz.pure (by simp),trivial⟩
def c28:CF:=⟨26,(jo [jb 4 false] [0,1]
 (.seq (jo [jm 6 0,je 7 6,jm 8 1,je 9 8,jt .neq 10 7 9] [0,1,10]
 (.cond (.t 10) (jo [jb 4 false] [4]
 .ret)
 .skip))
 (.seq (jo [jc 5 0] [0,1,5]
 (.block 0 (.loop (.seq (jo [jm 11 5,jm 12 0,je 13 12,jt .lss 14 11 13] [0,1,5,14]
 (.cond (.t 14) .skip
 (.exit 0)))
 (.seq (.block 1 (.seq (.draw [jm 17 0,jm 18 5,ji 19 2 17 18,jk 20 2 19,jm 21 1,jm 22 5,ji 23 2 21 22,jk 24 2 23,jw 25 (.eqs true [some .i64,some .i64] (.t 20) (.t 24))] [] [0,1,5,25])
 (.cond (.t 25) (jo [jb 4 false] [4]
 .ret)
 .skip)))
 (.ops [jm 15 5,ju .add 16 15 1,jm 5 16] [0,1,5]))))))
 (jo [jb 4 true] [4]
 .ret)))),[.t 4]⟩
theorem k28:chkF Tryz.prog Tryz.f28 c28=true:=by kernel_rfl
def c68:CF:=⟨26,(jo [jb 4 false] [0,1]
 (.seq (jo [jm 6 0,je 7 6,jm 8 1,je 9 8,jt .neq 10 7 9] [0,1,10]
 (.cond (.t 10) (jo [jb 4 false] [4]
 .ret)
 .skip))
 (.seq (jo [jc 5 0] [0,1,5]
 (.block 0 (.loop (.seq (jo [jm 11 5,jm 12 0,je 13 12,jt .lss 14 11 13] [0,1,5,14]
 (.cond (.t 14) .skip
 (.exit 0)))
 (.seq (.block 1 (.seq (.draw [jm 17 0,jm 18 5,ji 19 1 17 18,jl 20 19,jm 21 1,jm 22 5,ji 23 1 21 22,jl 24 23,jt .neq 25 20 24] [] [0,1,5,25])
 (.cond (.t 25) (jo [jb 4 false] [4]
 .ret)
 .skip)))
 (.ops [jm 15 5,ju .add 16 15 1,jm 5 16] [0,1,5]))))))
 (jo [jb 4 true] [4]
 .ret)))),[.t 4]⟩
theorem k68:chkF Tryz.prog Tryz.f68 c68=true:=by kernel_rfl
def c77:CF:=⟨8,(jo [jw 0 (.alloc 26 6 [.slice none 0 0,.int .i64 0,.int .i64 0,.int .i64 0,.int .i64 0,.int .i64 0])] [0]
 (jo [jw 1 (.build [.int .i64 0,.int .i64 0] [(0,1,(.c (.int .i64 100))),(1,1,(.c (.int .i64 100)))]),jw 2 (.build [.int .i64 0,.int .i64 0,.int .i64 0] [(1,2,(.t 1))]),jw 3 (.bsl false 66 3 1 [.int .i64 0,.int .i64 0,.int .i64 0] [(0,3,(.t 2))]),jw 4 (.build [.int .i64 0,.int .i64 0,.int .i64 0,.slice none 0 0] [(0,1,(.c (.int .i64 5))),(3,1,(.t 3))]),jw 5 (.bsl false 109 4 1 [.int .i64 0,.int .i64 0,.int .i64 0,.slice none 0 0] [(0,4,(.t 4))]),jw 6 (.build [.int .i64 0,.int .i64 0] [(0,1,(.c (.int .i64 10)))]),jw 7 (.build [.slice none 0 0,.int .i64 0,.int .i64 0,.int .i64 0,.int .i64 0,.int .i64 0] [(0,1,(.t 5)),(1,2,(.t 6)),(3,1,(.c (.int .i64 50))),(4,1,(.c (.int .i64 100))),(5,1,(.c (.int .i64 2)))]),js 6 0 7] [0]
 .ret)),[.c 0 (some 6)]⟩
theorem k77:chkF Tryz.prog Tryz.f77 c77=true:=by kernel_rfl
def c79:CF:=⟨12,(jo [jw 6 (.alloc 68 38 z38)] [0,1,2,6]
 (jo [jm 7 0,jm 8 0,jm 9 1,jm 10 2,jw 11 (.build z38 [(0,1,(.c (.int .i64 1))),(1,1,(.t 7)),(2,1,(.t 8)),(3,1,(.t 9)),(4,1,(.t 10))]),js 38 6 11] [6]
 .ret)),[.c 6 (some 38)]⟩
theorem k79:chkF Tryz.prog Tryz.f79 c79=true:=by kernel_rfl
def c140:CF:=⟨12,(jo [jw 0 (.alloc 60 18 z18)] [0]
 (jo [jw 2 (.build [.int .i64 0,.int .i64 0] [(0,1,(.c (.int .i64 1000))),(1,1,(.c (.int .i64 1000)))]),jw 1 (.alloc 48 2 [.int .i64 0,.int .i64 0]),js 2 1 2] [0,1]
 (jo [jk 3 2 1,jk 4 2 1,jw 5 (.build [.int .i64 0,.int .i64 0,.int .i64 0,.int .i64 0,.int .i64 0,.int .i64 0,.int .i64 0,.int .i64 0,.int .i64 0,.int .i64 0] [(0,1,(.c (.int .i64 100))),(1,1,(.c (.int .i64 1000))),(3,1,(.c (.int .i64 9600))),(4,1,(.c (.int .i64 10600))),(5,1,(.c (.int .i64 3))),(6,2,(.t 3)),(8,2,(.t 4))]),jw 6 (.build [.int .i64 0,.int .i64 0] [(0,1,(.c (.int .i64 1))),(1,1,(.c (.int .i64 2)))]),jw 7 (.build [.int .i64 0,.int .i64 0] [(0,1,(.c (.int .i64 1))),(1,1,(.c (.int .i64 2)))]),jw 8 (.bsl false 48 2 2 [.int .i64 0,.int .i64 0,.int .i64 0,.int .i64 0] [(0,2,(.t 6)),(2,2,(.t 7))]),jw 9 (.build [.slice none 0 0,.slice none 0 0] [(0,1,(.t 8))]),jw 10 (.build [.int .i64 0,.int .i64 0,.int .i64 0,.int .i64 0] [(0,1,(.c (.int .i64 1))),(3,1,(.c (.int .i64 10)))]),jw 11 (.build z18 [(0,10,(.t 5)),(12,2,(.t 9)),(14,4,(.t 10))]),js 18 0 11] [0]
 .ret))),[.c 0 (some 18)]⟩
theorem k140:chkF Tryz.prog Tryz.f140 c140=true:=by kernel_rfl
def c78:CF:=⟨52,(jo [jn 0] []
 (jo [jw 2 (.call (.f 79) [(.c (.int .i64 1)),(.c (.int .i64 10)),(.c (.int .i64 1))]),jw 3 (.call (.f 79) [(.c (.int .i64 2)),(.c (.int .i64 11)),(.c (.int .i64 2))]),jw 4 (.call (.f 79) [(.c (.int .i64 3)),(.c (.int .i64 12)),(.c (.int .i64 3))]),jw 5 (.call (.f 79) [(.c (.int .i64 4)),(.c (.int .i64 13)),(.c (.int .i64 6))]),jw 6 (.call (.f 79) [(.c (.int .i64 5)),(.c (.int .i64 14)),(.c (.int .i64 5))]),jw 7 (.bslt 68 38 5 [.int .i64 0,.int .i64 0,.int .i64 0,.int .i64 0,.int .i64 0,.int .i64 0,.int .i64 0,.int .i64 0,.int .i64 0,.int .i64 0,.int .i64 0,.int .i64 0,.int .i64 0,.int .i64 0,.int .i64 0,.int .i64 0,.int .i64 0,.slice none 0 0,.slice none 0 0,.slice none 0 0,.slice none 0 0,.int .i64 0,.int .i64 0,.int .i64 0,.int .i64 0,.int .i64 0,.int .i64 0,.int .i64 0,.int .i64 0,.int .i64 0,.int .i64 0,.int .i64 0,.int .i64 0,.int .i64 0,.int .i64 0,.int .i64 0,.int .i64 0,.int .i64 0,.int .i64 0,.int .i64 0,.int .i64 0,.int .i64 0,.int .i64 0,.int .i64 0,.int .i64 0,.int .i64 0,.int .i64 0,.int .i64 0,.int .i64 0,.int .i64 0,.int .i64 0,.int .i64 0,.int .i64 0,.int .i64 0,.int .i64 0,.slice none 0 0,.slice none 0 0,.slice none 0 0,.slice none 0 0,.int .i64 0,.int .i64 0,.int .i64 0,.int .i64 0,.int .i64 0,.int .i64 0,.int .i64 0,.int .i64 0,.int .i64 0,.int .i64 0,.int .i64 0,.int .i64 0,.int .i64 0,.int .i64 0,.int .i64 0,.int .i64 0,.int .i64 0,.int .i64 0,.int .i64 0,.int .i64 0,.int .i64 0,.int .i64 0,.int .i64 0,.int .i64 0,.int .i64 0,.int .i64 0,.int .i64 0,.int .i64 0,.int .i64 0,.int .i64 0,.int .i64 0,.int .i64 0,.int .i64 0,.int .i64 0,.slice none 0 0,.slice none 0 0,.slice none 0 0,.slice none 0 0,.int .i64 0,.int .i64 0,.int .i64 0,.int .i64 0,.int .i64 0,.int .i64 0,.int .i64 0,.int .i64 0,.int .i64 0,.int .i64 0,.int .i64 0,.int .i64 0,.int .i64 0,.int .i64 0,.int .i64 0,.int .i64 0,.int .i64 0,.int .i64 0,.int .i64 0,.int .i64 0,.int .i64 0,.int .i64 0,.int .i64 0,.int .i64 0,.int .i64 0,.int .i64 0,.int .i64 0,.int .i64 0,.int .i64 0,.int .i64 0,.int .i64 0,.int .i64 0,.int .i64 0,.int .i64 0,.slice none 0 0,.slice none 0 0,.slice none 0 0,.slice none 0 0,.int .i64 0,.int .i64 0,.int .i64 0,.int .i64 0,.int .i64 0,.int .i64 0,.int .i64 0,.int .i64 0,.int .i64 0,.int .i64 0,.int .i64 0,.int .i64 0,.int .i64 0,.int .i64 0,.int .i64 0,.int .i64 0,.int .i64 0,.int .i64 0,.int .i64 0,.int .i64 0,.int .i64 0,.int .i64 0,.int .i64 0,.int .i64 0,.int .i64 0,.int .i64 0,.int .i64 0,.int .i64 0,.int .i64 0,.int .i64 0,.int .i64 0,.int .i64 0,.int .i64 0,.int .i64 0,.slice none 0 0,.slice none 0 0,.slice none 0 0,.slice none 0 0,.int .i64 0,.int .i64 0,.int .i64 0,.int .i64 0,.int .i64 0,.int .i64 0,.int .i64 0,.int .i64 0,.int .i64 0,.int .i64 0,.int .i64 0,.int .i64 0,.int .i64 0,.int .i64 0,.int .i64 0,.int .i64 0,.int .i64 0] [(0,38,(.t 2)),(38,38,(.t 3)),(76,38,(.t 4)),(114,38,(.t 5)),(152,38,(.t 6))]),jm 1 7] [1]
 (jo [jm 8 1,jw 9 (.iaddr 38 (.t 8) (.c (.int .i64 0))),jf 10 5 9,⟨none,.store 1 (.t 10) (.c (.int .i64 5)),none⟩] [1]
 (jo [jm 11 1,jw 12 (.iaddr 38 (.t 11) (.c (.int .i64 0))),jf 13 6 12,⟨none,.store 1 (.t 13) (.c (.int .i64 3)),none⟩] [1]
 (jo [jm 14 1,jy 15 140 [],jw 16 (.iaddr 38 (.t 14) (.c (.int .i64 0))),jf 17 7 16,js 18 17 15] [1]
 (jo [jm 18 1,jw 19 (.build [.int .i64 0,.int .i64 0] [(0,1,(.c (.int .i64 1))),(1,1,(.c (.int .i64 1)))]),jw 20 (.iaddr 38 (.t 18) (.c (.int .i64 1))),jf 21 36 20,js 2 21 19] [1]
 (jo [jm 22 1,jw 23 (.build [.int .i64 0,.int .i64 0] [(0,1,(.c (.int .i64 4))),(1,1,(.c (.int .i64 6)))]),jw 24 (.build [.int .i64 0,.int .i64 0,.int .i64 0] [(1,2,(.t 23))]),jw 25 (.iaddr 38 (.t 22) (.c (.int .i64 1))),jf 26 25 25,js 3 26 24] [1]
 (jo [jm 27 1,jw 28 (.build [.int .i64 0,.int .i64 0] [(0,1,(.c (.int .i64 10000))),(1,1,(.c (.int .i64 10010)))]),jw 29 (.build [.int .i64 0,.int .i64 0,.int .i64 0,.int .i64 0,.int .i64 0] [(0,1,(.c (.int .i64 5))),(1,1,(.c (.int .i64 3))),(2,1,(.c (.int .i64 20))),(3,2,(.t 28))]),jw 30 (.iaddr 38 (.t 27) (.c (.int .i64 2))),jf 31 28 30,js 5 31 29] [1]
 (jo [jm 32 1,jw 33 (.build [.int .i64 0,.int .i64 0] [(0,1,(.c (.int .i64 1))),(1,1,(.c (.int .i64 2)))]),jw 34 (.iaddr 38 (.t 32) (.c (.int .i64 3))),jf 35 36 34,js 2 35 33] [1]
 (jo [jm 36 1,jw 37 (.build [.int .i64 0,.int .i64 0] [(0,1,(.c (.int .i64 5))),(1,1,(.c (.int .i64 6)))]),jw 38 (.build [.int .i64 0,.int .i64 0,.int .i64 0] [(1,2,(.t 37))]),jw 39 (.iaddr 38 (.t 36) (.c (.int .i64 3))),jf 40 25 39,js 3 40 38] [1]
 (jo [jm 41 1,jw 42 (.build [.int .i64 0,.int .i64 0] [(0,1,(.c (.int .i64 1))),(1,1,(.c (.int .i64 1)))]),jw 43 (.iaddr 38 (.t 41) (.c (.int .i64 4))),jf 44 36 43,js 2 44 42] [1]
 (jo [jm 45 1,jw 46 (.iaddr 38 (.t 45) (.c (.int .i64 4))),jf 47 5 46,⟨none,.store 1 (.t 47) (.c (.int .i64 5)),none⟩] [1]
 (jo [jm 48 1,jw 49 (.iaddr 38 (.t 48) (.c (.int .i64 4))),jf 50 6 49,⟨none,.store 1 (.t 50) (.c (.int .i64 4)),none⟩] [1]
 (jo [jm 51 1,jm 0 51] [0]
 .ret)))))))))))))),[.t 0]⟩
theorem k78:chkF Tryz.prog Tryz.f78 c78=true:=by kernel_rfl
def c18:CF:=⟨181,(jo [jb 0 false] []
 (jo [jy 15 77 [],jy 16 78 [],jy 17 21 [15,16],jm 14 17,jz 18 0 14,jz 19 1 14,jw 1 (.alloc 37 4 [.slice none 0 0,.slice none 0 0,.slice none 0 0,.slice none 0 0]),js 4 1 18,jm 2 19] [1,2]
 (jo [jy 21 77 [],jy 22 78 [],jw 23 (.call (.f 23) [(.t 21),(.t 22),(.c (.int .i64 11)),(.c (.int .i64 100))]),jm 20 23,jz 24 0 20,jz 25 1 20,jw 3 (.alloc 37 4 [.slice none 0 0,.slice none 0 0,.slice none 0 0,.slice none 0 0]),js 4 3 24,jm 4 25] [1,2,3,4]
 (jo [jk 27 4 1,jy 28 36 [27],jm 26 28,jz 29 0 26,jz 30 1 26,jm 5 29,jm 6 30] [1,2,3,4,5,6]
 (jo [jy 32 77 [],jy 33 78 [],jw 34 (.build [.int .i64 0,.int .i64 0] [(0,1,(.c (.int .i64 1))),(1,1,(.c (.int .i64 2)))]),jy 35 25 [32,33,34],jm 31 35,jz 36 0 31,jz 37 1 31,jm 7 36,jm 8 37] [1,2,3,4,5,6,7,8]
 (.seq (.drawl 5 [jy 39 77 [],jk 40 4 1,jw 41 (.call (.f 37) [(.t 39),(.t 40),(.c (.int .i64 3))]),jm 38 41,jz 42 0 38,jz 43 1 38,jw 9 (.alloc 86 9 [.slice none 0 0,.int .i64 0,.int .i64 0,.int .i64 0,.int .i64 0,.int .i64 0,.int .i64 0,.slice none 0 0,.slice none 0 0])] [js 9 9 42,jm 10 43] [1,2,3,4,5,6,7,8,9,10])
 (jo [jw 44 (.call (.f 79) [(.c (.int .i64 6)),(.c (.int .i64 15)),(.c (.int .i64 7))]),jw 11 (.alloc 68 38 z38),js 38 11 44] [1,2,3,4,5,6,7,8,9,10,11]
 (jo [jw 45 (.build [.int .i64 0,.int .i64 0] [(0,1,(.c (.int .i64 1))),(1,1,(.c (.int .i64 1)))]),jf 46 36 11,js 2 46 45] [1,2,3,4,5,6,7,8,9,10,11]
 (.seq (.drawl 8 [jy 48 77 [],jy 49 78 [],jk 50 38 11,jw 51 (.bsl false 68 38 1 z38 [(0,38,(.t 50))]),jw 52 (.appi 68 38 368 (.t 49) (.t 51)),jy 53 21 [48,52],jm 47 53,jz 54 0 47,jz 55 1 47,jw 12 (.alloc 37 4 [.slice none 0 0,.slice none 0 0,.slice none 0 0,.slice none 0 0])] [js 4 12 54,jm 13 55] [1,2,3,4,5,6,7,8,9,10,12,13])
 (.seq (jo [jm 56 2,ju .neq 57 56 0,jm 58 57,jd 58 (jm 59 4),jd 58 (ju .neq 60 59 0),jq 61 58 60,jm 62 61,jd 62 (jm 63 6),jd 62 (ju .neq 64 63 0),jq 65 62 64,jm 66 65,jd 66 (jm 67 8),jd 66 (ju .neq 68 67 0),jq 69 66 68,jm 70 69,jd 70 (jm 71 10),jd 70 (ju .neq 72 71 0),jq 73 70 72,jm 74 73,jd 74 (jm 75 13),jd 74 (ju .neq 76 75 0),jq 77 74 76,jm 78 77,jd 78 (jf 79 0 1),jd 78 (jl 80 79),jd 78 (je 81 80),jd 78 (ju .neq 82 81 1),jq 83 78 82,jm 84 83,jd 84 (jf 85 0 1),jd 84 (jl 86 85),⟨some 87,.iaddr 24 (.t 86) (.c (.int .i64 0)),some (84,false)⟩,jd 84 (jf 88 22 87),jd 84 (jl 89 88),jd 84 (je 90 89),jd 84 (ju .neq 91 90 1),jq 92 84 91,jm 93 92,jd 93 (jf 94 0 3),jd 93 (jl 95 94),jd 93 (je 96 95),jd 93 (ju .neq 97 96 1),jq 98 93 97,jm 99 98,jd 99 (jf 100 0 3),jd 99 (jl 101 100),⟨some 102,.iaddr 24 (.t 101) (.c (.int .i64 0)),some (99,false)⟩,jd 99 (jf 103 22 102),jd 99 (jl 104 103),jd 99 (je 105 104),jd 99 (ju .neq 106 105 1),jq 107 99 106,jm 108 107,jd 108 (jf 109 3 12),jd 108 (jl 110 109),jd 108 (je 111 110),jd 108 (ju .neq 112 111 3),jq 113 108 112] [1,3,5,7,9,12,113]
 (.cond (.t 113) (jo [jb 0 false] [0]
 .ret)
 .skip))
 (jo [jf 114 0 1,jl 115 114,jw 116 (.iaddr 24 (.t 115) (.c (.int .i64 0))),jf 117 3 116,jl 118 117,ju .eql 119 118 4,jm 120 119,ja 120 (jf 121 0 1),ja 120 (jl 122 121),⟨some 123,.iaddr 24 (.t 122) (.c (.int .i64 0)),some (120,true)⟩,ja 120 (jf 124 22 123),ja 120 (jl 125 124),⟨some 126,.iaddr 3 (.t 125) (.c (.int .i64 0)),some (120,true)⟩,ja 120 (jf 127 1 126),ja 120 (jf 128 0 127),ja 120 (jl 129 128),ja 120 (ju .eql 130 129 5),jp 131 120 130,jm 132 131,ja 132 (jf 133 0 3),ja 132 (jl 134 133),⟨some 135,.iaddr 24 (.t 134) (.c (.int .i64 0)),some (132,true)⟩,ja 132 (jf 136 3 135),ja 132 (jl 137 136),ja 132 (ju .eql 138 137 3),jp 139 132 138,jm 140 139,ja 140 (jf 141 0 3),ja 140 (jl 142 141),⟨some 143,.iaddr 24 (.t 142) (.c (.int .i64 0)),some (140,true)⟩,ja 140 (jf 144 22 143),ja 140 (jl 145 144),⟨some 146,.iaddr 3 (.t 145) (.c (.int .i64 0)),some (140,true)⟩,ja 140 (jf 147 1 146),ja 140 (jf 148 0 147),ja 140 (jl 149 148),ja 140 (ju .eql 150 149 4),jp 151 140 150,jm 152 151,ja 152 (jm 153 5),⟨some 154,.bsl false 3 1 2 [.int .i64 0,.int .i64 0] [(0,1,(.c (.int .i64 3))),(1,1,(.c (.int .i64 4)))],some (152,true)⟩,ja 152 (jy 155 68 [153,154]),jp 156 152 155,jm 157 156,ja 157 (jm 158 7),⟨some 159,.build [.int .i64 0,.int .i64 0] [(0,1,(.c (.int .i64 1))),(1,1,(.c (.int .i64 4)))],some (157,true)⟩,⟨some 160,.bsl false 29 2 1 [.int .i64 0,.int .i64 0] [(0,2,(.t 159))],some (157,true)⟩,ja 157 (jy 161 28 [158,160]),jp 162 157 161,jm 163 162,ja 163 (jf 164 7 9),ja 163 (jl 165 164),ja 163 (je 166 165),ja 163 (ju .eql 167 166 0),jp 168 163 167,jm 169 168,ja 169 (jf 170 8 9),ja 169 (jl 171 170),ja 169 (je 172 171),ja 169 (ju .eql 173 172 1),jp 174 169 173,jm 175 174,ja 175 (jf 176 0 12),ja 175 (jl 177 176),ja 175 (je 178 177),ja 175 (ju .eql 179 178 0),jp 180 175 179,jm 0 180] [0]
 .ret))))))))))),[.t 0]⟩
theorem k18:chkF Tryz.prog Tryz.f18 c18=true:=by kernel_rfl
theorem sameNm (a b:List Nm) (ha:a.length < 9223372036854775808) (hb:b.length < 9223372036854775808):Pure Tryz.prog 28 [nmS a,nmS b] (bl (decide (a=b))):=by
  refine Pure.of_body Tryz.call28 Tryz.func28 k28 (Nat.le_of_ble_eq_true rfl) ?_
  unfold c28
  ((refine Au ?_;repeat' first|exact True.intro|refine Cj.mk ?_ ?_)<;>intros<;>refine hD_ ?_)
  · rename_i h
    rw [decide_eq_false fun e=>by subst e; omega]; exact Frz.eq rfl (by simp)
  rename_i hne
  have hlen:a.length=b.length:=by omega
  refine AWPC.loopI 5 a.length (fun i=>a.take i=b.take i) (by simp) ?_ ?_
  · (simp only [zN,zT,zV,zS,zU,vcC,lateX,ex,strp,binA,elems,cells,scalar,eqC,keyA,intsA,lookA,ofVs,mpOf,Nat.reduceBEq,reduceAdd,reduceSub,reduceLT,reduceLeDiff,reduceMul,reduceEqDiff,reduceIte]; try simp)
  · intro i hi hI
    by_cases hlt:i < a.length
    · have hx:(a.map Nm.cs).getD i []=Nm.cs (a.getD i nm0):=row _ hlt
      have hy:(b.map Nm.cs).getD i []=Nm.cs (b.getD i nm0):=row _ (by omega)
      have hk:a.getD i nm0=b.getD i nm0↔a.take (i+1)=b.take (i+1):=by
        rw [List.take_add_one,List.take_add_one,hI,getD_lt nm0 hlt,getD_lt nm0 (show i < b.length by omega)]; simp
      generalize a.getD i nm0=x at hx hk
      generalize b.getD i nm0=y at hy hk
      obtain ⟨x1,x2⟩:=x
      obtain ⟨y1,y2⟩:=y
      simp only [Nm.mk.injEq] at hk
      ((refine Ax (And.intro @hx @hy) ?_;repeat' first|exact True.intro|refine Cj.mk ?_ ?_)<;>intros<;>refine hD_ ?_)
      all_goals try (exfalso; omega)
      · rename_i h
        rw [decide_eq_false fun e=>by
          have:=hk.2 (by rw [e])
          omega]
        exact Frz.eq rfl (by simp)
      · rename_i h
        exact ⟨⟨i+1,hlt,hk.1 (by omega)⟩,by simp,by simp only; omega⟩
    · obtain rfl:i=a.length:=by omega
      ((refine Au ?_;repeat' first|exact True.intro|refine Cj.mk ?_ ?_)<;>intros<;>refine hD_ ?_)
      all_goals try (exfalso; omega)
      rw [List.take_length,hlen,List.take_length] at hI
      rw [decide_eq_true hI]
      exact Frz.eq rfl (by simp)
theorem sameInt (a b:List Int) (ha:a.length < 9223372036854775808) (hb:b.length < 9223372036854775808):Pure Tryz.prog 68 [inS a,inS b] (bl (decide (a=b))):=by
  refine Pure.of_body Tryz.call68 Tryz.func68 k68 (Nat.le_of_ble_eq_true rfl) ?_
  unfold c68
  ((refine Au ?_;repeat' first|exact True.intro|refine Cj.mk ?_ ?_)<;>intros<;>refine hD_ ?_)
  · rename_i h
    rw [decide_eq_false fun e=>by subst e; omega]; exact Frz.eq rfl (by simp)
  rename_i hne
  have hlen:a.length=b.length:=by omega
  refine AWPC.loopI 5 a.length (fun i=>a.take i=b.take i) (by simp) ?_ ?_
  · (simp only [zN,zT,zV,zS,zU,vcC,lateX,ex,strp,binA,elems,cells,scalar,eqC,keyA,intsA,lookA,ofVs,mpOf,Nat.reduceBEq,reduceAdd,reduceSub,reduceLT,reduceLeDiff,reduceMul,reduceEqDiff,reduceIte]; try simp)
  · intro i hi hI
    by_cases hlt:i < a.length
    · have hx:(a.map (fun z=>[n z])).getD i []=(fun z=>[n z]) (a.getD i 0):=row _ hlt
      have hy:(b.map (fun z=>[n z])).getD i []=(fun z=>[n z]) (b.getD i 0):=row _ (by omega)
      have hk:a.getD i 0=b.getD i 0↔a.take (i+1)=b.take (i+1):=by
        rw [List.take_add_one,List.take_add_one,hI,getD_lt 0 hlt,getD_lt 0 (show i < b.length by omega)]; simp
      generalize a.getD i 0=x at hx hk
      generalize b.getD i 0=y at hy hk
      ((refine Ax (And.intro @hx @hy) ?_;repeat' first|exact True.intro|refine Cj.mk ?_ ?_)<;>intros<;>refine hD_ ?_)
      all_goals try (exfalso; omega)
      · rename_i h
        rw [decide_eq_false fun e=>by
          have:=hk.2 (by rw [e])
          omega]
        exact Frz.eq rfl (by simp)
      · rename_i h
        exact ⟨⟨i+1,hlt,hk.1 (by omega)⟩,by simp,by simp only; omega⟩
    · obtain rfl:i=a.length:=by omega
      ((refine Au ?_;repeat' first|exact True.intro|refine Cj.mk ?_ ?_)<;>intros<;>refine hD_ ?_)
      all_goals try (exfalso; omega)
      rw [List.take_length,hlen,List.take_length] at hI
      rw [decide_eq_true hI]
      exact Frz.eq rfl (by simp)
def offB:Bse:=⟨[⟨5,0,0,[⟨0,⟨100,100⟩⟩]⟩],10,0,50,100,2⟩
def chartS:Sht:=⟨⟨100,1000,0,9600,10600,3,⟨1000,1000⟩,⟨1000,1000⟩⟩,[],[],[⟨1,2⟩,⟨1,2⟩],[],⟨1,⟨0,0⟩,10⟩⟩
def noteN (num day kind:Int):Nt:={ nt0 with clerk:=1,num:=num,clock:=num,day:=day,kind:=kind }
def sampL:List Nt:=[{ noteN 1 10 1 with stn:=5,week:=3,sheet:=chartS },{ noteN 2 11 2 with ref:=⟨1,1⟩,mark:=⟨0,⟨4,6⟩⟩ },{ noteN 3 12 3 with read:=⟨5,3,20,⟨10000,10010⟩⟩ },
  { noteN 4 13 6 with ref:=⟨1,2⟩,mark:=⟨0,⟨5,6⟩⟩ },{ noteN 5 14 5 with ref:=⟨1,1⟩,stn:=5,week:=4 }]
abbrev noteC (num day kind:Int):List AV:=[n 1,n num,n num,n day,n kind,n 0,n 0,n 0,n 0,n 0,n 0,n 0,n 0,n 0,n 0,n 0,n 0,.sl 3 [],.sl 1 [],.sl 2 [],.sl 3 [],n 0,n 0,n 0,n 0,n 0,n 0,n 0,n 0,n 0,n 0,n 0,n 0,n 0,n 0,n 0,n 0,n 0]
theorem office_spec:Pure Tryz.prog 77 [] (.agg offB.cs):=by
  refine Pure.of_body Tryz.call77 Tryz.func77 k77 (Nat.le_of_ble_eq_true rfl) ?_
  unfold c77
  ((refine Au ?_;repeat' first|exact True.intro|refine Cj.mk ?_ ?_)<;>intros<;>refine hD_ ?_)
  exact Frz.aggL ⟨Frz.eq rfl (snS_pure offB.stns),Frz.eq rfl (PureV.v _),Frz.eq rfl (PureV.v _),Frz.eq rfl (PureV.v _),Frz.eq rfl (PureV.v _),Frz.eq rfl (PureV.v _),trivial⟩
theorem note_spec (num day kind:Int):Pure Tryz.prog 79 [n num,n day,n kind] (.agg (noteC num day kind)):=by
  refine Pure.of_body Tryz.call79 Tryz.func79 k79 (Nat.le_of_ble_eq_true rfl) ?_
  unfold c79
  ((refine Au ?_;repeat' first|exact True.intro|refine Cj.mk ?_ ?_)<;>intros<;>refine hD_ ?_)
  exact Frz.aggL ⟨Frz.eq rfl (PureV.v _),Frz.eq rfl (PureV.v _),Frz.eq rfl (PureV.v _),Frz.eq rfl (PureV.v _),Frz.eq rfl (PureV.v _),Frz.eq rfl (PureV.v _),Frz.eq rfl (PureV.v _),Frz.eq rfl (PureV.v _),Frz.eq rfl (PureV.v _),Frz.eq rfl (PureV.v _),Frz.eq rfl (PureV.v _),Frz.eq rfl (PureV.v _),Frz.eq rfl (PureV.v _),Frz.eq rfl (PureV.v _),Frz.eq rfl (PureV.v _),Frz.eq rfl (PureV.v _),Frz.eq rfl (PureV.v _),Frz.nil0,Frz.nil0,Frz.nil0,Frz.nil0,Frz.eq rfl (PureV.v _),Frz.eq rfl (PureV.v _),Frz.eq rfl (PureV.v _),Frz.eq rfl (PureV.v _),Frz.eq rfl (PureV.v _),Frz.eq rfl (PureV.v _),Frz.eq rfl (PureV.v _),Frz.eq rfl (PureV.v _),Frz.eq rfl (PureV.v _),Frz.eq rfl (PureV.v _),Frz.eq rfl (PureV.v _),Frz.eq rfl (PureV.v _),Frz.eq rfl (PureV.v _),Frz.eq rfl (PureV.v _),Frz.eq rfl (PureV.v _),Frz.eq rfl (PureV.v _),Frz.eq rfl (PureV.v _),trivial⟩
theorem chart_spec:Pure Tryz.prog 140 [] (.agg chartS.cs):=by
  refine Pure.of_body Tryz.call140 Tryz.func140 k140 (Nat.le_of_ble_eq_true rfl) ?_
  unfold c140
  ((refine Au ?_;repeat' first|exact True.intro|refine Cj.mk ?_ ?_)<;>intros<;>refine hD_ ?_)
  exact Frz.aggL ⟨Frz.eq rfl (PureV.v _),Frz.eq rfl (PureV.v _),Frz.eq rfl (PureV.v _),Frz.eq rfl (PureV.v _),Frz.eq rfl (PureV.v _),Frz.eq rfl (PureV.v _),Frz.eq rfl (PureV.v _),Frz.eq rfl (PureV.v _),Frz.eq rfl (PureV.v _),Frz.eq rfl (PureV.v _),Frz.nil0,Frz.nil0,Frz.eq rfl (PureV.sl fun e he c hc=>by simp at he; rcases he with rfl | rfl <;> (simp at hc; rcases hc with rfl | rfl <;> exact PureV.v _)),Frz.nil0,Frz.eq rfl (PureV.v _),Frz.eq rfl (PureV.v _),Frz.eq rfl (PureV.v _),Frz.eq rfl (PureV.v _),trivial⟩
theorem sampleF_spec:Pure Tryz.prog 78 [] (.fresh 38 (sampL.map Nt.cs)):=by
  refine Pure.of_body Tryz.call78 Tryz.func78 k78 (Nat.le_of_ble_eq_true rfl) ?_
  unfold c78
  ((refine Ay (And.intro (note_spec 1 10 1) (And.intro (note_spec 2 11 2) (And.intro (note_spec 3 12 3) (And.intro (note_spec 4 13 6) (And.intro (note_spec 5 14 5) @chart_spec))))) ?_;repeat' first|exact True.intro|refine Cj.mk ?_ ?_)<;>intros<;>refine hD_ ?_)
  exact Frz.tightL (T:=68) (cs:=Nt.cs) (l:=sampL) rfl rfl (by decide) (fun a=>Nt.pc a) (fun a=>rfl)
theorem sample_spec:Pure Tryz.prog 78 [] (ntS sampL):=sampleF_spec.slack
def outN:Nt:={ noteN 6 15 7 with ref:=⟨1,1⟩ }
def reg1:Rgr:=⟨[⟨⟨1,1⟩,5,4,chartS,[⟨0,⟨5,6⟩⟩],[⟨1,2⟩]⟩],[⟨5,3,20,⟨10000,10010⟩⟩],offB.stns,[]⟩
def reg2:Rgr:=⟨[⟨⟨1,1⟩,5,3,chartS,[⟨0,⟨4,6⟩⟩],[⟨1,2⟩]⟩],[],offB.stns,[]⟩
def reg3:Rgr:=⟨[],[⟨5,3,20,⟨10000,10010⟩⟩],offB.stns,[⟨1,2⟩,⟨1,4⟩,⟨1,5⟩]⟩
theorem ev1:foldE offB sampL=(reg1,0):=by decide +kernel
theorem ev2:asofE offB sampL 11 100=(reg2,0):=by decide +kernel
theorem ev3:weeksT reg1=[3,4]:=by decide +kernel
theorem ev4:chainE offB sampL ⟨1,2⟩=([⟨1,4⟩],0):=by decide +kernel
theorem ev5:weekE offB reg1 3=(⟨offB,3,[],[⟨5,3,20,⟨10000,10010⟩⟩]⟩,0):=by decide +kernel
theorem ev6:foldE offB (sampL++[outN])=(reg3,0):=by decide +kernel
theorem offSz:bseSz offB:=by
  refine ⟨by decide,fun s hs=>?_⟩
  simp only [offB,List.mem_singleton] at hs
  subst hs
  decide
theorem sampSz:∀ a∈sampL++[outN],ntSz a:=by
  intro a ha
  simp only [sampL,List.cons_append,List.nil_append,List.mem_cons,List.not_mem_nil,or_false] at ha
  rcases ha with rfl | rfl | rfl | rfl | rfl | rfl <;> exact ⟨by decide,by decide,by decide,by decide⟩
theorem sampS:setSz sampL:=⟨by decide,fun a ha=>sampSz a (by simp [ha])⟩
theorem samp6:setSz (sampL++[outN]):=⟨by decide,sampSz⟩
theorem regC:∀ f∈reg1.sheets,fldC f:=by
  intro f hf
  simp only [reg1,List.mem_singleton] at hf
  subst hf
  exact ⟨⟨by decide,by decide,by decide,by decide⟩,by decide,by decide⟩
theorem awake_spec:Pure Tryz.prog 18 [] (bl true):=by
  have f1:=Fold_spec offB offSz sampL sampS
  rw [ev1] at f1
  have f2:=AsOf_spec offB offSz sampL sampS 11 100
  rw [ev2] at f2
  have f3:=Weeks_spec reg1 (by decide) (by decide)
  rw [ev3] at f3
  have f4:=Chain_spec offB offSz sampL sampS ⟨1,2⟩
  rw [ev4] at f4
  have f5:=WeekOf_of sortF0 offB offSz reg1 3 (by decide) (by decide) (by decide) regC (by decide) (by decide)
  rw [ev5] at f5
  have f6:=Fold_spec offB offSz (sampL++[outN]) samp6
  rw [ev6] at f6
  refine Pure.of_body Tryz.call18 Tryz.func18 k18 (Nat.le_of_ble_eq_true rfl) ?_
  unfold c18
  iterate 22
    ((first
 | refine vn rfl ?_
 | simp (disch:=omega) only [wr64,Int.zero_sub]
 | refine bo (fun _=>?_) fun _=>?_
 | refine im fun _=>?_
 | ((repeat refine si ?_); (first | ((first | refine .inl ⟨_,_,_,_,rfl,fun _=>pu (by first | exact office_spec | exact sample_spec | exact f1 | exact f2 | exact f3 | exact f4 | exact f5 | exact f6 | exact note_spec 6 15 7 | exact sameInt [3,4] [3,4] (by decide) (by decide) | exact sameNm [⟨1,4⟩] [⟨1,4⟩] (by decide) (by decide)),?_⟩ | refine ⟨_,_,_,_,rfl,fun _=>pu (by first | exact office_spec | exact sample_spec | exact f1 | exact f2 | exact f3 | exact f4 | exact f5 | exact f6 | exact note_spec 6 15 7 | exact sameInt [3,4] [3,4] (by decide) (by decide) | exact sameNm [⟨1,4⟩] [⟨1,4⟩] (by decide) (by decide)),?_⟩); (first | refine o1 ?_ | refine o2 ?_ | refine o3 ?_ | refine o4 ?_)) | refine .inl ⟨_,_,_,_,rfl,pu (by first | exact office_spec | exact sample_spec | exact f1 | exact f2 | exact f3 | exact f4 | exact f5 | exact f6 | exact note_spec 6 15 7 | exact sameInt [3,4] [3,4] (by decide) (by decide) | exact sameNm [⟨1,4⟩] [⟨1,4⟩] (by decide) (by decide)),?_⟩))
 | refine cF ?_
 | refine om ?_
 | refine an ?_
 | fail) <;> try simp only [zN,zT,zV,zS,zU,vcC,lateX,ex,strp,binA,elems,cells,scalar,eqC,keyA,intsA,lookA,ofVs,mpOf,Nat.reduceBEq,reduceAdd,reduceSub,reduceLT,reduceLeDiff,reduceMul,reduceEqDiff,reduceIte,reg1,reg2,reg3,List.map_cons,List.map_nil,List.length_cons,List.length_nil])
  (repeat' ((first
 | refine vn rfl ?_
 | simp (disch:=omega) only [wr64,Int.zero_sub]
 | refine bo (fun _=>?_) fun _=>?_
 | refine im fun _=>?_
 | ((repeat refine si ?_); (first | ((first | refine .inl ⟨_,_,_,_,rfl,fun _=>pu (by first | exact office_spec | exact sampleF_spec | exact f1 | exact f2 | exact f3 | exact f4 | exact f5 | exact f6 | exact note_spec 6 15 7 | exact sameInt [3,4] [3,4] (by decide) (by decide) | exact sameNm [⟨1,4⟩] [⟨1,4⟩] (by decide) (by decide)),?_⟩ | refine ⟨_,_,_,_,rfl,fun _=>pu (by first | exact office_spec | exact sampleF_spec | exact f1 | exact f2 | exact f3 | exact f4 | exact f5 | exact f6 | exact note_spec 6 15 7 | exact sameInt [3,4] [3,4] (by decide) (by decide) | exact sameNm [⟨1,4⟩] [⟨1,4⟩] (by decide) (by decide)),?_⟩); (first | refine o1 ?_ | refine o2 ?_ | refine o3 ?_ | refine o4 ?_)) | refine .inl ⟨_,_,_,_,rfl,pu (by first | exact office_spec | exact sampleF_spec | exact f1 | exact f2 | exact f3 | exact f4 | exact f5 | exact f6 | exact note_spec 6 15 7 | exact sameInt [3,4] [3,4] (by decide) (by decide) | exact sameNm [⟨1,4⟩] [⟨1,4⟩] (by decide) (by decide)),?_⟩))
 | refine cF ?_
 | refine om ?_
 | refine an ?_
 | fail) <;> try simp only [zN,zT,zV,zS,zU,vcC,lateX,ex,strp,binA,elems,cells,scalar,eqC,keyA,intsA,lookA,ofVs,mpOf,Nat.reduceBEq,reduceAdd,reduceSub,reduceLT,reduceLeDiff,reduceMul,reduceEqDiff,reduceIte,reg1,reg2,reg3,List.map_cons,List.map_nil,List.length_cons,List.length_nil]))
  refine ⟨⟨by simp,by simp [sampL],by decide⟩,?_⟩
  have happ:∀ r,r=Nt.cs outN→List.map Nt.cs sampL++[r]=(sampL++[outN]).map Nt.cs:=by rintro _ rfl; simp
  rw [happ]
  rotate_left
  · rfl
  clear happ
  generalize sampL++[outN]=sx at f6 ⊢
  (repeat' ((first
 | refine vn rfl ?_
 | simp (disch:=omega) only [wr64,Int.zero_sub]
 | refine bo (fun _=>?_) fun _=>?_
 | refine im fun _=>?_
 | ((repeat refine si ?_); (first | ((first | refine .inl ⟨_,_,_,_,rfl,fun _=>pu (by first | exact office_spec | exact sampleF_spec | exact f1 | exact f2 | exact f3 | exact f4 | exact f5 | exact f6 | exact note_spec 6 15 7 | exact sameInt [3,4] [3,4] (by decide) (by decide) | exact sameNm [⟨1,4⟩] [⟨1,4⟩] (by decide) (by decide)),?_⟩ | refine ⟨_,_,_,_,rfl,fun _=>pu (by first | exact office_spec | exact sampleF_spec | exact f1 | exact f2 | exact f3 | exact f4 | exact f5 | exact f6 | exact note_spec 6 15 7 | exact sameInt [3,4] [3,4] (by decide) (by decide) | exact sameNm [⟨1,4⟩] [⟨1,4⟩] (by decide) (by decide)),?_⟩); (first | refine o1 ?_ | refine o2 ?_ | refine o3 ?_ | refine o4 ?_)) | refine .inl ⟨_,_,_,_,rfl,pu (by first | exact office_spec | exact sampleF_spec | exact f1 | exact f2 | exact f3 | exact f4 | exact f5 | exact f6 | exact note_spec 6 15 7 | exact sameInt [3,4] [3,4] (by decide) (by decide) | exact sameNm [⟨1,4⟩] [⟨1,4⟩] (by decide) (by decide)),?_⟩))
 | refine cF ?_
 | refine om ?_
 | refine an ?_
 | fail) <;> try simp only [zN,zT,zV,zS,zU,vcC,lateX,ex,strp,binA,elems,cells,scalar,eqC,keyA,intsA,lookA,ofVs,mpOf,Nat.reduceBEq,reduceAdd,reduceSub,reduceLT,reduceLeDiff,reduceMul,reduceEqDiff,reduceIte,reg1,reg2,reg3,List.map_cons,List.map_nil,List.length_cons,List.length_nil]))
  all_goals exact Frz.eq rfl (by simp)
def c181:CF:=⟨26,(jo [jb 4 false] [0,1]
 (.seq (jo [jm 6 0,je 7 6,jm 8 1,je 9 8,jt .neq 10 7 9] [0,1,10]
 (.cond (.t 10) (jo [jb 4 false] [4]
 .ret)
 .skip))
 (.seq (jo [jc 5 0] [0,1,5]
 (.block 0 (.loop (.seq (jo [jm 11 5,jm 12 0,je 13 12,jt .lss 14 11 13] [0,1,5,14]
 (.cond (.t 14) .skip
 (.exit 0)))
 (.seq (.block 1 (.seq (.draw [jm 17 0,jm 18 5,ji 19 2 17 18,jk 20 2 19,jm 21 1,jm 22 5,ji 23 2 21 22,jk 24 2 23,jw 25 (.eqs true [some .i64,some .i64] (.t 20) (.t 24))] [] [0,1,5,25])
 (.cond (.t 25) (jo [jb 4 false] [4]
 .ret)
 .skip)))
 (.ops [jm 15 5,ju .add 16 15 1,jm 5 16] [0,1,5]))))))
 (jo [jb 4 true] [4]
 .ret)))),[.t 4]⟩
theorem k181:chkF Tryz.prog Tryz.f181 c181=true:=by kernel_rfl
def c117:CF:=⟨39,(jo [jx 2 56 2 0,jx 3 56 2 1,jb 4 false] [2,3]
 (.seq (jo [jf 6 0 2,jl 7 6,jf 8 0 3,jl 9 8,jy 10 181 [7,9],jv 11 10,jm 12 11,jd 12 (jf 13 1 2),jd 12 (jl 14 13),jd 12 (je 15 14),jd 12 (jf 16 1 3),jd 12 (jl 17 16),jd 12 (je 18 17),jd 12 (jt .neq 19 15 18),jq 20 12 19] [2,3,20]
 (.cond (.t 20) (jo [jb 4 false] [4]
 .ret)
 .skip))
 (.seq (jo [jc 5 0] [2,3,5]
 (.block 0 (.loop (.seq (jo [jm 21 5,jf 22 1 2,jl 23 22,je 24 23,jt .lss 25 21 24] [2,3,5,25]
 (.cond (.t 25) .skip
 (.exit 0)))
 (.seq (.block 1 (.seq (.draw [jf 28 1 2,jl 29 28,jm 30 5,ji 31 3 29 30,jk 32 3 31,jf 33 1 3,jl 34 33,jm 35 5,ji 36 3 34 35,jk 37 3 36,jw 38 (.eqs true [some .i64,some .i64,some .i64] (.t 32) (.t 37))] [] [2,3,5,38])
 (.cond (.t 38) (jo [jb 4 false] [4]
 .ret)
 .skip)))
 (.ops [jm 26 5,ju .add 27 26 1,jm 5 27] [2,3,5]))))))
 (jo [jb 4 true] [4]
 .ret)))),[.t 4]⟩
theorem k117:chkF Tryz.prog Tryz.f117 c117=true:=by kernel_rfl
def c53:CF:=⟨61,(jo [jx 2 60 18 0,jx 3 60 18 1,jb 4 false] [2,3]
 (.seq (jo [jf 6 0 2,jk 7 10 6,jf 8 0 3,jk 9 10 8,jw 10 (.eqs true [some .i64,some .i64,some .i64,some .i64,some .i64,some .i64,some .i64,some .i64,some .i64,some .i64] (.t 7) (.t 9)),jm 11 10,jd 11 (jf 12 14 2),jd 11 (jk 13 4 12),jd 11 (jf 14 14 3),jd 11 (jk 15 4 14),⟨some 16,.eqs true [some .i64,some .i64,some .i64,some .i64] (.t 13) (.t 15),some (11,false)⟩,jq 17 11 16,jm 18 17,jd 18 (jf 19 12 2),jd 18 (jk 20 2 19),jd 18 (jf 21 12 3),jd 18 (jk 22 2 21),jd 18 (jy 23 117 [20,22]),jd 18 (jv 24 23),jq 25 18 24,jm 26 25,jd 26 (jf 27 11 2),jd 26 (jl 28 27),jd 26 (jf 29 11 3),jd 26 (jl 30 29),jd 26 (jy 31 68 [28,30]),jd 26 (jv 32 31),jq 33 26 32,jm 34 33,jd 34 (jf 35 10 2),jd 34 (jl 36 35),jd 34 (je 37 36),jd 34 (jf 38 10 3),jd 34 (jl 39 38),jd 34 (je 40 39),jd 34 (jt .neq 41 37 40),jq 42 34 41] [2,3,42]
 (.cond (.t 42) (jo [jb 4 false] [4]
 .ret)
 .skip))
 (.seq (jo [jc 5 0] [2,3,5]
 (.block 0 (.loop (.seq (jo [jm 43 5,jf 44 10 2,jl 45 44,je 46 45,jt .lss 47 43 46] [2,3,5,47]
 (.cond (.t 47) .skip
 (.exit 0)))
 (.seq (.block 1 (.seq (.draw [jf 50 10 2,jl 51 50,jm 52 5,ji 53 3 51 52,jk 54 3 53,jf 55 10 3,jl 56 55,jm 57 5,ji 58 3 56 57,jk 59 3 58,jw 60 (.eqs true [some .i64,some .i64,some .i64] (.t 54) (.t 59))] [] [2,3,5,60])
 (.cond (.t 60) (jo [jb 4 false] [4]
 .ret)
 .skip)))
 (.ops [jm 48 5,ju .add 49 48 1,jm 5 49] [2,3,5]))))))
 (jo [jb 4 true] [4]
 .ret)))),[.t 4]⟩
theorem k53:chkF Tryz.prog Tryz.f53 c53=true:=by kernel_rfl
theorem sameSp (a b:List Sp) (ha:a.length < 9223372036854775808) (hb:b.length < 9223372036854775808):Pure Tryz.prog 181 [spnS a,spnS b] (bl (decide (a=b))):=by
  refine Pure.of_body Tryz.call181 Tryz.func181 k181 (Nat.le_of_ble_eq_true rfl) ?_
  unfold c181
  ((refine Au ?_;repeat' first|exact True.intro|refine Cj.mk ?_ ?_)<;>intros<;>refine hD_ ?_)
  · rename_i h
    rw [decide_eq_false fun e=>by subst e; omega]; exact Frz.eq rfl (by simp)
  rename_i hne
  have hlen:a.length=b.length:=by omega
  refine AWPC.loopI 5 a.length (fun i=>a.take i=b.take i) (by simp) ?_ ?_
  · (simp only [zN,zT,zV,zS,zU,vcC,lateX,ex,strp,binA,elems,cells,scalar,eqC,keyA,intsA,lookA,ofVs,mpOf,Nat.reduceBEq,reduceAdd,reduceSub,reduceLT,reduceLeDiff,reduceMul,reduceEqDiff,reduceIte]; try simp)
  · intro i hi hI
    by_cases hlt:i < a.length
    · have hx:(a.map Sp.cs).getD i []=Sp.cs (a.getD i ⟨0,0⟩):=row _ hlt
      have hy:(b.map Sp.cs).getD i []=Sp.cs (b.getD i ⟨0,0⟩):=row _ (by omega)
      have hk:a.getD i ⟨0,0⟩=b.getD i ⟨0,0⟩↔a.take (i+1)=b.take (i+1):=by
        rw [List.take_add_one,List.take_add_one,hI,getD_lt ⟨0,0⟩ hlt,getD_lt ⟨0,0⟩ (show i < b.length by omega)]; simp
      generalize a.getD i ⟨0,0⟩=x at hx hk
      generalize b.getD i ⟨0,0⟩=y at hy hk
      obtain ⟨x1,x2⟩:=x
      obtain ⟨y1,y2⟩:=y
      simp only [Sp.mk.injEq] at hk
      ((refine Ax (And.intro @hx @hy) ?_;repeat' first|exact True.intro|refine Cj.mk ?_ ?_)<;>intros<;>refine hD_ ?_)
      all_goals try (exfalso; omega)
      · rename_i h
        rw [decide_eq_false fun e=>by
          have:=hk.2 (by rw [e])
          omega]
        exact Frz.eq rfl (by simp)
      · rename_i h
        exact ⟨⟨i+1,hlt,hk.1 (by omega)⟩,by simp,by simp only; omega⟩
    · obtain rfl:i=a.length:=by omega
      ((refine Au ?_;repeat' first|exact True.intro|refine Cj.mk ?_ ?_)<;>intros<;>refine hD_ ?_)
      all_goals try (exfalso; omega)
      rw [List.take_length,hlen,List.take_length] at hI
      rw [decide_eq_true hI]
      exact Frz.eq rfl (by simp)
theorem sameDrum_spec (a b:List Sp × List Mk) (ha:a.1.length < 9223372036854775808∧a.2.length < 9223372036854775808) (hb:b.1.length < 9223372036854775808∧b.2.length < 9223372036854775808):Pure Tryz.prog 117 [.agg [spnS a.1,mkS a.2],.agg [spnS b.1,mkS b.2]] (bl (decide (a=b))):=by
  refine Pure.of_body Tryz.call117 Tryz.func117 k117 (Nat.le_of_ble_eq_true rfl) ?_
  unfold c117
  obtain ⟨a1,a2⟩:=a
  obtain ⟨b1,b2⟩:=b
  simp only at ha hb
  have h1:=sameSp a1 b1 ha.1 hb.1
  by_cases e1:a1=b1
  · rw [decide_eq_true e1] at h1
    by_cases hlen:a2.length=b2.length
    · have hlen':(a2.length:Int)=(b2.length:Int):=by omega
      have hd:decide ((a1,a2)=(b1,b2))=decide (a2=b2):=by rw [decide_eq_decide]; simp [e1]
      rw [hd]
      ((refine Az @hlen' @h1 ?_;repeat' first|exact True.intro|refine Cj.mk ?_ ?_)<;>intros<;>refine hD_ ?_)
      all_goals try (exfalso; omega)
      refine AWPC.loopI 5 a2.length (fun i=>a2.take i=b2.take i) (by simp) ?_ ?_
      · (simp only [zN,zT,zV,zS,zU,vcC,lateX,ex,strp,binA,elems,cells,scalar,eqC,keyA,intsA,lookA,ofVs,mpOf,Nat.reduceBEq,reduceAdd,reduceSub,reduceLT,reduceLeDiff,reduceMul,reduceEqDiff,reduceIte]; try simp)
      · intro i hi hI
        by_cases hlt:i < a2.length
        · have hx:(a2.map Mk.cs).getD i []=Mk.cs (a2.getD i mk0):=row _ hlt
          have hy:(b2.map Mk.cs).getD i []=Mk.cs (b2.getD i mk0):=row _ (by omega)
          have hk:a2.getD i mk0=b2.getD i mk0↔a2.take (i+1)=b2.take (i+1):=by
            rw [List.take_add_one,List.take_add_one,hI,getD_lt mk0 hlt,getD_lt mk0 (show i < b2.length by omega)]; simp
          generalize a2.getD i mk0=x at hx hk
          generalize b2.getD i mk0=y at hy hk
          obtain ⟨x1,⟨x2,x3⟩⟩:=x
          obtain ⟨y1,⟨y2,y3⟩⟩:=y
          simp only [Mk.mk.injEq,Sp.mk.injEq] at hk
          ((refine Ax (And.intro @hx @hy) ?_;repeat' first|exact True.intro|refine Cj.mk ?_ ?_)<;>intros<;>refine hD_ ?_)
          all_goals try (exfalso; omega)
          · rename_i h
            rw [decide_eq_false fun e=>by
              have:=hk.2 (by rw [e])
              omega]
            exact Frz.eq rfl (by simp)
          · rename_i h
            exact ⟨⟨i+1,hlt,hk.1 (by omega)⟩,by simp,by simp only; omega⟩
        · obtain rfl:i=a2.length:=by omega
          ((refine Au ?_;repeat' first|exact True.intro|refine Cj.mk ?_ ?_)<;>intros<;>refine hD_ ?_)
          all_goals try (exfalso; omega)
          rw [List.take_length,hlen,List.take_length] at hI
          rw [decide_eq_true hI]
          exact Frz.eq rfl (by simp)
    · rw [decide_eq_false (fun e=>hlen (by rw [(Prod.mk.inj e).2]))]
      ((refine Ay @h1 ?_;repeat' first|exact True.intro|refine Cj.mk ?_ ?_)<;>intros<;>refine hD_ ?_)
      all_goals try (exfalso; omega)
      all_goals exact Frz.eq rfl (by simp)
  · rw [decide_eq_false e1] at h1
    rw [decide_eq_false (fun e=>e1 (Prod.mk.inj e).1)]
    ((refine Ay @h1 ?_;repeat' first|exact True.intro|refine Cj.mk ?_ ?_)<;>intros<;>refine hD_ ?_)
    all_goals try (exfalso; omega)
    all_goals exact Frz.eq rfl (by simp)
theorem rSameSheet_spec (a b:Sht) (ha:shtSz a) (hb:shtSz b):Pure Tryz.prog 53 [.agg a.cs,.agg b.cs] (bl (decide (a=b))):=by
  refine Pure.of_body Tryz.call53 Tryz.func53 k53 (Nat.le_of_ble_eq_true rfl) ?_
  unfold c53
  have h1:=sameDrum_spec (a.rates,a.stops) (b.rates,b.stops) ⟨ha.2.2.1,ha.2.2.2⟩ ⟨hb.2.2.1,hb.2.2.2⟩
  have h2:=sameInt a.blots b.blots ha.2.1 hb.2.1
  have ht1:=ha.1
  have ht2:=hb.1
  ((refine Ay (And.intro @h1 @h2) ?_;repeat' first|exact True.intro|refine Cj.mk ?_ ?_)<;>intros<;>refine hD_ ?_)
  all_goals try (exfalso; omega)
  · rename_i h
    rw [decide_eq_false fun e=>?_]
    · exact Frz.eq rfl (by simp)
    · subst e
      simp at h
  · rename_i h
    obtain ⟨⟨⟨⟨hp,hn⟩,hd⟩,hb'⟩,ht⟩:(((a.paper=b.paper∧a.pen=b.pen)∧(a.rates,a.stops)=(b.rates,b.stops))∧a.blots=b.blots)∧a.trace.length=b.trace.length:=by
      obtain ⟨⟨p1,p2,p3,p4,p5,p6,⟨p7,p8⟩,⟨p9,p10⟩⟩,_,_,_,_,⟨q1,⟨q2,q3⟩,q4⟩⟩:=a
      obtain ⟨⟨r1,r2,r3,r4,r5,r6,⟨r7,r8⟩,⟨r9,r10⟩⟩,_,_,_,_,⟨s1,⟨s2,s3⟩,s4⟩⟩:=b
      simp only [not_or,Classical.not_not] at h
      obtain ⟨⟨⟨⟨e1,e2⟩,e3⟩,e4⟩,e5⟩:=h
      refine ⟨⟨⟨⟨?_,?_⟩,e3⟩,e4⟩,by exact_mod_cast e5⟩
      · simpa [and_assoc] using e1
      · simpa [and_assoc] using e2
    have hd':decide (a=b)=decide (a.trace=b.trace):=by
      rw [decide_eq_decide]
      obtain ⟨a1,a2,a3,a4,a5,a6⟩:=a
      obtain ⟨b1,b2,b3,b4,b5,b6⟩:=b
      simp only [Sht.mk.injEq,Prod.mk.injEq] at hp hn hd hb' ⊢
      simp [hp,hn,hd,hb']
    rw [hd']
    clear h hd' h1 h2
    obtain ⟨a1,a2,a3,a4,a5,a6⟩:=a
    obtain ⟨b1,b2,b3,b4,b5,b6⟩:=b
    simp only at ht ht1 ht2 ⊢
    have hlen':(a2.length:Int)=(b2.length:Int):=by omega
    refine AWPC.loopI 5 a2.length (fun i=>a2.take i=b2.take i) (by simp) ?_ ?_
    · (simp only [zN,zT,zV,zS,zU,vcC,lateX,ex,strp,binA,elems,cells,scalar,eqC,keyA,intsA,lookA,ofVs,mpOf,Nat.reduceBEq,reduceAdd,reduceSub,reduceLT,reduceLeDiff,reduceMul,reduceEqDiff,reduceIte]; try simp)
    · intro i hi hI
      by_cases hlt:i < a2.length
      · have hx:(a2.map Pt.cs).getD i []=Pt.cs (a2.getD i ⟨0,0,0⟩):=row _ hlt
        have hy:(b2.map Pt.cs).getD i []=Pt.cs (b2.getD i ⟨0,0,0⟩):=row _ (by omega)
        have hk:a2.getD i ⟨0,0,0⟩=b2.getD i ⟨0,0,0⟩↔a2.take (i+1)=b2.take (i+1):=by
          rw [List.take_add_one,List.take_add_one,hI,getD_lt ⟨0,0,0⟩ hlt,getD_lt ⟨0,0,0⟩ (show i < b2.length by omega)]; simp
        generalize a2.getD i ⟨0,0,0⟩=x at hx hk
        generalize b2.getD i ⟨0,0,0⟩=y at hy hk
        obtain ⟨x1,x2,x3⟩:=x
        obtain ⟨y1,y2,y3⟩:=y
        simp only [Pt.mk.injEq] at hk
        ((refine Ax (And.intro @hx @hy) ?_;repeat' first|exact True.intro|refine Cj.mk ?_ ?_)<;>intros<;>refine hD_ ?_)
        all_goals try (exfalso; omega)
        · rename_i h
          rw [decide_eq_false fun e=>by
            have:=hk.2 (by rw [e])
            omega]
          exact Frz.eq rfl (by simp)
        · rename_i h
          exact ⟨⟨i+1,hlt,hk.1 (by omega)⟩,by simp,by simp only; omega⟩
      · obtain rfl:i=a2.length:=by omega
        ((refine Au ?_;repeat' first|exact True.intro|refine Cj.mk ?_ ?_)<;>intros<;>refine hD_ ?_)
        all_goals try (exfalso; omega)
        rw [List.take_length,ht,List.take_length] at hI
        rw [decide_eq_true hI]
        exact Frz.eq rfl (by simp)
def c105:CF:=⟨26,(jo [jb 4 false] [0,1]
 (.seq (jo [jm 6 0,je 7 6,jm 8 1,je 9 8,jt .neq 10 7 9] [0,1,10]
 (.cond (.t 10) (jo [jb 4 false] [4]
 .ret)
 .skip))
 (.seq (jo [jc 5 0] [0,1,5]
 (.block 0 (.loop (.seq (jo [jm 11 5,jm 12 0,je 13 12,jt .lss 14 11 13] [0,1,5,14]
 (.cond (.t 14) .skip
 (.exit 0)))
 (.seq (.block 1 (.seq (.draw [jm 17 0,jm 18 5,ji 19 3 17 18,jk 20 3 19,jm 21 1,jm 22 5,ji 23 3 21 22,jk 24 3 23,jw 25 (.eqs true [some .i64,some .i64,some .i64] (.t 20) (.t 24))] [] [0,1,5,25])
 (.cond (.t 25) (jo [jb 4 false] [4]
 .ret)
 .skip)))
 (.ops [jm 15 5,ju .add 16 15 1,jm 5 16] [0,1,5]))))))
 (jo [jb 4 true] [4]
 .ret)))),[.t 4]⟩
theorem k105:chkF Tryz.prog Tryz.f105 c105=true:=by kernel_rfl
def c93:CF:=⟨26,(jo [jb 4 false] [0,1]
 (.seq (jo [jm 6 0,je 7 6,jm 8 1,je 9 8,jt .neq 10 7 9] [0,1,10]
 (.cond (.t 10) (jo [jb 4 false] [4]
 .ret)
 .skip))
 (.seq (jo [jc 5 0] [0,1,5]
 (.block 0 (.loop (.seq (jo [jm 11 5,jm 12 0,je 13 12,jt .lss 14 11 13] [0,1,5,14]
 (.cond (.t 14) .skip
 (.exit 0)))
 (.seq (.block 1 (.seq (.draw [jm 17 0,jm 18 5,ji 19 5 17 18,jk 20 5 19,jm 21 1,jm 22 5,ji 23 5 21 22,jk 24 5 23,jw 25 (.eqs true [some .i64,some .i64,some .i64,some .i64,some .i64] (.t 20) (.t 24))] [] [0,1,5,25])
 (.cond (.t 25) (jo [jb 4 false] [4]
 .ret)
 .skip)))
 (.ops [jm 15 5,ju .add 16 15 1,jm 5 16] [0,1,5]))))))
 (jo [jb 4 true] [4]
 .ret)))),[.t 4]⟩
theorem k93:chkF Tryz.prog Tryz.f93 c93=true:=by kernel_rfl
def c59:CF:=⟨52,(jo [jx 2 109 4 0,jx 3 109 4 1,jb 4 false] [2,3]
 (.seq (jo [jf 6 0 2,jl 7 6,jf 8 0 3,jl 9 8,jt .neq 10 7 9,jm 11 10,jd 11 (jf 12 1 2),jd 11 (jl 13 12),jd 11 (jf 14 1 3),jd 11 (jl 15 14),jd 11 (jt .neq 16 13 15),jq 17 11 16,jm 18 17,jd 18 (jf 19 2 2),jd 18 (jl 20 19),jd 18 (jf 21 2 3),jd 18 (jl 22 21),jd 18 (jt .neq 23 20 22),jq 24 18 23,jm 25 24,jd 25 (jf 26 3 2),jd 25 (jl 27 26),jd 25 (je 28 27),jd 25 (jf 29 3 3),jd 25 (jl 30 29),jd 25 (je 31 30),jd 25 (jt .neq 32 28 31),jq 33 25 32] [2,3,33]
 (.cond (.t 33) (jo [jb 4 false] [4]
 .ret)
 .skip))
 (.seq (jo [jc 5 0] [2,3,5]
 (.block 0 (.loop (.seq (jo [jm 34 5,jf 35 3 2,jl 36 35,je 37 36,jt .lss 38 34 37] [2,3,5,38]
 (.cond (.t 38) .skip
 (.exit 0)))
 (.seq (.block 1 (.seq (.draw [jf 41 3 2,jl 42 41,jm 43 5,ji 44 3 42 43,jk 45 3 44,jf 46 3 3,jl 47 46,jm 48 5,ji 49 3 47 48,jk 50 3 49,jw 51 (.eqs true [some .i64,some .i64,some .i64] (.t 45) (.t 50))] [] [2,3,5,51])
 (.cond (.t 51) (jo [jb 4 false] [4]
 .ret)
 .skip)))
 (.ops [jm 39 5,ju .add 40 39 1,jm 5 40] [2,3,5]))))))
 (jo [jb 4 true] [4]
 .ret)))),[.t 4]⟩
theorem k59:chkF Tryz.prog Tryz.f59 c59=true:=by kernel_rfl
def c38:CF:=⟨27,(jo [jb 4 false] [0,1]
 (.seq (jo [jm 6 0,je 7 6,jm 8 1,je 9 8,jt .neq 10 7 9] [0,1,10]
 (.cond (.t 10) (jo [jb 4 false] [4]
 .ret)
 .skip))
 (.seq (jo [jc 5 0] [0,1,5]
 (.block 0 (.loop (.seq (jo [jm 11 5,jm 12 0,je 13 12,jt .lss 14 11 13] [0,1,5,14]
 (.cond (.t 14) .skip
 (.exit 0)))
 (.seq (.block 1 (.seq (.draw [jm 17 0,jm 18 5,ji 19 4 17 18,jk 20 4 19,jm 21 1,jm 22 5,ji 23 4 21 22,jk 24 4 23,jy 25 59 [20,24],jv 26 25] [] [0,1,5,26])
 (.cond (.t 26) (jo [jb 4 false] [4]
 .ret)
 .skip)))
 (.ops [jm 15 5,ju .add 16 15 1,jm 5 16] [0,1,5]))))))
 (jo [jb 4 true] [4]
 .ret)))),[.t 4]⟩
theorem k38:chkF Tryz.prog Tryz.f38 c38=true:=by kernel_rfl
def c40:CF:=⟨70,(jo [jb 4 false] [0,1]
 (.seq (jo [jm 8 0,je 9 8,jm 10 1,je 11 10,jt .neq 12 9 11] [0,1,12]
 (.cond (.t 12) (jo [jb 4 false] [4]
 .ret)
 .skip))
 (.seq (jo [jc 5 0] [0,1,5]
 (.block 0 (.loop (.seq (jo [jm 13 5,jm 14 0,je 15 14,jt .lss 16 13 15] [0,1,5,16]
 (.cond (.t 16) .skip
 (.exit 0)))
 (.seq (.block 1 (jo [jm 19 0,jm 20 5,ji 21 24 19 20,jk 22 24 21,jw 6 (.alloc 72 24 z24),js 24 6 22] [0,1,5,6]
 (jo [jm 23 1,jm 24 5,ji 25 24 23 24,jk 26 24 25,jw 7 (.alloc 72 24 z24),js 24 7 26] [0,1,5,6,7]
 (jo [jf 27 0 6,jk 28 2 27,jf 29 0 7,jk 30 2 29,jw 31 (.eqs true [some .i64,some .i64] (.t 28) (.t 30)),jm 32 31,jd 32 (jf 33 2 6),jd 32 (jl 34 33),jd 32 (jf 35 2 7),jd 32 (jl 36 35),jd 32 (jt .neq 37 34 36),jq 38 32 37,jm 39 38,jd 39 (jf 40 3 6),jd 39 (jl 41 40),jd 39 (jf 42 3 7),jd 39 (jl 43 42),jd 39 (jt .neq 44 41 43),jq 45 39 44,jm 46 45,jd 46 (jf 47 4 6),jd 46 (jk 48 18 47),jd 46 (jf 49 4 7),jd 46 (jk 50 18 49),jd 46 (jy 51 53 [48,50]),jd 46 (jv 52 51),jq 53 46 52,jm 54 53,jd 54 (jf 55 22 6),jd 54 (jl 56 55),jd 54 (jf 57 22 7),jd 54 (jl 58 57),jd 54 (jy 59 105 [56,58]),jd 54 (jv 60 59),jq 61 54 60,jm 62 61,jd 62 (jf 63 23 6),jd 62 (jl 64 63),jd 62 (jf 65 23 7),jd 62 (jl 66 65),jd 62 (jy 67 28 [64,66]),jd 62 (jv 68 67),jq 69 62 68] [0,1,5,69]
 (.cond (.t 69) (jo [jb 4 false] [4]
 .ret)
 .skip)))))
 (.ops [jm 17 5,ju .add 18 17 1,jm 5 18] [0,1,5]))))))
 (jo [jb 4 true] [4]
 .ret)))),[.t 4]⟩
theorem k40:chkF Tryz.prog Tryz.f40 c40=true:=by kernel_rfl
theorem sameMk (a b:List Mk) (ha:a.length < 9223372036854775808) (hb:b.length < 9223372036854775808):Pure Tryz.prog 105 [mkS a,mkS b] (bl (decide (a=b))):=by
  refine Pure.of_body Tryz.call105 Tryz.func105 k105 (Nat.le_of_ble_eq_true rfl) ?_
  unfold c105
  ((refine Au ?_;repeat' first|exact True.intro|refine Cj.mk ?_ ?_)<;>intros<;>refine hD_ ?_)
  · rename_i h
    rw [decide_eq_false fun e=>by subst e; omega]; exact Frz.eq rfl (by simp)
  rename_i hne
  have hlen:a.length=b.length:=by omega
  refine AWPC.loopI 5 a.length (fun i=>a.take i=b.take i) (by simp) ?_ ?_
  · (simp only [zN,zT,zV,zS,zU,vcC,lateX,ex,strp,binA,elems,cells,scalar,eqC,keyA,intsA,lookA,ofVs,mpOf,Nat.reduceBEq,reduceAdd,reduceSub,reduceLT,reduceLeDiff,reduceMul,reduceEqDiff,reduceIte]; try simp)
  · intro i hi hI
    by_cases hlt:i < a.length
    · have hx:(a.map Mk.cs).getD i []=Mk.cs (a.getD i mk0):=row _ hlt
      have hy:(b.map Mk.cs).getD i []=Mk.cs (b.getD i mk0):=row _ (by omega)
      have hk:a.getD i mk0=b.getD i mk0↔a.take (i+1)=b.take (i+1):=by
        rw [List.take_add_one,List.take_add_one,hI,getD_lt mk0 hlt,getD_lt mk0 (show i < b.length by omega)]; simp
      generalize a.getD i mk0=x at hx hk
      generalize b.getD i mk0=y at hy hk
      obtain ⟨x1,x2,x3⟩:=x
      obtain ⟨y1,y2,y3⟩:=y
      simp only [Mk.mk.injEq,Sp.mk.injEq] at hk
      ((refine Ax (And.intro @hx @hy) ?_;repeat' first|exact True.intro|refine Cj.mk ?_ ?_)<;>intros<;>refine hD_ ?_)
      all_goals try (exfalso; omega)
      · rename_i h
        rw [decide_eq_false fun e=>by
          have:=hk.2 (by rw [e])
          omega]
        exact Frz.eq rfl (by simp)
      · rename_i h
        exact ⟨⟨i+1,hlt,hk.1 (by omega)⟩,by simp,by simp only; omega⟩
    · obtain rfl:i=a.length:=by omega
      ((refine Au ?_;repeat' first|exact True.intro|refine Cj.mk ?_ ?_)<;>intros<;>refine hD_ ?_)
      all_goals try (exfalso; omega)
      rw [List.take_length,hlen,List.take_length] at hI
      rw [decide_eq_true hI]
      exact Frz.eq rfl (by simp)
theorem sameRd (a b:List Rd) (ha:a.length < 9223372036854775808) (hb:b.length < 9223372036854775808):Pure Tryz.prog 93 [rdS a,rdS b] (bl (decide (a=b))):=by
  refine Pure.of_body Tryz.call93 Tryz.func93 k93 (Nat.le_of_ble_eq_true rfl) ?_
  unfold c93
  ((refine Au ?_;repeat' first|exact True.intro|refine Cj.mk ?_ ?_)<;>intros<;>refine hD_ ?_)
  · rename_i h
    rw [decide_eq_false fun e=>by subst e; omega]; exact Frz.eq rfl (by simp)
  rename_i hne
  have hlen:a.length=b.length:=by omega
  refine AWPC.loopI 5 a.length (fun i=>a.take i=b.take i) (by simp) ?_ ?_
  · (simp only [zN,zT,zV,zS,zU,vcC,lateX,ex,strp,binA,elems,cells,scalar,eqC,keyA,intsA,lookA,ofVs,mpOf,Nat.reduceBEq,reduceAdd,reduceSub,reduceLT,reduceLeDiff,reduceMul,reduceEqDiff,reduceIte]; try simp)
  · intro i hi hI
    by_cases hlt:i < a.length
    · have hx:(a.map Rd.cs).getD i []=Rd.cs (a.getD i rd0):=row _ hlt
      have hy:(b.map Rd.cs).getD i []=Rd.cs (b.getD i rd0):=row _ (by omega)
      have hk:a.getD i rd0=b.getD i rd0↔a.take (i+1)=b.take (i+1):=by
        rw [List.take_add_one,List.take_add_one,hI,getD_lt rd0 hlt,getD_lt rd0 (show i < b.length by omega)]; simp
      generalize a.getD i rd0=x at hx hk
      generalize b.getD i rd0=y at hy hk
      obtain ⟨x1,x2,x3,⟨x4,x5⟩⟩:=x
      obtain ⟨y1,y2,y3,⟨y4,y5⟩⟩:=y
      simp only [Rd.mk.injEq,Sp.mk.injEq] at hk
      ((refine Ax (And.intro @hx @hy) ?_;repeat' first|exact True.intro|refine Cj.mk ?_ ?_)<;>intros<;>refine hD_ ?_)
      all_goals try (exfalso; omega)
      · rename_i h
        rw [decide_eq_false fun e=>by
          have:=hk.2 (by rw [e])
          omega]
        exact Frz.eq rfl (by simp)
      · rename_i h
        exact ⟨⟨i+1,hlt,hk.1 (by omega)⟩,by simp,by simp only; omega⟩
    · obtain rfl:i=a.length:=by omega
      ((refine Au ?_;repeat' first|exact True.intro|refine Cj.mk ?_ ?_)<;>intros<;>refine hD_ ?_)
      all_goals try (exfalso; omega)
      rw [List.take_length,hlen,List.take_length] at hI
      rw [decide_eq_true hI]
      exact Frz.eq rfl (by simp)
theorem sameStn_spec (a b:Stn) (ha:a.heights.length < 9223372036854775808) (hb:b.heights.length < 9223372036854775808):Pure Tryz.prog 59 [.agg a.cs,.agg b.cs] (bl (decide (a=b))):=by
  refine Pure.of_body Tryz.call59 Tryz.func59 k59 (Nat.le_of_ble_eq_true rfl) ?_
  unfold c59
  obtain ⟨i1,x1,y1,l⟩:=a
  obtain ⟨i2,x2,y2,m⟩:=b
  simp only at ha hb
  have hd:decide ((⟨i1,x1,y1,l⟩:Stn)=⟨i2,x2,y2,m⟩)=decide (i1=i2∧x1=x2∧y1=y2∧l=m):=by rw [decide_eq_decide]; simp
  rw [hd]
  by_cases hg:i1=i2∧x1=x2∧y1=y2∧l.length=m.length
  · obtain ⟨g1,g2,g3,hlen⟩:=hg
    have hd2:decide (i1=i2∧x1=x2∧y1=y2∧l=m)=decide (l=m):=by rw [decide_eq_decide]; simp [g1,g2,g3]
    rw [hd2]
    have hlen':(l.length:Int)=(m.length:Int):=by omega
    ((refine Ax (And.intro @hlen' (And.intro @g1 (And.intro @g2 @g3))) ?_;repeat' first|exact True.intro|refine Cj.mk ?_ ?_)<;>intros<;>refine hD_ ?_)
    all_goals try (exfalso; omega)
    refine AWPC.loopI 5 l.length (fun i=>l.take i=m.take i) (by simp) ?_ ?_
    · (simp only [zN,zT,zV,zS,zU,vcC,lateX,ex,strp,binA,elems,cells,scalar,eqC,keyA,intsA,lookA,ofVs,mpOf,Nat.reduceBEq,reduceAdd,reduceSub,reduceLT,reduceLeDiff,reduceMul,reduceEqDiff,reduceIte]; try simp)
    · intro i hi hI
      by_cases hlt:i < l.length
      · have hx:(l.map Hgt.cs).getD i []=Hgt.cs (l.getD i hgt0):=row _ hlt
        have hy:(m.map Hgt.cs).getD i []=Hgt.cs (m.getD i hgt0):=row _ (by omega)
        have hk:l.getD i hgt0=m.getD i hgt0↔l.take (i+1)=m.take (i+1):=by
          rw [List.take_add_one,List.take_add_one,hI,getD_lt hgt0 hlt,getD_lt hgt0 (show i < m.length by omega)]; simp
        generalize l.getD i hgt0=x at hx hk
        generalize m.getD i hgt0=y at hy hk
        obtain ⟨x1,⟨x2,x3⟩⟩:=x
        obtain ⟨y1,⟨y2,y3⟩⟩:=y
        simp only [Hgt.mk.injEq,Sp.mk.injEq] at hk
        ((refine Ax (And.intro @hx @hy) ?_;repeat' first|exact True.intro|refine Cj.mk ?_ ?_)<;>intros<;>refine hD_ ?_)
        all_goals try (exfalso; omega)
        · rename_i h
          rw [decide_eq_false fun e=>by
            have:=hk.2 (by rw [e])
            omega]
          exact Frz.eq rfl (by simp)
        · rename_i h
          exact ⟨⟨i+1,hlt,hk.1 (by omega)⟩,by simp,by simp only; omega⟩
      · obtain rfl:i=l.length:=by omega
        ((refine Au ?_;repeat' first|exact True.intro|refine Cj.mk ?_ ?_)<;>intros<;>refine hD_ ?_)
        all_goals try (exfalso; omega)
        rw [List.take_length,hlen,List.take_length] at hI
        rw [decide_eq_true hI]
        exact Frz.eq rfl (by simp)
  · rw [decide_eq_false (fun h=>hg ⟨h.1,h.2.1,h.2.2.1,by rw [h.2.2.2]⟩)]
    ((refine Au ?_;repeat' first|exact True.intro|refine Cj.mk ?_ ?_)<;>intros<;>refine hD_ ?_)
    all_goals try (exfalso; omega)
    all_goals exact Frz.eq rfl (by simp)
theorem sameStns (a b:List Stn) (ha:stnSz a) (hb:stnSz b):Pure Tryz.prog 38 [snS a,snS b] (bl (decide (a=b))):=by
  refine Pure.of_body Tryz.call38 Tryz.func38 k38 (Nat.le_of_ble_eq_true rfl) ?_
  unfold c38
  have ha0:=ha.1
  have hb0:=hb.1
  by_cases hlen:a.length=b.length
  · have hlen':(a.length:Int)=(b.length:Int):=by omega
    ((refine Ax @hlen' ?_;repeat' first|exact True.intro|refine Cj.mk ?_ ?_)<;>intros<;>refine hD_ ?_)
    all_goals try (exfalso; omega)
    refine AWPC.loopI 5 a.length (fun i=>a.take i=b.take i) (by simp) ?_ ?_
    · (simp only [zN,zT,zV,zS,zU,vcC,lateX,ex,strp,binA,elems,cells,scalar,eqC,keyA,intsA,lookA,ofVs,mpOf,Nat.reduceBEq,reduceAdd,reduceSub,reduceLT,reduceLeDiff,reduceMul,reduceEqDiff,reduceIte]; try simp)
    · intro i hi hI
      by_cases hlt:i < a.length
      · have hx:(a.map Stn.cs).getD i []=Stn.cs (a.getD i default):=row _ hlt
        have hy:(b.map Stn.cs).getD i []=Stn.cs (b.getD i default):=row _ (by omega)
        have hk:a.getD i default=b.getD i default↔a.take (i+1)=b.take (i+1):=by
          rw [List.take_add_one,List.take_add_one,hI,getD_lt default hlt,getD_lt default (show i < b.length by omega)]; simp
        have hc:=sameStn_spec (a.getD i default) (b.getD i default) (ha.2 _ (List.mem_of_getElem? (getD_lt default hlt))) (hb.2 _ (List.mem_of_getElem? (getD_lt default (show i < b.length by omega))))
        by_cases e:a.getD i default=b.getD i default
        · rw [decide_eq_true e] at hc
          have hN:=hk.1 e
          generalize a.getD i default=x at hx hc
          generalize b.getD i default=y at hy hc
          ((refine Az (And.intro @hx @hy) @hc ?_;repeat' first|exact True.intro|refine Cj.mk ?_ ?_)<;>intros<;>refine hD_ ?_)
          all_goals try (exfalso; omega)
          exact ⟨⟨i+1,hlt,hN⟩,by simp,by simp only; omega⟩
        · rw [decide_eq_false e] at hc
          rw [decide_eq_false (fun h:a=b=>e (by rw [h]))]
          generalize a.getD i default=x at hx hc
          generalize b.getD i default=y at hy hc
          ((refine Az (And.intro @hx @hy) @hc ?_;repeat' first|exact True.intro|refine Cj.mk ?_ ?_)<;>intros<;>refine hD_ ?_)
          all_goals try (exfalso; omega)
          exact Frz.eq rfl (by simp)
      · obtain rfl:i=a.length:=by omega
        ((refine Au ?_;repeat' first|exact True.intro|refine Cj.mk ?_ ?_)<;>intros<;>refine hD_ ?_)
        all_goals try (exfalso; omega)
        rw [List.take_length,hlen,List.take_length] at hI
        rw [decide_eq_true hI]
        exact Frz.eq rfl (by simp)
  · rw [decide_eq_false (fun h:a=b=>hlen (by rw [h]))]
    ((refine Au ?_;repeat' first|exact True.intro|refine Cj.mk ?_ ?_)<;>intros<;>refine hD_ ?_)
    all_goals try (exfalso; omega)
    all_goals exact Frz.eq rfl (by simp)
def fld0:Fld:=⟨nm0,0,0,sht0,[],[]⟩
def fldSz (f:Fld):Prop:=shtSz f.sheet∧f.marks.length < 9223372036854775808∧f.names.length < 9223372036854775808
def fldsSz (l:List Fld):Prop:=l.length < 9223372036854775808∧∀ f∈l,fldSz f
theorem sameFld (a b:List Fld) (ha:fldsSz a) (hb:fldsSz b):Pure Tryz.prog 40 [fdS a,fdS b] (bl (decide (a=b))):=by
  refine Pure.of_body Tryz.call40 Tryz.func40 k40 (Nat.le_of_ble_eq_true rfl) ?_
  unfold c40
  have ha0:=ha.1
  have hb0:=hb.1
  by_cases hlen:a.length=b.length
  · have hlen':(a.length:Int)=(b.length:Int):=by omega
    ((refine Ax @hlen' ?_;repeat' first|exact True.intro|refine Cj.mk ?_ ?_)<;>intros<;>refine hD_ ?_)
    all_goals try (exfalso; omega)
    refine AWPC.loopE (α:={ x:Nat × Sto // x.1≤a.length∧a.take x.1=b.take x.1 }) [5] (fun x=>[(5,n x.1.1)]) (fun x=>x.1.2) (fun x=>a.length - x.1.1) ⟨(0,[]),Nat.zero_le _,by simp⟩ ?_ rfl ?_
    · (simp only [zN,zT,zV,zS,zU,vcC,lateX,ex,strp,binA,elems,cells,scalar,eqC,keyA,intsA,lookA,ofVs,mpOf,Nat.reduceBEq,reduceAdd,reduceSub,reduceLT,reduceLeDiff,reduceMul,reduceEqDiff,reduceIte]; try simp)
    · rintro ⟨⟨i,μ⟩,hi,hI⟩
      simp only at hi hI
      by_cases hlt:i < a.length
      · have hx:(a.map Fld.cs).getD i []=Fld.cs (a.getD i fld0):=row _ hlt
        have hy:(b.map Fld.cs).getD i []=Fld.cs (b.getD i fld0):=row _ (by omega)
        have hk:a.getD i fld0=b.getD i fld0↔a.take (i+1)=b.take (i+1):=by
          rw [List.take_add_one,List.take_add_one,hI,getD_lt fld0 hlt,getD_lt fld0 (show i < b.length by omega)]; simp
        have xs:=ha.2 _ (List.mem_of_getElem? (getD_lt fld0 hlt))
        have ys:=hb.2 _ (List.mem_of_getElem? (getD_lt fld0 (show i < b.length by omega)))
        generalize a.getD i fld0=x at hx hk xs
        generalize b.getD i fld0=y at hy hk ys
        have c1:=rSameSheet_spec x.sheet y.sheet xs.1 ys.1
        have c2:=sameMk x.marks y.marks xs.2.1 ys.2.1
        have c3:=sameNm x.names y.names xs.2.2 ys.2.2
        have hk2:(x.name.clerk=y.name.clerk∧x.name.num=y.name.num)∧x.stn=y.stn∧x.week=y.week∧x.sheet=y.sheet∧x.marks=y.marks∧x.names=y.names↔a.take (i+1)=b.take (i+1):=by
          rw [← hk]
          obtain ⟨⟨n1,n2⟩,p1,p2,p3,p4,p5⟩:=x
          obtain ⟨⟨m1,m2⟩,q1,q2,q3,q4,q5⟩:=y
          simp
        by_cases d1:x.sheet=y.sheet
        · rw [decide_eq_true d1] at c1
          by_cases d2:x.marks=y.marks
          · rw [decide_eq_true d2] at c2
            by_cases d3:x.names=y.names
            · rw [decide_eq_true d3] at c3
              have hk3:(x.name.clerk=y.name.clerk∧x.name.num=y.name.num)∧x.stn=y.stn∧x.week=y.week↔a.take (i+1)=b.take (i+1):=by rw [← hk2]; simp [d1,d2,d3]
              clear hk hk2
              ((refine Az (And.intro @hx @hy) (And.intro @c1 (And.intro @c2 @c3)) ?_;repeat' first|exact True.intro|refine Cj.mk ?_ ?_)<;>intros<;>refine hD_ ?_)
              all_goals try (exfalso; omega)
              · rename_i h
                rw [decide_eq_false fun e=>by
                  have:=hk3.2 (by rw [e])
                  omega]
                exact Frz.eq rfl (by simp)
              · rename_i h
                exact ⟨⟨(i+1,μ++[some [⟨72,24,[x.cs],none⟩],some [⟨72,24,[y.cs],none⟩]]),hlt,hk3.1 (by omega)⟩,by simp,by simp,by simp only; omega⟩
            · rw [decide_eq_false d3] at c3
              rw [decide_eq_false (fun h:a=b=>d3 (hk2.2 (by rw [h])).2.2.2.2.2)]
              clear hk hk2
              ((refine Az (And.intro @hx @hy) (And.intro @c1 (And.intro @c2 @c3)) ?_;repeat' first|exact True.intro|refine Cj.mk ?_ ?_)<;>intros<;>refine hD_ ?_)
              all_goals try (exfalso; omega)
              all_goals exact Frz.eq rfl (by simp)
          · rw [decide_eq_false d2] at c2
            rw [decide_eq_false (fun h:a=b=>d2 (hk2.2 (by rw [h])).2.2.2.2.1)]
            clear hk hk2
            ((refine Az (And.intro @hx @hy) (And.intro @c1 (And.intro @c2 @c3)) ?_;repeat' first|exact True.intro|refine Cj.mk ?_ ?_)<;>intros<;>refine hD_ ?_)
            all_goals try (exfalso; omega)
            all_goals exact Frz.eq rfl (by simp)
        · rw [decide_eq_false d1] at c1
          rw [decide_eq_false (fun h:a=b=>d1 (hk2.2 (by rw [h])).2.2.2.1)]
          clear hk hk2
          ((refine Az (And.intro @hx @hy) (And.intro @c1 (And.intro @c2 @c3)) ?_;repeat' first|exact True.intro|refine Cj.mk ?_ ?_)<;>intros<;>refine hD_ ?_)
          all_goals try (exfalso; omega)
          all_goals exact Frz.eq rfl (by simp)
      · obtain rfl:i=a.length:=by omega
        ((refine Au ?_;repeat' first|exact True.intro|refine Cj.mk ?_ ?_)<;>intros<;>refine hD_ ?_)
        all_goals try (exfalso; omega)
        rw [List.take_length,hlen,List.take_length] at hI
        rw [decide_eq_true hI]
        exact Frz.eq rfl (by simp)
  · rw [decide_eq_false (fun h:a=b=>hlen (by rw [h]))]
    ((refine Au ?_;repeat' first|exact True.intro|refine Cj.mk ?_ ?_)<;>intros<;>refine hD_ ?_)
    all_goals try (exfalso; omega)
    all_goals exact Frz.eq rfl (by simp)
def rgrSz (r:Rgr):Prop:=fldsSz r.sheets∧r.reads.length < 9223372036854775808∧stnSz r.stns∧r.confl.length < 9223372036854775808
def c113:CF:=⟨15,(jo [jb 6 false] [0,1,2]
 (jo [jm 7 1,jm 8 0,jt .leq 9 7 8,jm 10 9,ja 10 (jm 11 0),ja 10 (jm 12 2),ja 10 (jt .leq 13 11 12),jp 14 10 13,jm 6 14] [6]
 .ret)),[.t 6]⟩
theorem k113:chkF Tryz.prog Tryz.f113 c113=true:=by kernel_rfl
def c176:CF:=⟨15,(jo [jb 6 false] [0,1,2]
 (jo [jm 7 1,jm 8 0,jt .leq 9 7 8,jm 10 9,ja 10 (jm 11 0),ja 10 (jm 12 2),ja 10 (jt .leq 13 11 12),jp 14 10 13,jm 6 14] [6]
 .ret)),[.t 6]⟩
theorem k176:chkF Tryz.prog Tryz.f176 c176=true:=by kernel_rfl
def c112:CF:=⟨13,(jo [jx 1 24 2 0,jc 2 0] [1]
 (.seq (jo [jf 3 0 1,jl 4 3,jw 5 (.call (.f 176) [(.t 4),(.c (.int .i64 0)),(.c (.int .i64 12000))]),jv 6 5,jm 7 6,jd 7 (jf 8 1 1),jd 7 (jl 9 8),⟨some 10,.call (.f 176) [(.t 9),(.c (.int .i64 0)),(.c (.int .i64 10000))],some (7,false)⟩,jd 7 (jv 11 10),jq 12 7 11] [12]
 (.cond (.t 12) (jo [jc 2 1] [2]
 .ret)
 .skip))
 (jo [jc 2 0] [2]
 .ret))),[.t 2]⟩
theorem k112:chkF Tryz.prog Tryz.f112 c112=true:=by kernel_rfl
def c174:CF:=⟨16,(jo [jx 1 109 4 0,jb 2 false] [1]
 (jo [jf 3 0 1,jl 4 3,jw 5 (.call (.f 176) [(.t 4),(.c (.int .i64 1)),(.c (.int .i64 65535))]),jm 6 5,ja 6 (jf 7 1 1),ja 6 (jl 8 7),⟨some 9,.call (.f 176) [(.t 8),(.c (.int .i64 0)),(.c (.int .i64 2000))],some (6,true)⟩,jp 10 6 9,jm 11 10,ja 11 (jf 12 2 1),ja 11 (jl 13 12),⟨some 14,.call (.f 176) [(.t 13),(.c (.int .i64 0)),(.c (.int .i64 2000))],some (11,true)⟩,jp 15 11 14,jm 2 15] [2]
 .ret)),[.t 2]⟩
theorem k174:chkF Tryz.prog Tryz.f174 c174=true:=by kernel_rfl
def c175:CF:=⟨78,(jo [jb 2 false] [0]
 (.seq (jo [jm 4 0,je 5 4,jw 6 (.call (.f 176) [(.t 5),(.c (.int .i64 1)),(.c (.int .i64 16))]),jv 7 6,jm 8 7,jd 8 (jm 9 0),⟨some 10,.iaddr 3 (.t 9) (.c (.int .i64 0)),some (8,false)⟩,jd 8 (jf 11 0 10),jd 8 (jl 12 11),jd 8 (ju .neq 13 12 0),jq 14 8 13] [0,14]
 (.cond (.t 14) (jo [jb 2 false] [2]
 .ret)
 .skip))
 (.seq (jo [jc 3 0] [0,3]
 (.block 0 (.loop (.seq (jo [jm 15 3,jm 16 0,je 17 16,jt .lss 18 15 17] [0,3,18]
 (.cond (.t 18) .skip
 (.exit 0)))
 (.seq (.block 1 (.seq (.draw [jm 21 0,jm 22 3,ji 23 3 21 22,jf 24 0 23,jl 25 24,ju .gtr 26 25 10000,jm 27 26,jd 27 (jm 28 3),jd 27 (ju .gtr 29 28 0),jd 27 (jm 30 29),ja 30 (jm 31 0),ja 30 (jm 32 3),ja 30 (ji 33 3 31 32),ja 30 (jf 34 0 33),ja 30 (jl 35 34),ja 30 (jm 36 0),ja 30 (jm 37 3),ja 30 (ju .sub 38 37 1),ja 30 (ji 39 3 36 38),ja 30 (jf 40 0 39),ja 30 (jl 41 40),ja 30 (jt .leq 42 35 41),jd 27 (jp 43 30 42),jq 44 27 43,jm 45 44,jd 45 (jm 46 0),jd 45 (jm 47 3),jd 45 (ji 48 3 46 47),jd 45 (jf 49 1 48),jd 45 (jf 50 0 49),jd 45 (jl 51 50),jd 45 (ju .lss 52 51 0),jq 53 45 52,jm 54 53,jd 54 (jm 55 0),jd 54 (jm 56 3),jd 54 (ji 57 3 55 56),jd 54 (jf 58 1 57),jd 54 (jf 59 0 58),jd 54 (jl 60 59),jd 54 (jm 61 0),jd 54 (jm 62 3),jd 54 (ji 63 3 61 62),jd 54 (jf 64 1 63),jd 54 (jf 65 1 64),jd 54 (jl 66 65),jd 54 (jt .gtr 67 60 66),jq 68 54 67,jm 69 68,jd 69 (jm 70 0),jd 69 (jm 71 3),jd 69 (ji 72 3 70 71),jd 69 (jf 73 1 72),jd 69 (jf 74 1 73),jd 69 (jl 75 74),jd 69 (ju .gtr 76 75 4000),jq 77 69 76] [] [0,3,77])
 (.cond (.t 77) (jo [jb 2 false] [2]
 .ret)
 .skip)))
 (.ops [jm 19 3,ju .add 20 19 1,jm 3 20] [0,3]))))))
 (jo [jb 2 true] [2]
 .ret)))),[.t 2]⟩
theorem k175:chkF Tryz.prog Tryz.f175 c175=true:=by kernel_rfl
def c111:CF:=⟨47,(jo [jc 2 0,jc 3 0] [0]
 (.seq (jo [jm 5 0,je 6 5,ju .gtr 7 6 32] [0,7]
 (.cond (.t 7) (jo [jc 2 2,jc 3 0] [2,3]
 .ret)
 .skip))
 (.seq (jo [jc 4 0] [0,4]
 (.block 0 (.loop (.seq (jo [jm 8 4,jm 9 0,je 10 9,jt .lss 11 8 10] [0,4,11]
 (.cond (.t 11) .skip
 (.exit 0)))
 (.seq (.block 1 (.seq (.seq (.draw [jm 14 0,jm 15 4,ji 16 4 14 15,jk 17 4 16,jy 18 174 [17],jv 19 18,jm 20 19,jd 20 (jm 21 4),jd 20 (ju .gtr 22 21 0),jd 20 (jm 23 22),ja 23 (jm 24 0),ja 23 (jm 25 4),ja 23 (ji 26 4 24 25),ja 23 (jf 27 0 26),ja 23 (jl 28 27),ja 23 (jm 29 0),ja 23 (jm 30 4),ja 23 (ju .sub 31 30 1),ja 23 (ji 32 4 29 31),ja 23 (jf 33 0 32),ja 23 (jl 34 33),ja 23 (jt .leq 35 28 34),jd 20 (jp 36 23 35),jq 37 20 36] [] [0,4,37])
 (.cond (.t 37) (jo [jm 38 4,jc 2 50,jm 3 38] [2,3]
 .ret)
 .skip))
 (jo [jm 39 0,jm 40 4,ji 41 4 39 40,jf 42 3 41,jl 43 42,jy 44 175 [43],jv 45 44] [0,4,45]
 (.cond (.t 45) (jo [jm 46 4,jc 2 51,jm 3 46] [2,3]
 .ret)
 .skip))))
 (.ops [jm 12 4,ju .add 13 12 1,jm 4 13] [0,4]))))))
 (jo [jc 2 0,jc 3 0] [2,3]
 .ret)))),[.t 2,.t 3]⟩
theorem k111:chkF Tryz.prog Tryz.f111 c111=true:=by kernel_rfl
theorem within_r (x lo hi:Int):Pure Tryz.prog 113 [n x,n lo,n hi] (bl (decide (inr x lo hi))):=by
  refine Pure.of_body Tryz.call113 Tryz.func113 k113 (Nat.le_of_ble_eq_true rfl) ?_
  unfold c113
  ((refine Au ?_;repeat' first|exact True.intro|refine Cj.mk ?_ ?_)<;>intros<;>refine hD_ ?_)
  all_goals exact Frz.eq (congrArg bl (by simp)) (by simp)
theorem within_r5 (x lo hi:Int):Pure Tryz.prog 176 [n x,n lo,n hi] (bl (decide (inr x lo hi))):=by
  refine Pure.of_body Tryz.call176 Tryz.func176 k176 (Nat.le_of_ble_eq_true rfl) ?_
  unfold c176
  ((refine Au ?_;repeat' first|exact True.intro|refine Cj.mk ?_ ?_)<;>intros<;>refine hD_ ?_)
  all_goals exact Frz.eq (congrArg bl (by simp)) (by simp)
theorem rWind_spec (f e:Int):Pure Tryz.prog 112 [.agg [n f,n e]] (n (if inr f 0 12000∧inr e 0 10000 then 0 else 1)):=by
  refine Pure.of_body Tryz.call112 Tryz.func112 k112 (Nat.le_of_ble_eq_true rfl) ?_
  unfold c112
  ((refine Ay (And.intro (within_r5 f 0 12000) (within_r5 e 0 10000)) ?_;repeat' first|exact True.intro|refine Cj.mk ?_ ?_)<;>intros<;>refine hD_ ?_)
  · rename_i h; rw [if_neg (by omega)]; exact Frz.eq rfl (by simp)
  · rename_i h; rw [if_pos (by omega)]; exact Frz.eq rfl (by simp)
theorem rPlaced_spec (s:Stn):Pure Tryz.prog 174 [.agg s.cs] (bl (decide (inr s.id 1 65535∧inr s.x 0 2000∧inr s.y 0 2000))):=by
  refine Pure.of_body Tryz.call174 Tryz.func174 k174 (Nat.le_of_ble_eq_true rfl) ?_
  unfold c174
  ((refine Ay (And.intro (within_r5 s.id 1 65535) (And.intro (within_r5 s.x 0 2000) (within_r5 s.y 0 2000))) ?_;repeat' first|exact True.intro|refine Cj.mk ?_ ?_)<;>intros<;>refine hD_ ?_)
  all_goals exact Frz.eq (congrArg bl (by rw [Bool.eq_iff_iff]; simp <;> try omega)) (by simp)
theorem rHeights_spec (l:List Hgt) (hl:l.length < 9223372036854775808):Pure Tryz.prog 175 [hgS l] (bl (decide (highOk l))):=by
  refine Pure.of_body Tryz.call175 Tryz.func175 k175 (Nat.le_of_ble_eq_true rfl) ?_
  unfold c175
  have hw:=within_r5 l.length 1 16
  by_cases h16:inr l.length 1 16
  · rw [decide_eq_true h16] at hw
    have h0:(l.map Hgt.cs).getD 0 []=Hgt.cs (l.getD 0 default):=row default (by omega)
    have hk0:highOk l→(l.getD 0 default).week=0:=fun h=>(h.2 0 (by omega)).1 rfl
    by_cases hz:(l.getD 0 default).week=0
    · generalize hg0:l.getD 0 default=g0 at h0 hz
      ((refine Az (And.intro @h0 @hz) @hw ?_;repeat' first|exact True.intro|refine Cj.mk ?_ ?_)<;>intros<;>refine hD_ ?_)
      all_goals try (exfalso; omega)
      refine AWPC.loopI 3 l.length (fun i=>∀ j,j < i→highAt l j) (by simp) ?_ ?_
      · (simp only [zN,zT,zV,zS,zU,vcC,lateX,ex,strp,binA,elems,cells,scalar,eqC,keyA,intsA,lookA,ofVs,mpOf,Nat.reduceBEq,reduceAdd,reduceSub,reduceLT,reduceLeDiff,reduceMul,reduceEqDiff,reduceIte]; try simp)
      · intro i hi hb
        by_cases hlt:i < l.length
        · have hs:(l.map Hgt.cs).getD i []=Hgt.cs (l.getD i default):=row default hlt
          have hp:=rowPrev (f:=Hgt.cs) default hlt
          have hi0:i=0→(l.getD i default).week=0:=fun e=>by rw [e,hg0]; exact hz
          generalize hg:l.getD i default=g at hs hi0
          generalize hg':l.getD (i - 1) default=g' at hp
          ((refine Ax (And.intro @hs @hp) ?_;repeat' first|exact True.intro|refine Cj.mk ?_ ?_)<;>intros<;>refine hD_ ?_)
          all_goals try (exfalso; omega)
          · rename_i h
            rw [decide_eq_false fun hh=>?_]
            · exact Frz.eq rfl (by simp)
            · have:=hh.2 i hlt
              unfold highAt at this
              rw [hg,hg'] at this
              omega
          · rename_i h
            exact ⟨⟨i+1,hlt,all_next hb (by unfold highAt; rw [hg,hg']; omega)⟩,by simp,by simp only; omega⟩
        · obtain rfl:i=l.length:=by omega
          rw [decide_eq_true (show highOk l from ⟨h16,hb⟩)]
          ((refine Au ?_;repeat' first|exact True.intro|refine Cj.mk ?_ ?_)<;>intros<;>refine hD_ ?_)
          all_goals try (exfalso; omega)
          exact Frz.eq rfl (by simp)
    · rw [decide_eq_false (fun h=>hz (hk0 h))]
      generalize l.getD 0 default=g0 at h0 hz
      ((refine Az (And.intro @h0 @hz) @hw ?_;repeat' first|exact True.intro|refine Cj.mk ?_ ?_)<;>intros<;>refine hD_ ?_)
      all_goals try (exfalso; omega)
      all_goals exact Frz.eq rfl (by simp)
  · rw [decide_eq_false h16] at hw
    rw [decide_eq_false (fun h=>h16 h.1)]
    have hx:(l.map Hgt.cs).getD 0 []=[]∨∃ g:Hgt,(l.map Hgt.cs).getD 0 []=Hgt.cs g:=by
      cases l with
      | nil=>exact .inl rfl
      | cons g r=>exact .inr ⟨g,rfl⟩
    rcases hx with hx | ⟨g,hx⟩
    · (repeat' ((first
 | refine vn rfl ?_
 | simp (disch:=omega) only [wr64,Int.zero_sub]
 | refine bo (fun _=>?_) fun _=>?_
 | refine im fun _=>?_
 | ((repeat refine si ?_); (first | ((first | refine .inl ⟨_,_,_,_,rfl,fun _=>pu hw,?_⟩ | refine ⟨_,_,_,_,rfl,fun _=>pu hw,?_⟩); (first | refine o1 ?_ | refine o2 ?_ | refine o3 ?_ | refine o4 ?_)) | refine .inl ⟨_,_,_,_,rfl,pu hw,?_⟩))
 | refine cF ?_
 | refine om ?_
 | refine an ?_
 | fail) <;> try simp only [zN,zT,zV,zS,zU,vcC,lateX,ex,strp,binA,elems,cells,scalar,eqC,keyA,intsA,lookA,ofVs,mpOf,Nat.reduceBEq,reduceAdd,reduceSub,reduceLT,reduceLeDiff,reduceMul,reduceEqDiff,reduceIte,hx,List.getElem?_nil]))
      all_goals try (exfalso; omega)
      all_goals exact Frz.eq rfl (by simp)
    · ((refine Az @hx @hw ?_;repeat' first|exact True.intro|refine Cj.mk ?_ ?_)<;>intros<;>refine hD_ ?_)
      all_goals try (exfalso; omega)
      all_goals exact Frz.eq rfl (by simp)
theorem rCheckStn_spec (l:List Stn) (hl:stnSz l):Pure Tryz.prog 111 [snS l] (.tup [n (stnsE l).1,n (stnsE l).2]):=by
  refine Pure.of_body Tryz.call111 Tryz.func111 k111 (Nat.le_of_ble_eq_true rfl) ?_
  unfold c111
  have hl0:=hl.1
  ((refine Au ?_;repeat' first|exact True.intro|refine Cj.mk ?_ ?_)<;>intros<;>refine hD_ ?_)
  · rename_i h
    unfold stnsE; rw [if_pos (by omega)]; exact Frz.eq rfl (by simp)
  have hlen:¬ 32 < l.length:=by omega
  refine AWPC.loopS (α:={ i:Nat // i≤l.length∧∀ j,j < i→stnE l j=0 }) [4] (fun x=>[(4,n x.1)]) (fun x=>l.length - x.1) ⟨0,Nat.zero_le _,by simp⟩ ?_ ?_
  · (simp only [zN,zT,zV,zS,zU,vcC,lateX,ex,strp,binA,elems,cells,scalar,eqC,keyA,intsA,lookA,ofVs,mpOf,Nat.reduceBEq,reduceAdd,reduceSub,reduceLT,reduceLeDiff,reduceMul,reduceEqDiff,reduceIte]; try simp)
  · rintro ⟨i,hi,hb⟩
    by_cases hlt:i < l.length
    · have hs:(l.map Stn.cs).getD i []=Stn.cs (l.getD i default):=row default hlt
      have hp:=rowPrev (f:=Stn.cs) default hlt
      have hh:=rHeights_spec (l.getD i default).heights (hl.2 _ (List.mem_of_getElem? (getD_lt default hlt)))
      have hc:=rPlaced_spec (l.getD i default)
      generalize hg:l.getD i default=g at hs hh hc
      generalize hg':l.getD (i - 1) default=g' at hp
      have hE:stnE l i=if inr g.id 1 65535∧(0 < i→g'.id < g.id)∧inr g.x 0 2000∧inr g.y 0 2000 then (if highOk g.heights then 0 else 51) else 50:=by unfold stnE; rw [hg,hg']
      have hbad:stnE l i≠0→stnsE l=(stnE l i,i):=fun h=>by unfold stnsE; rw [if_neg hlen,firstE_at hlt hb h]
      ((refine Az (And.intro @hs @hp) (And.intro @hc @hh) ?_;repeat' first|exact True.intro|refine Cj.mk ?_ ?_)<;>intros<;>refine hD_ ?_)
      all_goals try (exfalso; omega)
      all_goals first
        | (have e:stnE l i=50:=by rw [hE,if_neg (by omega)]
           rw [hbad (by omega),e]; exact Frz.eq rfl (by simp))
        | (have e:stnE l i=51:=by rw [hE,if_pos (by omega),if_neg (by simp_all)]
           rw [hbad (by omega),e]; exact Frz.eq rfl (by simp))
        | exact ⟨⟨i+1,hlt,all_next hb (by rw [hE,if_pos (by omega),if_pos (by simp_all)])⟩,by simp,by simp only; omega⟩
    · obtain rfl:i=l.length:=by omega
      ((refine Au ?_;repeat' first|exact True.intro|refine Cj.mk ?_ ?_)<;>intros<;>refine hD_ ?_)
      all_goals try (exfalso; omega)
      unfold stnsE; rw [if_neg hlen,firstE_none hb]; exact Frz.eq rfl (by simp)
def c44:CF:=⟨39,(jo [jx 1 26 6 0,jc 2 0] [1]
 (jo [jf 6 0 1,jl 7 6,jy 8 111 [7],jm 5 8,jz 9 0 5,jz 10 1 5,jm 3 9,jm 4 10] [1,3]
 (.seq (jo [jm 11 3,ju .neq 12 11 0,jm 13 12,jd 13 (jf 14 1 1),jd 13 (jk 15 2 14),jd 13 (jy 16 112 [15]),jd 13 (ju .neq 17 16 0),jq 18 13 17,jm 19 18,jd 19 (jf 20 4 1),jd 19 (jl 21 20),⟨some 22,.call (.f 113) [(.t 21),(.c (.int .i64 1)),(.c (.int .i64 400))],some (19,false)⟩,jd 19 (jv 23 22),jq 24 19 23,jm 25 24,jd 25 (jf 26 3 1),jd 25 (jl 27 26),jd 25 (jf 28 4 1),jd 25 (jl 29 28),⟨some 30,.call (.f 113) [(.t 27),(.c (.int .i64 0)),(.t 29)],some (25,false)⟩,jd 25 (jv 31 30),jq 32 25 31,jm 33 32,jd 33 (jf 34 5 1),jd 33 (jl 35 34),⟨some 36,.call (.f 113) [(.t 35),(.c (.int .i64 1)),(.c (.int .i64 8))],some (33,false)⟩,jd 33 (jv 37 36),jq 38 33 37] [38]
 (.cond (.t 38) (jo [jc 2 100] [2]
 .ret)
 .skip))
 (jo [jc 2 0] [2]
 .ret)))),[.t 2]⟩
theorem k44:chkF Tryz.prog Tryz.f44 c44=true:=by kernel_rfl
theorem rCheckBase_spec (b:Bse) (hb:bseSz b):Pure Tryz.prog 44 [.agg b.cs] (n (if b.ok then 0 else 100)):=by
  refine Pure.of_body Tryz.call44 Tryz.func44 k44 (Nat.le_of_ble_eq_true rfl) ?_
  unfold c44
  have h1:=rWind_spec b.fixed b.each
  ((refine Ay (And.intro (rCheckStn_spec b.stns hb) (And.intro @h1 (And.intro (within_r b.ticks 1 400) (And.intro (within_r b.term 0 b.ticks) (within_r b.clerks 1 8))))) ?_;repeat' first|exact True.intro|refine Cj.mk ?_ ?_)<;>intros<;>refine hD_ ?_)
  all_goals try (exfalso; omega)
  · rename_i h
    rw [if_neg (fun g=>?_)]
    · exact Frz.eq rfl (by simp)
    · obtain ⟨g1,g2,g3,g4,g5,g6⟩:=g
      rw [if_pos ⟨g2,g3⟩] at h; omega
  · rename_i h
    have hw:inr b.fixed 0 12000∧inr b.each 0 10000:=Decidable.byContradiction fun hn=>by rw [if_neg hn] at h; omega
    rw [if_pos (by unfold Bse.ok; omega)]; exact Frz.eq rfl (by simp)
def c33:CF:=⟨39,(jo [jx 1 60 18 0,jb 2 false] [1]
 (jo [jf 3 10 1,jl 4 3,je 5 4,ju .leq 6 5 40,jm 7 6,jd 7 (jf 8 10 1),jd 7 (jl 9 8),jd 7 (je 10 9),jd 7 (ju .gtr 11 10 2000),jd 7 (jm 12 11),ja 12 (jf 13 10 1),ja 12 (jl 14 13),ja 12 (je 15 14),ja 12 (ju .leq 16 15 4000),jd 7 (jp 17 12 16),jq 18 7 17,jm 19 18,ja 19 (jf 20 11 1),ja 19 (jl 21 20),ja 19 (je 22 21),ja 19 (ju .leq 23 22 250),jp 24 19 23,jm 25 24,ja 25 (jf 26 12 1),ja 25 (jf 27 0 26),ja 25 (jl 28 27),ja 25 (je 29 28),ja 25 (ju .leq 30 29 250),jp 31 25 30,jm 32 31,ja 32 (jf 33 12 1),ja 32 (jf 34 1 33),ja 32 (jl 35 34),ja 32 (je 36 35),ja 32 (ju .leq 37 36 40),jp 38 32 37,jm 2 38] [2]
 .ret)),[.t 2]⟩
theorem k33:chkF Tryz.prog Tryz.f33 c33=true:=by kernel_rfl
def c19:CF:=⟨35,(jo [jx 1 26 6 0,jb 2 false] [1]
 (.seq (jo [jf 4 0 1,jl 5 4,je 6 5,ju .gtr 7 6 8,jm 8 7,ja 8 (jf 9 0 1),ja 8 (jl 10 9),ja 8 (je 11 10),ja 8 (ju .leq 12 11 32),jp 13 8 12,jm 14 13,jd 14 (jf 15 0 1),jd 14 (jl 16 15),jd 14 (je 17 16),jd 14 (ju .gtr 18 17 100),jq 19 14 18] [1,19]
 (.cond (.t 19) (jo [jb 2 false] [2]
 .ret)
 .skip))
 (.seq (jo [jc 3 0] [1,3]
 (.block 0 (.loop (.seq (jo [jm 20 3,jf 21 0 1,jl 22 21,je 23 22,jt .lss 24 20 23] [1,3,24]
 (.cond (.t 24) .skip
 (.exit 0)))
 (.seq (.block 1 (jo [jf 27 0 1,jl 28 27,jm 29 3,ji 30 4 28 29,jf 31 3 30,jl 32 31,je 33 32,ju .gtr 34 33 40] [1,3,34]
 (.cond (.t 34) (jo [jb 2 false] [2]
 .ret)
 .skip)))
 (.ops [jm 25 3,ju .add 26 25 1,jm 3 26] [1,3]))))))
 (jo [jb 2 true] [2]
 .ret)))),[.t 2]⟩
theorem k19:chkF Tryz.prog Tryz.f19 c19=true:=by kernel_rfl
def slightB (s:Sht):Bool:=(decide (s.trace.length≤40) || (decide (2000 < s.trace.length) && decide (s.trace.length≤4000))) && decide (s.blots.length≤250) && decide (s.rates.length≤250) && decide (s.stops.length≤40)
def smallB (b:Bse):Bool:=!((decide (8 < b.stns.length) && decide (b.stns.length≤32)) || decide (100 < b.stns.length)) && b.stns.all fun s=>decide (s.heights.length≤40)
theorem slight_spec (s:Sht):Pure Tryz.prog 33 [.agg s.cs] (bl (slightB s)):=by
  refine Pure.of_body Tryz.call33 Tryz.func33 k33 (Nat.le_of_ble_eq_true rfl) ?_
  unfold c33
  ((refine Au ?_;repeat' first|exact True.intro|refine Cj.mk ?_ ?_)<;>intros<;>refine hD_ ?_)
  refine Frz.eq (congrArg bl ?_) (by simp)
  unfold slightB
  rw [Bool.eq_iff_iff]
  simp only [Bool.and_eq_true,Bool.or_eq_true,decide_eq_true_eq]
  omega
theorem small_spec (b:Bse) (hb:bseSz b):Pure Tryz.prog 19 [.agg b.cs] (bl (smallB b)):=by
  refine Pure.of_body Tryz.call19 Tryz.func19 k19 (Nat.le_of_ble_eq_true rfl) ?_
  unfold c19
  have h1:=hb.1
  by_cases hbig:(8 < b.stns.length∧b.stns.length≤32)∨100 < b.stns.length
  · have hE:smallB b=false:=by
      unfold smallB
      have:((decide (8 < b.stns.length) && decide (b.stns.length≤32)) || decide (100 < b.stns.length))=true:=by simpa using hbig
      rw [this]; rfl
    rw [hE]
    ((refine Au ?_;repeat' first|exact True.intro|refine Cj.mk ?_ ?_)<;>intros<;>refine hD_ ?_)
    all_goals first | (exfalso; omega) | exact Frz.eq rfl (by simp)
  · have hE:smallB b=b.stns.all fun s=>decide (s.heights.length≤40):=by
      unfold smallB
      have:((decide (8 < b.stns.length) && decide (b.stns.length≤32)) || decide (100 < b.stns.length))=false:=by rw [Bool.eq_false_iff]; simpa using hbig
      rw [this]; rfl
    rw [hE]
    ((refine Au ?_;repeat' first|exact True.intro|refine Cj.mk ?_ ?_)<;>intros<;>refine hD_ ?_)
    all_goals try (exfalso; omega)
    refine AWPC.loopI 3 b.stns.length (fun i=>((b.stns.drop i).all fun s=>decide (s.heights.length≤40))=b.stns.all fun s=>decide (s.heights.length≤40)) (by simp) ?_ ?_
    · (simp only [zN,zT,zV,zS,zU,vcC,lateX,ex,strp,binA,elems,cells,scalar,eqC,keyA,intsA,lookA,ofVs,mpOf,Nat.reduceBEq,reduceAdd,reduceSub,reduceLT,reduceLeDiff,reduceMul,reduceEqDiff,reduceIte]; try simp)
    · intro i hi hI
      by_cases hlt:i < b.stns.length
      · obtain ⟨x,hx⟩:∃ x,b.stns[i]?=some x:=⟨_,List.getElem?_eq_getElem hlt⟩
        have hh:=hb.2 x (List.mem_of_getElem? hx)
        rw [drop_cons hx,List.all_cons] at hI
        (repeat' ((first
 | refine vn rfl ?_
 | simp (disch:=omega) only [wr64,Int.zero_sub]
 | refine bo (fun _=>?_) fun _=>?_
 | refine im fun _=>?_
 | refine cF ?_
 | refine om ?_
 | refine an ?_
 | fail) <;> try simp only [zN, zT, zV, zS, zU, vcC, lateX, ex, strp, binA, elems, cells, scalar, eqC, keyA, intsA, lookA, ofVs, mpOf, Nat.reduceBEq, reduceAdd, reduceSub, reduceLT, reduceLeDiff, reduceMul, reduceEqDiff, reduceIte, getD_map hx]))
        all_goals try (exfalso; omega)
        · rename_i h
          rw [show decide (x.heights.length≤40)=false by simp; omega,Bool.false_and] at hI
          rw [← hI]
          exact Frz.eq rfl (by simp)
        · rename_i h
          rw [show decide (x.heights.length≤40)=true by simp; omega,Bool.true_and] at hI
          exact ⟨⟨i+1,hlt,hI⟩,by simp,by simp only; omega⟩
      · obtain rfl:i=b.stns.length:=by omega
        rw [List.drop_length,List.all_nil] at hI
        ((refine Au ?_;repeat' first|exact True.intro|refine Cj.mk ?_ ?_)<;>intros<;>refine hD_ ?_)
        all_goals try (exfalso; omega)
        rw [← hI]
        exact Frz.eq rfl (by simp)
theorem cmpN_lt {x y:Nm}:cmpN x y < 0↔(¬ x.clerk=y.clerk∧x.clerk < y.clerk)∨(x.clerk=y.clerk∧x.num < y.num):=by
  unfold cmpN orI sgn
  repeat' split
  all_goals omega
theorem AWPC.nil0 {P:Program} {N:Nat} {rd:Option Nat} {K:Kont} {env:Env} {σ:Sto} {c:C} (k t:Nat) (ht:gt env t=.v (.slice none 0 0)) (h:AWPC P N rd c K ((t,.sl k [])::env) σ):AWPC P N rd c K env σ:=by
  intro code hc n0 X β a w hst
  refine h code hc n0 X β a w { hst with ev:=fun s=>?_ }
  simp only [gt]
  by_cases hs:t=s
  · subst hs
    simp only [beq_self_eq_true,cond_true]
    have:=hst.ev t
    rw [ht] at this
    exact this.nil
  · have:(t == s)=false:=by simpa using hs
    simp only [this,cond_false]
    exact hst.ev s
def c64:CF:=⟨40,(jo [jx 3 37 4 0,jn 6,jc 7 0] [1,2,3]
 (jo [jn 8] [1,2,3,8]
 (.seq (jo [jc 9 0] [1,2,3,8,9]
 (.block 0 (.loop (.seq (jo [jm 10 9,jf 11 1 3,jl 12 11,je 13 12,jt .lss 14 10 13] [1,2,3,8,9,14]
 (.cond (.t 14) .skip
 (.exit 0)))
 (.seq (.block 1 (jo [jf 17 1 3,jl 18 17,jm 19 9,ji 20 5 18 19,jf 21 0 20,jl 22 21,jm 23 1,jt .eql 24 22 23,jm 25 24,ja 25 (jf 26 1 3),ja 25 (jl 27 26),ja 25 (jm 28 9),ja 25 (ji 29 5 27 28),ja 25 (jf 30 1 29),ja 25 (jl 31 30),ja 25 (jm 32 2),ja 25 (jt .eql 33 31 32),jp 34 25 33] [1,2,3,8,9,34]
 (.cond (.t 34) (.ops [jm 35 8,jm 36 9,jw 37 (.bsl false 3 1 1 [.int .i64 0] [(0,1,(.t 36))]),jw 38 (.app 3 1 8 (.t 35) (.t 37)),jm 8 38] [1,2,3,8,9])
 .skip)))
 (.ops [jm 15 9,ju .add 16 15 1,jm 9 16] [1,2,3,8,9]))))))
 (jo [jm 39 8,jm 6 39,jc 7 0] [6,7]
 .ret)))),[.t 6,.t 7]⟩
theorem k64:chkF Tryz.prog Tryz.f64 c64=true:=by kernel_rfl
def c126:CF:=⟨31,(jo [jc 6 0] [0,1,2]
 (.seq (jo [jc 7 0] [0,1,2,7]
 (.block 0 (.loop (.seq (jo [jm 8 7,jm 9 0,je 10 9,jt .lss 11 8 10] [0,1,2,7,11]
 (.cond (.t 11) .skip
 (.exit 0)))
 (.seq (.block 1 (jo [jm 14 0,jm 15 7,ji 16 24 14 15,jf 17 2 16,jl 18 17,jm 19 1,jt .eql 20 18 19,jm 21 20,ja 21 (jm 22 0),ja 21 (jm 23 7),ja 21 (ji 24 24 22 23),ja 21 (jf 25 3 24),ja 21 (jl 26 25),ja 21 (jm 27 2),ja 21 (jt .eql 28 26 27),jp 29 21 28] [0,1,2,7,29]
 (.cond (.t 29) (jo [jm 30 7,jm 6 30] [6]
 .ret)
 .skip)))
 (.ops [jm 12 7,ju .add 13 12 1,jm 7 13] [0,1,2,7]))))))
 (jo [jc 6 (-1)] [6]
 .ret))),[.t 6]⟩
theorem k126:chkF Tryz.prog Tryz.f126 c126=true:=by kernel_rfl
def c61:CF:=⟨17,(jo [jx 3 37 4 0,jc 6 0,jc 7 0] [1,2,3]
 (jo [jf 9 0 3,jl 10 9,jm 11 1,jm 12 2,jy 13 126 [10,11,12],jm 8 13] [8]
 (.seq (jo [jm 14 8,ju .lss 15 14 0] [8,15]
 (.cond (.t 15) (jo [jc 6 0,jc 7 3] [6,7]
 .ret)
 .skip))
 (jo [jm 16 8,jm 6 16,jc 7 0] [6,7]
 .ret)))),[.t 6,.t 7]⟩
theorem k61:chkF Tryz.prog Tryz.f61 c61=true:=by kernel_rfl
def c62:CF:=⟨23,(jo [jx 2 37 4 0,jx 3 29 2 1,jc 4 0,jc 5 0] [2,3]
 (.seq (jo [jc 6 0] [2,3,6]
 (.block 0 (.loop (.seq (jo [jm 7 6,jf 8 0 2,jl 9 8,je 10 9,jt .lss 11 7 10] [2,3,6,11]
 (.cond (.t 11) .skip
 (.exit 0)))
 (.seq (.block 1 (.seq (.draw [jf 14 0 2,jl 15 14,jm 16 6,ji 17 24 15 16,jf 18 0 17,jk 19 2 18,jk 20 2 3,jw 21 (.eqs false [some .i64,some .i64] (.t 19) (.t 20))] [] [2,3,6,21])
 (.cond (.t 21) (jo [jm 22 6,jm 4 22,jc 5 0] [4,5]
 .ret)
 .skip)))
 (.ops [jm 12 6,ju .add 13 12 1,jm 6 13] [2,3,6]))))))
 (jo [jc 4 0,jc 5 3] [4,5]
 .ret))),[.t 4,.t 5]⟩
theorem k62:chkF Tryz.prog Tryz.f62 c62=true:=by kernel_rfl
theorem readsOf_next {l:List Rd} (s w:Int) {i:Nat} (h:i < l.length):readsOf (l.take (i+1)) s w=if (l.getD i rd0).stn == s && (l.getD i rd0).week == w then readsOf (l.take i) s w++[(i:Int)] else readsOf (l.take i) s w:=by
  unfold readsOf
  have h1:(l.take (i+1)).length=i+1:=by rw [List.length_take]; omega
  have h2:(l.take i).length=i:=by rw [List.length_take]; omega
  rw [h1,h2,List.range_succ,List.filter_append,List.map_append]
  have h3:((List.range i).filter fun j=>((l.take (i+1)).getD j rd0).stn == s && ((l.take (i+1)).getD j rd0).week == w)=(List.range i).filter fun j=>((l.take i).getD j rd0).stn == s && ((l.take i).getD j rd0).week == w:=by
    refine List.filter_congr fun j hj=>?_
    have hji:=List.mem_range.1 hj
    have:(l.take (i+1)).getD j rd0=(l.take i).getD j rd0:=by
      rw [List.getD_eq_getElem?_getD,List.getD_eq_getElem?_getD,List.getElem?_take_of_lt (by omega),List.getElem?_take_of_lt hji]
    rw [this]
  have h4:(l.take (i+1)).getD i rd0=l.getD i rd0:=by
    rw [List.getD_eq_getElem?_getD,List.getElem?_take_of_lt (by omega),List.getD_eq_getElem?_getD]
  rw [h3,List.filter_cons,List.filter_nil,h4]
  cases ((l.getD i rd0).stn == s && (l.getD i rd0).week == w) with
  | true=>rw [if_pos rfl,if_pos rfl]; rfl
  | false=>rw [if_neg (by decide),if_neg (by decide)]; simp
theorem readsOf_len (l:List Rd) (s w:Int):(readsOf l s w).length≤l.length:=by
  unfold readsOf
  rw [List.length_map]
  exact Nat.le_trans (List.length_filter_le _ _) (by rw [List.length_range]; exact Nat.le_refl _)
theorem aReadsOf_spec (r:Rgr) (s w:Int) (hl:r.reads.length < 1099511627776):Pure Tryz.prog 63 [.agg r.cs,n s,n w] (.tup [inS (readsOf r.reads s w),n 0]):=by
  refine Pure.of_body Tryz.call63 Tryz.func63 k63 (Nat.le_of_ble_eq_true rfl) ?_
  unfold c63
  ((refine Au ?_;repeat' first|exact True.intro|refine Cj.mk ?_ ?_)<;>intros<;>refine hD_ ?_)
  refine AWPC.own0 3 1 8 rfl ?_
  refine AWPC.loopE (α:={ x:Nat × List Int × Sto // x.1≤r.reads.length∧x.2.1=readsOf (r.reads.take x.1) s w }) [8,14] (fun x=>[(8,.own 0 0 x.1.2.1.length),(14,n x.1.1)]) (fun x=>some [⟨3,1,x.1.2.1.map (fun z=>[n z]),none⟩]::x.1.2.2) (fun x=>r.reads.length - x.1.1) ⟨(0,[],[]),Nat.zero_le _,rfl⟩ ?_ rfl ?_
  · (simp only [zN,zT,zV,zS,zU,vcC,lateX,ex,strp,binA,elems,cells,scalar,eqC,keyA,intsA,lookA,ofVs,mpOf,Nat.reduceBEq,reduceAdd,reduceSub,reduceLT,reduceLeDiff,reduceMul,reduceEqDiff,reduceIte]; try simp)
  · rintro ⟨⟨i,O,μ⟩,hi,hO⟩
    simp only at hi hO ⊢
    have hOl:O.length≤i:=by rw [hO]; exact Nat.le_trans (readsOf_len _ _ _) (by rw [List.length_take]; omega)
    generalize hM:O.map (fun z=>[n z])=M
    have hMl:M.length=O.length:=by rw [← hM,List.length_map]
    by_cases hlt:i < r.reads.length
    · have hx:(r.reads.map Rd.cs).getD i []=Rd.cs (r.reads.getD i rd0):=row rd0 hlt
      have hN:=readsOf_next s w hlt
      rw [← hO] at hN
      generalize r.reads.getD i rd0=x at hx hN
      by_cases h1:x.stn=s
      · by_cases h2:x.week=w
        · rw [show (x.stn == s && x.week == w)=true by simp [h1,h2],if_pos rfl] at hN
          ((refine Ax (And.intro @hx (And.intro @h1 (And.intro @h2 @hMl))) ?_;repeat' first|exact True.intro|refine Cj.mk ?_ ?_)<;>intros<;>refine hD_ ?_)
          all_goals try (exfalso; omega)
          exact ⟨⟨(i+1,O++[(i:Int)],_),hlt,hN.symm⟩,⟨by simp,by simp⟩,by simp [← hM]; rfl,by simp only; omega⟩
        · rw [show (x.stn == s && x.week == w)=false by simp [h2],if_neg (by decide)] at hN
          ((refine Ax (And.intro @hx (And.intro @h1 (And.intro @h2 @hMl))) ?_;repeat' first|exact True.intro|refine Cj.mk ?_ ?_)<;>intros<;>refine hD_ ?_)
          all_goals try (exfalso; omega)
          exact ⟨⟨(i+1,O,_),hlt,hN.symm⟩,⟨by simp,by simp⟩,by simp [← hM]; rfl,by simp only; omega⟩
      · rw [show (x.stn == s && x.week == w)=false by simp [h1],if_neg (by decide)] at hN
        ((refine Ax (And.intro @hx (And.intro @h1 @hMl)) ?_;repeat' first|exact True.intro|refine Cj.mk ?_ ?_)<;>intros<;>refine hD_ ?_)
        all_goals try (exfalso; omega)
        exact ⟨⟨(i+1,O,_),hlt,hN.symm⟩,⟨by simp,by simp⟩,by simp [← hM]; rfl,by simp only; omega⟩
    · obtain rfl:i=r.reads.length:=by omega
      rw [List.take_length] at hO
      ((refine Ax @hMl ?_;repeat' first|exact True.intro|refine Cj.mk ?_ ?_)<;>intros<;>refine hD_ ?_)
      all_goals try (exfalso; omega)
      all_goals exact Frz.tupL ⟨Frz.ownL (cs:=fun z=>[n z]) (by rw [← hM,hO]; rfl) (by simp [hO]) (by decide) (fun a=>by simp) (fun a=>rfl),Frz.pure (by simp),trivial⟩
theorem rReadsOf_spec (r:Rgr) (s w:Int) (hl:r.reads.length < 1099511627776):Pure Tryz.prog 64 [.agg r.cs,n s,n w] (.tup [inS (readsOf r.reads s w),n 0]):=by
  refine Pure.of_body Tryz.call64 Tryz.func64 k64 (Nat.le_of_ble_eq_true rfl) ?_
  unfold c64
  ((refine Au ?_;repeat' first|exact True.intro|refine Cj.mk ?_ ?_)<;>intros<;>refine hD_ ?_)
  refine AWPC.own0 3 1 8 rfl ?_
  refine AWPC.loopE (α:={ x:Nat × List Int × Sto // x.1≤r.reads.length∧x.2.1=readsOf (r.reads.take x.1) s w }) [8,9] (fun x=>[(8,.own 0 0 x.1.2.1.length),(9,n x.1.1)]) (fun x=>some [⟨3,1,x.1.2.1.map (fun z=>[n z]),none⟩]::x.1.2.2) (fun x=>r.reads.length - x.1.1) ⟨(0,[],[]),Nat.zero_le _,rfl⟩ ?_ rfl ?_
  · (simp only [zN,zT,zV,zS,zU,vcC,lateX,ex,strp,binA,elems,cells,scalar,eqC,keyA,intsA,lookA,ofVs,mpOf,Nat.reduceBEq,reduceAdd,reduceSub,reduceLT,reduceLeDiff,reduceMul,reduceEqDiff,reduceIte]; try simp)
  · rintro ⟨⟨i,O,μ⟩,hi,hO⟩
    simp only at hi hO ⊢
    have hOl:O.length≤i:=by rw [hO]; exact Nat.le_trans (readsOf_len _ _ _) (by rw [List.length_take]; omega)
    generalize hM:O.map (fun z=>[n z])=M
    have hMl:M.length=O.length:=by rw [← hM,List.length_map]
    by_cases hlt:i < r.reads.length
    · have hx:(r.reads.map Rd.cs).getD i []=Rd.cs (r.reads.getD i rd0):=row rd0 hlt
      have hN:=readsOf_next s w hlt
      rw [← hO] at hN
      generalize r.reads.getD i rd0=x at hx hN
      by_cases h1:x.stn=s
      · by_cases h2:x.week=w
        · rw [show (x.stn == s && x.week == w)=true by simp [h1,h2],if_pos rfl] at hN
          ((refine Ax (And.intro @hx (And.intro @h1 (And.intro @h2 @hMl))) ?_;repeat' first|exact True.intro|refine Cj.mk ?_ ?_)<;>intros<;>refine hD_ ?_)
          all_goals try (exfalso; omega)
          exact ⟨⟨(i+1,O++[(i:Int)],μ),hlt,hN.symm⟩,⟨by simp,by simp⟩,by simp [← hM],by simp only; omega⟩
        · rw [show (x.stn == s && x.week == w)=false by simp [h2],if_neg (by decide)] at hN
          ((refine Ax (And.intro @hx (And.intro @h1 (And.intro @h2 @hMl))) ?_;repeat' first|exact True.intro|refine Cj.mk ?_ ?_)<;>intros<;>refine hD_ ?_)
          all_goals try (exfalso; omega)
          exact ⟨⟨(i+1,O,μ),hlt,hN.symm⟩,⟨by simp,by simp⟩,by simp [← hM],by simp only; omega⟩
      · rw [show (x.stn == s && x.week == w)=false by simp [h1],if_neg (by decide)] at hN
        ((refine Ax (And.intro @hx (And.intro @h1 @hMl)) ?_;repeat' first|exact True.intro|refine Cj.mk ?_ ?_)<;>intros<;>refine hD_ ?_)
        all_goals try (exfalso; omega)
        exact ⟨⟨(i+1,O,μ),hlt,hN.symm⟩,⟨by simp,by simp⟩,by simp [← hM],by simp only; omega⟩
    · obtain rfl:i=r.reads.length:=by omega
      rw [List.take_length] at hO
      ((refine Ax @hMl ?_;repeat' first|exact True.intro|refine Cj.mk ?_ ?_)<;>intros<;>refine hD_ ?_)
      all_goals try (exfalso; omega)
      all_goals exact Frz.tupL ⟨Frz.ownL (cs:=fun z=>[n z]) (by rw [← hM,hO]; rfl) (by simp [hO]) (by decide) (fun a=>by simp) (fun a=>rfl),Frz.pure (by simp),trivial⟩
theorem rsheetOf_spec (l:List Fld) (hl:l.length < 9223372036854775808) (s w:Int):Pure Tryz.prog 126 [fdS l,n s,n w] (n (match sheetAt l s w with | some j=>(j:Int) | none=>-1)):=by
  refine Pure.of_body Tryz.call126 Tryz.func126 k126 (Nat.le_of_ble_eq_true rfl) ?_
  unfold c126
  have hq:=fidx_opt (fun x:Fld=>x.stn == s && x.week == w) l
  obtain ⟨z,hz⟩:∃ z,z=fidx (fun x:Fld=>x.stn == s && x.week == w) 0 l:=⟨_,rfl⟩
  rw [show (match sheetAt l s w with | some j=>(j:Int) | none=>-1)=z from hz ▸ hq.symm]
  ((refine Au ?_;repeat' first|exact True.intro|refine Cj.mk ?_ ?_)<;>intros<;>refine hD_ ?_)
  refine AWPC.loopI 7 l.length (fun i=>fidx (fun x:Fld=>x.stn == s && x.week == w) i (l.drop i)=z) (by rw [hz,List.drop_zero]) ?_ ?_
  · (simp only [zN,zT,zV,zS,zU,vcC,lateX,ex,strp,binA,elems,cells,scalar,eqC,keyA,intsA,lookA,ofVs,mpOf,Nat.reduceBEq,reduceAdd,reduceSub,reduceLT,reduceLeDiff,reduceMul,reduceEqDiff,reduceIte]; try simp)
  · intro i hi hI
    by_cases hlt:i < l.length
    · obtain ⟨x,hx⟩:∃ x,l[i]?=some x:=⟨_,List.getElem?_eq_getElem hlt⟩
      rw [drop_cons hx,fidx] at hI
      have hr:(l.map Fld.cs).getD i []=Fld.cs x:=getD_map hx
      by_cases h1:x.stn=s
      · by_cases h2:x.week=w
        · rw [if_pos (by simp [h1,h2])] at hI
          ((refine Ax (And.intro @hr (And.intro @h1 @h2)) ?_;repeat' first|exact True.intro|refine Cj.mk ?_ ?_)<;>intros<;>refine hD_ ?_)
          all_goals try (exfalso; omega)
          all_goals (rw [← hI]; exact Frz.eq rfl (by simp))
        · rw [if_neg (by simp [h2])] at hI
          ((refine Ax (And.intro @hr (And.intro @h1 @h2)) ?_;repeat' first|exact True.intro|refine Cj.mk ?_ ?_)<;>intros<;>refine hD_ ?_)
          all_goals try (exfalso; omega)
          all_goals exact ⟨⟨i+1,hlt,by simpa using hI⟩,by simp,by simp only; omega⟩
      · rw [if_neg (by simp [h1])] at hI
        ((refine Ax (And.intro @hr @h1) ?_;repeat' first|exact True.intro|refine Cj.mk ?_ ?_)<;>intros<;>refine hD_ ?_)
        all_goals try (exfalso; omega)
        all_goals exact ⟨⟨i+1,hlt,by simpa using hI⟩,by simp,by simp only; omega⟩
    · obtain rfl:i=l.length:=by omega
      rw [List.drop_length,fidx] at hI
      ((refine Au ?_;repeat' first|exact True.intro|refine Cj.mk ?_ ?_)<;>intros<;>refine hD_ ?_)
      all_goals try (exfalso; omega)
      all_goals (rw [← hI]; exact Frz.eq rfl (by simp))
theorem rSheetOf_spec (r:Rgr) (hr:r.sheets.length < 9223372036854775808) (s w:Int):Pure Tryz.prog 61 [.agg r.cs,n s,n w] (.tup [n ((foundE (sheetAt r.sheets s w)).1:Nat),n (foundE (sheetAt r.sheets s w)).2]):=by
  refine Pure.of_body Tryz.call61 Tryz.func61 k61 (Nat.le_of_ble_eq_true rfl) ?_
  unfold c61
  have h:=rsheetOf_spec r.sheets hr s w
  cases hs:sheetAt r.sheets s w with
  | none =>
    rw [hs] at h
    simp only at h
    ((refine Ay @h ?_;repeat' first|exact True.intro|refine Cj.mk ?_ ?_)<;>intros<;>refine hD_ ?_)
    all_goals try (exfalso; omega)
    all_goals exact Frz.eq rfl (by simp)
  | some j =>
    rw [hs] at h
    simp only at h
    ((refine Ay @h ?_;repeat' first|exact True.intro|refine Cj.mk ?_ ?_)<;>intros<;>refine hD_ ?_)
    all_goals try (exfalso; omega)
    all_goals exact Frz.eq rfl (by simp)
theorem rSheetBy_spec (r:Rgr) (hr:r.sheets.length < 9223372036854775808) (m:Nm):Pure Tryz.prog 62 [.agg r.cs,.agg m.cs] (.tup [n ((foundE (sheetBy r.sheets m)).1:Nat),n (foundE (sheetBy r.sheets m)).2]):=by
  refine Pure.of_body Tryz.call62 Tryz.func62 k62 (Nat.le_of_ble_eq_true rfl) ?_
  unfold c62
  obtain ⟨q,hq⟩:∃ q,q=foundE (sheetBy r.sheets m):=⟨_,rfl⟩
  have hqs:∀ i,i < r.sheets.length→(r.sheets.getD i fld0).name=m→(∀ t,t < i→(r.sheets.getD t fld0).name≠m)→q=(i,0):=fun i hi h1 h2=>by
    rw [hq]
    have:sheetBy r.sheets m=some i:=by
      unfold sheetBy
      rw [List.findIdx?_eq_some_iff_getElem]
      refine ⟨hi,?_,fun j hj=>?_⟩
      · rw [List.getD_eq_getElem?_getD,List.getElem?_eq_getElem hi] at h1
        simpa using h1
      · have:=h2 j hj
        rw [List.getD_eq_getElem?_getD,List.getElem?_eq_getElem (by omega)] at this
        simpa using this
    rw [this]; rfl
  have hqn:(∀ t,t < r.sheets.length→(r.sheets.getD t fld0).name≠m)→q=(0,3):=fun h=>by
    rw [hq]
    have:sheetBy r.sheets m=none:=by
      unfold sheetBy
      rw [List.findIdx?_eq_none_iff]
      intro x hx
      obtain ⟨t,ht,rfl⟩:=List.getElem_of_mem hx
      have:=h t ht
      rw [List.getD_eq_getElem?_getD,List.getElem?_eq_getElem ht] at this
      simpa using this
    rw [this]; rfl
  rw [← hq]
  clear hq
  ((refine Au ?_;repeat' first|exact True.intro|refine Cj.mk ?_ ?_)<;>intros<;>refine hD_ ?_)
  refine AWPC.loopI 6 r.sheets.length (fun i=>∀ t,t < i→(r.sheets.getD t fld0).name≠m) (fun t h=>absurd h (Nat.not_lt_zero _)) ?_ ?_
  · (simp only [zN,zT,zV,zS,zU,vcC,lateX,ex,strp,binA,elems,cells,scalar,eqC,keyA,intsA,lookA,ofVs,mpOf,Nat.reduceBEq,reduceAdd,reduceSub,reduceLT,reduceLeDiff,reduceMul,reduceEqDiff,reduceIte]; try simp)
  · intro i hi hI
    by_cases hlt:i < r.sheets.length
    · have hr:(r.sheets.map Fld.cs).getD i []=Fld.cs (r.sheets.getD i fld0):=row fld0 hlt
      have hY:=fun h=>hqs i hlt h hI
      have hN:(r.sheets.getD i fld0).name≠m→∀ t,t < i+1→(r.sheets.getD t fld0).name≠m:=fun h t ht=>by
        rcases (show t=i∨t < i by omega) with rfl | ht
        · exact h
        · exact hI t ht
      generalize r.sheets.getD i fld0=x at hr hY hN
      have he:x.name=m↔x.name.clerk=m.clerk∧x.name.num=m.num:=by
        obtain ⟨⟨_,_⟩,_⟩:=x
        obtain ⟨_,_⟩:=m
        simp
      by_cases h:x.name=m
      · obtain rfl:=hY h
        obtain ⟨e1,e2⟩:=he.1 h
        ((refine Ax (And.intro @hr (And.intro @e1 @e2)) ?_;repeat' first|exact True.intro|refine Cj.mk ?_ ?_)<;>intros<;>refine hD_ ?_)
        all_goals try (exfalso; omega)
        all_goals exact Frz.eq rfl (by simp)
      · have hN:=hN h
        have he:¬ (x.name.clerk=m.clerk∧x.name.num=m.num):=fun e=>h (he.2 e)
        ((refine Ax @hr ?_;repeat' first|exact True.intro|refine Cj.mk ?_ ?_)<;>intros<;>refine hD_ ?_)
        all_goals try (exfalso; omega)
        all_goals exact ⟨⟨i+1,hlt,hN⟩,by simp,by simp only; omega⟩
    · obtain rfl:i=r.sheets.length:=by omega
      obtain rfl:=hqn hI
      ((refine Au ?_;repeat' first|exact True.intro|refine Cj.mk ?_ ?_)<;>intros<;>refine hD_ ?_)
      all_goals try (exfalso; omega)
      all_goals exact Frz.eq rfl (by simp)
def c60:CF:=⟨95,(jo [jx 1 37 4 0,jb 2 false] [1]
 (.seq (jo [jf 6 0 1,jl 7 6,je 8 7,ju .gtr 9 8 40,jm 10 9,ja 10 (jf 11 0 1),ja 10 (jl 12 11),ja 10 (je 13 12),ja 10 (ju .leq 14 13 64),jp 15 10 14,jm 16 15,jd 16 (jf 17 0 1),jd 16 (jl 18 17),jd 16 (je 19 18),jd 16 (ju .gtr 20 19 128),jq 21 16 20,jm 22 21,jd 22 (jf 23 1 1),jd 22 (jl 24 23),jd 22 (je 25 24),jd 22 (ju .gtr 26 25 60),jd 22 (jm 27 26),ja 27 (jf 28 1 1),ja 27 (jl 29 28),ja 27 (je 30 29),ja 27 (ju .leq 31 30 64),jd 22 (jp 32 27 31),jq 33 22 32,jm 34 33,jd 34 (jf 35 1 1),jd 34 (jl 36 35),jd 34 (je 37 36),jd 34 (ju .gtr 38 37 128),jq 39 34 38,jm 40 39,jd 40 (jf 41 2 1),jd 40 (jl 42 41),jd 40 (je 43 42),jd 40 (ju .gtr 44 43 40),jq 45 40 44,jm 46 45,jd 46 (jf 47 3 1),jd 46 (jl 48 47),jd 46 (je 49 48),jd 46 (ju .gtr 50 49 200),jq 51 46 50] [1,51]
 (.cond (.t 51) (jo [jb 2 false] [2]
 .ret)
 .skip))
 (.seq (jo [jc 3 0] [1,3]
 (.block 0 (.loop (.seq (jo [jm 52 3,jf 53 0 1,jl 54 53,je 55 54,jt .lss 56 52 55] [1,3,56]
 (.cond (.t 56) .skip
 (.exit 0)))
 (.seq (.block 1 (jo [jf 59 0 1,jl 60 59,jm 61 3,ji 62 24 60 61,jk 63 24 62,jw 4 (.alloc 72 24 z24),js 24 4 63] [1,3,4]
 (jo [jf 64 4 4,jk 65 18 64,jy 66 33 [65],jv 67 66,jm 68 67,jd 68 (jf 69 22 4),jd 68 (jl 70 69),jd 68 (je 71 70),jd 68 (ju .gtr 72 71 100),jq 73 68 72,jm 74 73,jd 74 (jf 75 23 4),jd 74 (jl 76 75),jd 74 (je 77 76),jd 74 (ju .gtr 78 77 100),jq 79 74 78] [1,3,79]
 (.cond (.t 79) (jo [jb 2 false] [2]
 .ret)
 .skip))))
 (.ops [jm 57 3,ju .add 58 57 1,jm 3 58] [1,3]))))))
 (.seq (jo [jc 5 0] [1,5]
 (.block 2 (.loop (.seq (jo [jm 80 5,jf 81 2 1,jl 82 81,je 83 82,jt .lss 84 80 83] [1,5,84]
 (.cond (.t 84) .skip
 (.exit 2)))
 (.seq (.block 3 (jo [jf 87 2 1,jl 88 87,jm 89 5,ji 90 4 88 89,jf 91 3 90,jl 92 91,je 93 92,ju .gtr 94 93 40] [1,5,94]
 (.cond (.t 94) (jo [jb 2 false] [2]
 .ret)
 .skip)))
 (.ops [jm 85 5,ju .add 86 85 1,jm 5 86] [1,5]))))))
 (jo [jb 2 true] [2]
 .ret))))),[.t 2]⟩
theorem k60:chkF Tryz.prog Tryz.f60 c60=true:=by kernel_rfl
def thinB (r:Rgr):Bool:=!((decide (40 < r.sheets.length) && decide (r.sheets.length≤64)) || decide (128 < r.sheets.length) || (decide (60 < r.reads.length) && decide (r.reads.length≤64)) || decide (128 < r.reads.length) || decide (40 < r.stns.length) || decide (200 < r.confl.length)) &&
  ((r.sheets.all fun f=>slightB f.sheet && decide (f.marks.length≤100) && decide (f.names.length≤100)) && (r.stns.all fun s=>decide (s.heights.length≤40)))
theorem thin_spec (r:Rgr) (hr:rgrSz r):Pure Tryz.prog 60 [.agg r.cs] (bl (thinB r)):=by
  refine Pure.of_body Tryz.call60 Tryz.func60 k60 (Nat.le_of_ble_eq_true rfl) ?_
  unfold c60
  have h1:=hr.1.1
  have h2:=hr.2.1
  have h3:=hr.2.2.1.1
  have h4:=hr.2.2.2
  by_cases hbig:((((((40 < r.sheets.length∧r.sheets.length≤64)∨128 < r.sheets.length)∨(60 < r.reads.length∧r.reads.length≤64))∨128 < r.reads.length)∨40 < r.stns.length)∨200 < r.confl.length)
  · have hE:thinB r=false:=by
      unfold thinB
      have:((decide (40 < r.sheets.length) && decide (r.sheets.length≤64)) || decide (128 < r.sheets.length) || (decide (60 < r.reads.length) && decide (r.reads.length≤64)) || decide (128 < r.reads.length) || decide (40 < r.stns.length) || decide (200 < r.confl.length))=true:=by simpa using hbig
      rw [this]; rfl
    rw [hE]
    ((refine Au ?_;repeat' first|exact True.intro|refine Cj.mk ?_ ?_)<;>intros<;>refine hD_ ?_)
    all_goals first | (exfalso; omega) | exact Frz.eq rfl (by simp)
  · have hE:thinB r=((r.sheets.all fun f=>slightB f.sheet && decide (f.marks.length≤100) && decide (f.names.length≤100)) && (r.stns.all fun s=>decide (s.heights.length≤40))):=by
      unfold thinB
      have:((decide (40 < r.sheets.length) && decide (r.sheets.length≤64)) || decide (128 < r.sheets.length) || (decide (60 < r.reads.length) && decide (r.reads.length≤64)) || decide (128 < r.reads.length) || decide (40 < r.stns.length) || decide (200 < r.confl.length))=false:=by rw [Bool.eq_false_iff]; simpa using hbig
      rw [this]; rfl
    obtain ⟨z,hz⟩:∃ z,z=thinB r:=⟨_,rfl⟩
    rw [← hz]
    rw [← hz] at hE
    clear hz
    ((refine Au ?_;repeat' first|exact True.intro|refine Cj.mk ?_ ?_)<;>intros<;>refine hD_ ?_)
    all_goals try (exfalso; omega)
    refine AWPC.loopE (α:={ x:Nat × Sto // x.1≤r.sheets.length∧(r.sheets.take x.1).all (fun f=>slightB f.sheet && decide (f.marks.length≤100) && decide (f.names.length≤100))=true }) [3] (fun x=>[(3,n x.1.1)]) (fun x=>x.1.2) (fun x=>r.sheets.length - x.1.1) ⟨(0,[]),Nat.zero_le _,rfl⟩ ?_ rfl ?_
    · (simp only [zN,zT,zV,zS,zU,vcC,lateX,ex,strp,binA,elems,cells,scalar,eqC,keyA,intsA,lookA,ofVs,mpOf,Nat.reduceBEq,reduceAdd,reduceSub,reduceLT,reduceLeDiff,reduceMul,reduceEqDiff,reduceIte]; try simp)
    · rintro ⟨⟨i,μ⟩,hi,hI⟩
      simp only at hi hI ⊢
      by_cases hlt:i < r.sheets.length
      · have hg:=getD_lt fld0 hlt
        have hx:(r.sheets.map Fld.cs).getD i []=Fld.cs (r.sheets.getD i fld0):=row fld0 hlt
        have hsl:=slight_spec (r.sheets.getD i fld0).sheet
        have hzs:=hr.1.2 _ (List.mem_of_getElem? hg)
        have hN:(slightB (r.sheets.getD i fld0).sheet && decide ((r.sheets.getD i fld0).marks.length≤100) && decide ((r.sheets.getD i fld0).names.length≤100))=true→(r.sheets.take (i+1)).all (fun f=>slightB f.sheet && decide (f.marks.length≤100) && decide (f.names.length≤100))=true:=fun h=>by
          rw [List.take_add_one,hg,List.all_append,hI,Option.toList_some,List.all_cons,List.all_nil,h]; rfl
        have hY:(slightB (r.sheets.getD i fld0).sheet && decide ((r.sheets.getD i fld0).marks.length≤100) && decide ((r.sheets.getD i fld0).names.length≤100))=false→z=false:=fun h=>by
          rw [hE]
          have:(r.sheets.all fun f=>slightB f.sheet && decide (f.marks.length≤100) && decide (f.names.length≤100))=false:=by
            rw [List.all_eq_false]
            exact ⟨_,List.mem_of_getElem? hg,by rw [h]; decide⟩
          rw [this]; rfl
        generalize r.sheets.getD i fld0=x at hx hsl hN hY hzs
        obtain ⟨_,hz1,hz2⟩:=hzs
        clear hg hE
        generalize slightB x.sheet=sb at hsl hN hY
        cases sb with
        | false =>
          rw [hY rfl]
          ((refine Az @hx @hsl ?_;repeat' first|exact True.intro|refine Cj.mk ?_ ?_)<;>intros<;>refine hD_ ?_)
          all_goals try (exfalso; omega)
          all_goals exact Frz.eq rfl (by simp)
        | true =>
          by_cases g1:x.marks.length≤100
          · by_cases g2:x.names.length≤100
            · have hN:=hN (by rw [decide_eq_true g1,decide_eq_true g2]; rfl)
              ((refine Az @hx @hsl ?_;repeat' first|exact True.intro|refine Cj.mk ?_ ?_)<;>intros<;>refine hD_ ?_)
              all_goals try (exfalso; omega)
              all_goals exact ⟨⟨(i+1,μ++[some [⟨72,24,[x.cs],none⟩]]),hlt,hN⟩,by simp,by simp,by simp only; omega⟩
            · rw [hY (by rw [decide_eq_false g2,Bool.and_false])]
              ((refine Az @hx @hsl ?_;repeat' first|exact True.intro|refine Cj.mk ?_ ?_)<;>intros<;>refine hD_ ?_)
              all_goals try (exfalso; omega)
              all_goals exact Frz.eq rfl (by simp)
          · rw [hY (by rw [decide_eq_false g1,Bool.and_false,Bool.false_and])]
            ((refine Az @hx @hsl ?_;repeat' first|exact True.intro|refine Cj.mk ?_ ?_)<;>intros<;>refine hD_ ?_)
            all_goals try (exfalso; omega)
            all_goals exact Frz.eq rfl (by simp)
      · obtain rfl:i=r.sheets.length:=by omega
        rw [List.take_length] at hI
        rw [hI,Bool.true_and] at hE
        ((refine Au ?_;repeat' first|exact True.intro|refine Cj.mk ?_ ?_)<;>intros<;>refine hD_ ?_)
        all_goals try (exfalso; omega)
        refine AWPC.loopS (α:={ k:Nat // k≤r.stns.length∧((r.stns.drop k).all fun s=>decide (s.heights.length≤40))=z }) [5] (fun k=>[(5,n k.1)]) (fun k=>r.stns.length - k.1) ⟨0,Nat.zero_le _,by rw [hE]; rfl⟩ ?_ ?_
        · (simp only [zN,zT,zV,zS,zU,vcC,lateX,ex,strp,binA,elems,cells,scalar,eqC,keyA,intsA,lookA,ofVs,mpOf,Nat.reduceBEq,reduceAdd,reduceSub,reduceLT,reduceLeDiff,reduceMul,reduceEqDiff,reduceIte]; try simp)
        · rintro ⟨k,hk,hK⟩
          by_cases hkl:k < r.stns.length
          · obtain ⟨s,hs⟩:∃ s,r.stns[k]?=some s:=⟨_,List.getElem?_eq_getElem hkl⟩
            have hh:=hr.2.2.1.2 s (List.mem_of_getElem? hs)
            rw [drop_cons hs,List.all_cons] at hK
            by_cases g:s.heights.length≤40
            · rw [decide_eq_true g,Bool.true_and] at hK
              (repeat' ((first
 | refine vn rfl ?_
 | simp (disch:=omega) only [wr64,Int.zero_sub]
 | refine bo (fun _=>?_) fun _=>?_
 | refine im fun _=>?_
 | refine cF ?_
 | refine om ?_
 | refine an ?_
 | fail) <;> try simp only [zN, zT, zV, zS, zU, vcC, lateX, ex, strp, binA, elems, cells, scalar, eqC, keyA, intsA, lookA, ofVs, mpOf, Nat.reduceBEq, reduceAdd, reduceSub, reduceLT, reduceLeDiff, reduceMul, reduceEqDiff, reduceIte, getD_map hs]))
              all_goals try (exfalso; omega)
              all_goals exact ⟨⟨k+1,hkl,hK⟩,by simp,by simp only; omega⟩
            · rw [decide_eq_false g,Bool.false_and] at hK
              (repeat' ((first
 | refine vn rfl ?_
 | simp (disch:=omega) only [wr64,Int.zero_sub]
 | refine bo (fun _=>?_) fun _=>?_
 | refine im fun _=>?_
 | refine cF ?_
 | refine om ?_
 | refine an ?_
 | fail) <;> try simp only [zN, zT, zV, zS, zU, vcC, lateX, ex, strp, binA, elems, cells, scalar, eqC, keyA, intsA, lookA, ofVs, mpOf, Nat.reduceBEq, reduceAdd, reduceSub, reduceLT, reduceLeDiff, reduceMul, reduceEqDiff, reduceIte, getD_map hs]))
              all_goals try (exfalso; omega)
              all_goals (rw [← hK]; exact Frz.eq rfl (by simp))
          · obtain rfl:k=r.stns.length:=by omega
            rw [List.drop_length,List.all_nil] at hK
            ((refine Au ?_;repeat' first|exact True.intro|refine Cj.mk ?_ ?_)<;>intros<;>refine hD_ ?_)
            all_goals try (exfalso; omega)
            all_goals (rw [← hK]; exact Frz.eq rfl (by simp))
def putI (l:List Int) (a:Int):List Int:=l.filter (fun x=>decide (x < a))++a::l.filter (fun x=>decide (a < x))
theorem putI_srt {l:List Int} (h:l.Pairwise (· < ·)) (a:Int):(putI l a).Pairwise (· < ·):=by
  unfold putI
  refine List.pairwise_append.2 ⟨h.filter _,List.pairwise_cons.2 ⟨fun x hx=>?_,h.filter _⟩,fun x hx y hy=>?_⟩
  · simpa using (List.mem_filter.1 hx).2
  · have h1:x < a:=by simpa using (List.mem_filter.1 hx).2
    rcases List.mem_cons.1 hy with rfl | hy
    · exact h1
    · have h2:a < y:=by simpa using (List.mem_filter.1 hy).2
      omega
theorem putI_mem {l:List Int} {a x:Int}:x∈putI l a↔x∈l∨x=a:=by
  unfold putI
  simp only [List.mem_append,List.mem_cons,List.mem_filter,decide_eq_true_eq]
  constructor
  · rintro (⟨h,_⟩ | rfl | ⟨h,_⟩)
    · exact .inl h
    · exact .inr rfl
    · exact .inl h
  · rintro (h | rfl)
    · rcases Int.lt_trichotomy x a with g | g | g
      · exact .inl ⟨h,g⟩
      · exact .inr (.inl g)
      · exact .inr (.inr ⟨h,g⟩)
    · exact .inr (.inl rfl)
theorem putI_len (l:List Int) (a:Int):(putI l a).length≤l.length+1:=by
  unfold putI
  have h:∀ l:List Int,(l.filter (fun x=>decide (x < a))).length+(l.filter (fun x=>decide (a < x))).length≤l.length:=by
    intro l
    induction l with
    | nil=>exact Nat.le_refl _
    | cons x r ih =>
      simp only [List.filter_cons,List.length_cons,decide_eq_true_eq]
      by_cases h1:x < a <;> by_cases h2:a < x
      · omega
      · rw [if_pos h1,if_neg h2,List.length_cons]; omega
      · rw [if_neg h1,if_pos h2,List.length_cons]; omega
      · rw [if_neg h1,if_neg h2]; omega
  have:=h l
  rw [List.length_append,List.length_cons]; omega
def c127:CF:=⟨48,(jo [jn 4] [0,1]
 (jo [jn 5] [0,1,5]
 (jo [jb 6 false] [0,1,5,6]
 (.seq (jo [jc 7 0] [0,1,5,6,7]
 (.block 0 (.loop (.seq (jo [jm 8 7,jm 9 0,je 10 9,jt .lss 11 8 10] [0,1,5,6,7,11]
 (.cond (.t 11) .skip
 (.exit 0)))
 (.seq (.block 1 (.seq (jo [jm 14 6,jv 15 14,jm 16 15,ja 16 (jm 17 1),ja 16 (jm 18 0),ja 16 (jm 19 7),ja 16 (ji 20 1 18 19),ja 16 (jl 21 20),ja 16 (jt .leq 22 17 21),jp 23 16 22] [0,1,5,6,7,23]
 (.cond (.t 23) (jo [jm 24 5,jm 25 1,jw 26 (.bsl false 3 1 1 [.int .i64 0] [(0,1,(.t 25))]),jw 27 (.app 3 1 8 (.t 24) (.t 26)),jm 5 27] [0,1,5,7]
 (.ops [jb 6 true] [0,1,5,6,7]))
 .skip))
 (jo [jm 28 0,jm 29 7,ji 30 1 28 29,jl 31 30,jm 32 1,jt .neq 33 31 32] [0,1,5,6,7,33]
 (.cond (.t 33) (.ops [jm 34 5,jm 35 0,jm 36 7,ji 37 1 35 36,jl 38 37,jw 39 (.bsl false 3 1 1 [.int .i64 0] [(0,1,(.t 38))]),jw 40 (.app 3 1 8 (.t 34) (.t 39)),jm 5 40] [0,1,5,6,7])
 .skip))))
 (.ops [jm 12 7,ju .add 13 12 1,jm 7 13] [0,1,5,6,7]))))))
 (.seq (jo [jm 41 6,jv 42 41] [1,5,42]
 (.cond (.t 42) (.ops [jm 43 5,jm 44 1,jw 45 (.bsl false 3 1 1 [.int .i64 0] [(0,1,(.t 44))]),jw 46 (.app 3 1 8 (.t 43) (.t 45)),jm 5 46] [5])
 .skip))
 (jo [jm 47 5,jm 4 47] [4]
 .ret)))))),[.t 4]⟩
theorem k127:chkF Tryz.prog Tryz.f127 c127=true:=by kernel_rfl
def PutS (l:List Int) (a:Int) (i:Nat) (O:List Int) (d:Bool):Prop:=(d=false∧(∀ y∈l.take i,y < a)∧O=l.take i)∨(d=true∧O=putI (l.take i) a∧∃ y∈l.take i,a≤y)
theorem take_lt {l:List Int} (hs:l.Pairwise (· < ·)) {i:Nat} {x:Int} (hx:l[i]?=some x):∀ y∈l.take i,y < x:=fun y hy=>by
  obtain ⟨hi,rfl⟩:=List.getElem?_eq_some_iff.1 hx
  obtain ⟨j,hj,rfl⟩:=List.getElem_of_mem hy
  rw [List.length_take] at hj
  rw [List.getElem_take]
  exact List.pairwise_iff_getElem.1 hs j i (by omega) hi (by omega)
theorem PutS.len {l:List Int} {a:Int} {i:Nat} {O:List Int} {d:Bool} (h:PutS l a i O d):O.length≤i+1:=by
  have h1:(l.take i).length≤i:=by rw [List.length_take]; omega
  rcases h with ⟨_,_,rfl⟩ | ⟨_,rfl,_⟩
  · omega
  · have:=putI_len (l.take i) a; omega
theorem PutS.lt {l:List Int} (hs:l.Pairwise (· < ·)) {a:Int} {i:Nat} {O:List Int} {d:Bool} {x:Int} (h:PutS l a i O d) (hx:l[i]?=some x) (hlt:x < a):d=false∧PutS l a (i+1) (O++[x]) false:=by
  rcases h with ⟨rfl,h1,rfl⟩ | ⟨rfl,_,y,hy,hay⟩
  · refine ⟨rfl,.inl ⟨rfl,fun y hy=>?_,by rw [List.take_add_one,hx]; rfl⟩⟩
    rw [List.take_add_one,hx,Option.toList_some,List.mem_append,List.mem_singleton] at hy
    rcases hy with hy | rfl
    · exact h1 y hy
    · exact hlt
  · have:=take_lt hs hx y hy; omega
theorem putI_all {T:List Int} {a:Int} (h:∀ y∈T,y < a):T.filter (fun x=>decide (x < a))=T∧T.filter (fun x=>decide (a < x))=[] :=
  ⟨List.filter_eq_self.2 fun y hy=>decide_eq_true (h y hy),List.filter_eq_nil_iff.2 fun y hy=>by have:=h y hy; simp; omega⟩
theorem PutS.eq {l:List Int} (hs:l.Pairwise (· < ·)) {a:Int} {i:Nat} {O:List Int} {d:Bool} (h:PutS l a i O d) (hx:l[i]?=some a):d=false∧PutS l a (i+1) (O++[a]) true:=by
  have hT:=take_lt hs hx
  rcases h with ⟨rfl,h1,rfl⟩ | ⟨rfl,_,y,hy,hay⟩
  · refine ⟨rfl,.inr ⟨rfl,?_,a,by rw [List.take_add_one,hx]; simp,Int.le_refl _⟩⟩
    rw [List.take_add_one,hx,Option.toList_some]
    unfold putI
    obtain ⟨f1,f2⟩:=putI_all h1
    rw [List.filter_append,List.filter_append,f1,f2]
    simp
  · have:=hT y hy; omega
theorem PutS.gt0 {l:List Int} {a:Int} {i:Nat} {O:List Int} {x:Int} (h:PutS l a i O false) (hx:l[i]?=some x) (hlt:a < x):PutS l a (i+1) (O++[a]++[x]) true:=by
  rcases h with ⟨_,h1,rfl⟩ | ⟨h,_⟩
  · refine .inr ⟨rfl,?_,x,by rw [List.take_add_one,hx]; simp,by omega⟩
    rw [List.take_add_one,hx,Option.toList_some]
    unfold putI
    obtain ⟨f1,f2⟩:=putI_all h1
    have g1:decide (x < a)=false:=decide_eq_false (by omega)
    rw [List.filter_append,List.filter_append,f1,f2,List.filter_cons,List.filter_cons,g1,decide_eq_true hlt]
    simp
  · cases h
theorem PutS.gt1 {l:List Int} {a:Int} {i:Nat} {O:List Int} {x:Int} (h:PutS l a i O true) (hx:l[i]?=some x) (hlt:a < x):PutS l a (i+1) (O++[x]) true:=by
  rcases h with ⟨h,_⟩ | ⟨_,rfl,y,hy,hay⟩
  · cases h
  · refine .inr ⟨rfl,?_,y,by rw [List.take_add_one]; exact List.mem_append.2 (.inl hy),hay⟩
    rw [List.take_add_one,hx,Option.toList_some]
    unfold putI
    have g1:decide (x < a)=false:=decide_eq_false (by omega)
    rw [List.filter_append,List.filter_append,List.filter_cons,List.filter_cons,g1,decide_eq_true hlt]
    simp
theorem put_spec (l:List Int) (a:Int) (hs:l.Pairwise (· < ·)) (hl:l.length < 1099511627776):Pure Tryz.prog 127 [inS l,n a] (inS (putI l a)):=by
  refine Pure.of_body Tryz.call127 Tryz.func127 k127 (Nat.le_of_ble_eq_true rfl) ?_
  unfold c127
  ((refine Au ?_;repeat' first|exact True.intro|refine Cj.mk ?_ ?_)<;>intros<;>refine hD_ ?_)
  refine AWPC.own0 3 1 5 rfl ?_
  refine AWPC.loopE (α:={ x:Nat × List Int × Bool × Sto // x.1≤l.length∧PutS l a x.1 x.2.1 x.2.2.1 }) [5,6,7] (fun x=>[(5,.own 0 0 x.1.2.1.length),(6,bl x.1.2.2.1),(7,n x.1.1)]) (fun x=>some [⟨3,1,x.1.2.1.map (fun z=>[n z]),none⟩]::x.1.2.2.2) (fun x=>l.length - x.1.1) ⟨(0,[],false,[]),Nat.zero_le _,.inl ⟨rfl,fun y hy=>by simp at hy,rfl⟩⟩ ?_ rfl ?_
  · (simp only [zN,zT,zV,zS,zU,vcC,lateX,ex,strp,binA,elems,cells,scalar,eqC,keyA,intsA,lookA,ofVs,mpOf,Nat.reduceBEq,reduceAdd,reduceSub,reduceLT,reduceLeDiff,reduceMul,reduceEqDiff,reduceIte]; try simp)
  · rintro ⟨⟨i,O,d,μ⟩,hi,hP⟩
    simp only at hi hP ⊢
    have hOl:=hP.len
    generalize hM:O.map (fun z=>[n z])=M
    have hMl:M.length=O.length:=by rw [← hM,List.length_map]
    by_cases hlt:i < l.length
    · have hg:=getD_lt (0:Int) hlt
      have hx:(l.map fun z=>[n z]).getD i []=[n (l.getD i 0)]:=getD_map hg
      generalize l.getD i 0=x at hg hx
      rcases Int.lt_trichotomy x a with h | h | h
      · obtain ⟨rfl,hN⟩:=hP.lt hs hg h
        ((refine Ax (And.intro @hx @hMl) ?_;repeat' first|exact True.intro|refine Cj.mk ?_ ?_)<;>intros<;>refine hD_ ?_)
        all_goals try (exfalso; omega)
        all_goals exact ⟨⟨(i+1,O++[x],false,μ),hlt,hN⟩,⟨by simp,by simp,by simp⟩,by simp [← hM],by simp only; omega⟩
      · subst h
        obtain ⟨rfl,hN⟩:=hP.eq hs hg
        ((refine Ax (And.intro @hx @hMl) ?_;repeat' first|exact True.intro|refine Cj.mk ?_ ?_)<;>intros<;>refine hD_ ?_)
        all_goals try (exfalso; omega)
        all_goals exact ⟨⟨(i+1,O++[x],true,μ),hlt,hN⟩,⟨by simp,by simp,by simp⟩,by simp [← hM],by simp only; omega⟩
      · cases d with
        | false =>
          have hN:=hP.gt0 hg h
          ((refine Ax (And.intro @hx @hMl) ?_;repeat' first|exact True.intro|refine Cj.mk ?_ ?_)<;>intros<;>refine hD_ ?_)
          all_goals try (exfalso; omega)
          all_goals exact ⟨⟨(i+1,O++[a]++[x],true,μ),hlt,hN⟩,⟨by simp,by simp,by simp⟩,by simp [← hM],by simp only; omega⟩
        | true =>
          have hN:=hP.gt1 hg h
          ((refine Ax (And.intro @hx @hMl) ?_;repeat' first|exact True.intro|refine Cj.mk ?_ ?_)<;>intros<;>refine hD_ ?_)
          all_goals try (exfalso; omega)
          all_goals exact ⟨⟨(i+1,O++[x],true,μ),hlt,hN⟩,⟨by simp,by simp,by simp⟩,by simp [← hM],by simp only; omega⟩
    · obtain rfl:i=l.length:=by omega
      rcases hP with ⟨rfl,h1,h2⟩ | ⟨rfl,h1,_⟩
      · rw [List.take_length] at h1 h2
        have hf:putI l a=O++[a]:=by
          obtain ⟨f1,f2⟩:=putI_all h1
          unfold putI
          rw [f1,f2,h2]
        rw [hf]
        ((refine Ax @hMl ?_;repeat' first|exact True.intro|refine Cj.mk ?_ ?_)<;>intros<;>refine hD_ ?_)
        all_goals try (exfalso; omega)
        all_goals exact Frz.ownL (cs:=fun z=>[n z]) (by rw [← hM]; simp; rfl) (by simp) (by decide) (fun a=>by simp) (fun a=>rfl)
      · rw [List.take_length] at h1
        rw [← h1]
        ((refine Ax @hMl ?_;repeat' first|exact True.intro|refine Cj.mk ?_ ?_)<;>intros<;>refine hD_ ?_)
        all_goals try (exfalso; omega)
        all_goals exact Frz.ownL (cs:=fun z=>[n z]) (by rw [← hM]; rfl) (by simp) (by decide) (fun a=>by simp) (fun a=>rfl)
end Go.Proofs.YtolgelipcgcbhaaGreat
namespace Go.Abs
set_option linter.unusedVariables false
set_option linter.unusedSimpArgs false
theorem SameS.len {b l:List Stn} (h:SameS b l):l.length=b.length:=by
  have:=congrArg List.length h.ids
  simpa using this
theorem SameS.id {b l:List Stn} (h:SameS b l) (i:Nat) (hi:i < b.length):(l.getD i default).id=(b.getD i default).id:=by
  have h1:=congrArg (fun x=>x[i]?) h.ids
  simp only [List.getElem?_map] at h1
  have hl:i < l.length:=by rw [h.len]; exact hi
  rw [List.getElem?_eq_getElem hl,List.getElem?_eq_getElem hi] at h1
  rw [List.getD_eq_getElem?_getD,List.getD_eq_getElem?_getD,List.getElem?_eq_getElem hl,List.getElem?_eq_getElem hi]
  simpa using h1
section
variable {α:Type} (key:α→Int)
def StEq (x y:List α):Prop:=∀ k,x.filter (fun a=>decide (key a=k))=y.filter (fun a=>decide (key a=k))
abbrev KSrt (x:List α):Prop:=x.Pairwise (fun a b=>key a≤key b)
variable {key}
theorem StEq.refl (x:List α):StEq key x x:=fun _=>rfl
theorem StEq.symm {x y:List α} (h:StEq key x y):StEq key y x:=fun k=>(h k).symm
theorem StEq.trans {x y z:List α} (h:StEq key x y) (g:StEq key y z):StEq key x z:=fun k=>(h k).trans (g k)
theorem StEq.app {x y u v:List α} (h:StEq key x y) (g:StEq key u v):StEq key (x++u) (y++v):=fun k=>by
  rw [List.filter_append,List.filter_append,h k,g k]
theorem StEq.mem {x y:List α} (h:StEq key x y) {a:α}:a∈x↔a∈y:=by
  have key':∀ {x y:List α},StEq key x y→a∈x→a∈y:=fun {x y} h ha=>by
    have:a∈x.filter (fun c=>decide (key c=key a)):=List.mem_filter.2 ⟨ha,by simp⟩
    rw [h (key a)] at this
    exact (List.mem_filter.1 this).1
  exact ⟨key' h,key' h.symm⟩
theorem StEq.swap {x y:List α} (h:∀ a∈x,∀ b∈y,key a≠key b):StEq key (x++y) (y++x):=fun k=>by
  rw [List.filter_append,List.filter_append]
  by_cases hx:(x.filter fun a=>decide (key a=k))=[]
  · rw [hx,List.append_nil,List.nil_append]
  · have hy:(y.filter fun a=>decide (key a=k))=[]:=by
      rw [List.filter_eq_nil_iff]
      intro b hb e
      obtain ⟨a,ha⟩:=List.exists_mem_of_ne_nil _ hx
      rw [List.mem_filter] at ha
      exact h a ha.1 b hb ((of_decide_eq_true ha.2).trans (of_decide_eq_true e).symm)
    rw [hy,List.append_nil,List.nil_append]
theorem StEq.eq:∀ {x y:List α},StEq key x y→KSrt key x→KSrt key y→x=y
  | [],[],_,_,_=>rfl
  | [],b::s,h,_,_=>absurd (h.mem.2 (List.mem_cons_self ..)) List.not_mem_nil
  | a::r,[],h,_,_=>absurd (h.mem.1 (List.mem_cons_self ..)) List.not_mem_nil
  | a::r,b::s,h,hx,hy=>by
    have hk:key a=key b:=by
      have h1:key b≤key a:=by
        rcases List.mem_cons.1 (h.mem.1 (List.mem_cons_self (a:=a))) with e | e
        · rw [e]; exact Int.le_refl _
        · exact (List.pairwise_cons.1 hy).1 a e
      have h2:key a≤key b:=by
        rcases List.mem_cons.1 (h.mem.2 (List.mem_cons_self (a:=b))) with e | e
        · rw [e]; exact Int.le_refl _
        · exact (List.pairwise_cons.1 hx).1 b e
      omega
    have h0:=h (key a)
    rw [List.filter_cons_of_pos (by simp),List.filter_cons_of_pos (by simp [hk])] at h0
    injection h0 with h1 h2
    subst h1
    rw [StEq.eq (x:=r) (y:=s) (fun k=>?_) (List.pairwise_cons.1 hx).2 (List.pairwise_cons.1 hy).2]
    by_cases e:key a=k
    · subst e; exact h2
    · have:=h k
      rwa [List.filter_cons_of_neg (by simpa using e),List.filter_cons_of_neg (by simpa using e)] at this
def insAt (E:List α) (k:Nat) (x:α):List α:=E.take k++x::E.drop k
theorem insAt_len (E:List α) {k:Nat} (x:α):(insAt E k x).length=E.length+1:=by
  unfold insAt
  rw [List.length_append,List.length_cons,List.length_take,List.length_drop]; omega
theorem insAt_self (E:List α) {k:Nat} (hk:k≤E.length) (x:α):(insAt E k x)[k]?=some x:=by
  unfold insAt
  rw [List.getElem?_append_right (by rw [List.length_take]; omega),List.length_take,Nat.min_eq_left hk,Nat.sub_self]; rfl
theorem insAt_lt (E:List α) {k j:Nat} (hj:j < k) (hk:k≤E.length) (x:α):(insAt E k x)[j]?=E[j]?:=by
  unfold insAt
  rw [List.getElem?_append_left (by rw [List.length_take]; omega),List.getElem?_take_of_lt hj]
theorem insAt_gt (E:List α) {k j:Nat} (hj:k≤j) (hk:k≤E.length) (x:α):(insAt E k x)[j+1]?=E[j]?:=by
  unfold insAt
  rw [List.getElem?_append_right (by rw [List.length_take]; omega),List.length_take,Nat.min_eq_left hk,show j+1 - k=(j - k)+1 by omega,List.getElem?_cons_succ,List.getElem?_drop,show k+(j - k)=j by omega]
theorem insAt_up (E:List α) {k:Nat} (hk:k < E.length) (x c:α) (hc:E[k]?=some c):((insAt E k x).set k c).set (k+1) x=insAt E (k+1) x:=by
  refine List.ext_getElem? fun j=>?_
  rw [List.getElem?_set,List.getElem?_set,List.length_set,insAt_len]
  by_cases h1:k+1=j
  · subst h1; rw [if_pos rfl,if_pos (by omega),insAt_self E (by omega)]
  · rw [if_neg h1]
    by_cases h2:k=j
    · subst h2; rw [if_pos rfl,if_pos (by omega),insAt_lt E (by omega) (by omega),hc]
    · rw [if_neg h2]
      by_cases h3:j < k
      · rw [insAt_lt E h3 (by omega),insAt_lt E (by omega) (by omega)]
      · obtain ⟨i,rfl⟩:∃ i,j=i+1:=⟨j - 1,by omega⟩
        rw [insAt_gt E (by omega) (by omega),insAt_gt E (by omega) (by omega)]
theorem insAt_down (E:List α) {k:Nat} (hk:k < E.length) (x c:α) (hc:E[k]?=some c):((insAt E (k+1) x).set (k+1) c).set k x=insAt E k x:=by
  refine List.ext_getElem? fun j=>?_
  rw [List.getElem?_set,List.getElem?_set,List.length_set,insAt_len]
  by_cases h2:k=j
  · subst h2; rw [if_pos rfl,if_pos (by omega),insAt_self E (by omega)]
  · rw [if_neg h2]
    by_cases h1:k+1=j
    · subst h1; rw [if_pos rfl,if_pos (by omega),insAt_gt E (by omega) (by omega),hc]
    · rw [if_neg h1]
      by_cases h3:j < k
      · rw [insAt_lt E h3 (by omega),insAt_lt E (by omega) (by omega)]
      · obtain ⟨i,rfl⟩:∃ i,j=i+1:=⟨j - 1,by omega⟩
        rw [insAt_gt E (by omega) (by omega),insAt_gt E (by omega) (by omega)]
theorem ins_down {P A B:List α} {x:α} (hA:KSrt key (A++B)) (hle:∀ a∈A,key a≤key x) (hlt:∀ b∈B,key x < key b):KSrt key (A++x::B)∧StEq key (A++x::B) ((A++B)++[x]):=by
  constructor
  · rw [KSrt,List.pairwise_append] at hA ⊢
    refine ⟨hA.1,List.pairwise_cons.2 ⟨fun b hb=>Int.le_of_lt (hlt b hb),hA.2.1⟩,fun a ha b hb=>?_⟩
    rcases List.mem_cons.1 hb with rfl | hb
    · exact hle a ha
    · exact hA.2.2 a ha b hb
  · rw [List.append_assoc]
    refine (StEq.refl A).app ?_
    exact StEq.swap (x:=[x]) (y:=B) fun a ha b hb=>by
      have:=hlt b hb
      simp only [List.mem_singleton] at ha
      subst ha; omega
def rot (l:List α) (a m b:Nat):List α:=l.take a++((l.take b).drop m++((l.take m).drop a++l.drop b))
theorem rot_app {P X Y Q:List α} {a m b:Nat} (ha:a=P.length) (hm:m=P.length+X.length) (hb:b=P.length+X.length+Y.length):rot (P++(X++(Y++Q))) a m b=P++(Y++(X++Q)):=by
  subst ha hm hb
  have h1:(P++(X++(Y++Q))).take P.length=P:=List.take_left ..
  have h2:(P++(X++(Y++Q))).take (P.length+X.length)=P++X:=by rw [← List.append_assoc,← List.length_append]; exact List.take_left ..
  have h3:(P++(X++(Y++Q))).take (P.length+X.length+Y.length)=(P++X)++Y:=by
    rw [← List.append_assoc,← List.append_assoc,← List.length_append,← List.length_append]; exact List.take_left ..
  have h4:(P++(X++(Y++Q))).drop (P.length+X.length+Y.length)=Q:=by
    rw [← List.append_assoc,← List.append_assoc,← List.length_append,← List.length_append]; exact List.drop_left ..
  unfold rot
  rw [h1,h2,h3,h4,← List.length_append,List.drop_left,List.drop_left]
theorem parts4 (l:List α) {a m b:Nat} (h1:a≤m) (h2:m≤b) (h3:b≤l.length):∃ P X Y Q,l=P++(X++(Y++Q))∧P.length=a∧X.length=m - a∧Y.length=b - m:=by
  refine ⟨l.take a,(l.drop a).take (m - a),(l.drop m).take (b - m),l.drop b,?_,by rw [List.length_take]; omega,by rw [List.length_take,List.length_drop]; omega,by rw [List.length_take,List.length_drop]; omega⟩
  have e1:l.drop m=(l.drop m).take (b - m)++l.drop b:=by
    conv=>lhs; rw [← List.take_append_drop (b - m) (l.drop m)]
    rw [List.drop_drop,show m+(b - m)=b by omega]
  have e2:l.drop a=(l.drop a).take (m - a)++l.drop m:=by
    conv=>lhs; rw [← List.take_append_drop (m - a) (l.drop a)]
    rw [List.drop_drop,show a+(m - a)=m by omega]
  rw [← e1,← e2,List.take_append_drop]
def swp (l:List α) (a b i:Nat):List α:=l.take a++((l.drop b).take i++(((l.drop (a+i)).take (b - (a+i)))++((l.drop a).take i++l.drop (b+i))))
theorem swp_get {l:List α} {a b i:Nat} (h1:a+i≤b) (h2:b+i≤l.length) (j:Nat):(swp l a b i)[j]?=if a≤j∧j < a+i then l[j+(b - a)]? else if b≤j∧j < b+i then l[j - (b - a)]? else l[j]?:=by
  unfold swp
  have hl1:(l.take a).length=a:=by rw [List.length_take]; omega
  have hl2:((l.drop b).take i).length=i:=by rw [List.length_take,List.length_drop]; omega
  have hl3:((l.drop (a+i)).take (b - (a+i))).length=b - (a+i):=by rw [List.length_take,List.length_drop]; omega
  have hl4:((l.drop a).take i).length=i:=by rw [List.length_take,List.length_drop]; omega
  by_cases c1:j < a
  · rw [List.getElem?_append_left (by omega),List.getElem?_take_of_lt c1,if_neg (by omega),if_neg (by omega)]
  rw [List.getElem?_append_right (by omega),hl1]
  by_cases c2:j < a+i
  · rw [List.getElem?_append_left (by omega),List.getElem?_take_of_lt (by omega),List.getElem?_drop,if_pos ⟨by omega,c2⟩]
    congr 1; omega
  rw [List.getElem?_append_right (by omega),hl2]
  by_cases c3:j < b
  · rw [List.getElem?_append_left (by omega),List.getElem?_take_of_lt (by omega),List.getElem?_drop,if_neg (by omega),if_neg (by omega)]
    congr 1; omega
  rw [List.getElem?_append_right (by omega),hl3]
  by_cases c4:j < b+i
  · rw [List.getElem?_append_left (by omega),List.getElem?_take_of_lt (by omega),List.getElem?_drop,if_neg (by omega),if_pos ⟨by omega,c4⟩]
    congr 1; omega
  rw [List.getElem?_append_right (by omega),hl4,List.getElem?_drop,if_neg (by omega),if_neg (by omega)]
  congr 1; omega
theorem swp_len {l:List α} {a b i:Nat} (h1:a+i≤b) (h2:b+i≤l.length):(swp l a b i).length=l.length:=by
  unfold swp
  simp only [List.length_append,List.length_take,List.length_drop]; omega
theorem swp_zero (l:List α) {a b:Nat} (h1:a≤b) (h2:b≤l.length):swp l a b 0=l:=by
  refine List.ext_getElem? fun j=>?_
  rw [swp_get (by omega) (by omega),if_neg (by omega),if_neg (by omega)]
theorem swp_next {l:List α} {a b i:Nat} (h1:a+i < b) (h2:b+i < l.length) {u v:α} (hu:(swp l a b i)[a+i]?=some u) (hv:(swp l a b i)[b+i]?=some v):((swp l a b i).set (a+i) v).set (b+i) u=swp l a b (i+1):=by
  have gu:=hu
  have gv:=hv
  rw [swp_get (by omega) (by omega),if_neg (by omega),if_neg (by omega)] at gu gv
  refine List.ext_getElem? fun j=>?_
  rw [List.getElem?_set,List.getElem?_set,List.length_set,swp_len (by omega) (by omega),swp_get (by omega) (by omega),swp_get (i:=i+1) (by omega) (by omega)]
  by_cases c1:b+i=j
  · subst c1
    rw [if_pos rfl,if_pos (by omega),if_neg (by omega),if_pos (by omega),show b+i - (b - a)=a+i by omega,gu]
  rw [if_neg c1]
  by_cases c2:a+i=j
  · subst c2
    rw [if_pos rfl,if_pos (by omega),if_pos (by omega),show a+i+(b - a)=b+i by omega,gv]
  rw [if_neg c2]
  by_cases c3:a≤j∧j < a+i
  · rw [if_pos c3,if_pos (by omega)]
  rw [if_neg c3]
  by_cases c4:b≤j∧j < b+i
  · rw [if_pos c4,if_neg (by omega),if_pos (by omega)]
  rw [if_neg c4,if_neg (by omega),if_neg (by omega)]
theorem swp_app {P A M B Q:List α} {a b n:Nat} (ha:a=P.length) (hA:A.length=n) (hB:B.length=n) (hb:b=P.length+n+M.length):swp (P++(A++(M++(B++Q)))) a b n=P++(B++(M++(A++Q))):=by
  subst ha hb
  have e1:(P++(A++(M++(B++Q)))).drop P.length=A++(M++(B++Q)):=List.drop_left ..
  have e2:(P++(A++(M++(B++Q)))).drop (P.length+n)=M++(B++Q):=by rw [← List.drop_drop,e1,← hA]; exact List.drop_left ..
  have e3:(P++(A++(M++(B++Q)))).drop (P.length+n+M.length)=B++Q:=by rw [← List.drop_drop,e2]; exact List.drop_left ..
  have e4:(P++(A++(M++(B++Q)))).drop (P.length+n+M.length+n)=Q:=by rw [← List.drop_drop,e3,← hB]; exact List.drop_left ..
  have e5:(P++(A++(M++(B++Q)))).take P.length=P:=List.take_left ..
  unfold swp
  rw [e1,e2,e3,e4,e5,show P.length+n+M.length - (P.length+n)=M.length by omega]
  congr 1
  have f1:(B++Q).take n=B:=by rw [← hB]; exact List.take_left ..
  have f2:(M++(B++Q)).take M.length=M:=List.take_left ..
  have f3:(A++(M++(B++Q))).take n=A:=by rw [← hA]; exact List.take_left ..
  rw [f1,f2,f3]
theorem rot_gt {l:List α} {a m b:Nat} (h1:a≤m) (h2:m≤b) (h3:b≤l.length) (h:b - m < m - a):rot (swp l a m (b - m)) (a+(b - m)) m b=rot l a m b:=by
  obtain ⟨P,X,Y,Q,rfl,hP,hX,hY⟩:=parts4 l h1 h2 h3
  obtain ⟨X1,X2,rfl,hX1⟩:∃ X1 X2,X=X1++X2∧X1.length=b - m:=⟨X.take (b - m),X.drop (b - m),(List.take_append_drop _ _).symm,by rw [List.length_take]; omega⟩
  rw [List.length_append] at hX
  rw [rot_app (X:=X1++X2) hP.symm (by rw [List.length_append]; omega) (by rw [List.length_append]; omega)]
  have hs:swp (P++(X1++X2++(Y++Q))) a m (b - m)=P++(Y++(X2++(X1++Q))):=by
    rw [List.append_assoc X1]
    exact swp_app hP.symm hX1 hY (by omega)
  rw [hs]
  have:=rot_app (P:=P++Y) (X:=X2) (Y:=X1) (Q:=Q) (a:=a+(b - m)) (m:=m) (b:=b) (by rw [List.length_append]; omega) (by rw [List.length_append]; omega) (by rw [List.length_append]; omega)
  rw [List.append_assoc] at this
  rw [this,List.append_assoc,List.append_assoc]
theorem rot_lt {l:List α} {a m b:Nat} (h1:a≤m) (h2:m≤b) (h3:b≤l.length) (h:m - a < b - m):rot (swp l a (b - (m - a)) (m - a)) a m (b - (m - a))=rot l a m b:=by
  obtain ⟨P,X,Y,Q,rfl,hP,hX,hY⟩:=parts4 l h1 h2 h3
  obtain ⟨Y1,Y2,rfl,hY1⟩:∃ Y1 Y2,Y=Y1++Y2∧Y1.length=b - m - (m - a):=⟨Y.take (b - m - (m - a)),Y.drop (b - m - (m - a)),(List.take_append_drop _ _).symm,by rw [List.length_take]; omega⟩
  rw [List.length_append] at hY
  rw [rot_app (Y:=Y1++Y2) hP.symm (by omega) (by rw [List.length_append]; omega)]
  have hs:swp (P++(X++(Y1++Y2++Q))) a (b - (m - a)) (m - a)=P++(Y2++(Y1++(X++Q))):=by
    rw [List.append_assoc Y1]
    exact swp_app hP.symm hX (by omega) (by omega)
  rw [hs,rot_app (Y:=Y1) hP.symm (by omega) (by omega),List.append_assoc]
theorem rot_eq {l:List α} {a m b:Nat} (h1:a≤m) (h2:m≤b) (h3:b≤l.length) (h:m - a=b - m):swp l a m (m - a)=rot l a m b:=by
  obtain ⟨P,X,Y,Q,rfl,hP,hX,hY⟩:=parts4 l h1 h2 h3
  rw [rot_app hP.symm (by omega) (by omega)]
  exact swp_app (M:=[]) hP.symm hX (by omega) (by simp; omega)
theorem rot_len {l:List α} {a m b:Nat} (h1:a≤m) (h2:m≤b) (h3:b≤l.length):(rot l a m b).length=l.length:=by
  unfold rot
  simp only [List.length_append,List.length_take,List.length_drop]; omega
end
end Go.Abs
namespace Go.Abs
set_option linter.unusedVariables false
set_option linter.unusedSimpArgs false
set_option maxHeartbeats 4000000
section
variable {α:Type}
def insK (key:α→Int) (a:α):List α→List α
  | []=>[a]
  | x::r=>if key a < key x then a::x::r else x::insK key a r
def srtK (key:α→Int) (l:List α):List α:=l.foldl (fun o a=>insK key a o) []
variable {key:α→Int}
theorem insK_at {a:α}:∀ {A B:List α},(∀ x∈A,key x≤key a)→(∀ x∈B,key a < key x)→insK key a (A++B)=A++a::B
  | [],[],_,_=>rfl
  | [],b::r,_,h=>by
    show insK key a (b::r)=_
    unfold insK
    rw [if_pos (h b (List.mem_cons_self ..))]; rfl
  | x::A,B,h,g=>by
    show insK key a (x::(A++B))=_
    unfold insK
    have:=h x (List.mem_cons_self ..)
    rw [if_neg (by omega),insK_at (fun y hy=>h y (List.mem_cons_of_mem _ hy)) g]; rfl
theorem split_at (key:α→Int) (z:Int):∀ {l:List α},KSrt key l→∃ A B,l=A++B∧(∀ x∈A,key x≤z)∧(∀ x∈B,z < key x)
  | [],_=>⟨[],[],rfl,by simp,by simp⟩
  | x::r,h=>by
    rw [KSrt,List.pairwise_cons] at h
    obtain ⟨A,B,h1,h2,h3⟩:=split_at key z h.2
    by_cases hx:key x≤z
    · refine ⟨x::A,B,by rw [h1]; rfl,fun y hy=>?_,h3⟩
      rcases List.mem_cons.1 hy with rfl | hy
      · exact hx
      · exact h2 y hy
    · refine ⟨[],x::r,rfl,by simp,fun y hy=>?_⟩
      rcases List.mem_cons.1 hy with rfl | hy
      · omega
      · have:=h.1 y hy; omega
theorem insK_spec {a:α} {l:List α} (h:KSrt key l):KSrt key (insK key a l)∧StEq key (insK key a l) (l++[a]):=by
  obtain ⟨A,B,rfl,h2,h3⟩:=split_at key (key a) h
  rw [insK_at h2 h3]
  exact ins_down (P:=[]) h h2 h3
theorem srtK_snoc (l:List α) (a:α):srtK key (l++[a])=insK key a (srtK key l):=by
  unfold srtK; rw [List.foldl_append]; rfl
theorem srtK_spec (l:List α):KSrt key (srtK key l)∧StEq key (srtK key l) l:=by
  have:∀ (r:List α),KSrt key (srtK key r.reverse)∧StEq key (srtK key r.reverse) r.reverse:=by
    intro r
    induction r with
    | nil=>exact ⟨.nil,.refl _⟩
    | cons a r ih =>
      rw [List.reverse_cons,srtK_snoc]
      obtain ⟨h1,h2⟩:=insK_spec (a:=a) ih.1
      exact ⟨h1,h2.trans (ih.2.app (.refl _))⟩
  have:=this l.reverse
  rwa [List.reverse_reverse] at this
theorem srtK_eq {l z:List α} (h1:KSrt key z) (h2:StEq key z l):srtK key l=z :=
  StEq.eq ((srtK_spec l).2.trans h2.symm) (srtK_spec l).1 h1
theorem srtK_self {l:List α} (h:KSrt key l):srtK key l=l:=srtK_eq h (.refl _)
theorem srtK_len (l:List α):(srtK key l).length=l.length:=by
  have ins:∀ (a:α) (l:List α),(insK key a l).length=l.length+1:=by
    intro a l
    induction l with
    | nil=>rfl
    | cons x r ih =>
      unfold insK
      split
      · rfl
      · rw [List.length_cons,ih,List.length_cons]
  have:∀ (l o:List α),(l.foldl (fun o a=>insK key a o) o).length=l.length+o.length:=by
    intro l
    induction l with
    | nil=>intro o; simp
    | cons a r ih=>intro o; rw [List.foldl_cons,ih,ins,List.length_cons]; omega
  exact this l []
theorem srtK_st {x y:List α} (h:StEq key x y):srtK key x=srtK key y:=srtK_eq (srtK_spec y).1 ((srtK_spec y).2.trans h.symm)
theorem srtK_split {X1 X2 Y1 Y2:List α} (hX:KSrt key (X1++X2)) (hY:KSrt key (Y1++Y2)) (h1:∀ x∈X2,∀ y∈Y1,key y < key x) (h2:∀ x∈X1,∀ y∈Y2,key x≤key y) :
    srtK key ((X1++X2)++(Y1++Y2))=srtK key (X1++Y1)++srtK key (X2++Y2):=by
  rw [KSrt,List.pairwise_append] at hX hY
  obtain ⟨s1,t1⟩:=srtK_spec (key:=key) (X1++Y1)
  obtain ⟨s2,t2⟩:=srtK_spec (key:=key) (X2++Y2)
  refine srtK_eq ?_ ?_
  · refine List.pairwise_append.2 ⟨s1,s2,fun a ha b hb=>?_⟩
    have ha:=t1.mem.1 ha
    have hb:=t2.mem.1 hb
    rw [List.mem_append] at ha hb
    rcases ha with ha | ha <;> rcases hb with hb | hb
    · exact hX.2.2 a ha b hb
    · exact h2 a ha b hb
    · exact Int.le_of_lt (h1 b hb a ha)
    · exact hY.2.2 a ha b hb
  · refine (t1.app t2).trans ?_
    have e1:(X1++Y1)++(X2++Y2)=X1++((Y1++X2)++Y2):=by simp
    have e2:(X1++X2)++(Y1++Y2)=X1++((X2++Y1)++Y2):=by simp
    rw [e1,e2]
    exact (StEq.refl _).app (StEq.app (StEq.swap fun a ha b hb=>by have:=h1 b hb a ha; omega) (.refl _))
abbrev seg (l:List α) (i j:Nat):List α:=(l.take j).drop i
def stS (key:α→Int) (l:List α) (a b:Nat):List α:=l.take a++(srtK key (seg l a b)++l.drop b)
theorem seg_app {P X R:List α} {i j:Nat} (hi:i=P.length) (hj:j=P.length+X.length):seg (P++(X++R)) i j=X:=by
  subst hi hj
  have:(P++(X++R)).take (P.length+X.length)=P++X:=by rw [← List.append_assoc,← List.length_append]; exact List.take_left ..
  show List.drop _ (List.take _ _)=X
  rw [this]; exact List.drop_left ..
theorem stS_app {P X R:List α} {i j:Nat} (hi:i=P.length) (hj:j=P.length+X.length):stS key (P++(X++R)) i j=P++(srtK key X++R):=by
  unfold stS
  rw [seg_app hi hj]
  subst hi hj
  have h1:(P++(X++R)).take P.length=P:=List.take_left ..
  have h2:(P++(X++R)).drop (P.length+X.length)=R:=by rw [← List.append_assoc,← List.length_append]; exact List.drop_left ..
  rw [h1,h2]
theorem stS_len {l:List α} {a b:Nat} (h1:a≤b) (h2:b≤l.length):(stS key l a b).length=l.length:=by
  unfold stS
  rw [List.length_append,List.length_append,srtK_len]
  simp only [List.length_take,List.length_drop]; omega
theorem mem_seg {l:List α} {i j:Nat} {d x:α} (h:x∈seg l i j) (hj:j≤l.length):∃ t,i≤t∧t < j∧l.getD t d=x:=by
  obtain ⟨u,hu,rfl⟩:=List.getElem_of_mem h
  simp only [List.length_drop,List.length_take] at hu
  refine ⟨i+u,by omega,by omega,?_⟩
  rw [List.getElem_drop,List.getElem_take,List.getD_eq_getElem?_getD,List.getElem?_eq_getElem (by omega)]; rfl
theorem seg_le {l:List α} {i j u v:Nat} {d:α} (h:KSrt key (seg l i j)) (hj:j≤l.length) (h1:i≤u) (h2:u≤v) (h3:v < j):key (l.getD u d)≤key (l.getD v d):=by
  by_cases e:u=v
  · subst e; exact Int.le_refl _
  have:=(List.pairwise_iff_getElem.1 h) (u - i) (v - i) (by simp only [List.length_drop,List.length_take]; omega) (by simp only [List.length_drop,List.length_take]; omega) (by omega)
  simp only [List.getElem_drop,List.getElem_take] at this
  rw [List.getD_eq_getElem?_getD,List.getD_eq_getElem?_getD,List.getElem?_eq_getElem (by omega),List.getElem?_eq_getElem (by omega)]
  simpa only [show i+(u - i)=u by omega,show i+(v - i)=v by omega,Option.getD_some] using this
theorem erase_app {P R:List α} {x:α} {a:Nat} (ha:a=P.length):(P++(x::R)).eraseIdx a=P++R:=by
  subst ha
  rw [List.eraseIdx_append_of_length_le (Nat.le_refl _),Nat.sub_self]; rfl
theorem insAt_app {P R:List α} {x:α} {k:Nat} (hk:k=P.length):insAt (P++R) k x=P++x::R:=by
  subst hk
  unfold insAt
  have h1:(P++R).take P.length=P:=List.take_left ..
  have h2:(P++R).drop P.length=R:=List.drop_left ..
  rw [h1,h2]
theorem erase_ins {l:List α} {a:Nat} (h:a < l.length) (d:α):insAt (l.eraseIdx a) a (l.getD a d)=l:=by
  obtain ⟨P,X,Y,Q,rfl,hP,hX,hY⟩:=parts4 l (a:=a) (m:=a+1) (b:=a+1) (by omega) (Nat.le_refl _) h
  rw [show Y=[] by rw [← List.length_eq_zero_iff]; omega]
  obtain ⟨x,rfl⟩:=List.length_eq_one_iff.1 (show X.length=1 by omega)
  rw [List.nil_append,List.singleton_append,erase_app hP.symm,insAt_app hP.symm]
  congr 1
  rw [List.getD_eq_getElem?_getD,List.getElem?_append_right (by omega),hP,Nat.sub_self]; rfl
theorem stS_one1 {l:List α} {a i b:Nat} (d:α) (h1:a+1≤i) (h2:i≤b) (h3:b≤l.length) (hY:KSrt key (seg l (a+1) b)) (hl:∀ t,a+1≤t→t < i→key (l.getD t d) < key (l.getD a d)) (hr:∀ t,i≤t→t < b→key (l.getD a d)≤key (l.getD t d)) :
    insAt (l.eraseIdx a) (i - 1) (l.getD a d)=stS key l a b:=by
  obtain ⟨P,X,Y,Q,rfl,hP,hX,hYl⟩:=parts4 l (a:=a) (m:=a+1) (b:=b) (by omega) (by omega) h3
  obtain ⟨x,rfl⟩:=List.length_eq_one_iff.1 (show X.length=1 by omega)
  obtain ⟨Y1,Y2,rfl,hY1⟩:∃ Y1 Y2,Y=Y1++Y2∧Y1.length=i - (a+1):=⟨Y.take (i - (a+1)),Y.drop (i - (a+1)),(List.take_append_drop _ _).symm,by rw [List.length_take]; omega⟩
  rw [List.length_append] at hYl
  have hx:(P++([x]++((Y1++Y2)++Q))).getD a d=x:=by
    rw [List.getD_eq_getElem?_getD,List.getElem?_append_right (by omega),hP,Nat.sub_self]; rfl
  have e0:P++([x]++((Y1++Y2)++Q))=(P++[x])++((Y1++Y2)++Q):=by simp
  have e1:P++([x]++((Y1++Y2)++Q))=(P++[x])++(Y1++(Y2++Q)):=by simp
  have e2:P++([x]++((Y1++Y2)++Q))=(P++[x]++Y1)++(Y2++Q):=by simp
  have e3:P++([x]++((Y1++Y2)++Q))=P++(([x]++(Y1++Y2))++Q):=by simp
  rw [e0,seg_app (by simp; omega) (by simp; omega)] at hY
  rw [hx] at hl hr ⊢
  have hY1':∀ y∈Y1,key y < key x:=fun y hy=>by
    rw [← seg_app (P:=P++[x]) (X:=Y1) (R:=Y2++Q) (i:=a+1) (j:=i) (by simp; omega) (by simp; omega),← e1] at hy
    obtain ⟨t,t1,t2,rfl⟩:=mem_seg (d:=d) hy (Nat.le_trans h2 h3)
    exact hl t t1 t2
  have hY2':∀ y∈Y2,key x≤key y:=fun y hy=>by
    rw [← seg_app (P:=P++[x]++Y1) (X:=Y2) (R:=Q) (i:=i) (j:=b) (by simp; omega) (by simp; omega),← e2] at hy
    obtain ⟨t,t1,t2,rfl⟩:=mem_seg (d:=d) hy h3
    exact hr t t1 t2
  have e4:P++((Y1++Y2)++Q)=(P++Y1)++(Y2++Q):=by simp
  rw [List.singleton_append,erase_app hP.symm,e4,insAt_app (by rw [List.length_append]; omega)]
  rw [show P++x::((Y1++Y2)++Q)=P++(([x]++(Y1++Y2))++Q) by simp,stS_app hP.symm (by simp; omega)]
  have:srtK key ([x]++(Y1++Y2))=Y1++x::Y2:=by
    rw [KSrt,List.pairwise_append] at hY
    refine srtK_eq (List.pairwise_append.2 ⟨hY.1,List.pairwise_cons.2 ⟨hY2',hY.2.1⟩,fun y hy z hz=>?_⟩) ?_
    · rcases List.mem_cons.1 hz with rfl | hz
      · exact Int.le_of_lt (hY1' y hy)
      · exact hY.2.2 y hy z hz
    · rw [show Y1++x::Y2=(Y1++[x])++Y2 by simp,show [x]++(Y1++Y2)=([x]++Y1)++Y2 by simp]
      refine StEq.app (StEq.swap fun y hy z hz=>?_) (.refl _)
      simp only [List.mem_singleton] at hz
      subst hz
      have:=hY1' y hy; omega
  rw [this]; simp
theorem stS_one2 {l:List α} {a i m:Nat} (d:α) (h1:a≤i) (h2:i≤m) (h3:m+1≤l.length) (hX:KSrt key (seg l a m)) (hl:∀ t,a≤t→t < i→key (l.getD t d)≤key (l.getD m d)) (hr:∀ t,i≤t→t < m→key (l.getD m d) < key (l.getD t d)) :
    insAt (l.eraseIdx m) i (l.getD m d)=stS key l a (m+1):=by
  obtain ⟨P,X,Y,Q,rfl,hP,hXl,hYl⟩:=parts4 l (a:=a) (m:=m) (b:=m+1) (by omega) (by omega) h3
  obtain ⟨y,rfl⟩:=List.length_eq_one_iff.1 (show Y.length=1 by omega)
  obtain ⟨X1,X2,rfl,hX1⟩:∃ X1 X2,X=X1++X2∧X1.length=i - a:=⟨X.take (i - a),X.drop (i - a),(List.take_append_drop _ _).symm,by rw [List.length_take]; omega⟩
  rw [List.length_append] at hXl
  have hy:(P++((X1++X2)++([y]++Q))).getD m d=y:=by
    rw [List.getD_eq_getElem?_getD,List.getElem?_append_right (by omega),List.getElem?_append_right (by rw [List.length_append]; omega),show m - P.length - (X1++X2).length=0 by rw [List.length_append]; omega]; rfl
  have e1:P++((X1++X2)++([y]++Q))=P++(X1++(X2++([y]++Q))):=by simp
  have e2:P++((X1++X2)++([y]++Q))=(P++X1)++(X2++([y]++Q)):=by simp
  have e3:P++((X1++X2)++([y]++Q))=P++(((X1++X2)++[y])++Q):=by simp
  have e5:P++((X1++X2)++([y]++Q))=(P++(X1++X2))++(y::Q):=by simp
  rw [seg_app hP.symm (by rw [List.length_append]; omega)] at hX
  rw [hy] at hl hr ⊢
  have hX1':∀ x∈X1,key x≤key y:=fun x hx=>by
    rw [← seg_app (P:=P) (X:=X1) (R:=X2++([y]++Q)) (i:=a) (j:=i) hP.symm (by omega),← e1] at hx
    obtain ⟨t,t1,t2,rfl⟩:=mem_seg (d:=d) hx (by omega)
    exact hl t t1 t2
  have hX2':∀ x∈X2,key y < key x:=fun x hx=>by
    rw [← seg_app (P:=P++X1) (X:=X2) (R:=[y]++Q) (i:=i) (j:=m) (by simp; omega) (by simp; omega),← e2] at hx
    obtain ⟨t,t1,t2,rfl⟩:=mem_seg (d:=d) hx (by omega)
    exact hr t t1 t2
  have e4:(P++(X1++X2))++Q=(P++X1)++(X2++Q):=by simp
  rw [e5,erase_app (by simp; omega),e4,insAt_app (by rw [List.length_append]; omega),← e5,e3,stS_app hP.symm (by simp; omega)]
  have:srtK key ((X1++X2)++[y])=X1++y::X2:=by
    obtain ⟨g1,g2⟩:=ins_down (P:=[]) hX hX1' hX2'
    exact srtK_eq g1 g2
  rw [this]; simp
theorem stS_sym {l:List α} {a s m e b mid:Nat} (d:α) (h1:a≤s) (h2:s≤m) (h3:m≤e) (h4:e≤b) (h5:b≤l.length) (hmid:mid=s+(e - m)) (hX:KSrt key (seg l a m)) (hY:KSrt key (seg l m b))
    (hlt:s < m→m < e→key (l.getD (e - 1) d) < key (l.getD s d)) (hle:a < s→e < b→key (l.getD (s - 1) d)≤key (l.getD e d)) :
    KSrt key (seg (rot l s m e) a s)∧KSrt key (seg (rot l s m e) s mid)∧(s=a∨s=mid→stS key (rot l s m e) a mid=rot l s m e) ∧
    KSrt key (seg (stS key (rot l s m e) a mid) mid e)∧KSrt key (seg (stS key (rot l s m e) a mid) e b)∧stS key (stS key (rot l s m e) a mid) mid b=stS key l a b ∧
    (mid=e∨e=b→stS key (stS key (rot l s m e) a mid) mid b=stS key (rot l s m e) a mid):=by
  obtain ⟨P,X,Y,Q,rfl,hP,hXl,hYl⟩:=parts4 l (a:=a) (m:=m) (b:=b) (by omega) (by omega) h5
  obtain ⟨X1,X2,rfl,hX1⟩:∃ X1 X2,X=X1++X2∧X1.length=s - a:=⟨X.take (s - a),X.drop (s - a),(List.take_append_drop _ _).symm,by rw [List.length_take]; omega⟩
  obtain ⟨Y1,Y2,rfl,hY1⟩:∃ Y1 Y2,Y=Y1++Y2∧Y1.length=e - m:=⟨Y.take (e - m),Y.drop (e - m),(List.take_append_drop _ _).symm,by rw [List.length_take]; omega⟩
  rw [List.length_append] at hXl hYl
  have e0:P++((X1++X2)++((Y1++Y2)++Q))=(P++X1)++(X2++(Y1++(Y2++Q))):=by simp
  have e1:P++((X1++X2)++((Y1++Y2)++Q))=(P++(X1++X2))++((Y1++Y2)++Q):=by simp
  have e2:P++((X1++X2)++((Y1++Y2)++Q))=P++(X1++(X2++((Y1++Y2)++Q))):=by simp
  have e3:P++((X1++X2)++((Y1++Y2)++Q))=(P++(X1++X2))++(Y1++(Y2++Q)):=by simp
  have e4:P++((X1++X2)++((Y1++Y2)++Q))=(P++(X1++X2)++Y1)++(Y2++Q):=by simp
  have e5:P++((X1++X2)++((Y1++Y2)++Q))=P++(((X1++X2)++(Y1++Y2))++Q):=by simp
  have hX0:=hX
  have hY0:=hY
  rw [seg_app hP.symm (by rw [List.length_append]; omega)] at hX
  rw [e1,seg_app (by simp; omega) (by simp; omega)] at hY
  have hX':=hX
  have hY':=hY
  rw [KSrt,List.pairwise_append] at hX hY
  have hgt:∀ x∈X2,∀ y∈Y1,key y < key x:=fun x hx y hy=>by
    have hs:s < m:=by have:=List.length_pos_of_mem hx; omega
    have he:m < e:=by have:=List.length_pos_of_mem hy; omega
    rw [← seg_app (P:=P++X1) (X:=X2) (R:=Y1++(Y2++Q)) (i:=s) (j:=m) (by simp; omega) (by simp; omega),← e0] at hx
    rw [← seg_app (P:=P++(X1++X2)) (X:=Y1) (R:=Y2++Q) (i:=m) (j:=e) (by simp; omega) (by simp; omega),← e3] at hy
    obtain ⟨t,t1,t2,rfl⟩:=mem_seg (d:=d) hx (by omega)
    obtain ⟨u,u1,u2,rfl⟩:=mem_seg (d:=d) hy (by omega)
    have g1:=seg_le (d:=d) hX0 (by omega) h1 t1 t2
    have g2:=seg_le (d:=d) hY0 h5 u1 (show u≤e - 1 by omega) (by omega)
    have:=hlt hs he
    omega
  have hll:∀ x∈X1,∀ y∈Y2,key x≤key y:=fun x hx y hy=>by
    have hs:a < s:=by have:=List.length_pos_of_mem hx; omega
    have he:e < b:=by have:=List.length_pos_of_mem hy; omega
    rw [← seg_app (P:=P) (X:=X1) (R:=X2++((Y1++Y2)++Q)) (i:=a) (j:=s) hP.symm (by omega),← e2] at hx
    rw [← seg_app (P:=P++(X1++X2)++Y1) (X:=Y2) (R:=Q) (i:=e) (j:=b) (by simp; omega) (by simp; omega),← e4] at hy
    obtain ⟨t,t1,t2,rfl⟩:=mem_seg (d:=d) hx (by omega)
    obtain ⟨u,u1,u2,rfl⟩:=mem_seg (d:=d) hy (by omega)
    have g1:=seg_le (d:=d) hX0 (by omega) t1 (show t≤s - 1 by omega) (by omega)
    have g2:=seg_le (d:=d) hY0 h5 h3 u1 u2
    have:=hle hs he
    omega
  have hrot:rot (P++((X1++X2)++((Y1++Y2)++Q))) s m e=P++(X1++(Y1++(X2++(Y2++Q)))):=by
    rw [e0,rot_app (by simp; omega) (by simp; omega) (by simp; omega)]; simp
  rw [hrot]
  have e6:P++(X1++(Y1++(X2++(Y2++Q))))=(P++X1)++(Y1++(X2++(Y2++Q))):=by simp
  have e7:P++(X1++(Y1++(X2++(Y2++Q))))=P++((X1++Y1)++(X2++(Y2++Q))):=by simp
  have hst:stS key (P++(X1++(Y1++(X2++(Y2++Q))))) a mid=P++(srtK key (X1++Y1)++(X2++(Y2++Q))):=by
    rw [e7]; exact stS_app hP.symm (by simp; omega)
  have hzl:(srtK key (X1++Y1)).length=X1.length+Y1.length:=by rw [srtK_len,List.length_append]
  have e8:P++(srtK key (X1++Y1)++(X2++(Y2++Q)))=(P++srtK key (X1++Y1))++(X2++(Y2++Q)):=by simp
  have e9:P++(srtK key (X1++Y1)++(X2++(Y2++Q)))=(P++srtK key (X1++Y1)++X2)++(Y2++Q):=by simp
  have e10:P++(srtK key (X1++Y1)++(X2++(Y2++Q)))=(P++srtK key (X1++Y1))++((X2++Y2)++Q):=by simp
  rw [hst]
  refine ⟨?_,?_,?_,?_,?_,?_,?_⟩
  · rw [seg_app hP.symm (by omega)]; exact hX.1
  · rw [e6,seg_app (by simp; omega) (by simp; omega)]; exact hY.1
  · intro h
    have:srtK key (X1++Y1)=X1++Y1:=by
      rcases h with h | h
      · rw [show X1=[] by rw [← List.length_eq_zero_iff]; omega]; exact srtK_self hY.1
      · rw [show Y1=[] by rw [← List.length_eq_zero_iff]; omega,List.append_nil]; exact srtK_self hX.1
    rw [this]; simp
  · rw [e8,seg_app (by simp; omega) (by simp; omega)]; exact hX.2.1
  · rw [e9,seg_app (by simp; omega) (by simp; omega)]; exact hY.2.1
  · rw [e10,stS_app (by simp; omega) (by simp; omega),e5,stS_app hP.symm (by simp; omega),srtK_split hX' hY' hgt hll]; simp
  · intro h
    rw [e10,stS_app (by simp; omega) (by simp; omega)]
    have:srtK key (X2++Y2)=X2++Y2:=by
      rcases h with h | h
      · rw [show X2=[] by rw [← List.length_eq_zero_iff]; omega]; exact srtK_self hY.2.1
      · rw [show Y2=[] by rw [← List.length_eq_zero_iff]; omega,List.append_nil]; exact srtK_self hX.2.1
    rw [this]
theorem rot_same {l:List α} {s m e:Nat} (h1:s≤m) (h2:m≤e) (h3:e≤l.length) (h:s=m∨m=e):rot l s m e=l:=by
  obtain ⟨P,X,Y,Q,rfl,hP,hX,hY⟩:=parts4 l h1 h2 h3
  rw [rot_app hP.symm (by omega) (by omega)]
  rcases h with h | h
  · rw [show X=[] by rw [← List.length_eq_zero_iff]; omega]; simp
  · rw [show Y=[] by rw [← List.length_eq_zero_iff]; omega]; simp
end
end Go.Abs
namespace Go.Abs
set_option linter.unusedVariables false
set_option linter.unusedSimpArgs false
theorem insF_eqW (a:Fld):∀ l,insF a l=insK Fld.stn a l
  | []=>rfl
  | x::r=>by unfold insF insK; rw [insF_eqW a r]
theorem srtF_eq (l:List Fld):srtF l=srtK Fld.stn l:=by
  unfold srtF srtK
  congr 1
  funext o a
  exact insF_eqW a o
theorem insI_permW (a:Int):∀ l,(insI a l).Perm (a::l)
  | []=>.refl _
  | x::r=>by
    unfold insI
    split
    · exact .refl _
    · exact ((insI_permW a r).cons x).trans (.swap a x r)
theorem srtI_permW (l:List Int):(srtI l).Perm l:=by
  have:∀ (l o:List Int),(l.foldl (fun o a=>insI a o) o).Perm (l++o):=by
    intro l
    induction l with
    | nil=>exact fun o=>.refl _
    | cons a r ih=>exact fun o=>(ih _).trans (((insI_permW a o).append_left r).trans List.perm_middle)
  have:=this l []
  rwa [List.append_nil] at this
theorem insI_leW {a:Int}:∀ {l:List Int},l.Pairwise (·≤·)→(insI a l).Pairwise (·≤·)
  | [],_=>List.pairwise_singleton _ _
  | x::r,h=>by
    rw [List.pairwise_cons] at h
    unfold insI
    split
    · rename_i hlt
      refine List.pairwise_cons.2 ⟨fun y hy=>?_,List.pairwise_cons.2 h⟩
      rcases List.mem_cons.1 hy with rfl | hy
      · omega
      · have:=h.1 y hy; omega
    · rename_i hlt
      refine List.pairwise_cons.2 ⟨fun y hy=>?_,insI_leW h.2⟩
      rcases List.mem_cons.1 ((insI_permW a r).mem_iff.1 hy) with rfl | hy
      · omega
      · exact h.1 y hy
theorem srtI_leW (l:List Int):(srtI l).Pairwise (·≤·):=by
  have:∀ (l o:List Int),o.Pairwise (·≤·)→(l.foldl (fun o a=>insI a o) o).Pairwise (·≤·):=by
    intro l
    induction l with
    | nil=>exact fun o h=>h
    | cons a r ih=>exact fun o h=>ih _ (insI_leW h)
  exact this l [] .nil
theorem compI1_specW:∀ (r:List Int) (a:Int),(a::r).Pairwise (·≤·)→(compI1 a r).Pairwise (· < ·)∧(∀ x,x∈compI1 a r↔x∈a::r)
  | [],a,_=>⟨by simp [compI1],fun x=>Iff.rfl⟩
  | b::r,a,hp=>by
    rw [List.pairwise_cons] at hp
    unfold compI1
    by_cases e:a=b
    · subst e
      rw [if_pos rfl]
      obtain ⟨h1,h2⟩:=compI1_specW r a hp.2
      exact ⟨h1,fun x=>by rw [h2]; simp⟩
    · rw [if_neg e]
      obtain ⟨h1,h2⟩:=compI1_specW r b hp.2
      refine ⟨List.pairwise_cons.2 ⟨fun y hy=>?_,h1⟩,fun x=>by rw [List.mem_cons,h2]; simp⟩
      have hab:=hp.1 b (by simp)
      rcases List.mem_cons.1 ((h2 y).1 hy) with rfl | hy'
      · omega
      · have:=(List.pairwise_cons.1 hp.2).1 y hy'; omega
theorem compI_specW {l:List Int} (h:l.Pairwise (·≤·)):(compI l).Pairwise (· < ·)∧∀ x,x∈compI l↔x∈l:=by
  cases l with
  | nil=>exact ⟨.nil,fun x=>Iff.rfl⟩
  | cons a r=>exact compI1_specW r a h
theorem weeksT_spec (R:Rgr):(weeksT R).Pairwise (· < ·)∧∀ w,w∈weeksT R↔w∈R.sheets.map Fld.week++R.reads.map Rd.week:=by
  obtain ⟨h1,h2⟩:=compI_specW (srtI_leW (R.sheets.map Fld.week++R.reads.map Rd.week))
  exact ⟨h1,fun w=>(h2 w).trans (srtI_permW _).mem_iff⟩
theorem srtF_mem {l:List Fld} {x:Fld}:x∈srtF l↔x∈l:=by rw [srtF_eq]; exact (srtK_spec l).2.mem
theorem srtF_len (l:List Fld):(srtF l).length=l.length:=by rw [srtF_eq]; exact srtK_len l
end Go.Abs
namespace Go.Proofs.YtolgelipcgcbhaaGreat
open Go.Abs
open Nat (reduceAdd reduceSub reduceLT reduceLeDiff reduceMul reduceEqDiff)
set_option linter.unusedVariables false
set_option linter.unusedSimpArgs false
set_option maxHeartbeats 4000000
set_option maxRecDepth 100000
def c66:CF:=⟨38,(jo [jx 1 37 4 0,jn 2,jc 3 0] [1]
 (jo [jn 4] [1,4]
 (.seq (jo [jc 5 0] [1,4,5]
 (.block 0 (.loop (.seq (jo [jm 7 5,jf 8 0 1,jl 9 8,je 10 9,jt .lss 11 7 10] [1,4,5,11]
 (.cond (.t 11) .skip
 (.exit 0)))
 (.seq (.block 1 (.ops [jm 14 4,jf 15 0 1,jl 16 15,jm 17 5,ji 18 24 16 17,jf 19 3 18,jl 20 19,jy 21 127 [14,20],jm 4 21] [1,4,5]))
 (.ops [jm 12 5,ju .add 13 12 1,jm 5 13] [1,4,5]))))))
 (.seq (jo [jc 6 0] [1,4,6]
 (.block 2 (.loop (.seq (jo [jm 22 6,jf 23 1 1,jl 24 23,je 25 24,jt .lss 26 22 25] [1,4,6,26]
 (.cond (.t 26) .skip
 (.exit 2)))
 (.seq (.block 3 (.ops [jm 29 4,jf 30 1 1,jl 31 30,jm 32 6,ji 33 5 31 32,jf 34 1 33,jl 35 34,jy 36 127 [29,35],jm 4 36] [1,4,6]))
 (.ops [jm 27 6,ju .add 28 27 1,jm 6 28] [1,4,6]))))))
 (jo [jm 37 4,jm 2 37,jc 3 0] [2,3]
 .ret))))),[.t 2,.t 3]⟩
theorem k66:chkF Tryz.prog Tryz.f66 c66=true:=by kernel_rfl
def c65:CF:=⟨39,(jo [jx 3 26 6 0,jx 4 37 4 1,jw 6 (.alloc 109 4 [.int .i64 0,.int .i64 0,.int .i64 0,.slice none 0 0]),jc 7 0] [2,3,4,6]
 (.seq (jo [jk 10 6 3,jy 11 44 [10],ju .neq 12 11 0] [2,3,4,6,12]
 (.cond (.t 12) (jo [jw 13 (.build [.int .i64 0,.int .i64 0,.int .i64 0,.slice none 0 0] []),js 4 6 13,jc 7 100] [6,7]
 .ret)
 .skip))
 (.seq (.draww [1,2,4,5,0,3,6,7] [0,1,2,3] 2 [jf 15 2 4,jl 16 15,jf 18 0 3,jl 19 18] [jw 14 (.bsl true 109 4 0 [] []),jw 17 (.app 109 4 48 (.t 14) (.t 16)),jw 20 (.app 109 4 48 (.t 17) (.t 19)),jm 8 20] [2,6,8])
 (.seq (jo [jc 9 0] [2,6,8,9]
 (.block 0 (.loop (.seq (jo [jm 21 9,jm 22 8,je 23 22,jt .lss 24 21 23] [2,6,8,9,24]
 (.cond (.t 24) .skip
 (.exit 0)))
 (.seq (.block 1 (jo [jm 27 8,jm 28 9,ji 29 4 27 28,jf 30 0 29,jl 31 30,jm 32 2,jt .eql 33 31 32] [2,6,8,9,33]
 (.cond (.t 33) (jo [jm 34 8,jm 35 9,ji 36 4 34 35,jk 37 4 36,js 4 6 37,jc 7 0] [6,7]
 .ret)
 .skip)))
 (.ops [jm 25 9,ju .add 26 25 1,jm 9 26] [2,6,8,9]))))))
 (jo [jw 38 (.build [.int .i64 0,.int .i64 0,.int .i64 0,.slice none 0 0] []),js 4 6 38,jc 7 3] [6,7]
 .ret))))),[.c 6 (some 4),.t 7]⟩
theorem k65:chkF Tryz.prog Tryz.f65 c65=true:=by kernel_rfl
def putL (l:List Int):List Int:=l.foldl putI []
theorem putL_snoc (l:List Int) (a:Int):putL (l++[a])=putI (putL l) a:=by unfold putL; rw [List.foldl_append]; rfl
theorem putL_law:∀ l:List Int,(putL l).Pairwise (· < ·)∧(∀ x,x∈putL l↔x∈l)∧(putL l).length≤l.length:=by
  have:∀ r:List Int,(putL r.reverse).Pairwise (· < ·)∧(∀ x,x∈putL r.reverse↔x∈r.reverse)∧(putL r.reverse).length≤r.reverse.length:=by
    intro r
    induction r with
    | nil=>exact ⟨.nil,fun x=>Iff.rfl,Nat.le_refl _⟩
    | cons a r ih =>
      rw [List.reverse_cons,putL_snoc]
      refine ⟨putI_srt ih.1 a,fun x=>?_,?_⟩
      · rw [putI_mem,ih.2.1]; simp
      · have:=putI_len (putL r.reverse) a
        have:=ih.2.2
        rw [List.length_append,List.length_singleton]; omega
  intro l
  have:=this l.reverse
  rwa [List.reverse_reverse] at this
theorem ltI_ext:∀ {l m:List Int},l.Pairwise (· < ·)→m.Pairwise (· < ·)→(∀ a,a∈l↔a∈m)→l=m
  | [],[],_,_,_=>rfl
  | [],b::s,_,_,h=>absurd ((h b).2 (by simp)) (by simp)
  | a::r,[],_,_,h=>absurd ((h a).1 (by simp)) (by simp)
  | a::r,b::s,h1,h2,h=>by
    rw [List.pairwise_cons] at h1 h2
    have hab:a=b:=by
      rcases List.mem_cons.1 ((h a).1 (by simp)) with e | ha
      · exact e
      rcases List.mem_cons.1 ((h b).2 (by simp)) with e | hb
      · exact e.symm
      have:=h1.1 b hb; have:=h2.1 a ha; omega
    subst hab
    rw [ltI_ext h1.2 h2.2 fun x=>?_]
    have hx:=h x
    simp only [List.mem_cons] at hx
    constructor
    · intro hr
      rcases hx.1 (.inr hr) with rfl | hs
      · have:=h1.1 x hr; omega
      · exact hs
    · intro hs
      rcases hx.2 (.inr hs) with rfl | hr
      · have:=h2.1 x hs; omega
      · exact hr
theorem putL_weeks (r:Rgr):putL (r.sheets.map Fld.week++r.reads.map Rd.week)=weeksT r:=by
  obtain ⟨h1,h2,_⟩:=putL_law (r.sheets.map Fld.week++r.reads.map Rd.week)
  obtain ⟨h3,h4⟩:=weeksT_spec r
  exact ltI_ext h1 h3 fun a=>(h2 a).trans (h4 a).symm
theorem rWeeks_spec (r:Rgr) (hs:r.sheets.length < 274877906944) (hr:r.reads.length < 274877906944):Pure Tryz.prog 66 [.agg r.cs] (.tup [inS (weeksT r),n 0]):=by
  refine Pure.of_body Tryz.call66 Tryz.func66 k66 (Nat.le_of_ble_eq_true rfl) ?_
  unfold c66
  rw [← putL_weeks r]
  ((refine Au ?_;repeat' first|exact True.intro|refine Cj.mk ?_ ?_)<;>intros<;>refine hD_ ?_)
  refine AWPC.nil0 1 4 rfl ?_
  refine AWPC.loopS (α:={ x:Nat × List Int // x.1≤r.sheets.length∧x.2=putL ((r.sheets.take x.1).map Fld.week) }) [4,5] (fun x=>[(4,inS x.1.2),(5,n x.1.1)]) (fun x=>r.sheets.length - x.1.1) ⟨(0,[]),Nat.zero_le _,rfl⟩ ?_ ?_
  · (simp only [zN,zT,zV,zS,zU,vcC,lateX,ex,strp,binA,elems,cells,scalar,eqC,keyA,intsA,lookA,ofVs,mpOf,Nat.reduceBEq,reduceAdd,reduceSub,reduceLT,reduceLeDiff,reduceMul,reduceEqDiff,reduceIte]; try simp)
  · rintro ⟨⟨i,O⟩,hi,hO⟩
    simp only at hi hO
    obtain ⟨g1,_,g3⟩:=putL_law ((r.sheets.take i).map Fld.week)
    rw [← hO] at g1 g3
    rw [List.length_map,List.length_take] at g3
    by_cases hlt:i < r.sheets.length
    · have hx:(r.sheets.map Fld.cs).getD i []=Fld.cs (r.sheets.getD i fld0):=row fld0 hlt
      have hN:putL ((r.sheets.take (i+1)).map Fld.week)=putI O (r.sheets.getD i fld0).week:=by
        rw [hO,← putL_snoc,List.take_add_one,getD_lt fld0 hlt]; simp
      have hp:=put_spec O (r.sheets.getD i fld0).week g1 (by omega)
      generalize r.sheets.getD i fld0=x at hx hN hp
      ((refine Az @hx @hp ?_;repeat' first|exact True.intro|refine Cj.mk ?_ ?_)<;>intros<;>refine hD_ ?_)
      all_goals try (exfalso; omega)
      all_goals exact ⟨⟨(i+1,putI O x.week),hlt,hN.symm⟩,⟨by simp,by simp⟩,by simp only; omega⟩
    · obtain rfl:i=r.sheets.length:=by omega
      rw [List.take_length] at hO
      ((refine Au ?_;repeat' first|exact True.intro|refine Cj.mk ?_ ?_)<;>intros<;>refine hD_ ?_)
      all_goals try (exfalso; omega)
      refine AWPC.loopS (α:={ x:Nat × List Int // x.1≤r.reads.length∧x.2=putL (r.sheets.map Fld.week++(r.reads.take x.1).map Rd.week) }) [4,6] (fun x=>[(4,inS x.1.2),(6,n x.1.1)]) (fun x=>r.reads.length - x.1.1) ⟨(0,O),Nat.zero_le _,by rw [hO]; simp⟩ ?_ ?_
      · (simp only [zN,zT,zV,zS,zU,vcC,lateX,ex,strp,binA,elems,cells,scalar,eqC,keyA,intsA,lookA,ofVs,mpOf,Nat.reduceBEq,reduceAdd,reduceSub,reduceLT,reduceLeDiff,reduceMul,reduceEqDiff,reduceIte]; try simp)
      · clear g1 g3
        rintro ⟨⟨k,U⟩,hk,hU⟩
        simp only at hk hU
        obtain ⟨g1,_,g3⟩:=putL_law (r.sheets.map Fld.week++(r.reads.take k).map Rd.week)
        rw [← hU] at g1 g3
        rw [List.length_append,List.length_map,List.length_map,List.length_take] at g3
        by_cases hkl:k < r.reads.length
        · have hx:(r.reads.map Rd.cs).getD k []=Rd.cs (r.reads.getD k rd0):=row rd0 hkl
          have hN:putL (r.sheets.map Fld.week++(r.reads.take (k+1)).map Rd.week)=putI U (r.reads.getD k rd0).week:=by
            rw [hU,← putL_snoc,List.take_add_one,getD_lt rd0 hkl]; simp
          have hp:=put_spec U (r.reads.getD k rd0).week g1 (by omega)
          generalize r.reads.getD k rd0=x at hx hN hp
          ((refine Az @hx @hp ?_;repeat' first|exact True.intro|refine Cj.mk ?_ ?_)<;>intros<;>refine hD_ ?_)
          all_goals try (exfalso; omega)
          all_goals exact ⟨⟨(k+1,putI U x.week),hkl,hN.symm⟩,⟨by simp,by simp⟩,by simp only; omega⟩
        · obtain rfl:k=r.reads.length:=by omega
          rw [List.take_length] at hU
          rw [← hU]
          ((refine Au ?_;repeat' first|exact True.intro|refine Cj.mk ?_ ?_)<;>intros<;>refine hD_ ?_)
          all_goals try (exfalso; omega)
          all_goals exact Frz.eq rfl (by simp)
theorem rStnOf_spec (b:Bse) (hb:bseSz b) (r:Rgr) (id:Int) (hr:r.stns.length < 4294967296) (hB:b.stns.length < 4294967296) :
    Pure Tryz.prog 65 [.agg b.cs,.agg r.cs,n id] (.tup [.agg (stnBack b r id).1.cs,n (stnBack b r id).2]):=by
  refine Pure.of_body Tryz.call65 Tryz.func65 k65 (Nat.le_of_ble_eq_true rfl) ?_
  unfold c65
  have hcb:=rCheckBase_spec b hb
  by_cases hbok:b.ok
  · rw [if_pos hbok] at hcb
    obtain ⟨L,hL⟩:∃ L,L=r.stns++b.stns:=⟨_,rfl⟩
    obtain ⟨q,hq⟩:∃ q,q=stnBack b r id:=⟨_,rfl⟩
    have hqs:∀ x,(L.find? fun s=>s.id == id)=some x→q=(x,0):=fun x h=>by rw [hq]; unfold stnBack; rw [if_neg (fun h=>h hbok),← hL,h]
    have hqn:(L.find? fun s=>s.id == id)=none→q=(default,3):=fun h=>by rw [hq]; unfold stnBack; rw [if_neg (fun h=>h hbok),← hL,h]
    rw [← hq]
    clear hq
    have hLl:L.length=r.stns.length+b.stns.length:=by rw [hL,List.length_append]
    have hLm:r.stns.map Stn.cs++b.stns.map Stn.cs=L.map Stn.cs:=by rw [hL,List.map_append]
    have hr1:∀ e,e < r.stns.length→((r.stns.map Stn.cs).getD e []).length=4:=rowsL (cs:=Stn.cs) (k:=4) (fun a=>rfl) r.stns
    have hr2:∀ e,e < b.stns.length→((b.stns.map Stn.cs).getD e []).length=4:=rowsL (cs:=Stn.cs) (k:=4) (fun a=>rfl) b.stns
    ((refine Ay @hcb ?_;repeat' first|exact True.intro|refine Cj.mk ?_ ?_)<;>intros<;>refine hD_ ?_)
    all_goals try (exfalso; omega)
    refine ⟨⟨hr1,by omega⟩,⟨hr2,by omega⟩,?_⟩
    rw [hLm,← hLl]
    clear hr1 hr2 hLm
    ((refine Au ?_;repeat' first|exact True.intro|refine Cj.mk ?_ ?_)<;>intros<;>refine hD_ ?_)
    all_goals try (exfalso; omega)
    refine AWPC.loopS (α:={ i:Nat // i≤L.length∧∀ t,t < i→(L.getD t default).id≠id }) [9] (fun i=>[(9,n i.1)]) (fun i=>L.length - i.1) ⟨0,Nat.zero_le _,fun t h=>absurd h (Nat.not_lt_zero _)⟩ ?_ ?_
    · (simp only [zN,zT,zV,zS,zU,vcC,lateX,ex,strp,binA,elems,cells,scalar,eqC,keyA,intsA,lookA,ofVs,mpOf,Nat.reduceBEq,reduceAdd,reduceSub,reduceLT,reduceLeDiff,reduceMul,reduceEqDiff,reduceIte]; try simp)
    · rintro ⟨i,hi,hI⟩
      by_cases hlt:i < L.length
      · have hx:(L.map Stn.cs).getD i []=Stn.cs (L.getD i default):=row default hlt
        have hN:(L.getD i default).id≠id→∀ t,t < i+1→(L.getD t default).id≠id:=fun h t ht=>by
          rcases (show t=i∨t < i by omega) with rfl | ht
          · exact h
          · exact hI t ht
        have hY:(L.getD i default).id=id→(L.find? fun s=>s.id == id)=some (L.getD i default):=fun h=>by
          rw [List.find?_eq_some_iff_getElem]
          refine ⟨by rw [h]; simp,i,hlt,?_,fun j hj=>?_⟩
          · rw [List.getD_eq_getElem?_getD,List.getElem?_eq_getElem hlt]; rfl
          · have:=hI j hj
            rw [List.getD_eq_getElem?_getD,List.getElem?_eq_getElem (by omega)] at this
            simpa using this
        generalize L.getD i default=x at hx hN hY
        by_cases he:x.id=id
        · obtain rfl:=hqs _ (hY he)
          ((refine Ax (And.intro @hx @he) ?_;repeat' first|exact True.intro|refine Cj.mk ?_ ?_)<;>intros<;>refine hD_ ?_)
          all_goals try (exfalso; omega)
          subst he
          exact Frz.tupL ⟨Frz.pure (PureV.agg (sn_pc x)),Frz.pure (by simp),trivial⟩
        · have hN:=hN he
          ((refine Ax (And.intro @hx @he) ?_;repeat' first|exact True.intro|refine Cj.mk ?_ ?_)<;>intros<;>refine hD_ ?_)
          all_goals try (exfalso; omega)
          exact ⟨⟨i+1,hlt,hN⟩,by simp,by simp only; omega⟩
      · obtain rfl:i=L.length:=by omega
        have hY:(L.find? fun s=>s.id == id)=none:=by
          rw [List.find?_eq_none]
          intro s hs
          obtain ⟨t,ht,rfl⟩:=List.getElem_of_mem hs
          have:=hI t ht
          rw [List.getD_eq_getElem?_getD,List.getElem?_eq_getElem ht] at this
          simpa using this
        obtain rfl:=hqn hY
        ((refine Au ?_;repeat' first|exact True.intro|refine Cj.mk ?_ ?_)<;>intros<;>refine hD_ ?_)
        all_goals try (exfalso; omega)
        all_goals exact Frz.tupL ⟨Frz.aggL ⟨Frz.pure (by simp),Frz.pure (by simp),Frz.pure (by simp),Frz.nil0,trivial⟩,Frz.pure (by simp),trivial⟩
  · rw [if_neg hbok] at hcb
    have hE:stnBack b r id=(default,100):=by unfold stnBack; rw [if_pos hbok]
    rw [hE]
    ((refine Ay @hcb ?_;repeat' first|exact True.intro|refine Cj.mk ?_ ?_)<;>intros<;>refine hD_ ?_)
    all_goals try (exfalso; omega)
    all_goals exact Frz.tupL ⟨Frz.aggL ⟨Frz.pure (by simp),Frz.pure (by simp),Frz.pure (by simp),Frz.nil0,trivial⟩,Frz.pure (by simp),trivial⟩
def c128:CF:=⟨26,(jo [jn 2] [0]
 (jo [jn 3] [0,3]
 (.seq (jo [jc 4 0] [0,3,4]
 (.block 0 (.loop (.seq (jo [jm 6 4,jm 7 0,je 8 7,jt .lss 9 6 8] [0,3,4,9]
 (.cond (.t 9) .skip
 (.exit 0)))
 (.seq (.block 1 (jo [jm 12 0,jm 13 4,ji 14 4 12 13,jk 15 4 14,jw 5 (.alloc 109 4 [.int .i64 0,.int .i64 0,.int .i64 0,.slice none 0 0]),js 4 5 15] [0,3,4,5]
 (jo [jw 16 (.bsl true 66 3 0 [] []),jf 17 3 5,jl 18 17,jw 19 (.app 66 3 24 (.t 16) (.t 18)),jf 20 3 5,js 1 20 19] [0,3,4,5]
 (.ops [jm 21 3,jk 22 4 5,jw 23 (.bsl false 109 4 1 [.int .i64 0,.int .i64 0,.int .i64 0,.slice none 0 0] [(0,4,(.t 22))]),jw 24 (.app 109 4 48 (.t 21) (.t 23)),jm 3 24] [0,3,4]))))
 (.ops [jm 10 4,ju .add 11 10 1,jm 4 11] [0,3,4]))))))
 (jo [jm 25 3,jm 2 25] [2]
 .ret)))),[.t 2]⟩
theorem k128:chkF Tryz.prog Tryz.f128 c128=true:=by kernel_rfl
def c129:CF:=⟨38,(jo [jx 2 26 6 0,jx 3 26 6 1,jb 4 false] [2,3]
 (jo [jf 5 0 2,jl 6 5,jf 7 0 3,jl 8 7,jy 9 38 [6,8],jm 10 9,ja 10 (jf 11 1 2),ja 10 (jk 12 2 11),ja 10 (jf 13 1 3),ja 10 (jk 14 2 13),⟨some 15,.eqs false [some .i64,some .i64] (.t 12) (.t 14),some (10,true)⟩,jp 16 10 15,jm 17 16,ja 17 (jf 18 3 2),ja 17 (jl 19 18),ja 17 (jf 20 3 3),ja 17 (jl 21 20),ja 17 (jt .eql 22 19 21),jp 23 17 22,jm 24 23,ja 24 (jf 25 4 2),ja 24 (jl 26 25),ja 24 (jf 27 4 3),ja 24 (jl 28 27),ja 24 (jt .eql 29 26 28),jp 30 24 29,jm 31 30,ja 31 (jf 32 5 2),ja 31 (jl 33 32),ja 31 (jf 34 5 3),ja 31 (jl 35 34),ja 31 (jt .eql 36 33 35),jp 37 31 36,jm 4 37] [4]
 .ret)),[.t 4]⟩
theorem k129:chkF Tryz.prog Tryz.f129 c129=true:=by kernel_rfl
def c69:CF:=⟨31,(jo [jx 2 86 9 0,jx 3 86 9 1,jb 4 false] [2,3]
 (jo [jf 5 0 2,jk 6 6 5,jf 7 0 3,jk 8 6 7,jy 9 129 [6,8],jm 10 9,ja 10 (jf 11 6 2),ja 10 (jl 12 11),ja 10 (jf 13 6 3),ja 10 (jl 14 13),ja 10 (jt .eql 15 12 14),jp 16 10 15,jm 17 16,ja 17 (jf 18 7 2),ja 17 (jl 19 18),ja 17 (jf 20 7 3),ja 17 (jl 21 20),ja 17 (jy 22 40 [19,21]),jp 23 17 22,jm 24 23,ja 24 (jf 25 8 2),ja 24 (jl 26 25),ja 24 (jf 27 8 3),ja 24 (jl 28 27),ja 24 (jy 29 93 [26,28]),jp 30 24 29,jm 4 30] [4]
 .ret)),[.t 4]⟩
theorem k69:chkF Tryz.prog Tryz.f69 c69=true:=by kernel_rfl
theorem at_one (A:Option (List Ob)) (μ ν:Sto) (i j:Nat):Sto.at (A::(μ++ν)) (μ.length+1+i) j=Sto.at ν i j:=by
  have:=at_app (A::μ) ν i j
  rwa [show (A::μ).length+i=μ.length+1+i by simp only [List.length_cons],List.cons_append] at this
theorem upd_one (A:Option (List Ob)) (μ ν:Sto) (i j:Nat) (o:Ob):Sto.upd (A::(μ++ν)) (μ.length+1+i) j o=A::(μ++Sto.upd ν i j o):=by
  have:=upd_app (A::μ) ν i j o
  rwa [show (A::μ).length+i=μ.length+1+i by simp only [List.length_cons],List.cons_append,List.cons_append] at this
theorem gone_one (A:Option (List Ob)) (μ ν:Sto) (i:Nat):gone (A::(μ++ν)) (μ.length+1+i)=A::(μ++gone ν i):=by
  have:=gone_app (A::μ) ν i
  rwa [show (A::μ).length+i=μ.length+1+i by simp only [List.length_cons],List.cons_append,List.cons_append] at this
theorem someStns_spec (l:List Stn) (hl:l.length < 1099511627776) (hh:∀ s∈l,s.heights.length * 24≤140737488355328):Pure Tryz.prog 128 [snS l] (snS l):=by
  refine Pure.of_body Tryz.call128 Tryz.func128 k128 (Nat.le_of_ble_eq_true rfl) ?_
  unfold c128
  ((refine Au ?_;repeat' first|exact True.intro|refine Cj.mk ?_ ?_)<;>intros<;>refine hD_ ?_)
  refine AWPC.own0 109 4 3 rfl ?_
  refine AWPC.loopE (α:={ x:Nat × Sto // x.1≤l.length }) [3,4] (fun x=>[(3,.own 0 0 x.1.1),(4,n x.1.1)]) (fun x=>some [⟨109,4,(l.take x.1.1).map Stn.cs,none⟩]::x.1.2) (fun x=>l.length - x.1.1) ⟨(0,[]),Nat.zero_le _⟩ ?_ rfl ?_
  · (simp only [zN,zT,zV,zS,zU,vcC,lateX,ex,strp,binA,elems,cells,scalar,eqC,keyA,intsA,lookA,ofVs,mpOf,Nat.reduceBEq,reduceAdd,reduceSub,reduceLT,reduceLeDiff,reduceMul,reduceEqDiff,reduceIte]; try simp)
  · rintro ⟨⟨i,μ⟩,hi⟩
    simp only at hi ⊢
    generalize hM:(l.take i).map Stn.cs=M
    have hMl:M.length=i:=by rw [← hM]; simp; omega
    by_cases hlt:i < l.length
    · have hg:=getD_lt (default:Stn) hlt
      have hx:(l.map Stn.cs).getD i []=Stn.cs (l.getD i default):=row default hlt
      have hs:=hh _ (List.mem_of_getElem? hg)
      have hN:(l.take (i+1)).map Stn.cs=M++[Stn.cs (l.getD i default)]:=by rw [List.take_add_one,hg,← hM]; simp
      generalize l.getD i default=x at hx hs hN
      iterate 7
        ((first
 | refine vn rfl ?_
 | simp (disch:=omega) only [wr64,Int.zero_sub]
 | refine bo (fun _=>?_) fun _=>?_
 | refine im fun _=>?_
 | refine cF ?_
 | refine cG ?_
 | refine om ?_
 | refine an ?_
 | fail) <;> try simp only [zN, zT, zV, zS, zU, vcC, lateX, ex, strp, binA, elems, cells, scalar, eqC, keyA, intsA, lookA, ofVs, mpOf, Nat.reduceBEq, reduceAdd, reduceSub, reduceLT, reduceLeDiff, reduceMul, reduceEqDiff, reduceIte, hx, hMl, List.length_map])
        all_goals try (exfalso; omega)
      refine ⟨⟨rowsL (cs:=Hgt.cs) (k:=3) (fun a=>rfl) x.heights,hs⟩,?_⟩
      refine AWPC.freezeC (f:=List.length μ+1+1) (n:=x.heights.length) (h:=List.length μ+1+0) (e:=0) (j:=3) (o:=⟨66,3,x.heights.map Hgt.cs,none⟩) ((at_one _ μ _ 1 0).trans rfl) (by simp) (show (3:Nat)≠0 by decide) ((at_one _ μ _ 0 0).trans rfl) (by omega) rfl (show (0:Nat) < 1 by decide) rfl ?_
      refine AWPC.sto (σ':=some [⟨109,4,M,none⟩]::(μ++[some [⟨109,4,[x.cs],none⟩],none])) (by rw [gone_one,upd_one]; rfl) ?_
      ((refine Ax @hMl ?_;repeat' first|exact True.intro|refine Cj.mk ?_ ?_)<;>intros<;>refine hD_ ?_)
      all_goals try (exfalso; omega)
      exact ⟨⟨(i+1,μ++[some [⟨109,4,[x.cs],none⟩],none]),hlt⟩,⟨by simp,by simp⟩,by rw [hN],by simp only; omega⟩
    · obtain rfl:i=l.length:=by omega
      rw [List.take_length] at hM
      ((refine Au ?_;repeat' first|exact True.intro|refine Cj.mk ?_ ?_)<;>intros<;>refine hD_ ?_)
      all_goals try (exfalso; omega)
      all_goals exact Frz.ownL (cs:=Stn.cs) (by rw [hM]; rfl) (by simp) (by decide) (fun a=>sn_pc a) (fun a=>rfl)
theorem sameBase_spec (a b:Bse) (ha:bseSz a) (hb:bseSz b):Pure Tryz.prog 129 [.agg a.cs,.agg b.cs] (bl (decide (a=b))):=by
  refine Pure.of_body Tryz.call129 Tryz.func129 k129 (Nat.le_of_ble_eq_true rfl) ?_
  unfold c129
  have h:=sameStns a.stns b.stns ha hb
  obtain ⟨s1,f1,e1,t1,k1,c1⟩:=a
  obtain ⟨s2,f2,e2,t2,k2,c2⟩:=b
  simp only at h
  by_cases hs:s1=s2
  · rw [decide_eq_true hs] at h
    ((refine Ay @h ?_;repeat' first|exact True.intro|refine Cj.mk ?_ ?_)<;>intros<;>refine hD_ ?_)
    all_goals try (exfalso; omega)
    all_goals (refine Frz.eq (congrArg bl ?_) (by simp); rw [Bool.eq_iff_iff]; simp [hs,and_assoc])
  · rw [decide_eq_false hs] at h
    ((refine Ay @h ?_;repeat' first|exact True.intro|refine Cj.mk ?_ ?_)<;>intros<;>refine hD_ ?_)
    all_goals try (exfalso; omega)
    all_goals exact Frz.eq (by simp [hs]) (by simp)
theorem sameWeek_spec (a b:Wk) (ha:bseSz a.base) (hb:bseSz b.base) (h1:fldsSz a.sheets) (h2:fldsSz b.sheets) (h3:a.reads.length < 9223372036854775808) (h4:b.reads.length < 9223372036854775808):Pure Tryz.prog 69 [.agg a.cs,.agg b.cs] (bl (decide (a=b))):=by
  refine Pure.of_body Tryz.call69 Tryz.func69 k69 (Nat.le_of_ble_eq_true rfl) ?_
  unfold c69
  have q1:=sameBase_spec a.base b.base ha hb
  have q2:=sameFld a.sheets b.sheets h1 h2
  have q3:=sameRd a.reads b.reads h3 h4
  obtain ⟨b1,w1,s1,r1⟩:=a
  obtain ⟨b2,w2,s2,r2⟩:=b
  simp only at q1 q2 q3
  by_cases e1:b1=b2
  · rw [decide_eq_true e1] at q1
    by_cases e2:w1=w2
    · by_cases e3:s1=s2
      · rw [decide_eq_true e3] at q2
        by_cases e4:r1=r2
        · rw [decide_eq_true e4] at q3
          ((refine Ay (And.intro @q1 (And.intro @q2 @q3)) ?_;repeat' first|exact True.intro|refine Cj.mk ?_ ?_)<;>intros<;>refine hD_ ?_)
          all_goals try (exfalso; omega)
          all_goals exact Frz.eq (by simp [e1,e2,e3,e4]) (by simp)
        · rw [decide_eq_false e4] at q3
          ((refine Ay (And.intro @q1 (And.intro @q2 @q3)) ?_;repeat' first|exact True.intro|refine Cj.mk ?_ ?_)<;>intros<;>refine hD_ ?_)
          all_goals try (exfalso; omega)
          all_goals exact Frz.eq (by simp [e4]) (by simp)
      · rw [decide_eq_false e3] at q2
        ((refine Ay (And.intro @q1 (And.intro @q2 @q3)) ?_;repeat' first|exact True.intro|refine Cj.mk ?_ ?_)<;>intros<;>refine hD_ ?_)
        all_goals try (exfalso; omega)
        all_goals exact Frz.eq (by simp [e3]) (by simp)
    · ((refine Az @e2 (And.intro @q1 (And.intro @q2 @q3)) ?_;repeat' first|exact True.intro|refine Cj.mk ?_ ?_)<;>intros<;>refine hD_ ?_)
      all_goals try (exfalso; omega)
      all_goals exact Frz.eq (by simp [e2]) (by simp)
  · rw [decide_eq_false e1] at q1
    ((refine Ay (And.intro @q1 (And.intro @q2 @q3)) ?_;repeat' first|exact True.intro|refine Cj.mk ?_ ?_)<;>intros<;>refine hD_ ?_)
    all_goals try (exfalso; omega)
    all_goals exact Frz.eq (by simp [e1]) (by simp)
end Go.Proofs.YtolgelipcgcbhaaGreat
