/- Part 6: contracts. -/
import Derived.Test.YtolgelipcgcbhaaGreatBn5
import Derived.Shelf.SlGeneric
import Derived.Shelf.SlSortCmp.WholeK
import Derived.Test.YtolgelipcgcbhaaGreatProg
namespace Go.Proofs.YtolgelipcgcbhaaGreat
open Go.Shelf
def Tryz.sortS_ren:Go.Shelf.Ren:=⟨fun | 6=>132 | 15=>162 | 14=>190 | 28=>207 | 29=>208 | 20=>221 | 21=>222 | 22=>223 | 23=>224 | 24=>225 | 25=>226 | 26=>227 | 27=>228 | 46=>243 | 47=>234 | 48=>235 | 49=>244 | 50=>245 | 57=>257 | n=>n,fun | 22=>27 | 24=>68 | 25=>161 | 3=>3 | 39=>210 | 0=>0 | 53=>254 | 55=>256 | 4=>4 | 46=>246 | 45=>245 | 50=>251 | 5=>5 | 9=>9 | 66=>285 | 70=>289 | 76=>299 | 77=>300 | n=>n,fun | n=>n⟩
theorem Tryz.sortS:Go.Proofs.SlLaysF0.n6 Tryz.prog Tryz.sortS_ren:={
  mixed:=by kernel_rfl
  f6:=⟨Tryz.f132.name,by decide,Tryz.func132.trans (congrArg some (by kernel_rfl))⟩
  f14:=⟨Tryz.f190.name,by decide,Tryz.func190.trans (congrArg some (by kernel_rfl))⟩
  f15:=Tryz.func162.trans (congrArg some (by kernel_rfl))
  f20:=⟨Tryz.f221.name,by decide,Tryz.func221.trans (congrArg some (by kernel_rfl))⟩
  f21:=⟨Tryz.f222.name,by decide,Tryz.func222.trans (congrArg some (by kernel_rfl))⟩
  f22:=⟨Tryz.f223.name,by decide,Tryz.func223.trans (congrArg some (by kernel_rfl))⟩
  f23:=⟨Tryz.f224.name,by decide,Tryz.func224.trans (congrArg some (by kernel_rfl))⟩
  f24:=⟨Tryz.f225.name,by decide,Tryz.func225.trans (congrArg some (by kernel_rfl))⟩
  f25:=⟨Tryz.f226.name,by decide,Tryz.func226.trans (congrArg some (by kernel_rfl))⟩
  f26:=⟨Tryz.f227.name,by decide,Tryz.func227.trans (congrArg some (by kernel_rfl))⟩
  f27:=⟨Tryz.f228.name,by decide,Tryz.func228.trans (congrArg some (by kernel_rfl))⟩
  f28:=Tryz.func207.trans (congrArg some (by kernel_rfl))
  f29:=Tryz.func208.trans (congrArg some (by kernel_rfl))
  f46:=⟨Tryz.f243.name,by decide,Tryz.func243.trans (congrArg some (by kernel_rfl))⟩
  f47:=Tryz.func234.trans (congrArg some (by kernel_rfl))
  f48:=Tryz.func235.trans (congrArg some (by kernel_rfl))
  f49:=⟨Tryz.f244.name,by decide,Tryz.func244.trans (congrArg some (by kernel_rfl))⟩
  f50:=⟨Tryz.f245.name,by decide,Tryz.func245.trans (congrArg some (by kernel_rfl))⟩
  f57:=⟨Tryz.f257.name,by decide,Tryz.func257.trans (congrArg some (by kernel_rfl))⟩
  t0:=Tryz.underlying0
  a0:=Tryz.isAgg0
  z0:=Tryz.sizeOf0
  v0:=Tryz.zeroValue0
  t3:=Tryz.underlying3
  a3:=Tryz.isAgg3
  z3:=Tryz.sizeOf3
  v3:=Tryz.zeroValue3
  t4:=Tryz.underlying4
  a4:=Tryz.isAgg4
  z4:=Tryz.sizeOf4
  v4:=Tryz.zeroValue4
  t5:=Tryz.underlying5
  a5:=Tryz.isAgg5
  z5:=Tryz.sizeOf5
  v5:=Tryz.zeroValue5
  t9:=Tryz.underlying9
  a9:=Tryz.isAgg9
  z9:=Tryz.sizeOf9
  v9:=Tryz.zeroValue9
  t22:=Tryz.underlying27
  a22:=Tryz.isAgg27
  z22:=Tryz.sizeOf27
  v22:=Tryz.zeroValue27
  t25:=Tryz.underlying161
  a25:=Tryz.isAgg161
  z25:=Tryz.sizeOf161
  v25:=Tryz.zeroValue161
  t39:=Tryz.underlying210
  a39:=Tryz.isAgg210
  z39:=Tryz.sizeOf210
  v39:=Tryz.zeroValue210
  t45:=Tryz.underlying245
  a45:=Tryz.isAgg245
  z45:=Tryz.sizeOf245
  v45:=Tryz.zeroValue245
  t46:=Tryz.underlying246
  a46:=Tryz.isAgg246
  z46:=Tryz.sizeOf246
  v46:=Tryz.zeroValue246
  t50:=Tryz.underlying251
  a50:=Tryz.isAgg251
  z50:=Tryz.sizeOf251
  v50:=Tryz.zeroValue251
  t53:=Tryz.underlying254
  a53:=Tryz.isAgg254
  z53:=Tryz.sizeOf254
  v53:=Tryz.zeroValue254
  t55:=Tryz.underlying256
  a55:=Tryz.isAgg256
  z55:=Tryz.sizeOf256
  v55:=Tryz.zeroValue256
  t66:=Tryz.underlying285
  a66:=Tryz.isAgg285
  z66:=Tryz.sizeOf285
  v66:=Tryz.zeroValue285
  t70:=Tryz.underlying289
  a70:=Tryz.isAgg289
  z70:=Tryz.sizeOf289
  v70:=Tryz.zeroValue289
  t76:=Tryz.underlying299
  a76:=Tryz.isAgg299
  z76:=Tryz.sizeOf299
  v76:=Tryz.zeroValue299
  t77:=Tryz.underlying300
  a77:=Tryz.isAgg300
  z77:=Tryz.sizeOf300
  v77:=Tryz.zeroValue300 }
end Go.Proofs.YtolgelipcgcbhaaGreat
