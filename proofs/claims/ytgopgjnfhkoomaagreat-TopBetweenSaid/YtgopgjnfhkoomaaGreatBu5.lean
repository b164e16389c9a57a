/- Part 5 of the texts: abstract values over the walk; contracts. -/
import Derived.Test.YtgopgjnfhkoomaaGreatBu4
import Derived.Test.YtgopgjnfhkoomaaGreatRows
set_option linter.unusedVariables false
set_option linter.unusedSimpArgs false
namespace Go.Abs
structure AN where
 mU:Int
 ej:Int
 lj:Int
 low:Int
 high:Int
 jY:Int
 along:Sp
 fW:Sp
 deriving DecidableEq
structure Pt where
 x:Int
 y:Int
 half:Int
 deriving DecidableEq
structure Mk where
 en:Int
 bD:Sp
 deriving DecidableEq
structure Pn where
 cS:Int
 zero:Sp
 kc:Int
 deriving DecidableEq
structure fT where
 bz:AN
 trace:List Pt
 eu:List Int
 rates:List Sp
 stops:List Mk
 eC:Pn
 deriving DecidableEq
structure Rd where
 fB:Int
 week:Int
 tick:Int
 levels:Sp
 deriving DecidableEq
structure l4 where
 week:Int
 lk:Sp
 deriving DecidableEq
structure Nm where
 dP:Int
 num:Int
 deriving DecidableEq
structure Nt where
 dP:Int
 num:Int
 clock:Int
 day:Int
 kind:Int
 fB:Int
 week:Int
 c8:fT
 mark:Mk
 read:Rd
 ej:l4
 ref:Nm
 deriving DecidableEq
structure j3 where
 id:Int
 x:Int
 y:Int
 cz:List l4
 deriving DecidableEq
structure l8 where
 dh:List j3
 fixed:Int
 each:Int
 term:Int
 bD:Int
 tF:Int
 deriving DecidableEq
structure dm where
 name:Nm
 fB:Int
 week:Int
 c8:fT
 marks:List Mk
 names:List Nm
 deriving DecidableEq
structure FU where
 aS:List dm
 reads:List Rd
 dh:List j3
 ig:List Nm
 deriving DecidableEq
structure Wk where
 base:l8
 week:Int
 aS:List dm
 reads:List Rd
 deriving DecidableEq
abbrev Pt.cs(p:Pt):List AV:=[n p.x,n p.y,n p.half]
abbrev Mk.cs(p:Mk):List AV:=[n p.en,n p.bD.lo,n p.bD.hi]
abbrev Rd.cs(p:Rd):List AV:=[n p.fB,n p.week,n p.tick,n p.levels.lo,n p.levels.hi]
abbrev l4.cs(p:l4):List AV:=[n p.week,n p.lk.lo,n p.lk.hi]
abbrev Nm.cs(p:Nm):List AV:=[n p.dP,n p.num]
abbrev Pn.cs(p:Pn):List AV:=[n p.cS,n p.zero.lo,n p.zero.hi,n p.kc]
abbrev AN.cs(p:AN):List AV:=[n p.mU,n p.ej,n p.lj,n p.low,n p.high,n p.jY,n p.along.lo,n p.along.hi,n p.fW.lo,n p.fW.hi]
abbrev AO(l:List Pt):AV:=.sl 3 (l.map Pt.cs)
abbrev l9(l:List Int):AV:=.sl 1 (l.map fun z=>[n z])
abbrev ec(l:List Sp):AV:=.sl 2 (l.map Sp.cs)
abbrev mb(l:List Mk):AV:=.sl 3 (l.map Mk.cs)
abbrev Jw(l:List Rd):AV:=.sl 5 (l.map Rd.cs)
abbrev Rl(l:List l4):AV:=.sl 3 (l.map l4.cs)
abbrev Rm(l:List Nm):AV:=.sl 2 (l.map Nm.cs)
def fT.cs(s:fT):List AV:=[n s.bz.mU,n s.bz.ej,n s.bz.lj,n s.bz.low,n s.bz.high,n s.bz.jY,n s.bz.along.lo,n s.bz.along.hi,n s.bz.fW.lo,n s.bz.fW.hi,
 AO s.trace,l9 s.eu,ec s.rates,mb s.stops,n s.eC.cS,n s.eC.zero.lo,n s.eC.zero.hi,n s.eC.kc]
def Nt.cs(a:Nt):List AV:=[n a.dP,n a.num,n a.clock,n a.day,n a.kind,n a.fB,n a.week,
 n a.c8.bz.mU,n a.c8.bz.ej,n a.c8.bz.lj,n a.c8.bz.low,n a.c8.bz.high,n a.c8.bz.jY,n a.c8.bz.along.lo,n a.c8.bz.along.hi,n a.c8.bz.fW.lo,n a.c8.bz.fW.hi,
 AO a.c8.trace,l9 a.c8.eu,ec a.c8.rates,mb a.c8.stops,n a.c8.eC.cS,n a.c8.eC.zero.lo,n a.c8.eC.zero.hi,n a.c8.eC.kc,
 n a.mark.en,n a.mark.bD.lo,n a.mark.bD.hi,n a.read.fB,n a.read.week,n a.read.tick,n a.read.levels.lo,n a.read.levels.hi,n a.ej.week,n a.ej.lk.lo,n a.ej.lk.hi,n a.ref.dP,n a.ref.num]
abbrev Ad(l:List Nt):AV:=.sl 38 (l.map Nt.cs)
abbrev j3.cs(s:j3):List AV:=[n s.id,n s.x,n s.y,Rl s.cz]
abbrev KY(l:List j3):AV:=.sl 4 (l.map j3.cs)
abbrev l8.cs(b:l8):List AV:=[KY b.dh,n b.fixed,n b.each,n b.term,n b.bD,n b.tF]
def dm.cs(f:dm):List AV:=[n f.name.dP,n f.name.num,n f.fB,n f.week,
 n f.c8.bz.mU,n f.c8.bz.ej,n f.c8.bz.lj,n f.c8.bz.low,n f.c8.bz.high,n f.c8.bz.jY,n f.c8.bz.along.lo,n f.c8.bz.along.hi,n f.c8.bz.fW.lo,n f.c8.bz.fW.hi,
 AO f.c8.trace,l9 f.c8.eu,ec f.c8.rates,mb f.c8.stops,n f.c8.eC.cS,n f.c8.eC.zero.lo,n f.c8.eC.zero.hi,n f.c8.eC.kc,mb f.marks,Rm f.names]
abbrev X9(l:List dm):AV:=.sl 24 (l.map dm.cs)
abbrev FU.cs(r:FU):List AV:=[X9 r.aS,Jw r.reads,KY r.dh,Rm r.ig]
abbrev Wk.cs(w:Wk):List AV:=[KY w.base.dh,n w.base.fixed,n w.base.each,n w.base.term,n w.base.bD,n w.base.tF,n w.week,X9 w.aS,Jw w.reads]
def vj:List Value:=[.int .i64 0,.int .i64 0,.int .i64 0,.int .i64 0,.int .i64 0,.int .i64 0,.int .i64 0,.int .i64 0,.int .i64 0,.int .i64 0,.int .i64 0,.int .i64 0,.int .i64 0,.int .i64 0,.int .i64 0,.int .i64 0,.int .i64 0,.slice none 0 0,.slice none 0 0,.slice none 0 0,.slice none 0 0,.int .i64 0,.int .i64 0,.int .i64 0,.int .i64 0,.int .i64 0,.int .i64 0,.int .i64 0,.int .i64 0,.int .i64 0,.int .i64 0,.int .i64 0,.int .i64 0,.int .i64 0,.int .i64 0,.int .i64 0,.int .i64 0,.int .i64 0]
def z24:List Value:=[.int .i64 0,.int .i64 0,.int .i64 0,.int .i64 0,.int .i64 0,.int .i64 0,.int .i64 0,.int .i64 0,.int .i64 0,.int .i64 0,.int .i64 0,.int .i64 0,.int .i64 0,.int .i64 0,.slice none 0 0,.slice none 0 0,.slice none 0 0,.slice none 0 0,.int .i64 0,.int .i64 0,.int .i64 0,.int .i64 0,.slice none 0 0,.slice none 0 0]
def Tb:List Value:=[.int .i64 0,.int .i64 0,.int .i64 0,.int .i64 0,.int .i64 0,.int .i64 0,.int .i64 0,.int .i64 0,.int .i64 0,.int .i64 0,.slice none 0 0,.slice none 0 0,.slice none 0 0,.slice none 0 0,.int .i64 0,.int .i64 0,.int .i64 0,.int .i64 0]
theorem zN0:(∀s:fT,(fT.cs s).length=18)/\
 (∀s:fT,(fT.cs s)[0]?=some (n s.bz.mU))/\
 (∀s:fT,(fT.cs s)[1]?=some (n s.bz.ej))/\
 (∀s:fT,(fT.cs s)[2]?=some (n s.bz.lj))/\
 (∀s:fT,(fT.cs s)[3]?=some (n s.bz.low))/\
 (∀s:fT,(fT.cs s)[4]?=some (n s.bz.high))/\
 (∀s:fT,(fT.cs s)[5]?=some (n s.bz.jY))/\
 (∀s:fT,(fT.cs s)[6]?=some (n s.bz.along.lo))/\
 (∀s:fT,(fT.cs s)[7]?=some (n s.bz.along.hi))/\
 (∀s:fT,(fT.cs s)[8]?=some (n s.bz.fW.lo))/\
 (∀s:fT,(fT.cs s)[9]?=some (n s.bz.fW.hi))/\
 (∀s:fT,(fT.cs s)[10]?=some (AO s.trace))/\
 (∀s:fT,(fT.cs s)[11]?=some (l9 s.eu))/\
 (∀s:fT,(fT.cs s)[12]?=some (ec s.rates))/\
 (∀s:fT,(fT.cs s)[13]?=some (mb s.stops))/\
 (∀s:fT,(fT.cs s)[14]?=some (n s.eC.cS))/\
 (∀s:fT,(fT.cs s)[15]?=some (n s.eC.zero.lo))/\
 (∀s:fT,(fT.cs s)[16]?=some (n s.eC.zero.hi))/\
 (∀s:fT,(fT.cs s)[17]?=some (n s.eC.kc))/\
 (∀s:fT,(fT.cs s).getD 0 .any=n s.bz.mU)/\
 (∀s:fT,(fT.cs s).getD 1 .any=n s.bz.ej)/\
 (∀s:fT,(fT.cs s).getD 2 .any=n s.bz.lj)/\
 (∀s:fT,(fT.cs s).getD 3 .any=n s.bz.low)/\
 (∀s:fT,(fT.cs s).getD 4 .any=n s.bz.high)/\
 (∀s:fT,(fT.cs s).getD 5 .any=n s.bz.jY)/\
 (∀s:fT,(fT.cs s).getD 6 .any=n s.bz.along.lo)/\
 (∀s:fT,(fT.cs s).getD 7 .any=n s.bz.along.hi)/\
 (∀s:fT,(fT.cs s).getD 8 .any=n s.bz.fW.lo)/\
 (∀s:fT,(fT.cs s).getD 9 .any=n s.bz.fW.hi)/\
 (∀s:fT,(fT.cs s).getD 10 .any=AO s.trace)/\
 (∀s:fT,(fT.cs s).getD 11 .any=l9 s.eu)/\
 (∀s:fT,(fT.cs s).getD 12 .any=ec s.rates)/\
 (∀s:fT,(fT.cs s).getD 13 .any=mb s.stops)/\
 (∀s:fT,(fT.cs s).getD 14 .any=n s.eC.cS)/\
 (∀s:fT,(fT.cs s).getD 15 .any=n s.eC.zero.lo)/\
 (∀s:fT,(fT.cs s).getD 16 .any=n s.eC.zero.hi)/\
 (∀s:fT,(fT.cs s).getD 17 .any=n s.eC.kc)/\
 (∀s:fT,(fT.cs s).take 18=fT.cs s)/\
 (∀s:fT,(fT.cs s).drop 18=[])/\
 (∀s:fT,(fT.cs s).take 10=AN.cs s.bz)/\
 (∀s:fT,((fT.cs s).drop 12).take 2=[ec s.rates,mb s.stops])/\
 (∀s:fT,((fT.cs s).drop 14).take 4=Pn.cs s.eC)/\
 (∀a:Nt,(Nt.cs a).length=38)/\
 (∀a:Nt,(Nt.cs a)[0]?=some (n a.dP))/\
 (∀a:Nt,(Nt.cs a)[1]?=some (n a.num))/\
 (∀a:Nt,(Nt.cs a)[2]?=some (n a.clock))/\
 (∀a:Nt,(Nt.cs a)[3]?=some (n a.day))/\
 (∀a:Nt,(Nt.cs a)[4]?=some (n a.kind))/\
 (∀a:Nt,(Nt.cs a)[5]?=some (n a.fB))/\
 (∀a:Nt,(Nt.cs a)[6]?=some (n a.week))/\
 (∀a:Nt,(Nt.cs a)[7]?=some (n a.c8.bz.mU))/\
 (∀a:Nt,(Nt.cs a)[8]?=some (n a.c8.bz.ej))/\
 (∀a:Nt,(Nt.cs a)[9]?=some (n a.c8.bz.lj))/\
 (∀a:Nt,(Nt.cs a)[10]?=some (n a.c8.bz.low))/\
 (∀a:Nt,(Nt.cs a)[11]?=some (n a.c8.bz.high))/\
 (∀a:Nt,(Nt.cs a)[12]?=some (n a.c8.bz.jY))/\
 (∀a:Nt,(Nt.cs a)[13]?=some (n a.c8.bz.along.lo))/\
 (∀a:Nt,(Nt.cs a)[14]?=some (n a.c8.bz.along.hi))/\
 (∀a:Nt,(Nt.cs a)[15]?=some (n a.c8.bz.fW.lo))/\
 (∀a:Nt,(Nt.cs a)[16]?=some (n a.c8.bz.fW.hi)):=by
 refine⟨?_,?_,?_,?_,?_,?_,?_,?_,?_,?_,?_,?_,?_,?_,?_,?_,?_,?_,?_,?_,?_,?_,?_,?_,?_,?_,?_,?_,?_,?_,?_,?_,?_,?_,?_,?_,?_,?_,?_,?_,?_,?_,?_,?_,?_,?_,?_,?_,?_,?_,?_,?_,?_,?_,?_,?_,?_,?_,?_,?_⟩<;>intros<;>rfl
theorem zN1:(∀a:Nt,(Nt.cs a)[17]?=some (AO a.c8.trace))/\
 (∀a:Nt,(Nt.cs a)[18]?=some (l9 a.c8.eu))/\
 (∀a:Nt,(Nt.cs a)[19]?=some (ec a.c8.rates))/\
 (∀a:Nt,(Nt.cs a)[20]?=some (mb a.c8.stops))/\
 (∀a:Nt,(Nt.cs a)[21]?=some (n a.c8.eC.cS))/\
 (∀a:Nt,(Nt.cs a)[22]?=some (n a.c8.eC.zero.lo))/\
 (∀a:Nt,(Nt.cs a)[23]?=some (n a.c8.eC.zero.hi))/\
 (∀a:Nt,(Nt.cs a)[24]?=some (n a.c8.eC.kc))/\
 (∀a:Nt,(Nt.cs a)[25]?=some (n a.mark.en))/\
 (∀a:Nt,(Nt.cs a)[26]?=some (n a.mark.bD.lo))/\
 (∀a:Nt,(Nt.cs a)[27]?=some (n a.mark.bD.hi))/\
 (∀a:Nt,(Nt.cs a)[28]?=some (n a.read.fB))/\
 (∀a:Nt,(Nt.cs a)[29]?=some (n a.read.week))/\
 (∀a:Nt,(Nt.cs a)[30]?=some (n a.read.tick))/\
 (∀a:Nt,(Nt.cs a)[31]?=some (n a.read.levels.lo))/\
 (∀a:Nt,(Nt.cs a)[32]?=some (n a.read.levels.hi))/\
 (∀a:Nt,(Nt.cs a)[33]?=some (n a.ej.week))/\
 (∀a:Nt,(Nt.cs a)[34]?=some (n a.ej.lk.lo))/\
 (∀a:Nt,(Nt.cs a)[35]?=some (n a.ej.lk.hi))/\
 (∀a:Nt,(Nt.cs a)[36]?=some (n a.ref.dP))/\
 (∀a:Nt,(Nt.cs a)[37]?=some (n a.ref.num))/\
 (∀a:Nt,(Nt.cs a).getD 0 .any=n a.dP)/\
 (∀a:Nt,(Nt.cs a).getD 1 .any=n a.num)/\
 (∀a:Nt,(Nt.cs a).getD 2 .any=n a.clock)/\
 (∀a:Nt,(Nt.cs a).getD 3 .any=n a.day)/\
 (∀a:Nt,(Nt.cs a).getD 4 .any=n a.kind)/\
 (∀a:Nt,(Nt.cs a).getD 5 .any=n a.fB)/\
 (∀a:Nt,(Nt.cs a).getD 6 .any=n a.week)/\
 (∀a:Nt,(Nt.cs a).getD 7 .any=n a.c8.bz.mU)/\
 (∀a:Nt,(Nt.cs a).getD 8 .any=n a.c8.bz.ej)/\
 (∀a:Nt,(Nt.cs a).getD 9 .any=n a.c8.bz.lj)/\
 (∀a:Nt,(Nt.cs a).getD 10 .any=n a.c8.bz.low)/\
 (∀a:Nt,(Nt.cs a).getD 11 .any=n a.c8.bz.high)/\
 (∀a:Nt,(Nt.cs a).getD 12 .any=n a.c8.bz.jY)/\
 (∀a:Nt,(Nt.cs a).getD 13 .any=n a.c8.bz.along.lo)/\
 (∀a:Nt,(Nt.cs a).getD 14 .any=n a.c8.bz.along.hi)/\
 (∀a:Nt,(Nt.cs a).getD 15 .any=n a.c8.bz.fW.lo)/\
 (∀a:Nt,(Nt.cs a).getD 16 .any=n a.c8.bz.fW.hi)/\
 (∀a:Nt,(Nt.cs a).getD 17 .any=AO a.c8.trace)/\
 (∀a:Nt,(Nt.cs a).getD 18 .any=l9 a.c8.eu)/\
 (∀a:Nt,(Nt.cs a).getD 19 .any=ec a.c8.rates)/\
 (∀a:Nt,(Nt.cs a).getD 20 .any=mb a.c8.stops)/\
 (∀a:Nt,(Nt.cs a).getD 21 .any=n a.c8.eC.cS)/\
 (∀a:Nt,(Nt.cs a).getD 22 .any=n a.c8.eC.zero.lo)/\
 (∀a:Nt,(Nt.cs a).getD 23 .any=n a.c8.eC.zero.hi)/\
 (∀a:Nt,(Nt.cs a).getD 24 .any=n a.c8.eC.kc)/\
 (∀a:Nt,(Nt.cs a).getD 25 .any=n a.mark.en)/\
 (∀a:Nt,(Nt.cs a).getD 26 .any=n a.mark.bD.lo)/\
 (∀a:Nt,(Nt.cs a).getD 27 .any=n a.mark.bD.hi)/\
 (∀a:Nt,(Nt.cs a).getD 28 .any=n a.read.fB)/\
 (∀a:Nt,(Nt.cs a).getD 29 .any=n a.read.week)/\
 (∀a:Nt,(Nt.cs a).getD 30 .any=n a.read.tick)/\
 (∀a:Nt,(Nt.cs a).getD 31 .any=n a.read.levels.lo)/\
 (∀a:Nt,(Nt.cs a).getD 32 .any=n a.read.levels.hi)/\
 (∀a:Nt,(Nt.cs a).getD 33 .any=n a.ej.week)/\
 (∀a:Nt,(Nt.cs a).getD 34 .any=n a.ej.lk.lo)/\
 (∀a:Nt,(Nt.cs a).getD 35 .any=n a.ej.lk.hi)/\
 (∀a:Nt,(Nt.cs a).getD 36 .any=n a.ref.dP)/\
 (∀a:Nt,(Nt.cs a).getD 37 .any=n a.ref.num)/\
 (∀a:Nt,(Nt.cs a).take 38=Nt.cs a):=by
 refine⟨?_,?_,?_,?_,?_,?_,?_,?_,?_,?_,?_,?_,?_,?_,?_,?_,?_,?_,?_,?_,?_,?_,?_,?_,?_,?_,?_,?_,?_,?_,?_,?_,?_,?_,?_,?_,?_,?_,?_,?_,?_,?_,?_,?_,?_,?_,?_,?_,?_,?_,?_,?_,?_,?_,?_,?_,?_,?_,?_,?_⟩<;>intros<;>rfl
theorem zN2:(∀a:Nt,(Nt.cs a).drop 38=[])/\
 (∀a:Nt,((Nt.cs a).drop 7).take 18=fT.cs a.c8)/\
 (∀a:Nt,((Nt.cs a).drop 25).take 3=Mk.cs a.mark)/\
 (∀a:Nt,((Nt.cs a).drop 28).take 5=Rd.cs a.read)/\
 (∀a:Nt,((Nt.cs a).drop 33).take 3=l4.cs a.ej)/\
 (∀a:Nt,((Nt.cs a).drop 36).take 2=Nm.cs a.ref)/\
 (∀a:Nt,((Nt.cs a).drop 7).take 10=AN.cs a.c8.bz)/\
 (∀a:Nt,((Nt.cs a).drop 19).take 2=[ec a.c8.rates,mb a.c8.stops])/\
 (∀a:Nt,((Nt.cs a).drop 21).take 4=Pn.cs a.c8.eC)/\
 (∀a:Nt,((Nt.cs a).drop 34).take 2=Sp.cs a.ej.lk)/\
 (∀a:Nt,((Nt.cs a).drop 31).take 2=Sp.cs a.read.levels)/\
 (∀a:Nt,((Nt.cs a).drop 26).take 2=Sp.cs a.mark.bD)/\
 (∀f:dm,(dm.cs f).length=24)/\
 (∀f:dm,(dm.cs f)[0]?=some (n f.name.dP))/\
 (∀f:dm,(dm.cs f)[1]?=some (n f.name.num))/\
 (∀f:dm,(dm.cs f)[2]?=some (n f.fB))/\
 (∀f:dm,(dm.cs f)[3]?=some (n f.week))/\
 (∀f:dm,(dm.cs f)[4]?=some (n f.c8.bz.mU))/\
 (∀f:dm,(dm.cs f)[5]?=some (n f.c8.bz.ej))/\
 (∀f:dm,(dm.cs f)[6]?=some (n f.c8.bz.lj))/\
 (∀f:dm,(dm.cs f)[7]?=some (n f.c8.bz.low))/\
 (∀f:dm,(dm.cs f)[8]?=some (n f.c8.bz.high))/\
 (∀f:dm,(dm.cs f)[9]?=some (n f.c8.bz.jY))/\
 (∀f:dm,(dm.cs f)[10]?=some (n f.c8.bz.along.lo))/\
 (∀f:dm,(dm.cs f)[11]?=some (n f.c8.bz.along.hi))/\
 (∀f:dm,(dm.cs f)[12]?=some (n f.c8.bz.fW.lo))/\
 (∀f:dm,(dm.cs f)[13]?=some (n f.c8.bz.fW.hi))/\
 (∀f:dm,(dm.cs f)[14]?=some (AO f.c8.trace))/\
 (∀f:dm,(dm.cs f)[15]?=some (l9 f.c8.eu))/\
 (∀f:dm,(dm.cs f)[16]?=some (ec f.c8.rates))/\
 (∀f:dm,(dm.cs f)[17]?=some (mb f.c8.stops))/\
 (∀f:dm,(dm.cs f)[18]?=some (n f.c8.eC.cS))/\
 (∀f:dm,(dm.cs f)[19]?=some (n f.c8.eC.zero.lo))/\
 (∀f:dm,(dm.cs f)[20]?=some (n f.c8.eC.zero.hi))/\
 (∀f:dm,(dm.cs f)[21]?=some (n f.c8.eC.kc))/\
 (∀f:dm,(dm.cs f)[22]?=some (mb f.marks))/\
 (∀f:dm,(dm.cs f)[23]?=some (Rm f.names))/\
 (∀f:dm,(dm.cs f).getD 0 .any=n f.name.dP)/\
 (∀f:dm,(dm.cs f).getD 1 .any=n f.name.num)/\
 (∀f:dm,(dm.cs f).getD 2 .any=n f.fB)/\
 (∀f:dm,(dm.cs f).getD 3 .any=n f.week)/\
 (∀f:dm,(dm.cs f).getD 4 .any=n f.c8.bz.mU)/\
 (∀f:dm,(dm.cs f).getD 5 .any=n f.c8.bz.ej)/\
 (∀f:dm,(dm.cs f).getD 6 .any=n f.c8.bz.lj)/\
 (∀f:dm,(dm.cs f).getD 7 .any=n f.c8.bz.low)/\
 (∀f:dm,(dm.cs f).getD 8 .any=n f.c8.bz.high)/\
 (∀f:dm,(dm.cs f).getD 9 .any=n f.c8.bz.jY)/\
 (∀f:dm,(dm.cs f).getD 10 .any=n f.c8.bz.along.lo)/\
 (∀f:dm,(dm.cs f).getD 11 .any=n f.c8.bz.along.hi)/\
 (∀f:dm,(dm.cs f).getD 12 .any=n f.c8.bz.fW.lo)/\
 (∀f:dm,(dm.cs f).getD 13 .any=n f.c8.bz.fW.hi)/\
 (∀f:dm,(dm.cs f).getD 14 .any=AO f.c8.trace)/\
 (∀f:dm,(dm.cs f).getD 15 .any=l9 f.c8.eu)/\
 (∀f:dm,(dm.cs f).getD 16 .any=ec f.c8.rates)/\
 (∀f:dm,(dm.cs f).getD 17 .any=mb f.c8.stops)/\
 (∀f:dm,(dm.cs f).getD 18 .any=n f.c8.eC.cS)/\
 (∀f:dm,(dm.cs f).getD 19 .any=n f.c8.eC.zero.lo)/\
 (∀f:dm,(dm.cs f).getD 20 .any=n f.c8.eC.zero.hi)/\
 (∀f:dm,(dm.cs f).getD 21 .any=n f.c8.eC.kc)/\
 (∀f:dm,(dm.cs f).getD 22 .any=mb f.marks):=by
 refine⟨?_,?_,?_,?_,?_,?_,?_,?_,?_,?_,?_,?_,?_,?_,?_,?_,?_,?_,?_,?_,?_,?_,?_,?_,?_,?_,?_,?_,?_,?_,?_,?_,?_,?_,?_,?_,?_,?_,?_,?_,?_,?_,?_,?_,?_,?_,?_,?_,?_,?_,?_,?_,?_,?_,?_,?_,?_,?_,?_,?_⟩<;>intros<;>rfl
theorem zN3:(∀f:dm,(dm.cs f).getD 23 .any=Rm f.names)/\
 (∀f:dm,(dm.cs f).take 24=dm.cs f)/\
 (∀f:dm,(dm.cs f).drop 24=[])/\
 (∀f:dm,(dm.cs f).take 2=Nm.cs f.name)/\
 (∀f:dm,((dm.cs f).drop 4).take 18=fT.cs f.c8)/\
 (vj.length=38)/\
 ((vs vj).length=38)/\
 ((vs vj).drop 38=[])/\
 ((vs vj).take 38=vs vj)/\
 (z24.length=24)/\
 ((vs z24).length=24)/\
 ((vs z24).drop 24=[])/\
 ((vs z24).take 24=vs z24)/\
 (Tb.length=18)/\
 ((vs Tb).length=18)/\
 ((vs Tb).drop 18=[])/\
 ((vs Tb).take 18=vs Tb):=by
 refine⟨?_,?_,?_,?_,?_,?_,?_,?_,?_,?_,?_,?_,?_,?_,?_,?_,?_⟩<;>intros<;>rfl
theorem zN:(type_of% zN0)/\(type_of% zN1)/\(type_of% zN2)/\(type_of% zN3):=⟨zN0,zN1,zN2,zN3⟩
theorem fT.pc(s:fT):∀c∈s.cs,bC c:=by unfold fT.cs;simp
theorem Nt.pc(a:Nt):∀c∈a.cs,bC c:=by unfold Nt.cs;simp
theorem dm.pc(f:dm):∀c∈f.cs,bC c:=by unfold dm.cs;simp
@[simp] theorem fT.pa(s:fT):bC (.agg s.cs):=.agg s.pc
@[simp] theorem Nt.pa(a:Nt):bC (.agg a.cs):=.agg a.pc
@[simp] theorem dm.pa(a:dm):bC (.agg a.cs):=.agg a.pc
@[simp] theorem fT.pi(s:fT)(j:Nat):bC (.bZ s.cs j):=.bZ s.pc
@[simp] theorem Nt.pi(a:Nt)(j:Nat):bC (.bZ a.cs j):=.bZ a.pc
@[simp] theorem dm.pi(a:dm)(j:Nat):bC (.bZ a.cs j):=.bZ a.pc
@[simp] theorem VY(l:List Nt):bC (Ad l):=.sl fun e he c hc=>by
 obtain⟨a,_,rfl⟩:=aO.1 he
 exact a.pc c hc
@[simp] theorem Mu(l:List dm):bC (X9 l):=.sl fun e he c hc=>by
 obtain⟨a,_,rfl⟩:=aO.1 he
 exact a.pc c hc
abbrev inr(a lo hi:Int):Prop:=lo<=a/\a<=hi
abbrev ke(s:Sp)(lo hi:Int):Prop:=lo<=s.lo/\s.lo<=s.hi/\s.hi<=hi
def AN.ok(p:AN):Prop:=inr p.mU 1 10000/\inr p.ej 1 400000/\(p.lj=0\/inr p.lj p.ej 4000000)/\0<=p.low/\p.low<p.high/\p.high<=12000/\p.high-p.low<=p.ej/\
 inr p.jY 1 200/\ke p.along 900 1100/\ke p.fW 900 1100
instance (p:AN):Decidable p.ok:=by unfold AN.ok;infer_instance
def Pt.ok(t:Pt):Prop:=inr t.x 0 400000/\inr t.y 0 400000/\inr t.half 0 5000
instance (p:Pt):Decidable p.ok:=by unfold Pt.ok;infer_instance
def tG(p:Nat->Int):Nat->Nat->Int×Nat
 |0,_=>(0,0)
 |m+1,i=>if p i≠0 then(p i,i)else tG p m (i+1)
def rj(p:Nat->Int)(m:Nat):Int×Nat:=tG p m 0
theorem BE{p:Nat->Int}:∀{m i k:Nat},k<m->(∀j,j<k->p (i+j)=0)->p (i+k)≠0->tG p m i=(p (i+k),i+k)
 |0,_,_,h,_,_=>absurd h (aN _)
 |m+1,i,0,_,_,h=>by unfold tG;rw[if_pos (by simpa using h)];rfl
 |m+1,i,k+1,h1,h2,h3=>by
  unfold tG
  rw[if_neg (by simpa using h2 0 (by omega)),BE (i:=i+1) (k:=k) (by omega) (fun j hj=>by rw[show i+1+j=i+(j+1) by omega];exact h2 _ (by omega)) (by rw[show i+1+k=i+(k+1) by omega];exact h3),
   show i+1+k=i+(k+1) by omega]
theorem wX{p:Nat->Int}:∀{m i:Nat},(∀j,j<m->p (i+j)=0)->tG p m i=(0,0)
 |0,_,_=>rfl
 |m+1,i,h=>by
  unfold tG
  rw[if_neg (by simpa using h 0 (by omega)),wX fun j hj=>by rw[show i+1+j=i+(j+1) by omega];exact h _ (by omega)]
theorem se{p:Nat->Int}{m k:Nat}(h:k<m)(h1:∀j,j<k->p j=0)(h2:p k≠0):rj p m=(p k,k):=by
 have:=BE (p:=p) (m:=m) (i:=0) (k:=k) h (by simpa using h1) (by simpa using h2)
 unfold rj
 simpa using this
theorem oT{p:Nat->Int}{m:Nat}(h:∀j,j<m->p j=0):rj p m=(0,0):=wX (by simpa using h)
theorem oU{p:Nat->Int}{m:Nat}:(rj p m).1=0↔∀j,j<m->p j=0:=by
 constructor
 ·intro h
  apply eo
  intro hn
  have⟨k,hk,me⟩:∃k,k<m/\p k≠0:=by
   apply eo
   intro h3
   exact hn fun j hj=>eo fun h4=>h3 ⟨j,hj,h4⟩
  have key:∀k,k<m->p k≠0->∃i,i<m/\p i≠0/\∀j,j<i->p j=0:=by
   intro k
   induction k using Nat.strongRecOn with
   |_ k ih=>
    intro h1 h2
    by_cases h3:∀j,j<k->p j=0
    ·exact⟨k,h1,h2,h3⟩
    ·have⟨j,hj,Bv⟩:∃j,j<k/\p j≠0:=eo fun h4=>h3 fun j hj=>eo fun h5=>h4 ⟨j,hj,h5⟩
     exact ih j hj (by omega) Bv
  obtain⟨i,h1,h2,h3⟩:=key k hk me
  rw[se h1 h3 h2]at h
  exact h2 h
 ·intro h;rw[oT h]
def nr(l:List Pt):Int×Nat:=if 2000<l.length then(2,0)else rj (fun i=>if(l.getD i ⟨0,0,0⟩).ok then 0 else 11) l.length
def gV(rates:List Sp)(stops:List Mk):Prop:=inr rates.length 1 199/\stops.length<=16/\(∀r∈rates,ke r 1 40)/\∀s∈stops,inr s.en 0 (rates.length-1)/\ke s.bD 0 400
instance (l:List Sp)(s:List Mk):Decidable (gV l s):=by unfold gV;infer_instance
def Pn.ok(p:Pn):Prop:=inr p.cS 0 8/\-200<=p.zero.lo/\p.zero.lo<=p.zero.hi/\p.zero.hi<=200/\p.zero.hi-p.zero.lo<=40/\inr p.kc 0 12000
instance (p:Pn):Decidable p.ok:=by unfold Pn.ok;infer_instance
def sf(c:Int)(l:List Int):Prop:=∀i,i<l.length->inr (l.getD i 0) 0 (c-1)/\(0<i->l.getD (i-1) 0<l.getD i 0)
instance (c:Int)(l:List Int):Decidable (sf c l):=by unfold sf;infer_instance
def fT.ok(s:fT):Prop:=(nr s.trace).1=0/\s.bz.ok/\gV s.rates s.stops/\s.eC.ok/\sf s.bz.jY s.eu/\(s.rates.length:Int)+1=s.bz.jY
instance (s:fT):Decidable s.ok:=by unfold fT.ok;infer_instance
instance :Inhabited l4:=⟨⟨0,⟨0,0⟩⟩⟩
instance :Inhabited j3:=⟨⟨0,0,0,[]⟩⟩
def vQ(l:List l4)(i:Nat):Prop:=(i=0->(l.getD i default).week=0)/\(0<i->(l.getD (i-1) default).week<(l.getD i default).week)/\(l.getD i default).week<=10000/\ke (l.getD i default).lk 0 4000
instance (l:List l4)(i:Nat):Decidable (vQ l i):=by unfold vQ;infer_instance
def lu(l:List l4):Prop:=inr l.length 1 16/\∀i,i<l.length->vQ l i
instance (l:List l4):Decidable (lu l):=by unfold lu;infer_instance
def xD(l:List j3)(i:Nat):Int:=
 let s:=l.getD i default
 if inr s.id 1 65535/\(0<i->(l.getD (i-1) default).id<s.id)/\inr s.x 0 2000/\inr s.y 0 2000 then(if lu s.cz then 0 else 51)else 50
def gW(l:List j3):Int×Nat:=if 32<l.length then(2,0)else rj (xD l) l.length
def l8.ok(b:l8):Prop:=(gW b.dh).1=0/\inr b.fixed 0 12000/\inr b.each 0 10000/\inr b.bD 1 400/\inr b.term 0 b.bD/\inr b.tF 1 8
instance (b:l8):Decidable b.ok:=by unfold l8.ok;infer_instance
def gI(l:List j3)(id:Int):Nat×Int:=
 if(gW l).1≠0 then(0,(gW l).1)else match l.findIdx? fun s=>s.id==id with
 |some i=>(i,0)
 |none=>(0,50)
def nY(h:l4):List l4->List l4
 | []=>[h]
 |g::r=>if g.week<h.week then g::nY h r else h::g::r
def mV(s:j3)(h:l4):j3×Int:=
 if(gW [s]).1≠0 then(default,(gW [s]).1)else if lu (nY h s.cz)then({s with cz:=nY h s.cz},0)else(default,51)
abbrev Nt.nm(a:Nt):Nm:=⟨a.dP,a.num⟩
def Nm.ok(m:Nm):Prop:=inr m.dP 1 8/\inr m.num 1 400
instance (m:Nm):Decidable m.ok:=by unfold Nm.ok;infer_instance
def Mk.ok(m:Mk):Prop:=inr m.en 0 199/\ke m.bD 0 400
instance (m:Mk):Decidable m.ok:=by unfold Mk.ok;infer_instance
def kn(b:l8)(s w:Int):Prop:=(gI b.dh s).2=0/\inr w 0 10000
instance (b:l8)(s w:Int):Decidable (kn b s w):=by unfold kn;infer_instance
def Rd.ok(b:l8)(r:Rd):Prop:=kn b r.fB r.week/\inr r.tick 0 b.bD/\ke r.levels 0 12000
instance (b:l8)(r:Rd):Decidable (r.ok b):=by unfold Rd.ok;infer_instance
def Jx:fT:=⟨⟨0,0,0,0,0,0,⟨0,0⟩,⟨0,0⟩⟩,[],[],[],[],⟨0,⟨0,0⟩,0⟩⟩
def Mv:Mk:=⟨0,⟨0,0⟩⟩
def KZ:Rd:=⟨0,0,0,⟨0,0⟩⟩
def uB:l4:=⟨0,⟨0,0⟩⟩
def Ct:Nm:=⟨0,0⟩
def Ib:Nt:=⟨0,0,0,0,0,0,0,Jx,Mv,KZ,uB,Ct⟩
instance :Inhabited Nt:=⟨Ib⟩
def Nt.head(a:Nt):Nt:={Ib with dP:=a.dP,num:=a.num,clock:=a.clock,day:=a.day,kind:=a.kind}
def Nt.bare(a:Nt):Nt:=
 if a.kind=1 then{a.head with fB:=a.fB,week:=a.week,c8:=a.c8}
 else if a.kind=2 then{a.head with ref:=a.ref,mark:=a.mark}
 else if a.kind=3 then{a.head with read:=a.read}
 else if a.kind=4 then{a.head with fB:=a.fB,ej:=a.ej}
 else if a.kind=5 then{a.head with ref:=a.ref,fB:=a.fB,week:=a.week}
 else if a.kind=6 then(if a.read.fB≠0 then{a.head with ref:=a.ref,read:=a.read}else{a.head with ref:=a.ref,mark:=a.mark})
 else if a.kind=7 then{a.head with ref:=a.ref}
 else a.head
def Nt.AP(b:l8)(a:Nt):Prop:=
 if a.kind=1 then kn b a.fB a.week/\a.c8.ok
 else if a.kind=2 then a.ref.ok/\a.mark.ok
 else if a.kind=3 then a.read.ok b
 else if a.kind=4 then kn b a.fB a.ej.week/\ke a.ej.lk 0 4000
 else if a.kind=5 then kn b a.fB a.week/\a.ref.ok
 else if a.kind=6 then(if a.read.fB≠0 then a.ref.ok/\a.read.ok b else a.ref.ok/\a.mark.ok)
 else if a.kind=7 then a.ref.ok
 else False
instance (b:l8)(a:Nt):Decidable (a.AP b):=by unfold Nt.AP;infer_instance
def Nt.ok(b:l8)(a:Nt):Prop:=a=a.bare/\a.nm.ok/\inr a.clock 1 1099511627776/\inr a.day 0 10000/\a.AP b
instance (b:l8)(a:Nt):Decidable (a.ok b):=by unfold Nt.ok;infer_instance
def vR(a b:Int):Int:=if a<b then-1 else if b<a then 1 else 0
def Pb(a b:Int):Int:=if a=0 then b else a
def uC(a b:Nm):Int:=Pb (vR a.dP b.dP) (vR a.num b.num)
def mH(a b:Nt):Int:=Pb (vR a.day b.day) (Pb (vR a.clock b.clock) (uC a.nm b.nm))
def On(b:l8)(l:List Nt)(i:Nat):Int:=
 if¬(l.getD i default).ok b then 60 else if i=0 then 0 else
  let c:=uC (l.getD (i-1) default).nm (l.getD i default).nm
  if c=0 then 61 else if 0<c then 1 else 0
def pg(b:l8)(l:List Nt):Int×Nat:=if¬b.ok then(100,0)else if 400<l.length then(2,0)else rj (On b l) l.length
def lV(b:l8)(ls:List (List Nt)):Int:=if¬b.ok then 100 else if ls.all fun l=>(pg b l).1==0 then 0 else 1
def eM{β:Type}:List (Nm×β)->Nm->Option β
 | [],_=>none
 |x::r,k=>if x.1=k then some x.2 else eM r k
def gX{β:Type}:List (Nm×β)->Nm->β->List (Nm×β)
 | [],k,v=>[(k,v)]
 |x::r,k,v=>if x.1=k then(k,v)::r else x::gX r k v
abbrev Nm.ky(m:Nm):List Int:=[m.dP,m.num]
abbrev jQ{β:Type}(f:β->AV)(m:List (Nm×β)):List (List Int×AV):=m.map fun x=>(x.1.ky,f x.2)
theorem Cu{a b:Nm}:a.ky=b.ky↔a=b:=by cases a;cases b;simp[Nm.ky]
theorem ij{β:Type}(f:β->AV)(k:Nm):∀m:List (Nm×β),jD (jQ f m) k.ky=(eM m k).map f
 | []=>rfl
 |x::r=>by
  have h:=ij f k r
  simp only[jQ,bq,jD,eM,Cu]at h|-
  split
  ·rfl
  ·exact h
theorem jA{β:Type}(f:β->AV)(k:Nm)(v:β):∀m:List (Nm×β),ku (jQ f m) k.ky (f v)=jQ f (gX m k v)
 | []=>rfl
 |x::r=>by
  have h:=jA f k v r
  simp only[jQ,bq,ku,gX,Cu]at h|-
  split
  ·rfl
  ·rw[bq,h]
theorem vS{β:Type}(k j:Nm)(v:β):∀m:List (Nm×β),eM (gX m k v) j=if j=k then some v else eM m j
 | []=>by
  simp only[gX,eM]
  by_cases h:j=k
  ·simp[h]
  ·have h':¬k=j:=fun e=>h e.symm
   simp[h,h']
 |x::r=>by
  have h:=vS k j v r
  simp only[gX]
  by_cases h1:x.1=k
  ·simp only[h1,if_true,eM]
   by_cases h2:j=k
   ·simp[h2]
   ·have h':¬k=j:=fun e=>h2 e.symm
    simp[h2,h']
  ·simp only[h1,if_false,eM,h]
   by_cases h2:x.1=j
   ·have:¬j=k:=fun e=>h1 (h2.trans e)
    simp[h2,this]
   ·simp[h2]
def Cv(a:Nt):List Nt->List Nt
 | []=>[a]
 |x::r=>if mH a x<0 then a::x::r else x::Cv a r
def Cw(l:List Nt):List Nt:=l.foldl (fun o a=>Cv a o) []
def sR(l:List Nt)(m:Nm):Bool:=l.any fun a=>a.kind==7&&a.ref==m
def vT(l:List Nt):List Nt:=(Cw (l.filter fun a=>a.kind !=7)).filter fun a=>!sR l a.nm
def fg(l:List Nt)(ks:List Int):List Nt:=(vT l).filter fun a=>ks.isEmpty||ks.contains a.kind
def mI(l:List Nt):List (Nm×Nt):=l.foldl (fun m a=>gX m a.nm a) []
structure Fs where
 aS:List (Nm×Nt)
 CP:List (Nm×Int×Int)
 marks:List (Nm×List Nm)
 marked:List (Nm×Mk)
 on:List (Nm×Nm)
 reads:List (Nm×Rd)
 ig:List (Nm×Bool)
 rs:List dm
 rr:List Rd
 st:List j3
def K0(b:l8):Fs:=⟨[],[],[],[],[],[],[],[],[],b.dh⟩
def fw(al:List (Nm×Nt))(f:Fs)(a:Nt):Fs:=
 if a.kind=7/\((eM al a.ref).map fun m=>m.kind !=7).getD false=true then f else{f with ig:=gX f.ig a.nm true}
def mm(f:Fs)(a:Nt):Fs:=if a.kind=3 then{f with reads:=gX f.reads a.nm a.read}else{f with aS:=gX f.aS a.nm a,CP:=gX f.CP a.nm (a.fB,a.week)}
def rk(al:List (Nm×Nt))(f:Fs)(a:Nt):Fs:=match eM f.aS a.ref with
 |none=>fw al f a
 |some _=>{f with CP:=gX f.CP a.ref (a.fB,a.week)}
def EG(f:Fs)(s:Nm)(m:Mk):Bool:=decide (m.en<=(((eM f.aS s).getD Ib).c8.rates.length:Int))
def lJ(al:List (Nm×Nt))(f:Fs)(a:Nt):Fs:=
 if(eM f.aS a.ref).isNone\/EG f a.ref a.mark=false\/64<=((eM f.marks a.ref).getD []).length then fw al f a
 else{f with marks:=gX f.marks a.ref ((eM f.marks a.ref).getD []++[a.nm]),marked:=gX f.marked a.nm a.mark,on:=gX f.on a.nm a.ref}
def gY(al:List (Nm×Nt))(f:Fs)(a:Nt):Fs:=
 if a.read.fB≠0 then(if(eM f.reads a.ref).isNone then fw al f a else{f with reads:=gX f.reads a.ref a.read})
 else if(eM f.marked a.ref).isNone\/EG f ((eM f.on a.ref).getD Ct) a.mark=false then fw al f a else{f with marked:=gX f.marked a.ref a.mark}
def nH(l:List dm)(s w:Int):Option Nat:=l.findIdx? fun x=>x.fB==s&&x.week==w
def mo(al:List (Nm×Nt))(f:Fs)(a:Nt):Fs:=
 let Pc:=(eM f.CP a.nm).getD (0,0)
 if(nH f.rs Pc.1 Pc.2).isSome then fw al f a
 else{f with rs:=f.rs++[⟨a.nm,Pc.1,Pc.2,a.c8,((eM f.marks a.nm).getD []).map fun m=>(eM f.marked m).getD Mv,(eM f.marks a.nm).getD []⟩]}
def nt(al:List (Nm×Nt))(f:Fs)(a:Nt):Fs:=
 let i:=(gI f.st a.fB).1
 let r:=mV (f.st.getD i default) a.ej
 if r.2≠0 then fw al f a else{f with st:=f.st.set i r.1}
def qk(f:Fs)(a:Nt):Fs:={f with rr:=f.rr++[(eM f.reads a.nm).getD KZ]}
def k_(al:List (Nm×Nt)):Fs×List Nm->Nt->Fs×List Nm:=fun(f,o) a=>
 let g:=if a.kind=7 then fw al f a else f
 (g,if(eM g.ig a.nm).getD false then o++[a.nm]else o)
def oV(b:l8)(l:List Nt):FU:=
 let al:=mI l
 let f:=(fg l [1,3]).foldl mm (K0 b)
 let f:=(fg l [5]).foldl (rk al) f
 let f:=(fg l [2]).foldl (lJ al) f
 let f:=(fg l [6]).foldl (gY al) f
 let f:=(fg l [1]).foldl (mo al) f
 let f:=(fg l [4]).foldl (nt al) f
 let f:=(fg l [3]).foldl qk f
 let r:=l.foldl (k_ al) (f,[])
 ⟨r.1.rs,r.1.rr,r.1.st,r.2⟩
def Jy:FU:=⟨[],[],[],[]⟩
def sS(b:l8)(l:List Nt):FU×Int:=if lV b [l]≠0 then(Jy,lV b [l])else(oV b l,0)
def nZ(o:Option Nat):Nat×Int:=match o with
 |some i=>(i,0)
 |none=>(0,3)
def Cx(a:Int):List Int->List Int
 | []=>[a]
 |x::r=>if a<x then a::x::r else x::Cx a r
def tH(l:List Int):List Int:=l.foldl (fun o a=>Cx a o) []
def rl(a:dm):List dm->List dm
 | []=>[a]
 |x::r=>if a.fB<x.fB then a::x::r else x::rl a r
def sB(l:List dm):List dm:=l.foldl (fun o a=>rl a o) []
def Pd:Wk:=⟨⟨[],0,0,0,0,0⟩,0,[],[]⟩
def pI(b:l8)(r:FU)(w:Int):Wk:=⟨{b with dh:=r.dh},w,sB (r.aS.filter fun f=>f.week==w),r.reads.filter fun x=>x.week==w⟩
def mW(b:l8)(r:FU)(w:Int):Wk×Int:=
 if¬b.ok then(Pd,100)else if¬inr w 0 10000 then(Pd,1)else
  if 64<(pI b r w).aS.length\/64<(pI b r w).reads.length then(Pd,2)else(pI b r w,0)
structure St where
 en:Int
 n_:Int
 off:Int
 deriving DecidableEq
abbrev St.cs(s:St):List AV:=[n s.en,n s.n_,n s.off]
abbrev St.ky(s:St):List Int:=[s.en,s.n_,s.off]
structure Ch where
 sh:fT
 marks:List Mk
 reads:List Rd
 bD:Int
 Cy:List (List Sp)
 kz:List Sp
abbrev Ch.cS(c:Ch):Int:=c.sh.eC.cS
def Ch.last(c:Ch):Int:=c.kz.length
def Ch.yO(c:Ch)(k:Int):Sp:=c.kz.getD k.toNat ⟨0,0⟩
def Ch.stay(c:Ch)(k:Int):Int:=if k=-1 then 1 else if k=c.last then 2 else min (c.yO k).hi c.bD
def xE(b:Int):List Int:=(List.range (2*b+1).toNat).map fun(j:Nat)=>(j:Int)-b
def Ch.row(c:Ch)(k a:Int):List St:=(xE c.cS).map fun j=>⟨k,a,j⟩
def Ch.jY(c:Ch)(k:Int)(m:Nat):List St:=(List.range m).flatMap fun(a:Nat)=>c.row k a
def Ch.uF(c:Ch)(m:Nat):List St:=(List.range m).flatMap fun(k:Nat)=>c.jY ((k:Int)-1) (c.stay ((k:Int)-1)).toNat
def Ch.iY(c:Ch):List St:=c.uF (c.kz.length+2)
def wm(l:List St):List (List Int×AV):=l.zipIdx.map fun p=>(p.1.ky,n (p.2:Int))
def Ch.idx(c:Ch)(s:St):Int:=(c.iY.idxOf s:Int)
def BF(p:Pn)(o to:Int):Sp:=⟨if to=-p.cS then-p.kc+p.cS+o else 0,if to=p.cS then p.kc-p.cS+o else 0⟩
def yP(p:Pn)(o to:Int):Bool:=decide ((BF p o to).lo<=0/\0<=(BF p o to).hi/\(BF p o to≠⟨0,0⟩\/max (to-o) (o-to)<=p.kc))
def oW(p:Pn)(o:Int):List qy:=((xE p.cS).filter (yP p o)).map fun to=>⟨to+p.cS,BF p o to⟩
def Ch.ways(c:Ch)(s:St):List St:=
 if s.en=-1 then [⟨-1,0,0⟩,⟨0,0,0⟩]else if s.en=c.last then [⟨c.last,1,0⟩]
 else(if s.n_+1<c.stay s.en then [⟨s.en,s.n_+1,0⟩]else [])++if(c.yO s.en).lo<=s.n_+1/\s.n_+1<=(c.yO s.en).hi then [⟨s.en+1,0,0⟩]else []
def Ch.sU(c:Ch)(s:St):List qy:=(c.ways s).flatMap fun t=>(oW c.sh.eC s.off).map fun m=>⟨c.idx ⟨t.en,t.n_,m.to-c.cS⟩,m.ch⟩
def Cz(t UD:Int)(o:Sp)(r:Rd):Sp:=if r.tick=t then⟨max o.lo (r.levels.lo-UD),min o.hi (r.levels.hi-UD)⟩else o
def Ch.out(c:Ch)(t UD:Int):Sp:=c.reads.foldl (Cz t UD) ⟨max 0 (-UD),min 12000 (12000-UD)⟩
def uG(k t:Int)(m:Mk):Bool:=decide (m.en=k/\¬(m.bD.lo<=t/\t<=m.bD.hi))
def St.pass(s:St):Prop:=0<=s.en/\s.n_=0
instance (s:St):Decidable s.pass:=inferInstanceAs (Decidable (_/\_))
def Ch.oa(c:Ch)(k:Int):List Sp:=c.Cy.getD k.toNat []
def Ch.allow(c:Ch)(s:St)(t z:Int):List Sp:=
 if t=0/\¬(s.en=-1\/s.en=0/\s.n_=0)\/t=c.bD/\s.en≠c.last then []
 else if(c.out t (s.off+z)).hi<(c.out t (s.off+z)).lo\/s.pass/\c.marks.any (uG s.en t)=true then []
 else if s.pass/\c.oa s.en≠[]then meet (c.oa s.en) [c.out t (s.off+z)]else [c.out t (s.off+z)]
def Ch.Mw(c:Ch)(t z:Int)(s:St):q_:=⟨c.allow s t z,if t<c.bD then c.sU s else []⟩
def Ch.iZ(c:Ch)(z:Int):ka:=(List.range (c.bD+1).toNat).map fun(t:Nat)=>c.iY.map (c.Mw t z)
structure Ch.ok(c:Ch):Prop where
 t1:1<=c.bD
 t2:c.bD<=400
 g1:1<=c.kz.length
 g2:c.kz.length<=199
 g3:∀s∈c.kz,1<=s.lo/\s.lo<=s.hi/\s.hi<=10000
 p1:0<=c.cS
 p2:c.cS<=8
 p3:0<=c.sh.eC.kc
 p4:c.sh.eC.kc<=12000
 i1:∀x∈c.Cy,Norm x/\(∀s∈x,0<=s.lo/\s.hi<=12000)/\x.length<=8
theorem yQ{b j:Int}(hb:0<=b):j∈xE b↔-b<=j/\j<=b:=by
 unfold xE
 simp only[aO,bc]
 constructor
 ·rintro⟨a,h,rfl⟩;omega
 ·intro h;exact⟨(j+b).toNat,by omega,by omega⟩
theorem yR(b:Int):(xE b).length=(2*b+1).toNat:=by simp[xE]
theorem Pe{c:Ch}(h:0<=c.cS){k a:Int}{s:St}:s∈c.row k a↔s.en=k/\s.n_=a/\-c.cS<=s.off/\s.off<=c.cS:=by
 unfold Ch.row
 simp only[aO,yQ h]
 constructor
 ·rintro⟨j,h,rfl⟩;exact⟨rfl,rfl,h⟩
 ·rintro⟨rfl,rfl,h⟩;exact⟨s.off,h,rfl⟩
theorem yS{c:Ch}(h:0<=c.cS){k:Int}{m:Nat}{s:St}:s∈c.jY k m↔s.en=k/\0<=s.n_/\s.n_<m/\-c.cS<=s.off/\s.off<=c.cS:=by
 unfold Ch.jY
 simp only[fc,bc,Pe h]
 constructor
 ·rintro⟨a,h1,h2,h3,h4⟩;exact⟨h2,by omega,by omega,h4⟩
 ·rintro⟨h1,h2,h3,h4⟩;exact⟨s.n_.toNat,by omega,h1,by omega,h4⟩
theorem nI{c:Ch}(h:0<=c.cS){s:St}:s∈c.iY↔-1<=s.en/\s.en<=c.last/\0<=s.n_/\s.n_<c.stay s.en/\-c.cS<=s.off/\s.off<=c.cS:=by
 unfold Ch.iY Ch.uF Ch.last
 simp only[fc,bc,yS h]
 constructor
 ·rintro⟨k,h1,h2,h3,h4,h5⟩;rw[h2];refine⟨by omega,by omega,h3,by omega,h5⟩
 ·rintro⟨h1,h2,h3,h4,h5⟩
  have e:((s.en+1).toNat:Int)-1=s.en:=by omega
  exact⟨(s.en+1).toNat,by omega,by rw[e],h3,by rw[e];omega,h5⟩
theorem CA(c:Ch)(k a:Int):(c.row k a).length=(2*c.cS+1).toNat:=by simp[Ch.row,yR]
theorem EH(c:Ch)(k:Int)(m:Nat):(c.jY k m).length=m*(2*c.cS+1).toNat:=by
 unfold Ch.jY
 induction m with
 |zero=>simp
 |succ m ih=>rw[gE,iD,aM,ih];simp[CA,xc]
def Ch.sum(c:Ch):Nat->Int
 |0=>0
 |m+1=>c.sum m+c.stay ((m:Int)-1)
theorem oc{c:Ch}(h:c.ok){k:Int}(h1:-1<=k)(h2:k<=c.last):1<=c.stay k/\c.stay k<=400:=by
 unfold Ch.stay
 have:=h.t1;have:=h.t2
 split
 ·omega
 split
 ·omega
 unfold Ch.last at*
 have hk:k.toNat<c.kz.length:=by omega
 have:=h.g3 _ (cv hk)
 have e:c.yO k=c.kz[k.toNat]:=by rw[Ch.yO,ab,ae hk];rfl
 rw[e];omega
theorem CB{c:Ch}(h:c.ok):∀{m:Nat},m<=c.kz.length+2->0<=c.sum m/\c.sum m<=400*m
 |0,_=>by simp[Ch.sum]
 |m+1,hm=>by
  have:=CB h (m:=m) (by omega)
  have:=oc h (k:=(m:Int)-1) (by omega) (by unfold Ch.last;omega)
  simp only[Ch.sum];omega
theorem vU{c:Ch}(h:c.ok):∀{m:Nat},m<=c.kz.length+2->((c.uF m).length:Int)=c.sum m*(2*c.cS+1)
 |0,_=>by simp[Ch.uF,Ch.sum]
 |m+1,hm=>by
  have ih:=vU h (m:=m) (by omega)
  have:=oc h (k:=(m:Int)-1) (by omega) (by unfold Ch.last;omega)
  have hb:=h.p1
  unfold Ch.uF at ih|-
  rw[gE,iD,aM,Int.natCast_add,ih]
  simp only[gP,List.flatMap_nil,bb,EH,Ch.sum,Int.natCast_mul,Int.add_mul]
  rw[gm (by omega),gm (by omega)]
theorem Pf(l:List St)(s:St):wm (l++[s])=wm l++[(s.ky,n (l.length:Int))]:=by simp[wm,List.zipIdx_append]
theorem Pg{a b:St}(h:a.ky=b.ky):a=b:=by cases a;cases b;simpa[St.ky]using h
theorem yT{s:St}:∀(l:List St) (k:Nat),jD ((l.zipIdx k).map fun p=>(p.1.ky,n (p.2:Int))) s.ky=if s∈l then some (n ((k+l.idxOf s:Nat):Int))else none
 | [],k=>rfl
 |x::r,k=>by
  rw[List.zipIdx_cons,bq,jD]
  by_cases h:x=s
  ·subst h;simp
  ·have h':¬x.ky=s.ky:=fun e=>h (Pg e)
   simp only[if_neg h',yT r (k+1),aC,List.idxOf_cons,h,beq_iff_eq,if_false]
   have:¬s=x:=fun e=>h e.symm
   simp only[this,false_or,cond_false,beq_eq_false_iff_ne.2 h]
   congr 3;omega
theorem Ph{s:St}{l:List St}(h:s∈l):jD (wm l) s.ky=some (n (l.idxOf s:Int)):=by
 have:=yT (s:=s) l 0
 rw[if_pos h,br]at this
 exact this
theorem CC{s:St}{l:List St}(h:s∉l):jD (wm l) s.ky=none:=by
 have:=yT (s:=s) l 0
 rw[if_neg h]at this
 exact this
theorem Tc{p:Pn}{o to:Int}(h:yP p o to=true)(h1:0<=p.cS)(h2:p.cS<=8)(h3:0<=p.kc)(h4:p.kc<=12000)(h5:-p.cS<=o)(h6:o<=p.cS):Gt (BF p o to):=by
 unfold yP at h
 simp only[decide_eq_true_eq]at h
 obtain⟨a,b,_⟩:=h
 unfold Gt
 refine⟨?_,by omega,?_⟩<;>(unfold BF at*;simp only at*;split<;>omega)
theorem EI{p:Pn}{o:Int}{e:qy}(h1:0<=p.cS)(he:e∈oW p o):∃to,-p.cS<=to/\to<=p.cS/\yP p o to=true/\e=⟨to+p.cS,BF p o to⟩:=by
 unfold oW at he
 obtain⟨to,h,rfl⟩:=aO.1 he
 obtain⟨h,h'⟩:=cM.1 h
 rw[yQ h1]at h
 exact⟨to,h.1,h.2,h',rfl⟩
theorem BG{p:Pn}{o:Int}(h1:0<=p.cS)(h2:p.cS<=8):(oW p o).length<=17:=by
 unfold oW
 rw[aF]
 refine bT (bK _ _) ?_
 rw[yR];omega
theorem EJ(c:Ch)(s:St):(c.ways s).length<=2:=by
 unfold Ch.ways
 repeat' split
 all_goals simp
theorem Gz{c:Ch}(h:c.ok){k:Int}(h1:0<=k)(h2:k<c.last):1<=(c.yO k).lo/\(c.yO k).lo<=(c.yO k).hi/\(c.yO k).hi<=10000:=by
 unfold Ch.last at h2
 have hk:k.toNat<c.kz.length:=by omega
 have e:c.yO k=c.kz[k.toNat]:=by rw[Ch.yO,ab,ae hk];rfl
 rw[e];exact h.g3 _ (cv hk)
theorem EK{c:Ch}(h:c.ok){s:St}(hs:s∈c.iY){t:St}(ht:t∈c.ways s){o:Int}(h1:-c.cS<=o)(h2:o<=c.cS):(⟨t.en,t.n_,o⟩:St)∈c.iY:=by
 rw[nI h.p1]at hs|-
 obtain⟨a1,a2,a3,a4,a5,a6⟩:=hs
 have hl:1<=c.last:=by have:=h.g1;unfold Ch.last;omega
 have cn:∀k,-1<=k->k<=c.last->1<=c.stay k:=fun k h1 h2=>(oc h h1 h2).1
 have s0:=cn 0 (by omega) (by omega)
 have s1:=cn (-1) (by omega) (by omega)
 have sl:c.stay c.last=2:=by unfold Ch.stay;rw[if_neg (by omega),if_pos rfl]
 unfold Ch.ways at ht
 split at ht
 ·simp only[aC,au,or_false]at ht
  rcases ht with rfl|rfl<;>simp only<;>omega
 split at ht
 ·simp only[aC,au,or_false]at ht
  subst ht;simp only;omega
 rcases bm.1 ht with ht|ht
 ·split at ht
  ·simp only[aC,au,or_false]at ht
   subst ht;simp only;omega
  ·simp at ht
 ·split at ht
  ·simp only[aC,au,or_false]at ht
   have:=cn (s.en+1) (by omega) (by omega)
   subst ht;simp only;omega
  ·simp at ht
theorem Mx{c:Ch}{s:St}(h:s∈c.iY):c.idx s<c.iY.length:=by
 unfold Ch.idx
 have:=pj h
 omega
theorem yU{c:Ch}(h:c.ok){s:St}(hs:s∈c.iY):(c.sU s).length<=64/\∀e∈c.sU s,EB c.iY.length e:=by
 have nM:=(nI h.p1).1 hs
 constructor
 ·unfold Ch.sU
  have hw:=EJ c s
  have:∀l:List St,l.length<=2->(l.flatMap fun t=>(oW c.sh.eC s.off).map fun m=>(⟨c.idx ⟨t.en,t.n_,m.to-c.cS⟩,m.ch⟩:qy)).length<=64:=by
   intro l hl
   have:=BG (o:=s.off) h.p1 h.p2
   match l,hl with
   | [],_=>simp
   | [_],_=>simp;omega
   | [_,_],_=>simp;omega
  exact this _ hw
 ·intro e he
  unfold Ch.sU at he
  obtain⟨t,ht,he⟩:=fc.1 he
  obtain⟨m,hm,rfl⟩:=aO.1 he
  obtain⟨to,h1,h2,h3,rfl⟩:=EI h.p1 hm
  have hx:=EK h hs ht h1 h2
  have e0:to+c.sh.eC.cS-c.cS=to:=by show to+c.sh.eC.cS-c.sh.eC.cS=to;omega
  refine⟨?_,?_,Tc h3 h.p1 h.p2 h.p3 h.p4 nM.2.2.2.2.1 nM.2.2.2.2.2⟩
  ·simp only[e0];unfold Ch.idx;omega
  ·simp only[e0];exact Mx hx
theorem EL{s:Sp}(h1:s.lo<=s.hi)(h2:-100000<=s.lo)(h3:s.hi<=100000):iV [s]:=⟨by simp[Norm,h1],by simpa using⟨h2,h3⟩⟩
theorem tI{α β:Type}{f:β->α->β}{p:β->Prop}(hs:∀b a,p b->p (f b a)):∀(l:List α) (b:β),p b->p (l.foldl f b)
 | [],_,h=>h
 |a::r,b,h=>tI hs r _ (hs b a h)
theorem Td(c:Ch)(t b:Int):0<=(c.out t b).lo/\(c.out t b).hi<=12000:=by
 unfold Ch.out
 refine tI (p:=fun o:Sp=>0<=o.lo/\o.hi<=12000) (fun o r h=>?_) _ _ (by simp only;omega)
 unfold Cz
 split
 ·simp only;omega
 ·exact h
theorem EM{c:Ch}(h:c.ok)(k:Int):Norm (c.oa k)/\(∀s∈c.oa k,0<=s.lo/\s.hi<=12000)/\(c.oa k).length<=8:=by
 unfold Ch.oa
 rw[ab]
 cases hk:c.Cy[k.toNat]? with
 |none=>exact⟨re,by simp,by simp⟩
 |some x=>exact h.i1 x (ao hk)
theorem wY{c:Ch}(h:c.ok)(s:St)(t z:Int):small (c.allow s t z):=by
 unfold Ch.allow
 have hb:=Td c t (s.off+z)
 obtain⟨i1,i2,i3⟩:=EM h s.en
 split
 ·exact⟨by simp,yL⟩
 split
 ·exact⟨by simp,yL⟩
 rename_i hn
 have g1:iV [c.out t (s.off+z)]:=EL (by omega) (by omega) (by omega)
 split
 ·exact⟨bT (vL _ _).2.2 (by simp only[bf,bM];omega),r8 g1⟩
 ·exact⟨by simp,g1⟩
theorem mJ{c:Ch}(h:c.ok)(z:Int):(c.iZ z).length=c.bD.toNat+1:=by
 have:=h.t1
 simp[Ch.iZ];omega
theorem sg{c:Ch}(h:c.ok){z:Int}{k:Nat}(hk:k<c.bD.toNat+1):(c.iZ z).getD k []=c.iY.map (c.Mw k z):=by
 have:=h.t1
 unfold Ch.iZ
 rw[ab,aV,cH (by omega)];rfl
theorem yV{c:Ch}(h:c.ok){z:Int}{k:Nat}(hk:k<c.bD.toNat+1):wd (c.iZ z) k=c.iY.length:=by rw[wd,sg h hk,aF]
theorem Pj{c:Ch}(h:c.ok):1<=c.iY.length:=by
 have:(⟨-1,0,0⟩:St)∈c.iY:=by
  rw[nI h.p1]
  have:=oc h (k:=-1) (by omega) (by unfold Ch.last;omega)
  have:=h.p1
  refine⟨by simp,by simp only;unfold Ch.last;omega,by simp,by simp only;omega,by simp only;omega,by simp only;omega⟩
 have:=List.length_pos_of_mem this
 omega
theorem oX{c:Ch}(h:c.ok)(hm:c.iY.length<=4000)(z:Int):valid (c.iZ z):=by
 have h1:=h.t1;have h2:=h.t2
 refine⟨by rw[mJ h];omega,by rw[mJ h];omega,fun k hk=>?_⟩
 rw[mJ h]at hk
 rw[sg h hk]
 refine⟨by rw[aF];exact Pj h,by rw[aF];exact hm,fun x hx=>?_⟩
 obtain⟨s,hs,rfl⟩:=aO.1 hx
 refine⟨wY h _ _ _,?_,fun e he=>?_⟩
 ·unfold Ch.Mw
  simp only
  split
  ·exact(yU h hs).1
  ·simp
 ·unfold Ch.Mw at he
  simp only at he
  split at he
  ·rw[yV h (by omega)];exact(yU h hs).2 e he
  ·simp at he
end Go.Abs
namespace Go.Abs
open Nat (reduceAdd reduceSub reduceLT reduceLeDiff reduceMul reduceEqDiff)
structure Cj(A B:Prop):Prop where
 a:A
 b:B
structure Pk:Prop
theorem CM{A:Prop}(a:A):Cj A True:=⟨a,trivial⟩
theorem g2_{A B:Prop}(a:A)(b:B):Cj A (Cj B True):=⟨a,b,trivial⟩
theorem g3_{A B C:Prop}(a:A)(b:B)(c:C):Cj A (Cj B (Cj C True)):=⟨a,b,c,trivial⟩
theorem g5_{A B C D E:Prop}(a:A)(b:B)(c:C)(d:D)(e:E):Cj A (Cj B (Cj C (Cj D (Cj E True)))):=⟨a,b,c,d,e,trivial⟩
structure Yb(A:Prop):Prop where
 out:A
theorem Fq{σ:aG}{v:AV}(hp:bC v:=by simp):bO σ v v:=.pure hp
theorem Te{S P:Prop}(s:S)(h:S->P:=by
 intro s
 first|exact s|exact s _|exact s _ _|exact s _ _ _|exact Te s.1|exact Te s.2|fail):P:=h s
theorem Kf{α:Type}{l:List α}{i:Nat}{x:α}(h:l[i]?=some x):∀(β:Type) (f:α->β) (d:β),(l.map f).getD i d=f x:=fun _ _ _=>getD_map h
theorem atL{τ:aG}{f:Nat}(h:f<τ.length):∀(l:aG) (i:Nat),aG.at (τ++l) f i=aG.at τ f i:=fun _ _=>cI h
theorem ac5{τ:aG}{f:Nat}(h:f<τ.length):∀(l:aG) (i:Nat) (o:Ob),aG.cZ (τ++l) f i o=aG.cZ τ f i o++l:=fun _ _ _=>iR h
theorem adL{P Q:Prop}(q:Q)(h:Q->P:=by
 intro q
 simp only[zN,zT,zV,zS,zU,dC,ex,bu,bN,elems,cells,scalar,dH,bL,aX,aU,bJ,bI,Nat.reduceBEq,reduceAdd,reduceSub,reduceLT,reduceLeDiff,reduceMul,reduceEqDiff,reduceIte]
 exact q):P:=h q
theorem aet{X P Q:Prop}(x:X)(q:Q)(h:Yb X->Q->P:=by
 intro X q
 simp only[zN,zT,zV,zS,zU,dC,ex,bu,bN,elems,cells,scalar,dH,bL,aX,aU,bJ,bI,Nat.reduceBEq,reduceAdd,reduceSub,reduceLT,reduceLeDiff,reduceMul,reduceEqDiff,reduceIte,X.out]
 exact q):P:=h ⟨x⟩ q
theorem Sb_{a b:Env}(h:Sub a b:=by simp only[zN,zT,zV,zS,zU,dC,ex,bu,bN,elems,cells,scalar,dH,bL,aX,aU,bJ,bI,Nat.reduceBEq,reduceAdd,reduceSub,reduceLT,reduceLeDiff,reduceMul,reduceEqDiff,reduceIte];try simp):Sub a b:=h
section
variable {P:Program} {N:Nat} {rd:Option Nat} {K:e7} {env:Env} {σ:aG} {c:C} {α:Type}
theorem aR.le(ks:List Nat)(over:α->Env)(pQ:α->aG)(μ:α->Nat)(x0:α)(h1:σ=pQ x0)(round:∀x,aR P N rd c (KV (fun x=>(over x++tV ks env,pQ x)) μ x K) (over x++tV ks env) (pQ x))(h0:Sub (over x0++tV ks env) env:=by simp only[zN,zT,zV,zS,zU,dC,ex,bu,bN,elems,cells,scalar,dH,bL,aX,aU,bJ,bI,Nat.reduceBEq,reduceAdd,reduceSub,reduceLT,reduceLeDiff,reduceMul,reduceEqDiff,reduceIte];try simp):aR P N rd (.loop c) K env σ:=
 .mT ks over pQ μ x0 h0 h1 round
theorem aR.lr(ks:List Nat)(over:α->Env)(pQ:α->aG)(μ:α->Nat)(x0:α)(round:∀x,aR P N rd c (KV (fun x=>(over x++tV ks env,pQ x)) μ x K) (over x++tV ks env) (pQ x))(h0:Sub (over x0++tV ks env) env:=by simp only[zN,zT,zV,zS,zU,dC,ex,bu,bN,elems,cells,scalar,dH,bL,aX,aU,bJ,bI,Nat.reduceBEq,reduceAdd,reduceSub,reduceLT,reduceLeDiff,reduceMul,reduceEqDiff,reduceIte];try simp)(h1:σ=pQ x0:=by first|rfl|simp):aR P N rd (.loop c) K env σ:=
 .mT ks over pQ μ x0 h0 h1 round
theorem aR.ls(ks:List Nat)(over:α->Env)(μ:α->Nat)(x0:α)(round:∀x,aR P N rd c (KV (fun x=>(over x++tV ks env,σ)) μ x K) (over x++tV ks env) σ)(h0:Sub (over x0++tV ks env) env:=by simp only[zN,zT,zV,zS,zU,dC,ex,bu,bN,elems,cells,scalar,dH,bL,aX,aU,bJ,bI,Nat.reduceBEq,reduceAdd,reduceSub,reduceLT,reduceLeDiff,reduceMul,reduceEqDiff,reduceIte];try simp):aR P N rd (.loop c) K env σ:=
 .VW ks over μ x0 h0 round
theorem aR.li(k m:Nat)(I:Nat->Prop)(U_:I 0)(round:∀i (hi:i<=m) (hI:I i),aR P N rd c (KV (fun x:{i:Nat//i<=m/\I i}=>((k,n ((x.1:Nat):Int))::tV [k] env,σ)) (fun x=>m-x.1) ⟨i,hi,hI⟩ K) ((k,n ((i:Nat):Int))::tV [k] env) σ)(h0:Sub ((k,n ((0:Nat):Int))::tV [k] env) env:=by simp only[zN,zT,zV,zS,zU,dC,ex,bu,bN,elems,cells,scalar,dH,bL,aX,aU,bJ,bI,Nat.reduceBEq,reduceAdd,reduceSub,reduceLT,reduceLeDiff,reduceMul,reduceEqDiff,reduceIte];try simp):aR P N rd (.loop c) K env σ:=
 .VX k m I U_ h0 round
end
theorem Au{P A B:Prop}(a:A)(b:B:=by exact trivial)(h:Cj A B->Pk->P:=by
 intro q _
 try simp only[zN,zT,zV,zS,zU,dC,ex,bu,bN,elems,cells,scalar,dH,bL,aX,aU,bJ,bI,Nat.reduceBEq,reduceAdd,reduceSub,reduceLT,reduceLeDiff,reduceMul,reduceEqDiff,reduceIte]
 (repeat' ((first|refine vn rfl ?_|simp(disch:=omega) only[cB,aj]|refine bo (fun _=>?_) fun _=>?_|refine im fun _=>?_|refine cF ?_|refine cG ?_|refine om ?_|refine an ?_|fail)<;>try simp only[zN,zT,zV,zS,zU,dC,ex,bu,bN,elems,cells,scalar,dH,bL,aX,aU,bJ,bI,Nat.reduceBEq,reduceAdd,reduceSub,reduceLT,reduceLeDiff,reduceMul,reduceEqDiff,reduceIte]))<;>(try(exfalso;omega;done))<;>(repeat(rename_i x;(fail_if_success have:Pk:=by simp only[x]);revert x))<;>(repeat(first|exact q.a|have q:=q.b))):P:=h ⟨a,b⟩ ⟨⟩
theorem Ax{P A B X:Prop}(x:X)(a:A)(b:B:=by exact trivial)(h:Yb X->Cj A B->Pk->P:=by
 intro X q _
 try simp only[zN,zT,zV,zS,zU,dC,ex,bu,bN,elems,cells,scalar,dH,bL,aX,aU,bJ,bI,Nat.reduceBEq,reduceAdd,reduceSub,reduceLT,reduceLeDiff,reduceMul,reduceEqDiff,reduceIte,X.out]
 (repeat' ((first|refine vn rfl ?_|simp(disch:=omega) only[cB,aj]|refine bo (fun _=>?_) fun _=>?_|refine im fun _=>?_|refine cF ?_|refine cG ?_|refine om ?_|refine an ?_|fail)<;>try simp only[zN,zT,zV,zS,zU,dC,ex,bu,bN,elems,cells,scalar,dH,bL,aX,aU,bJ,bI,Nat.reduceBEq,reduceAdd,reduceSub,reduceLT,reduceLeDiff,reduceMul,reduceEqDiff,reduceIte,X.out]))<;>(try(exfalso;omega;done))<;>(repeat(rename_i x;(fail_if_success have:Pk:=by simp only[x]);revert x))<;>(repeat(first|exact q.a|have q:=q.b))):P:=h ⟨x⟩ ⟨a,b⟩ ⟨⟩
theorem Ay{P A B S:Prop}(s:S)(a:A)(b:B:=by exact trivial)(h:Yb S->Cj A B->Pk->P:=by
 intro s q _
 try simp only[zN,zT,zV,zS,zU,dC,ex,bu,bN,elems,cells,scalar,dH,bL,aX,aU,bJ,bI,Nat.reduceBEq,reduceAdd,reduceSub,reduceLT,reduceLeDiff,reduceMul,reduceEqDiff,reduceIte]
 (repeat' ((first|refine vn rfl ?_|simp(disch:=omega) only[cB,aj]|refine bo (fun _=>?_) fun _=>?_|refine im fun _=>?_|((repeat refine si ?_);(first|((first|refine .inl ⟨_,_,_,_,rfl,fun _=>pu (Te s.out),?_⟩|refine⟨_,_,_,_,rfl,fun _=>pu (Te s.out),?_⟩);(first|refine o1 ?_|refine o4 ?_))|((first|refine .inl ⟨_,_,_,_,rfl,fun _=>Te s.out,?_⟩|refine⟨_,_,_,_,rfl,fun _=>Te s.out,?_⟩);(first|refine o1 ?_|refine o4 ?_))|refine .inl ⟨_,_,_,_,rfl,pu (Te s.out),?_⟩))|refine cF ?_|refine cG ?_|refine om ?_|refine an ?_|fail)<;>try simp only[zN,zT,zV,zS,zU,dC,ex,bu,bN,elems,cells,scalar,dH,bL,aX,aU,bJ,bI,Nat.reduceBEq,reduceAdd,reduceSub,reduceLT,reduceLeDiff,reduceMul,reduceEqDiff,reduceIte]))<;>(try(exfalso;omega;done))<;>(repeat(rename_i x;(fail_if_success have:Pk:=by simp only[x]);revert x))<;>(repeat(first|exact q.a|have q:=q.b))):P:=h ⟨s⟩ ⟨a,b⟩ ⟨⟩
theorem Az{P A B X S:Prop}(x:X)(s:S)(a:A)(b:B:=by exact trivial)(h:Yb X->Yb S->Cj A B->Pk->P:=by
 intro X s q _
 try simp only[zN,zT,zV,zS,zU,dC,ex,bu,bN,elems,cells,scalar,dH,bL,aX,aU,bJ,bI,Nat.reduceBEq,reduceAdd,reduceSub,reduceLT,reduceLeDiff,reduceMul,reduceEqDiff,reduceIte,X.out]
 (repeat' ((first|refine vn rfl ?_|simp(disch:=omega) only[cB,aj]|refine bo (fun _=>?_) fun _=>?_|refine im fun _=>?_|((repeat refine si ?_);(first|((first|refine .inl ⟨_,_,_,_,rfl,fun _=>pu (Te s.out),?_⟩|refine⟨_,_,_,_,rfl,fun _=>pu (Te s.out),?_⟩);(first|refine o1 ?_|refine o4 ?_))|((first|refine .inl ⟨_,_,_,_,rfl,fun _=>Te s.out,?_⟩|refine⟨_,_,_,_,rfl,fun _=>Te s.out,?_⟩);(first|refine o1 ?_|refine o4 ?_))|refine .inl ⟨_,_,_,_,rfl,pu (Te s.out),?_⟩))|refine cF ?_|refine cG ?_|refine om ?_|refine an ?_|fail)<;>try simp only[zN,zT,zV,zS,zU,dC,ex,bu,bN,elems,cells,scalar,dH,bL,aX,aU,bJ,bI,Nat.reduceBEq,reduceAdd,reduceSub,reduceLT,reduceLeDiff,reduceMul,reduceEqDiff,reduceIte,X.out]))<;>(try(exfalso;omega;done))<;>(repeat(rename_i x;(fail_if_success have:Pk:=by simp only[x]);revert x))<;>(repeat(first|exact q.a|have q:=q.b))):P:=h ⟨x⟩ ⟨s⟩ ⟨a,b⟩ ⟨⟩
theorem adM{P A B:Prop}(a:A)(b:B:=by exact trivial)(h:Cj A B->Pk->P:=by
 intro q _
 try simp only[zN,zT,zV,zS,zU,dC,ex,bu,bN,elems,cells,scalar,dH,bL,aX,aU,bJ,bI,Nat.reduceBEq,reduceAdd,reduceSub,reduceLT,reduceLeDiff,reduceMul,reduceEqDiff,reduceIte]
 (((first|refine vn rfl ?_|simp(disch:=omega) only[cB,aj]|refine bo (fun _=>?_) fun _=>?_|refine im fun _=>?_|refine cF ?_|refine cG ?_|refine om ?_|refine an ?_|fail)<;>try simp only[zN,zT,zV,zS,zU,dC,ex,bu,bN,elems,cells,scalar,dH,bL,aX,aU,bJ,bI,Nat.reduceBEq,reduceAdd,reduceSub,reduceLT,reduceLeDiff,reduceMul,reduceEqDiff,reduceIte]))<;>(try(exfalso;omega;done))<;>(repeat(rename_i x;(fail_if_success have:Pk:=by simp only[x]);revert x))<;>(repeat(first|exact q.a|have q:=q.b))):P:=h ⟨a,b⟩ ⟨⟩
theorem aeE{P A B X:Prop}(x:X)(a:A)(b:B:=by exact trivial)(h:Yb X->Cj A B->Pk->P:=by
 intro X q _
 try simp only[zN,zT,zV,zS,zU,dC,ex,bu,bN,elems,cells,scalar,dH,bL,aX,aU,bJ,bI,Nat.reduceBEq,reduceAdd,reduceSub,reduceLT,reduceLeDiff,reduceMul,reduceEqDiff,reduceIte,X.out]
 (((first|refine vn rfl ?_|simp(disch:=omega) only[cB,aj]|refine bo (fun _=>?_) fun _=>?_|refine im fun _=>?_|refine cF ?_|refine cG ?_|refine om ?_|refine an ?_|fail)<;>try simp only[zN,zT,zV,zS,zU,dC,ex,bu,bN,elems,cells,scalar,dH,bL,aX,aU,bJ,bI,Nat.reduceBEq,reduceAdd,reduceSub,reduceLT,reduceLeDiff,reduceMul,reduceEqDiff,reduceIte,X.out]))<;>(try(exfalso;omega;done))<;>(repeat(rename_i x;(fail_if_success have:Pk:=by simp only[x]);revert x))<;>(repeat(first|exact q.a|have q:=q.b))):P:=h ⟨x⟩ ⟨a,b⟩ ⟨⟩
theorem aeD{P A B S:Prop}(s:S)(a:A)(b:B:=by exact trivial)(h:Yb S->Cj A B->Pk->P:=by
 intro s q _
 try simp only[zN,zT,zV,zS,zU,dC,ex,bu,bN,elems,cells,scalar,dH,bL,aX,aU,bJ,bI,Nat.reduceBEq,reduceAdd,reduceSub,reduceLT,reduceLeDiff,reduceMul,reduceEqDiff,reduceIte]
 (((first|refine vn rfl ?_|simp(disch:=omega) only[cB,aj]|refine bo (fun _=>?_) fun _=>?_|refine im fun _=>?_|((repeat refine si ?_);(first|((first|refine .inl ⟨_,_,_,_,rfl,fun _=>pu (Te s.out),?_⟩|refine⟨_,_,_,_,rfl,fun _=>pu (Te s.out),?_⟩);(first|refine o1 ?_|refine o4 ?_))|((first|refine .inl ⟨_,_,_,_,rfl,fun _=>Te s.out,?_⟩|refine⟨_,_,_,_,rfl,fun _=>Te s.out,?_⟩);(first|refine o1 ?_|refine o4 ?_))|refine .inl ⟨_,_,_,_,rfl,pu (Te s.out),?_⟩))|refine cF ?_|refine cG ?_|refine om ?_|refine an ?_|fail)<;>try simp only[zN,zT,zV,zS,zU,dC,ex,bu,bN,elems,cells,scalar,dH,bL,aX,aU,bJ,bI,Nat.reduceBEq,reduceAdd,reduceSub,reduceLT,reduceLeDiff,reduceMul,reduceEqDiff,reduceIte]))<;>(try(exfalso;omega;done))<;>(repeat(rename_i x;(fail_if_success have:Pk:=by simp only[x]);revert x))<;>(repeat(first|exact q.a|have q:=q.b))):P:=h ⟨s⟩ ⟨a,b⟩ ⟨⟩
theorem aeg{P A B X S:Prop}(x:X)(s:S)(a:A)(b:B:=by exact trivial)(h:Yb X->Yb S->Cj A B->Pk->P:=by
 intro X s q _
 try simp only[zN,zT,zV,zS,zU,dC,ex,bu,bN,elems,cells,scalar,dH,bL,aX,aU,bJ,bI,Nat.reduceBEq,reduceAdd,reduceSub,reduceLT,reduceLeDiff,reduceMul,reduceEqDiff,reduceIte,X.out]
 (((first|refine vn rfl ?_|simp(disch:=omega) only[cB,aj]|refine bo (fun _=>?_) fun _=>?_|refine im fun _=>?_|((repeat refine si ?_);(first|((first|refine .inl ⟨_,_,_,_,rfl,fun _=>pu (Te s.out),?_⟩|refine⟨_,_,_,_,rfl,fun _=>pu (Te s.out),?_⟩);(first|refine o1 ?_|refine o4 ?_))|((first|refine .inl ⟨_,_,_,_,rfl,fun _=>Te s.out,?_⟩|refine⟨_,_,_,_,rfl,fun _=>Te s.out,?_⟩);(first|refine o1 ?_|refine o4 ?_))|refine .inl ⟨_,_,_,_,rfl,pu (Te s.out),?_⟩))|refine cF ?_|refine cG ?_|refine om ?_|refine an ?_|fail)<;>try simp only[zN,zT,zV,zS,zU,dC,ex,bu,bN,elems,cells,scalar,dH,bL,aX,aU,bJ,bI,Nat.reduceBEq,reduceAdd,reduceSub,reduceLT,reduceLeDiff,reduceMul,reduceEqDiff,reduceIte,X.out]))<;>(try(exfalso;omega;done))<;>(repeat(rename_i x;(fail_if_success have:Pk:=by simp only[x]);revert x))<;>(repeat(first|exact q.a|have q:=q.b))):P:=h ⟨x⟩ ⟨s⟩ ⟨a,b⟩ ⟨⟩
end Go.Abs
namespace Go.Abs
theorem fh{α:Type}{l:List α}{i:Nat}(d:α)(h:i<l.length):l[i]?=some (l.getD i d):=by
 rw[ab,ae h];rfl
theorem row{α:Type}{f:α->List AV}{l:List α}{i:Nat}(d:α)(h:i<l.length):(l.map f).getD i []=f (l.getD i d):=getD_map (fh d h)
theorem xV{α:Type}{f:α->List AV}{l:List α}{i:Nat}(d:α)(h:i<l.length):(l.map f).getD ((i:Int)-1).toNat []=f (l.getD (i-1) d):=by
 rw[show((i:Int)-1).toNat=i-1 by omega];exact getD_map (fh d (by omega))
theorem od{p:Nat->Prop}{i:Nat}(h:∀j,j<i->p j)(hi:p i):∀j,j<i+1->p j:=fun j hj=>by
 rcases Nat.lt_succ_iff_lt_or_eq.1 hj with hj|rfl
 ·exact h j hj
 ·exact hi
theorem nJ{α:Type}{row:α->List AV}(k:Nat)(l:List α)(h:∀x,∀c∈row x,bC c):bC (.sl k (l.map row)):=bC.sl fun e he c hc=>by
 obtain⟨x,_,rfl⟩:=aO.1 he
 exact h x c hc
def fj{α:Type}(q:α->Bool):Nat->List α->Int
 |_,[]=>-1
 |i,x::r=>if q x=true then(i:Int)else fj q (i+1) r
theorem lK{α:Type}(q:α->Bool):∀(l:List α) (i:Nat),decide (0<=fj q i l)=l.any q
 | [],i=>by simp[fj]
 |x::r,i=>by
  rw[fj,List.any_cons]
  by_cases h:q x=true
  ·rw[if_pos h,h];simp
  ·rw[if_neg h,lK q r (i+1)];simp[h]
theorem sj{α:Type}(q:α->Bool):∀(l:List α) (i:Nat),fj q i l=match l.findIdx? q with|some j=>((i+j:Nat):Int)|none=>-1
 | [],i=>by simp[fj]
 |x::r,i=>by
  rw[fj,List.findIdx?_cons]
  by_cases h:q x=true
  ·simp[h]
  ·simp only[h,if_false,sj q r (i+1)]
   cases r.findIdx? q with
   |none=>simp
   |some j=>simp only[aY,bw,if_false];congr 1;omega
theorem vV{α:Type}{q:α->Bool}{l:List α}:fj q 0 l<0↔l.findIdx? q=none:=by
 rw[sj]
 cases l.findIdx? q with
 |none=>simp
 |some j=>simp only[br,reduceCtorEq,iff_false];omega
theorem Jz{α:Type}{q:α->Bool}{l:List α}{j:Nat}(h:l.findIdx? q=some j):fj q 0 l=j:=by
 rw[sj,h];simp
theorem bO.g_{σ:aG}{k:Nat}:bO σ (.v (.slice none 0 0)) (.sl k []):=fun w X β x hs hx=>by
 obtain rfl:=hx.dz
 exact .slnil k
def FL(σ:aG):List AV->List AV->Prop
 | [],[]=>True
 |a::r,b::s=>bO σ a b/\FL σ r s
 |_,_=>False
theorem FL.len{σ:aG}:∀{cs ds:List AV},FL σ cs ds->cs.length=ds.length
 | [],[],_=>rfl
 | [],_::_,h=>h.elim
 |_::_,[],h=>h.elim
 |_::_,_::_,h=>by simp[FL.len h.2]
theorem FL.get{σ:aG}:∀{cs ds:List AV},FL σ cs ds->∀i,i<cs.length->bO σ (cs.getD i .any) (ds.getD i .any)
 | [],_,_,i,hi=>absurd hi (aN _)
 |_::_,[],h,_,_=>h.elim
 |_::_,_::_,h,0,_=>h.1
 |_::r,_::s,h,i+1,hi=>by simpa using FL.get h.2 i (by simpa using hi)
theorem bO.mX{σ:aG}{cs ds:List AV}(h:FL σ cs ds):bO σ (.agg cs) (.agg ds):=bO.agg h.len h.get
theorem bO.mY{σ:aG}{cs ds:List AV}(h:FL σ cs ds):bO σ (.iu cs) (.iu ds):=bO.iu h.len h.get
inductive Hn where
 |l(s:List Nat)
 |d(m:Nat)
 |v(k q m:Nat)
 |w(pi ks:List Nat)(q m:Nat)
def adK:Operand->O
 | .tmp a=>.t a
 | .const (.agg xs)=>.ca xs.toList
 | .const v=>.c v
 | .func f=>.f f
 | .global g=>.f g
def ad7:List Operand->List O
 | []=>[]
 |x::r=>adK x::ad7 r
def aej:Option Operand->Option O
 |none=>none
 |some x=>some (adK x)
def adU{α:Type}(d:α):List α->Nat->α
 | [],_=>d
 |a::_,0=>a
 |_::r,n+1=>adU d r n
def adX{α:Type}:List α->Nat
 | []=>0
 |_::r=>adX r+1
def adY{α:Type}:List α->List α->List α
 | [],s=>s
 |a::r,s=>a::adY r s
def adZ{α:Type}(x:List α):Nat->List α
 |0=>[]
 |n+1=>adY x (adZ x n)
def adW{α:Type}:Nat->List α->List α
 |n+1,a::r=>a::adW n r
 |_,_=>[]
def ad0{α:Type}:Nat->List α->List α
 |n+1,_::r=>ad0 n r
 |_,l=>l
def adQ:Nat->Nat->List Nat
 |_,0=>[]
 |i,n+1=>i::adQ (i+1) n
def adV(a:Nat):List Nat->List Nat
 | []=>[a]
 |b::r=>if a<b then a::b::r else if a=b then b::r else b::adV a r
def ad1(a:List Nat):List Nat->List Nat
 | []=>a
 |x::r=>adV x (ad1 a r)
def ad'(a:Nat):List Nat->List Nat
 | []=>[]
 |b::r=>if a=b then r else b::ad' a r
def aea(a:Nat):List Nat->Bool
 | []=>false
 |b::r=>if a=b then true else aea a r
def aeb:Nat->IntKind
 |14=>.u8
 |17=>.u64
 |16=>.u32
 |12=>.i32
 |_=>.i64
def adS:List Value->Nat
 | []=>0
 | .int .u8 _::r=>adS r+1
 | .bool _::r=>adS r+1
 | .slice ..::r=>adS r+24
 |_::r=>adS r+8
def ad3:Nat->Nat
 |1=>1
 |s=>(s+7)/8*8
def aec:List Value->List (Option IntKind)
 | []=>[]
 | .int k _::r=>some k::aec r
 |_::r=>none::aec r
section
variable (T:Nat->List Nat)
def adO:Nat->List Nat->List Value
 |n+1,t::r=>match T t with
  | [1,_]=>.slice none 0 0::adO n r
  |2::fs=>adO n (adY fs r)
  | [3,m,e]=>adO n (adY (adZ [e] m) r)
  | [4]=>.bool false::adO n r
  | [5]=>.pointer none::adO n r
  | [6]=>.nilIface::adO n r
  | [7,_,_]=>.map none::adO n r
  | [8]=>.string ⟨#[]⟩::adO n r
  | [9]=>.nilFunc::adO n r
  | [k]=>.int (aeb k) 0::adO n r
  |_=>adO n r
 |_,_=>[]
def adR(t:Nat):List Value:=adO T 99 [t]
def adP(t:Nat):Nat:=adX (adR T t)
def adN(t:Nat):Nat:=match T t with
 | [1,e]=>e
 | [3,_,e]=>e
 |_=>0
def ad8(t:Nat):Option Nat:=match T t with
 |2::_=>some (adP T t)
 |3::_=>some (adP T t)
 |_=>none
def ad4(t i:Nat):Nat×Nat:=match T t with
 |2::fs=>(adX (adO T 99 (adW i fs)),adU 0 fs i)
 | [3,_,e]=>(i*adP T e,e)
 |_=>(0,0)
def ad2(t:Nat):Nat×Nat:=match T t with
 | [7,k,e]=>(adP T k,e)
 |_=>(0,0)
def aeh:Option Nat->Bool
 |some _=>true
 |none=>false
def aek(op:BinOp)(n:Bool)(t:Nat)(x y:O):I:=match T t with
 | [5]=>.An true n x y
 | [6]=>.An false n x y
 | [1,_]=>.qH n x y
 |2::_=>.eqs n (aec (adR T t)) x y
 | [4]=>.Ox n x y
 |_=>.bin op x y
def ael(t:Nat):List (Nat×Operand)->List (Nat×Nat×O)
 | []=>[]
 |(i,x)::r=>((ad4 T t i).1,adP T (ad4 T t i).2,adK x)::ael t r
def aed(k:Nat):List (Nat×Operand)->List (Nat×Nat×O)
 | []=>[]
 |(i,x)::r=>(i*k,k,adK x)::aed k r
def aei(g:Bool):Callee->List O->List Nat->I
 | .value f,a,_=>.call (adK f) a
 | .invoke r nm,a,_=>.inv nm (adK r) a
 | .builtin .len,[x],_=>.len x
 | .builtin .min,[x,y],_=>.tN false x y
 | .builtin .max,[x,y],_=>.tN true x y
 | .builtin .min,[x,y,z],_=>.Oy false x y z
 | .builtin .max,[x,y,z],_=>.Oy true x y z
 | .builtin .append,[x,y],t::_=>match g with
  |true=>.Ak (adN T t) (adP T (adN T t)) (ad3 (adS (adR T (adN T t)))) x y
  |false=>.app (adN T t) (adP T (adN T t)) (ad3 (adS (adR T (adN T t)))) x y
 |_,_,_=>.bad
def aeu(w g:Bool):Op->I
 | .move x=>.mv (adK x)
 | .assign x=>.mv (adK x)
 | .pick c a b=>.pick (adK c) (adK a) (adK b)
 | .alloc t=>.alloc t (adP T t) (adR T t)
 | .box t x=>.box w t (adP T t) (adK x)
 | .build t q=>.build (adR T t) (ael T t q.toList)
 | .buildSlice t n q=>match g,w with
  |true,true=>.Am (adN T t) (adP T (adN T t)) n (adZ (adR T (adN T t)) n) (aed (adP T (adN T t)) q.toList)
  |_,_=>.jR w (adN T t) (adP T (adN T t)) n (adZ (adR T (adN T t)) n) (aed (adP T (adN T t)) q.toList)
 | .load t a=>.load (ad8 T t) (adK a)
 | .store t a v=>.store (adP T t) (adK a) (adK v)
 | .panic _=>.bad
 | .makeMap t _=>.qn (ad2 T t).1
 | .lookup t m k ok=>.look (ad2 T t).1 (aeh (ad8 T (ad2 T t).2)) (adR T (ad2 T t).2) ok (adK m) (adK k)
 | .mapUpdate t m k x=>.pR (ad2 T t).1 (adK m) (adK k) (adK x)
 | .insert t m k x=>.pR (ad2 T t).1 (adK m) (adK k) (adK x)
 | .binOp .eql t x y _=>aek T .eql false t (adK x) (adK y)
 | .binOp .neq t x y _=>aek T .neq true t (adK x) (adK y)
 | .binOp op _ x y _=>.bin op (adK x) (adK y)
 | .convert _ d x=>match T d with
  | [k]=>.N6 (aeb k) (adK x)
  |_=>.bad
 | .unOp op _ x=>.un op (adK x)
 | .fieldAddr t x n=>.tZ (ad4 T t n).1 (adK x)
 | .field t x n=>.field (ad4 T t n).1 (ad8 T (ad4 T t n).2) (adK x)
 | .indexAddr t x i=>.qe (adP T (adN T t)) (adK x) (adK i)
 | .extract x n=>.ext n (adK x)
 | .makeSlice t l c=>.vq (adN T t) (adP T (adN T t)) (ad3 (adS (adR T (adN T t)))) (adR T (adN T t)) (adK l) (adK c)
 | .slice t x lo hi _=>.slice (adP T (adN T t)) (adK x) (aej lo) (aej hi)
 | .makeFunc f a b=>.j5 f (ad7 a.toList) (ad7 b.toList)
 | .nilCheck x=>.dY (adK x)
 | .makeInterface t x=>.l6 t (adK x)
 | .call c=>aei T g c.callee (ad7 c.args.toList) c.argTypes.toList
 |_=>.bad
end
def aP:O->List Nat->List Nat
 | .t n,s=>adV n s
 |_,s=>s
def ad5:List O->List Nat->List Nat
 | [],s=>s
 |x::r,s=>aP x (ad5 r s)
def aem:Option O->List Nat->List Nat
 |some x,s=>aP x s
 |none,s=>s
def ad9:List (Nat×Nat×O)->List Nat->List Nat
 | [],s=>s
 |(_,_,x)::r,s=>aP x (ad9 r s)
def aev:I->List Nat->List Nat
 | .mv x,s=>aP x s
 | .pick a b c,s=>aP a (aP b (aP c s))
 | .box _ _ _ x,s=>aP x s
 | .build _ q,s=>ad9 q s
 | .jR _ _ _ _ _ q,s=>ad9 q s
 | .Am _ _ _ _ q,s=>ad9 q s
 | .load _ a,s=>aP a s
 | .store _ a x,s=>aP a (aP x s)
 | .bin _ x y,s=>aP x (aP y s)
 | .eqs _ _ x y,s=>aP x (aP y s)
 | .Ox _ x y,s=>aP x (aP y s)
 | .qH _ x y,s=>aP x (aP y s)
 | .An _ _ x y,s=>aP x (aP y s)
 | .un _ x,s=>aP x s
 | .tZ _ x,s=>aP x s
 | .field _ _ x,s=>aP x s
 | .qe _ x i,s=>aP x (aP i s)
 | .ext _ x,s=>aP x s
 | .len x,s=>aP x s
 | .tN _ x y,s=>aP x (aP y s)
 | .Oy _ x y z,s=>aP x (aP y (aP z s))
 | .app _ _ _ x y,s=>aP x (aP y s)
 | .Ak _ _ _ x y,s=>aP x (aP y s)
 | .vq _ _ _ _ x y,s=>aP x (aP y s)
 | .slice _ x lo hi,s=>aP x (aem lo (aem hi s))
 | .j5 _ a b,s=>ad5 a (ad5 b s)
 | .dY x,s=>aP x s
 | .l6 _ x,s=>aP x s
 | .call f a,s=>aP f (ad5 a s)
 | .inv _ x a,s=>aP x (ad5 a s)
 | .look _ _ _ _ m k,s=>aP m (aP k s)
 | .pR _ m k x,s=>aP m (aP k (aP x s))
 | .N6 _ x,s=>aP x s
 |_,s=>s
def aew:Option (Nat×Bool)->List Nat->List Nat
 |some (j,_),s=>adV j s
 |none,s=>s
def aex:Option Nat->List Nat->List Nat
 |some d,s=>ad' d s
 |none,s=>s
def ad6:List J->List Nat->List Nat
 | [],s=>s
 |⟨d,i,g⟩::r,s=>aew g (aev i (aex d (ad6 r s)))
def aey(l:List (Option Nat)):Option (Nat×Bool)->Option (Nat×Bool)
 |some (j,b)=>match adU none l j with
  |some s=>some (s,b)
  |none=>none
 |none=>none
def aez(ow:List Nat):Option Nat->Bool
 |some d=>aea d ow
 |none=>false
def aeA:Option (Nat×Bool)->Bool
 |some _=>true
 |none=>false
def aen:List Oper->List (Option Nat)
 | []=>[]
 |o::r=>o.dst::aen r
section
variable (T:Nat->List Nat) (ow:List Nat)
def aeo(l:List (Option Nat)):List Oper->List J
 | []=>[]
 |o::r=>⟨o.dst,aeu T (aez ow o.dst) (aeA o.guard) o.op,aey l o.guard⟩::aeo l r
def ad_(l:List J):List Nat->List J
 | []=>[]
 |i::r=>adU ⟨none,.bad,none⟩ l i::ad_ l r
def aeB(s:List Nat)(js:List J):Bool->List Hn->List Nat×C×List Hn
 |false,h=>(ad6 js s,.ops js s,h)
 |true,.d m::h=>(ad6 js s,.draw (adW m js) (ad0 m js) s,h)
 |true,.v k q m::h=>(ad6 js s,.jC (adQ 0 (adX js)) [k] q (adW m js) (ad0 m js) s,h)
 |true,.w pi ks q m::h=>(ad6 (ad_ js pi) s,.jC pi ks q (adW m (ad_ js pi)) (ad0 m (ad_ js pi)) s,h)
 |true,h=>(s,.skip,h)
def aep(i:Nat):List (Nat×List Nat)->List Nat
 | []=>[]
 |(j,s)::r=>if i=j then s else aep i r
def aeq(s:List Nat):List (Nat×List Nat)->List (Nat×List Nat)
 | []=>[]
 |(j,u)::r=>(j,ad1 u s)::aeq s r
def adT(WH:List Nat):Code->List Nat->List (Nat×List Nat)->List Hn->List Nat×C×List Hn
 | .skip,s,_,h=>(s,.skip,h)
 | .label _,s,_,h=>(s,.skip,h)
 | .ret,_,_,h=>(WH,.ret,h)
 | .scope a,s,lv,h=>match adT WH a s lv h with
  |(s,c,h)=>(s,.scope c,h)
 | .exit i,_,lv,h=>(aep i lv,.exit i,h)
 | .region _ ops d,s,_,h=>aeB s (aeo T ow (aen ops.toList) ops.toList) d h
 | .seq a b,s,lv,h=>match adT WH b s lv h with
  |(s,d,h)=>match adT WH a s lv h with
   |(s,c,h)=>(s,.seq c d,h)
 | .cond x a b,s,lv,h=>match adT WH a s lv h with
  |(u,c,h)=>match adT WH b s lv h with
   |(v,d,h)=>(aP (adK x) (ad1 u v),.cond (adK x) c d,h)
 | .block i a,s,lv,h=>match adT WH a s ((i,s)::lv) h with
  |(s,c,h)=>(s,.block i c,h)
 | .loop a,_,lv,.l s::h=>match adT WH a s lv h with
  |(_,c,h)=>(s,.loop c,h)
 | .rangeFunc f ps a b,_,lv,.l s::h=>match adT WH b s (aeq s lv) h with
  |(u,d,h)=>match adT WH a (ad1 u s) lv h with
   |(_,c,h)=>(aP (adK f) s,.rL (adK f) ps.toList c d,h)
 |_,s,_,h=>(s,.skip,h)
def aee:List ResultVar->List RF
 | []=>[]
 | .tmp t::r=>.t t::aee r
 | .cell a t::r=>.c a (ad8 T t)::aee r
def aef:List ResultVar->List Nat
 | []=>[]
 | .tmp t::r=>adV t (aef r)
 | .cell a _::r=>adV a (aef r)
def aer(h:List Hn)(fn:Func):CF:=match fn.body with
 |some c=>match adT T ow (aef fn.results.toList) c [] [] h with
  |(_,c,_)=>⟨fn.ntmps,c,aee T fn.results.toList⟩
 |none=>⟨0,.skip,[]⟩
end
end Go.Abs
namespace Go.Proofs.YtgopgjnfhkoomaaGreat
open Go.Abs
open Nat (reduceAdd reduceSub reduceLT reduceLeDiff reduceMul reduceEqDiff)
set_option maxHeartbeats 4000000
set_option maxRecDepth 100000
def aeC:List (List (List Nat)):=[[[],[9],[0],[0],[4],[14],[14],[2,2,3,4,6],[2,2,3,4,6],[8],[8],[8],[17],[2,9,12],[2,9,12],[5]],[[5],[5],[2,17],[2,17],[6],[12],[1,118],[2,3,3],[2,3,3],[2,22,24,3,3,3],[2,22,24,3,3,3],[1,164],[1,3],[2,3,28,28,28],[2,3,28,28,28],[9]],[[1,66],[1,71],[1,50],[2,32,33,22,34],[2,32,33,22,34],[2,26,3,32,33],[2,26,3,32,33],[],[9],[0],[],[9],[9],[1,56],[],[9]],[[9],[2,3,3],[2,3,3],[2,3,3],[2,3,3],[2,3,3,3,3,3,3,52,52],[2,3,3,3,3,3,3,52,52],[1,207],[1,52],[1,111],[2,56,57],[2,56,57],[2,3,52,3],[2,3,52,3],[2,54,55,28,59,61],[2,54,55,28,59,61]],[[1,68],[2,50,3,3,63,64,34],[2,50,3,3,63,64,34],[2,3,52],[2,3,52],[9],[2,3,3,3,52],[2,3,3,3,52],[],[9],[9],[1,30],[9],[],[9],[9]],[[1,83],[],[9],[1,5],[9],[9],[9],[9],[9],[9],[9],[],[9],[9],[],[9]],[[9],[9],[5],[9],[9],[],[9],[9],[9],[9],[9],[2,45],[2,45],[],[9],[2,3,52]],[[9],[],[9],[9],[1,162],[2,3,3,3,116],[2,3,3,3,116],[9],[9],[1,222],[9],[9],[9],[5],[5],[1,126]],[[1,28],[2,38,127,128],[2,38,127,128],[9],[2,98,118,52,56],[2,98,118,52,56],[9],[9],[9],[1,140],[9],[3,64,5],[3,64,5],[9],[9],[9]],[[9],[9],[9],[9],[9],[9],[2,61],[2,61],[9],[2,3,3],[2,3,3],[2,56,56],[2,56,56],[],[9],[9]],[[9],[2,3,52],[2,3,52],[2,3,3,3,3,3,3,3,63,68,71,162,50],[2,3,3,3,3,3,3,3,63,68,71,162,50],[9],[9],[9],[9],[9],[9],[9],[9],[9],[9],[9]],[[9],[9],[9],[9],[9],[9],[1,282],[7,282,3],[2,63,64,33,3,45,56,182,183,28],[2,63,64,33,3,45,56,182,183,28],[9],[9],[9],[1,336],[2,189],[2,189]],[[1,45],[],[9],[9],[9],[2,54],[2,54],[],[9],[1,205],[2,56],[2,56],[2,203,4],[2,203,4],[2,3,3,3],[2,3,3,3]],[[1,203],[9],[9],[9],[9],[9],[9],[9],[9],[9],[9],[],[9],[2,3,3,3],[2,3,3,3],[]],[[9],[9],[9],[9],[9],[9],[9],[9],[9],[9],[9],[9],[9],[9],[9],[9]],[[9],[],[9],[],[9],[9],[1,27],[9],[7,50,164],[9],[7,50,264],[7,50,34],[7,50,68],[7,50,50],[7,50,71],[7,50,4]],[[2,248,248,250,251,252,253,254,255,36],[2,248,248,250,251,252,253,254,255,36],[9],[9],[9],[9],[5],[2,262,3,3],[2,262,3,3],[9],[9],[9],[9],[9],[9],[9]],[[9],[9],[9],[9],[9],[9],[],[9],[9],[2,3,3,3],[2,3,3,3],[9],[9],[9],[9],[9]],[[9],[9],[9],[9],[9],[9],[9],[5],[9],[9],[9],[9],[],[9],[9],[9]],[[9],[9],[9],[9],[9],[9],[9],[9],[9],[9],[9],[9],[5],[],[9],[]],[[],[9],[],[9],[9],[9],[9],[9],[9],[9],[9],[9],[9],[9],[9],[9]],[[1,340],[9],[1,392],[2,56,338],[2,56,338],[9],[9],[9],[9],[9],[9],[9],[17],[5],[],[9]],[[9],[3,32,3],[3,32,353],[3,32,353],[2,355,24,22],[2,355,24,22],[9],[9],[9],[],[9],[9],[9],[9],[],[9]],[[5],[5],[],[9],[9],[6],[6],[],[9],[9],[9],[9],[9],[9],[9],[9]],[[9],[9],[],[9],[9],[9],[9],[2,3,52],[2,3,52],[9],[9],[9],[9],[9],[2,191],[2,191]],[[2,191],[9],[9],[0],[],[9],[9],[9],[9],[9],[16],[9],[17],[],[9],[9]],[[9],[9],[9],[],[9],[],[9],[2,264,63],[2,264,63],[2,50,68],[2,50,68],[2,262,71],[2,262,71],[2,3,162],[2,3,162],[2,50]],[[2,50],[9],[9],[9],[9],[9],[9],[9],[9],[9],[9],[9],[9],[9],[9],[9]],[[6],[6],[9],[9],[9],[9],[2,3,3],[2,3,3],[9],[17],[9],[9],[9],[5],[9],[9]],[[9],[9],[9],[9],[9],[9],[9],[5],[9],[5],[9],[9],[9],[9],[9],[9]],[[9],[9],[9],[9],[9],[9],[2,17,17,17,9],[2,17,17,17,9],[3,0,16],[2,488],[2,488],[14],[14],[9],[5],[12]],[[12],[2,12,12,410,491,5,5,492,493,494,495,496],[2,12,12,410,491,5,5,492,493,494,495,496],[9],[9],[9],[]]]
def aes(t:Nat):List Nat:=adU [] (adU [] aeC (t/16)) (t % 16)
theorem jX{fn fn':Func}(e:fn=fn')(ow:List Nat)(hs:List Hn){f N:Nat}{c:C}{rs:List RF}{args:List AV}{r:AV}(h:aR Tryz.prog N none c (sw rs fun v σ'=>bO σ' v r) (tx 0 args) [])(hg:∀Q:CF->Prop,Q ⟨N,c,rs⟩->Q (aer aes ow hs fn'):=by
 intro Q q
 simp only[adK,ad7,aej,adU,adX,adY,adZ,adW,ad0,adQ,adV,ad1,ad',aea,aeb,adS,ad3,aec,adO,adR,adP,adN,ad8,ad4,ad2,aeh,aek,ael,aed,aei,aeu,aP,ad5,aem,ad9,aev,aew,aex,ad6,aey,aez,aeA,aen,aeo,ad_,aeB,aep,aeq,adT,aee,aef,aer,aes,aeC,Nat.reduceAdd,Nat.reduceDiv,Nat.reduceMod,Nat.reduceMul,Nat.reduceLT,Nat.reduceEqDiff,reduceIte,List.toList_toArray,List.append]
 exact q) (hf:Tryz.prog.funcs[f]?=some fn:=by kernel_rfl) (lD:∀a w,(callFunc f a).run Tryz.prog w=.ok (.enter f a) w:=by intro _ _;kernel_rfl)
 (mw:jP Tryz.prog fn ⟨N,c,rs⟩=true:=by kernel_rfl) (hlen:Nat.ble args.length N=true:=by exact rfl):Pure Tryz.prog f args r:=Pure.rY lD hf mw (gM hlen) h
theorem Fi{fn fn':Func}(e:fn=fn')(ow:List Nat)(hs:List Hn){f N:Nat}{c:C}{rs:List RF}{args:List AV}{R:AV->aG->Prop}{σ:aG}(h:aR Tryz.prog N none c (sw rs R) (tx 0 args) σ)(hg:∀Q:CF->Prop,Q ⟨N,c,rs⟩->Q (aer aes ow hs fn'):=by
 intro Q q
 simp only[adK,ad7,aej,adU,adX,adY,adZ,adW,ad0,adQ,adV,ad1,ad',aea,aeb,adS,ad3,aec,adO,adR,adP,adN,ad8,ad4,ad2,aeh,aek,ael,aed,aei,aeu,aP,ad5,aem,ad9,aev,aew,aex,ad6,aey,aez,aeA,aen,aeo,ad_,aeB,aep,aeq,adT,aee,aef,aer,aes,aeC,Nat.reduceAdd,Nat.reduceDiv,Nat.reduceMod,Nat.reduceMul,Nat.reduceLT,Nat.reduceEqDiff,reduceIte,List.toList_toArray,List.append]
 exact q) (hf:Tryz.prog.funcs[f]?=some fn:=by kernel_rfl) (lD:∀a w,(callFunc f a).run Tryz.prog w=.ok (.enter f a) w:=by intro _ _;kernel_rfl)
 (mw:jP Tryz.prog fn ⟨N,c,rs⟩=true:=by kernel_rfl) (hlen:Nat.ble args.length N=true:=by exact rfl):eY Tryz.prog f args σ R:=eY.rY lD hf mw (gM hlen) h
end Go.Proofs.YtgopgjnfhkoomaaGreat
