/- Walks of agg: Valid, one, both (of none), Of (of one value), Put, Get. -/
import Derived.Test.YteajonicnkpbbaaGreatDoorPkBack
import Derived.Test.YteajonicnkpbbaaGreatDoorPolB
namespace Go.Proofs.YteajonicnkpbbaaGreatDoor
set_option linter.all false
open Go.RowKit Tryz
structure zbP where
 count:Int
 hi:Int
 lo:Int
 min:Int
 max:Int
def zbP.cells(a:zbP):List Value:=[.int .i64 a.count,.int .i64 a.hi,.int .u64 a.lo,.int .i64 a.min,.int .i64 a.max]
def zbP.val(a:zbP):Value:=.agg #[.int .i64 a.count,.int .i64 a.hi,.int .u64 a.lo,.int .i64 a.min,.int .i64 a.max]
def zbT(x:Int):Prop:= -9223372036854775808≤x∧x≤9223372036854775807
def zbP.wf(a:zbP):Prop:=zbT a.count∧zbT a.hi∧(0≤a.lo∧a.lo≤18446744073709551615)∧zbT a.min∧zbT a.max
def zbc(a:zbP):Bool:=decide (1≤a.count)&&decide (a.count≤4611686018427387904)&&decide (a.min≤a.max)
def zpO:zbP:=⟨0,0,0,0,0⟩
def zgD(v:Int):zbP:=⟨1,v / 9223372036854775808,v%18446744073709551616,v,v⟩
structure zah where
 name:ByteArray
 start:Int
 agg:zbP
def zah.cells(r:zah):List Value:=[.string r.name,.int .i64 r.start,.int .i64 r.agg.count,.int .i64 r.agg.hi,.int .u64 r.agg.lo,.int .i64 r.agg.min,.int .i64 r.agg.max]
def zah.val(r:zah):Value:=.agg #[.string r.name,.int .i64 r.start,.int .i64 r.agg.count,.int .i64 r.agg.hi,.int .u64 r.agg.lo,.int .i64 r.agg.min,.int .i64 r.agg.max]
def zah.wf(r:zah):Prop:=zbT r.start∧r.agg.wf∧r.name.size≤maxLen
theorem zj8(a b:List UInt8):zaC a++zaC b=zaC (a++b):=by
 simp[zaC,ByteArray.ext_iff]
theorem ziu{s:ByteArray}(h:zau s=true):s.size≤15:=by
 rcases Nat.lt_or_ge 15 s.size with h1 | h1
 ·rw[zdZ h1] at h;cases h
 ·exact h1
def zpU(l:List zah):List Value:=l.flatMap zah.cells
structure zaN where
 name:ByteArray
 time:Int
 value:Int
def zaN.cells(s:zaN):List Value:=[.string s.name,.int .i64 s.time,.int .i64 s.value]
def zaN.val(s:zaN):Value:=.agg #[.string s.name,.int .i64 s.time,.int .i64 s.value]
def zaN.wf(s:zaN):Prop:=zbT s.time∧zbT s.value∧s.name.size≤maxLen
def zoZ(l:List zaN):List Value:=l.flatMap zaN.cells
theorem zeP(e:Int)(b:List UInt8)(n:Nat):(za7 e b n).2.1.length≤b.length:=by
 unfold za7
 split
 ·split
  ·exact Nat.le_refl _
  ·show (b.drop n).length≤_;rw[List.length_drop];omega
 ·exact Nat.le_refl _
theorem zgC(s:ByteArray):zaC s.data.toList=s:=by simp[zaC]
theorem zhD(d:Nat)(a b:ByteArray)(w:World):(Op.equalIn (d+1) 9 (.string a) (.string b)).run prog w=.ok (a.toList==b.toList) w:=run_equalIn_string w d _ a b (by kernel_rfl)
theorem zj2(d:Nat)(a b:Int)(w:World):(Op.equalIn (d+1) 3 (.int .i64 a) (.int .i64 b)).run prog w=.ok (a==b) w:=run_equalIn_int w d _ .i64 .i64 a b (by kernel_rfl)
theorem zpD(d:Nat)(a b:Int)(w:World):(Op.equalIn (d+1) 22 (.int .u64 a) (.int .u64 b)).run prog w=.ok (a==b) w:=run_equalIn_int w d _ .u64 .u64 a b (by kernel_rfl)
theorem toList_inj{a b:ByteArray}(h:a.toList=b.toList):a=b:=by
 rw[Lib.toList_data,Lib.toList_data] at h
 cases a;cases b
 simp only at h
 congr
 exact Array.toList_inj.1 h
def zmx(x y:zaN):Bool:=(x.name.toList==y.name.toList)&&((x.time==y.time)&&(x.value==y.value))
theorem zg2(x y:zaN):zmx x y=true↔x=y:=by
 obtain⟨a,b,c⟩:=x;obtain⟨a',b',c'⟩:=y;unfold zmx;simp only[Bool.and_eq_true,beq_iff_eq,zaN.mk.injEq];exact⟨fun h=>⟨toList_inj h.1,h.2⟩,fun h=>⟨by rw[h.1],h.2⟩⟩
instance zqp:DecidableEq zaN:=fun x y=>if h:zmx x y=true then isTrue ((zg2 x y).1 h) else isFalse fun e=>h ((zg2 x y).2 e)
def zpM(x y:zbP):Bool:=(x.count==y.count)&&((x.hi==y.hi)&&((x.lo==y.lo)&&((x.min==y.min)&&(x.max==y.max))))
def zpi(x y:zah):Bool:=(x.name.toList==y.name.toList)&&((x.start==y.start)&&zpM x.agg y.agg)
theorem znK(x y:zbP):zpM x y=true↔x=y:=by
 obtain⟨a,b,c,d,e⟩:=x;obtain⟨a',b',c',d',e'⟩:=y;unfold zpM;simp only[Bool.and_eq_true,beq_iff_eq,zbP.mk.injEq]
theorem ziQ(x y:zah):zpi x y=true↔x=y:=by
 obtain⟨a,b,c⟩:=x;obtain⟨a',b',c'⟩:=y;unfold zpi;simp only[Bool.and_eq_true,beq_iff_eq,zah.mk.injEq,znK];exact⟨fun h=>⟨toList_inj h.1,h.2⟩,fun h=>⟨by rw[h.1],h.2⟩⟩
instance zqH:DecidableEq zah:=fun x y=>if h:zpi x y=true then isTrue ((ziQ x y).1 h) else isFalse fun e=>h ((ziQ x y).2 e)
end Go.Proofs.YteajonicnkpbbaaGreatDoor
