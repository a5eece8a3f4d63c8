/- Walk of shadow: Step that checks. -/
import Derived.Test.YteajonicnkpbbaaGreatDoorShStep
namespace Go.Proofs.YteajonicnkpbbaaGreatDoor
set_option linter.all false
open Go.RowKit
section
variable {nm:ByteArray} {l:List zaa} {fl:List Int} {o:Int} {lo lo2:Nat} {W W':World} {t:Nat} {X:zae} {F G:Nat→Prop} {c:Nat}
end
def zo2(lt:List zaa)(done:Int)(j:Nat)(s:ByteArray):Bool:=
 match lt[j]? with
 | some y=>decide (zfd s y.shards+zbn (lt.take j)<done)
 | none=>false
def unf(lt:List zaa)(done:Int)(j:Nat)(r:zah):Bool:= !zo2 lt done j r.name
theorem zmb(lt:List zaa)(done:Int)(j:Nat):∀ x y,zco x y→unf lt done j x=unf lt done j y:=fun x y h=>by unfold unf;rw[h.1]
def shL(lt:List zaa)(done:Int)(Y:List (List zah))(j:Nat):List zah:=za0 (unf lt done j) (Y.getD j [])
def shT(lt:List zaa)(done:Int)(Y:List (List zah)):List (List zah):=(List.range lt.length).map (shL lt done Y)
theorem zpd{lt:List zaa}{done:Int}{Y:List (List zah)}{j:Nat}(hj:j<lt.length):(shT lt done Y)[j]? =some (shL lt done Y j):=by unfold shT;rw[List.getElem?_map,List.getElem?_range hj];rfl
theorem zhX{lt:List zaa}{done:Int}{Y:List (List zah)}{j:Nat}(hj:j<lt.length):(shT lt done Y).getD j []=shL lt done Y j:=by rw[List.getD_eq_getElem?_getD,zpd hj];rfl
theorem zoJ{lt:List zaa}(j:Nat):0≤zbn (lt.take j)∧zbn (lt.take j)≤zbn lt:=by
 constructor
 ·have:=zhC (l:=lt) 0 j (Nat.zero_le _)
  simpa[zbn] using this
 ·have h:=zhC (l:=lt) j (max j lt.length) (by omega)
  rwa[List.take_of_length_le (by omega:lt.length≤max j lt.length)] at h
section
variable {nm2:ByteArray} {lt:List zaa} {Y:List (List zah)} {done:Int}
theorem zn5:shT lt 0 Y=lt.map fun _=>[]:=by
 unfold shT
 apply List.ext_getElem?
 intro j;rw[List.getElem?_map,List.getElem?_map]
 by_cases hj:j<lt.length
 ·rw[List.getElem?_range hj,q6_ hj]
  simp only[Option.map_some]
  congr 1
  unfold shL za0;rw[List.filter_eq_nil_iff];intro r _;unfold unf zo2;have h1:=(zmt r.name lt[j].shards).1;have h2:=(zoJ (lt:=lt) j).1;simp only[q6_ hj];rw[q9_ (by omega)];simp
 ·rw[List.getElem?_eq_none (by simpa using hj),List.getElem?_eq_none (by omega)]
  rfl
end
section
variable {nm nm2:ByteArray} {l lt:List zaa} {X:zae} {fl:List Int} {o:Int} {c:Nat}
def zlw(Y:zae)(done:Int)(s:zaN)(j:Nat)(m:List zah):List zah:=
 match Y.tiers[j]? with
 | some y=>if zo2 Y.tiers done j s.name&&decide (zaF Y.now Y.tiers Y.floors j≤zav s.time y.every) then zdg y.every m ⟨s.name,zav s.time y.every,zgD s.value⟩ else m
 | none=>m
def zh9(Y:zae)(done:Int)(tabs:List (List zah))(s:zaN):List (List zah):=(List.range Y.tiers.length).map fun j=>zlw Y done s j (tabs.getD j [])
theorem zlv{Y:zae}{done:Int}{s:zaN}{j:Nat}{m:List zah}(h0:0≤s.time)(hj:j<Y.tiers.length):zlw Y done s j m=if zo2 Y.tiers done j s.name then zdN Y s j m else m:=by
 unfold zlw zdN zkm;rw[if_pos (⟨by omega,by omega,h0⟩:0≤(j:Int)∧(j:Int)<(Y.tiers.length:Int)∧0≤s.time)];simp only[Int.toNat_natCast,zez hj,q6_ hj]
 cases zo2 Y.tiers done j s.name<;>simp
theorem znD(p:zal nm l=true)(hg:zbE nm l fl X c)(hfl:∀ f∈fl,0≤f∧f≤2199023255552)(p2:zal nm2 lt=true){s:zaN}(hE:zks X [s]=0){j:Nat}(hj:j<lt.length):
  (zaw (zb2 X [s]) nm2 lt (srcs o l fl lt)).tabs.getD j []=zdN (zaw X nm2 lt (srcs o l fl lt)) s j ((zaw X nm2 lt (srcs o l fl lt)).tabs.getD j []):=by
 have hn:=hg.now
 have hX:zb2 X [s]={X with tabs:=addT X X.tabs s}:=by unfold zb2;rw[if_pos hE];rfl
 rw[hX,zcE hj,zcE hj];have hy:lt[j]? =some lt[j]:=q6_ hj;obtain⟨i,x,hx,hs,hd,hf,_⟩:=zdC (o:=o) (X:=X) p hn hfl p2 hy;have hi:=(List.getElem?_eq_some_iff.1 hx).1
 have hxX:X.tiers[i]? =some x:=by rw[hg.tiers];exact hx
 have hy1:=zaY p2 (zab hy);unfold zdV;rw[hs,hy];simp only[Int.toNat_natCast];rw[hxX];simp only;rw[zgF,if_pos (by rw[hg.tiers];exact hi)];unfold ziO;simp only[if_pos hd,zfA];exact zmB (X:=X) (Y:=zaw X nm2 lt (srcs o l fl lt)) hxX hy (zgu hd).1 hy1.1 (zgu hd).2 (by rw[hg.tiers,hg.floors];show _≤zaF X.now lt (zb8 X.now X.tiers X.floors _ lt) j;rw[hg.tiers,hg.floors];exact hf) (hg.good i) s
theorem zn7(p:zal nm l=true)(hg:zbE nm l fl X c)(hfl:∀ f∈fl,0≤f∧f≤2199023255552)(p2:zal nm2 lt=true){s:zaN}(hE:zks X [s]=0)(h0:0≤s.time)(done:Int):
  zh9 (zaw (zb2 X [s]) nm2 lt (srcs o l fl lt)) done (shT lt done (zaw X nm2 lt (srcs o l fl lt)).tabs) s=shT lt done (zaw (zb2 X [s]) nm2 lt (srcs o l fl lt)).tabs:=by
 have hX:zb2 X [s]={X with tabs:=addT X X.tabs s}:=by unfold zb2;rw[if_pos hE];rfl
 unfold zh9;rw[show (zaw (zb2 X [s]) nm2 lt (srcs o l fl lt)).tiers=lt from rfl]
 conv=>rhs;unfold shT
 refine List.map_congr_left (fun j hj=>?_);have hj:=List.mem_range.1 hj;rw[zhX hj];unfold shL;rw[znD p hg hfl p2 hE hj];have hgY:zbJ ((zaw X nm2 lt (srcs o l fl lt)).tabs.getD j []):=(zgB p hg hfl p2).good j
 have e1:zlw (zaw (zb2 X [s]) nm2 lt (srcs o l fl lt)) done s j (za0 (unf lt done j) ((zaw X nm2 lt (srcs o l fl lt)).tabs.getD j []))=zlw (zaw X nm2 lt (srcs o l fl lt)) done s j (za0 (unf lt done j) ((zaw X nm2 lt (srcs o l fl lt)).tabs.getD j [])):=by rw[hX];rfl
 rw[e1,zlv h0 hj]
 show (if zo2 lt done j s.name then _ else _)=_
 generalize (zaw X nm2 lt (srcs o l fl lt)).tabs.getD j []=m at hgY ⊢
 generalize zaw X nm2 lt (srcs o l fl lt)=Y
 have hk:∀ (e t:Int) (a:zbP),unf lt done j ⟨s.name,t,a⟩= !zo2 lt done j s.name:=fun e t a=>rfl
 cases hb:zo2 lt done j s.name
 ·rw[if_neg (by simp)]
  unfold zdN
  split
  ·split
   ·rw[zge (zmb lt done j) hgY.1 (by rw[hk 0,hb];rfl)]
   ·rfl
  ·rfl
 ·rw[if_pos rfl]
  unfold zdN
  split
  ·split
   ·rw[zgf (zmb lt done j) hgY.1 (by rw[hk 0,hb];rfl)]
   ·rfl
  ·rfl
end
structure zkg(nm2:ByteArray)(l lt:List zaa)(fl:List Int)(o:Int)(X:zae)(S:ShX):Prop where
 name:S.name=nm2
 tiers:S.tiers=lt
 src:S.srcs=Proofs.YteajonicnkpbbaaGreatDoor.srcs o l fl lt
 tabs:S.tabs=shT lt S.done (zaw X nm2 lt (Proofs.YteajonicnkpbbaaGreatDoor.srcs o l fl lt)).tabs
 d0:0≤S.done
 d1:S.done≤zb1 lt
section
variable {nm nm2:ByteArray} {l lt:List zaa} {fl:List Int} {o:Int} {lo:Nat} {W:World} {t s base:Nat} {X:zae} {S:ShX} {Ft F:Nat→Prop} {cc:Nat}
theorem zeo(p2:zcl nm2 lt):0≤zbn lt∧zb1 lt=zbn lt+2∧zb1 lt≤42:=by
 have h8:∀ t∈lt,t.shards≤8:=fun x hx=>(zaY p2.ck hx).2.2.2.2.2;have hf:=zi6 h8;have h5:=p2.five
 have hne:lt≠[]:=by rintro rfl;have:=p2.pos;simp at this
 have:zb1 lt=zbn lt+2:=by simp[zb1,hne]
 omega
theorem zj7(p:zcl nm l)(p2:zcl nm2 lt)(hg:zbE nm l fl X cc)(hfl:∀ f∈fl,0≤f∧f≤2199023255552){j:Nat}{y:zaa}(hy:lt[j]? =some y):
  zbJ ((zaw X nm2 lt (srcs o l fl lt)).tabs.getD j [])∧∀ r∈(zaw X nm2 lt (srcs o l fl lt)).tabs.getD j [],zbR y.every r=true∧zaF X.now lt (zb8 X.now l fl (srcs o l fl lt) lt) j≤r.start:=by
 rw[zcE (List.getElem?_eq_some_iff.1 hy).1];obtain⟨i,x,hx,hs,hd,_,_⟩:=zdC (o:=o) (X:=X) p.ck hg.now hfl p2.ck hy
 have hxX:X.tiers[i]? =some x:=by rw[hg.tiers];exact hx
 unfold zdV;rw[hs,hy];simp only[Int.toNat_natCast];rw[hxX];simp only;rw[hg.tiers,hg.floors];exact zd6
def ShX.go(S:ShX)(nm2:ByteArray)(lt:List zaa)(Y:zae):ShX:={S with done:=S.done+1,tabs:=shT lt (S.done+1) Y.tabs}
theorem zkg.next(h:zkg nm2 l lt fl o X S)(hd:S.done<zb1 lt):zkg nm2 l lt fl o X (S.go nm2 lt (zaw X nm2 lt (srcs o l fl lt))):=
 ⟨h.name,h.tiers,h.src,rfl,by have:=h.d0;show 0≤S.done+1;omega,by show S.done+1≤_;omega⟩
end
end Go.Proofs.YteajonicnkpbbaaGreatDoor
