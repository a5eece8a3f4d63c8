/- Walk of plan: fits. -/
import Derived.Test.YteajonicnkpbbaaGreatDoorTiersLoad
namespace Go.Proofs.YteajonicnkpbbaaGreatDoor
set_option linter.all false
open Go.RowKit
def zdV(X:zae)(lt:List zaa)(ss:List Int)(fl:List Int)(j:Nat):List zah:=
 match ss[j]?,lt[j]? with
 | some s,some y=>(match X.tiers[s.toNat]? with | some x=>ziO x.every y.every (zaF X.now lt fl j) (X.tabs.getD s.toNat []) | none=>[])
 | _,_=>[]
def zaw(X:zae)(nm:ByteArray)(lt:List zaa)(ss:List Int):zae:=
 ⟨X.now,nm,lt,zb8 X.now X.tiers X.floors ss lt,(List.range lt.length).map (zdV X lt ss (zb8 X.now X.tiers X.floors ss lt))⟩
theorem zmC(e1 e fr:Int)(l:List zah):(ziO e1 e fr l).length≤l.length:=by
 unfold ziO
 split
 ·have h1:=zgE (every:=e) (zlk e fr l) zay.nil
  have h2:=zmD e fr l;simp only[List.length_nil] at h1;omega
 ·simp
theorem zlU{X:zae}{lt:List zaa}{ss fl:List Int}{c:Nat}(h:∀ m∈X.tabs,m.length≤c)(j:Nat):(zdV X lt ss fl j).length≤c:=by
 unfold zdV
 split
 ·split
  ·exact Nat.le_trans (zmC _ _ _ _) (zoA h _)
  ·simp
 ·simp
theorem zh7{w:World}{base b n size:Nat}{e:TypeId}{v:Value}{xs:List Value}(h:w.ownsRow base e size v n xs)(hb:b≤base):w.ownsRow b e size v n xs:=
 zhg h (fun k hk=>Nat.le_trans hb (h.lt k hk).1)
theorem zaV.down{w:World}{t base b:Nat}{X:zae}{F:Nat→Prop}(h:zaV w t base X F)(hb:b≤base):zaV w t b X F:=by
 obtain⟨A,c,B,d,T,ct,tb,hi,e⟩:=h;exact⟨A,c,B,d,T,ct,tb,⟨hi.blk,zh7 hi.tiers hb,zh7 hi.floors hb,zh7 hi.row hb,hi.tlen,hi.tab,hi.nodup,fun p hp=>⟨Nat.le_trans hb (hi.ge p hp).1,Nat.le_trans hb (hi.ge p hp).2⟩,Nat.le_trans hb hi.tge⟩,e⟩
theorem zpz{now:Int}{l:List zaa}{fl:List Int}{k:Nat}{f:Int}(hk:k<l.length)(hf:fl[k]? =some f):f≤zaF now l fl k∧zaF now l [] k≤zaF now l fl k:=by
 unfold zaF;rw[q6_ hk,q6_ (show min (k+1) (l.length-1)<l.length by omega),hf];simp only[List.getElem?_nil];omega
theorem zn2{now:Int}{lf:List zaa}{fl:List Int}{lt:List zaa}{j:Nat}{y:zaa}(hy:lt[j]? =some y):(srcs now lf fl lt)[j]? =some (zep now lf fl y.every lf.length):=by
 unfold srcs;rw[List.getElem?_map,hy]
 rfl
theorem znH{now:Int}{lf:List zaa}{fl:List Int}{ss:List Int}{lt:List zaa}{j:Nat}{s:Int}{y:zaa}(hs:ss[j]? =some s)(hy:lt[j]? =some y):(zb8 now lf fl ss lt)[j]? =some (zgx (zii now lf fl s) y.every):=by
 unfold zb8;rw[List.getElem?_zipWith,hs,hy]
section
variable {nm nm2:ByteArray} {l lt:List zaa} {X:zae} {fl:List Int} {o:Int} {c:Nat}
theorem zdC(p:zal nm l=true)(hn:0≤X.now∧X.now≤1099511627776)(hfl:∀ f∈fl,0≤f∧f≤2199023255552)(p2:zal nm2 lt=true){j:Nat}{y:zaa}(hy:lt[j]? =some y):
  ∃ (i:Nat) (x:zaa),l[i]? =some x∧(srcs o l fl lt)[j]? =some (i:Int)∧zaA x.every y.every=true∧zaF X.now l fl i≤zaF X.now lt (zb8 X.now l fl (srcs o l fl lt) lt) j∧(zb8 X.now l fl (srcs o l fl lt) lt)[j]? =some (zgx (zaF X.now l fl i) y.every):=by
 obtain⟨i,x,hi,e1,hx,hd,_⟩:=zpa (now:=o) (fl:=fl) y.every p;have hy1:=zaY p2 (zab hy);have hx1:=zaY p (zab hx)
 have hs:(srcs o l fl lt)[j]? =some (i:Int):=by rw[zn2 hy,e1]
 have hb:=znH (now:=X.now) (lf:=l) (fl:=fl) hs hy;rw[zez hi] at hb;have hf:=zih p hn.1 hn.2 hfl i;have hc:=zfG (t:=zaF X.now l fl i) (e:=y.every) hf.1 (by omega) hy1.1 hy1.2.1;refine⟨i,x,hx,hs,?_,Int.le_trans hc.2.1 (zpz (List.getElem?_eq_some_iff.1 hy).1 hb).1,hb⟩;unfold zaA;simp only[Bool.and_eq_true,decide_eq_true_eq];exact⟨hx1.1,hd⟩
theorem zcE{ss:List Int}{j:Nat}(hj:j<lt.length):(zaw X nm2 lt ss).tabs.getD j []=zdV X lt ss (zb8 X.now X.tiers X.floors ss lt) j:=by
 show ((List.range lt.length).map _).getD j []=_
 rw[List.getD_eq_getElem?_getD,List.getElem?_map,List.getElem?_range hj]
 rfl
theorem zgB(p:zal nm l=true)(hg:zbE nm l fl X c)(hfl:∀ f∈fl,0≤f∧f≤2199023255552)(p2:zal nm2 lt=true):zbE nm2 lt (zb8 X.now l fl (srcs o l fl lt) lt) (zaw X nm2 lt (srcs o l fl lt)) c:=by
 have hgood:∀ j,zbJ (zdV X lt (srcs o l fl lt) (zb8 X.now X.tiers X.floors (srcs o l fl lt) lt) j):=fun j=>by
  unfold zdV
  split
  ·split
   ·exact zd6.1
   ·exact zb5
  ·exact zb5
 refine⟨rfl,rfl,?_,hg.now,by simp[zaw],fun m hm=>?_,fun k=>?_,fun k x hx r hr=>?_⟩
 ·show zb8 X.now X.tiers X.floors _ lt=_
  rw[hg.tiers,hg.floors]
 ·obtain⟨j,_,rfl⟩:=List.mem_map.1 hm
  exact zlU hg.len j
 ·by_cases hk:k<lt.length
  ·rw[zcE hk];exact hgood k
  ·show zbJ (((List.range lt.length).map _).getD k [])
   rw[List.getD_eq_getElem?_getD,List.getElem?_eq_none (by simpa using hk)];exact zb5
 ·have hk:k<lt.length:=(List.getElem?_eq_some_iff.1 hx).1
  rw[zcE hk] at hr;unfold zdV at hr
  split at hr
  ·rename_i s y _ hy
   rw[hx] at hy
   cases hy
   split at hr
   ·have h:=(zd6.2 r hr).1
    unfold zbR at h;simp only[Bool.and_eq_true,decide_eq_true_eq] at h
    exact h.1.1.1 |>fun h1=>⟨h1,h.1.1.2,h.1.2⟩
   ·cases hr
  ·cases hr
end
structure ze8(W:World)(t:Nat)(now:Int)(nm:ByteArray)(l:List zaa)(fl:List Int)(tA:Option Addr)(tc:Nat)(tB:Option Addr)(td:Nat):Prop where
 c0:W.cell? ⟨t,0,none⟩=some (.int .i64 now)
 c1:W.cell? ⟨t,1,none⟩=some (.string nm)
 c2:W.cell? ⟨t,2,none⟩=some (.slice tA l.length tc)
 c3:W.cell? ⟨t,3,none⟩=some (.slice tB fl.length td)
 rt:Rd W 4 tA l.length (zaf l)
 rf:Rd W 1 tB fl.length (za6 fl)
 le:l.length≤tc
section
variable {nm nm2:ByteArray} {l lt:List zaa} {fl:List Int} {lo:Nat} {W W':World} {t:Nat} {X:zae} {F:Nat→Prop} {c:Nat} {now:Int} {tA tB:Option Addr} {tc td:Nat}
theorem ze8.fr0(h:ze8 W t now nm l fl tA tc tB td)(f:Fr (fun _=>False) W W'):ze8 W' t now nm l fl tA tc tB td:=
 ⟨f.cell h.c0 (fun h=>h),f.cell h.c1 (fun h=>h),f.cell h.c2 (fun h=>h),f.cell h.c3 (fun h=>h),h.rt.fr0 f,h.rf.fr0 f,h.le⟩
theorem Tio.reach(h:Tio nm l fl lo W t X F c):∃ tA tc tB td,ze8 W t X.now nm l fl tA tc tB td:=by
 obtain⟨base,hb,tA,tc,tB,td,T,ct,tb,hi,_⟩:=h.on;have hg:=h.good;have b:=hi.blk;have e1:=zdb hi.tiers;have e2:=zdb hi.floors;rw[hg.tiers,hg.floors,hg.name] at b;rw[hg.tiers] at e1;rw[hg.floors] at e2;exact⟨tA,tc,tB,td,b.cell 0,b.cell 1,b.cell 2,b.cell 3,e1.2.2.1,e2.2.2.1,e1.1⟩
end
section
variable {nm nm2:ByteArray} {l lt:List zaa} {fl:List Int} {o:Int} {lo:Nat} {W W':World} {t:Nat} {X:zae} {F:Nat→Prop} {c:Nat} {now:Int} {tA tB:Option Addr} {tc td:Nat}
end
end Go.Proofs.YteajonicnkpbbaaGreatDoor
