/- What stays true of tiers where records are loaded; steps of any kind. -/
import Derived.Test.YtjhhodndlkpmhaaGreatDoorTiersLoad
import Derived.Test.YtjhhodndlkpmhaaGreatDoorOpC
import Derived.Test.YtjhhodndlkpmhaaGreatDoorTioA
namespace Go.Proofs.YtjhhodndlkpmhaaGreatDoor
set_option linter.all false
open Go.RowKit Tryz
theorem zh0{e:Int}:∀ (rs:List zae) {l:List zae},za6 l→(∀ r∈l,zaD r.name=true∧0≤r.start∧onB r.start e=true)→∀ y∈zbN e l rs,zaD y.name=true∧0≤y.start∧onB y.start e=true
 | [],_,_,h=>h
 | r::rs,l,hg,h=>zh0 (e:=e) rs (zdf hg r) (zj0 hg.1 h r)
theorem zbf.load{nm:ByteArray}{l:List za_}{fl:List Int}{X:zaa}{c:Nat}(h:zbf nm l fl X c)(k:Nat)(rs:List zae):zbf nm l fl (zea X k rs) (c+rs.length):=by
 unfold zea
 split
 ·rename_i x m hx hm
  have hkl:k<X.tabs.length:=(List.getElem?_eq_some_iff.1 hm).1
  have hmD:X.tabs.getD k []=m:=by rw[List.getD_eq_getElem?_getD,hm];rfl
  have hgm:za6 m:=by rw[← hmD];exact h.good k
  have hset:∀ j,(X.tabs.set k (zbN x.every m (rs.filter (ldB X k)))).getD j []=if j=k then zbN x.every m (rs.filter (ldB X k)) else X.tabs.getD j []:=fun j=>by
   rw[List.getD_eq_getElem?_getD,List.getD_eq_getElem?_getD]
   by_cases e:j=k
   ·subst e
    rw[List.getElem?_set_self hkl,if_pos rfl]
    rfl
   ·rw[List.getElem?_set_ne (fun e'=>e e'.symm),if_neg e]
  refine⟨h.name,h.tiers,h.floors,h.now,by simpa using h.tlen,fun y hy=>?_,fun j=>?_,fun j x' hx' r hr=>?_⟩
  ·have hy:y∈X.tabs.set k (zbN x.every m (rs.filter (ldB X k))):=hy
   rcases List.mem_or_eq_of_mem_set hy with h1 | rfl
   ·have:=h.len y h1;omega
   ·have h1:=zde (every:=x.every) (rs.filter (ldB X k)) hgm.1
    have h2:=h.len m (zab hm);have h3:(rs.filter (ldB X k)).length≤rs.length:=List.length_filter_le _ _;omega
  ·show za6 ((X.tabs.set k _).getD j [])
   rw[hset]
   split
   ·exact zh1 hgm
   ·exact h.good j
  ·have hr:r∈(X.tabs.set k (zbN x.every m (rs.filter (ldB X k)))).getD j []:=hr
   rw[hset] at hr
   split at hr
   ·rename_i e
    subst e
    have hxx:x=x':=by rw[h.tiers,hx'] at hx;exact (Option.some.inj hx).symm
    rw[← hxx];exact zh0 _ hgm (fun y hy=>by rw[hxx];exact h.grid j x' hx' y (by rw[hmD];exact hy)) r hr
   ·exact h.grid j x' hx' r hr
 ·exact⟨h.name,h.tiers,h.floors,h.now,h.tlen,fun m hm=>Nat.le_trans (h.len m hm) (Nat.le_add_right _ _),h.good,h.grid⟩
theorem zbf.more{nm:ByteArray}{l:List za_}{fl:List Int}{X:zaa}{c d:Nat}(h:zbf nm l fl X c)(hd:c≤d):zbf nm l fl X d:=⟨h.name,h.tiers,h.floors,h.now,h.tlen,fun m hm=>Nat.le_trans (h.len m hm) hd,h.good,h.grid⟩
section
variable {nm:ByteArray} {l:List za_} {fl:List Int} {lo:Nat} {W W':World} {t:Nat} {X:zaa} {F:Nat→Prop} {c:Nat}
theorem zpK(hnm:nm.size≤maxLen)(hwf:∀ t∈l,t.wf)(A:Option Addr)(n c:Nat)(now:Int)(hnow: -9223372036854775808≤now∧now≤9223372036854775807)(B:Option Addr)(m d:Nat)(lo:Nat)(w:World)(hlo:lo≤w.heap.size)(hr:Rd w 4 A n (zah l))(hnc:n≤c)(hn:n≤1099511627776)(hf:Rd w 1 B m (zbg fl))(hm:m≤1099511627776):
  Calls prog 39 #[.agg #[.string nm,.slice A n c],.int .i64 now,.slice B m d] w fun r w'=>((zfs nm l now fl=0→zb_ nm l∧∃ t F,r=.returned (.tuple #[.pointer (some ⟨t,0,none⟩),.int .i64 0])∧Tio nm l fl lo w' t (zfZ nm l now fl) F 0∧∀ j,F j→w.heap.size≤j)∧(zfs nm l now fl≠0→r=.returned (.tuple #[.pointer none,.int .i64 (zfs nm l now fl)])))∧Below w.heap.size w w':=by
 refine (zh6 nm hnm l A n c now hnow fl B m d w hr hnc hwf hn hf hm).mono ?_;rintro r w' ⟨⟨h1,h2⟩,hb⟩;refine⟨⟨fun h=>⟨⟨zhD h,hwf⟩,?_⟩,h2⟩,hb⟩;obtain⟨t,rfl,ha⟩:=h1 h;obtain⟨F,ho⟩:=ha.on;exact⟨t,F,rfl,⟨⟨_,hlo,ho⟩,zbf.new h⟩,fun j hj=>(ho.ge j hj).1⟩
theorem znG(p:zb_ nm l)(h:Tio nm l fl lo W t X F c)(hc:c≤1000000)(k:Nat)(hk:k<l.length)(rs:List zae)(A:Option Addr)(n d:Nat)(hr:Rd W 7 A n (za1 rs))(hrw:∀ r∈rs,r.wf)(hn:n≤1000000):
  Calls prog 55 #[.pointer (some ⟨t,0,none⟩),.int .i64 k,.slice A n d] W fun r w'=>r=.returned (.int .i64 (zfu X k rs:Nat))∧Tio nm l fl lo w' t (zea X k rs) F (c+rs.length)∧Fr F W w':=by
 obtain⟨base,hb,ho⟩:=h.on;refine (zlc t base X F k rs A n d W ho (by rw[h.good.tiers];exact hk) (h.five p) (h.short (Nat.le_trans hc (by omega))) (by omega) h.good.now (h.wf p) hr hrw).mono ?_;rintro r w' ⟨rfl,h1,h2⟩;exact⟨rfl,⟨⟨base,hb,h1⟩,h.good.load k rs⟩,h2.mono (fun _ h=>.inl h.1)⟩
end
end Go.Proofs.YtjhhodndlkpmhaaGreatDoor
