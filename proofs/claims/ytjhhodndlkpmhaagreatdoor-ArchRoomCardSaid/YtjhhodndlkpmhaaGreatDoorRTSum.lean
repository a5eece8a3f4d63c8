/- Walks of sedimentref1.Hash and Shard. -/
import Derived.Test.YtjhhodndlkpmhaaGreatDoorRefMerge
import Derived.Test.YtjhhodndlkpmhaaGreatDoorCatK
import Derived.Test.YtjhhodndlkpmhaaGreatDoorTioR
namespace Go.Proofs.YtjhhodndlkpmhaaGreatDoor
set_option linter.all false
open Go.RowKit
def zr4(X:zaa):Prop:=∀ (k:Nat) (r:zae),r∈X.tabs.getD k []→zar X.now X.tiers X.floors k≤r.start
theorem zld{X:zaa}{s:zas}{k:Nat}{m:List zae}(hg:za6 m)(h:∀ r∈m,zar X.now X.tiers X.floors k≤r.start):za6 (zcd X s k m)∧∀ r∈zcd X s k m,zar X.now X.tiers X.floors k≤r.start:=by
 unfold zcd
 split
 ·rename_i x hx
  split
  ·rename_i hs
   refine⟨zdf hg _,zj1 hg h ?_⟩;have hk:k<X.tiers.length:=(List.getElem?_eq_some_iff.1 hx).1;unfold zbW at hs ⊢
   split at hs
   ·rename_i hc
    rw[if_pos hc];simp only[Int.toNat_natCast,hx,decide_eq_true_eq,zcD hk] at hs ⊢;exact hs
   ·cases hs
  ·exact⟨hg,h⟩
 ·exact⟨hg,h⟩
theorem zlY{X:zaa}{s:zas}{tabs:List (List zae)}(hg:∀ k,za6 (tabs.getD k []))(h:∀ (k:Nat) (r:zae),r∈tabs.getD k []→zar X.now X.tiers X.floors k≤r.start):(∀ k,za6 ((ze1 X tabs s).getD k []))∧∀ (k:Nat) (r:zae),r∈(ze1 X tabs s).getD k []→zar X.now X.tiers X.floors k≤r.start:=by
 have hk:∀ k,(ze1 X tabs s).getD k []=if k<X.tiers.length then zcd X s k (tabs.getD k []) else[]:=fun k=>by
  unfold ze1;rw[List.getD_eq_getElem?_getD,List.getElem?_map]
  by_cases hk:k<X.tiers.length
  ·rw[List.getElem?_range hk,if_pos hk];rfl
  ·rw[List.getElem?_eq_none (by simpa using hk),if_neg hk];rfl
 refine⟨fun k=>?_,fun k r hr=>?_⟩
 ·rw[hk k]
  split
  ·exact (zld (hg k) (h k)).1
  ·exact zbF
 ·rw[hk k] at hr
  split at hr
  ·exact (zld (hg k) (h k)).2 r hr
  ·cases hr
theorem zj_{X:zaa}:∀ {s:List zas} {tabs:List (List zae)},(∀ k,za6 (tabs.getD k []))→(∀ (k:Nat) (r:zae),r∈tabs.getD k []→zar X.now X.tiers X.floors k≤r.start)→∀ (k:Nat) (r:zae),r∈(zcp X tabs s).getD k []→zar X.now X.tiers X.floors k≤r.start
 | [],_,_,h=>h
 | a::s,tabs,hg,h=>zj_ (s:=s) (tabs:=ze1 X tabs a) (zlY hg h).1 (zlY hg h).2
section
variable {nm:ByteArray} {l:List za_} {fl:List Int} {X:zaa} {c:Nat}
theorem zr4.put(h:zr4 X)(hg:zbf nm l fl X c)(s:List zas):zr4 (za4 X s):=by
 unfold za4
 split
 ·exact zj_ hg.good h
 ·exact h
end
end Go.Proofs.YtjhhodndlkpmhaaGreatDoor
