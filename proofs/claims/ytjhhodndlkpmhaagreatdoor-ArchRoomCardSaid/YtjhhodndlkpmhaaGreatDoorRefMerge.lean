/- Walks of sedimentref1: Packer (Word, Int, Name), Unpacker (take, Word, Int, Name), Name, Valid. -/
import Derived.Test.YtjhhodndlkpmhaaGreatDoorRefGrid
import Derived.Test.YtjhhodndlkpmhaaGreatDoorGoodX
import Derived.Deep.CutBlock
namespace Go.Proofs.YtjhhodndlkpmhaaGreatDoor
set_option linter.all false
open Go.RowKit
def zbA{α:Type}(n:Nat)(f g:Nat→α)(i:Nat):List α:=(List.range n).map fun k=>if k<i then f k else g k
section
variable {α:Type} {n i:Nat} {f g:Nat→α}
theorem znw:(zbA n f g i).length=n:=by unfold zbA;simp
theorem ze8:zbA n f g 0=(List.range n).map g:=by unfold zbA;simp
theorem zgc:zbA n f g n=(List.range n).map f:=by
 unfold zbA;refine List.map_congr_left fun k hk=>?_;rw[if_pos (List.mem_range.1 hk)]
theorem zgb(h:i<n):(zbA n f g i)[i]? =some (g i):=by
 unfold zbA;rw[List.getElem?_map,List.getElem?_range h];simp
theorem zga(h:i<n):(zbA n f g i).set i (f i)=zbA n f g (i+1):=by
 apply List.ext_getElem?
 intro j
 by_cases e:i=j
 ·subst e
  rw[List.getElem?_set_self (by rw[znw];exact h)];unfold zbA;rw[List.getElem?_map,List.getElem?_range h];simp
 ·rw[List.getElem?_set_ne e]
  unfold zbA;rw[List.getElem?_map,List.getElem?_map]
  by_cases hj:j<n
  ·rw[List.getElem?_range hj]
   simp only[Option.map_some]
   by_cases h1:j<i
   ·rw[if_pos h1,if_pos (by omega)]
   ·rw[if_neg h1,if_neg (by omega)]
  ·rw[List.getElem?_eq_none (by simpa using hj)]
   rfl
end
theorem zix{tabs:List (List zae)}{n:Nat}(h:tabs.length=n):(List.range n).map (fun k=>tabs.getD k [])=tabs:=by
 apply List.ext_getElem?
 intro j;rw[List.getElem?_map]
 by_cases hj:j<n
 ·rw[List.getElem?_range hj,q6_ (by omega)]
  simp[List.getD_eq_getElem?_getD,q6_ (show j<tabs.length by omega)]
 ·rw[List.getElem?_eq_none (by simpa using hj),List.getElem?_eq_none (by omega)]
  rfl
section
variable {W W':World} {p lo:Nat} {F F' G:Nat→Prop} {every:Int} {l:List zae}
end
section
variable {W W':World} {g lo:Nat} {F G:Nat→Prop} {X:zaa} {A B T:Option Addr} {c d ct:Nat} {P:List Nat}
end
end Go.Proofs.YtjhhodndlkpmhaaGreatDoor
