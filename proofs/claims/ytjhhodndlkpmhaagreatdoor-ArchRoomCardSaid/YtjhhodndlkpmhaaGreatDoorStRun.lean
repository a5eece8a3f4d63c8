/- Steps of a state one behind the other; likeness of states: plain laws. -/
import Derived.Test.YtjhhodndlkpmhaaGreatDoorSt
namespace Go.Proofs.YtjhhodndlkpmhaaGreatDoor
set_option linter.all false
open Go.RowKit
theorem zo3{nm:ByteArray}{l:List za_}(h:zak nm l=true):zb_ nm l∧nm.size≤maxLen:=by
 refine⟨⟨h,fun t ht=>?_⟩,?_⟩
 ·have hm:=zaN h ht
  obtain⟨i,hi⟩:=List.getElem?_of_mem ht;have hf:=zdb h hi
  have hn:zaD t.name=true:=by
   cases hv:zaD t.name
   ·unfold zdR za_.ok at hf
    simp[hv] at hf
   ·rfl
  have:=zdE hn;unfold za_.wf i64 maxLen;omega
 ·have hn:zaD nm=true:=by
   cases hv:zaD nm
   ·unfold zak at h
    simp[hv] at h
   ·rfl
  have:=zdE hn;unfold maxLen;omega
theorem zkv(text:ByteArray):zpw (zaY text):=by
 unfold zpw zaY;obtain⟨e,a,nm,l⟩:=zbS text;simp only
 by_cases he:e=0
 ·rw[if_pos he]
  by_cases hc:zak nm l=true
  ·rw[if_pos hc]
   intro _;exact zo3 hc
  ·rw[if_neg hc]
   intro h;exact absurd h (by decide)
 ·rw[if_neg he]
  intro h;exact absurd h he
end Go.Proofs.YtjhhodndlkpmhaaGreatDoor
