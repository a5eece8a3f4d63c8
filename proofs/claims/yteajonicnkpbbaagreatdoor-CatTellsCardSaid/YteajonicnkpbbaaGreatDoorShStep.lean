/- Walk of shadow: Step that fills. -/
import Derived.Test.YteajonicnkpbbaaGreatDoorShNext
namespace Go.Proofs.YteajonicnkpbbaaGreatDoor
set_option linter.all false
open Go.RowKit
theorem zeL.setDone{w:World}{t base:Nat}{X:ShX}{A B T:Option Addr}{c d ct:Nat}{tb:List (Nat×Nat)}(h:zeL w t base X A c B d T ct tb)(v:Int):zeL (w.setCell ⟨t,4,none⟩ (.int .i64 v)) t base {X with done:=v} A c B d T ct tb:=by
 have f:Fr (fun j=>j=t) w (w.setCell ⟨t,4,none⟩ (.int .i64 v)):=(Fr.refl (fun j=>j=t) w).setCell (p:=⟨t,4,none⟩) (.inl rfl) _;have hoff:∀ {e:TypeId} {size n base':Nat} {v:Value} {xs:List Value},w.ownsRow base' e size v n xs→e≠93→∀ j,zag v j→¬ j=t:=fun ho hne j hj e=>zac ho h.blk hne (by rw[← e];exact hj);refine⟨by simpa using h.blk.set_ 4 (.int .i64 v),zad h.tiers f (hoff h.tiers (by decide)),zad h.srcs f (hoff h.srcs (by decide)),zad h.row f (hoff h.row (by decide)),h.tlen,fun i p x l h1 h2 h3=>?_,h.nodup,h.ge,h.tge⟩;have hT:=h.tab i p x l h1 h2 h3;refine hT.fr f (zc6 hT.blk h.blk (by decide)) (fun e=>?_);obtain⟨es,ck,hbm⟩:=hT.own.isMap;have hb0:w.heap[t]? =some (Obj.cells _ _ (0,0)):=h.blk;rw[← e,hbm] at hb0
 cases hb0
end Go.Proofs.YteajonicnkpbbaaGreatDoor
