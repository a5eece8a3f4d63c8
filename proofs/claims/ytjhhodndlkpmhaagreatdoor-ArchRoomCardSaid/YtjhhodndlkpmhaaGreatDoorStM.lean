/- StateRoom's plain law: a change comes to its end in as many steps as its plan says. -/
import Derived.Test.YtjhhodndlkpmhaaGreatDoorStQ
import Derived.Test.YtjhhodndlkpmhaaGreatDoorWeb8
namespace Go.Proofs.YtjhhodndlkpmhaaGreatDoor
set_option linter.all false
open Go.RowKit Tryz
theorem zmj(Q:StX)(s:List zas):(zbI Q s).room=Q.room:=by
 unfold zbI
 split<;>rfl
section
variable {W W':World} {g lo:Nat} {Q:StX} {c:Nat}
end
def zsA(W:World)(g lo:Nat)(Q:StX)(c s base:Nat)(S:ShX):Prop:=∃ F F',zf6 W g lo Q c F∧ze5 W s base S F'∧∀ j,F' j→¬ F j
section
variable {W W':World} {g lo:Nat} {Q:StX} {c s base:Nat} {S:ShX}
theorem zsA.sh(h:zsA W g lo Q c s base S):zj7 W s base S:=by
 obtain⟨F,F',_,h2,_⟩:=h;exact h2.at_
theorem zkl(hg:zbU Q c)(h:StP W g lo Q c):
  Calls prog 61 #[.pointer (some ⟨g,0,none⟩)] W fun r w'=>((Q.ch=none→r=.returned (.pointer none))∧(∀ S,Q.ch=some S→∃ s base,r=.returned (.pointer (some ⟨s,0,none⟩))∧zsA w' g lo Q c s base S))∧Below W.heap.size W w':=by
 obtain⟨F,h⟩:=h;refine (zid hg h 0 (by omega)).mono ?_;rintro r w' ⟨⟨v,F',rfl,h1,h2⟩,hb⟩;refine⟨⟨fun he=>?_,fun S he=>?_⟩,hb⟩
 ·rw[he] at h1
  obtain⟨rfl,_⟩:=h1
  rfl
 ·rw[he] at h1
  obtain⟨s,base,_,rfl,h3⟩:=h1;exact⟨s,base,rfl,F,F',h.fr0 (Fr.b0 hb),h3,fun j hj hF=>by have:=h2 j hj;have:=(h.ge j hF).2;omega⟩
end
def zso(W:World)(g lo:Nat)(Q:StX)(c t:Nat)(Y:zaa)(d:Nat):Prop:=∃ F F',zf6 W g lo Q c F∧Tio Y.name Y.tiers Y.floors lo W t Y F' d∧∀ j,F' j→¬ F j
section
variable {W W':World} {g lo:Nat} {Q:StX} {c t d:Nat} {Y:zaa}
theorem zso.ti(h:zso W g lo Q c t Y d):∃ F,Tio Y.name Y.tiers Y.floors lo W t Y F d:=by
 obtain⟨F,F',_,h2,_⟩:=h;exact⟨F',h2⟩
theorem zmk(hg:zbU Q c)(h:StP W g lo Q c):
  Calls prog 22 #[.pointer (some ⟨g,0,none⟩)] W fun r w'=>(∃ t,r=.returned (.pointer (some ⟨t,0,none⟩))∧zso w' g lo Q c t Q.X c)∧Below W.heap.size W w':=by
 have hlt:=h.lt;obtain⟨F,h⟩:=h;refine (zfK hg h lo (by omega)).mono ?_;rintro r w' ⟨⟨t,F',rfl,h1,h2⟩,hb⟩;exact⟨⟨t,rfl,F,F',h.fr0 (Fr.b0 hb),h1,fun j hj hF=>by have:=h2 j hj;have:=(h.ge j hF).2;omega⟩,hb⟩
theorem zso.reach(h:zso W g lo Q c t Y d):∃ tA tc tB td,zdx W t Y.now Y.name Y.tiers Y.floors tA tc tB td:=by
 obtain⟨F,h⟩:=h.ti;exact h.reach
end
end Go.Proofs.YtjhhodndlkpmhaaGreatDoor
