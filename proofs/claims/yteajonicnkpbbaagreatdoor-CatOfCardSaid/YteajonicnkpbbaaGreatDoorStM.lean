/- The law's first call: what its answers come to. -/
import Derived.Test.YteajonicnkpbbaaGreatDoorStQ
namespace Go.Proofs.YteajonicnkpbbaaGreatDoor
set_option linter.all false
open Go.RowKit Tryz
def zrD:ByteArray:={data:=#[112,111,108,105,99,121,32,119,101,98,10,116,105,101,114,32,114,97,119,32,101,118,101,114,121,32,49,32,107,101,101,112,32,49,48,48,32,115,104,97,114,100,115,32,50,10,116,105,101,114,32,116,101,110,115,32,101,118,101,114,121,32,49,48,32,107,101,101,112,32,49,48,48,48,32,115,104,97,114,100,115,32,49,10]}
theorem znn:(zaL zrD).1=0:=by decide+kernel
theorem zhv{Q:StX}{c:Nat}(h:zax Q c):∀ (l:List OpS),c+8*l.length≤1000000→zax (zgm Q l) (c+8*l.length):=by
 intro l
 induction l generalizing Q c with
 | nil=>intro _;exact h
 | cons o l ih=>
  intro hc;rw[List.length_cons] at hc ⊢;have:=ih (h.op (by omega) o) (by omega);rw[show c+8*(l.length+1)=c+8+8*l.length by omega];exact this
section
variable {W W':World} {g lo:Nat} {Q:StX} {c:Nat}
end
def zrN(W:World)(g lo:Nat)(Q:StX)(c s base:Nat)(S:ShX):Prop:=∃ F F',zfK W g lo Q c F∧zcr W s base S F'∧∀ j,F' j→¬ F j
section
variable {W W':World} {g lo:Nat} {Q:StX} {c s base:Nat} {S:ShX}
theorem zrN.sh(h:zrN W g lo Q c s base S):zfk W s base S:=by
 obtain⟨F,F',_,h2,_⟩:=h;exact h2.at_
theorem zmx(hg:zax Q c)(h:StP W g lo Q c):
  Calls prog 30 #[.pointer (some ⟨g,0,none⟩)] W fun r w'=>((Q.ch=none→r=.returned (.pointer none))∧(∀ S,Q.ch=some S→∃ s base,r=.returned (.pointer (some ⟨s,0,none⟩))∧zrN w' g lo Q c s base S))∧Below W.heap.size W w':=by
 obtain⟨F,h⟩:=h;refine (zjg hg h 0 (by omega)).mono ?_;rintro r w' ⟨⟨v,F',rfl,h1,h2⟩,hb⟩;refine⟨⟨fun he=>?_,fun S he=>?_⟩,hb⟩
 ·rw[he] at h1
  obtain⟨rfl,_⟩:=h1
  rfl
 ·rw[he] at h1
  obtain⟨s,base,_,rfl,h3⟩:=h1;exact⟨s,base,rfl,F,F',h.fr0 (Fr.b0 hb),h3,fun j hj hF=>by have:=h2 j hj;have:=(h.ge j hF).2;omega⟩
end
def zrz(W:World)(g lo:Nat)(Q:StX)(c t:Nat)(Y:zac)(d:Nat):Prop:=∃ F F',zfK W g lo Q c F∧Tio Y.name Y.tiers Y.floors lo W t Y F' d∧∀ j,F' j→¬ F j
section
variable {W W':World} {g lo:Nat} {Q:StX} {c t d:Nat} {Y:zac}
theorem zrz.ti(h:zrz W g lo Q c t Y d):∃ F,Tio Y.name Y.tiers Y.floors lo W t Y F d:=by
 obtain⟨F,F',_,h2,_⟩:=h;exact⟨F',h2⟩
theorem znO(hg:zax Q c)(h:StP W g lo Q c):
  Calls prog 29 #[.pointer (some ⟨g,0,none⟩)] W fun r w'=>(∃ t,r=.returned (.pointer (some ⟨t,0,none⟩))∧zrz w' g lo Q c t Q.X c)∧Below W.heap.size W w':=by
 have hlt:=h.lt;obtain⟨F,h⟩:=h;refine (zkH hg h lo (by omega)).mono ?_;rintro r w' ⟨⟨t,F',rfl,h1,h2⟩,hb⟩;exact⟨⟨t,rfl,F,F',h.fr0 (Fr.b0 hb),h1,fun j hj hF=>by have:=h2 j hj;have:=(h.ge j hF).2;omega⟩,hb⟩
theorem zrz.reach(h:zrz W g lo Q c t Y d):∃ tA tc tB td,zde W t Y.now Y.name Y.tiers Y.floors tA tc tB td:=by
 obtain⟨F,h⟩:=h.ti;exact h.reach
end
end Go.Proofs.YteajonicnkpbbaaGreatDoor
