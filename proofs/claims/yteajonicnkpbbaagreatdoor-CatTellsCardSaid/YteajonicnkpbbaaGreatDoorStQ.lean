/- Walks of state: Change, Step. -/
import Derived.Test.YteajonicnkpbbaaGreatDoorStB
namespace Go.Proofs.YteajonicnkpbbaaGreatDoor
set_option linter.all false
open Go.RowKit Tryz
section
variable {W:World} {g lo:Nat} {Q:StX} {c t:Nat} {Ft Fs F:Nat→Prop} {v:Value}
theorem zhQ.same(h:zhQ W g lo Q c t Ft Fs v){w':World}(f:Fr (fun _=>False) W w'):StR W g lo Q c (stF g Ft Fs) w':=
 ⟨⟨_,⟨t,Ft,Fs,v,h.fr0 f,rfl⟩,fun j hj=>.inl hj⟩,f.mono q4_⟩
end
def StP(W:World)(g lo:Nat)(Q:StX)(c:Nat):Prop:=∃ F,zfH W g lo Q c F
section
variable {W W':World} {g lo:Nat} {Q:StX} {c:Nat} {F:Nat→Prop}
theorem StP.fr0(h:StP W g lo Q c)(f:Fr (fun _=>False) W W'):StP W' g lo Q c:=by
 obtain⟨F,h⟩:=h;exact⟨F,h.fr0 f⟩
theorem StP.more(h:StP W g lo Q c){d:Nat}(hd:c≤d):StP W g lo Q d:=by
 obtain⟨F,h⟩:=h;exact⟨F,h.more hd⟩
theorem StP.lt(h:StP W g lo Q c):lo≤g∧g<W.heap.size:=by
 obtain⟨F,t,Ft,Fs,v,hi,_⟩:=h;exact⟨hi.glo,hi.blk.lt⟩
theorem StR.p(h:StR W g lo Q c F W')(hge:∀ j,F j→lo≤j)(hlo:lo≤W.heap.size):StP W' g lo Q c∧Below lo W W':=by
 obtain⟨⟨F',h1,_⟩,h2⟩:=h;exact⟨⟨F',h1⟩,h2.below_of hlo hge⟩
theorem zpT(room:Int)(text:ByteArray)(hs:text.size≤1099511627776)(w:World)(hmx:MaxL w)(lo:Nat)(hlo:lo≤w.heap.size):
  Calls prog 22 #[.int .i64 room,.string text] w fun r w'=>((zdh room (zaT text)=0→∃ g,r=.returned (.tuple #[.pointer (some ⟨g,0,none⟩),.int .i64 0])∧StP w' g lo (ziC room (zaT text)) 0)∧(zdh room (zaT text)≠0→r=.returned (.tuple #[.pointer none,.int .i64 (zdh room (zaT text))])))∧Below w.heap.size w w':=by
 refine (zmi room text hs w hmx lo hlo).mono ?_;rintro r w' ⟨⟨h1,h2⟩,hb⟩;refine⟨⟨fun h=>?_,h2⟩,hb⟩;obtain⟨g,F,hr,ho,_⟩:=h1 h;exact⟨g,hr,F,ho⟩
end
def zqf:ByteArray:={data:=#[112,111,108,105,99,121,32,119,101,98,10,116,105,101,114,32,114,97,119,32,101,118,101,114,121,32,49,32,107,101,101,112,32,49,48,48,32,115,104,97,114,100,115,32,50,10,116,105,101,114,32,116,101,110,115,32,101,118,101,114,121,32,49,48,32,107,101,101,112,32,49,48,48,48,32,115,104,97,114,100,115,32,49,10]}
theorem zl3:(zaT zqf).1=0:=by decide+kernel
section
variable {W W':World} {g lo:Nat} {Q:StX} {c:Nat}
end
def zo6(W:World)(g lo:Nat)(Q:StX)(c s base:Nat)(S:ShX):Prop:=∃ F F',zfH W g lo Q c F∧zhR W s base S F'∧∀ j,F' j→¬ F j
section
variable {W W':World} {g lo:Nat} {Q:StX} {c s base:Nat} {S:ShX}
theorem zo6.p(h:zo6 W g lo Q c s base S):StP W g lo Q c:=by
 obtain⟨F,F',h1,_,_⟩:=h;exact⟨F,h1⟩
theorem zo6.sh(h:zo6 W g lo Q c s base S):zip W s base S:=by
 obtain⟨F,F',_,h2,_⟩:=h;exact h2.at_
theorem zo6.fr0(h:zo6 W g lo Q c s base S)(f:Fr (fun _=>False) W W'):zo6 W' g lo Q c s base S:=by
 obtain⟨F,F',h1,h2,h3⟩:=h;exact⟨F,F',h1.fr0 f,h2.fr0 f,h3⟩
theorem zlg(hg:zaH Q c)(h:StP W g lo Q c):
  Calls prog 30 #[.pointer (some ⟨g,0,none⟩)] W fun r w'=>((Q.ch=none→r=.returned (.pointer none))∧(∀ S,Q.ch=some S→∃ s base,r=.returned (.pointer (some ⟨s,0,none⟩))∧zo6 w' g lo Q c s base S))∧Below W.heap.size W w':=by
 obtain⟨F,h⟩:=h;refine (ziA hg h 0 (by omega)).mono ?_;rintro r w' ⟨⟨v,F',rfl,h1,h2⟩,hb⟩;refine⟨⟨fun he=>?_,fun S he=>?_⟩,hb⟩
 ·rw[he] at h1
  obtain⟨rfl,_⟩:=h1
  rfl
 ·rw[he] at h1
  obtain⟨s,base,_,rfl,h3⟩:=h1;exact⟨s,base,rfl,F,F',h.fr0 (Fr.b0 hb),h3,fun j hj hF=>by have:=h2 j hj;have:=(h.ge j hF).2;omega⟩
end
def znT(W:World)(g lo:Nat)(Q:StX)(c t:Nat)(Y:zae)(d:Nat):Prop:=∃ F F',zfH W g lo Q c F∧Tio Y.name Y.tiers Y.floors lo W t Y F' d∧∀ j,F' j→¬ F j
section
variable {W W':World} {g lo:Nat} {Q:StX} {c t d:Nat} {Y:zae}
theorem znT.p(h:znT W g lo Q c t Y d):StP W g lo Q c:=by
 obtain⟨F,F',h1,_,_⟩:=h;exact⟨F,h1⟩
theorem znT.ti(h:znT W g lo Q c t Y d):∃ F,Tio Y.name Y.tiers Y.floors lo W t Y F d:=by
 obtain⟨F,F',_,h2,_⟩:=h;exact⟨F',h2⟩
theorem znT.fr0(h:znT W g lo Q c t Y d)(f:Fr (fun _=>False) W W'):znT W' g lo Q c t Y d:=by
 obtain⟨F,F',h1,h2,h3⟩:=h;exact⟨F,F',h1.fr0 f,h2.fr0 f,h3⟩
theorem zmq(hg:zaH Q c)(h:StP W g lo Q c):
  Calls prog 29 #[.pointer (some ⟨g,0,none⟩)] W fun r w'=>(∃ t,r=.returned (.pointer (some ⟨t,0,none⟩))∧znT w' g lo Q c t Q.X c)∧Below W.heap.size W w':=by
 have hlt:=h.lt;obtain⟨F,h⟩:=h;refine (zjz hg h lo (by omega)).mono ?_;rintro r w' ⟨⟨t,F',rfl,h1,h2⟩,hb⟩;exact⟨⟨t,rfl,F,F',h.fr0 (Fr.b0 hb),h1,fun j hj hF=>by have:=h2 j hj;have:=(h.ge j hF).2;omega⟩,hb⟩
theorem znT.reach(h:znT W g lo Q c t Y d):∃ tA tc tB td,ze8 W t Y.now Y.name Y.tiers Y.floors tA tc tB td:=by
 obtain⟨F,h⟩:=h.ti;exact h.reach
end
end Go.Proofs.YteajonicnkpbbaaGreatDoor
