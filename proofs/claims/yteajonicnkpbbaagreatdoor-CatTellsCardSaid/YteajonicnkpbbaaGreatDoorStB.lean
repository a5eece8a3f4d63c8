/- Walks of state: Need, Copy, Tick, New. -/
import Derived.Test.YteajonicnkpbbaaGreatDoorShNote
namespace Go.Proofs.YteajonicnkpbbaaGreatDoor
set_option linter.all false
set_option maxHeartbeats 4000000
set_option maxRecDepth 100000
open Go.RowKit Tryz
section
variable {W:World} {g lo:Nat} {Q:StX} {c t:Nat} {Ft Fs F:Nat→Prop} {v:Value}
theorem zaH.bound(hg:zaH Q c):0≤zdn Q.ch∧zdn Q.ch≤4096:=by
 have h1:=hg.need;have h2:=hg.room;refine⟨?_,by omega⟩
 cases hc:Q.ch with
 | none=>exact Int.le_refl _
 | some S=>exact (hg.ch S hc).b0
end
def zdh(room:Int)(R:Int×ByteArray×List zaa):Int:=if 0≤room∧room≤4096 then R.1 else 1
def ziC(room:Int)(R:Int×ByteArray×List zaa):StX:=⟨room,zjQ R.2.1 R.2.2 0 [],none⟩
def zqN(E:Int)(Q:StX)(lo:Nat)(w:World)(r:Ending)(w':World):Prop:=
 (E=0→∃ g F,r=.returned (.tuple #[.pointer (some ⟨g,0,none⟩),.int .i64 0])∧zfH w' g lo Q 0 F∧(∀ j,F j→w.heap.size≤j))∧(E≠0→r=.returned (.tuple #[.pointer none,.int .i64 E]))
theorem zle{room:Int}{text:ByteArray}(h:zdh room (zaT text)=0):zaH (ziC room (zaT text)) 0:=by
 unfold zdh at h
 split at h
 ·rename_i hr
  obtain⟨p,hn⟩:=zh0 text h;exact zaH.new p hn hr.1 hr.2
 ·exact absurd h (by decide)
theorem zmi(room:Int)(text:ByteArray)(hs:text.size≤1099511627776)(w:World)(hmx:MaxL w)(lo:Nat)(hlo:lo≤w.heap.size):
  Calls prog 22 #[.int .i64 room,.string text] w fun r w'=>zqN (zdh room (zaT text)) (ziC room (zaT text)) lo w r w'∧Below w.heap.size w w':=by
 have HR:=q0_ (zjA room w);have HP:=q0_ (zh1 text hs w hmx)
 by_cases hr:0≤room∧room≤4096
 ·have hb:(decide (0≤room)&&decide (room≤4096))=true:=by simp;exact hr
  rw[hb] at HR
  have hE:zdh room (zaT text)=(zaT text).1:=by unfold zdh;rw[if_pos hr]
  have hok:=zh0 text;rw[hE];unfold ziC
  obtain⟨⟨e,nm,l⟩,hV⟩:∃ v,zaT text=v:=⟨_,rfl⟩
  rw[hV] at HP hok ⊢;unfold zoW zkX at HP;dsimp only at HP ⊢;unfold zkW at hok;dsimp only at hok
  obtain⟨n,hn⟩:∃ n,l.length=n:=⟨_,rfl⟩
  rw[hn] at HP;have HN:=q0_ hn;clear hb hE hV hn hmx
  by_cases he:e=0
  ·subst he
   obtain⟨p,hnm⟩:=hok rfl;clear hok;go_enter func22,ntmps22;go_wp2_with fail;refine HR.out.mono ?_;rintro r w1 ⟨rfl,rfl⟩;go_wp2_with fail;refine HP.out.mono ?_;rintro r w1 ⟨⟨kk,A,c,rfl,hnc,hrd,had⟩,b1⟩;have F1:=q0_ (Fr.b0 b1);have X2:Hid (Blk (w1.alloc (.cells #[.string nm,.slice A n c] 25)) w1.heap.size 25 #[.string nm,.slice A n c]):=Blk.new _ _ _;have F2:Hid (Fr (fun _=>False) w1 (w1.alloc (.cells #[.string nm,.slice A n c] 25))):=Fr.none_alloc _ _;have x0:=X2.out.cell 0;have x1:=X2.out.cell 1;simp only[q1_,q2_,q3_] at x0 x1;have F12:=q0_ (F1.out.trans F2.out q4_);have HNw:=q0_ (zo9 hnm p.wf A n c 0 (by omega) lo (w1.alloc (.cells #[.string nm,.slice A n c] 25)) (Nat.le_trans hlo F12.out.size) (hrd.fr0 F2.out) hnc (by have:=p.five;have:=HN.out;omega));rw[zmQ p] at HNw;clear b1 hrd had;go_wp2_with fail;refine HNw.out.mono ?_;rintro r w3 ⟨⟨h3,_⟩,b3⟩;obtain⟨_,t,Ft,rfl,ht,hFt⟩:=h3 (by trivial);have F3:=q0_ (F12.out.trans (Fr.b0 b3) q4_);have HT:=q0_ ht;have HFt:=q0_ (fun j hj=>Nat.le_trans F12.out.size (hFt j hj));clear b3 ht hFt h3 x0 x1;go_wp2
   go_ret2
   refine⟨⟨fun _=>⟨w3.heap.size,stF w3.heap.size Ft (fun _=>False),rfl,⟨t,Ft,fun _=>False,.pointer none,⟨Blk.new _ _ _,Nat.le_trans hlo F3.out.size,HT.out.fr0 (Fr.none_alloc _ _),⟨rfl,rfl⟩,fun _ _ h=>h⟩,rfl⟩,fun j hj=>?_⟩,fun h=>absurd rfl h⟩,(F3.out.trans (Fr.none_alloc _ _) q4_).below q4_⟩
   rcases hj with hj | hj | hj
   ·have:=F3.out.size;omega
   ·exact HFt.out j hj
   ·exact hj.elim
  ·have he1:(e != 0)=true:=by simpa using he
   clear hok;go_enter func22,ntmps22;go_wp2_with fail;refine HR.out.mono ?_;rintro r w1 ⟨rfl,rfl⟩;go_wp2_with fail;refine HP.out.mono ?_;rintro r w1 ⟨⟨kk,A,c,rfl,hnc,hrd,had⟩,b1⟩;have F1:=q0_ (Fr.b0 b1);clear b1 hrd had;go_wp2
   go_ret2
   exact⟨⟨fun h=>absurd h he,fun _=>rfl⟩,(F1.out.trans (Fr.none_alloc _ _) q4_).below q4_⟩
 ·have hb:(decide (0≤room)&&decide (room≤4096))=false:=by
   cases h:(decide (0≤room)&&decide (room≤4096))
   ·rfl
   ·simp at h;exact absurd h hr
  rw[hb] at HR
  have hE:zdh room (zaT text)=1:=by unfold zdh;rw[if_neg hr]
  rw[hE];clear hb hE;go_enter func22,ntmps22;go_wp2_with fail;refine HR.out.mono ?_;rintro r w1 ⟨rfl,rfl⟩;go_wp2
  go_ret2
  exact⟨⟨fun h=>absurd h (by decide),fun _=>rfl⟩,Below.refl _ _⟩
section
variable {W:World} {g lo:Nat} {Q:StX} {c t:Nat} {Ft Fs F:Nat→Prop} {v:Value}
def StR(w:World)(g lo:Nat)(Q:StX)(c:Nat)(F:Nat→Prop)(w':World):Prop:=(∃ F',zfH w' g lo Q c F'∧zqM w F F')∧Fr F w w'
end
end Go.Proofs.YteajonicnkpbbaaGreatDoor
