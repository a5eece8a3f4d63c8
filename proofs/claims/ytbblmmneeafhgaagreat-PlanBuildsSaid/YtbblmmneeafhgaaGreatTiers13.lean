/- The real tiers and the document's, side by side: their blocks have unlike types. -/
import Derived.Test.YtbblmmneeafhgaaGreatRTNew
import Derived.Test.YtbblmmneeafhgaaGreatRTLoad
import Derived.Test.YtbblmmneeafhgaaGreatGoodLoad
import Derived.Test.YtbblmmneeafhgaaGreatTioA
import Derived.Test.YtbblmmneeafhgaaGreatTk
namespace Go.Proofs.YtbblmmneeafhgaaGreat
set_option linter.all false
open Go.RowKit

def rTy (ty : TypeId) : Prop := ty = 113 ∨ ty = 116 ∨ ty = 114 ∨ ty = 100
def RKind (W : World) (F : Nat → Prop) : Prop := ∀ j, F j → ∃ cs fz ty, W.heap[j]? = some (.cells cs ty fz) ∧ rTy ty
section
variable {W W' w w' : World} {g lo : Nat} {F G : Nat → Prop} {X Y : TiersX} {A B T : Option Addr} {c d ct : Nat} {P : List Nat} {nm : ByteArray} {l : List TierV} {fl : List Int} {t : Nat} {base cc : Nat}
theorem RKind.fr0 (h : RKind W F) (f : Fr (fun _ => False) W W') : RKind W' F := fun j hj => by
 obtain ⟨cs, fz, ty, h1, h2⟩ := h j hj
 have hlt : j < W.heap.size := (Array.getElem?_eq_some_iff.1 h1).1
 exact ⟨cs, fz, ty, by rw [f.block j hlt (fun h => h)]; exact h1, h2⟩
theorem RTiersOn.exact (h : RTiersOn W g lo F X A c B d T ct P) : ∃ F0, RTiersOn W g lo F0 X A c B d T ct P ∧ (∀ j, F0 j → F j) ∧ RKind W F0 := by
 refine ⟨fun j => F j ∧ ∃ cs fz ty, W.heap[j]? = some (.cells cs ty fz) ∧ rTy ty, ⟨h.blk, h.row, h.tlen, fun i p x l h1 h2 h3 => ?_, h.inj, ⟨h.fg, _, _, _, h.blk, .inl rfl⟩, fun p hp => ⟨h.fp p hp, ?_⟩, fun j hj => ⟨h.ft j hj, ?_⟩, fun j hj => h.ge j hj.1, h.rt, h.rf⟩, fun j hj => hj.1, fun j hj => hj.2⟩
 ·obtain ⟨⟨A1, c1, b1, o1, f1⟩, h4, h5, h6⟩ := h.tab i p x l h1 h2 h3
  exact ⟨⟨A1, c1, b1, o1, fun j hj => ⟨f1 j hj, by
   obtain ⟨cs, fz, e⟩ := own_ty o1 hj
   exact ⟨cs, fz, _, e, .inr (.inr (.inr rfl))⟩⟩⟩, h4, h5, h6⟩
 ·obtain ⟨i, hi⟩ := List.getElem?_of_mem hp
  have hil : i < X.tiers.length := by have := (List.getElem?_eq_some_iff.1 hi).1; rw [h.len] at this; exact this
  obtain ⟨p', x, l, e1, e2, e3⟩ := h.at_ hil
  rw [hi] at e1
  cases e1
  obtain ⟨⟨A1, c1, b1, _, _⟩, _⟩ := h.tab i p x l hi e2 e3
  exact ⟨_, _, _, b1, .inr (.inl rfl)⟩
 ·obtain ⟨cs, fz, e⟩ := own_ty h.row hj
  exact ⟨cs, fz, _, e, .inr (.inr (.inl rfl))⟩
theorem TiersOn.frR {t : Nat} (h : TiersOn w t base X F) (hf : Fr G w w') (hG : RKind w G) : TiersOn w' t base X F := by
 obtain ⟨A, c, B, d, T, ct, tb, hi, rfl⟩ := h
 have hrow : ∀ {e : TypeId} {size n base' : Nat} {v : Value} {xs : List Value}, w.ownsRow base' e size v n xs → ¬ rTy e → ∀ j, rowF v j → ¬ G j := fun ho hne j hj hg => by
  obtain ⟨cs', fz', hc⟩ := own_ty ho hj
  obtain ⟨cs, fz, ty, hb, hty⟩ := hG j hg
  rw [hb] at hc
  injection hc with hc
  injection hc with _ hc _
  exact hne (hc ▸ hty)
 have hblk : ∀ {g' : Nat} {ty : TypeId} {cs : Array Value}, Blk w g' ty cs → ¬ rTy ty → ¬ G g' := fun {g' ty cs} hB hne hg => by
  have hb0 : w.heap[g']? = some (Obj.cells cs ty (0, 0)) := hB
  obtain ⟨cs, fz, ty', hb, hty⟩ := hG g' hg
  rw [hb] at hb0
  injection hb0 with hc
  injection hc with _ hc _
  exact hne (hc ▸ hty)
 have hmap : ∀ j, tM tb j → ¬ G j := fun j hj hg => by
  obtain ⟨_, _, es, ck, hbm⟩ := hi.map_ hj
  obtain ⟨cs, fz, ty, hb, _⟩ := hG j hg
  rw [hb] at hbm
  cases hbm
 refine ⟨A, c, B, d, T, ct, tb, ⟨hi.blk.fr hf (hblk hi.blk (by unfold rTy; decide)), own_fr hi.tiers hf (hrow hi.tiers (by unfold rTy; decide)), own_fr hi.floors hf (hrow hi.floors (by unfold rTy; decide)), own_fr hi.row hf (hrow hi.row (by unfold rTy; decide)), hi.tlen, fun i p x l h1 h2 h3 => ?_, hi.nodup, hi.ge, hi.tge⟩, rfl⟩
 have hT := hi.tab i p x l h1 h2 h3
 exact hT.fr hf (hblk hT.blk (by unfold rTy; decide)) (hmap p.2 ⟨p, List.mem_of_getElem? h1, rfl⟩)
theorem TiersOn.offR {t : Nat} (h : TiersOn w t base X F) (hG : RKind w G) : ∀ j, G j → ¬ F j := fun j hg hj => by
 obtain ⟨cs, fz, ty, hb, hty⟩ := hG j hg
 rcases h.kind j hj with ⟨es, ck, hm⟩ | ⟨cs', fz', hm⟩
 ·rw [hm] at hb; cases hb
 ·rw [hm] at hb
  injection hb with hb
  injection hb with _ hb _
  subst hb
  exact absurd hty (by unfold rTy; decide)
structure Duo (nm : ByteArray) (l : List TierV) (fl : List Int) (lo : Nat) (W : World) (t g : Nat) (X Y : TiersX) (F : Nat → Prop) (cc : Nat) : Prop where
 tio : Tio nm l fl lo W t X F cc
 ref : ∃ F0 A c B d T ct P, RTiersOn W g lo F0 Y A c B d T ct P ∧ RKind W F0
 good : GoodX nm l fl Y cc
theorem Duo.fr0 (h : Duo nm l fl lo W t g X Y F cc) (f : Fr (fun _ => False) W W') : Duo nm l fl lo W' t g X Y F cc := by
 obtain ⟨h1, ⟨F0, A, c, B, d, T, ct, P, h2, h3⟩, h4⟩ := h
 exact ⟨h1.fr0 f, ⟨F0, A, c, B, d, T, ct, P, h2.fr0 f, h3.fr0 f⟩, h4⟩
theorem Duo.more {cc2 : Nat} (h : Duo nm l fl lo W t g X Y F cc) (hc : cc ≤ cc2) : Duo nm l fl lo W t g X Y F cc2 := ⟨h.tio.more hc, h.ref, h.good.more hc⟩
theorem Duo.lo_le (h : Duo nm l fl lo W t g X Y F cc) : lo ≤ W.heap.size := by
 obtain ⟨_, ⟨F0, A, c, B, d, T, ct, P, h2, _⟩, _⟩ := h
 exact h2.lo_le
theorem Tio.frR (h : Tio nm l fl lo W t X F cc) (hf : Fr G W W') (hG : RKind W G) : Tio nm l fl lo W' t X F cc := by
 obtain ⟨base, hb, ho⟩ := h.on
 exact ⟨⟨base, hb, ho.frR hf hG⟩, h.good⟩
theorem Tio.offR (h : Tio nm l fl lo W t X F cc) (hG : RKind W G) : ∀ j, G j → ¬ F j := by
 obtain ⟨base, hb, ho⟩ := h.on
 exact ho.offR hG
theorem Duo.real {X' : TiersX} {cc2 : Nat} (h : Duo nm l fl lo W t g X Y F cc) (h2 : Tio nm l fl lo W' t X' F cc2) (f : Fr F W W') (hc : cc ≤ cc2) : Duo nm l fl lo W' t g X' Y F cc2 ∧ Below lo W W' := by
 obtain ⟨h1, ⟨F0, A, c, B, d, T, ct, P, h3, h4⟩, h5⟩ := h
 have hoff := h1.offR h4
 refine ⟨⟨h2, ⟨F0, A, c, B, d, T, ct, P, h3.fr f (fun j hj => ⟨(h1.ge j hj).1, fun hj2 => hoff j hj2 hj⟩), fun j hj => ?_⟩, h5.more hc⟩, h1.below h3.lo_le f⟩
 obtain ⟨cs, fz, ty, e1, e2⟩ := h4 j hj
 exact ⟨cs, fz, ty, by rw [f.block j (Array.getElem?_eq_some_iff.1 e1).1 (hoff j hj)]; exact e1, e2⟩
theorem Duo.doc {Y' : TiersX} {cc2 : Nat} {F0 : Nat → Prop} (h : Duo nm l fl lo W t g X Y F cc) (h3 : RTiersOn W g lo F0 Y A c B d T ct P) (hk : RKind W F0) (h2 : RtAt W W' g lo F0 Y' A c B d T ct P) (hg : GoodX nm l fl Y' cc2) (hc : cc ≤ cc2) : Duo nm l fl lo W' t g X Y' F cc2 ∧ Below lo W W' := by
 obtain ⟨F1, h4, hm⟩ := h2
 obtain ⟨F2, h5, _, h6⟩ := h4.exact
 exact ⟨⟨(h.tio.frR hm.fr hk).more hc, ⟨F2, A, c, B, d, T, ct, P, h5, h6⟩, hg⟩, hm.fr.below_of h3.lo_le (fun j hj => (h3.ge j hj).1)⟩
theorem duo_putT (p : PolOk nm l) (h : Duo nm l fl lo W t g X Y F cc) (hc : cc ≤ 900000) (s : List SampV) (D : Option Addr) (n e : Nat) (hr : Rd W 3 D n (scells s)) (hsw : ∀ x ∈ s, x.wf) :
  Calls Tryz.prog 16 #[.pointer (some ⟨t, 0, none⟩), .slice D n e] W fun r w' => r = .returned (.int .i64 (putE X s)) ∧ Duo nm l fl lo w' t g (putX X s) Y F (cc + 8) ∧ Below lo W w' := by
 refine (tio_put p h.tio (by omega) s D n e hr hsw).mono ?_
 rintro r w' ⟨rfl, h1, h2⟩
 exact ⟨rfl, h.real h1 h2 (by omega)⟩
theorem duo_tickT (p : PolOk nm l) (h : Duo nm l fl lo W t g X Y F cc) (hc : cc ≤ 900000) (n : Int) (hn : i64 n) :
  Calls Tryz.prog 18 #[.pointer (some ⟨t, 0, none⟩), .int .i64 n] W fun r w' => r = .returned (.int .i64 (tickE X n)) ∧ Duo nm l fl lo w' t g (tickX X n) Y F cc ∧ Below lo W w' := by
 refine (tio_tick p h.tio (by omega) n hn).mono ?_
 rintro r w' ⟨rfl, h1, h2⟩
 exact ⟨rfl, h.real h1 h2 (Nat.le_refl _)⟩
theorem duo_loadT (p : PolOk nm l) (h : Duo nm l fl lo W t g X Y F cc) (hc : cc ≤ 800000) (i : Int) (rs : List RecV) (D : Option Addr) (n e : Nat) (hr : Rd W 7 D n (rcells rs)) (hrw : ∀ r ∈ rs, r.wf) (hn : n ≤ 100000) :
  Calls Tryz.prog 20 #[.pointer (some ⟨t, 0, none⟩), .int .i64 i, .slice D n e] W fun r w' => r = .returned (.int .i64 (loadM X i rs : Nat)) ∧ Duo nm l fl lo w' t g (loadI X i rs) Y F (cc + rs.length) ∧ Below lo W w' := by
 obtain ⟨base, hb, ho⟩ := h.tio.on
 unfold loadM loadI
 by_cases hi : 0 ≤ i ∧ i < (X.tiers.length : Int)
 ·rw [if_pos hi, if_pos hi]
  obtain ⟨k, rfl⟩ : ∃ k : Nat, i = k := ⟨i.toNat, by omega⟩
  have ek : ((k : Int)).toNat = k := by omega
  rw [ek]
  refine (tload_in t base X F k rs D n e W ho (by omega) (h.tio.five p) (h.tio.short (by omega)) (by omega) h.tio.good.now (h.tio.wf p) hr hrw).mono ?_
  rintro r w' ⟨rfl, h1, h2⟩
  exact ⟨rfl, h.real ⟨⟨base, hb, h1⟩, h.tio.good.load k rs⟩ (h2.mono (fun _ h => .inl h.1)) (by omega)⟩
 ·rw [if_neg hi, if_neg hi]
  refine (tload_out t base X i _ W ho.at_ (h.tio.pos p) hi).mono ?_
  rintro r w' ⟨rfl, rfl⟩
  exact ⟨rfl, h.more (by omega), Below.refl _ _⟩
section
variable (p : PolOk nm l) (h : Duo nm l fl lo W t g X Y F cc)
include p h
theorem Duo.tiersY : Y.tiers.length ≤ 1000 ∧ 0 < Y.tiers.length ∧ (∀ x ∈ Y.tiers, x.wf) ∧ i64 Y.now := by
 have := p.five
 have h2 := p.pos
 have h3 := h.good.now
 rw [h.good.tiers]
 exact ⟨by omega, h2, p.wf, by unfold i64; omega⟩
theorem duo_putR (hc : cc ≤ 900000) (s : List SampV) (D : Option Addr) (n e : Nat) (hr : Rd W 3 D n (scells s)) (hsw : ∀ x ∈ s, x.wf) (hn : n ≤ 9223372036854775807) (hD : ∀ j, adF D n j → j < lo) :
  Calls Tryz.prog 17 #[.pointer (some ⟨g, 0, none⟩), .slice D n e] W fun r w' => r = .returned (.int .i64 (putE Y s)) ∧ Duo nm l fl lo w' t g X (putX Y s) F (cc + 8) ∧ Below lo W w' := by
 obtain ⟨F0, A, c, B, d, T, ct, P, h3, h4⟩ := h.ref
 obtain ⟨q1, q2, q3, q4⟩ := h.tiersY p
 refine (rtput_any g lo F0 Y A c B d T ct P s D n e W h3 q1 q4 q3 hr hsw hn (fun j hj hf => by have := hD j hj; have := (h3.ge j hf).1; omega) (fun y hy => by have := h.good.len y hy; omega)).mono ?_
 rintro r w' ⟨rfl, h2⟩
 exact ⟨rfl, h.doc h3 h4 h2 (h.good.put s) (by omega)⟩
theorem duo_tickR (hc : cc ≤ 900000) (n : Int) :
  Calls Tryz.prog 19 #[.pointer (some ⟨g, 0, none⟩), .int .i64 n] W fun r w' => r = .returned (.int .i64 (tickE Y n)) ∧ Duo nm l fl lo w' t g X (tickX Y n) F cc ∧ Below lo W w' := by
 obtain ⟨F0, A, c, B, d, T, ct, P, h3, h4⟩ := h.ref
 obtain ⟨q1, q2, q3, q4⟩ := h.tiersY p
 refine (rttick_any g lo F0 Y A c B d T ct P n W h3 q1 h.good.now q3 (fun y hy => by have := h.good.len y hy; omega)).mono ?_
 rintro r w' ⟨rfl, h2⟩
 exact ⟨rfl, h.doc h3 h4 h2 (h.good.tick n) (Nat.le_refl _)⟩
theorem duo_loadR (hc : cc ≤ 800000) (i : Int) (rs : List RecV) (D : Option Addr) (n e : Nat) (hr : Rd W 7 D n (rcells rs)) (hrw : ∀ r ∈ rs, r.wf) (hn : n ≤ 100000) (hD : ∀ j, adF D n j → j < lo) :
  Calls Tryz.prog 21 #[.pointer (some ⟨g, 0, none⟩), .int .i64 i, .slice D n e] W fun r w' => r = .returned (.int .i64 (loadM Y i rs : Nat)) ∧ Duo nm l fl lo w' t g X (loadI Y i rs) F (cc + rs.length) ∧ Below lo W w' := by
 obtain ⟨F0, A, c, B, d, T, ct, P, h3, h4⟩ := h.ref
 obtain ⟨q1, q2, q3, q4⟩ := h.tiersY p
 unfold loadM loadI
 by_cases hi : 0 ≤ i ∧ i < (Y.tiers.length : Int)
 ·rw [if_pos hi, if_pos hi]
  obtain ⟨k, rfl⟩ : ∃ k : Nat, i = k := ⟨i.toNat, by omega⟩
  have ek : ((k : Int)).toNat = k := by omega
  rw [ek]
  refine (rtload_in g lo F0 Y A c B d T ct P k rs D n e W h3 (by omega) q1 q4 q3 (fun y hy => by have := h.good.len y hy; omega) hr hrw hn (fun j hj hf => by have := hD j hj; have := (h3.ge j hf).1; omega)).mono ?_
  rintro r w' ⟨rfl, h2⟩
  exact ⟨rfl, h.doc h3 h4 h2 (h.good.load k rs) (by omega)⟩
 ·rw [if_neg hi, if_neg hi]
  refine (rtload_out g lo F0 Y A c B d T ct P i D n e W h3 hi (by omega)).mono ?_
  rintro r w' ⟨rfl, rfl⟩
  exact ⟨rfl, h.more (by omega), Below.refl _ _⟩
end
end
end Go.Proofs.YtbblmmneeafhgaaGreat
namespace Go.Proofs.YtbblmmneeafhgaaGreat
set_option linter.all false
open Go.RowKit

def T13 (nm : ByteArray) (l : List TierV) (fl : List Int) (lo : Nat) (Z : TiersX) (E : Int) (r : Ending) (w' : World) : Prop :=
 (E = 0 → PolOk nm l ∧ ∃ t g F, r = .returned (.tuple #[.pointer (some ⟨t, 0, none⟩), .pointer (some ⟨g, 0, none⟩)]) ∧ Duo nm l fl lo w' t g Z Z F 2000) ∧ (E ≠ 0 → r = .returned (.tuple #[.pointer none, .pointer none]))
set_option maxRecDepth 100000 in
set_option maxHeartbeats 8000000 in
theorem tiers13_any (nm : ByteArray) (hnm : nm.size ≤ maxLen) (l : List TierV) (A : Option Addr) (n c : Nat) (now : Int) (hnow : i64 now) (fl : List Int) (B : Option Addr) (m d : Nat) (ops : List OpC) (C : Option Addr) (ko e : Nat) (w : World) (hr : Rd w 4 A n (tcells l)) (hnc : n ≤ c) (hwf : ∀ t ∈ l, t.wf) (hn : n ≤ 1099511627776) (hf : Rd w 1 B m (ints fl)) (hm : m ≤ 1099511627776)
  (hs : Rd w 4 C ko (opcells ops)) (hok : ∀ o ∈ ops, o.ok w) (hl : ∀ o ∈ ops, o.sn ≤ 20 ∧ o.ln ≤ 20) (hko : ko ≤ 50) :
  Calls Tryz.prog 32 #[.agg #[.string nm, .slice A n c], .int .i64 now, .slice B m d, .slice C ko e] w fun r w' => T13 nm l fl w.heap.size (opsX (newX nm l now fl) ops) (newE nm l now fl) r w' ∧ Below w.heap.size w w' := by
 have HT : Hid (∀ W, Fr (fun _ => False) w W → Calls Tryz.prog 9 #[.agg #[.string nm, .slice A n c], .int .i64 now, .slice B m d] W fun r w' => ((newE nm l now fl = 0 → ∃ t, r = .returned (.tuple #[.pointer (some ⟨t, 0, none⟩), .int .i64 0]) ∧ TiersAt w' t W.heap.size (newX nm l now fl)) ∧ (newE nm l now fl ≠ 0 → r = .returned (.tuple #[.pointer none, .int .i64 (newE nm l now fl)]))) ∧ Below W.heap.size W w') := fun W f => tnew_any nm hnm l A n c now hnow fl B m d W (hr.fr0 f) hnc hwf hn (hf.fr0 f) hm
 have HR : Hid (∀ W, Fr (fun _ => False) w W → Calls Tryz.prog 10 #[.agg #[.string nm, .slice A n c], .int .i64 now, .slice B m d] W fun r w' => RtNew nm l now fl A c B d w.heap.size W (newE nm l now fl) r w' ∧ Below W.heap.size W w') := fun W f => rtnew_any nm hnm l A n c now fl B m d w.heap.size W f.size (hr.fr0 f) hwf hn (hf.fr0 f) hm (hr.adlt (by decide)) (hf.adlt (by decide))
 have Hs := Lib.hid hs
 have Hln := Lib.hid hs.ops_len
 have Hok := Lib.hid hok
 have Hl20 := Lib.hid hl
 have B0 := Lib.hid (Blk.new w 24 #[.string nm, .slice A n c])
 have F0 := Lib.hid (Fr.none_alloc w (.cells #[.string nm, .slice A n c] 24))
 have HNok : Hid (newE nm l now fl = 0 → PolOk nm l) := fun h => ⟨newE_check h, hwf⟩
 have HGn : Hid (newE nm l now fl = 0 → GoodX nm l fl (newX nm l now fl) 0) := fun h => GoodX.new h
 obtain ⟨E, hE⟩ : ∃ E, newE nm l now fl = E := ⟨_, rfl⟩
 rw [hE] at HT HR HNok HGn ⊢
 obtain ⟨X0, hX0⟩ : ∃ v, newX nm l now fl = v := ⟨_, rfl⟩
 have HX0 := Lib.hid hX0
 rw [hX0] at HT HGn ⊢
 clear hX0 hE hr hwf hs hok hl hf
 go_enter Tryz.func32, Tryz.ntmps32
 go_wp2_with fail
 refine (HT.out _ F0.out).mono ?_
 rintro r w2 ⟨⟨h1, h2⟩, b2⟩
 have F2 := Lib.hid (F0.out.trans (Fr.b0 b2) (fun _ h => h.elim))
 have B2 := B0.out.fr (Fr.b0 b2) (fun h => h)
 have d0 := B2.cell 0
 have d1 := B2.cell 1
 simp only [List.getElem?_toArray, List.getElem?_cons_succ, List.getElem?_cons_zero] at d0 d1
 have HR2 := Lib.hid (HR.out w2 F2.out)
 clear b2 HT HR B2
 by_cases hz : E = 0
 case neg =>
  obtain rfl := h2 hz
  have hz2 : (E == 0) = false := by simpa using hz
  have hz3 : (E != 0) = true := by simpa using hz
  clear h1 h2
  go_wp2_with fail
  refine HR2.out.mono ?_
  rintro r w3 ⟨hq, b3⟩
  obtain rfl := hq.2 hz
  have F3 := Lib.hid (F2.out.trans (Fr.b0 b3) (fun _ h => h.elim))
  clear hq b3
  go_wp2_with fail
  go_ret2
  exact ⟨⟨fun h => absurd h hz, fun _ => rfl⟩, F3.out.below (fun _ h => h.elim)⟩
 case pos =>
 subst hz
 obtain ⟨t, rfl, ha⟩ := h1 rfl
 have HA := Lib.hid ha
 have P := Lib.hid (HNok.out rfl)
 have G0 := Lib.hid (HGn.out rfl)
 clear h1 h2 ha HNok HGn
 go_wp2_with fail
 refine HR2.out.mono ?_
 rintro r w3 ⟨hq, b3⟩
 obtain ⟨g, F1, T1, ct1, P1, rfl, q1, q2⟩ := hq.1 rfl
 have F3 := Lib.hid (F2.out.trans (Fr.b0 b3) (fun _ h => h.elim))
 rw [HX0.out] at q1
 have hD3 : ∃ F, Duo nm l fl w.heap.size w3 t g X0 X0 F 0 := by
  obtain ⟨F, ho⟩ := HA.out.on
  obtain ⟨F2', q3, _, q4⟩ := q1.exact
  exact ⟨F, ⟨⟨_, F0.out.size, ho.fr0 (Fr.b0 b3)⟩, G0.out⟩, ⟨F2', _, _, _, _, _, _, _, q3, q4⟩, G0.out⟩
 obtain ⟨F, hD3⟩ := hD3
 have HD3 := Lib.hid hD3
 clear hq b3 q1 q2 hD3 HA d0 d1
 go_wp2_with fail
 go_loopw [14] (fun i wr => ∃ k : Nat, k ≤ ko ∧ i = .int .i64 k ∧ Duo nm l fl w.heap.size wr t g (opsX X0 (ops.take k)) (opsX X0 (ops.take k)) F (k * 40) ∧ Below w.heap.size w wr) (fun i _ => ko - (intOf i).toNat)
 case atStart => exact ⟨0, Nat.zero_le _, rfl, HD3.out, F3.out.below (fun _ h => h.elim)⟩
 case round =>
  obtain ⟨k, hk, rfl, hD, ho⟩ := hrel
  have HD := Lib.hid hD
  have Ho := Lib.hid ho
  clear hD ho
  by_cases hlt : k < ko
  ·have hkw : IntKind.i64.wrap ((k : Int) + 1) = (k : Int) + 1 := by simp [IntKind.wrap, IntKind.signed, IntKind.bits]; omega
   obtain ⟨ad, o, rfl, hy, a0, a1, a2, a3⟩ := (Hs.out.below Ho.out).op_ hlt
   have hOX := opsX_snoc (X := X0) hy
   obtain ⟨Z, hZ⟩ : ∃ Z, opsX X0 (ops.take k) = Z := ⟨_, rfl⟩
   rw [hZ] at HD hOX
   have HOX := Lib.hid hOX
   have HO := Lib.hid ((Hok.out o (mem_of_get hy)).below Ho.out)
   have h20 := Hl20.out o (mem_of_get hy)
   have Hsa : Hid (∀ j, adF o.sa o.sn j → j < w.heap.size) := (Hok.out o (mem_of_get hy)).s.adlt (by decide)
   have Hla : Hid (∀ j, adF o.la o.ln j → j < w.heap.size) := (Hok.out o (mem_of_get hy)).l.adlt (by decide)
   have HRs : Hid (∀ W, Below w.heap.size w W → Rd W 3 o.sa o.sn (scells o.sl)) := fun W b => ((Hok.out o (mem_of_get hy)).below b).s
   have HRl : Hid (∀ W, Below w.heap.size w W → Rd W 7 o.la o.ln (rcells o.ll)) := fun W b => ((Hok.out o (mem_of_get hy)).below b).l
   have HCk : Hid (∀ W, Below w.heap.size w W → W.cell? (ad.add (k * 4)) = some (.int .i64 o.kind) ∧ W.cell? ⟨(ad.add (k * 4)).block, (ad.add (k * 4)).off + 1, none⟩ = some (.int .i64 o.n) ∧ W.cell? ⟨(ad.add (k * 4)).block, (ad.add (k * 4)).off + 2, none⟩ = some (.slice o.sa o.sn o.sc) ∧ W.cell? ⟨(ad.add (k * 4)).block, (ad.add (k * 4)).off + 3, none⟩ = some (.slice o.la o.ln o.lc)) := fun W b => by
    obtain ⟨ad', o', e, ho', c0, c1, c2, c3⟩ := (Hs.out.below b).op_ hlt
    injection e with e
    subst e
    rw [hy] at ho'
    cases ho'
    exact ⟨c0, c1, c2, c3⟩
   have HX1 : Hid (o.kind = 1 → putX Z o.sl = opsX X0 (ops.take (k + 1))) := fun h => by rw [HOX.out]; unfold opX; rw [if_pos h]
   have HX2 : Hid (o.kind = 2 → tickX Z o.n = opsX X0 (ops.take (k + 1))) := fun h => by rw [HOX.out]; unfold opX; rw [if_neg (by omega), if_pos h]
   have HX3 : Hid (o.kind = 3 → loadI Z o.n o.ll = opsX X0 (ops.take (k + 1))) := fun h => by rw [HOX.out]; unfold opX; rw [if_neg (by omega), if_neg (by omega), if_pos h]
   have HX4 : Hid (o.kind ≠ 1 → o.kind ≠ 2 → o.kind ≠ 3 → Z = opsX X0 (ops.take (k + 1))) := fun h1 h2 h3 => by rw [HOX.out]; unfold opX; rw [if_neg h1, if_neg h2, if_neg h3]
   have Hsw := Lib.hid HO.out.swf
   have Hlw := Lib.hid HO.out.lwf
   have hnn := HO.out.n
   have hsl := HO.out.slen
   have hll := HO.out.llen
   clear hy HO hOX HOX
   obtain ⟨N, hN⟩ : ∃ N, opsX X0 (ops.take (k + 1)) = N := ⟨_, rfl⟩
   have HN := Lib.hid hN
   rw [hN] at HX1 HX2 HX3 HX4
   obtain ⟨kd, nn, sa, sn, sc, sl, la, ln, lc, ll⟩ := o
   simp only at a0 a1 a2 a3 h20 Hsa Hla HRs HRl HCk HX1 HX2 HX3 HX4 Hsw Hlw hnn hsl hll
   clear hN hZ
   have RELFIX : Hid (∀ W cc, cc ≤ (k + 1) * 40 → Duo nm l fl w.heap.size W t g N N F cc → Duo nm l fl w.heap.size W t g (opsX X0 (ops.take (k + 1))) (opsX X0 (ops.take (k + 1))) F ((k + 1) * 40)) := fun W cc hc h => by rw [HN.out]; exact h.more hc
   by_cases hk1 : kd = 1
   ·subst hk1
    have HP1 := Lib.hid (duo_putT P.out HD.out (by omega) sl sa sn sc (HRs.out wr Ho.out) Hsw.out)
    have e1 := HX1.out rfl
    clear HX1 HX2 HX3 HX4
    go_wp2_with fail
    refine HP1.out.mono ?_
    rintro r w6 ⟨rfl, D6, b6⟩
    have H2 := Lib.hid (duo_putR P.out D6 (by omega) sl sa sn sc (HRs.out w6 (Ho.out.trans b6)) Hsw.out (by omega) Hsa.out)
    have O6 : Hid (Below w.heap.size w w6) := Ho.out.trans b6
    clear D6 b6 a0 a1 a2 a3
    obtain ⟨a0, a1, a2, a3⟩ := HCk.out w6 O6.out
    go_wp2_with fail
    refine H2.out.mono ?_
    rintro r w7 ⟨rfl, D7, b7⟩
    have HD7 := Lib.hid (RELFIX.out _ _ (by omega) (e1 ▸ D7))
    have O7 : Hid (Below w.heap.size w w7) := O6.out.trans b7
    clear D7 b7 a0 a1 a2 a3 H2
    go_wp2_with fail
    go_roundw
    case rel => exact ⟨k + 1, by omega, by go_num, HD7.out, O7.out⟩
    case measure => simp [intOf]; omega
   ·have hk2 : (kd == 1) = false := by simpa using hk1
    have hk3 : decide (kd = 1) = false := decide_eq_false hk1
    by_cases hk4 : kd = 2
    ·subst hk4
     have HP1 := Lib.hid (duo_tickT P.out HD.out (by omega) nn hnn)
     have e1 := HX2.out rfl
     clear HX1 HX2 HX3 HX4
     go_wp2_with fail
     refine HP1.out.mono ?_
     rintro r w6 ⟨rfl, D6, b6⟩
     have H2 := Lib.hid (duo_tickR P.out D6 (by omega) nn)
     have O6 : Hid (Below w.heap.size w w6) := Ho.out.trans b6
     clear D6 b6 a0 a1 a2 a3
     obtain ⟨a0, a1, a2, a3⟩ := HCk.out w6 O6.out
     go_wp2_with fail
     refine H2.out.mono ?_
     rintro r w7 ⟨rfl, D7, b7⟩
     have HD7 := Lib.hid (RELFIX.out _ _ (by omega) (e1 ▸ D7))
     have O7 : Hid (Below w.heap.size w w7) := O6.out.trans b7
     clear D7 b7 a0 a1 a2 a3 H2
     go_wp2_with fail
     go_roundw
     case rel => exact ⟨k + 1, by omega, by go_num, HD7.out, O7.out⟩
     case measure => simp [intOf]; omega
    ·have hk5 : (kd == 2) = false := by simpa using hk4
     have hk6 : decide (kd = 2) = false := decide_eq_false hk4
     by_cases hk7 : kd = 3
     ·subst hk7
      have e1 := HX3.out rfl
      have HDd : Hid (Duo nm l fl w.heap.size wr.drew t g Z Z F (k * 40)) := HD.out.fr0 ((Fr.refl _ wr).drew)
      have O2 : Hid (Below w.heap.size w wr.drew) := Ho.out.trans ((Fr.refl (fun _ => False) wr).drew.below_of Ho.out.size (fun _ h => h.elim))
      clear HX1 HX2 HX3 HX4
      go_wp2_with fail
      have HL1 := Lib.hid (duo_loadT P.out HDd.out (by omega) nn ll la ln lc (HRl.out wr.drew O2.out) Hlw.out (by omega))
      refine wp_region_held_drew (S := fun W => Below w.heap.size w W) (by kernel_rfl) (O2.out) (fun hHeld => ?_)
      refine tl 0 ⟨some 84, .move (.tmp 10), 31, _, _, none⟩ ?v1 rfl ?q1 ?r1
      case q1 => intro W hSw; go_simp; try rfl
      refine tl 1 ⟨some 85, .move (.tmp 3), 26, _, _, none⟩ ?v2 rfl ?q2 ?r2
      case q2 => intro W hSw; go_simp; try rfl
      refine tl 2 ⟨some 86, .move (.tmp 14), 3, _, _, none⟩ ?v3 rfl ?q3 ?r3
      case q3 => intro W hSw; go_simp; try rfl
      refine tl 3 ⟨some 87, .indexAddr 26 (.tmp 85) (.tmp 86), 0, _, _, none⟩ ?v4 rfl ?q4 ?r4
      case q4 => intro W hSw; (try obtain ⟨q0, q1, q2, q3⟩ := HCk.out W hSw); go_simp; try rfl
      refine tl 4 ⟨some 88, .fieldAddr 53 (.tmp 87) 1, 0, _, _, none⟩ ?v5 rfl ?q5 ?r5
      case q5 => intro W hSw; go_simp; try rfl
      refine tl 5 ⟨some 89, .load 3 (.tmp 88), 3, _, _, none⟩ ?v6 rfl ?q6 ?r6
      case q6 => intro W hSw; (try obtain ⟨q0, q1, q2, q3⟩ := HCk.out W hSw); go_simp; try rfl
      refine tl 6 ⟨some 90, .move (.tmp 3), 26, _, _, none⟩ ?v7 rfl ?q7 ?r7
      case q7 => intro W hSw; go_simp; try rfl
      refine tl 7 ⟨some 91, .move (.tmp 14), 3, _, _, none⟩ ?v8 rfl ?q8 ?r8
      case q8 => intro W hSw; go_simp; try rfl
      refine tl 8 ⟨some 92, .indexAddr 26 (.tmp 90) (.tmp 91), 0, _, _, none⟩ ?v9 rfl ?q9 ?r9
      case q9 => intro W hSw; (try obtain ⟨q0, q1, q2, q3⟩ := HCk.out W hSw); go_simp; try rfl
      refine tl 9 ⟨some 93, .fieldAddr 53 (.tmp 92) 3, 0, _, _, none⟩ ?v10 rfl ?q10 ?r10
      case q10 => intro W hSw; go_simp; try rfl
      refine tl 10 ⟨some 94, .load 51 (.tmp 93), 51, _, _, none⟩ ?v11 rfl ?q11 ?r11
      case q11 => intro W hSw; (try obtain ⟨q0, q1, q2, q3⟩ := HCk.out W hSw); go_simp; try rfl
      try simp only [Act.put, sA, sB, sC]
      refine rl 11 ⟨some 95, .call ⟨.value (.func 20), #[.tmp 84, .tmp 89, .tmp 94], #[31, 3, 51]⟩, 3, _, _, none⟩ rfl (fun K hK => ?_)
      go_simp
      go_wp2_with (first | (go_at_call 20; refine HL1.out.mono ?_; rintro r w6 ⟨rfl, D6, b6⟩))
      have D6 := Lib.hid D6
      refine hK.out _ _ (hHeld.trans b6) (fun hHeld => ?_)
      clear hK K
      try simp only [Act.put, sA, sB, sC]
      refine wpAnyH_done (by kernel_rfl) ?_ _
      have O6 := Lib.hid hHeld
      clear hHeld b6
      go_wp2_with fail
      obtain ⟨w8, hw8⟩ : ∃ v, v = w6.drew := ⟨_, rfl⟩
      have HD8 : Hid (Duo nm l fl w.heap.size w6.drew t g (loadI Z nn ll) Z F (k * 40 + ll.length)) := D6.out.fr0 ((Fr.refl _ w6).drew)
      have HL2 := Lib.hid (duo_loadR P.out HD8.out (by omega) nn ll la ln lc (HRl.out w6.drew (O6.out.trans ((Fr.refl (fun _ => False) w6).drew.below_of O6.out.size (fun _ h => h.elim)))) Hlw.out (by omega) Hla.out)
      refine wp_region_held_drew (S := fun W => Below w.heap.size w W) (by kernel_rfl) ((O6.out.trans ((Fr.refl (fun _ => False) w6).drew.below_of O6.out.size (fun _ h => h.elim)))) (fun hHeld => ?_)
      refine tl 0 ⟨some 96, .move (.tmp 12), 35, _, _, none⟩ ?v12 rfl ?q12 ?r12
      case q12 => intro W hSw; go_simp; try rfl
      refine tl 1 ⟨some 97, .move (.tmp 3), 26, _, _, none⟩ ?v13 rfl ?q13 ?r13
      case q13 => intro W hSw; go_simp; try rfl
      refine tl 2 ⟨some 98, .move (.tmp 14), 3, _, _, none⟩ ?v14 rfl ?q14 ?r14
      case q14 => intro W hSw; go_simp; try rfl
      refine tl 3 ⟨some 99, .indexAddr 26 (.tmp 97) (.tmp 98), 0, _, _, none⟩ ?v15 rfl ?q15 ?r15
      case q15 => intro W hSw; (try obtain ⟨q0, q1, q2, q3⟩ := HCk.out W hSw); go_simp; try rfl
      refine tl 4 ⟨some 100, .fieldAddr 53 (.tmp 99) 1, 0, _, _, none⟩ ?v16 rfl ?q16 ?r16
      case q16 => intro W hSw; go_simp; try rfl
      refine tl 5 ⟨some 101, .load 3 (.tmp 100), 3, _, _, none⟩ ?v17 rfl ?q17 ?r17
      case q17 => intro W hSw; (try obtain ⟨q0, q1, q2, q3⟩ := HCk.out W hSw); go_simp; try rfl
      refine tl 6 ⟨some 102, .move (.tmp 3), 26, _, _, none⟩ ?v18 rfl ?q18 ?r18
      case q18 => intro W hSw; go_simp; try rfl
      refine tl 7 ⟨some 103, .move (.tmp 14), 3, _, _, none⟩ ?v19 rfl ?q19 ?r19
      case q19 => intro W hSw; go_simp; try rfl
      refine tl 8 ⟨some 104, .indexAddr 26 (.tmp 102) (.tmp 103), 0, _, _, none⟩ ?v20 rfl ?q20 ?r20
      case q20 => intro W hSw; (try obtain ⟨q0, q1, q2, q3⟩ := HCk.out W hSw); go_simp; try rfl
      refine tl 9 ⟨some 105, .fieldAddr 53 (.tmp 104) 3, 0, _, _, none⟩ ?v21 rfl ?q21 ?r21
      case q21 => intro W hSw; go_simp; try rfl
      refine tl 10 ⟨some 106, .load 51 (.tmp 105), 51, _, _, none⟩ ?v22 rfl ?q22 ?r22
      case q22 => intro W hSw; (try obtain ⟨q0, q1, q2, q3⟩ := HCk.out W hSw); go_simp; try rfl
      try simp only [Act.put, sA, sB, sC]
      refine rl 11 ⟨some 107, .call ⟨.value (.func 21), #[.tmp 96, .tmp 101, .tmp 106], #[35, 3, 51]⟩, 3, _, _, none⟩ rfl (fun K hK => ?_)
      go_simp
      go_wp2_with (first | (go_at_call 21; refine HL2.out.mono ?_; rintro r w7 ⟨rfl, D7, b7⟩))
      have D7 := Lib.hid D7
      refine hK.out _ _ (hHeld.trans b7) (fun hHeld => ?_)
      clear hK K
      try simp only [Act.put, sA, sB, sC]
      refine wpAnyH_done (by kernel_rfl) ?_ _
      have O7 := Lib.hid hHeld
      have HD7 := Lib.hid (RELFIX.out _ _ (by omega) (e1 ▸ D7.out))
      clear hHeld b7
      go_wp2_with fail
      go_roundw
      case rel => exact ⟨k + 1, by omega, by go_num, HD7.out, O7.out⟩
      case measure => simp [intOf]; omega
     ·have hk8 : (kd == 3) = false := by simpa using hk7
      have hk9 : decide (kd = 3) = false := decide_eq_false hk7
      have e1 := HX4.out hk1 hk4 hk7
      have HD7 := Lib.hid (RELFIX.out _ _ (by omega) (e1 ▸ HD.out))
      clear HX1 HX2 HX3 HX4
      go_wp2_with fail
      go_roundw
      case rel => exact ⟨k + 1, by omega, by go_num, HD7.out, Ho.out⟩
      case measure => simp [intOf]; omega
  ·obtain rfl : k = ko := by omega
   have hall : ops.take k = ops := take_all (by rw [Hln.out]; exact Nat.le_refl _)
   rw [hall] at HD
   have HD9 := Lib.hid (HD.out.more (cc2 := 2000) (by omega))
   clear HD hall
   go_wp2_with fail
   go_ret2
   exact ⟨⟨fun _ => ⟨P.out, t, g, F, rfl, HD9.out⟩, fun h => absurd rfl h⟩, Ho.out⟩
end Go.Proofs.YtbblmmneeafhgaaGreat
