/- Walks of sedimentbook on kinds of which there are no lists. -/
import Derived.Test.YtbblmmneeafhgaaGreatProg
import Derived.WalkKit
import Derived.Test.YtbblmmneeafhgaaGreatBook
import Derived.Test.YtbblmmneeafhgaaGreatSame
import Derived.Test.YtbblmmneeafhgaaGreatAlive16
namespace Go.Proofs.YtbblmmneeafhgaaGreat
set_option linter.all false
open Go.RowKit
end Go.Proofs.YtbblmmneeafhgaaGreat
namespace Go.Proofs.YtbblmmneeafhgaaGreat
set_option linter.all false
open Go.RowKit
end Go.Proofs.YtbblmmneeafhgaaGreat
namespace Go.Proofs.YtbblmmneeafhgaaGreat
set_option linter.all false
open Go.RowKit

end Go.Proofs.YtbblmmneeafhgaaGreat
namespace Go.Proofs.YtbblmmneeafhgaaGreat
set_option linter.all false
open Go.RowKit

end Go.Proofs.YtbblmmneeafhgaaGreat
namespace Go.Proofs.YtbblmmneeafhgaaGreat
set_option linter.all false
open Go.RowKit
theorem info_sR : (Tryz.prog.info? 51).map (fun i => (i.zero, i.size, i.bytes)) = some (some (.slice none 0 0), 1, 24) := by kernel_rfl
theorem csR_len (l : List RecV) : (rcells l).length = l.length * 7 := vflat_len rec_len l

set_option maxHeartbeats 1000000 in
theorem copyR_any (l : List RecV) (A : Option Addr) (n c : Nat) (w : World) (hr : Rd w 7 A n (rcells l)) (hn : n ≤ 17179869184) :
    Calls Tryz.prog 74 #[.slice A n c] w fun r w' => ∃ B d, r = .returned (.slice B n d) ∧ w'.ownsRow w.heap.size 100 7 (.slice B n d) n (rcells l) ∧ Below w.heap.size w w' := by
  obtain ⟨i0, hi0, hz0, hz1, hz2⟩ := info_parts info_rec
  have Hr := Lib.hid hr
  clear hr
  go_enter Tryz.func74, Tryz.ntmps74
  go_wp2_with (at_builtin; refine wpList_app2 rfl _ _ 51 rfl 100 i0 _ 7 64 Tryz.underlying51 hi0 hz0 hz1 hz2 rfl (by decide) (.slice none 0 0) 0 [] rfl w.heap.size (Nat.le_refl _) (World.ownsRow_nil _ _ _ _) A n c (rcells l) rfl Hr.out (rcells_one l) ?q1 ?q2 ?_)
  case q1 => unfold maxLen; omega
  case q2 => omega
  intro R6 c6 w6 ho6 hm6 _
  (try simp only [Nat.zero_add, List.nil_append] at ho6)
  (try simp only [Nat.zero_add] at hm6)
  (try rw [Nat.zero_add])
  have Ho6 := Lib.hid ho6
  have Hm6 := Lib.hid hm6
  clear ho6 hm6
  go_wp2_with fail
  go_ret
  exact ⟨R6, c6, rfl, Ho6.out, (((Own.start w).also (G := rowF (.slice none 0 0)) (fun k hk => by cases hk)).mv Hm6.out).bel⟩

set_option maxRecDepth 100000 in
set_option maxHeartbeats 4000000 in
theorem addR_any (g : Nat) (cs : Array Value) (base : Nat) (V U : Value) (hs us : List (HV RecV)) (l : List RecV) (A : Option Addr) (n c : Nat) (w : World) (hb : Blk w g 49 cs) (hV : cs[4]? = some V) (hU : cs[5]? = some U)
    (hk : Kind RecV.cells w base 51 100 7 V U hs us) (hn : hs.length < 250) (ho : w.ownsRow base 100 7 (.slice A n c) n (rcells l)) (hl : n ≤ 1000000) (hbase : base ≤ w.heap.size) (hd : ∀ h ∈ hs, ∀ k, rowF h.v k → ¬ rowF (.slice A n c) k) :
    Calls Tryz.prog 27 #[.pointer (some ⟨g, 0, none⟩), .slice A n c] w fun r w' => r = .returned (.tuple #[]) ∧ ∃ V' U' B d, Blk w' g 49 ((cs.setIfInBounds 4 V').setIfInBounds 5 U') ∧ Kind RecV.cells w' base 51 100 7 V' U' (hs ++ [⟨.slice A n c, l⟩]) (us ++ [⟨.slice B n d, l⟩]) ∧ Fr (fun k => k = g ∨ rowF V k ∨ rowF U k) w w' ∧ (∀ k, rowF V' k → rowF V k ∨ w.heap.size ≤ k) ∧ (∀ k, rowF U' k → rowF U k ∨ w.heap.size ≤ k) ∧ ∀ k, rowF (.slice B n d) k → w.heap.size ≤ k := by
  have hln := hk.len
  have hsz : l.length = n := by have := ho.1; rw [csR_len] at this; omega
  obtain ⟨RA, rc, rfl, hrc1, hrc2, _⟩ := own_slice hk.row
  obtain ⟨UA, uc, rfl, huc1, huc2, _⟩ := own_slice hk.wrow
  have Hlen := Lib.hid hln
  obtain ⟨m, hm⟩ : ∃ m, hs.length = m := ⟨_, rfl⟩
  have HK := Lib.hid hk
  have HU0 := Lib.hid hk.row
  have HW0 := Lib.hid hk.wrow
  rw [hln] at HK HW0 hU
  rw [hm] at HK HU0 HW0 hn hV hU
  have Hm := Lib.hid hm
  have Hsz := Lib.hid hsz
  have HO := Lib.hid ho
  have HD := Lib.hid hd
  have HBs := Lib.hid hbase
  have HB := Lib.hid hb
  have c0 := hb.cell 4
  have f0 := hb.frozen 4
  rw [hV] at c0
  have hcs0 : 4 < cs.size := (Array.getElem?_eq_some_iff.1 hV).1
  have HUU := Lib.hid hU
  have HVV := Lib.hid hV
  obtain ⟨i0, hi0, hz0, hz1, hz2⟩ := info_parts info_sR
  clear hb hV hU hk ho hd hm hln hsz hbase
  go_enter Tryz.func27, Tryz.ntmps27
  go_wp2_with (at_builtin; refine wpList_app2 rfl _ _ 42 rfl 51 i0 _ 1 24 Tryz.underlying42 hi0 hz0 hz1 hz2 rfl (by decide) (.slice RA m rc) m _ rfl base (by have := HBs.out; simp; omega) (own_fr0 HU0.out (Fr.none_alloc _ _)) (some ⟨w.heap.size, 0, none⟩) 1 1 [.slice A n c] rfl (Rd.newS (by simp) _ _ _ _ rfl) (by simp [Value.oneCell']) ?q1 ?q2 ?_)
  case q1 => unfold maxLen; omega
  case q2 => omega
  intro R2 c2 w2 ho2 hm2 _
  have HO2 := Lib.hid ho2
  have HM2 := Lib.hid hm2
  have gV : ¬ rowF (.slice RA m rc) g := own_blk_ne HU0.out HB.out (by decide)
  have gU : ¬ rowF (.slice UA m uc) g := own_blk_ne HW0.out HB.out (by decide)
  have B2 := (HB.out.alloc (.cells #[.slice A n c] 51)).fr hm2.fr gV
  have gV2 : ¬ rowF (.slice R2 (m + 1) c2) g := own_blk_ne ho2 B2 (by decide)
  have c2' := B2.cell 4
  have f2' := B2.frozen 4
  rw [HVV.out] at c2'
  have HB2 := Lib.hid B2
  have GV := Lib.hid gV
  have GU := Lib.hid gU
  have GV2 := Lib.hid gV2
  have hc0 := Lib.hid hcs0
  clear ho2 hm2 gV gU gV2 B2 c0 f0 hcs0
  go_wp2_with fail
  obtain ⟨W3, hW3⟩ : ∃ W3, W3 = w2.setCell ⟨g, 4, none⟩ (.slice R2 (m + 1) c2) := ⟨_, rfl⟩
  rw [← hW3]
  have B3 : Blk W3 g 49 (cs.setIfInBounds 4 (.slice R2 (m + 1) c2)) := hW3 ▸ HB2.out.set_ 4 _
  have F3 : Fr (fun k => k = g ∨ rowF (.slice RA m rc) k ∨ rowF (.slice UA m uc) k) w W3 := by
    rw [hW3]
    exact (((Fr.none_alloc w (.cells #[.slice A n c] 51)).mono (fun _ h => h.elim)).trans HM2.out.fr (fun i hi => .inl (.inr (.inl hi)))).setCell (p := ⟨g, 4, none⟩) (.inl (.inl rfl)) _
  have R3 : W3.ownsRow base 51 1 (.slice R2 (m + 1) c2) (m + 1) (hs.map HV.v ++ [.slice A n c]) := by
    rw [hW3]
    exact own_fr HO2.out ((Fr.refl (fun k => k = g) w2).setCell (p := ⟨g, 4, none⟩) (.inl rfl) _) (fun k hk e => GV2.out (e ▸ hk))
  have U3 : W3.ownsRow base 51 1 (.slice UA m uc) m (us.map HV.v) := by
    refine own_fr (own_fr (own_fr0 HW0.out (Fr.none_alloc w (.cells #[.slice A n c] 51))) HM2.out.fr (fun k hk e => HK.out.uv k e hk)) (?_ : Fr (fun k => k = g) w2 W3) (fun k hk e => GU.out (e ▸ hk))
    rw [hW3]
    exact (Fr.refl (fun k => k = g) w2).setCell (p := ⟨g, 4, none⟩) (.inl rfl) _
  have V3 : ∀ k, rowF (.slice R2 (m + 1) c2) k → ¬ rowF (.slice UA m uc) k := fun k h1 h2 => by
    rcases HM2.out.sub k h1 with h3 | h3
    · exact HK.out.uv k h3 h2
    · have := own_lt HW0.out k h2
      simp at h3
      omega
  have L3 : W3.ownsRow base 100 7 (.slice A n c) n (rcells l) := by
    refine (Off.or (Off.blk HB.out (by decide)) (Off.or (Off.row HU0.out (by decide)) (Off.row HW0.out (by decide)))).own (ts := [100]) HO.out (by decide) F3
  have e1 : W3.drew.cell? ⟨g, 5, none⟩ = some (.slice UA m uc) := by
    have := B3.cell 5
    rwa [Array.getElem?_setIfInBounds_ne (by decide), HUU.out] at this
  have HB3 := Lib.hid (show Blk W3.drew g 49 (cs.setIfInBounds 4 (.slice R2 (m + 1) c2)) from B3)
  have HF3 := Lib.hid (F3.drew)
  have HR3 := Lib.hid (show W3.drew.ownsRow base 51 1 (.slice R2 (m + 1) c2) (m + 1) (hs.map HV.v ++ [.slice A n c]) from own_fr0 R3 ((Fr.refl (fun _ => False) W3).drew))
  have HU3 := Lib.hid (show W3.drew.ownsRow base 51 1 (.slice UA m uc) m (us.map HV.v) from own_fr0 U3 ((Fr.refl (fun _ => False) W3).drew))
  have HL3 := Lib.hid (show W3.drew.ownsRow base 100 7 (.slice A n c) n (rcells l) from own_fr0 L3 ((Fr.refl (fun _ => False) W3).drew))
  have HV3 := Lib.hid V3
  have hbs3 := Lib.hid (show base ≤ W3.drew.heap.size by have := F3.size; have := HBs.out; show base ≤ W3.heap.size; omega)
  clear hW3 B3 F3 R3 U3 V3 L3 c2' f2'
  have hU1 : 5 < cs.size := (Array.getElem?_eq_some_iff.1 HUU.out).1
  have HP5 : Hid (∀ w5, Below W3.drew.heap.size W3.drew w5 → w5.cell? ⟨g, 5, none⟩ = some (.slice UA m uc)) := fun w5 h => (HB3.out.below h).cell 5 |>.trans (by rw [Array.getElem?_setIfInBounds_ne (by decide), HUU.out])
  have HP5' : Hid (∀ w5, Below W3.drew.heap.size W3.drew w5 → ∀ o, (w5.alloc o).cell? ⟨g, 5, none⟩ = some (.slice UA m uc)) := fun w5 h o => ((HB3.out.below h).alloc o).cell 5 |>.trans (by rw [Array.getElem?_setIfInBounds_ne (by decide), HUU.out])
  have HB6 : Hid (∀ w5, Below W3.drew.heap.size W3.drew w5 → ∀ o A6 c6 w6, Mv (rowF (.slice UA m uc)) (rowF (.slice A6 (m + 1) c6)) (w5.alloc o) w6 → Blk w6 g 49 (cs.setIfInBounds 4 (.slice R2 (m + 1) c2))) := fun w5 h o A6 c6 w6 hm => ((HB3.out.below h).alloc o).fr hm.fr GU.out
  have HP6 : Hid (∀ w5, Below W3.drew.heap.size W3.drew w5 → ∀ o A6 c6 w6, Mv (rowF (.slice UA m uc)) (rowF (.slice A6 (m + 1) c6)) (w5.alloc o) w6 → w6.cell? ⟨g, 5, none⟩ = some (.slice UA m uc)) := fun w5 h o A6 c6 w6 hm => (HB6.out w5 h o A6 c6 w6 hm).cell 5 |>.trans (by rw [Array.getElem?_setIfInBounds_ne (by decide), HUU.out])
  have HF6 : Hid (∀ w5, Below W3.drew.heap.size W3.drew w5 → ∀ o A6 c6 w6, Mv (rowF (.slice UA m uc)) (rowF (.slice A6 (m + 1) c6)) (w5.alloc o) w6 → w6.frozen? ⟨g, 5, none⟩ = false) := fun w5 h o A6 c6 w6 hm => (HB6.out w5 h o A6 c6 w6 hm).frozen 5
  have HZ : Hid (∀ w5, Below W3.drew.heap.size W3.drew w5 → ∀ B d, w5.ownsRow W3.drew.heap.size 100 7 (.slice B n d) n (rcells l) → ∀ o A6 c6 w6, w6.ownsRow base 51 1 (.slice A6 (m + 1) c6) (m + 1) (us.map HV.v ++ [.slice B n d]) → Mv (rowF (.slice UA m uc)) (rowF (.slice A6 (m + 1) c6)) (w5.alloc o) w6 →
      Blk (w6.setCell ⟨g, 5, none⟩ (.slice A6 (m + 1) c6)) g 49 ((cs.setIfInBounds 4 (.slice R2 (m + 1) c2)).setIfInBounds 5 (.slice A6 (m + 1) c6)) ∧ Kind RecV.cells (w6.setCell ⟨g, 5, none⟩ (.slice A6 (m + 1) c6)) base 51 100 7 (.slice R2 (m + 1) c2) (.slice A6 (m + 1) c6) (hs ++ [⟨.slice A n c, l⟩]) (us ++ [⟨.slice B n d, l⟩]) ∧ Fr (fun k => k = g ∨ rowF (.slice RA m rc) k ∨ rowF (.slice UA m uc) k) w (w6.setCell ⟨g, 5, none⟩ (.slice A6 (m + 1) c6)) ∧ (∀ k, rowF (.slice R2 (m + 1) c2) k → rowF (.slice RA m rc) k ∨ w.heap.size ≤ k) ∧ (∀ k, rowF (.slice A6 (m + 1) c6) k → rowF (.slice UA m uc) k ∨ w.heap.size ≤ k) ∧ ∀ k, rowF (.slice B n d) k → w.heap.size ≤ k) := by
    intro w5 h5 B d hB5 o A6 c6 w6 hown hm
    have hb6 := HB6.out w5 h5 o A6 c6 w6 hm
    have hne : ¬ rowF (.slice A6 (m + 1) c6) g := own_blk_ne hown hb6 (by decide)
    have hs7 : Fr (fun j => j = g) w6 (w6.setCell ⟨g, 5, none⟩ (.slice A6 (m + 1) c6)) := (Fr.refl (fun j => j = g) w6).setCell (p := ⟨g, 5, none⟩) (.inl rfl) _
    have f5 : Fr (fun _ => False) W3.drew (w5.alloc o) := (Fr.b0 h5).alloc o
    have f57 : Fr (fun k => k = g ∨ rowF (.slice UA m uc) k) (w5.alloc o) (w6.setCell ⟨g, 5, none⟩ (.slice A6 (m + 1) c6)) := (hm.fr.mono (fun i hi => .inl (.inr hi))).trans hs7 (fun i hi => .inl (.inl hi))
    have f37 : Fr (fun k => k = g ∨ rowF (.slice UA m uc) k) W3.drew (w6.setCell ⟨g, 5, none⟩ (.slice A6 (m + 1) c6)) := (f5.mono (fun _ h => h.elim)).trans f57 (fun i hi => .inl hi)
    have f07 : Fr (fun k => k = g ∨ rowF (.slice RA m rc) k ∨ rowF (.slice UA m uc) k) w (w6.setCell ⟨g, 5, none⟩ (.slice A6 (m + 1) c6)) := HF3.out.trans f37 (fun i hi => .inl (hi.imp id .inr))
    have off0 : Off w (fun k => k = g ∨ rowF (.slice RA m rc) k ∨ rowF (.slice UA m uc) k) [100] := Off.or (Off.blk HB.out (by decide)) (Off.or (Off.row HU0.out (by decide)) (Off.row HW0.out (by decide)))
    have off5 : Off (w5.alloc o) (fun k => k = g ∨ rowF (.slice UA m uc) k) [100] := Off.or (Off.blk ((HB3.out.below h5).alloc o) (by decide)) (Off.row (own_fr0 HU3.out f5) (by decide))
    have hsz35 : w.heap.size ≤ W3.drew.heap.size := HF3.out.size
    have hsz5 : W3.drew.heap.size ≤ (w5.alloc o).heap.size := f5.size
    refine ⟨hb6.set_ 5 _, Kind.add HK.out ?_ ?_ ?_ ?_ ?_ f07 off0 HD.out, f07, fun k hk => (HM2.out.sub k hk).imp id (fun h => by simp at h; omega), fun k hk => (hm.sub k hk).imp id (fun h => by omega), fun k hk => by have := (hB5.lt k hk).1; omega⟩
    · rw [Hm.out]
      refine own_fr (own_fr0 HR3.out f5) f57 (fun k hk e => ?_)
      rcases e with e | e
      · exact absurd (e ▸ hk) (own_blk_ne HR3.out HB3.out (by decide))
      · exact HV3.out k hk e
    · rw [Hlen.out, Hm.out]
      exact own_fr hown hs7 (fun k hk e => hne (e ▸ hk))
    · intro k h1 h2
      rcases hm.sub k h2 with h3 | h3
      · exact HV3.out k h1 h3
      · have := own_lt (own_fr0 HR3.out f5) k h1
        omega
    · rw [Hsz.out]
      exact off0.own HO.out (by decide) f07
    · rw [Hsz.out]
      exact own_le (off5.own (own_fr0 hB5 (Fr.none_alloc _ _)) (by decide) f57) hbs3.out
  have HC5 := Lib.hid (fun (_ : Unit) => copyR_any l A n c W3.drew (Rd.of_own HL3.out) (by omega))
  have hq1 : m + 1 ≤ maxLen := by unfold maxLen; omega
  have hq2 : (m + 1) * 24 ≤ 140737488355328 := by omega
  go_region_law (first
    | (refine step_app2 rfl (.tmp 24) (.tmp 27) 42 rfl 51 i0 (.slice none 0 0) 1 24 Tryz.underlying42 hi0 hz0 hz1 hz2 rfl (by decide) (.slice UA m uc) m _ rfl base (by have := hbs3.out; have := b5.size; simp; omega)
        (own_fr0 (own_fr0 HU3.out (Fr.b0 b5)) (Fr.none_alloc _ _)) (some ⟨w5.heap.size, 0, none⟩) 1 1 [.slice B n d] rfl (Rd.new w5 [.slice B n d] _ 1 rfl) (by simp [Value.oneCell']) hq1 hq2 ?_; intro A6 c6 w6 ho6 hm6 _; have q6 := HP6.out w5 b5 _ _ _ _ hm6; have f6 := HF6.out w5 b5 _ _ _ _ hm6)
    | (go_simp; go_at_call 74; refine (HC5.out ()).mono ?_; rintro r w5 ⟨B, d, rfl, ho5, b5⟩; have q5 := HP5.out w5 b5; have q5' := HP5'.out w5 b5; try dsimp only))
  all_goals (
    have hz := Lib.hid (HZ.out w5 b5 _ _ ho5 _ _ _ _ ho6 hm6)
    clear e1 q5 q5' q6 f6 ho6 hm6 b5 ho5
    go_wp2
    go_end0
    exact ⟨rfl, .slice R2 (m + 1) c2, .slice A6 (m + 1) c6, B, d, by rw [Hlen.out, Hm.out]; exact hz.out⟩)
end Go.Proofs.YtbblmmneeafhgaaGreat
namespace Go.Proofs.YtbblmmneeafhgaaGreat
set_option linter.all false
open Go.RowKit

end Go.Proofs.YtbblmmneeafhgaaGreat
namespace Go.Proofs.YtbblmmneeafhgaaGreat
set_option linter.all false
open Go.RowKit

end Go.Proofs.YtbblmmneeafhgaaGreat
namespace Go.Proofs.YtbblmmneeafhgaaGreat
set_option linter.all false
open Go.RowKit

end Go.Proofs.YtbblmmneeafhgaaGreat
namespace Go.Proofs.YtbblmmneeafhgaaGreat
set_option linter.all false
open Go.RowKit

def BookR (w : World) (g base k : Nat) : Prop :=
  ∃ (cs : Array Value) (V U : Value) (hs us : List (HV RecV)), Blk w g 49 cs ∧ cs[4]? = some V ∧ cs[5]? = some U ∧ (∀ j, j < 16 → j ≠ 4 → j ≠ 5 → cs[j]? = some (.slice none 0 0)) ∧
    Kind RecV.cells w base 51 100 7 V U hs us ∧ hs.length = k ∧ (∀ h ∈ hs, h.l.length ≤ 100000) ∧ base ≤ g ∧ base ≤ w.heap.size
theorem BookR.fr {w w' : World} {g base k : Nat} (h : BookR w g base k) (hb : Below w.heap.size w w') : BookR w' g base k := by
  obtain ⟨cs, V, U, hs, us, h1, h2, h3, h4, h5, h6, h7, h8, h9⟩ := h
  exact ⟨cs, V, U, hs, us, h1.below hb, h2, h3, h4, h5.fr0 (Fr.b0 hb), h6, h7, h8, Nat.le_trans h9 hb.size⟩
theorem BookR.new (w : World) : BookR (w.alloc (.cells #[.slice none 0 0, .slice none 0 0, .slice none 0 0, .slice none 0 0, .slice none 0 0, .slice none 0 0, .slice none 0 0, .slice none 0 0, .slice none 0 0, .slice none 0 0, .slice none 0 0, .slice none 0 0, .slice none 0 0, .slice none 0 0, .slice none 0 0, .slice none 0 0] 49)) w.heap.size w.heap.size 0 := by
  refine ⟨_, .slice none 0 0, .slice none 0 0, [], [], Blk.new _ _ _, rfl, rfl, fun j hj _ _ => ?_, Kind.nil, rfl, fun x hx => (by cases hx), Nat.le_refl _, by simp⟩
  have : j = 0 ∨ j = 1 ∨ j = 2 ∨ j = 3 ∨ j = 4 ∨ j = 5 ∨ j = 6 ∨ j = 7 ∨ j = 8 ∨ j = 9 ∨ j = 10 ∨ j = 11 ∨ j = 12 ∨ j = 13 ∨ j = 14 ∨ j = 15 := by omega
  rcases this with rfl | rfl | rfl | rfl | rfl | rfl | rfl | rfl | rfl | rfl | rfl | rfl | rfl | rfl | rfl | rfl <;> rfl
theorem bookR_add (w0 w : World) (g base k : Nat) (h : BookR w0 g base k) (hb : Below w0.heap.size w0 w) (hk : k < 200) (l : List RecV) (A : Option Addr) (n c : Nat) (ho : w.ownsRow w0.heap.size 100 7 (.slice A n c) n (rcells l)) (hn : n ≤ 100000) :
    Calls Tryz.prog 27 #[.pointer (some ⟨g, 0, none⟩), .slice A n c] w fun r w' => r = .returned (.tuple #[]) ∧ BookR w' g base (k + 1) ∧ Fr (fun i => base ≤ i ∧ i < w0.heap.size) w w' := by
  obtain ⟨cs, V, U, hs, us, h1, h2, h3, h4, h5, h6, h7, h8, h9⟩ := h
  have hK := h5.fr0 (Fr.b0 hb)
  have hle : base ≤ w.heap.size := Nat.le_trans h9 hb.size
  have hlen : l.length = n := by have := ho.1; rw [csR_len] at this; omega
  refine (addR_any g cs base V U hs us l A n c w (h1.below hb) h2 h3 hK (by omega) (own_le ho h9) (by omega) hle ?_).mono ?_
  · intro x hx i h1' h2'
    have a1 := own_lt (h5.lists.own x hx) i h1'
    have a2 := (ho.lt i h2').1
    omega
  · rintro r w' ⟨e, V', U', B, d, b1, k1, f1, _⟩
    have hF : Fr (fun i => base ≤ i ∧ i < w0.heap.size) w w' := f1.mono fun i hi => .inl (by
      rcases hi with rfl | hi | hi
      · exact ⟨h8, h1.lt⟩
      · exact h5.row.lt i hi
      · exact h5.wrow.lt i hi)
    have h16 : cs.size ≥ 6 := by have := (Array.getElem?_eq_some_iff.1 h3).1; omega
    refine ⟨e, ⟨_, V', U', _, _, b1, ?_, ?_, fun j hj j1 j2 => ?_, k1, by simp [h6], fun x hx => ?_, h8, Nat.le_trans hle f1.size⟩, hF⟩
    · rw [Array.getElem?_setIfInBounds_ne (by decide), Array.getElem?_setIfInBounds_self_of_lt (by omega)]
    · rw [Array.getElem?_setIfInBounds_self_of_lt (by simp; omega)]
    · rw [Array.getElem?_setIfInBounds_ne (by omega), Array.getElem?_setIfInBounds_ne (by omega), h4 j hj j1 j2]
    · rcases List.mem_append.1 hx with hx | hx
      · exact h7 x hx
      · rw [List.mem_singleton] at hx; subst hx; show l.length ≤ _; omega
end Go.Proofs.YtbblmmneeafhgaaGreat
