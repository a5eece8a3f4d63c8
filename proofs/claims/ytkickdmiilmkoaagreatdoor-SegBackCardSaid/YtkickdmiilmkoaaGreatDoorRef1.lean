/- Walks of sedimentref1: Packer (Word, Int, Name), Unpacker (take, Word, Int, Name), Name, Valid. -/
import Derived.Test.YtkickdmiilmkoaaGreatDoorRecLaw
namespace Go.Proofs.YtkickdmiilmkoaaGreatDoor
open Go.RowKit

/-- The document's packer: its block g, the bytes l, no error; F: the blocks that it has. -/
def Pq (w : World) (g : Nat) (F : Nat → Prop) (l : List UInt8) : Prop :=
  ∃ A n c, Blk w g 94 #[.slice A n c, .int .i64 0] ∧ w.ownsRow 0 5 1 (.slice A n c) n (bys l) ∧ F = fun k => k = g ∨ rowF (.slice A n c) k
theorem Pq.fr {w w' : World} {g : Nat} {F G : Nat → Prop} {l : List UInt8} (h : Pq w g F l) (hf : Fr G w w') (hn : ∀ k, F k → ¬ G k) : Pq w' g F l := by
  obtain ⟨A, n, c, h1, h2, rfl⟩ := h
  exact ⟨A, n, c, h1.fr hf (hn g (.inl rfl)), own_fr h2 hf (fun k hk => hn k (.inr hk)), rfl⟩
theorem Pq.fr0 {w w' : World} {g : Nat} {F : Nat → Prop} {l : List UInt8} (h : Pq w g F l) (hf : Fr (fun _ => False) w w') : Pq w' g F l := h.fr hf (fun _ _ h => h)
theorem Pq.lt {w : World} {g : Nat} {F : Nat → Prop} {l : List UInt8} (h : Pq w g F l) : ∀ k, F k → k < w.heap.size := by
  obtain ⟨A, n, c, h1, h2, rfl⟩ := h
  rintro k (rfl | hk)
  · exact h1.lt
  · exact own_lt h2 k hk
theorem Pq.push {w0 w1 : World} {g m m' c c' : Nat} {A A' : Option Addr} {l : List UInt8} (hb : Blk w1 g 94 #[.slice A m c, .int .i64 0])
    (ho : w1.ownsRow 0 5 1 (.slice A' m' c') m' (bys l)) (hm : Mv (rowF (.slice A m c)) (rowF (.slice A' m' c')) w0 w1) :
    ∃ F', Pq (w1.setCell ⟨g, 0, none⟩ (.slice A' m' c')) g F' l ∧ Mv (fun k => k = g ∨ rowF (.slice A m c) k) F' w0 (w1.setCell ⟨g, 0, none⟩ (.slice A' m' c')) := by
  have hne : ¬ rowF (.slice A' m' c') g := own_blk_ne ho hb (by decide)
  have hs : Fr (fun k => k = g) w1 (w1.setCell ⟨g, 0, none⟩ (.slice A' m' c')) := (Fr.refl (fun k => k = g) w1).setCell (p := ⟨g, 0, none⟩) (.inl rfl) _
  refine ⟨_, ⟨A', m', c', hb.set_ 0 _, own_fr ho hs (fun k hk hg => hne (hg ▸ hk)), rfl⟩, ⟨?_, ?_⟩⟩
  · refine (hm.fr.mono (fun i hi => .inl (.inr hi))).trans hs (fun i hi => .inl (.inl hi))
  · rintro k (hk | hk)
    · exact .inl (.inl hk)
    · exact (hm.sub k hk).imp .inr id
theorem Pq.new (w : World) : Pq (w.alloc (.cells #[.slice none 0 0, .int .i64 0] 94)) w.heap.size (fun k => k = w.heap.size ∨ rowF (.slice none 0 0) k) [] :=
  ⟨none, 0, 0, Blk.new _ _ _, World.ownsRow_nil _ _ _ _, rfl⟩

theorem wrap_quo {z : Int} (h0 : 0 ≤ z) (h1 : z < 18446744073709551616) : IntKind.u64.wrap (z.tdiv 256) = z / 256 := by
  rw [IntKind.wrap_u64, Int.tdiv_eq_ediv_of_nonneg h0]; omega
theorem quo_le {x z : Int} {k : Nat} (hx : 0 ≤ x) (hz : z = x / 256 ^ k) : z ≤ x := by
  subst hz
  exact Int.ediv_le_self _ hx
set_option maxRecDepth 100000 in
set_option maxHeartbeats 1000000 in
theorem rword_any (g : Nat) (F : Nat → Prop) (l : List UInt8) (x : Int) (n : Nat) (w : World) (h : Pq w g F l) (hx : 0 ≤ x) (hx2 : x < 18446744073709551616) (hn : l.length + n ≤ 1099511627776) :
    Calls Tryz.prog 45 #[.pointer (some ⟨g, 0, none⟩), .int .u64 x, .int .i64 n] w fun r w' => r = .returned (.tuple #[]) ∧ ∃ F', Pq w' g F' (l ++ le x.toNat n) ∧ Mv F F' w w' := by
  have Hn := Lib.hid hn
  have hn' : n ≤ 1099511627776 := by omega
  have HX2 := Lib.hid hx2
  clear hn hx2
  go_enter Tryz.func45, Tryz.ntmps45
  go_wp2
  go_loopw [1, 6] (fun y i wr => ∃ (k : Nat) (z : Int) (F' : Nat → Prop), k ≤ n ∧ i = .int .i64 k ∧ y = .int .u64 z ∧ 0 ≤ z ∧ Pq wr g F' (l ++ le x.toNat k) ∧ Hid (z = x / 256 ^ k) ∧ Mv F F' w wr) (fun _ i _ => n - (intOf i).toNat)
  case atStart => exact ⟨0, x, F, Nat.zero_le _, rfl, rfl, hx, by simpa [le] using h, by simp [Hid], Mv.refl _ _⟩
  case round =>
    obtain ⟨k, z, F', hk, rfl, rfl, hz0, hp, hz, hm⟩ := hrel
    obtain ⟨A, m, c, hb, ho, rfl⟩ := hp
    have c0 := hb.cell 0
    have c1 := hb.cell 1
    have hf0 := hb.frozen 0
    simp only [List.getElem?_toArray, List.getElem?_cons_succ, List.getElem?_cons_zero] at c0 c1
    have hll : m = l.length + k := by have := ho.1; simp [bys, le_length] at this; omega
    have Hll := Lib.hid hll
    have hzz : z % 256 % 256 = z % 256 := by omega
    clear hll
    by_cases hlt : k < n
    · have Hb := Lib.hid hb
      have Ho := Lib.hid ho
      clear hb ho
      go_wp2_with (at_builtin; refine wpList_app_u8 rfl (.tmp 23) (.tmp 27) rfl _ m (bys (l ++ le x.toNat k)) rfl ?c0 (some ⟨wr.heap.size, 0, none⟩) 1 1 [.int .u8 (z % 256)] rfl ?c1 ?c2 ?c3 ?_)
      case c0 => exact own_fr0 Ho.out (Fr.none_alloc _ _)
      case c1 => exact ⟨rfl, fun _ => ⟨_, rfl, cell_one_new _ _ _⟩⟩
      case c2 => simp [Value.oneCell']
      case c3 => have := Hll.out; have := Hn.out; omega
      intro A' c' w1 ho1 hm1
      have hgr : ¬ rowF (Value.slice A m c) g := own_blk_ne Ho.out Hb.out (by decide)
      have hb1 : Blk w1 g 94 #[.slice A m c, .int .i64 0] := (Hb.out.alloc _).fr hm1.fr hgr
      have c2 := hb1.cell 0
      have hf2 := hb1.frozen 0
      simp only [List.getElem?_toArray, List.getElem?_cons_succ, List.getElem?_cons_zero] at c2
      have Hb1 := Lib.hid hb1
      have Ho1 := Lib.hid ho1
      have Hm1 := Lib.hid hm1
      have Hgr := Lib.hid hgr
      clear hb1 ho1 hm1 hgr hzz
      go_wp2
      go_roundw
      case rel =>
        obtain ⟨F', hp', hm'⟩ := Pq.push (l := l ++ le x.toNat (k + 1)) Hb1.out (by rw [le_snoc, ← List.append_assoc, bys_append]; rw [show bys [UInt8.ofNat (x.toNat / 256 ^ k)] = [Value.int IntKind.u8 (z % 256)] from low_byte hx hz.out]; exact Ho1.out) Hm1.out
        exact ⟨k + 1, z / 256, F', by omega, by go_num, congrArg (Value.int .u64) (wrap_quo hz0 (Int.lt_of_le_of_lt (quo_le hx hz.out) HX2.out)), by omega, hp', div_step hz.out, (hm.trans (Mv.none_alloc _ _ _)).trans hm'⟩
      case measure => simp [intOf]; omega
    · go_wp2
      go_end0
      obtain rfl : k = n := by omega
      exact ⟨rfl, _, ⟨A, m, c, hb, ho, rfl⟩, hm⟩

theorem rword_8 (g : Nat) (F : Nat → Prop) (l : List UInt8) (x : Int) (w : World) (h : Pq w g F l) (hx : 0 ≤ x) (hx2 : x < 18446744073709551616) (hn : l.length + 8 ≤ 1099511627776) :
    Calls Tryz.prog 45 #[.pointer (some ⟨g, 0, none⟩), .int .u64 x, .int .i64 8] w fun r w' => r = .returned (.tuple #[]) ∧ ∃ F', Pq w' g F' (l ++ le x.toNat 8) ∧ Mv F F' w w' := rword_any g F l x 8 w h hx hx2 hn
theorem rword_1 (g : Nat) (F : Nat → Prop) (l : List UInt8) (x : Int) (w : World) (h : Pq w g F l) (hx : 0 ≤ x) (hx2 : x < 18446744073709551616) (hn : l.length + 1 ≤ 1099511627776) :
    Calls Tryz.prog 45 #[.pointer (some ⟨g, 0, none⟩), .int .u64 x, .int .i64 1] w fun r w' => r = .returned (.tuple #[]) ∧ ∃ F', Pq w' g F' (l ++ [UInt8.ofNat x.toNat]) ∧ Mv F F' w w' := rword_any g F l x 1 w h hx hx2 hn

theorem rint_any (g : Nat) (F : Nat → Prop) (l : List UInt8) (v : Int) (w : World) (h : Pq w g F l) (hn : l.length + 8 ≤ 1099511627776) :
    Calls Tryz.prog 46 #[.pointer (some ⟨g, 0, none⟩), .int .i64 v] w fun r w' => r = .returned (.tuple #[]) ∧ ∃ F', Pq w' g F' (l ++ le8 [v]) ∧ Mv F F' w w' := by
  have H := Lib.hid h
  have Hn := Lib.hid hn
  clear h hn
  go_enter Tryz.func46, Tryz.ntmps46
  go_wp2_with fail
  refine (rword_8 g F l (IntKind.u64.wrap v) w H.out (by rw [IntKind.wrap_u64]; omega) (by rw [IntKind.wrap_u64]; omega) Hn.out).mono ?_
  rintro r w1 ⟨rfl, F1, p1, m1⟩
  have P1 : Hid (Pq w1 g F1 (l ++ le8 [v])) := by
    show Pq _ _ _ _
    rw [le8_one, show u64 v = (IntKind.u64.wrap v).toNat by rw [IntKind.wrap_u64]; rfl]
    exact p1
  have M1 := Lib.hid m1
  clear p1 m1
  go_wp2
  go_end0
  exact ⟨rfl, F1, P1.out, M1.out⟩

/-- What follows the length of a name. -/
def nameT (s : ByteArray) : List UInt8 := s.data.toList ++ List.replicate (15 - s.size) 0
theorem nameT_len (s : ByteArray) (h : s.size ≤ 15) : (nameT s).length = 15 := by
  unfold nameT
  rw [List.length_append, str_len, List.length_replicate]; omega
theorem nameB_T (s : ByteArray) : nameB s = UInt8.ofNat s.size :: nameT s := rfl
theorem nameT_lo {s : ByteArray} {k : Nat} (h : k < s.size) : (nameT s)[k]? = some s[k] := by
  unfold nameT
  rw [List.getElem?_append_left (by rw [str_len]; exact h)]
  exact byte_at h
theorem nameT_hi {s : ByteArray} {k : Nat} (h : s.size ≤ k) (hk : k < 15) : (nameT s)[k]? = some 0 := by
  unfold nameT
  rw [List.getElem?_append_right (by rw [str_len]; exact h), str_len, List.getElem?_replicate, if_pos (by omega)]

set_option maxRecDepth 100000 in
set_option maxHeartbeats 1000000 in
theorem rname_any (g : Nat) (F : Nat → Prop) (l : List UInt8) (s : ByteArray) (w : World) (h : Pq w g F l) (hs : s.size ≤ 15) (hn : l.length + 17 ≤ 1099511627776) :
    Calls Tryz.prog 86 #[.pointer (some ⟨g, 0, none⟩), .string s] w fun r w' => r = .returned (.tuple #[]) ∧ ∃ F', Pq w' g F' (l ++ nameB s) ∧ Mv F F' w w' := by
  have H := Lib.hid h
  have hsi : (s.size : Int) ≤ 15 := by omega
  clear h
  go_enter Tryz.func86, Tryz.ntmps86
  go_wp2_with fail
  refine (rword_1 g F l (s.size : Int) w H.out (by omega) (by omega) (by omega)).mono ?_
  rintro r w1 ⟨rfl, F1, p1, m1⟩
  have P1 := Lib.hid p1
  have M1 := Lib.hid m1
  clear p1 m1 H
  go_wp2_with fail
  go_loopw [4] (fun i wr => ∃ (k : Nat) (F' : Nat → Prop), k ≤ 15 ∧ i = .int .i64 k ∧ Pq wr g F' (l ++ UInt8.ofNat s.size :: (nameT s).take k) ∧ Mv F F' w wr) (fun i _ => 15 - (intOf i).toNat)
  case atStart => exact ⟨0, F1, Nat.zero_le _, rfl, by simpa using P1.out, M1.out⟩
  case round =>
    obtain ⟨k, F', hk, rfl, hp, hm⟩ := hrel
    have HP := Lib.hid hp
    have HM := Lib.hid hm
    clear hp hm
    have hlen : (l ++ UInt8.ofNat s.size :: (nameT s).take k).length + 1 ≤ 1099511627776 := by
      rw [List.length_append, List.length_cons, List.length_take, nameT_len s hs]; omega
    have HL := Lib.hid hlen
    clear hlen
    by_cases hlt : k < 15
    · by_cases hks : k < s.size
      · have hb1 : s[k].toNat < 256 := s[k].toNat_lt
        have HT : Hid ((nameT s).take (k + 1) = (nameT s).take k ++ [UInt8.ofNat ((s[k].toNat : Int)).toNat]) := by
          show _ = _
          rw [take_snoc (nameT_lo hks)]; simp
        go_wp2_with fail
        refine (rword_1 g F' _ (s[k].toNat : Int) wr HP.out (by omega) (by omega) HL.out).mono ?_
        rintro r w2 ⟨rfl, F2, p2, m2⟩
        have P2 := Lib.hid p2
        have M2 := Lib.hid m2
        clear p2 m2
        go_wp2
        go_roundw
        case rel => exact ⟨k + 1, F2, by omega, by go_num, by rw [HT.out]; simpa using P2.out, HM.out.trans M2.out⟩
        case measure => simp [intOf]; omega
      · have HT : Hid ((nameT s).take (k + 1) = (nameT s).take k ++ [UInt8.ofNat ((0 : Int)).toNat]) := by
          show _ = _
          rw [take_snoc (nameT_hi (by omega) hlt)]; rfl
        have hki : ¬ (k : Int) < (s.size : Int) := by omega
        go_wp2_with fail
        refine (rword_1 g F' _ 0 wr HP.out (by omega) (by omega) HL.out).mono ?_
        rintro r w2 ⟨rfl, F2, p2, m2⟩
        have P2 := Lib.hid p2
        have M2 := Lib.hid m2
        clear p2 m2
        go_wp2
        go_roundw
        case rel => exact ⟨k + 1, F2, by omega, by go_num, by rw [HT.out]; simpa using P2.out, HM.out.trans M2.out⟩
        case measure => simp [intOf]; omega
    · obtain rfl : k = 15 := by omega
      go_wp2_with fail
      go_end0
      refine ⟨rfl, F', ?_, HM.out⟩
      have := HP.out
      rwa [take_all (by rw [nameT_len s hs]; exact Nat.le_refl _), ← nameB_T] at this

/-- The document's unpacker. -/
def Uq (w : World) (g : Nat) (e : Int) (b : List UInt8) : Prop := Blk w g 125 #[.string (bstr b), .int .i64 e]
theorem rufail_new (g : Nat) (e : Int) (b : List UInt8) (w : World) (h : Uq w g 0 b) :
    Calls Tryz.prog 134 #[.pointer (some ⟨g, 0, none⟩), .int .i64 e] w fun r w' => r = .returned (.tuple #[]) ∧ Uq w' g e b ∧ Fr (fun k => k = g) w w' := by
  have c1 := h.cell 1
  have f1 := h.frozen 1
  simp only [List.getElem?_toArray, List.getElem?_cons_succ, List.getElem?_cons_zero] at c1
  have H := Lib.hid h
  clear h
  go_enter Tryz.func134, Tryz.ntmps134
  go_wp2
  go_end0
  exact ⟨rfl, H.out.set_ 1 _, (Fr.refl (fun k => k = g) w).setCell (p := ⟨g, 1, none⟩) (.inl rfl) _⟩
set_option maxRecDepth 100000 in
theorem rtake_any (g : Nat) (e : Int) (b : List UInt8) (n : Nat) (w : World) (h : Uq w g e b) (hb : b.length ≤ 1099511627776) :
    Calls Tryz.prog 133 #[.pointer (some ⟨g, 0, none⟩), .int .i64 n] w fun r w' => r = .returned (.string (bstr (uTake e b n).2.2)) ∧ Uq w' g (uTake e b n).1 (uTake e b n).2.1 ∧ Fr (fun k => k = g) w w' := by
  have c0 := h.cell 0
  have c1 := h.cell 1
  have f0 := h.frozen 0
  have f1 := h.frozen 1
  simp only [List.getElem?_toArray, List.getElem?_cons_succ, List.getElem?_cons_zero] at c0 c1
  have hsz := bstr_size b
  have H := Lib.hid h
  clear h
  by_cases he : e = 0
  · subst he
    by_cases hl : b.length < n
    · have hl' : (bstr b).size < n := by omega
      have hli : ((bstr b).size : Int) < (n : Int) := by omega
      have hb' : (bstr b).size ≤ 1099511627776 := by omega
      clear hsz
      go_enter Tryz.func133, Tryz.ntmps133
      go_wp2_with fail
      refine (rufail_new g 5 b w H.out).mono ?_
      rintro r w1 ⟨rfl, u1, f1⟩
      have U1 := Lib.hid u1
      have F1 := Lib.hid f1
      clear u1 f1 c0 c1
      go_wp2
      go_ret
      simp only [uTake, if_true, if_pos hl]
      exact ⟨rfl, U1.out, F1.out⟩
    · have hl' : n ≤ (bstr b).size := by omega
      have hli : ¬ ((bstr b).size : Int) < (n : Int) := by omega
      have hb' : (bstr b).size ≤ 1099511627776 := by omega
      have Hz := Lib.hid hsz
      clear hsz
      go_enter Tryz.func133, Tryz.ntmps133
      go_wp2
      go_ret
      simp only [uTake, if_true, if_neg hl]
      have e1 : (bstr b).extract 0 n = bstr (b.take n) := by rw [bstr_extract]; simp
      have e2 : (bstr b).extract n (bstr b).size = bstr (b.drop n) := by rw [bstr_extract, List.take_of_length_le (by rw [Hz.out]; exact Nat.le_refl _)]
      rw [e1, e2]
      exact ⟨rfl, H.out.set_ 0 _, (Fr.refl (fun k => k = g) w).setCell (p := ⟨g, 0, none⟩) (.inl rfl) _⟩
  · have he1 : (e == 0) = false := by simpa using he
    have he2 : (e != 0) = true := by simpa using he
    have He := Lib.hid he
    clear he hsz
    go_enter Tryz.func133, Tryz.ntmps133
    go_wp2
    go_ret
    simp only [uTake, if_neg He.out]
    exact ⟨rfl, H.out, Fr.refl _ _⟩

theorem ofLe_drop {l : List UInt8} {k : Nat} (h : k < l.length) : ofLe (l.drop k) = l[k].toNat + 256 * ofLe (l.drop (k + 1)) := by
  rw [List.drop_eq_getElem_cons h]; rfl
theorem wrap_acc {c d : Nat} (h : c + 256 * d < 18446744073709551616) : IntKind.u64.wrap (IntKind.u64.wrap ((d : Int) * 256) + IntKind.u64.wrap (c : Int)) = ((c + 256 * d : Nat) : Int) := by
  rw [IntKind.wrap_u64, IntKind.wrap_u64, IntKind.wrap_u64]; omega
set_option maxHeartbeats 1000000 in
theorem rlittle_any (l : List UInt8) (w : World) (hl : l.length ≤ 8) :
    Calls Tryz.prog 144 #[.string (bstr l)] w fun r w' => r = .returned (.int .u64 (ofLe l)) ∧ w = w' := by
  have hz := bstr_size l
  have hidx : ∀ (k : Nat) (h : k < (bstr l).size) (h' : k < l.length), (bstr l)[k]'h = l[k] := fun k h h' => rfl
  have HX := Lib.hid hidx
  obtain ⟨S, hS⟩ : ∃ S, bstr l = S := ⟨_, rfl⟩
  rw [hS] at HX hz ⊢
  have Hz := Lib.hid hz
  have hSb : S.size ≤ 8 := by omega
  clear hidx hS hz
  go_enter Tryz.func144, Tryz.ntmps144
  go_wp2_with fail
  go_loop [3, 4] (fun v i => ∃ k : Nat, k ≤ S.size ∧ i = .int .i64 ((k : Int) - 1) ∧ v = .int .u64 (ofLe (l.drop k))) (fun _ i => (intOf i + 1).toNat)
  case atStart => exact ⟨S.size, Nat.le_refl _, rfl, by rw [List.drop_eq_nil_of_le (by rw [Hz.out]; exact Nat.le_refl _)]; rfl⟩
  case round =>
    obtain ⟨k, hk, rfl, rfl⟩ := hrel
    have hD : Hid (∀ j, ofLe (l.drop j) < 18446744073709551616) := fun j => ofLe_lt64 (by rw [List.length_drop]; omega)
    obtain ⟨D, hDk⟩ : ∃ D, ofLe (l.drop k) = D := ⟨_, rfl⟩
    rw [hDk]
    have HDk := Lib.hid hDk
    clear hDk
    by_cases h0 : 0 < k
    · obtain ⟨j, rfl⟩ : ∃ j, k = j + 1 := ⟨k - 1, by omega⟩
      have hj : j < S.size := by omega
      have hi1 : ((j + 1 : Nat) : Int) - 1 = (j : Int) := by omega
      have hlj : j < l.length := by have := Hz.out; omega
      have HE : Hid (ofLe (l.drop j) = S[j].toNat + 256 * D) := by show _ = _; rw [ofLe_drop hlj, HDk.out, ← HX.out j hj hlj]
      rw [hi1]
      clear hi1 hlj
      go_wp2
      go_round
      case rel => exact ⟨j, by omega, rfl, congrArg (Value.int .u64) (by rw [HE.out]; exact wrap_acc (by rw [← HE.out]; exact hD.out j))⟩
      case measure => (simp [intOf] <;> omega)
    · obtain rfl : k = 0 := by omega
      go_wp2
      go_ret
      exact ⟨ret_int (by rw [← HDk.out]; rfl), rfl⟩
theorem rword_get (g : Nat) (e : Int) (b : List UInt8) (w : World) (h : Uq w g e b) (hb : b.length ≤ 1099511627776) :
    Calls Tryz.prog 135 #[.pointer (some ⟨g, 0, none⟩)] w fun r w' => r = .returned (.int .u64 (ofLe (uTake e b 8).2.2)) ∧ Uq w' g (uTake e b 8).1 (uTake e b 8).2.1 ∧ Fr (fun k => k = g) w w' := by
  have hl := uTake_len e b 8
  have hc := rtake_any g e b 8 w h hb
  generalize uTake e b 8 = t at *
  have Hl := Lib.hid hl
  have Hc := Lib.hid hc
  clear hl hc h
  go_enter Tryz.func135, Tryz.ntmps135
  go_wp2_with fail
  refine Hc.out.mono ?_
  rintro r w1 ⟨rfl, hu, hf⟩
  go_wp2_with fail
  refine (rlittle_any t.2.2 w1 Hl.out).mono ?_
  rintro r w2 ⟨rfl, rfl⟩
  go_wp2
  go_ret
  exact ⟨rfl, hu, hf⟩
theorem rint_get (g : Nat) (e : Int) (b : List UInt8) (w : World) (h : Uq w g e b) (hb : b.length ≤ 1099511627776) :
    Calls Tryz.prog 90 #[.pointer (some ⟨g, 0, none⟩)] w fun r w' => r = .returned (.int .i64 (sgn (ofLe (uTake e b 8).2.2))) ∧ Uq w' g (uTake e b 8).1 (uTake e b 8).2.1 ∧ Fr (fun k => k = g) w w' := by
  have hl := uTake_len e b 8
  have hc := rword_get g e b w h hb
  generalize uTake e b 8 = t at *
  have Hv := Lib.hid (ofLe_lt64 hl)
  have Hc := Lib.hid hc
  clear hl hc h
  go_enter Tryz.func90, Tryz.ntmps90
  go_wp2_with fail
  refine Hc.out.mono ?_
  rintro r w1 ⟨rfl, hu, hf⟩
  go_wp2
  go_ret
  exact ⟨ret_int ((IntWalk.i64_left _).symm.trans (wrap_sgn _ Hv.out)), hu, hf⟩
theorem allZ_drop {l : List UInt8} {k : Nat} (h : k < l.length) : allZ (l.drop k) = ((l[k] == 0) && allZ (l.drop (k + 1))) := by
  rw [List.drop_eq_getElem_cons h]; rfl
set_option maxRecDepth 100000 in
set_option maxHeartbeats 2000000 in
theorem rname_get (g : Nat) (e : Int) (b : List UInt8) (w : World) (h : Uq w g e b) (hb : b.length ≤ 1099511627776) :
    Calls Tryz.prog 89 #[.pointer (some ⟨g, 0, none⟩)] w fun r w' => r = .returned (.string (bstr (uName e b).2.2)) ∧ Uq w' g (uName e b).1 (uName e b).2.1 ∧ Fr (fun k => k = g) w w' := by
  have hc := rtake_any g e b 16 w h hb
  have h16 : (uTake e b 16).2.2 = [] ∨ ((uTake e b 16).2.2.length = 16 ∧ (uTake e b 16).1 = 0) := by
    unfold uTake
    split
    · split
      · exact .inl rfl
      · right; simp; omega
    · exact .inl rfl
  unfold uName
  generalize uTake e b 16 = t at *
  have Hc := Lib.hid hc
  clear hc h
  rcases h16 with h16 | ⟨h16, hz⟩
  · rw [if_pos h16]
    rw [h16] at Hc
    have he : (bstr []).toList = [] := by rw [Lib.toList_data, bstr_list]
    go_enter Tryz.func89, Tryz.ntmps89
    go_wp2_with fail
    refine Hc.out.mono ?_
    rintro r w1 ⟨rfl, hu, hf⟩
    go_wp2
    go_ret
    exact ⟨rfl, hu, hf⟩
  · have hne : t.2.2 ≠ [] := by intro h; rw [h] at h16; cases h16
    rw [if_neg hne]
    obtain ⟨e', b', l⟩ := t
    simp only at h16 hz hne Hc ⊢
    subst hz
    have hok : nameOk l = (decide ((l.headD 0).toNat ≤ 15) && allZ (l.drop (1 + (l.headD 0).toNat))) := rfl
    obtain ⟨c, hcl⟩ : ∃ c, l.headD 0 = c := ⟨_, rfl⟩
    rw [hcl] at hok ⊢
    have hres : ∀ n, n ≤ 15 → (bstr l).extract 1 (1 + n) = bstr ((l.drop 1).take n) := by
      intro n hn
      rw [bstr_extract, List.drop_take, Nat.add_sub_cancel_left]
    have hidx : ∀ h : 0 < (bstr l).size, (bstr l)[0]'h = c := by
      intro h
      show l[0] = c
      rw [← hcl]
      cases l with
      | nil => simp at h16
      | cons a t => rfl
    have hget : ∀ (k : Nat) (h : k < (bstr l).size) (h' : k < l.length), (bstr l)[k]'h = l[k] := fun k h h' => rfl
    have hemp : (bstr l).toList.isEmpty = false := by
      rw [Lib.toList_data, bstr_list]
      cases l with
      | nil => simp at h16
      | cons a t => rfl
    have hsz : (bstr l).size = 16 := by rw [bstr_size]; exact h16
    have hcb := c.toNat_lt
    obtain ⟨S, hS⟩ : ∃ S, bstr l = S := ⟨_, rfl⟩
    rw [hS] at Hc hres hidx hget hemp hsz
    have Hres := Lib.hid hres
    have Hget := Lib.hid hget
    have H16 := Lib.hid h16
    have Hok := Lib.hid hok
    clear hres h16 hne hS hok hget hcl
    have hs0 : 0 < S.size := by omega
    by_cases hn : 15 < c.toNat
    · have hni : (15 : Int) < (c.toNat : Int) := by omega
      rw [if_neg (by rw [Hok.out, decide_eq_false (by omega)]; simp)]
      go_enter Tryz.func89, Tryz.ntmps89
      go_wp2_with fail
      refine Hc.out.mono ?_
      rintro r w1 ⟨rfl, hu, hf⟩
      have Hu := Lib.hid hu
      have Hf := Lib.hid hf
      clear hu hf
      go_wp2_with fail
      refine (rufail_new g 6 _ w1 Hu.out).mono ?_
      rintro r w2 ⟨rfl, u2, f2⟩
      have U2 := Lib.hid u2
      have F2 := Lib.hid f2
      clear u2 f2
      go_wp2
      go_ret
      exact ⟨rfl, U2.out, Hf.out.trans F2.out (fun _ h => .inl h)⟩
    · have hni : ¬ (15 : Int) < (c.toNat : Int) := by omega
      have hnd : decide ((15 : Int) < (c.toNat : Int)) = false := decide_eq_false hni
      obtain ⟨n, hcn⟩ : ∃ n, c.toNat = n := ⟨_, rfl⟩
      rw [hcn] at hni hnd hn hcb Hok ⊢
      have hok2 : Hid (nameOk l = allZ (l.drop (1 + n))) := by show _ = _; rw [Hok.out, decide_eq_true (by omega), Bool.true_and]
      obtain ⟨R, hR⟩ : ∃ R, (if nameOk l = true then ((0 : Int), b', (l.drop 1).take n) else (6, b', [])) = R := ⟨_, rfl⟩
      rw [hR]
      have HR := Lib.hid hR
      clear hR
      go_enter Tryz.func89, Tryz.ntmps89
      go_wp2_with fail
      refine Hc.out.mono ?_
      rintro r w1 ⟨rfl, hu, hf⟩
      have Hu := Lib.hid hu
      have Hf := Lib.hid hf
      clear hu hf
      go_wp2_with fail
      go_loopw [5] (fun i wr => ∃ k : Nat, k ≤ 16 ∧ 1 + n ≤ k ∧ i = .int .i64 k ∧ w1 = wr ∧ Hid (nameOk l = allZ (l.drop k))) (fun i _ => 16 - (intOf i).toNat)
      case atStart => exact ⟨1 + n, by omega, Nat.le_refl _, by simp, rfl, hok2.out⟩
      case round =>
        obtain ⟨k, hk, hnk, rfl, rfl, hz⟩ := hrel
        by_cases hlt : k < 16
        · have hks : k < S.size := by omega
          have hkl : k < l.length := by have := H16.out; omega
          have hlk := Hget.out k hks hkl
          have hAZ := allZ_drop hkl
          have hZ : nameOk l = ((S[k] == 0) && allZ (l.drop (k + 1))) := by rw [hz.out, hAZ, hlk]
          have HZ := Lib.hid hZ
          clear hlk hAZ hZ hkl
          by_cases h0 : S[k] = 0
          · have H0 : Hid (nameOk l = allZ (l.drop (k + 1))) := by show _ = _; rw [HZ.out, h0]; rfl
            have h1 : ((S[k].toNat : Int) != 0) = false := by rw [h0]; rfl
            clear h0
            go_wp2_with fail
            go_roundw
            case rel => exact ⟨k + 1, by omega, by omega, by go_num, by trivial, H0.out⟩
            case measure => simp [intOf]; omega
          · have H0 : Hid (nameOk l = false) := by show _ = _; rw [HZ.out, show (S[k] == 0) = false by simpa using h0]; rfl
            have h1 : ((S[k].toNat : Int) != 0) = true := by
              have : S[k].toNat ≠ 0 := fun h => h0 (UInt8.toNat_inj.1 h)
              simpa using this
            clear h0
            go_wp2_with fail
            refine (rufail_new g 6 _ w1 Hu.out).mono ?_
            rintro r w2 ⟨rfl, u2, f2⟩
            have U2 := Lib.hid u2
            have F2 := Lib.hid f2
            clear u2 f2 h1
            go_wp2
            go_ret
            rw [← HR.out, if_neg (by rw [H0.out]; simp)]
            exact ⟨rfl, U2.out, Hf.out.trans F2.out (fun _ h => .inl h)⟩
        · obtain rfl : k = 16 := by omega
          have H0 : Hid (nameOk l = true) := by
            show _ = _
            rw [hz.out, List.drop_eq_nil_of_le (by rw [H16.out]; exact Nat.le_refl _)]; rfl
          have hto : (1 + (n : Int)).toNat = 1 + n := by omega
          have hle : 1 + n ≤ S.size := by omega
          go_wp2_with fail
          go_ret
          rw [← HR.out, if_pos H0.out]
          exact ⟨by rw [Hres.out n (by omega)]; rfl, Hu.out, Hf.out⟩
end Go.Proofs.YtkickdmiilmkoaaGreatDoor
