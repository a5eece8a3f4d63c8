/- Walks of package pack: Names, Text, Fill, Len, Done. -/
import Derived.Test.YtkickdmiilmkoaaGreatDoorPkB
namespace Go.Proofs.YtkickdmiilmkoaaGreatDoor
open Go.RowKit

/-- A packer, its slice written out. -/
def PkR (w : World) (g : Nat) (A : Option Addr) (m c : Nat) (e : Int) (l : List UInt8) : Prop :=
  Blk w g 87 #[.int .i64 e, .slice A m c] ∧ w.ownsRow 0 5 1 (.slice A m c) m (bys l)
def pkF (g : Nat) (A : Option Addr) (m c : Nat) : Nat → Prop := fun k => k = g ∨ rowF (.slice A m c) k
section
variable {w w1 : World} {g m c m' c' : Nat} {A A' : Option Addr} {e : Int} {l l' : List UInt8}
theorem PkR.pk (h : PkR w g A m c e l) : Pk w g (pkF g A m c) e l := ⟨A, m, c, h.1, h.2, rfl⟩
theorem Pk.open_ {F : Nat → Prop} (h : Pk w g F e l) : ∃ A m c, PkR w g A m c e l ∧ F = pkF g A m c := by
  obtain ⟨A, m, c, h1, h2, h3⟩ := h
  exact ⟨A, m, c, ⟨h1, h2⟩, h3⟩
theorem PkR.len (h : PkR w g A m c e l) : m = l.length := by have := h.2.1; rw [bys_length] at this; omega
theorem PkR.c1 (h : PkR w g A m c e l) : w.cell? ⟨g, 1, none⟩ = some (.slice A m c) := h.1.cell 1
theorem PkR.c0 (h : PkR w g A m c e l) : w.cell? ⟨g, 0, none⟩ = some (.int .i64 e) := h.1.cell 0
theorem PkR.f0 (h : PkR w g A m c e l) : w.frozen? ⟨g, 0, none⟩ = false := h.1.frozen 0
theorem PkR.f1 (h : PkR w g A m c e l) : w.frozen? ⟨g, 1, none⟩ = false := h.1.frozen 1
theorem PkR.ne (h : PkR w g A m c e l) : ¬ rowF (.slice A m c) g := own_blk_ne h.2 h.1 (by decide)
/-- behind an append: the block is still as it was -/
theorem PkR.after {G : Nat → Prop} {w0 : World} (h : PkR w0 g A m c e l) (hm : Mv (rowF (.slice A m c)) G w0 w1) : Blk w1 g 87 #[.int .i64 e, .slice A m c] := h.1.fr hm.fr h.ne
theorem PkR.push {w0 : World} (hb : Blk w1 g 87 #[.int .i64 e, .slice A m c])
    (ho : w1.ownsRow 0 5 1 (.slice A' m' c') m' (bys l)) (hm : Mv (rowF (.slice A m c)) (rowF (.slice A' m' c')) w0 w1) :
    PkR (w1.setCell ⟨g, 1, none⟩ (.slice A' m' c')) g A' m' c' e l ∧ Mv (pkF g A m c) (pkF g A' m' c') w0 (w1.setCell ⟨g, 1, none⟩ (.slice A' m' c')) := by
  have hne : ¬ rowF (.slice A' m' c') g := own_blk_ne ho hb (by decide)
  have hs : Fr (fun k => k = g) w1 (w1.setCell ⟨g, 1, none⟩ (.slice A' m' c')) := (Fr.refl (fun k => k = g) w1).setCell (p := ⟨g, 1, none⟩) (.inl rfl) _
  refine ⟨⟨hb.set_ 1 _, own_fr ho hs (fun k hk hg => hne (hg ▸ hk))⟩, ⟨?_, ?_⟩⟩
  · refine (hm.fr.mono (fun i hi => .inl (.inr hi))).trans hs (fun i hi => .inl (.inl hi))
  · rintro k (hk | hk)
    · exact .inl (.inl hk)
    · exact (hm.sub k hk).imp .inr id
theorem PkR.fr {G : Nat → Prop} (h : PkR w g A m c e l) (hf : Fr G w w1) (hn : ∀ k, pkF g A m c k → ¬ G k) : PkR w1 g A m c e l :=
  ⟨h.1.fr hf (hn g (.inl rfl)), own_fr h.2 hf (fun k hk => hn k (.inr hk))⟩
theorem PkR.fr0 (h : PkR w g A m c e l) (hf : Fr (fun _ => False) w w1) : PkR w1 g A m c e l := h.fr hf (fun _ _ h => h)
end

theorem Pk.cast {w : World} {g : Nat} {F : Nat → Prop} {e : Int} {l l' : List UInt8} (h : Pk w g F e l) (hl : l = l') : Pk w g F e l' := hl ▸ h

/-- append of a string onto a list of bytes, at the operation. -/
theorem wpList_app_str {w : World} {ops : Array Oper} {rest : List Oper} {o : Oper} {a : Act} {Q : Exit → Act → World → Prop} (hgd : o.guard = none) (s x : Operand)
    (ho : o.op = .call { callee := .builtin .append, args := #[s, x], argTypes := #[85, 9] })
    (v : Value) (n : Nat) (l : List UInt8) (hs : a.eval s = v) (hown : w.ownsRow 0 5 1 v n (bys l)) (t : ByteArray) (hx : a.eval x = .string t)
    (hb : n + t.size ≤ 2199023255552)
    (h : ∀ A' c' w', w'.ownsRow 0 5 1 (.slice A' (n + t.size) c') (n + t.size) (bys (l ++ t.data.toList)) → Mv (rowF v) (rowF (.slice A' (n + t.size) c')) w w' → wpList Tryz.prog ops Q rest (a.put o.dst (.slice A' (n + t.size) c')) w') : wpList Tryz.prog ops Q (o :: rest) a w := by
  obtain ⟨i0, hi, hz0, hz1, hz2⟩ := info_parts info_u8
  exact wpList_app_string hgd s x 85 9 ho 5 i0 Tryz.underlying85 Tryz.underlying9 hi hz0 hz1 hz2 v n (bys l) hs hown t hx (by unfold maxLen; omega) (by omega) (fun A' c' w' h1 h2 => h A' c' w' (by rw [bys_append]; exact h1) h2)

/-- A name's place of sixteen bytes. -/
def nameB (s : ByteArray) : List UInt8 := UInt8.ofNat s.size :: s.data.toList ++ List.replicate (15 - s.size) 0
def pNames : Int → List UInt8 → List ByteArray → Int × List UInt8
  | e, l, [] => (e, l)
  | e, l, s :: ss => if e = 0 then (if 15 < s.size then (2, l) else pNames 0 (l ++ nameB s) ss) else (e, l)
theorem le_zero (k : Nat) : le 0 k = List.replicate k 0 := by
  induction k with
  | zero => rfl
  | succ k ih => simp [le, ih, List.replicate_succ]
theorem nameB_len (s : ByteArray) (h : s.size ≤ 15) : (nameB s).length = 16 := by
  have : s.data.toList.length = s.size := by rw [Array.length_toList]; rfl
  simp only [nameB, List.cons_append, List.length_cons, List.length_append, List.length_replicate, this]; omega


set_option maxRecDepth 100000 in
theorem names_any (g : Nat) (F : Nat → Prop) (e : Int) (l : List UInt8) (ss : List ByteArray) (A : Option Addr) (n c : Nat) (w : World) (h : Pk w g F e l)
    (hr : Rd w 1 A n (ss.map Value.string)) (hA : ∀ k, adF A n k → ¬ F k) (hn : l.length + 16 * n ≤ 1099511627776) (hs : ∀ s ∈ ss, s.size ≤ 1099511627776) :
    Calls Tryz.prog 130 #[.pointer (some ⟨g, 0, none⟩), .slice A n c] w fun r w' => r = .returned (.tuple #[]) ∧ ∃ F', Pk w' g F' (pNames e l ss).1 (pNames e l ss).2 ∧ Mv F F' w w' := by
  have hn' : n ≤ 1099511627776 := by omega
  have Hn := Lib.hid hn
  have HA := Lib.hid hA
  have Hs := Lib.hid hs
  clear hn hA hs
  go_enter Tryz.func130, Tryz.ntmps130
  go_wp2
  go_loopw [9] (fun i wr => ∃ (k : Nat) (F' : Nat → Prop) (lk : List UInt8), k ≤ n ∧ i = .int .i64 k ∧ Pk wr g F' e lk ∧ Mv F F' w wr ∧ Hid (pNames e l ss = pNames e lk (ss.drop k)) ∧ Hid (lk.length ≤ l.length + 16 * k)) (fun i _ => n - (intOf i).toNat)
  case atStart => exact ⟨0, F, l, Nat.zero_le _, rfl, h, Mv.refl _ _, by simp [Hid], by simp [Hid]⟩
  case round =>
    obtain ⟨k, F', lk, hk, rfl, hp, hm, hgo, hlen⟩ := hrel
    by_cases hlt : k < n
    · have hr' := hr.fr hm.fr HA.out
      obtain ⟨ad, x, rfl, hu, hc⟩ := hr'.at_map hlt
      clear hr'
      have hdrop : ss.drop k = x :: ss.drop (k + 1) := by
        rw [List.drop_eq_getElem?_toList_append, hu]; rfl
      have Hd := Lib.hid hdrop
      have hz := hr.len_map
      have Hz := Lib.hid hz
      have hxs : x.size ≤ 1099511627776 := Hs.out x (mem_of_get hu)
      clear hu hdrop hz
      obtain ⟨A1, m1, c1', hq, rfl⟩ := hp.open_
      clear hp
      have hp := hq
      clear hq
      have c0 := hp.c0
      have f0 := hp.f0
      have c1 := hp.c1
      have f1 := hp.f1
      have hml := hp.len
      have Hml := Lib.hid hml
      clear hml
      by_cases he : e = 0
      · subst he
        by_cases hx : 15 < x.size
        · go_wp2_with fail
          refine (fail_new _ _ wr c0 f0).mono ?_
          rintro r w1 ⟨rfl, rfl⟩
          go_wp2
          refine bodyPost_ret (results_none rfl _ _ _) rfl ⟨rfl, pkF g A1 m1 c1', ?_⟩
          rw [hgo.out, Hd.out]
          simp only [pNames, if_pos hx, if_true]
          exact ⟨(Pk.setE hp.pk).1, hm.trans (Pk.setE hp.pk).2⟩
        · have hx' : x.size ≤ 15 := by omega
          go_wp2_with fail
          refine (fail_zero _ _ wr c0 f0).mono ?_
          rintro r w1 ⟨rfl, rfl⟩
          go_wp2_with (at_builtin; refine wpList_app_u8 rfl (.tmp 29) (.tmp 33) rfl _ m1 (bys lk) rfl ?c0 (some ⟨wr.heap.size, 0, none⟩) 1 1 [.int .u8 (x.size : Int)] rfl ?c2 ?c3 ?c4 ?_)
          case c0 => exact hp.2.alloc _
          case c2 => exact Rd.new _ _ _ _ rfl
          case c3 => simp [Value.oneCell']
          case c4 => have := Hml.out; have := Hn.out; have := hlen.out; omega
          intro A2 c2 w1 ho2 hm2
          rw [← bys_one (by omega : x.size < 256), ← bys_append] at ho2
          have hp' : PkR (wr.alloc (.cells #[.int .u8 (x.size : Int)] 5)) g A1 m1 c1' 0 lk := hp.fr0 (Fr.none_alloc _ _)
          have hb2 := hp'.after hm2
          obtain ⟨hp2, hm2'⟩ := PkR.push hb2 ho2 hm2
          have k1 := hb2.cell 1
          have k2 := hb2.frozen 1
          simp only [List.getElem?_toArray, List.getElem?_cons_succ, List.getElem?_cons_zero] at k1
          have k3 := hp2.c1
          have k4 := hp2.f1
          have Hp2 := Lib.hid hp2
          have Hm2 := Lib.hid hm2'
          clear hp2 hm2' hb2 ho2 hm2 hp' c0 f0 c1 f1 hc
          go_wp2_with (at_builtin; refine wpList_app_str rfl (.tmp 41) (.tmp 42) rfl _ (m1 + 1) (lk ++ [UInt8.ofNat x.size]) rfl ?c0 x rfl ?c4 ?_)
          case c0 => exact Hp2.out.2
          case c4 => have := Hml.out; have := Hn.out; have := hlen.out; omega
          intro A3 c3 w3 ho3 hm3
          have hb3 := Hp2.out.after hm3
          obtain ⟨hp3, hm3'⟩ := PkR.push hb3 ho3 hm3
          have j1 := hb3.cell 1
          have j2 := hb3.frozen 1
          simp only [List.getElem?_toArray, List.getElem?_cons_succ, List.getElem?_cons_zero] at j1
          have Hp3 := Lib.hid hp3
          have Hm3 := Lib.hid hm3'
          clear hp3 hm3' hb3 ho3 hm3 k1 k2 k3 k4
          go_wp2_with fail
          refine (low_int g _ 0 _ 0 (15 - (x.size : Int)) _ Hp3.out.pk (by omega) (by omega) ?_).mono ?_
          · have := Hml.out; have := Hn.out; have := hlen.out; have := str_len x; simp only [List.length_append, List.length_cons, List.length_nil]; omega
          rintro r w4 ⟨rfl, F4, hp4, hm4⟩
          clear j1 j2
          go_wp2
          go_roundw
          case rel =>
            have e1 : (lk ++ UInt8.ofNat x.size :: x.data.toList ++ le (Int.toNat 0) (15 - (x.size : Int)).toNat) = lk ++ nameB x := by
              rw [show (15 - (x.size : Int)).toNat = 15 - x.size by omega, show Int.toNat 0 = 0 from rfl, le_zero]
              simp [nameB]
            rw [e1] at hp4
            refine ⟨k + 1, F4, _, by omega, by go_num, hp4, hm.trans ((Mv.none_alloc _ _ _).trans (Hm2.out.trans (Hm3.out.trans hm4))), ?_, ?_⟩
            · show pNames 0 l ss = _
              rw [hgo.out, Hd.out]
              simp only [pNames, if_true, if_neg hx]
            · have := hlen.out
              show List.length _ ≤ _
              simp only [List.length_append, nameB_len x hx']; omega
          case measure => simp [intOf]; omega
      · have he1 : (e == 0) = false := by simpa using he
        have he2 : (e != 0) = true := by simpa using he
        have He := Lib.hid he
        clear he
        by_cases hx : 15 < x.size
        all_goals
          go_wp2_with fail
          refine (fail_keep _ _ _ wr c0 he1 he2).mono ?_
          rintro r w1 ⟨rfl, rfl⟩
          go_wp2
          refine bodyPost_ret (results_none rfl _ _ _) rfl ⟨rfl, pkF g A1 m1 c1', ?_⟩
          rw [hgo.out, Hd.out]
          simp only [pNames, if_neg He.out]
          exact ⟨hp.pk, hm⟩
    · go_wp2
      go_end0
      have hz := hr.len_map
      rw [hgo.out, List.drop_eq_nil_of_le (by omega)]
      exact ⟨rfl, F', hp, hm⟩

/-- Text. -/
def textB (s : ByteArray) : List UInt8 := le s.size 2 ++ s.data.toList
def pText (e : Int) (l : List UInt8) (s : ByteArray) : Int × List UInt8 := if e = 0 then (if 60000 < s.size then (2, l) else (0, l ++ textB s)) else (e, l)

/-- Fill. -/
def pFill (e : Int) (l : List UInt8) (n : Int) : Int × List UInt8 :=
  if e = 0 then (if n < 0 ∨ 60000 < n then (1, l) else if n < l.length then (2, l) else (0, l ++ List.replicate (n.toNat - l.length) 0)) else (e, l)

set_option maxRecDepth 100000 in
theorem fill_err (g : Nat) (F : Nat → Prop) (e : Int) (l : List UInt8) (n : Int) (w : World) (h : Pk w g F e l) (he : ¬ e = 0) :
    Calls Tryz.prog 139 #[.pointer (some ⟨g, 0, none⟩), .int .i64 n] w fun r w' => r = .returned (.tuple #[]) ∧ w = w' := by
  obtain ⟨A1, m1, c1', hp, rfl⟩ := h.open_
  have c0 := hp.c0
  have c1 := hp.c1
  have he1 : (e == 0) = false := by simpa using he
  have he2 : (e != 0) = true := by simpa using he
  clear he
  by_cases a1 : n < 0
  · go_enter Tryz.func139, Tryz.ntmps139
    go_wp2_with fail
    refine (fail_keep _ _ _ w c0 he1 he2).mono ?_
    rintro r w1 ⟨rfl, rfl⟩
    go_wp2
    go_end0
    exact ⟨rfl, rfl⟩
  by_cases a2 : 60000 < n
  · go_enter Tryz.func139, Tryz.ntmps139
    go_wp2_with fail
    refine (fail_keep _ _ _ w c0 he1 he2).mono ?_
    rintro r w1 ⟨rfl, rfl⟩
    go_wp2
    go_end0
    exact ⟨rfl, rfl⟩
  by_cases a3 : n < m1
  all_goals
    go_enter Tryz.func139, Tryz.ntmps139
    go_wp2_with fail
    refine (fail_keep _ _ _ w c0 he1 he2).mono ?_
    rintro r w1 ⟨rfl, rfl⟩
    go_wp2
    go_end0
    exact ⟨rfl, rfl⟩

set_option maxRecDepth 100000 in
theorem fill_ok (g : Nat) (F : Nat → Prop) (l : List UInt8) (n : Int) (w : World) (h : Pk w g F 0 l) (hn : l.length ≤ 1099511627776) :
    Calls Tryz.prog 139 #[.pointer (some ⟨g, 0, none⟩), .int .i64 n] w fun r w' => r = .returned (.tuple #[]) ∧ ∃ F', Pk w' g F' (pFill 0 l n).1 (pFill 0 l n).2 ∧ Mv F F' w w' := by
  obtain ⟨A1, m1, c1', hp, rfl⟩ := h.open_
  have c0 := hp.c0
  have f0 := hp.f0
  have c1 := hp.c1
  have hml := hp.len
  have Hml := Lib.hid hml
  have hm1 : m1 ≤ 1099511627776 := by omega
  clear hml
  by_cases a1 : n < 0
  · go_enter Tryz.func139, Tryz.ntmps139
    go_wp2_with fail
    refine (fail_new _ _ w c0 f0).mono ?_
    rintro r w1 ⟨rfl, rfl⟩
    go_wp2
    go_end0
    refine ⟨rfl, pkF g A1 m1 c1', ?_⟩
    simp only [pFill, if_true, if_pos (show n < 0 ∨ 60000 < n from .inl a1)]
    exact Pk.setE hp.pk
  by_cases a2 : 60000 < n
  · go_enter Tryz.func139, Tryz.ntmps139
    go_wp2_with fail
    refine (fail_new _ _ w c0 f0).mono ?_
    rintro r w1 ⟨rfl, rfl⟩
    go_wp2
    go_end0
    refine ⟨rfl, pkF g A1 m1 c1', ?_⟩
    simp only [pFill, if_true, if_pos (show n < 0 ∨ 60000 < n from .inr a2)]
    exact Pk.setE hp.pk
  by_cases a3 : n < m1
  · go_enter Tryz.func139, Tryz.ntmps139
    go_wp2_with fail
    refine (fail_new _ _ w c0 f0).mono ?_
    rintro r w1 ⟨rfl, rfl⟩
    go_wp2
    go_end0
    refine ⟨rfl, pkF g A1 m1 c1', ?_⟩
    simp only [pFill, if_true, if_neg (show ¬ (n < 0 ∨ 60000 < n) by omega), if_pos (show n < l.length by rw [← Hml.out]; exact a3)]
    exact Pk.setE hp.pk
  · go_enter Tryz.func139, Tryz.ntmps139
    go_wp2_with fail
    refine (fail_zero _ _ w c0 f0).mono ?_
    rintro r w1 ⟨rfl, rfl⟩
    go_wp2_with fail
    refine (low_int g _ 0 l 0 (n - (m1 : Int)) _ hp.pk (by omega) (by omega) (by have := Hml.out; omega)).mono ?_
    rintro r w2 ⟨rfl, F2, hp2, hm2⟩
    clear c0 f0 c1
    go_wp2
    go_end0
    refine ⟨rfl, F2, ?_⟩
    simp only [pFill, if_true, if_neg (show ¬ (n < 0 ∨ 60000 < n) by omega), if_neg (show ¬ n < l.length by have := Hml.out; omega)]
    rw [show (n - (m1 : Int)).toNat = n.toNat - l.length by have := Hml.out; omega, show Int.toNat 0 = 0 from rfl, le_zero] at hp2
    exact ⟨hp2, hm2⟩

theorem fill_any (g : Nat) (F : Nat → Prop) (e : Int) (l : List UInt8) (n : Int) (w : World) (h : Pk w g F e l) (hn : l.length ≤ 1099511627776) :
    Calls Tryz.prog 139 #[.pointer (some ⟨g, 0, none⟩), .int .i64 n] w fun r w' => r = .returned (.tuple #[]) ∧ ∃ F', Pk w' g F' (pFill e l n).1 (pFill e l n).2 ∧ Mv F F' w w' := by
  by_cases he : e = 0
  · subst he
    exact fill_ok g F l n w h hn
  · refine (fill_err g F e l n w h he).mono fun r w' ⟨h1, h2⟩ => ⟨h1, F, ?_, h2 ▸ Mv.refl _ _⟩
    subst h2
    simpa [pFill, he] using h

theorem done_nil (w : World) : Calls Tryz.prog 43 #[.pointer none] w fun r w' => r = .returned (.tuple #[.string ByteArray.empty, .int .i64 1]) ∧ w = w' := by
  go_enter Tryz.func43, Tryz.ntmps43
  go_wp2
  go_ret2
  exact ⟨rfl, rfl⟩
set_option maxRecDepth 100000 in
theorem done_err (g : Nat) (F : Nat → Prop) (e : Int) (l : List UInt8) (w : World) (h : Pk w g F e l) (he : (e != 0) = true) :
    Calls Tryz.prog 43 #[.pointer (some ⟨g, 0, none⟩)] w fun r w' => r = .returned (.tuple #[.string ByteArray.empty, .int .i64 e]) ∧ ∃ m, w' = w.drewN m := by
  have c0 := h.c0
  go_enter Tryz.func43, Tryz.ntmps43
  go_wp2
  go_quiet (fail)
  go_wp2
  go_ret2
  exact ⟨rfl, nq, rfl⟩
set_option maxRecDepth 100000 in
theorem done_ok (g : Nat) (F : Nat → Prop) (l : List UInt8) (w : World) (h : Pk w g F 0 l) :
    Calls Tryz.prog 43 #[.pointer (some ⟨g, 0, none⟩)] w fun r w' => r = .returned (.tuple #[.string ⟨l.toArray⟩, .int .i64 0]) ∧ w = w' := by
  obtain ⟨A1, m1, c1', hp, rfl⟩ := h.open_
  have c0 := hp.c0
  have c1 := hp.c1
  have hcv := run_bytes_string (P := Tryz.prog) 85 9 5 Tryz.underlying85 Tryz.underlying5 Tryz.underlying9 c1' (Rd.of_own hp.2)
  go_enter Tryz.func43, Tryz.ntmps43
  go_wp2
  go_ret2
  exact ⟨rfl, rfl⟩
end Go.Proofs.YtkickdmiilmkoaaGreatDoor
