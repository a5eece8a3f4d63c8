/- The statement PackFills: the walk. -/
import Derived.Test.YtomofnmlhjpifaaDoorRefNum
import Derived.Deep.DeepCutAuto
import Derived.Deep.RegionWith
namespace Go.Proofs.YtomofnmlhjpifaaDoor
open Go.RowKit

def FInv (w w2 : World) (F : Nat → Prop) (w' : World) : Prop := Own w w' F ∧ Fr (fun _ => False) w2 w'
theorem FInv.start {w w2 : World} {F : Nat → Prop} (h : Own w w2 F) : FInv w w2 F w2.drew := ⟨h.skip ((Fr.refl _ _).drew), (Fr.refl _ _).drew⟩
theorem FInv.alloc {w w2 w' : World} {F : Nat → Prop} (h : FInv w w2 F w') (o : Obj) : FInv w w2 F (w'.alloc o) := ⟨h.1.skip (Fr.none_alloc _ _), h.2.trans (Fr.none_alloc _ _) (fun _ h => h.elim)⟩
theorem flen {w w2 : World} {F : Nat → Prop} {g : Nat} {l : List UInt8} (n : Int) (hl : l.length = n.toNat) (hp : Pk w2 g F 0 l) (w' : World) (h : FInv w w2 F w') (hn : 0 ≤ n) (hn2 : n ≤ 2000) :
    Calls Tryd.prog 24 #[.pointer (some ⟨g, 0, none⟩)] w' fun r w'' => r = .returned (.int .i64 n) ∧ FInv w w2 F w'' :=
  (len_any g F 0 l w' (hp.fr h.2 (fun _ _ h => h)) (by omega)).mono fun _ _ ⟨h1, h2⟩ => ⟨by rw [h1, hl, Int.toNat_of_nonneg hn], h2 ▸ h⟩
/-- What is held may grow on the way through a region. -/
theorem wpAnyH_strong {P : Program} {md : Region.Mode} {ops : Array Oper} {Q : Exit → Act → World → Prop} {S S' : World → Prop} (h : ∀ w, S' w → S w) :
    ∀ (fuel : Nat) (listed : Array Bool) (a : Act) (w : World), wpAnyH P md ops Q S' fuel listed a w → wpAnyH P md ops Q S fuel listed a w
  | 0, _, _, _, k => k
  | fuel + 1, _, _, _, k => ⟨k.1, fun i hi => wpOp_mono (fun a' w' k' => ⟨h w' k'.1, wpAnyH_strong h fuel _ a' w' k'.2⟩) (k.2 i hi)⟩
theorem flen2 {w w2 : World} {F : Nat → Prop} {g : Nat} {l : List UInt8} (n : Int) (hl : l.length = n.toNat) (hp : Pk w2 g F 0 l) (w' : World) (h : FInv w w2 F w') (hn : 0 ≤ n) (hn2 : n ≤ 2000) :
    Calls Tryd.prog 24 #[.pointer (some ⟨g, 0, none⟩)] w' fun r w'' => r = .returned (.int .i64 n) ∧ w' = w'' :=
  (len_any g F 0 l w' (hp.fr h.2 (fun _ _ h => h)) (by omega)).mono fun _ _ ⟨h1, h2⟩ => ⟨by rw [h1, hl, Int.toNat_of_nonneg hn], h2⟩
theorem make_zeros (m : Int) (h0 : 0 ≤ m) (h1 : m ≤ 2000) : ∃ (C : Array Value) (Z : ByteArray),
    (∀ W : World, (Instr.makeSlice 26 (.int .i64 m) (.int .i64 m)).run Tryd.prog W = .ok (.slice (some ⟨W.heap.size, 0, none⟩) m.toNat m.toNat) (W.alloc (.cells C 5))) ∧
    (∀ W : World, (convert 26 9 (.slice (some ⟨W.heap.size, 0, none⟩) m.toNat m.toNat)).run Tryd.prog (W.alloc (.cells C 5)) = .ok (.string Z) (W.alloc (.cells C 5))) ∧ Z = bstr (List.replicate m.toNat 0) := by
  obtain ⟨i0, hi, hz0, hz1, hz2⟩ := info_parts info_u8
  refine ⟨madeCells #[.int .u8 0] m.toNat, bstr (List.replicate m.toNat 0), fun W => ?_, fun W => ?_, rfl⟩
  · have := run_make (P := Tryd.prog) W 26 5 i0 (.int .u8 0) Tryd.underlying26 hi hz0 .i64 .i64 m m h0 (Int.le_refl _) (by rw [hz2]; omega) (by omega)
    rw [this, hz1, Nat.mul_one]
    rfl
  · have hb : madeCells #[.int .u8 0] m.toNat = (bys (List.replicate m.toNat 0)).toArray := by
      apply Array.ext
      · simp [size_madeCells, bys_length]
      · intro i h1 h2
        simp [madeCells, bys, Nat.mod_one]
    refine run_bytes_string 26 9 5 Tryd.underlying26 Tryd.underlying5 Tryd.underlying9 _ ?_
    rw [hb]
    exact Rd.new _ _ _ _ (by rw [bys_length, List.length_replicate])
theorem falive {w w2 : World} {F : Nat → Prop} (ht : Tab w) (w' : World) (h : FInv w w2 F w') : Calls Tryd.prog 13 #[] w' fun r w'' => r = .returned (.bool true) ∧ FInv w w2 F w'' :=
  (alive_any w' (ht.below h.1.bel)).mono fun _ _ ⟨h1, h2⟩ => ⟨h1, h.1.below h2, h.2.trans (Fr.of_below h2 (F := fun _ => False)) (fun _ h => .inl h)⟩

set_option maxRecDepth 100000 in
set_option maxHeartbeats 4000000 in
theorem fills_walk (S : ByteArray) (n : Int) (w : World) (ht : Tab w) :
    Calls Tryd.prog 6 #[.string S, .int .i64 n] w fun r w' => r = .returned (.bool true) ∧ Below w.heap.size w w' := by
  have Ht := Lib.hid ht
  clear ht
  by_cases hl : S.size ≤ 500 ∧ 0 ≤ n ∧ n ≤ 2000
  · obtain ⟨hl, hn0, hn2⟩ := hl
    have hz1 : (S.size : Int) ≤ 500 := by omega
    have hz1' : S.size ≤ 500 := by omega
    have Hl := Lib.hid hl
    clear hl
    by_cases hlt : n < (S.size : Int) + 2
    · have hlt2 : n < (S.size : Int) + 2 := hlt
      have Hlt := Lib.hid hlt
      clear hlt
      go_enter Tryd.func6, Tryd.ntmps6
      go_wp2_with fail
      have p0 := (Pk.new w).1
      have o0 := ((Own.start w).skip (Fr.none_alloc w (.cells #[.int .i64 0, .slice none 0 0] 28))).also (Pk.new w).2
      refine (text_any _ _ 0 [] S _ p0 (by simp) (by omega)).mono ?_
      rw [show pText 0 [] S = (0, textB S) by unfold pText; rw [if_pos rfl, if_neg (by omega), List.nil_append]]
      rintro r w1 ⟨rfl, F1, p1, m1⟩
      have o1 := Lib.hid (o0.mv m1)
      clear p0 o0 m1
      go_wp2_with fail
      have hlen : (textB S).length = S.size + 2 := by simp only [textB, List.length_append, le_length, str_len]; omega
      refine (fill_any _ _ 0 _ n _ p1 (by rw [hlen]; have := Hl.out; omega)).mono ?_
      rw [show pFill 0 (textB S) n = (2, textB S) by unfold pFill; rw [if_pos rfl, if_neg (by omega), if_pos (by rw [hlen]; have := Hlt.out; omega)]]
      rintro r w2 ⟨rfl, F2, p2, m2⟩
      have o2 := Lib.hid (o1.out.mv m2)
      clear p1 o1 m2 hlen
      go_wp2_with fail
      refine (done_err _ _ _ _ _ p2 (by decide)).mono ?_
      rintro r w3 ⟨rfl, k3, h3⟩
      have o3 := Lib.hid (o2.out.skip (Fr.none_drewN w2 k3))
      rw [← h3] at o3
      clear p2 o2 h3
      go_wp2_with fail
      refine (alive_any w3 (Ht.out.below o3.out.bel)).mono ?_
      rintro r w5 ⟨rfl, b5⟩
      have o5 := Lib.hid (o3.out.below b5)
      clear o3 b5
      go_wp2
      go_ret
      exact ⟨rfl, o5.out.bel⟩
    · have hlt2 : (S.size : Int) + 2 ≤ n := by omega
      have Hlt := Lib.hid hlt
      clear hlt
      go_enter Tryd.func6, Tryd.ntmps6
      go_wp2_with fail
      have p0 := (Pk.new w).1
      have o0 := ((Own.start w).skip (Fr.none_alloc w (.cells #[.int .i64 0, .slice none 0 0] 28))).also (Pk.new w).2
      refine (text_any _ _ 0 [] S _ p0 (by simp) (by omega)).mono ?_
      rw [show pText 0 [] S = (0, textB S) by unfold pText; rw [if_pos rfl, if_neg (by omega), List.nil_append]]
      rintro r w1 ⟨rfl, F1, p1, m1⟩
      have o1 := Lib.hid (o0.mv m1)
      clear p0 o0 m1
      go_wp2_with fail
      have hlen : (textB S).length = S.size + 2 := by simp only [textB, List.length_append, le_length, str_len]; omega
      refine (fill_any _ _ 0 _ n _ p1 (by rw [hlen]; have := Hl.out; omega)).mono ?_
      rw [show pFill 0 (textB S) n = (0, textB S ++ List.replicate (n.toNat - (S.size + 2)) 0) by unfold pFill; rw [if_pos rfl, if_neg (by omega), if_neg (by rw [hlen]; have := Hlt.out; omega), hlen]]
      rintro r w2 ⟨rfl, F2, p2, m2⟩
      have o2 := Lib.hid (o1.out.mv m2)
      have hlen2 : (textB S ++ List.replicate (n.toNat - (S.size + 2)) 0).length = n.toNat := by rw [List.length_append, hlen, List.length_replicate]; have := Hlt.out; omega
      have Hlen := Lib.hid hlen2
      clear p1 o1 m2 hlen hlen2
      obtain ⟨x, hx⟩ : ∃ x, bstr (textB S ++ List.replicate (n.toNat - (S.size + 2)) 0) = x := ⟨_, rfl⟩
      go_wp2_with fail
      refine (done_at _ _ _ x _ p2 hx).mono ?_
      rintro r w3 ⟨rfl, rfl⟩
      have hxs : x.size = n.toNat := by rw [← hx, bstr_size]; exact Hlen.out
      have hn1 : (n.toNat : Int) = n := by omega
      have hb1 : ((x.size : Int) == n) = true := beq_iff_eq.2 (by omega)
      have hz2 : S.size + 2 ≤ n.toNat := by have := Hlt.out; omega
      have hpre : ((x.extract 2 (2 + S.size)).toList == S.toList) = true := by
        rw [← hx, bstr_extract, Lib.toList_data, Lib.toList_data, bstr_list]
        simp [textB, List.take_append, le_length, str_len]
      have hm0 : (0 : Int) ≤ n - (S.size : Int) - 2 := by omega
      have hm1 : n - (S.size : Int) - 2 ≤ 2000 := by omega
      have hmn : (n - (S.size : Int) - 2).toNat = n.toNat - (S.size + 2) := by omega
      have hmk := make_zeros (n - (S.size : Int) - 2) hm0 hm1
      rw [hmn] at hmk
      obtain ⟨C, Z, hmk, hcv, hZ⟩ := hmk
      have hsuf : ((x.extract (2 + S.size) x.size).toList == Z.toList) = true := by
        rw [hZ, ← hx, bstr_extract, Lib.toList_data, Lib.toList_data, bstr_list, bstr_list]
        have hfull : ∀ l : List UInt8, l.take (bstr l).size = l := fun l => List.take_of_length_le (by rw [bstr_size]; exact Nat.le_refl _)
        have hd : (textB S ++ List.replicate (n.toNat - (S.size + 2)) 0).drop (2 + S.size) = List.replicate (n.toNat - (S.size + 2)) 0 := by
          rw [List.drop_append_of_le_length (by simp only [textB, List.length_append, le_length, str_len]; omega), List.drop_of_length_le (by simp only [textB, List.length_append, le_length, str_len]; omega), List.nil_append]
        rw [hfull, hd]
        simp
      clear hmn hZ
      have hw1 : IntKind.i64.wrap (2 + (S.size : Int)) = 2 + (S.size : Int) := IntWalk.i64_in _ (by omega)
      have hw2 : IntKind.i64.wrap (n - (S.size : Int)) = n - (S.size : Int) := IntWalk.i64_in _ (by omega)
      have hw3 : IntKind.i64.wrap (n - (S.size : Int) - 2) = n - (S.size : Int) - 2 := IntWalk.i64_in _ (by omega)
      have hle1 : (2 : Int) + (S.size : Int) ≤ (x.size : Int) := by omega
      have hnn2 : (2 : Int) ≤ 2 + (S.size : Int) := by omega
      have hnn : (0 : Int) ≤ 2 + (S.size : Int) := by omega
      have ht2 : (2 + (S.size : Int)).toNat = 2 + S.size := by omega
      clear hx hxs hn1 hz2
      have hS := Lib.hid (FInv.start o2.out)
      have HAl := Lib.hid (fun w' (h : FInv w w2 F2 w') => falive Ht.out w' h)
      have HLe := Lib.hid (fun w' (h : FInv w w2 F2 w') => flen2 n Hlen.out p2 w' h hn0 hn2)
      have P2 := Lib.hid p2
      have O2 := Lib.hid o2.out
      clear p2 o2
      go_wp2_with fail
      have hS1 := hS.out
      clear Hlen Hlt Hl Ht P2 O2 hS
      refine wp_region_held_drew (S := fun w' => FInv w w2 F2 w') (by kernel_rfl) hS1 (fun hHeld => ?_)
      refine wpAnyH_ready (rs := [0]) (by kernel_rfl) (by simp) ?_
      refine AllReadyH.cons (o := { dst := some 47, op := Op.call { callee := Callee.value (Operand.func 13), args := #[], argTypes := #[] }, type := 4, pos := "more.go:61", after := #[], guard := none }) rfl (fun K hK => ?_) AllReadyH.nil
      go_simp
      refine (HAl.out _ hHeld).mono ?_
      rintro r w5 ⟨rfl, b5⟩
      go_wp2_with fail
      refine hK.out _ _ (b5) (fun hHeld => ?_)
      clear hK K
      try simp only [Act.put, List.setIfInBounds_toArray, List.set_cons_zero, List.set_cons_succ]
      clear hS1
      refine wpAnyH_take (i := 1) (oi := { dst := some 48, op := Op.move (Operand.tmp 47), type := 4, pos := "more.go:61", after := #[{ on := 0, ground := Ground.data }, { on := 0, ground := Ground.chain }], guard := none }) (v := ?v1) rfl (by kernel_rfl) (by kernel_rfl) (by kernel_rfl) (fun _ _ _ h => h) (Or.inl ⟨by rfl, ?hy1⟩) (by assumption) ?rest1
      case hy1 => intro W hSw; (try obtain ⟨_, hcz⟩ := hSw); go_simp; (try with_reducible rfl)
      try simp only [Act.put, List.setIfInBounds_toArray, List.set_cons_zero, List.set_cons_succ]
      refine wpAnyH_take (i := 2) (oi := { dst := some 49, op := Op.move (Operand.tmp 7), type := 23, pos := "more.go:61", after := #[{ on := 1, ground := Ground.guard }], guard := some (1, true) }) (v := ?v2) rfl (by kernel_rfl) (by kernel_rfl) (by kernel_rfl) (fun _ _ _ h => h) (Or.inl ⟨by rfl, ?hy2⟩) (by assumption) ?rest2
      case hy2 => intro W hSw; (try obtain ⟨_, hcz⟩ := hSw); go_simp; (try with_reducible rfl)
      try simp only [Act.put, List.setIfInBounds_toArray, List.set_cons_zero, List.set_cons_succ]
      refine wpAnyH_take (i := 3) (oi := { dst := some 50, op := Op.binOp BinOp.eql 23 (Operand.tmp 49) (Operand.const (Value.int IntKind.i64 0)) 23, type := 4, pos := "more.go:61", after := #[{ on := 2, ground := Ground.data }, { on := 1, ground := Ground.guard }], guard := some (1, true) }) (v := ?v3) rfl (by kernel_rfl) (by kernel_rfl) (by kernel_rfl) (fun _ _ _ h => h) (Or.inl ⟨by rfl, ?hy3⟩) (by assumption) ?rest3
      case hy3 => intro W hSw; (try obtain ⟨_, hcz⟩ := hSw); go_simp; (try with_reducible rfl)
      try simp only [Act.put, List.setIfInBounds_toArray, List.set_cons_zero, List.set_cons_succ]
      refine wpAnyH_take (i := 4) (oi := { dst := some 51, op := Op.pick (Operand.tmp 48) (Operand.tmp 50) (Operand.const (Value.bool false)), type := 4, pos := "more.go:61", after := #[{ on := 1, ground := Ground.data }, { on := 3, ground := Ground.data }], guard := none }) (v := ?v4) rfl (by kernel_rfl) (by kernel_rfl) (by kernel_rfl) (fun _ _ _ h => h) (Or.inl ⟨by rfl, ?hy4⟩) (by assumption) ?rest4
      case hy4 => intro W hSw; (try obtain ⟨_, hcz⟩ := hSw); go_simp; (try with_reducible rfl)
      try simp only [Act.put, List.setIfInBounds_toArray, List.set_cons_zero, List.set_cons_succ]
      refine wpAnyH_take (i := 5) (oi := { dst := some 52, op := Op.move (Operand.tmp 51), type := 4, pos := "more.go:61", after := #[{ on := 4, ground := Ground.data }, { on := 1, ground := Ground.chain }], guard := none }) (v := ?v5) rfl (by kernel_rfl) (by kernel_rfl) (by kernel_rfl) (fun _ _ _ h => h) (Or.inl ⟨by rfl, ?hy5⟩) (by assumption) ?rest5
      case hy5 => intro W hSw; (try obtain ⟨_, hcz⟩ := hSw); go_simp; (try with_reducible rfl)
      try simp only [Act.put, List.setIfInBounds_toArray, List.set_cons_zero, List.set_cons_succ]
      refine wpAnyH_take (i := 6) (oi := { dst := some 53, op := Op.move (Operand.tmp 6), type := 9, pos := "more.go:61", after := #[{ on := 5, ground := Ground.guard }], guard := some (5, true) }) (v := ?v6) rfl (by kernel_rfl) (by kernel_rfl) (by kernel_rfl) (fun _ _ _ h => h) (Or.inl ⟨by rfl, ?hy6⟩) (by assumption) ?rest6
      case hy6 => intro W hSw; (try obtain ⟨_, hcz⟩ := hSw); go_simp; (try with_reducible rfl)
      try simp only [Act.put, List.setIfInBounds_toArray, List.set_cons_zero, List.set_cons_succ]
      refine wpAnyH_take (i := 7) (oi := { dst := some 54, op := Op.call { callee := Callee.builtin Builtin.len, args := #[Operand.tmp 53], argTypes := #[9] }, type := 3, pos := "more.go:61", after := #[{ on := 6, ground := Ground.data }, { on := 5, ground := Ground.guard }], guard := some (5, true) }) (v := ?v7) rfl (by kernel_rfl) (by kernel_rfl) (by kernel_rfl) (fun _ _ _ h => h) (Or.inl ⟨by rfl, ?hy7⟩) (by assumption) ?rest7
      case hy7 => intro W hSw; (try obtain ⟨_, hcz⟩ := hSw); go_simp; (try with_reducible rfl)
      try simp only [Act.put, List.setIfInBounds_toArray, List.set_cons_zero, List.set_cons_succ]
      refine wpAnyH_take (i := 8) (oi := { dst := some 55, op := Op.move (Operand.tmp 1), type := 3, pos := "more.go:61", after := #[{ on := 5, ground := Ground.guard }], guard := some (5, true) }) (v := ?v8) rfl (by kernel_rfl) (by kernel_rfl) (by kernel_rfl) (fun _ _ _ h => h) (Or.inl ⟨by rfl, ?hy8⟩) (by assumption) ?rest8
      case hy8 => intro W hSw; (try obtain ⟨_, hcz⟩ := hSw); go_simp; (try with_reducible rfl)
      try simp only [Act.put, List.setIfInBounds_toArray, List.set_cons_zero, List.set_cons_succ]
      refine wpAnyH_take (i := 9) (oi := { dst := some 56, op := Op.binOp BinOp.eql 3 (Operand.tmp 54) (Operand.tmp 55) 3, type := 4, pos := "more.go:61", after := #[{ on := 7, ground := Ground.data }, { on := 8, ground := Ground.data }, { on := 5, ground := Ground.guard }], guard := some (5, true) }) (v := ?v9) rfl (by kernel_rfl) (by kernel_rfl) (by kernel_rfl) (fun _ _ _ h => h) (Or.inl ⟨by rfl, ?hy9⟩) (by assumption) ?rest9
      case hy9 => intro W hSw; (try obtain ⟨_, hcz⟩ := hSw); go_simp; (try with_reducible rfl)
      try simp only [Act.put, List.setIfInBounds_toArray, List.set_cons_zero, List.set_cons_succ]
      refine wpAnyH_take (i := 10) (oi := { dst := some 57, op := Op.pick (Operand.tmp 52) (Operand.tmp 56) (Operand.const (Value.bool false)), type := 4, pos := "more.go:61", after := #[{ on := 5, ground := Ground.data }, { on := 9, ground := Ground.data }], guard := none }) (v := ?v10) rfl (by kernel_rfl) (by kernel_rfl) (by kernel_rfl) (fun _ _ _ h => h) (Or.inl ⟨by rfl, ?hy10⟩) (by assumption) ?rest10
      case hy10 => intro W hSw; (try obtain ⟨_, hcz⟩ := hSw); go_simp; (try with_reducible rfl)
      try simp only [Act.put, List.setIfInBounds_toArray, List.set_cons_zero, List.set_cons_succ]
      refine wpAnyH_take (i := 11) (oi := { dst := some 58, op := Op.move (Operand.tmp 57), type := 4, pos := "more.go:61", after := #[{ on := 10, ground := Ground.data }, { on := 5, ground := Ground.chain }], guard := none }) (v := ?v11) rfl (by kernel_rfl) (by kernel_rfl) (by kernel_rfl) (fun _ _ _ h => h) (Or.inl ⟨by rfl, ?hy11⟩) (by assumption) ?rest11
      case hy11 => intro W hSw; (try obtain ⟨_, hcz⟩ := hSw); go_simp; (try with_reducible rfl)
      try simp only [Act.put, List.setIfInBounds_toArray, List.set_cons_zero, List.set_cons_succ]
      refine wpAnyH_take (i := 12) (oi := { dst := some 59, op := Op.move (Operand.tmp 6), type := 9, pos := "more.go:61", after := #[{ on := 11, ground := Ground.guard }], guard := some (11, true) }) (v := ?v12) rfl (by kernel_rfl) (by kernel_rfl) (by kernel_rfl) (fun _ _ _ h => h) (Or.inl ⟨by rfl, ?hy12⟩) (by assumption) ?rest12
      case hy12 => intro W hSw; (try obtain ⟨_, hcz⟩ := hSw); go_simp; (try with_reducible rfl)
      try simp only [Act.put, List.setIfInBounds_toArray, List.set_cons_zero, List.set_cons_succ]
      refine wpAnyH_take (i := 13) (oi := { dst := some 60, op := Op.move (Operand.tmp 0), type := 9, pos := "more.go:61", after := #[{ on := 11, ground := Ground.guard }], guard := some (11, true) }) (v := ?v13) rfl (by kernel_rfl) (by kernel_rfl) (by kernel_rfl) (fun _ _ _ h => h) (Or.inl ⟨by rfl, ?hy13⟩) (by assumption) ?rest13
      case hy13 => intro W hSw; (try obtain ⟨_, hcz⟩ := hSw); go_simp; (try with_reducible rfl)
      try simp only [Act.put, List.setIfInBounds_toArray, List.set_cons_zero, List.set_cons_succ]
      refine wpAnyH_take (i := 14) (oi := { dst := some 61, op := Op.call { callee := Callee.builtin Builtin.len, args := #[Operand.tmp 60], argTypes := #[9] }, type := 3, pos := "more.go:61", after := #[{ on := 13, ground := Ground.data }, { on := 11, ground := Ground.guard }], guard := some (11, true) }) (v := ?v14) rfl (by kernel_rfl) (by kernel_rfl) (by kernel_rfl) (fun _ _ _ h => h) (Or.inl ⟨by rfl, ?hy14⟩) (by assumption) ?rest14
      case hy14 => intro W hSw; (try obtain ⟨_, hcz⟩ := hSw); go_simp; (try with_reducible rfl)
      try simp only [Act.put, List.setIfInBounds_toArray, List.set_cons_zero, List.set_cons_succ]
      refine wpAnyH_take (i := 15) (oi := { dst := some 62, op := Op.binOp BinOp.add 3 (Operand.const (Value.int IntKind.i64 2)) (Operand.tmp 61) 3, type := 3, pos := "more.go:61", after := #[{ on := 14, ground := Ground.data }, { on := 11, ground := Ground.guard }], guard := some (11, true) }) (v := ?v15) rfl (by kernel_rfl) (by kernel_rfl) (by kernel_rfl) (fun _ _ _ h => h) (Or.inl ⟨by rfl, ?hy15⟩) (by assumption) ?rest15
      case hy15 => intro W hSw; (try obtain ⟨_, hcz⟩ := hSw); go_simp; (try with_reducible rfl)
      try simp only [Act.put, List.setIfInBounds_toArray, List.set_cons_zero, List.set_cons_succ]
      refine wpAnyH_take (i := 16) (oi := { dst := some 63, op := Op.slice 9 (Operand.tmp 59) (some (Operand.const (Value.int IntKind.i64 2))) (some (Operand.tmp 62)) none, type := 9, pos := "more.go:61", after := #[{ on := 12, ground := Ground.data }, { on := 15, ground := Ground.data }, { on := 11, ground := Ground.guard }], guard := some (11, true) }) (v := ?v16) rfl (by kernel_rfl) (by kernel_rfl) (by kernel_rfl) (fun _ _ _ h => h) (Or.inl ⟨by rfl, ?hy16⟩) (by assumption) ?rest16
      case hy16 => intro W hSw; (try obtain ⟨_, hcz⟩ := hSw); go_simp; (try with_reducible rfl)
      try simp only [Act.put, List.setIfInBounds_toArray, List.set_cons_zero, List.set_cons_succ]
      refine wpAnyH_take (i := 17) (oi := { dst := some 64, op := Op.move (Operand.tmp 0), type := 9, pos := "more.go:61", after := #[{ on := 11, ground := Ground.guard }], guard := some (11, true) }) (v := ?v17) rfl (by kernel_rfl) (by kernel_rfl) (by kernel_rfl) (fun _ _ _ h => h) (Or.inl ⟨by rfl, ?hy17⟩) (by assumption) ?rest17
      case hy17 => intro W hSw; (try obtain ⟨_, hcz⟩ := hSw); go_simp; (try with_reducible rfl)
      try simp only [Act.put, List.setIfInBounds_toArray, List.set_cons_zero, List.set_cons_succ]
      refine wpAnyH_take (i := 18) (oi := { dst := some 65, op := Op.binOp BinOp.eql 9 (Operand.tmp 63) (Operand.tmp 64) 9, type := 4, pos := "more.go:61", after := #[{ on := 16, ground := Ground.data }, { on := 17, ground := Ground.data }, { on := 11, ground := Ground.guard }], guard := some (11, true) }) (v := ?v18) rfl (by kernel_rfl) (by kernel_rfl) (by kernel_rfl) (fun _ _ _ h => h) (Or.inl ⟨by rfl, ?hy18⟩) (by assumption) ?rest18
      case hy18 => intro W hSw; (try obtain ⟨_, hcz⟩ := hSw); go_simp; (try with_reducible rfl)
      try simp only [Act.put, List.setIfInBounds_toArray, List.set_cons_zero, List.set_cons_succ]
      refine wpAnyH_take (i := 19) (oi := { dst := some 66, op := Op.pick (Operand.tmp 58) (Operand.tmp 65) (Operand.const (Value.bool false)), type := 4, pos := "more.go:61", after := #[{ on := 11, ground := Ground.data }, { on := 18, ground := Ground.data }], guard := none }) (v := ?v19) rfl (by kernel_rfl) (by kernel_rfl) (by kernel_rfl) (fun _ _ _ h => h) (Or.inl ⟨by rfl, ?hy19⟩) (by assumption) ?rest19
      case hy19 => intro W hSw; (try obtain ⟨_, hcz⟩ := hSw); go_simp; (try with_reducible rfl)
      try simp only [Act.put, List.setIfInBounds_toArray, List.set_cons_zero, List.set_cons_succ]
      refine wpAnyH_take (i := 20) (oi := { dst := some 67, op := Op.move (Operand.tmp 66), type := 4, pos := "more.go:61", after := #[{ on := 19, ground := Ground.data }, { on := 11, ground := Ground.chain }], guard := none }) (v := ?v20) rfl (by kernel_rfl) (by kernel_rfl) (by kernel_rfl) (fun _ _ _ h => h) (Or.inl ⟨by rfl, ?hy20⟩) (by assumption) ?rest20
      case hy20 => intro W hSw; (try obtain ⟨_, hcz⟩ := hSw); go_simp; (try with_reducible rfl)
      try simp only [Act.put, List.setIfInBounds_toArray, List.set_cons_zero, List.set_cons_succ]
      refine wpAnyH_take (i := 21) (oi := { dst := some 68, op := Op.move (Operand.tmp 6), type := 9, pos := "more.go:61", after := #[{ on := 20, ground := Ground.guard }], guard := some (20, true) }) (v := ?v21) rfl (by kernel_rfl) (by kernel_rfl) (by kernel_rfl) (fun _ _ _ h => h) (Or.inl ⟨by rfl, ?hy21⟩) (by assumption) ?rest21
      case hy21 => intro W hSw; (try obtain ⟨_, hcz⟩ := hSw); go_simp; (try with_reducible rfl)
      try simp only [Act.put, List.setIfInBounds_toArray, List.set_cons_zero, List.set_cons_succ]
      refine wpAnyH_take (i := 22) (oi := { dst := some 69, op := Op.move (Operand.tmp 0), type := 9, pos := "more.go:61", after := #[{ on := 20, ground := Ground.guard }], guard := some (20, true) }) (v := ?v22) rfl (by kernel_rfl) (by kernel_rfl) (by kernel_rfl) (fun _ _ _ h => h) (Or.inl ⟨by rfl, ?hy22⟩) (by assumption) ?rest22
      case hy22 => intro W hSw; (try obtain ⟨_, hcz⟩ := hSw); go_simp; (try with_reducible rfl)
      try simp only [Act.put, List.setIfInBounds_toArray, List.set_cons_zero, List.set_cons_succ]
      refine wpAnyH_take (i := 23) (oi := { dst := some 70, op := Op.call { callee := Callee.builtin Builtin.len, args := #[Operand.tmp 69], argTypes := #[9] }, type := 3, pos := "more.go:61", after := #[{ on := 22, ground := Ground.data }, { on := 20, ground := Ground.guard }], guard := some (20, true) }) (v := ?v23) rfl (by kernel_rfl) (by kernel_rfl) (by kernel_rfl) (fun _ _ _ h => h) (Or.inl ⟨by rfl, ?hy23⟩) (by assumption) ?rest23
      case hy23 => intro W hSw; (try obtain ⟨_, hcz⟩ := hSw); go_simp; (try with_reducible rfl)
      try simp only [Act.put, List.setIfInBounds_toArray, List.set_cons_zero, List.set_cons_succ]
      refine wpAnyH_take (i := 24) (oi := { dst := some 71, op := Op.binOp BinOp.add 3 (Operand.const (Value.int IntKind.i64 2)) (Operand.tmp 70) 3, type := 3, pos := "more.go:61", after := #[{ on := 23, ground := Ground.data }, { on := 20, ground := Ground.guard }], guard := some (20, true) }) (v := ?v24) rfl (by kernel_rfl) (by kernel_rfl) (by kernel_rfl) (fun _ _ _ h => h) (Or.inl ⟨by rfl, ?hy24⟩) (by assumption) ?rest24
      case hy24 => intro W hSw; (try obtain ⟨_, hcz⟩ := hSw); go_simp; (try with_reducible rfl)
      try simp only [Act.put, List.setIfInBounds_toArray, List.set_cons_zero, List.set_cons_succ]
      refine wpAnyH_take (i := 25) (oi := { dst := some 72, op := Op.slice 9 (Operand.tmp 68) (some (Operand.tmp 71)) none none, type := 9, pos := "more.go:61", after := #[{ on := 21, ground := Ground.data }, { on := 24, ground := Ground.data }, { on := 20, ground := Ground.guard }], guard := some (20, true) }) (v := ?v25) rfl (by kernel_rfl) (by kernel_rfl) (by kernel_rfl) (fun _ _ _ h => h) (Or.inl ⟨by rfl, ?hy25⟩) (by assumption) ?rest25
      case hy25 => intro W hSw; (try obtain ⟨_, hcz⟩ := hSw); go_simp; (try with_reducible rfl)
      try simp only [Act.put, List.setIfInBounds_toArray, List.set_cons_zero, List.set_cons_succ]
      refine wpAnyH_take (i := 26) (oi := { dst := some 73, op := Op.move (Operand.tmp 1), type := 3, pos := "more.go:61", after := #[{ on := 20, ground := Ground.guard }], guard := some (20, true) }) (v := ?v26) rfl (by kernel_rfl) (by kernel_rfl) (by kernel_rfl) (fun _ _ _ h => h) (Or.inl ⟨by rfl, ?hy26⟩) (by assumption) ?rest26
      case hy26 => intro W hSw; (try obtain ⟨_, hcz⟩ := hSw); go_simp; (try with_reducible rfl)
      try simp only [Act.put, List.setIfInBounds_toArray, List.set_cons_zero, List.set_cons_succ]
      refine wpAnyH_take (i := 27) (oi := { dst := some 74, op := Op.move (Operand.tmp 0), type := 9, pos := "more.go:61", after := #[{ on := 20, ground := Ground.guard }], guard := some (20, true) }) (v := ?v27) rfl (by kernel_rfl) (by kernel_rfl) (by kernel_rfl) (fun _ _ _ h => h) (Or.inl ⟨by rfl, ?hy27⟩) (by assumption) ?rest27
      case hy27 => intro W hSw; (try obtain ⟨_, hcz⟩ := hSw); go_simp; (try with_reducible rfl)
      try simp only [Act.put, List.setIfInBounds_toArray, List.set_cons_zero, List.set_cons_succ]
      refine wpAnyH_take (i := 28) (oi := { dst := some 75, op := Op.call { callee := Callee.builtin Builtin.len, args := #[Operand.tmp 74], argTypes := #[9] }, type := 3, pos := "more.go:61", after := #[{ on := 27, ground := Ground.data }, { on := 20, ground := Ground.guard }], guard := some (20, true) }) (v := ?v28) rfl (by kernel_rfl) (by kernel_rfl) (by kernel_rfl) (fun _ _ _ h => h) (Or.inl ⟨by rfl, ?hy28⟩) (by assumption) ?rest28
      case hy28 => intro W hSw; (try obtain ⟨_, hcz⟩ := hSw); go_simp; (try with_reducible rfl)
      try simp only [Act.put, List.setIfInBounds_toArray, List.set_cons_zero, List.set_cons_succ]
      refine wpAnyH_take (i := 29) (oi := { dst := some 76, op := Op.binOp BinOp.sub 3 (Operand.tmp 73) (Operand.tmp 75) 3, type := 3, pos := "more.go:61", after := #[{ on := 26, ground := Ground.data }, { on := 28, ground := Ground.data }, { on := 20, ground := Ground.guard }], guard := some (20, true) }) (v := ?v29) rfl (by kernel_rfl) (by kernel_rfl) (by kernel_rfl) (fun _ _ _ h => h) (Or.inl ⟨by rfl, ?hy29⟩) (by assumption) ?rest29
      case hy29 => intro W hSw; (try obtain ⟨_, hcz⟩ := hSw); go_simp; (try with_reducible rfl)
      try simp only [Act.put, List.setIfInBounds_toArray, List.set_cons_zero, List.set_cons_succ]
      refine wpAnyH_take (i := 30) (oi := { dst := some 77, op := Op.binOp BinOp.sub 3 (Operand.tmp 76) (Operand.const (Value.int IntKind.i64 2)) 3, type := 3, pos := "more.go:61", after := #[{ on := 29, ground := Ground.data }, { on := 20, ground := Ground.guard }], guard := some (20, true) }) (v := ?v30) rfl (by kernel_rfl) (by kernel_rfl) (by kernel_rfl) (fun _ _ _ h => h) (Or.inl ⟨by rfl, ?hy30⟩) (by assumption) ?rest30
      case hy30 => intro W hSw; (try obtain ⟨_, hcz⟩ := hSw); go_simp; (try with_reducible rfl)
      try simp only [Act.put, List.setIfInBounds_toArray, List.set_cons_zero, List.set_cons_succ]
      refine wpAnyH_ready (rs := [31]) (by kernel_rfl) (by simp) ?_
      refine AllReadyH.cons (o := { dst := some 78, op := Op.makeSlice 26 (Operand.tmp 77) (Operand.tmp 77), type := 26, pos := "more.go:61", after := #[{ on := 30, ground := Ground.data }, { on := 30, ground := Ground.data }, { on := 20, ground := Ground.guard }], guard := some (20, true) }) rfl (fun K hK => ?_) AllReadyH.nil
      go_simp
      refine hK.out _ _ (FInv.alloc b5 _) (fun hHeld => ?_)
      clear hK K
      try simp only [Act.put, List.setIfInBounds_toArray, List.set_cons_zero, List.set_cons_succ]
      refine wpAnyH_strong (S' := fun w' => FInv w w2 F2 w' ∧ (convert 26 9 (.slice (some ⟨w5.heap.size, 0, none⟩) (n.toNat - (S.size + 2)) (n.toNat - (S.size + 2)))).run Tryd.prog w' = .ok (.string Z) w') (fun _ h => h.1) _ _ _ _ ?_
      have hHeld' : FInv w w2 F2 (w5.alloc (.cells C 5)) ∧ (convert 26 9 (.slice (some ⟨w5.heap.size, 0, none⟩) (n.toNat - (S.size + 2)) (n.toNat - (S.size + 2)))).run Tryd.prog (w5.alloc (.cells C 5)) = .ok (.string Z) (w5.alloc (.cells C 5)) := ⟨hHeld, hcv w5⟩
      refine wpAnyH_take (i := 32) (oi := { dst := some 79, op := Op.convert 26 9 (Operand.tmp 78), type := 9, pos := "more.go:61", after := #[{ on := 31, ground := Ground.data }, { on := 20, ground := Ground.guard }], guard := some (20, true) }) (v := ?v32) rfl (by kernel_rfl) (by kernel_rfl) (by kernel_rfl) (fun _ _ _ h => h) (Or.inl ⟨by rfl, ?hy32⟩) (by assumption) ?rest32
      case hy32 => intro W hSw; (try obtain ⟨_, hcz⟩ := hSw); go_simp; (try with_reducible rfl)
      try simp only [Act.put, List.setIfInBounds_toArray, List.set_cons_zero, List.set_cons_succ]
      refine wpAnyH_take (i := 33) (oi := { dst := some 80, op := Op.binOp BinOp.eql 9 (Operand.tmp 72) (Operand.tmp 79) 9, type := 4, pos := "more.go:61", after := #[{ on := 25, ground := Ground.data }, { on := 32, ground := Ground.data }, { on := 20, ground := Ground.guard }], guard := some (20, true) }) (v := ?v33) rfl (by kernel_rfl) (by kernel_rfl) (by kernel_rfl) (fun _ _ _ h => h) (Or.inl ⟨by rfl, ?hy33⟩) (by assumption) ?rest33
      case hy33 => intro W hSw; (try obtain ⟨_, hcz⟩ := hSw); go_simp; (try with_reducible rfl)
      try simp only [Act.put, List.setIfInBounds_toArray, List.set_cons_zero, List.set_cons_succ]
      refine wpAnyH_take (i := 34) (oi := { dst := some 81, op := Op.pick (Operand.tmp 67) (Operand.tmp 80) (Operand.const (Value.bool false)), type := 4, pos := "more.go:61", after := #[{ on := 20, ground := Ground.data }, { on := 33, ground := Ground.data }], guard := none }) (v := ?v34) rfl (by kernel_rfl) (by kernel_rfl) (by kernel_rfl) (fun _ _ _ h => h) (Or.inl ⟨by rfl, ?hy34⟩) (by assumption) ?rest34
      case hy34 => intro W hSw; (try obtain ⟨_, hcz⟩ := hSw); go_simp; (try with_reducible rfl)
      try simp only [Act.put, List.setIfInBounds_toArray, List.set_cons_zero, List.set_cons_succ]
      refine wpAnyH_take (i := 35) (oi := { dst := some 82, op := Op.move (Operand.tmp 81), type := 4, pos := "more.go:61", after := #[{ on := 34, ground := Ground.data }, { on := 20, ground := Ground.chain }], guard := none }) (v := ?v35) rfl (by kernel_rfl) (by kernel_rfl) (by kernel_rfl) (fun _ _ _ h => h) (Or.inl ⟨by rfl, ?hy35⟩) (by assumption) ?rest35
      case hy35 => intro W hSw; (try obtain ⟨_, hcz⟩ := hSw); go_simp; (try with_reducible rfl)
      try simp only [Act.put, List.setIfInBounds_toArray, List.set_cons_zero, List.set_cons_succ]
      refine wpAnyH_take (i := 36) (oi := { dst := some 83, op := Op.move (Operand.tmp 5), type := 22, pos := "more.go:61", after := #[{ on := 35, ground := Ground.guard }], guard := some (35, true) }) (v := ?v36) rfl (by kernel_rfl) (by kernel_rfl) (by kernel_rfl) (fun _ _ _ h => h) (Or.inl ⟨by rfl, ?hy36⟩) (by assumption) ?rest36
      case hy36 => intro W hSw; (try obtain ⟨_, hcz⟩ := hSw); go_simp; (try with_reducible rfl)
      try simp only [Act.put, List.setIfInBounds_toArray, List.set_cons_zero, List.set_cons_succ]
      refine wpAnyH_take (i := 38) (oi := { dst := some 85, op := Op.move (Operand.tmp 1), type := 3, pos := "more.go:61", after := #[{ on := 35, ground := Ground.guard }], guard := some (35, true) }) (v := ?v38) rfl (by kernel_rfl) (by kernel_rfl) (by kernel_rfl) (fun _ _ _ h => h) (Or.inl ⟨by rfl, ?hy38⟩) (by assumption) ?rest38
      case hy38 => intro W hSw; (try obtain ⟨_, hcz⟩ := hSw); go_simp; (try with_reducible rfl)
      try simp only [Act.put, List.setIfInBounds_toArray, List.set_cons_zero, List.set_cons_succ]
      refine wpAnyH_ready (rs := [37]) (by kernel_rfl) (by simp) ?_
      refine AllReadyH.cons (o := { dst := some 84, op := Op.call { callee := Callee.value (Operand.func 24), args := #[Operand.tmp 83], argTypes := #[22] }, type := 3, pos := "more.go:61", after := #[{ on := 36, ground := Ground.data }, { on := 35, ground := Ground.chain }, { on := 35, ground := Ground.guard }], guard := some (35, true) }) rfl (fun K hK => ?_) AllReadyH.nil
      go_simp
      refine (HLe.out _ hHeld'.1).mono ?_
      rintro r w6 ⟨rfl, rfl⟩
      go_wp2_with fail
      refine hK.out _ _ (hHeld') (fun hHeld => ?_)
      clear hK K
      try simp only [Act.put, List.setIfInBounds_toArray, List.set_cons_zero, List.set_cons_succ]
      refine wpAnyH_take (i := 39) (oi := { dst := some 86, op := Op.binOp BinOp.eql 3 (Operand.tmp 84) (Operand.tmp 85) 3, type := 4, pos := "more.go:61", after := #[{ on := 37, ground := Ground.data }, { on := 38, ground := Ground.data }, { on := 35, ground := Ground.guard }], guard := some (35, true) }) (v := ?v39) rfl (by kernel_rfl) (by kernel_rfl) (by kernel_rfl) (fun _ _ _ h => h) (Or.inl ⟨by rfl, ?hy39⟩) (by assumption) ?rest39
      case hy39 => intro W hSw; (try obtain ⟨_, hcz⟩ := hSw); go_simp; (try with_reducible rfl)
      try simp only [Act.put, List.setIfInBounds_toArray, List.set_cons_zero, List.set_cons_succ]
      refine wpAnyH_take (i := 40) (oi := { dst := some 87, op := Op.pick (Operand.tmp 82) (Operand.tmp 86) (Operand.const (Value.bool false)), type := 4, pos := "more.go:61", after := #[{ on := 35, ground := Ground.data }, { on := 39, ground := Ground.data }], guard := none }) (v := ?v40) rfl (by kernel_rfl) (by kernel_rfl) (by kernel_rfl) (fun _ _ _ h => h) (Or.inl ⟨by rfl, ?hy40⟩) (by assumption) ?rest40
      case hy40 => intro W hSw; (try obtain ⟨_, hcz⟩ := hSw); go_simp; (try with_reducible rfl)
      try simp only [Act.put, List.setIfInBounds_toArray, List.set_cons_zero, List.set_cons_succ]
      refine wpAnyH_take (i := 41) (oi := { dst := some 4, op := Op.assign (Operand.tmp 87), type := 4, pos := "more.go:61", after := #[{ on := 40, ground := Ground.data }, { on := 37, ground := Ground.chain }, { on := 0, ground := Ground.phase }, { on := 1, ground := Ground.phase }, { on := 2, ground := Ground.phase }, { on := 3, ground := Ground.phase }, { on := 4, ground := Ground.phase }, { on := 5, ground := Ground.phase }, { on := 6, ground := Ground.phase }, { on := 7, ground := Ground.phase }, { on := 8, ground := Ground.phase }, { on := 9, ground := Ground.phase }, { on := 10, ground := Ground.phase }, { on := 11, ground := Ground.phase }, { on := 12, ground := Ground.phase }, { on := 13, ground := Ground.phase }, { on := 14, ground := Ground.phase }, { on := 15, ground := Ground.phase }, { on := 16, ground := Ground.phase }, { on := 17, ground := Ground.phase }, { on := 18, ground := Ground.phase }, { on := 19, ground := Ground.phase }, { on := 20, ground := Ground.phase }, { on := 21, ground := Ground.phase }, { on := 22, ground := Ground.phase }, { on := 23, ground := Ground.phase }, { on := 24, ground := Ground.phase }, { on := 25, ground := Ground.phase }, { on := 26, ground := Ground.phase }, { on := 27, ground := Ground.phase }, { on := 28, ground := Ground.phase }, { on := 29, ground := Ground.phase }, { on := 30, ground := Ground.phase }, { on := 31, ground := Ground.phase }, { on := 32, ground := Ground.phase }, { on := 33, ground := Ground.phase }, { on := 34, ground := Ground.phase }, { on := 35, ground := Ground.phase }, { on := 36, ground := Ground.phase }, { on := 37, ground := Ground.phase }, { on := 38, ground := Ground.phase }, { on := 39, ground := Ground.phase }, { on := 40, ground := Ground.phase }], guard := none }) (v := ?v41) rfl (by kernel_rfl) (by kernel_rfl) (by kernel_rfl) (fun _ _ _ h => h) (Or.inl ⟨by rfl, ?hy41⟩) (by assumption) ?rest41
      case hy41 => intro W hSw; (try obtain ⟨_, hcz⟩ := hSw); go_simp; (try with_reducible rfl)
      try simp only [Act.put, List.setIfInBounds_toArray, List.set_cons_zero, List.set_cons_succ]
      refine wpAnyH_done (by kernel_rfl) ?_ _
      go_wp2_with fail
      go_ret
      exact ⟨rfl, hHeld'.1.1.bel⟩
  · have hcase : (500 : Int) < (S.size : Int) ∨ ((S.size : Int) ≤ 500 ∧ n < 0) ∨ ((S.size : Int) ≤ 500 ∧ 0 ≤ n ∧ 2000 < n) := by omega
    clear hl
    rcases hcase with h1 | ⟨h1, h2⟩ | ⟨h1, h2, h3⟩
    all_goals
      go_enter Tryd.func6, Tryd.ntmps6
      go_wp2_with fail
      refine (alive_any w Ht.out).mono ?_
      rintro r w1 ⟨rfl, b1⟩
      have B1 := Lib.hid b1
      clear b1
      go_wp2_with fail
      go_ret
      exact ⟨rfl, B1.out⟩
end Go.Proofs.YtomofnmlhjpifaaDoor
