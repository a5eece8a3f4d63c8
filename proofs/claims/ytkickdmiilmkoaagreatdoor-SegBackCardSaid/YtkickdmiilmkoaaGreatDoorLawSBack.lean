/- The statement SegBack: the walk. -/
import Derived.Test.YtkickdmiilmkoaaGreatDoorAlive17
import Derived.Test.YtkickdmiilmkoaaGreatDoorSegMay
import Derived.Test.YtkickdmiilmkoaaGreatDoorLent
import Derived.Test.YtkickdmiilmkoaaGreatDoorBookKR
import Derived.Test.YtkickdmiilmkoaaGreatDoorSame
namespace Go.Proofs.YtkickdmiilmkoaaGreatDoor
open Go.RowKit

section
variable {P : Program} {w : World}
theorem op_app2 {o : Oper} {a : Act} {next : Act → World → Prop} {Q : Exit → Act → World → Prop} (s x : Operand) (t : TypeId)
    (ho : o.op = .call { callee := .builtin .append, args := #[s, x], argTypes := #[t, t] })
    (e : TypeId) (i : TypeInfo) (z : Value) (size bytes : Nat) (ht : P.underlying t = some (.slice e)) (hi : P.info? e = some i) (hz : i.zero = some z)
    (hsize : i.size = size) (hby : i.bytes = bytes) (hzs : z.cells.size = size) (hsz : 0 < size)
    (v : Value) (n : Nat) (xs : List Value) (hs : a.eval s = v) (base : Nat) (hbase : base ≤ w.heap.size) (hown : w.ownsRow base e size v n xs)
    (A : Option Addr) (m c : Nat) (news : List Value) (hx : a.eval x = .slice A m c) (hr : Rd w size A m news) (h1 : ∀ u ∈ news, u.oneCell' = true)
    (h63 : n + m ≤ maxLen) (hbytes : (n + m) * bytes ≤ 140737488355328)
    (h : ∀ A' c' w', w'.ownsRow base e size (.slice A' (n + m) c') (n + m) (xs ++ news) → Mv (rowF v) (rowF (.slice A' (n + m) c')) w w' → (∀ A0 c0, v = .slice A0 n c0 → Rd w' size A0 n xs) → next (a.put o.dst (.slice A' (n + m) c')) w') : Oper.wp P o a w next Q := by
  obtain ⟨v', w', hrun, h2, h3, h4⟩ := run_app2 (P := P) t o.type e i z size bytes ht hi hz hsize hby hzs hsz v n xs base hbase hown A m c news hr h1 h63 hbytes
  obtain ⟨A', c', rfl, _⟩ := own_slice h2
  unfold Oper.wp execOp
  simp only [ho, resolve, invoke, builtin, Sem.run_bind, Sem.run_pure, Result.andThen_ok, List.map_toArray, List.map_cons, List.map_nil, hs, hx, hrun]
  exact h A' c' w' h2 h3 h4
end
theorem strs_one (bs : List (List UInt8)) : ∀ u ∈ strs bs, u.oneCell' = true := by
  unfold strs; intro u hu; rw [List.mem_map] at hu; obtain ⟨x, _, rfl⟩ := hu; rfl
theorem strs_take (bs : List (List UInt8)) (k : Nat) : (strs bs).take k = strs (bs.take k) := by unfold strs; rw [List.map_take]
theorem strs_set_ (bs : List (List UInt8)) (k : Nat) (b : List UInt8) : strs (bs.set k b) = (strs bs).set k (.string (bstr b)) := by unfold strs; rw [List.map_set]
theorem strs_drop (bs : List (List UInt8)) (k : Nat) : (strs bs).drop k = strs (bs.drop k) := by unfold strs; rw [List.map_drop]
theorem strs_app (a b : List (List UInt8)) : strs a ++ strs b = strs (a ++ b) := by unfold strs; rw [List.map_append]

section
variable {id ti sh : Int} {l : List RecV}
/-- All of these blocks are read, but they are not those that are wanted. -/
theorem back_head (hid : id < 18446744073709551616) (hr : rightB id ti sh = true) (hn : l.length ≤ 12288) (hok : l.all recOk = true) {id' ti' sh' : Int} {bs : List (List UInt8)} (hb : ∀ b ∈ bs, b ∈ blocksL id ti sh l) :
    readsL bs = true := by
  unfold readsL
  rw [List.all_eq_true]
  exact fun b h => decide_eq_true (readsL_blocks hid hr hn hok (hb b h))
theorem back_other (hid : id < 18446744073709551616) (hr : rightB id ti sh = true) (hn : l.length ≤ 12288) {id' ti' sh' : Int} (hne : ¬ (id = id' ∧ ti = ti' ∧ sh = sh')) (hv : 0 < blocksV l.length) : getsL id' ti' sh' (blocksL id ti sh l) = false := by
  refine gets_head (blocksL_at hv) ?_
  rw [hdRd_block (headK_good hid hr hn hv)]
  exact fun h => hne ⟨h.1, h.2.1, h.2.2.1⟩
theorem back_less (hid : id < 18446744073709551616) (hr : rightB id ti sh = true) (hn : l.length ≤ 12288) {k : Nat} (hk : k < blocksV l.length) (hv : 1 < blocksV l.length) : getsL id ti sh ((blocksL id ti sh l).take k ++ (blocksL id ti sh l).drop (k + 1)) = false := by
  have hlen : ((blocksL id ti sh l).take k ++ (blocksL id ti sh l).drop (k + 1)).length = blocksV l.length - 1 := by
    rw [List.length_append, List.length_take, List.length_drop, blocksL_len]; omega
  have hm : ∃ b, ((blocksL id ti sh l).take k ++ (blocksL id ti sh l).drop (k + 1))[0]? = some b := ⟨_, List.getElem?_eq_getElem (by omega)⟩
  obtain ⟨b, hb⟩ := hm
  refine gets_head hb ?_
  have hmem : b ∈ blocksL id ti sh l := by
    rcases List.mem_append.1 (mem_of_get hb) with h | h
    · exact List.mem_of_mem_take h
    · exact List.mem_of_mem_drop h
  obtain ⟨j, hj, rfl⟩ := blocksL_mem hmem
  rw [hdRd_block (headK_good hid hr hn hj), hlen]
  intro h
  have := h.2.2.2.2
  simp only [headK] at this
  omega
/-- Two of them swapped. -/
def swapL (bs : List (List UInt8)) (k j : Nat) : List (List UInt8) := (bs.set k (bs.getD j [])).set j (bs.getD k [])
theorem swapL_self (bs : List (List UInt8)) (k : Nat) : swapL bs k k = bs := by
  unfold swapL
  apply List.ext_getElem?
  intro i
  by_cases hi : i = k
  · subst hi
    by_cases hl : i < bs.length
    · rw [List.getElem?_set_self (by rw [List.length_set]; exact hl), List.getD_eq_getElem?_getD, List.getElem?_eq_getElem hl]; rfl
    · rw [List.getElem?_eq_none (by rw [List.length_set, List.length_set]; omega), List.getElem?_eq_none (by omega)]
  · rw [List.getElem?_set_ne (by omega), List.getElem?_set_ne (by omega)]
theorem swapL_len (bs : List (List UInt8)) (k j : Nat) : (swapL bs k j).length = bs.length := by unfold swapL; rw [List.length_set, List.length_set]
theorem swapL_mem {bs : List (List UInt8)} {k j : Nat} (hk : k < bs.length) (hj : j < bs.length) {b : List UInt8} (h : b ∈ swapL bs k j) : b ∈ bs := by
  unfold swapL at h
  have e1 : bs.getD k [] ∈ bs := by rw [List.getD_eq_getElem?_getD, List.getElem?_eq_getElem hk]; exact List.getElem_mem _
  have e2 : bs.getD j [] ∈ bs := by rw [List.getD_eq_getElem?_getD, List.getElem?_eq_getElem hj]; exact List.getElem_mem _
  rcases List.mem_or_eq_of_mem_set h with h1 | h1
  · rcases List.mem_or_eq_of_mem_set h1 with h2 | h2
    · exact h2
    · subst h2; exact e2
  · subst h1; exact e1
theorem back_swap (hid : id < 18446744073709551616) (hr : rightB id ti sh = true) (hn : l.length ≤ 12288) {k j : Nat} (hk : k < blocksV l.length) (hj : j < blocksV l.length) (hne : k ≠ j) : getsL id ti sh (swapL (blocksL id ti sh l) k j) = false := by
  have h1 : (swapL (blocksL id ti sh l) k j)[j]? = some (blockB (headK id ti sh l k) (partL l k)) := by
    unfold swapL
    rw [List.getElem?_set_self (by rw [List.length_set, blocksL_len]; exact hj), List.getD_eq_getElem?_getD, blocksL_at hk]; rfl
  refine gets_head h1 ?_
  rw [hdRd_block (headK_good hid hr hn hk)]
  intro h
  have := h.2.2.2.1
  simp only [headK] at this
  omega
end

set_option maxRecDepth 100000 in
set_option maxHeartbeats 16000000 in
theorem sback_walk (id ti sh at_ n_ : Int) (la : List RecV) (A : Option Addr) (na ca : Nat) (w : World) (hid : 0 ≤ id ∧ id < 18446744073709551616) (hti : in64 ti) (hsh : in64 sh) (ha1 : in64 at_) (hn1 : in64 n_) (ra : Rd w 7 A na (rcells la)) (wa : ∀ r ∈ la, r.wf) (h1 : na ≤ 9223372036854775807) :
    Calls Tryz.prog 6 #[.int .u64 id, .int .i64 ti, .int .i64 sh, .slice A na ca, .int .i64 at_, .int .i64 n_] w fun r w' => r = .returned (.bool true) ∧ Below w.heap.size w w' := by
  have F1 := Lib.hid (few_any 60 (by decide) la (fun r h => (wa r h).2.2) A na ca w ra h1)
  have AL := Lib.hid (fun w' => alive17_any w')
  have Ra := Lib.hid ra
  have Hla := Lib.hid ra.recs_len
  have Hd := Lib.hid hid
  have Wa := Lib.hid wa
  have Hti := Lib.hid hti
  have Hsh := Lib.hid hsh
  have Hat := Lib.hid ha1
  have Hn_ := Lib.hid hn1
  clear ra wa hid hti hsh ha1 hn1
  go_enter Tryz.func6, Tryz.ntmps6
  go_wp2_with fail
  refine (F1.out).mono ?_
  rintro r w1 ⟨⟨b1, rfl, q1⟩, rfl⟩
  cases b1
  · clear q1
    go_wp2_with fail
    refine (AL.out _).mono ?_
    rintro r w2 ⟨rfl, b2⟩
    have B2 := Lib.hid b2
    clear b2
    go_wp2_with fail
    go_ret
    exact ⟨rfl, B2.out⟩
  replace q1 := q1 rfl
  have HNA := Lib.hid q1
  clear F1
  go_wp2_with fail
  refine (lentR_any la A na ca w Ra.out (by omega)).mono ?_
  rintro r w1 ⟨M, d, rfl, hd1, hd2, rm, rn, b1⟩
  have RN := Lib.hid rn
  have B1 := Lib.hid b1
  have RM := Lib.hid rm
  have HD := Lib.hid (And.intro hd1 hd2)
  have RM2 : Hid (Rd w1 7 M na (rcells la)) := by
    have := rm.take (k := na) (by omega)
    unfold lentR at this
    rwa [List.take_left' Ra.out.1] at this
  clear b1 rm rn hd1 hd2
  go_wp2_with fail
  refine (segput_any id ti sh Hd.out la Wa.out M na d w1 RM2.out (by omega) (by have := HD.out.1; omega)).mono ?_
  rintro r w2 ⟨p1, p2, b2⟩
  have B2 := Lib.hid (B1.out.trans (b2.mono B1.out.size))
  have RM3 := Lib.hid (RM.out.fr0 (Fr.b0 b2))
  have HA2 := Lib.hid (Ra.out.below B2.out)
  have HMay := Lib.hid (fun w' (h : Rd w' 7 A na (rcells la)) => may_any id ti sh Hd.out la Wa.out A na ca w' h (by omega))
  cases hPA : (rightB id ti sh && segOk la)
  · obtain rfl := p2 hPA
    rw [hPA] at HMay
    clear p1 p2 b2 hPA
    go_wp2_with fail
    refine (HMay.out w2 HA2.out).mono ?_
    rintro r w3 ⟨rfl, b3⟩
    have B3 := Lib.hid (B2.out.trans (b3.mono B2.out.size))
    have RM4 := Lib.hid (RM3.out.fr0 (Fr.b0 b3))
    have HA3 := Lib.hid (HA2.out.fr0 (Fr.b0 b3))
    clear b3
    go_wp2_with fail
    refine (staysR_any la M na d A ca w3 RM4.out HA3.out HD.out.1 HD.out.2 (by omega)).mono ?_
    rintro r w4 ⟨rfl, b4⟩
    have B4 := Lib.hid (B3.out.trans (b4.mono B3.out.size))
    clear b4
    go_wp2_with fail
    refine (AL.out _).mono ?_
    rintro r w5 ⟨rfl, b5⟩
    have B5 := Lib.hid (B4.out.trans (b5.mono B4.out.size))
    clear b5
    go_wp2_with fail
    go_ret
    exact ⟨rfl, B5.out⟩
  obtain ⟨RX, cx, rfl, ox⟩ := p1 hPA
  obtain ⟨RXA, rxc, hRA, hcx, hcx2, hrx⟩ := own_slice ox
  injection hRA with hRA1 hRA2 hRA3
  subst hRA1
  subst hRA3
  have HX2 := Lib.hid hrx
  have hR : Hid (rightB id ti sh = true ∧ segOk la = true) := by show _ ∧ _; simpa using hPA
  rw [hPA] at HMay
  clear p1 p2 b2 hPA ox hrx hRA2
  go_wp2_with fail
  refine (HMay.out w2 HA2.out).mono ?_
  rintro r w3 ⟨rfl, b3⟩
  have B3 := Lib.hid (B2.out.trans (b3.mono B2.out.size))
  have RM4 := Lib.hid (RM3.out.fr0 (Fr.b0 b3))
  have HA3 := Lib.hid (HA2.out.fr0 (Fr.b0 b3))
  have HX3 := Lib.hid (HX2.out.fr0 (Fr.b0 b3))
  clear b3
  go_wp2_with fail
  refine (staysR_any la M na d A ca w3 RM4.out HA3.out HD.out.1 HD.out.2 (by omega)).mono ?_
  rintro r w4 ⟨rfl, b4⟩
  have B4 := Lib.hid (B3.out.trans (b4.mono B3.out.size))
  have HA4 := Lib.hid (HA3.out.fr0 (Fr.b0 b4))
  have HX4 := Lib.hid (HX3.out.fr0 (Fr.b0 b4))
  have HBl := Lib.hid (fun w' => blocks_any na (by omega) w')
  have hvq : (((na : Int) + 2).tdiv 3) = ((blocksV na : Nat) : Int) := by unfold blocksV; rw [Int.tdiv_eq_ediv_of_nonneg (by omega)]; omega
  have hvq2 : (((na : Int) + 2) / 3) = ((blocksV na : Nat) : Int) := by unfold blocksV; omega
  have hv20 : blocksV na ≤ 20 := by unfold blocksV; omega
  have HNV : Hid (blocksV na = 0 → na = 0) := fun h => by unfold blocksV at h; omega
  have hvl : Hid (blocksV la.length = blocksV na) := by show _ = _; rw [Hla.out]
  obtain ⟨v, hv⟩ : ∃ v, blocksV na = v := ⟨_, rfl⟩
  rw [hv] at hvq hvq2 hv20 HNV hvl HX4 HBl hcx ⊢
  have hvv : ((v : Int) != (v : Int)) = false := bne_self_eq_false _
  clear b4 hv RM RM2 RM3 RM4 HA2 HA3 HX2 HX3 HMay
  have BK := Lib.hid (BookR.new w4)
  have HG := Lib.hid (rfl : w4.heap.size = w4.heap.size)
  go_wp2_with fail
  refine (HBl.out _).mono ?_
  rintro r w5 ⟨rfl, rfl⟩
  go_wp2_with fail
  obtain ⟨w5, hw5⟩ : ∃ w5, w5 = w4.alloc (.cells #[.slice none 0 0, .slice none 0 0, .slice none 0 0, .slice none 0 0, .slice none 0 0, .slice none 0 0, .slice none 0 0, .slice none 0 0, .slice none 0 0, .slice none 0 0, .slice none 0 0, .slice none 0 0, .slice none 0 0, .slice none 0 0, .slice none 0 0, .slice none 0 0] 37) := ⟨_, rfl⟩
  rw [← hw5] at BK ⊢
  have HA5 : Hid (Rd w5 7 A na (rcells la)) := by show Rd _ _ _ _ _; rw [hw5]; exact HA4.out.alloc _
  have HX5 : Hid (Rd w5 1 RX v (strs (blocksL id ti sh la))) := by show Rd _ _ _ _ _; rw [hw5]; exact HX4.out.alloc _
  have B5 : Hid (Below w.heap.size w w5) := by show Below _ _ _; rw [hw5]; exact B4.out.alloc B4.out.size _
  have hgs : Hid (w4.heap.size < w5.heap.size) := by show _ < _; rw [hw5]; simp
  obtain ⟨g, hg⟩ : ∃ g, w4.heap.size = g := ⟨_, rfl⟩
  have hwg : Hid (w.heap.size ≤ g) := by show _ ≤ _; rw [← hg]; exact B4.out.size
  rw [hg] at BK hgs ⊢
  have HRt := Lib.hid hR.out.1
  have HSg := Lib.hid hR.out.2
  have HRc := Lib.hid (segOk_recs hR.out.2)
  have hxlow : Hid (∀ i, adF RX v i → i < g) := fun i hi => by have := HX4.out.adlt (by decide) i hi; omega
  clear hw5 hg HX4 HA4 hvq hvq2 hvv HBl HG
  go_loopw [17] (fun i wr => ∃ k : Nat, k ≤ v ∧ i = .int .i64 k ∧ Below w5.heap.size w5 wr) (fun i _ => v - (intOf i).toNat)
  case atStart => exact ⟨0, Nat.zero_le _, rfl, Below.refl _ _⟩
  case round =>
    obtain ⟨k, hk, rfl, hb⟩ := hrel
    have Hb := Lib.hid hb
    have HXr := Lib.hid (HX5.out.below hb)
    clear hb
    by_cases hlt : k < v
    · obtain ⟨ad, b, rfl, hb, hc⟩ := HXr.out.at_map hlt
      have hbe : b = blockB (headK id ti sh la k) (partL la k) := by
        have := blocksL_at (id := id) (ti := ti) (sh := sh) (l := la) (k := k) (by rw [hvl.out]; exact hlt)
        rw [this] at hb; exact (Option.some.inj hb).symm
      have hgd := headK_good (l := la) (k := k) Hd.out.2 HRt.out (by rw [Hla.out]; omega) (by rw [hvl.out]; exact hlt)
      have hE : hdE b = 0 := by rw [hbe]; exact hdE_block hgd (part_all HRc.out) (part_le la k)
      have hV : hdV b = headK id ti sh la k := by rw [hdE_V hE, hbe]; exact hdRd_block hgd
      have h256 := (hdE_good hE).1
      have hbz := bstr_size b
      have HGH := Lib.hid (fun w' => gethead_any b (by omega) w')
      have HEQ := Lib.hid (fun w' => run_neqhead (headK id ti sh la k) ⟨id, ti, sh, (k : Nat), (v : Nat), 0⟩ w')
      rw [show hdEq (headK id ti sh la k) ⟨id, ti, sh, (k : Nat), (v : Nat), 0⟩ = true by unfold hdEq headK; rw [hvl.out]; simp] at HEQ
      rw [hV, hE] at HGH
      unfold HeadV.hval headK at HGH HEQ
      rw [hvl.out] at HGH HEQ
      have hz1 : ((bstr b).size : Int) = 256 := by omega
      obtain ⟨S, hS⟩ : ∃ S, bstr b = S := ⟨_, rfl⟩
      rw [hS] at hc HGH hz1
      have Hc := Lib.hid hc
      have q := HEQ.out
      clear hb hbe hgd hE hV h256 hbz hS
      go_wp2_with fail
      refine (HGH.out _).mono ?_
      rintro r w6 ⟨rfl, b6⟩
      have O6 := Lib.hid (Hb.out.trans (b6.mono Hb.out.size))
      have k1 := fun o => ((Fr.b0 b6).trans (Fr.none_alloc w6 o) (fun _ h => h.elim)).cell Hc.out (fun h => h)
      clear b6 hc
      go_wp2
      go_roundw
      case rel => exact ⟨k + 1, by omega, by go_num, O6.out.alloc O6.out.size _⟩
      case measure => simp [intOf]; omega
    · obtain rfl : k = v := by omega
      have HAr := Lib.hid (HA5.out.below Hb.out)
      have BKr := Lib.hid (BK.out.fr Hb.out)
      have Br := Lib.hid (B5.out.trans (Hb.out.mono B5.out.size))
      have hsr : Hid (g < wr.heap.size) := Nat.lt_of_lt_of_le hgs.out Hb.out.size
      have HX256 : Hid (∀ x ∈ blocksL id ti sh la, x.length ≤ 1099511627776) := fun x hx => by rw [(hdE_good (readsL_blocks Hd.out.2 HRt.out (by rw [Hla.out]; omega) HRc.out hx)).1]; decide
      have HGX : Hid (getsL id ti sh (blocksL id ti sh la) = true) := gets_blocks Hd.out.2 HRt.out (by rw [Hla.out]; omega) Wa.out HSg.out
      have HOX : Hid (outL (blocksL id ti sh la) = la) := outL_blocks Hd.out.2 HRt.out (by rw [Hla.out]; omega) Wa.out HRc.out
      have HOth : Hid (0 < k → ∀ id' ti' sh', ¬ (id = id' ∧ ti = ti' ∧ sh = sh') → getsL id' ti' sh' (blocksL id ti sh la) = false) := fun h id' ti' sh' hne => back_other Hd.out.2 HRt.out (by rw [Hla.out]; omega) hne (by rw [hvl.out]; exact h)
      have HLs : Hid (∀ j, j < k → 1 < k → getsL id ti sh ((blocksL id ti sh la).take j ++ (blocksL id ti sh la).drop (j + 1)) = false) := fun j hj h => back_less Hd.out.2 HRt.out (by rw [Hla.out]; omega) (by rw [hvl.out]; exact hj) (by rw [hvl.out]; exact h)
      have HSw : Hid (∀ i j, i < k → j < k → i ≠ j → getsL id ti sh (swapL (blocksL id ti sh la) i j) = false) := fun i j hi hj hne => back_swap Hd.out.2 HRt.out (by rw [Hla.out]; omega) (by rw [hvl.out]; exact hi) (by rw [hvl.out]; exact hj) hne
      have HRe : Hid (∀ bs : List (List UInt8), (∀ b ∈ bs, b ∈ blocksL id ti sh la) → readsL bs = true) := fun bs h => back_head Hd.out.2 HRt.out (by rw [Hla.out]; omega) HRc.out (id' := id) (ti' := ti) (sh' := sh) h
      have HXl : Hid ((blocksL id ti sh la).length = k) := by show _ = _; rw [blocksL_len, hvl.out]
      obtain ⟨xs, hxs⟩ : ∃ xs, blocksL id ti sh la = xs := ⟨_, rfl⟩
      rw [hxs] at HXr HX256 HGX HOX HOth HLs HSw HRe HXl
      have HGet := Lib.hid (fun (i t s : Int) (hi : 0 ≤ i ∧ i < 18446744073709551616) (bs : List (List UInt8)) (hb : ∀ b ∈ bs, b ∈ xs) (B : Option Addr) (m c : Nat) (w' : World) (h : Rd w' 1 B m (strs bs)) (hm : m ≤ 1000) => segget_any i t s hi bs (fun b hh => HX256.out b (hb b hh)) B m c w' h hm)
      have hp10 := rightB_parts HRt.out
      obtain ⟨_, ⟨ht1, ht2⟩, hs1, hs2⟩ := hp10
      clear hxs HX5 HA5 BK B5 Hb HRt HSg HRc hvl hR
      rcases Nat.eq_zero_or_pos k with rfl | hpos
      · obtain rfl := HNV.out rfl
        have HLN := Lib.hid (show la = [] from List.eq_nil_of_length_eq_zero Hla.out)
        go_wp2_with fail
        refine (HGet.out id ti sh Hd.out xs (fun _ h => h) RX 0 cx wr HXr.out (by decide)).mono ?_
        rintro r w6 ⟨_, _, e3, b6⟩
        obtain rfl := e3 rfl
        have B6 := Lib.hid (Br.out.trans (b6.mono Br.out.size))
        have HA6 := Lib.hid (HAr.out.below b6)
        have hb6 := Lib.hid b6
        clear e3 b6
        go_wp2_with fail
        refine (bookR_add wr w6 g g 0 BKr.out hb6.out (by decide) [] none 0 0 (World.ownsRow_nil _ _ _ _) (by decide)).mono ?_
        rintro r w7 ⟨rfl, bk7, f7⟩
        have BK7 := Lib.hid bk7
        have B7 : Hid (Below w.heap.size w w7) := B6.out.trans (f7.below_of B6.out.size (fun i hi => Nat.le_trans hwg.out hi.1))
        have HA7 := Lib.hid (Ra.out.below B7.out)
        clear bk7 f7
        go_wp2_with fail
        refine (samerecs_any [] la none 0 0 A 0 ca w7 Rd.nil_ HA7.out (by decide) (by decide)).mono ?_
        rintro r w8 ⟨rfl, b8⟩
        have B8 := Lib.hid (B7.out.trans (b8.mono B7.out.size))
        rw [HLN.out, decide_eq_true rfl]
        clear b8
        go_wp2_with fail
        refine (AL.out _).mono ?_
        rintro r w9 ⟨rfl, b9⟩
        have B9 := Lib.hid (B8.out.trans (b9.mono B8.out.size))
        clear b9
        go_wp2_with fail
        go_ret
        exact ⟨rfl, B9.out⟩
      · have hz0 : ¬ (k : Int) = 0 := by omega
        have hz1 : ((k : Int) == 0) = false := by simpa using hz0
        go_wp2_with fail
        refine (HGet.out id ti sh Hd.out xs (fun _ h => h) RX k cx wr HXr.out (by omega)).mono ?_
        rintro r w6 ⟨e1, _, _, b6⟩
        obtain ⟨R6, m6, c6, rfl, ho6⟩ := e1 (by omega) HGX.out
        rw [HOX.out] at ho6
        have hm6 : m6 = na := by have h1 := (Rd.of_own ho6).recs_len; rw [Hla.out] at h1; omega
        subst hm6
        have B6 := Lib.hid (Br.out.trans (b6.mono Br.out.size))
        have HA6 := Lib.hid (HAr.out.below b6)
        have HX6 := Lib.hid (HXr.out.below b6)
        have HO6 := Lib.hid ho6
        have hb6 := Lib.hid b6
        clear e1 b6 ho6
        go_wp2_with fail
        refine (bookR_add wr w6 g g 0 BKr.out hb6.out (by decide) la R6 m6 c6 HO6.out (by omega)).mono ?_
        rintro r w7 ⟨rfl, bk7, f7⟩
        have BK7 := Lib.hid bk7
        have B7 : Hid (Below w.heap.size w w7) := B6.out.trans (f7.below_of B6.out.size (fun i hi => Nat.le_trans hwg.out hi.1))
        have HA7 := Lib.hid (Ra.out.below B7.out)
        have HO7 := Lib.hid (Rd.of_own (own_fr HO6.out f7 (fun i hi hF => by have := (HO6.out.lt i hi).1; omega)))
        have hxf := HX6.out.fr f7 (fun i hi hF => by have := hxlow.out i hi; omega)
        have HX7 := Lib.hid hxf
        clear bk7 f7 hxf HO6 hb6
        go_wp2_with fail
        refine (samerecs_any la la R6 m6 c6 A m6 ca w7 HO7.out HA7.out (by omega) (by omega)).mono ?_
        rintro r w8 ⟨rfl, b8⟩
        have B8 := Lib.hid (B7.out.trans (b8.mono B7.out.size))
        have HX8 := Lib.hid (HX7.out.fr0 (Fr.b0 b8))
        have BK8 := Lib.hid (BK7.out.fr b8)
        rw [decide_eq_true rfl]
        clear b8
        obtain ⟨p, hp, hp1, hp2⟩ : ∃ p : Int, Int.tmod at_ (k : Int) = p ∧ -(k : Int) < p ∧ p < (k : Int) := ⟨_, rfl, by have := Int.lt_tmod_of_pos at_ (show (0 : Int) < (k : Int) by omega); omega, Int.tmod_lt_of_pos at_ (by omega)⟩
        obtain ⟨kk, hkk, hkl⟩ : ∃ kk : Nat, Int.tmod (p + (k : Int)) (k : Int) = (kk : Int) ∧ kk < k := by
          have h1 : 0 ≤ (p + (k : Int)) % (k : Int) := Int.emod_nonneg _ (by omega)
          have h2 : (p + (k : Int)) % (k : Int) < (k : Int) := Int.emod_lt_of_pos _ (by omega)
          refine ⟨((p + (k : Int)) % (k : Int)).toNat, ?_, by omega⟩
          rw [Int.tmod_eq_emod_of_nonneg (by omega)]; omega
        obtain ⟨q, hq, hq1, hq2⟩ : ∃ q : Int, Int.tmod n_ (k : Int) = q ∧ -(k : Int) < q ∧ q < (k : Int) := ⟨_, rfl, by have := Int.lt_tmod_of_pos n_ (show (0 : Int) < (k : Int) by omega); omega, Int.tmod_lt_of_pos n_ (by omega)⟩
        obtain ⟨jj, hjj, hjl⟩ : ∃ jj : Nat, Int.tmod (q + (k : Int)) (k : Int) = (jj : Int) ∧ jj < k := by
          have h1 : 0 ≤ (q + (k : Int)) % (k : Int) := Int.emod_nonneg _ (by omega)
          have h2 : (q + (k : Int)) % (k : Int) < (k : Int) := Int.emod_lt_of_pos _ (by omega)
          refine ⟨((q + (k : Int)) % (k : Int)).toNat, ?_, by omega⟩
          rw [Int.tmod_eq_emod_of_nonneg (by omega)]; omega
        obtain ⟨id2, hid2, hid3, hid4⟩ : ∃ i : Int, IntKind.u64.wrap (id + 1) = i ∧ (0 ≤ i ∧ i < 18446744073709551616) ∧ id ≠ i := by
          have := Hd.out
          by_cases h : id + 1 < 18446744073709551616
          · exact ⟨id + 1, IntWalk.u64_in _ ⟨by omega, by omega⟩, by omega, by omega⟩
          · obtain rfl : id = 18446744073709551615 := by omega
            exact ⟨0, by decide, by omega, by omega⟩
        obtain ⟨i0, hi, hz0, hz1, hz2⟩ := info_parts info_str
        have HT : Hid (Rd w8.drew 1 RX kk (strs (xs.take kk))) := by
          show Rd _ _ _ _ _
          have := (HX8.out.drew).take (k := kk) (by omega)
          rwa [Nat.mul_one, strs_take] at this
        have hslo : (0 : Int) ≤ (kk : Int) ∧ (kk : Int) ≤ (cx : Int) := by omega
        have hslp : (0 : Int) ≤ (kk : Int) + 1 ∧ (kk : Int) + 1 ≤ (k : Int) := by omega
        have hslw : IntKind.i64.wrap ((kk : Int) + 1) = (kk : Int) + 1 := IntWalk.i64_in _ (by omega)
        have hslt : ((kk : Int) + 1).toNat = kk + 1 := by omega
        go_wp2_with fail
        refine wp_region_any (by kernel_rfl) ?_
        change wpAny _ _ _ _ _ _ _ (World.drew _)
        refine wpAny_take (i := 0) (oi := { dst := some 175, op := Op.move (Operand.tmp 14), type := 70, pos := "law.go:70", after := #[], guard := none }) (v := ?vq15) rfl (by kernel_rfl) (by kernel_rfl) (by kernel_rfl) (fun _ _ _ h => h) (Or.inl ⟨by rfl, ?hq15⟩) ?rq15
        case hq15 => intro W; go_simp; (try with_reducible rfl)
        try simp only [Act.put, List.setIfInBounds_toArray, List.set_cons_zero, List.set_cons_succ]
        refine wpAny_take (i := 1) (oi := { dst := some 176, op := Op.move (Operand.tmp 22), type := 3, pos := "law.go:70", after := #[], guard := none }) (v := ?vq16) rfl (by kernel_rfl) (by kernel_rfl) (by kernel_rfl) (fun _ _ _ h => h) (Or.inl ⟨by rfl, ?hq16⟩) ?rq16
        case hq16 => intro W; go_simp; (try with_reducible rfl)
        try simp only [Act.put, List.setIfInBounds_toArray, List.set_cons_zero, List.set_cons_succ]
        refine wpAny_take (i := 2) (oi := { dst := some 177, op := Op.slice 70 (Operand.tmp 175) none (some (Operand.tmp 176)) none, type := 70, pos := "law.go:70", after := #[{ on := 0, ground := Ground.data }, { on := 1, ground := Ground.data }], guard := none }) (v := ?vq17) rfl (by kernel_rfl) (by kernel_rfl) (by kernel_rfl) (fun _ _ _ h => h) (Or.inl ⟨by rfl, ?hq17⟩) ?rq17
        case hq17 => intro W; go_simp; (try with_reducible rfl)
        try simp only [Act.put, List.setIfInBounds_toArray, List.set_cons_zero, List.set_cons_succ]
        refine wpAny_take (i := 4) (oi := { dst := some 179, op := Op.move (Operand.tmp 14), type := 70, pos := "law.go:70", after := #[], guard := none }) (v := ?vq18) rfl (by kernel_rfl) (by kernel_rfl) (by kernel_rfl) (fun _ _ _ h => h) (Or.inl ⟨by rfl, ?hq18⟩) ?rq18
        case hq18 => intro W; go_simp; (try with_reducible rfl)
        try simp only [Act.put, List.setIfInBounds_toArray, List.set_cons_zero, List.set_cons_succ]
        refine wpAny_take (i := 5) (oi := { dst := some 180, op := Op.move (Operand.tmp 22), type := 3, pos := "law.go:70", after := #[], guard := none }) (v := ?vq19) rfl (by kernel_rfl) (by kernel_rfl) (by kernel_rfl) (fun _ _ _ h => h) (Or.inl ⟨by rfl, ?hq19⟩) ?rq19
        case hq19 => intro W; go_simp; (try with_reducible rfl)
        try simp only [Act.put, List.setIfInBounds_toArray, List.set_cons_zero, List.set_cons_succ]
        refine wpAny_take (i := 6) (oi := { dst := some 181, op := Op.binOp BinOp.add 3 (Operand.tmp 180) (Operand.const (Value.int IntKind.i64 1)) 3, type := 3, pos := "law.go:70", after := #[{ on := 5, ground := Ground.data }], guard := none }) (v := ?vq20) rfl (by kernel_rfl) (by kernel_rfl) (by kernel_rfl) (fun _ _ _ h => h) (Or.inl ⟨by rfl, ?hq20⟩) ?rq20
        case hq20 => intro W; go_simp; (try with_reducible rfl)
        try simp only [Act.put, List.setIfInBounds_toArray, List.set_cons_zero, List.set_cons_succ]
        refine wpAny_take (i := 7) (oi := { dst := some 182, op := Op.slice 70 (Operand.tmp 179) (some (Operand.tmp 181)) none none, type := 70, pos := "law.go:70", after := #[{ on := 4, ground := Ground.data }, { on := 6, ground := Ground.data }], guard := none }) (v := ?vq21) rfl (by kernel_rfl) (by kernel_rfl) (by kernel_rfl) (fun _ _ _ h => h) (Or.inl ⟨by rfl, ?hq21⟩) ?rq21
        case hq21 => intro W; go_simp; (try with_reducible rfl)
        try simp only [Act.put, List.setIfInBounds_toArray, List.set_cons_zero, List.set_cons_succ]
        refine wpAny_ready (rs := [3]) (by kernel_rfl) (by simp) ?_
        refine AllReady.cons (o := { dst := some 178, op := Op.call { callee := Callee.builtin Builtin.append, args := #[Operand.const (Value.slice none 0 0), Operand.tmp 177], argTypes := #[70, 70] }, type := 70, pos := "law.go:70", after := #[{ on := 2, ground := Ground.data }], guard := none }) rfl (fun K hK => ?_) AllReady.nil
        rw [if_pos (by rfl)]
        refine op_app2 _ _ 70 rfl 9 i0 _ 1 16 Tryz.underlying70 hi hz0 hz1 hz2 rfl (by decide) (.slice none 0 0) 0 [] rfl w8.heap.size (Nat.le_refl _) (World.ownsRow_nil _ _ _ _) RX kk _ (strs (xs.take kk)) rfl HT.out (strs_one _) (by unfold maxLen; omega) (by omega) (fun A9 c9 w9 ho9 hm9 _ => ?_)
        have O9 := Lib.hid ((((Own.start w8).skip (Fr.refl (fun _ => False) w8).drew).also (G := rowF (.slice none 0 0)) (fun k hk => by cases hk)).mv hm9)
        have HO9 := Lib.hid ho9
        clear ho9 hm9
        refine hK _ _ ?_
        clear hK K
        try simp only [Act.put, List.setIfInBounds_toArray, List.set_cons_zero, List.set_cons_succ]
        refine wpAny_ready (rs := [8]) (by kernel_rfl) (by simp) ?_
        refine AllReady.cons (o := { dst := some 183, op := Op.call { callee := Callee.builtin Builtin.append, args := #[Operand.tmp 178, Operand.tmp 182], argTypes := #[70, 70] }, type := 70, pos := "law.go:70", after := #[{ on := 3, ground := Ground.data }, { on := 7, ground := Ground.data }, { on := 3, ground := Ground.chain }], guard := none }) rfl (fun K hK => ?_) AllReady.nil
        rw [if_pos (by rfl)]
        have HC8 : Hid (Rd w9 1 (if cx = kk + 1 then RX else Option.map (fun x => (⟨x.block, x.off + (kk + 1), none⟩ : Addr)) RX) (k - (kk + 1)) (strs (xs.drop (kk + 1)))) := by
          show Rd _ _ _ _ _
          have := (HX8.out.below O9.out.bel).cut (k := kk + 1) (cap := cx) (by omega) hcx
          rw [Nat.mul_one, strs_drop, show (fun x : Addr => x.add (kk + 1)) = (fun x => (⟨x.block, x.off + (kk + 1), none⟩ : Addr)) from funext fun x => add_pos x (kk + 1) (by omega)] at this
          exact this
        refine op_app2 _ _ 70 rfl 9 i0 _ 1 16 Tryz.underlying70 hi hz0 hz1 hz2 rfl (by decide) _ (0 + kk) ([] ++ strs (xs.take kk)) rfl w8.heap.size (by have := O9.out.bel.size; omega) HO9.out _ (k - (kk + 1)) _ (strs (xs.drop (kk + 1))) rfl HC8.out (strs_one _) (by unfold maxLen; omega) (by omega) (fun A10 c10 w10 ho10 hm10 _ => ?_)
        have O10 := Lib.hid (O9.out.mv hm10)
        have HO10 := Lib.hid (Rd.of_own ho10)
        clear ho10 hm10
        obtain ⟨SA, hSA⟩ : ∃ SA, (if cx = kk + 1 then RX else Option.map (fun x => (⟨x.block, x.off + (kk + 1), none⟩ : Addr)) RX) = SA := ⟨_, rfl⟩
        rw [hSA]
        clear hSA
        refine hK _ _ ?_
        clear hK K
        try simp only [Act.put, List.setIfInBounds_toArray, List.set_cons_zero, List.set_cons_succ]
        refine wpAny_ready (rs := [9]) (by kernel_rfl) (by simp) ?_
        refine AllReady.cons (o := { dst := some 24, op := Op.assign (Operand.tmp 183), type := 70, pos := "law.go:70", after := #[{ on := 8, ground := Ground.data }, { on := 8, ground := Ground.chain }, { on := 0, ground := Ground.phase }, { on := 1, ground := Ground.phase }, { on := 2, ground := Ground.phase }, { on := 3, ground := Ground.phase }, { on := 4, ground := Ground.phase }, { on := 5, ground := Ground.phase }, { on := 6, ground := Ground.phase }, { on := 7, ground := Ground.phase }, { on := 8, ground := Ground.phase }], guard := none }) rfl (fun K hK => ?_) AllReady.nil
        go_simp
        refine hK _ _ ?_
        clear hK K
        try simp only [Act.put, List.setIfInBounds_toArray, List.set_cons_zero, List.set_cons_succ]
        refine wpAny_done (by kernel_rfl) ?_ _
        have HX10 := Lib.hid (HX8.out.below O10.out.bel)
        have hlx : Hid (∀ b ∈ [] ++ xs.take kk ++ xs.drop (kk + 1), b ∈ xs) := fun b hb => by
          rcases List.mem_append.1 hb with h | h
          · exact List.mem_of_mem_take (by simpa using h)
          · exact List.mem_of_mem_drop h
        have hl0 : Hid (Rd w10 1 A10 (0 + kk + (k - (kk + 1))) (strs ([] ++ xs.take kk ++ xs.drop (kk + 1)))) := by
          show Rd _ _ _ _ _
          have := HO10.out
          rwa [List.nil_append, strs_app, ← List.nil_append (xs.take kk)] at this
        obtain ⟨ll, hll⟩ : ∃ ll, [] ++ xs.take kk ++ xs.drop (kk + 1) = ll := ⟨_, rfl⟩
        have hllg : Hid (1 < k → getsL id ti sh ll = false) := fun h => by rw [← hll, List.nil_append]; exact HLs.out kk hkl h
        obtain ⟨ln, hln⟩ : ∃ ln, kk + (k - (kk + 1)) = ln := ⟨_, rfl⟩
        have hlnk : ln + 1 = k := by omega
        rw [hll] at hlx hl0
        rw [Nat.zero_add, hln] at hl0
        rw [hln]
        clear hll hln HO10 HO9 O9 HC8 HT hslo hslp hslw hslt HX8
        go_wp2_with (at_builtin; refine wpList_app2 rfl _ _ 70 rfl 9 i0 _ 1 16 Tryz.underlying70 hi hz0 hz1 hz2 rfl (by decide) (.slice none 0 0) 0 [] rfl w10.heap.size (Nat.le_refl _) (World.ownsRow_nil _ _ _ _) RX k cx (strs xs) rfl HX10.out (strs_one _) ?q1 ?q2 ?_)
        case q1 => unfold maxLen; omega
        case q2 => omega
        intro Z cz w11 ho11 hm11 _
        try rw [Nat.zero_add, List.nil_append] at ho11
        try rw [Nat.zero_add] at hm11
        try rw [Nat.zero_add]
        have O11 := Lib.hid ((((Own.start w10).also (G := rowF (.slice none 0 0)) (fun k hk => by cases hk))).mv hm11)
        have hxk : xs[kk]? = some (xs.getD kk []) := by rw [List.getD_eq_getElem?_getD, List.getElem?_eq_getElem (by rw [HXl.out]; exact hkl)]; rfl
        have hxj : xs[jj]? = some (xs.getD jj []) := by rw [List.getD_eq_getElem?_getD, List.getElem?_eq_getElem (by rw [HXl.out]; exact hjl)]; rfl
        obtain ⟨gz, capz, hv, hbg, _⟩ := ho11.form (by omega)
        injection hv with hv1 _ hv3
        subst hv1
        subst hv3
        have hBlk : ∃ cur, Blk w11 gz 9 cur := by
          rcases ho11.2 with ⟨h0, _⟩ | ⟨g', cap', cur, e, _, hg, _⟩
          · cases h0
          · injection e with e1 _ _
            injection e1 with e1
            injection e1 with e1 _ _
            subst e1
            exact ⟨cur, hg⟩
        obtain ⟨cur, hBk⟩ := hBlk
        have zk := hBk.drew.frozen kk
        have zj := hBk.drew.frozen jj
        have ck := ho11.cells (g := gz) rfl kk (.string (bstr (xs.getD kk []))) (by unfold strs; rw [List.getElem?_map, hxk]; rfl)
        have cj := ho11.cells (g := gz) rfl jj (.string (bstr (xs.getD jj []))) (by unfold strs; rw [List.getElem?_map, hxj]; rfl)
        rw [add_lit, Nat.zero_add] at ck cj
        have ck2 : w11.drew.cell? ⟨gz, kk, none⟩ = _ := ck
        have cj2 : w11.drew.cell? ⟨gz, jj, none⟩ = _ := cj
        have ho12 : w11.drew.ownsRow w10.heap.size 9 1 (.slice (some ⟨gz, 0, none⟩) k cz) k (strs xs) := own_fr0 ho11 (Fr.refl (fun _ => False) w11).drew
        have st1 := (ho12.stored kk (.string (bstr (xs.getD jj [])))).1
        rw [← strs_set_ xs] at st1
        have cj3 := st1.cells (g := gz) rfl jj ((strs (xs.set kk (xs.getD jj [])))[jj]'(by rw [strs_len, List.length_set, HXl.out]; exact hjl)) (List.getElem?_eq_getElem _)
        rw [add_lit, Nat.zero_add] at cj3
        replace cj3 : ∃ V, _ = some V := ⟨_, cj3⟩
        obtain ⟨V3, cj3⟩ := cj3
        have zj3 := (hBk.drew.set_ kk (.string (bstr (xs.getD jj [])))).frozen jj
        have st2 := (st1.stored jj (.string (bstr (xs.getD kk [])))).1
        rw [← strs_set_] at st2
        have F12 : Fr (fun i => i = gz) w11 ((w11.drew.setCell ⟨gz, kk, none⟩ (.string (bstr (xs.getD jj [])))).setCell ⟨gz, jj, none⟩ (.string (bstr (xs.getD kk [])))) := (((Fr.refl (fun i => i = gz) w11).drew).setCell (p := ⟨gz, kk, none⟩) (.inl rfl) _).setCell (p := ⟨gz, jj, none⟩) (.inl rfl) _
        have HZ12 : Hid (∀ W, W = (w11.drew.setCell ⟨gz, kk, none⟩ (.string (bstr (xs.getD jj [])))).setCell ⟨gz, jj, none⟩ (.string (bstr (xs.getD kk []))) → Rd W 1 (some ⟨gz, 0, none⟩) k (strs (swapL xs kk jj)) ∧ Below w10.heap.size w10 W) := fun W hW => by
          subst hW
          exact ⟨Rd.of_own st2, (O11.out.fr (F12.mono (fun i hi => .inl (by subst hi; rfl)))).bel⟩
        obtain ⟨XK, hXK⟩ : ∃ X, bstr (xs.getD kk []) = X := ⟨_, rfl⟩
        obtain ⟨XJ, hXJ⟩ : ∃ X, bstr (xs.getD jj []) = X := ⟨_, rfl⟩
        rw [hXK] at ck2 HZ12
        rw [hXJ] at cj2 cj3 zj3 HZ12
        obtain ⟨W12, hW12⟩ : ∃ W12, W12 = w11.drew.setCell ⟨gz, kk, none⟩ (.string XJ) := ⟨_, rfl⟩
        rw [← hW12] at cj3 zj3 HZ12
        have hW12h := Lib.hid hW12
        have hkw : IntKind.i64.wrap (kk : Int) = (kk : Int) := IntWalk.i64_in _ (by omega)
        have hjw : IntKind.i64.wrap (jj : Int) = (jj : Int) := IntWalk.i64_in _ (by omega)
        have hkr : (0 : Int) ≤ (kk : Int) ∧ (kk : Int) < (k : Int) := ⟨by omega, by omega⟩
        have hjr : (0 : Int) ≤ (jj : Int) ∧ (jj : Int) < (k : Int) := ⟨by omega, by omega⟩
        have hkr2 : kk < k := hkl
        have hjr2 : jj < k := hjl
        clear hxk hxj hBk ck cj ho11 ho12 hm11 st1 st2 F12 hXK hXJ hbg hW12 hi hz0 hz1 hz2
        go_wp2_with fail
        refine wp_region_any (by kernel_rfl) ?_
        change wpAny _ _ _ _ _ _ _ (World.drew _)
        refine wpAny_take (i := 0) (oi := { dst := some 186, op := Op.move (Operand.tmp 25), type := 70, pos := "law.go:72", after := #[], guard := none }) (v := ?vq1) rfl (by kernel_rfl) (by kernel_rfl) (by kernel_rfl) (fun _ _ _ h => h) (Or.inl ⟨by rfl, ?hq1⟩) ?rq1
        case hq1 => intro W; go_simp; (try with_reducible rfl)
        try simp only [Act.put, List.setIfInBounds_toArray, List.set_cons_zero, List.set_cons_succ]
        refine wpAny_take (i := 1) (oi := { dst := some 187, op := Op.move (Operand.tmp 22), type := 3, pos := "law.go:72", after := #[], guard := none }) (v := ?vq2) rfl (by kernel_rfl) (by kernel_rfl) (by kernel_rfl) (fun _ _ _ h => h) (Or.inl ⟨by rfl, ?hq2⟩) ?rq2
        case hq2 => intro W; go_simp; (try with_reducible rfl)
        try simp only [Act.put, List.setIfInBounds_toArray, List.set_cons_zero, List.set_cons_succ]
        refine wpAny_take (i := 2) (oi := { dst := some 188, op := Op.move (Operand.tmp 25), type := 70, pos := "law.go:72", after := #[{ on := 13, ground := Ground.gcOnly Departure.lateStores }], guard := none }) (v := ?vq3) rfl (by kernel_rfl) (by kernel_rfl) (by kernel_rfl) (fun _ _ _ h => h) (Or.inl ⟨by rfl, ?hq3⟩) ?rq3
        case hq3 => intro W; go_simp; (try with_reducible rfl)
        try simp only [Act.put, List.setIfInBounds_toArray, List.set_cons_zero, List.set_cons_succ]
        refine wpAny_take (i := 3) (oi := { dst := some 189, op := Op.move (Operand.tmp 23), type := 3, pos := "law.go:72", after := #[{ on := 13, ground := Ground.gcOnly Departure.lateStores }], guard := none }) (v := ?vq4) rfl (by kernel_rfl) (by kernel_rfl) (by kernel_rfl) (fun _ _ _ h => h) (Or.inl ⟨by rfl, ?hq4⟩) ?rq4
        case hq4 => intro W; go_simp; (try with_reducible rfl)
        try simp only [Act.put, List.setIfInBounds_toArray, List.set_cons_zero, List.set_cons_succ]
        refine wpAny_take (i := 4) (oi := { dst := some 190, op := Op.move (Operand.tmp 25), type := 70, pos := "law.go:72", after := #[], guard := none }) (v := ?vq5) rfl (by kernel_rfl) (by kernel_rfl) (by kernel_rfl) (fun _ _ _ h => h) (Or.inl ⟨by rfl, ?hq5⟩) ?rq5
        case hq5 => intro W; go_simp; (try with_reducible rfl)
        try simp only [Act.put, List.setIfInBounds_toArray, List.set_cons_zero, List.set_cons_succ]
        refine wpAny_take (i := 5) (oi := { dst := some 191, op := Op.move (Operand.tmp 23), type := 3, pos := "law.go:72", after := #[], guard := none }) (v := ?vq6) rfl (by kernel_rfl) (by kernel_rfl) (by kernel_rfl) (fun _ _ _ h => h) (Or.inl ⟨by rfl, ?hq6⟩) ?rq6
        case hq6 => intro W; go_simp; (try with_reducible rfl)
        try simp only [Act.put, List.setIfInBounds_toArray, List.set_cons_zero, List.set_cons_succ]
        refine wpAny_take (i := 6) (oi := { dst := some 192, op := Op.indexAddr 70 (Operand.tmp 190) (Operand.tmp 191), type := 0, pos := "law.go:72", after := #[{ on := 4, ground := Ground.data }, { on := 5, ground := Ground.data }], guard := none }) (v := ?vq7) rfl (by kernel_rfl) (by kernel_rfl) (by kernel_rfl) (fun _ _ _ h => h) (Or.inl ⟨by rfl, ?hq7⟩) ?rq7
        case hq7 => intro W; go_simp; (try with_reducible rfl)
        try simp only [Act.put, List.setIfInBounds_toArray, List.set_cons_zero, List.set_cons_succ]
        refine wpAny_take (i := 8) (oi := { dst := some 194, op := Op.move (Operand.tmp 25), type := 70, pos := "law.go:72", after := #[], guard := none }) (v := ?vq8) rfl (by kernel_rfl) (by kernel_rfl) (by kernel_rfl) (fun _ _ _ h => h) (Or.inl ⟨by rfl, ?hq8⟩) ?rq8
        case hq8 => intro W; go_simp; (try with_reducible rfl)
        try simp only [Act.put, List.setIfInBounds_toArray, List.set_cons_zero, List.set_cons_succ]
        refine wpAny_take (i := 9) (oi := { dst := some 195, op := Op.move (Operand.tmp 22), type := 3, pos := "law.go:72", after := #[], guard := none }) (v := ?vq9) rfl (by kernel_rfl) (by kernel_rfl) (by kernel_rfl) (fun _ _ _ h => h) (Or.inl ⟨by rfl, ?hq9⟩) ?rq9
        case hq9 => intro W; go_simp; (try with_reducible rfl)
        try simp only [Act.put, List.setIfInBounds_toArray, List.set_cons_zero, List.set_cons_succ]
        refine wpAny_take (i := 10) (oi := { dst := some 196, op := Op.indexAddr 70 (Operand.tmp 194) (Operand.tmp 195), type := 0, pos := "law.go:72", after := #[{ on := 8, ground := Ground.data }, { on := 9, ground := Ground.data }], guard := none }) (v := ?vq10) rfl (by kernel_rfl) (by kernel_rfl) (by kernel_rfl) (fun _ _ _ h => h) (Or.inl ⟨by rfl, ?hq10⟩) ?rq10
        case hq10 => intro W; go_simp; (try with_reducible rfl)
        try simp only [Act.put, List.setIfInBounds_toArray, List.set_cons_zero, List.set_cons_succ]
        refine wpAny_ready (rs := [7, 11]) (by kernel_rfl) (by simp) ?_
        refine AllReady.cons (o := { dst := some 193, op := Op.load 9 (Operand.tmp 192), type := 9, pos := "law.go:72", after := #[{ on := 6, ground := Ground.data }], guard := none }) rfl (fun K hK => ?_) ?_
        · go_simp
          refine hK _ _ ?_
          clear hK K
          try simp only [Act.put, List.setIfInBounds_toArray, List.set_cons_zero, List.set_cons_succ]
          refine wpAny_ready (rs := [11]) (by kernel_rfl) (by simp) ?_
          refine AllReady.cons (o := { dst := some 197, op := Op.load 9 (Operand.tmp 196), type := 9, pos := "law.go:72", after := #[{ on := 10, ground := Ground.data }], guard := none }) rfl (fun K hK => ?_) AllReady.nil
          go_simp
          refine hK _ _ ?_
          clear hK K
          try simp only [Act.put, List.setIfInBounds_toArray, List.set_cons_zero, List.set_cons_succ]
          refine wpAny_take (i := 12) (oi := { dst := some 198, op := Op.indexAddr 70 (Operand.tmp 186) (Operand.tmp 187), type := 0, pos := "law.go:72", after := #[{ on := 0, ground := Ground.data }, { on := 1, ground := Ground.data }, { on := 0, ground := Ground.phase }, { on := 1, ground := Ground.phase }, { on := 2, ground := Ground.textOnly Departure.lateStores }, { on := 3, ground := Ground.textOnly Departure.lateStores }, { on := 4, ground := Ground.phase }, { on := 5, ground := Ground.phase }, { on := 6, ground := Ground.phase }, { on := 7, ground := Ground.phase }, { on := 8, ground := Ground.textOnly Departure.lateStores }, { on := 9, ground := Ground.textOnly Departure.lateStores }, { on := 10, ground := Ground.textOnly Departure.lateStoresUnsure }, { on := 11, ground := Ground.phase }], guard := none }) (v := ?vq11) rfl (by kernel_rfl) (by kernel_rfl) (by kernel_rfl) (fun _ _ _ h => h) (Or.inl ⟨by rfl, ?hq11⟩) ?rq11
          case hq11 => intro W; go_simp; (try with_reducible rfl)
          try simp only [Act.put, List.setIfInBounds_toArray, List.set_cons_zero, List.set_cons_succ]
          refine wpAny_ready (rs := [13]) (by kernel_rfl) (by simp) ?_
          refine AllReady.cons (o := { dst := none, op := Op.store 9 (Operand.tmp 198) (Operand.tmp 193), type := 0, pos := "law.go:72", after := #[{ on := 12, ground := Ground.data }, { on := 7, ground := Ground.data }, { on := 0, ground := Ground.phase }, { on := 1, ground := Ground.phase }, { on := 2, ground := Ground.textOnly Departure.lateStores }, { on := 3, ground := Ground.textOnly Departure.lateStores }, { on := 4, ground := Ground.phase }, { on := 5, ground := Ground.phase }, { on := 6, ground := Ground.phase }, { on := 7, ground := Ground.phase }, { on := 8, ground := Ground.textOnly Departure.lateStores }, { on := 9, ground := Ground.textOnly Departure.lateStores }, { on := 10, ground := Ground.textOnly Departure.lateStoresUnsure }, { on := 11, ground := Ground.phase }], guard := none }) rfl (fun K hK => ?_) AllReady.nil
          go_simp
          refine hK _ _ ?_
          clear hK K
          try simp only [Act.put, List.setIfInBounds_toArray, List.set_cons_zero, List.set_cons_succ]
          change wpAny _ _ _ _ _ _ _ (w11.drew.setCell ⟨gz, kk, none⟩ (.string XJ))
          rw [← hW12h.out]
          refine wpAny_take (i := 14) (oi := { dst := some 199, op := Op.indexAddr 70 (Operand.tmp 188) (Operand.tmp 189), type := 0, pos := "law.go:72", after := #[{ on := 2, ground := Ground.data }, { on := 3, ground := Ground.data }, { on := 0, ground := Ground.phase }, { on := 1, ground := Ground.phase }, { on := 2, ground := Ground.phase }, { on := 3, ground := Ground.phase }, { on := 4, ground := Ground.phase }, { on := 5, ground := Ground.phase }, { on := 6, ground := Ground.phase }, { on := 7, ground := Ground.phase }, { on := 8, ground := Ground.phase }, { on := 9, ground := Ground.phase }, { on := 10, ground := Ground.phase }, { on := 11, ground := Ground.phase }, { on := 12, ground := Ground.phase }, { on := 13, ground := Ground.phase }], guard := none }) (v := ?vq12) rfl (by kernel_rfl) (by kernel_rfl) (by kernel_rfl) (fun _ _ _ h => h) (Or.inl ⟨by rfl, ?hq12⟩) ?rq12
          case hq12 => intro W; go_simp; (try with_reducible rfl)
          try simp only [Act.put, List.setIfInBounds_toArray, List.set_cons_zero, List.set_cons_succ]
          refine wpAny_ready (rs := [15]) (by kernel_rfl) (by simp) ?_
          refine AllReady.cons (o := { dst := none, op := Op.store 9 (Operand.tmp 199) (Operand.tmp 197), type := 0, pos := "law.go:72", after := #[{ on := 14, ground := Ground.data }, { on := 11, ground := Ground.data }, { on := 13, ground := Ground.chain }, { on := 0, ground := Ground.phase }, { on := 1, ground := Ground.phase }, { on := 2, ground := Ground.phase }, { on := 3, ground := Ground.phase }, { on := 4, ground := Ground.phase }, { on := 5, ground := Ground.phase }, { on := 6, ground := Ground.phase }, { on := 7, ground := Ground.phase }, { on := 8, ground := Ground.phase }, { on := 9, ground := Ground.phase }, { on := 10, ground := Ground.phase }, { on := 11, ground := Ground.phase }, { on := 12, ground := Ground.phase }, { on := 13, ground := Ground.phase }], guard := none }) rfl (fun K hK => ?_) AllReady.nil
          go_simp
          refine hK _ _ ?_
          clear hK K
          try simp only [Act.put, List.setIfInBounds_toArray, List.set_cons_zero, List.set_cons_succ]
          refine wpAny_done (by kernel_rfl) ?_ _
          obtain ⟨w13, hw13⟩ : ∃ w13, w13 = W12.setCell ⟨gz, jj, none⟩ (.string XK) := ⟨_, rfl⟩
          rw [← hw13]
          obtain ⟨hz13, hb13⟩ := HZ12.out w13 hw13
          have HZ13 := Lib.hid hz13
          have D13 := Lib.hid (O10.out.bel.trans (hb13.mono O10.out.bel.size))
          have HL13 := Lib.hid (hl0.out.below hb13)
          have HX13 := Lib.hid (HX10.out.below hb13)
          clear hz13 hb13 hw13 HZ12 ck2 cj2 cj3 zk zj zj3 hkw hjw hkr hjr hW12h hp hq hkk hjj
          go_wp2_with fail
          refine (HGet.out id ti sh Hd.out ll hlx.out A10 ln c10 w13 HL13.out (by omega)).mono ?_
          rintro r w14 ⟨e1, e2, e3, b14⟩
          have hE1 : ∃ c1 : Int, r = .returned (.tuple #[.slice none 0 0, .int .i64 c1]) ∧ (1 < k → c1 = 6) := by
            rcases Nat.eq_zero_or_pos ln with h0 | h0
            · exact ⟨0, e3 h0, fun h => by omega⟩
            · obtain ⟨e, he, _, h6⟩ := e2 (by omega) (hllg.out (by omega))
              exact ⟨e, he, fun _ => h6 (HRe.out ll hlx.out)⟩
          obtain ⟨c1, rfl, hc1⟩ := hE1
          have HC1 := Lib.hid hc1
          have D14 := Lib.hid (D13.out.trans (b14.mono D13.out.size))
          have HZ14 := Lib.hid (HZ13.out.below b14)
          have HX14 := Lib.hid (HX13.out.below b14)
          clear e1 e2 e3 b14 hc1 HL13 HZ13 HX13 D13
          go_wp2_with fail
          refine (HGet.out id ti sh Hd.out (swapL xs kk jj) (fun b h => swapL_mem (by rw [HXl.out]; exact hkl) (by rw [HXl.out]; exact hjl) h) (some ⟨gz, 0, none⟩) k cz w14 HZ14.out (by omega)).mono ?_
          rintro r w15 ⟨e1, e2, e3, b15⟩
          have hE2 : ∃ S m c, ∃ c2 : Int, r = .returned (.tuple #[.slice S m c, .int .i64 c2]) ∧ (kk = jj → c2 = 0) ∧ (kk ≠ jj → c2 ≠ 0) := by
            by_cases h : kk = jj
            · obtain ⟨S, m, c, he, _⟩ := e1 (by omega) (by rw [h, swapL_self]; exact HGX.out)
              exact ⟨S, m, c, 0, he, fun _ => rfl, fun h' => absurd h h'⟩
            · obtain ⟨e, he, hne, _⟩ := e2 (by omega) (HSw.out kk jj hkl hjl h)
              exact ⟨none, 0, 0, e, he, fun h' => absurd h' h, fun _ => hne⟩
          obtain ⟨SS, sm, sc, c2, rfl, hc2a, hc2b⟩ := hE2
          have HC2a := Lib.hid hc2a
          have HC2b := Lib.hid hc2b
          have D15 := Lib.hid (D14.out.trans (b15.mono D14.out.size))
          have HX15 := Lib.hid (HX14.out.below b15)
          clear e1 e2 e3 b15 hc2a hc2b HZ14 HX14 D14
          go_wp2_with fail
          refine (HGet.out id2 ti sh hid3 xs (fun _ h => h) RX k cx w15 HX15.out (by omega)).mono ?_
          rintro r w16 ⟨_, e2, _, b⟩
          obtain ⟨e, rfl, _, h6⟩ := e2 (by omega) (HOth.out hpos id2 ti sh (fun h => hid4 h.1))
          obtain rfl := h6 (HRe.out xs (fun _ h => h))
          have D16 := Lib.hid (D15.out.trans (b.mono D15.out.size))
          have HX16 := Lib.hid (HX15.out.below b)
          clear e2 b h6 HX15 D15
          go_wp2_with fail
          refine (HGet.out id (ti + 1) sh Hd.out xs (fun _ h => h) RX k cx w16 HX16.out (by omega)).mono ?_
          rintro r w17 ⟨_, e2, _, b⟩
          obtain ⟨e, rfl, _, h6⟩ := e2 (by omega) (HOth.out hpos id (ti + 1) sh (fun h => by have := h.2.1; omega))
          obtain rfl := h6 (HRe.out xs (fun _ h => h))
          have D17 := Lib.hid (D16.out.trans (b.mono D16.out.size))
          have HX17 := Lib.hid (HX16.out.below b)
          clear e2 b h6 HX16 D16
          go_wp2_with fail
          refine (HGet.out id ti (sh + 1) Hd.out xs (fun _ h => h) RX k cx w17 HX17.out (by omega)).mono ?_
          rintro r w18 ⟨_, e2, _, b⟩
          obtain ⟨e, rfl, _, h6⟩ := e2 (by omega) (HOth.out hpos id ti (sh + 1) (fun h => by have := h.2.2; omega))
          obtain rfl := h6 (HRe.out xs (fun _ h => h))
          have D18 := Lib.hid (D17.out.trans (b.mono D17.out.size))
          have HX18 := Lib.hid (HX17.out.below b)
          clear e2 b h6 HX17 D17
          have hcase : (1 < k ∧ c1 = 6) ∨ ¬ 1 < k := by
            by_cases h : 1 < k
            · exact .inl ⟨h, HC1.out h⟩
            · exact .inr h
          by_cases hkj : kk = jj
          · obtain rfl := HC2a.out hkj
            subst hkj
            rcases hcase with ⟨h1k, rfl⟩ | h1k
            · have h1i : (1 : Int) < (k : Int) := by omega
              have h1d : decide ((1 : Int) < (k : Int)) = true := decide_eq_true h1i
              go_wp2_with fail
              refine (AL.out _).mono ?_
              rintro r w21 ⟨rfl, b21⟩
              have D21 := Lib.hid (D18.out.trans (b21.mono D18.out.size))
              clear b21
              go_wp2_with fail
              refine (bookR_apart w21 g g (0 + 1) (BK8.out.fr D21.out) (by omega)).mono ?_
              rintro r w22 ⟨rfl, f22⟩
              have B21 : Hid (Below w.heap.size w w21) := B8.out.trans (D21.out.mono B8.out.size)
              have B22 : Hid (Below w.heap.size w w22) := B21.out.trans (f22.below_of B21.out.size (fun i hi => Nat.le_trans hwg.out hi))
              clear f22
              go_wp2_with fail
              go_ret
              exact ⟨rfl, B22.out⟩
            · have h1i : ¬ (1 : Int) < (k : Int) := by omega
              have h1d : decide ((1 : Int) < (k : Int)) = false := decide_eq_false h1i
              have h1n : decide (1 < k) = false := decide_eq_false h1k
              go_wp2_with fail
              refine (AL.out _).mono ?_
              rintro r w21 ⟨rfl, b21⟩
              have D21 := Lib.hid (D18.out.trans (b21.mono D18.out.size))
              clear b21
              go_wp2_with fail
              refine (bookR_apart w21 g g (0 + 1) (BK8.out.fr D21.out) (by omega)).mono ?_
              rintro r w22 ⟨rfl, f22⟩
              have B21 : Hid (Below w.heap.size w w21) := B8.out.trans (D21.out.mono B8.out.size)
              have B22 : Hid (Below w.heap.size w w22) := B21.out.trans (f22.below_of B21.out.size (fun i hi => Nat.le_trans hwg.out hi))
              clear f22
              go_wp2_with fail
              go_ret
              exact ⟨rfl, B22.out⟩
          · have hc0 := HC2b.out hkj
            have hc0b : (c2 == 0) = false := by simpa using hc0
            have hkji : ¬ (kk : Int) = (jj : Int) := by omega
            have hkjb : ((kk : Int) == (jj : Int)) = false := by simpa using hkji
            rcases hcase with ⟨h1k, rfl⟩ | h1k
            · have h1i : (1 : Int) < (k : Int) := by omega
              have h1d : decide ((1 : Int) < (k : Int)) = true := decide_eq_true h1i
              go_wp2_with fail
              refine (AL.out _).mono ?_
              rintro r w21 ⟨rfl, b21⟩
              have D21 := Lib.hid (D18.out.trans (b21.mono D18.out.size))
              clear b21
              go_wp2_with fail
              refine (bookR_apart w21 g g (0 + 1) (BK8.out.fr D21.out) (by omega)).mono ?_
              rintro r w22 ⟨rfl, f22⟩
              have B21 : Hid (Below w.heap.size w w21) := B8.out.trans (D21.out.mono B8.out.size)
              have B22 : Hid (Below w.heap.size w w22) := B21.out.trans (f22.below_of B21.out.size (fun i hi => Nat.le_trans hwg.out hi))
              clear f22
              go_wp2_with fail
              go_ret
              exact ⟨rfl, B22.out⟩
            · have h1i : ¬ (1 : Int) < (k : Int) := by omega
              have h1d : decide ((1 : Int) < (k : Int)) = false := decide_eq_false h1i
              have h1n : decide (1 < k) = false := decide_eq_false h1k
              go_wp2_with fail
              refine (AL.out _).mono ?_
              rintro r w21 ⟨rfl, b21⟩
              have D21 := Lib.hid (D18.out.trans (b21.mono D18.out.size))
              clear b21
              go_wp2_with fail
              refine (bookR_apart w21 g g (0 + 1) (BK8.out.fr D21.out) (by omega)).mono ?_
              rintro r w22 ⟨rfl, f22⟩
              have B21 : Hid (Below w.heap.size w w21) := B8.out.trans (D21.out.mono B8.out.size)
              have B22 : Hid (Below w.heap.size w w22) := B21.out.trans (f22.below_of B21.out.size (fun i hi => Nat.le_trans hwg.out hi))
              clear f22
              go_wp2_with fail
              go_ret
              exact ⟨rfl, B22.out⟩
        refine AllReady.cons (o := { dst := some 197, op := Op.load 9 (Operand.tmp 196), type := 9, pos := "law.go:72", after := #[{ on := 10, ground := Ground.data }], guard := none }) rfl (fun K hK => ?_) ?_
        · go_simp
          refine hK _ _ ?_
          clear hK K
          try simp only [Act.put, List.setIfInBounds_toArray, List.set_cons_zero, List.set_cons_succ]
          refine wpAny_ready (rs := [7]) (by kernel_rfl) (by simp) ?_
          refine AllReady.cons (o := { dst := some 193, op := Op.load 9 (Operand.tmp 192), type := 9, pos := "law.go:72", after := #[{ on := 6, ground := Ground.data }], guard := none }) rfl (fun K hK => ?_) AllReady.nil
          go_simp
          refine hK _ _ ?_
          clear hK K
          try simp only [Act.put, List.setIfInBounds_toArray, List.set_cons_zero, List.set_cons_succ]
          refine wpAny_take (i := 12) (oi := { dst := some 198, op := Op.indexAddr 70 (Operand.tmp 186) (Operand.tmp 187), type := 0, pos := "law.go:72", after := #[{ on := 0, ground := Ground.data }, { on := 1, ground := Ground.data }, { on := 0, ground := Ground.phase }, { on := 1, ground := Ground.phase }, { on := 2, ground := Ground.textOnly Departure.lateStores }, { on := 3, ground := Ground.textOnly Departure.lateStores }, { on := 4, ground := Ground.phase }, { on := 5, ground := Ground.phase }, { on := 6, ground := Ground.phase }, { on := 7, ground := Ground.phase }, { on := 8, ground := Ground.textOnly Departure.lateStores }, { on := 9, ground := Ground.textOnly Departure.lateStores }, { on := 10, ground := Ground.textOnly Departure.lateStoresUnsure }, { on := 11, ground := Ground.phase }], guard := none }) (v := ?vq13) rfl (by kernel_rfl) (by kernel_rfl) (by kernel_rfl) (fun _ _ _ h => h) (Or.inl ⟨by rfl, ?hq13⟩) ?rq13
          case hq13 => intro W; go_simp; (try with_reducible rfl)
          try simp only [Act.put, List.setIfInBounds_toArray, List.set_cons_zero, List.set_cons_succ]
          refine wpAny_ready (rs := [13]) (by kernel_rfl) (by simp) ?_
          refine AllReady.cons (o := { dst := none, op := Op.store 9 (Operand.tmp 198) (Operand.tmp 193), type := 0, pos := "law.go:72", after := #[{ on := 12, ground := Ground.data }, { on := 7, ground := Ground.data }, { on := 0, ground := Ground.phase }, { on := 1, ground := Ground.phase }, { on := 2, ground := Ground.textOnly Departure.lateStores }, { on := 3, ground := Ground.textOnly Departure.lateStores }, { on := 4, ground := Ground.phase }, { on := 5, ground := Ground.phase }, { on := 6, ground := Ground.phase }, { on := 7, ground := Ground.phase }, { on := 8, ground := Ground.textOnly Departure.lateStores }, { on := 9, ground := Ground.textOnly Departure.lateStores }, { on := 10, ground := Ground.textOnly Departure.lateStoresUnsure }, { on := 11, ground := Ground.phase }], guard := none }) rfl (fun K hK => ?_) AllReady.nil
          go_simp
          refine hK _ _ ?_
          clear hK K
          try simp only [Act.put, List.setIfInBounds_toArray, List.set_cons_zero, List.set_cons_succ]
          change wpAny _ _ _ _ _ _ _ (w11.drew.setCell ⟨gz, kk, none⟩ (.string XJ))
          rw [← hW12h.out]
          refine wpAny_take (i := 14) (oi := { dst := some 199, op := Op.indexAddr 70 (Operand.tmp 188) (Operand.tmp 189), type := 0, pos := "law.go:72", after := #[{ on := 2, ground := Ground.data }, { on := 3, ground := Ground.data }, { on := 0, ground := Ground.phase }, { on := 1, ground := Ground.phase }, { on := 2, ground := Ground.phase }, { on := 3, ground := Ground.phase }, { on := 4, ground := Ground.phase }, { on := 5, ground := Ground.phase }, { on := 6, ground := Ground.phase }, { on := 7, ground := Ground.phase }, { on := 8, ground := Ground.phase }, { on := 9, ground := Ground.phase }, { on := 10, ground := Ground.phase }, { on := 11, ground := Ground.phase }, { on := 12, ground := Ground.phase }, { on := 13, ground := Ground.phase }], guard := none }) (v := ?vq14) rfl (by kernel_rfl) (by kernel_rfl) (by kernel_rfl) (fun _ _ _ h => h) (Or.inl ⟨by rfl, ?hq14⟩) ?rq14
          case hq14 => intro W; go_simp; (try with_reducible rfl)
          try simp only [Act.put, List.setIfInBounds_toArray, List.set_cons_zero, List.set_cons_succ]
          refine wpAny_ready (rs := [15]) (by kernel_rfl) (by simp) ?_
          refine AllReady.cons (o := { dst := none, op := Op.store 9 (Operand.tmp 199) (Operand.tmp 197), type := 0, pos := "law.go:72", after := #[{ on := 14, ground := Ground.data }, { on := 11, ground := Ground.data }, { on := 13, ground := Ground.chain }, { on := 0, ground := Ground.phase }, { on := 1, ground := Ground.phase }, { on := 2, ground := Ground.phase }, { on := 3, ground := Ground.phase }, { on := 4, ground := Ground.phase }, { on := 5, ground := Ground.phase }, { on := 6, ground := Ground.phase }, { on := 7, ground := Ground.phase }, { on := 8, ground := Ground.phase }, { on := 9, ground := Ground.phase }, { on := 10, ground := Ground.phase }, { on := 11, ground := Ground.phase }, { on := 12, ground := Ground.phase }, { on := 13, ground := Ground.phase }], guard := none }) rfl (fun K hK => ?_) AllReady.nil
          go_simp
          refine hK _ _ ?_
          clear hK K
          try simp only [Act.put, List.setIfInBounds_toArray, List.set_cons_zero, List.set_cons_succ]
          refine wpAny_done (by kernel_rfl) ?_ _
          obtain ⟨w13, hw13⟩ : ∃ w13, w13 = W12.setCell ⟨gz, jj, none⟩ (.string XK) := ⟨_, rfl⟩
          rw [← hw13]
          obtain ⟨hz13, hb13⟩ := HZ12.out w13 hw13
          have HZ13 := Lib.hid hz13
          have D13 := Lib.hid (O10.out.bel.trans (hb13.mono O10.out.bel.size))
          have HL13 := Lib.hid (hl0.out.below hb13)
          have HX13 := Lib.hid (HX10.out.below hb13)
          clear hz13 hb13 hw13 HZ12 ck2 cj2 cj3 zk zj zj3 hkw hjw hkr hjr hW12h hp hq hkk hjj
          go_wp2_with fail
          refine (HGet.out id ti sh Hd.out ll hlx.out A10 ln c10 w13 HL13.out (by omega)).mono ?_
          rintro r w14 ⟨e1, e2, e3, b14⟩
          have hE1 : ∃ c1 : Int, r = .returned (.tuple #[.slice none 0 0, .int .i64 c1]) ∧ (1 < k → c1 = 6) := by
            rcases Nat.eq_zero_or_pos ln with h0 | h0
            · exact ⟨0, e3 h0, fun h => by omega⟩
            · obtain ⟨e, he, _, h6⟩ := e2 (by omega) (hllg.out (by omega))
              exact ⟨e, he, fun _ => h6 (HRe.out ll hlx.out)⟩
          obtain ⟨c1, rfl, hc1⟩ := hE1
          have HC1 := Lib.hid hc1
          have D14 := Lib.hid (D13.out.trans (b14.mono D13.out.size))
          have HZ14 := Lib.hid (HZ13.out.below b14)
          have HX14 := Lib.hid (HX13.out.below b14)
          clear e1 e2 e3 b14 hc1 HL13 HZ13 HX13 D13
          go_wp2_with fail
          refine (HGet.out id ti sh Hd.out (swapL xs kk jj) (fun b h => swapL_mem (by rw [HXl.out]; exact hkl) (by rw [HXl.out]; exact hjl) h) (some ⟨gz, 0, none⟩) k cz w14 HZ14.out (by omega)).mono ?_
          rintro r w15 ⟨e1, e2, e3, b15⟩
          have hE2 : ∃ S m c, ∃ c2 : Int, r = .returned (.tuple #[.slice S m c, .int .i64 c2]) ∧ (kk = jj → c2 = 0) ∧ (kk ≠ jj → c2 ≠ 0) := by
            by_cases h : kk = jj
            · obtain ⟨S, m, c, he, _⟩ := e1 (by omega) (by rw [h, swapL_self]; exact HGX.out)
              exact ⟨S, m, c, 0, he, fun _ => rfl, fun h' => absurd h h'⟩
            · obtain ⟨e, he, hne, _⟩ := e2 (by omega) (HSw.out kk jj hkl hjl h)
              exact ⟨none, 0, 0, e, he, fun h' => absurd h' h, fun _ => hne⟩
          obtain ⟨SS, sm, sc, c2, rfl, hc2a, hc2b⟩ := hE2
          have HC2a := Lib.hid hc2a
          have HC2b := Lib.hid hc2b
          have D15 := Lib.hid (D14.out.trans (b15.mono D14.out.size))
          have HX15 := Lib.hid (HX14.out.below b15)
          clear e1 e2 e3 b15 hc2a hc2b HZ14 HX14 D14
          go_wp2_with fail
          refine (HGet.out id2 ti sh hid3 xs (fun _ h => h) RX k cx w15 HX15.out (by omega)).mono ?_
          rintro r w16 ⟨_, e2, _, b⟩
          obtain ⟨e, rfl, _, h6⟩ := e2 (by omega) (HOth.out hpos id2 ti sh (fun h => hid4 h.1))
          obtain rfl := h6 (HRe.out xs (fun _ h => h))
          have D16 := Lib.hid (D15.out.trans (b.mono D15.out.size))
          have HX16 := Lib.hid (HX15.out.below b)
          clear e2 b h6 HX15 D15
          go_wp2_with fail
          refine (HGet.out id (ti + 1) sh Hd.out xs (fun _ h => h) RX k cx w16 HX16.out (by omega)).mono ?_
          rintro r w17 ⟨_, e2, _, b⟩
          obtain ⟨e, rfl, _, h6⟩ := e2 (by omega) (HOth.out hpos id (ti + 1) sh (fun h => by have := h.2.1; omega))
          obtain rfl := h6 (HRe.out xs (fun _ h => h))
          have D17 := Lib.hid (D16.out.trans (b.mono D16.out.size))
          have HX17 := Lib.hid (HX16.out.below b)
          clear e2 b h6 HX16 D16
          go_wp2_with fail
          refine (HGet.out id ti (sh + 1) Hd.out xs (fun _ h => h) RX k cx w17 HX17.out (by omega)).mono ?_
          rintro r w18 ⟨_, e2, _, b⟩
          obtain ⟨e, rfl, _, h6⟩ := e2 (by omega) (HOth.out hpos id ti (sh + 1) (fun h => by have := h.2.2; omega))
          obtain rfl := h6 (HRe.out xs (fun _ h => h))
          have D18 := Lib.hid (D17.out.trans (b.mono D17.out.size))
          have HX18 := Lib.hid (HX17.out.below b)
          clear e2 b h6 HX17 D17
          have hcase : (1 < k ∧ c1 = 6) ∨ ¬ 1 < k := by
            by_cases h : 1 < k
            · exact .inl ⟨h, HC1.out h⟩
            · exact .inr h
          by_cases hkj : kk = jj
          · obtain rfl := HC2a.out hkj
            subst hkj
            rcases hcase with ⟨h1k, rfl⟩ | h1k
            · have h1i : (1 : Int) < (k : Int) := by omega
              have h1d : decide ((1 : Int) < (k : Int)) = true := decide_eq_true h1i
              go_wp2_with fail
              refine (AL.out _).mono ?_
              rintro r w21 ⟨rfl, b21⟩
              have D21 := Lib.hid (D18.out.trans (b21.mono D18.out.size))
              clear b21
              go_wp2_with fail
              refine (bookR_apart w21 g g (0 + 1) (BK8.out.fr D21.out) (by omega)).mono ?_
              rintro r w22 ⟨rfl, f22⟩
              have B21 : Hid (Below w.heap.size w w21) := B8.out.trans (D21.out.mono B8.out.size)
              have B22 : Hid (Below w.heap.size w w22) := B21.out.trans (f22.below_of B21.out.size (fun i hi => Nat.le_trans hwg.out hi))
              clear f22
              go_wp2_with fail
              go_ret
              exact ⟨rfl, B22.out⟩
            · have h1i : ¬ (1 : Int) < (k : Int) := by omega
              have h1d : decide ((1 : Int) < (k : Int)) = false := decide_eq_false h1i
              have h1n : decide (1 < k) = false := decide_eq_false h1k
              go_wp2_with fail
              refine (AL.out _).mono ?_
              rintro r w21 ⟨rfl, b21⟩
              have D21 := Lib.hid (D18.out.trans (b21.mono D18.out.size))
              clear b21
              go_wp2_with fail
              refine (bookR_apart w21 g g (0 + 1) (BK8.out.fr D21.out) (by omega)).mono ?_
              rintro r w22 ⟨rfl, f22⟩
              have B21 : Hid (Below w.heap.size w w21) := B8.out.trans (D21.out.mono B8.out.size)
              have B22 : Hid (Below w.heap.size w w22) := B21.out.trans (f22.below_of B21.out.size (fun i hi => Nat.le_trans hwg.out hi))
              clear f22
              go_wp2_with fail
              go_ret
              exact ⟨rfl, B22.out⟩
          · have hc0 := HC2b.out hkj
            have hc0b : (c2 == 0) = false := by simpa using hc0
            have hkji : ¬ (kk : Int) = (jj : Int) := by omega
            have hkjb : ((kk : Int) == (jj : Int)) = false := by simpa using hkji
            rcases hcase with ⟨h1k, rfl⟩ | h1k
            · have h1i : (1 : Int) < (k : Int) := by omega
              have h1d : decide ((1 : Int) < (k : Int)) = true := decide_eq_true h1i
              go_wp2_with fail
              refine (AL.out _).mono ?_
              rintro r w21 ⟨rfl, b21⟩
              have D21 := Lib.hid (D18.out.trans (b21.mono D18.out.size))
              clear b21
              go_wp2_with fail
              refine (bookR_apart w21 g g (0 + 1) (BK8.out.fr D21.out) (by omega)).mono ?_
              rintro r w22 ⟨rfl, f22⟩
              have B21 : Hid (Below w.heap.size w w21) := B8.out.trans (D21.out.mono B8.out.size)
              have B22 : Hid (Below w.heap.size w w22) := B21.out.trans (f22.below_of B21.out.size (fun i hi => Nat.le_trans hwg.out hi))
              clear f22
              go_wp2_with fail
              go_ret
              exact ⟨rfl, B22.out⟩
            · have h1i : ¬ (1 : Int) < (k : Int) := by omega
              have h1d : decide ((1 : Int) < (k : Int)) = false := decide_eq_false h1i
              have h1n : decide (1 < k) = false := decide_eq_false h1k
              go_wp2_with fail
              refine (AL.out _).mono ?_
              rintro r w21 ⟨rfl, b21⟩
              have D21 := Lib.hid (D18.out.trans (b21.mono D18.out.size))
              clear b21
              go_wp2_with fail
              refine (bookR_apart w21 g g (0 + 1) (BK8.out.fr D21.out) (by omega)).mono ?_
              rintro r w22 ⟨rfl, f22⟩
              have B21 : Hid (Below w.heap.size w w21) := B8.out.trans (D21.out.mono B8.out.size)
              have B22 : Hid (Below w.heap.size w w22) := B21.out.trans (f22.below_of B21.out.size (fun i hi => Nat.le_trans hwg.out hi))
              clear f22
              go_wp2_with fail
              go_ret
              exact ⟨rfl, B22.out⟩
        exact AllReady.nil
end Go.Proofs.YtkickdmiilmkoaaGreatDoor
