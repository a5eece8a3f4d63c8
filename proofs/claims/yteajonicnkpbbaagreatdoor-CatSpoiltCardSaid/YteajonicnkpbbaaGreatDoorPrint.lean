/- Walk of policy.Print. -/
import Derived.Test.YteajonicnkpbbaaGreatDoorFills
import Derived.Test.YteajonicnkpbbaaGreatDoorPkBack
import Derived.Test.YteajonicnkpbbaaGreatDoorLift
import Derived.Test.YteajonicnkpbbaaGreatDoorShelf
import Derived.Lib.OthersKept
import Derived.Test.YteajonicnkpbbaaGreatDoorReachC
import Derived.Test.YteajonicnkpbbaaGreatDoorTk
namespace Go.Proofs.YteajonicnkpbbaaGreatDoor
set_option linter.all false
open Go.RowKit

theorem BuilderAtF_below {T e : TypeId} {B b : Nat} {p : Value} {bs : List Value} {W W' : World} (h : Lib.BuilderAtF T e B b p bs W) (hb : Below W.heap.size W W') : Lib.BuilderAtF T e B b p bs W' := by
 have hlt := h.lt
 obtain ⟨hB, v, h1, hown, hne⟩ := h
 exact ⟨hB, v, (hb.block b hlt).trans h1, hown.kept (row := none) ⟨hb.os, hb.tape, hb.output, hb.size, fun k hk _ => hb.block k hk⟩ (Classical.em _), hne⟩
def lineB1 (nm : ByteArray) : ByteArray := ⟨#[112, 111, 108, 105, 99, 121, 32]⟩ ++ nm ++ ⟨#[10]⟩
theorem lineB1_size (nm : ByteArray) : (lineB1 nm).size = 7 + nm.size + 1 := by
 unfold lineB1
 rw [ByteArray.size_append, ByteArray.size_append]
 rfl
theorem print_size {nm : ByteArray} {l : List TierV} (h : checkB nm l = true) : (lineB1 nm).size ≤ 100 ∧ l.length ≤ 5 ∧ ∀ t ∈ l, t.name.size ≤ 15 := by
 have hn : validB nm = true := by
  cases hv : validB nm
  ·unfold checkB at h
   simp [hv] at h
  ·rfl
 refine ⟨?_, (check_len h).2, fun t ht => ?_⟩
 ·unfold validB at hn
  simp only [Bool.and_eq_true, decide_eq_true_eq] at hn
  unfold lineB1
  rw [ByteArray.size_append, ByteArray.size_append]
  have e1 : (⟨#[112, 111, 108, 105, 99, 121, 32]⟩ : ByteArray).size = 7 := rfl
  have e2 : (⟨#[10]⟩ : ByteArray).size = 1 := rfl
  omega
 ·obtain ⟨i, hi⟩ := List.getElem?_of_mem ht
  have hf := check_fits h hi
  cases hv : validB t.name
  ·unfold fitsT TierV.ok at hf
   simp [hv] at hf
  ·unfold validB at hv
   simp only [Bool.and_eq_true, decide_eq_true_eq] at hv
   omega
theorem line_cells0 {nm : ByteArray} {l : List TierV} : [] ++ Lib.strCells (lineB1 nm) = Lib.byteCells (printL nm (l.take 0)) := by
 have e : (lineB1 nm).data.toList = printL nm (l.take 0) := by
  unfold lineB1 printL
  rw [ByteArray.data_append, ByteArray.data_append]
  simp [joinW, bPolicy]
 rw [List.nil_append]
 unfold Lib.strCells
 rw [e]
 rfl
theorem joinW_tail : ∀ (a : ByteArray) (r : List ByteArray), joinW (a :: r) = a.data.toList ++ Lib.joinTail [32] (r.map (·.data.toList))
 | a, [] => by simp [joinW, Lib.joinTail]
 | a, b :: r => by
  show a.data.toList ++ 32 :: joinW (b :: r) = _
  rw [joinW_tail b r]
  simp [Lib.joinTail]
theorem joinW_join (ws : List ByteArray) : Lib.join (ws.map (·.data.toList)) [32] = joinW ws := by
 cases ws with
 | nil => rfl
 | cons a r => rw [List.map_cons, Lib.join_cons, joinW_tail]
theorem line_len (x : TierV) (h : x.name.size ≤ 15) (hw : x.wf) : (joinW (tierWs x)).length ≤ 200 := by
 have e1 := itoa_len x.every hw.1.1 hw.1.2
 have e2 := itoa_len x.keep hw.2.1.1 hw.2.1.2
 have e3 := itoa_len x.shards hw.2.2.1.1 hw.2.2.1.2
 have e4 := ba_len x.name
 unfold tierWs
 simp only [joinW, List.length_append, List.length_cons, ba_len]
 have f : ∀ v, (bstr (Lib.itoa v)).size = (Lib.itoa v).length := fun v => rfl
 rw [f, f, f]
 have c1 : bTier.size = 4 := rfl
 have c2 : bEvery.size = 5 := rfl
 have c3 : bKeep.size = 4 := rfl
 have c4 : bShards.size = 6 := rfl
 omega
theorem printL_snoc (nm : ByteArray) (l : List TierV) (x : TierV) : printL nm (l ++ [x]) = printL nm l ++ (joinW (tierWs x) ++ [10]) := by
 unfold printL
 rw [List.map_append, ← List.cons_append, List.flatMap_append]
 simp
theorem print_len (nm : ByteArray) (l : List TierV) (h : ∀ t ∈ l, t.name.size ≤ 15 ∧ t.wf) : (printL nm l).length ≤ (lineB1 nm).size + l.length * 201 := by
 unfold printL
 rw [List.flatMap_cons, List.length_append]
 have h1 : (joinW [bPolicy, nm] ++ [10]).length = (lineB1 nm).size := by
  rw [lineB1_size]
  simp only [joinW, List.length_append, List.length_cons, ba_len, List.length_nil]
  have c1 : bPolicy.size = 6 := rfl
  omega
 rw [h1]
 have : ∀ l : List TierV, (∀ t ∈ l, t.name.size ≤ 15 ∧ t.wf) → ((l.map tierWs).flatMap fun ws => joinW ws ++ [10]).length ≤ l.length * 201 := by
  intro l
  induction l with
  | nil => intro _; simp
  | cons t l ih =>
   intro h
   have a := line_len t (h t (by simp)).1 (h t (by simp)).2
   have b := ih (fun u hu => h u (List.mem_cons_of_mem _ hu))
   rw [List.map_cons, List.flatMap_cons, List.length_append, List.length_append, List.length_cons]
   simp only [List.length_cons, List.length_nil]
   omega
 have := this l h
 omega
theorem line_cells {nm : ByteArray} {l : List TierV} {k : Nat} {x : TierV} {J : ByteArray} (hu : l[k]? = some x) (hJ : J.data.toList = joinW (tierWs x)) : Lib.byteCells (printL nm (l.take (k + 1))) = Lib.byteCells (printL nm (l.take k)) ++ Lib.strCells (J ++ ⟨#[10]⟩) := by
 have e : (J ++ ⟨#[10]⟩ : ByteArray).data.toList = joinW (tierWs x) ++ [10] := by
  rw [ByteArray.data_append, Array.toList_append, hJ]
 rw [take_snoc hu, printL_snoc]
 unfold Lib.byteCells Lib.strCells
 rw [List.map_append, e]
set_option maxRecDepth 100000 in
set_option maxHeartbeats 8000000 in
theorem print_any (nm : ByteArray) (hnm : nm.size ≤ maxLen) (l : List TierV) (A : Option Addr) (n c : Nat) (w : World) (hr : Rd w 4 A n (tcells l)) (hnc : n ≤ c) (hwf : ∀ t ∈ l, t.wf) (hti : Tab w) :
  Calls Tryz.prog 39 #[polV nm A n c] w fun r w' => r = .returned (.tuple #[.string (if checkB nm l = true then printV nm l else ByteArray.empty), .int .i64 (errOf (checkB nm l))]) ∧ Below w.heap.size w w' := by
 obtain ⟨W0, hW0⟩ : ∃ W0, W0 = w.alloc (.cells #[.string nm, .slice A n c] 25) := ⟨_, rfl⟩
 have F0 : Hid (Fr (fun _ => False) w W0) := by show Fr _ _ _; rw [hW0]; exact Fr.none_alloc _ _
 have X0 : Hid (Blk W0 w.heap.size 25 #[.string nm, .slice A n c]) := by show Blk _ _ _ _; rw [hW0]; exact Blk.new _ _ _
 have HK := Lib.hid (check_any nm hnm l A n c W0 (hr.fr0 F0.out) hnc (fun t ht => (hwf t ht).2.2.2))
 have HC : Hid (∀ W, Fr (fun _ => False) W0 W → W.cell? ⟨w.heap.size, 0, none⟩ = some (.string nm) ∧ W.cell? ⟨w.heap.size, 1, none⟩ = some (.slice A n c)) := fun W f => by
  have b := X0.out.fr f (fun h => h)
  exact ⟨b.cell 0, b.cell 1⟩
 have HD : Hid (∀ W, Fr (fun _ => False) W0 W → ∀ v : Int, i64 v → Calls Tryz.prog 114 #[.int .i64 v] W fun r w' => r = .returned (.string (bstr (Lib.itoa v))) ∧ Below W.heap.size W w') := fun W f v hv => by
  have f2 : Fr (fun _ => False) w W := F0.out.trans f (fun _ h => h.elim)
  exact digits_any v hv.1 hv.2 W (hti.below (f2.below (fun _ h => h.elim)))
 have HR := Lib.hid (hr.fr0 F0.out)
 have HWF := Lib.hid hwf
 have HW0 := Lib.hid hW0
 have Hlen := Lib.hid hr.tiers_len
 unfold polV errOf at HK
 unfold polV errOf
 clear hr hW0 hti hnm hnc hwf
 obtain ⟨x0, x1⟩ := HC.out W0 (Fr.refl _ _)
 cases hc : checkB nm l
 ·rw [hc] at HK
  go_enter Tryz.func39, Tryz.ntmps39
  go_upto_region 1 with fail
  rw [← HW0.out]
  go_wp2_with fail
  refine HK.out.mono ?_
  rintro r w2 ⟨⟨k, rfl⟩, b2⟩
  have B2 := Lib.hid b2
  clear b2 x0 x1
  go_wp2_with fail
  go_ret2
  exact ⟨rfl, (F0.out.trans (Fr.b0 B2.out) (fun _ h => h.elim)).below (fun _ h => h.elim)⟩
 ·rw [hc] at HK
  have Hsz := Lib.hid (print_size hc)
  have Hc := Lib.hid hc
  have hn5 : n ≤ 5 := by have := Hsz.out.2.1; rw [Hlen.out] at this; exact this
  clear hc
  go_enter Tryz.func39, Tryz.ntmps39
  go_upto_region 1 with fail
  rw [← HW0.out]
  go_wp2_with fail
  refine HK.out.mono ?_
  rintro r w2 ⟨⟨k, rfl⟩, b2⟩
  have F2 := Lib.hid (Fr.b0 b2)
  clear b2 x0 x1
  go_upto_region 5 with fail
  obtain ⟨W3, hW3⟩ : ∃ W3, W3 = w2.alloc (.cells #[.pointer none, .slice none 0 0] 161) := ⟨_, rfl⟩
  rw [← hW3]
  have B3 : Hid (Below w2.heap.size w2 W3) := by show Below _ _ _; rw [hW3]; exact (Fr.none_alloc _ _).below (fun _ h => h.elim)
  have hB3 : Lib.IsBuilderF 161 5 w2.heap.size w2.heap.size [] W3 := by rw [hW3]; exact Lib.IsBuilderF.of (Lib.fresh_isBuilder _ _ _)
  have HW := Lib.hid (build_write w2.heap.size w2.heap.size [] (lineB1 nm) W3 hB3 (by have := Hsz.out.1; simp; omega) B3.out.size)
  obtain ⟨x0, x1⟩ := HC.out W3 (F2.out.trans (Fr.b0 B3.out) (fun _ h => h.elim))
  have s1 : ¬ (7 + nm.size > 9223372036854775807) := by have := Hsz.out.1; have e := lineB1_size nm; omega
  have s2 : ¬ (7 + nm.size + 1 > 9223372036854775807) := by have := Hsz.out.1; have e := lineB1_size nm; omega
  clear hW3 hB3
  go_wp2_with fail
  refine (show Calls _ _ _ _ _ from HW.out).mono ?_
  rintro r w4 ⟨rfl, a4, b4, _⟩
  have A4 : Hid (Lib.BuilderAtF 161 5 w2.heap.size w2.heap.size (.pointer (some ⟨w2.heap.size, 0, none⟩)) (Lib.byteCells (printL nm (l.take 0))) w4) := by show Lib.BuilderAtF _ _ _ _ _ _ _; rw [← line_cells0]; exact a4
  have B4 : Hid (Below w2.heap.size w2 w4) := B3.out.trans b4
  obtain ⟨y0, y1⟩ := HC.out w4 (F2.out.trans (Fr.b0 B4.out) (fun _ h => h.elim))
  clear a4 b4 x0 x1 s1 s2 HW
  go_wp2_with fail
  clear y0 y1
  go_loopw [26] (fun i wr => ∃ k : Nat, k ≤ n ∧ i = .int .i64 k ∧ Lib.BuilderAtF 161 5 w2.heap.size w2.heap.size (.pointer (some ⟨w2.heap.size, 0, none⟩)) (Lib.byteCells (printL nm (l.take k))) wr ∧ Below w2.heap.size w2 wr) (fun i _ => n - (intOf i).toNat)
  case atStart => exact ⟨0, Nat.zero_le _, rfl, A4.out, B4.out⟩
  case round =>
   obtain ⟨k, hk, rfl, ha, hb⟩ := hrel
   have Fw : Hid (Fr (fun _ => False) W0 wr) := F2.out.trans (Fr.b0 hb) (fun _ h => h.elim)
   have Ha := Lib.hid ha
   have Hb := Lib.hid hb
   clear A4 B4
   by_cases hlt : k < n
   ·obtain ⟨ad, x, rfl, hu, d0, d1, d2, d3⟩ := (HR.out.fr0 Fw.out).tier hlt
    have Hu := Lib.hid hu
    have Hx := Lib.hid (HWF.out x (mem_of_get hu))
    clear ha hb hu
    go_upto_region 9 with fail
    obtain ⟨W1, hW1⟩ : ∃ W1, W1 = wr.alloc (.cells #[.string x.name, .int .i64 x.every, .int .i64 x.keep, .int .i64 x.shards] 99) := ⟨_, rfl⟩
    rw [← hW1]
    have Xt : Hid (Blk W1 wr.heap.size 99 #[.string x.name, .int .i64 x.every, .int .i64 x.keep, .int .i64 x.shards]) := by show Blk _ _ _ _; rw [hW1]; exact Blk.new _ _ _
    have HCt : Hid (∀ W, Fr (fun _ => False) W1 W → W.cell? ⟨wr.heap.size, 0, none⟩ = some (.string x.name) ∧ W.cell? ⟨wr.heap.size, 1, none⟩ = some (.int .i64 x.every) ∧ W.cell? ⟨wr.heap.size, 2, none⟩ = some (.int .i64 x.keep) ∧ W.cell? ⟨wr.heap.size, 3, none⟩ = some (.int .i64 x.shards)) := fun W f => by
     have b := Xt.out.fr f (fun h => h)
     exact ⟨b.cell 0, b.cell 1, b.cell 2, b.cell 3⟩
    have fw1 : Fr (fun _ => False) wr W1 := by rw [hW1]; exact Fr.none_alloc _ _
    have Fw1 := Lib.hid fw1
    have F1 : Hid (Fr (fun _ => False) W0 W1) := Fw.out.trans fw1 (fun _ h => h.elim)
    clear hW1 d0 d1 d2 d3 fw1
    refine wp_region_held_drew (S := fun W => Fr (fun _ => False) W1 W) (by kernel_rfl) ((Fr.refl _ W1).drew) (fun hHeld => ?_)
    refine tq 8 [0,1,2,3,5,6,8,9] ?_
    iterate 7 refine sf HCt.out ?_
    refine sf HCt.out ?_
    try simp only [Act.put, sA, sB, sC]
    refine sz ?_
    try simp only [Act.put, sA, sB, sC]
    refine rl 4 rfl (fun K hK => ?_)
    go_simp
    go_wp2_with (first | (go_at_call 114; refine (HD.out _ (F1.out.trans hHeld (fun _ h => h.elim)) x.every Hx.out.1).mono ?_; rintro r wa ⟨rfl, ba⟩))
    refine hK.out _ _ (hHeld.trans (Fr.b0 ba) (fun _ h => h.elim)) (fun hHeld => ?_)
    clear hK K
    try simp only [Act.put, sA, sB, sC]
    refine rl 7 rfl (fun K hK => ?_)
    go_simp
    go_wp2_with (first | (go_at_call 114; refine (HD.out _ (F1.out.trans hHeld (fun _ h => h.elim)) x.keep Hx.out.2.1).mono ?_; rintro r wa ⟨rfl, ba⟩))
    refine hK.out _ _ (hHeld.trans (Fr.b0 ba) (fun _ h => h.elim)) (fun hHeld => ?_)
    clear hK K
    try simp only [Act.put, sA, sB, sC]
    refine rl 10 rfl (fun K hK => ?_)
    go_simp
    go_wp2_with (first | (go_at_call 114; refine (HD.out _ (F1.out.trans hHeld (fun _ h => h.elim)) x.shards Hx.out.2.2.1).mono ?_; rintro r wa ⟨rfl, ba⟩))
    refine hK.out _ _ (hHeld.trans (Fr.b0 ba) (fun _ h => h.elim)) (fun hHeld => ?_)
    clear hK K
    try simp only [Act.put, sA, sB, sC]
    refine rl 11 rfl (fun K hK => ?_)
    go_simp
    refine hK.out _ _ (hHeld.alloc _) (fun hHeld => ?_)
    clear hK K
    refine tl 12 ?v9 rfl ?q9 ?r9
    case q9 => intro W hSw; (try obtain ⟨z0, z1, z2, z3⟩ := HCt.out W hSw); go_simp; try rfl
    try simp only [Act.put, sA, sB, sC]
    refine wpAnyH_done (by kernel_rfl) ?_ _
    obtain ⟨W5, hW5⟩ : ∃ W5, W5 = wa.alloc (.cells #[.string { data := #[116, 105, 101, 114] }, .string x.name, .string { data := #[101, 118, 101, 114, 121] }, .string (bstr (Lib.itoa x.every)), .string { data := #[107, 101, 101, 112] }, .string (bstr (Lib.itoa x.keep)), .string { data := #[115, 104, 97, 114, 100, 115] }, .string (bstr (Lib.itoa x.shards))] 9) := ⟨_, rfl⟩
    have F5 : Hid (Fr (fun _ => False) wr W5) := by show Fr _ _ _; rw [hW5]; exact Fw1.out.trans hHeld (fun _ h => h.elim)
    have X5 : Blk W5 wa.heap.size 9 #[.string bTier, .string x.name, .string bEvery, .string (bstr (Lib.itoa x.every)), .string bKeep, .string (bstr (Lib.itoa x.keep)), .string bShards, .string (bstr (Lib.itoa x.shards))] := by rw [hW5]; exact Blk.new _ _ _
    have HL := Lib.hid (line_len x (Hsz.out.2.2 x (mem_of_get Hu.out)) Hx.out)
    obtain ⟨J, hJ⟩ : ∃ J, J = bstr (joinW (tierWs x)) := ⟨_, rfl⟩
    have HJ : Hid (Calls Tryz.prog 115 #[.slice (some ⟨wa.heap.size, 0, none⟩) 8 8, .string ⟨#[32]⟩] W5 fun e w' => e = .returned (.string J) ∧ Below W5.heap.size W5 w') := by
     have := Tryz.strings_Join wa.heap.size 0 8 (tierWs x) ⟨#[32]⟩ W5 (fun j y hy => ?_) X5.lt (by show 8 ≤ _; omega) (Nat.le_refl 8) (by rw [show (⟨#[32]⟩ : ByteArray).data.toList = [32] from rfl, joinW_join]; have := HL.out; omega)
     ·rw [show (⟨#[32]⟩ : ByteArray).data.toList = [32] from rfl, joinW_join] at this
      rw [hJ]
      exact this
     ·rw [Nat.zero_add, X5.cell j]
      match j, hy with
      | 0, hy | 1, hy | 2, hy | 3, hy | 4, hy | 5, hy | 6, hy | 7, hy => cases hy; rfl
      | j + 8, hy => simp [tierWs] at hy
    have HJs : Hid (J.size ≤ 200) := by show _ ≤ _; rw [hJ]; exact HL.out
    have HJd : Hid (J.data.toList = joinW (tierWs x)) := by show _ = _; rw [hJ]; rfl
    have HR5 : Hid (Below wr.heap.size wr W5) := F5.out.below (fun _ h => h.elim)
    have s1 : ¬ (J.size + 1 > 9223372036854775807) := by have := HJs.out; omega
    clear hJ X5 hHeld HCt Xt Fw1
    rw [← hW5]
    clear hW5
    go_wp2_with fail
    refine (show Calls _ _ _ _ _ from HJ.out).mono ?_
    rintro r w6 ⟨rfl, b6⟩
    have R6 : Hid (Below wr.heap.size wr w6) := ((Fr.b0 HR5.out).trans (Fr.b0 b6) (fun _ h => h.elim)).below (fun _ h => h.elim)
    have A6 : Lib.BuilderAtF 161 5 w2.heap.size w2.heap.size (.pointer (some ⟨w2.heap.size, 0, none⟩)) (Lib.byteCells (printL nm (l.take k))) w6 := BuilderAtF_below Ha.out R6.out
    have HW := Lib.hid (build_write w2.heap.size w2.heap.size _ (J ++ ⟨#[10]⟩) w6 (.inr A6) (by
     have h1 := print_len nm (l.take k) (fun t ht => ⟨Hsz.out.2.2 t (List.mem_of_mem_take ht), HWF.out t (List.mem_of_mem_take ht)⟩)
     have h2 := Hsz.out.1
     have h3 := lineB1_size nm
     have h4 : (l.take k).length ≤ 5 := by rw [List.length_take]; have := Hsz.out.2.1; omega
     have h5 := HJs.out
     rw [ByteArray.size_append, show (⟨#[10]⟩ : ByteArray).size = 1 from rfl]
     unfold Lib.byteCells
     rw [List.length_map]
     omega) (Nat.le_trans Hb.out.size R6.out.size))
    clear b6 A6
    go_wp2_with fail
    refine (show Calls _ _ _ _ _ from HW.out).mono ?_
    rintro r w7 ⟨rfl, a7, b7, _⟩
    have A7 : Hid (Lib.BuilderAtF 161 5 w2.heap.size w2.heap.size (.pointer (some ⟨w2.heap.size, 0, none⟩)) (Lib.byteCells (printL nm (l.take (k + 1)))) w7) := by show Lib.BuilderAtF _ _ _ _ _ _ _; rw [line_cells Hu.out HJd.out]; exact a7
    have B7 : Hid (Below w2.heap.size w2 w7) := Hb.out.trans (((Fr.b0 R6.out).below_of (B := w2.heap.size) Hb.out.size (fun _ h => h.elim)).trans b7)
    clear a7 b7 s1 HW
    go_wp2_with fail
    go_roundw
    case rel => exact ⟨k + 1, by omega, by go_num, A7.out, B7.out⟩
    case measure => simp [intOf]; omega
   ·obtain rfl : k = n := by omega
    have hl : l.take k = l := List.take_of_length_le (by rw [Hlen.out]; exact Nat.le_refl _)
    rw [hl] at ha
    have HS := Lib.hid (Tryz.Builder_String_f w2.heap.size w2.heap.size (printL nm l) wr (.inr ha) (by unfold printL; simp [joinW]))
    clear ha hb hl
    go_wp2_with fail
    refine (show Calls _ _ _ _ _ from HS.out).mono ?_
    rintro r w8 ⟨rfl, _, b8⟩
    have B8 : Hid (Fr (fun _ => False) w w8) := (F0.out.trans F2.out (fun _ h => h.elim)).trans (Fr.b0 (Hb.out.trans b8)) (fun _ h => h.elim)
    clear b8
    go_wp2_with fail
    go_ret2
    exact ⟨rfl, B8.out.below (fun _ h => h.elim)⟩
end Go.Proofs.YteajonicnkpbbaaGreatDoor
namespace Go.Proofs.YteajonicnkpbbaaGreatDoor
set_option linter.all false
open Go.RowKit

def PS (w W : World) (g : Nat) (K : Nat → Prop) (l : List UInt8) : Prop :=
 ∃ F, Pk W g F 0 l ∧ (∀ k, F k → ¬ K k) ∧ Fr (fun k => ¬ K k) w W ∧ ∀ k, K k → k < W.heap.size
section
variable {w W W' : World} {g : Nat} {K : Nat → Prop} {l : List UInt8}
theorem PS.fr (h : PS w W g K l) : Fr (fun k => ¬ K k) w W := by
 obtain ⟨F, _, _, f, _⟩ := h
 exact f
theorem PS.new (hf : Fr (fun k => ¬ K k) w W) (hK : ∀ k, K k → k < W.heap.size) : PS w (W.alloc (.cells #[.int .i64 0, .slice none 0 0] 106)) W.heap.size K [] := by
 have p := Pk.new W
 exact ⟨_, p.1, fun k hk hk2 => by have := p.2 k hk; have := hK k hk2; omega, hf.alloc _, fun k hk => by have := hK k hk; have := (Fr.none_alloc W (.cells #[.int .i64 0, .slice none 0 0] 106)).size; omega⟩
theorem PS.fr0 (h : PS w W g K l) (f : Fr (fun _ => False) W W') : PS w W' g K l := by
 obtain ⟨F, hp, h1, h2, h3⟩ := h
 exact ⟨F, hp.fr f (fun _ _ h => h), h1, h2.trans f (fun _ h => h.elim), fun k hk => Nat.lt_of_lt_of_le (h3 k hk) f.size⟩
theorem PS.base (h : PS w W g K l) (o : Obj) : PS (W.alloc o) (W.alloc o) g (fun k => K k ∨ k = W.heap.size) l := by
 obtain ⟨F, hp, h1, h2, h3⟩ := h
 have hs : (W.alloc o).heap.size = W.heap.size + 1 := by show (W.heap.push o).size = _; rw [Array.size_push]
 refine ⟨F, hp.fr (Fr.none_alloc _ _) (fun _ _ h => h), fun k hk hk2 => ?_, Fr.refl _ _, fun k hk => ?_⟩
 ·rcases hk2 with hk2 | hk2
  ·exact h1 k hk hk2
  ·have := hp.lt k hk; omega
 ·rcases hk with hk | hk
  ·have := h3 k hk; omega
  ·omega
theorem PS.back {w0 : World} {K0 : Nat → Prop} (h : PS w W g K l) (f : Fr (fun k => ¬ K0 k) w0 w) (hK : ∀ k, K0 k → K k) (h0 : ∀ k, K0 k → k < w.heap.size) : PS w0 W g K0 l := by
 obtain ⟨F, hp, h1, h2, h3⟩ := h
 exact ⟨F, hp, fun k hk hk2 => h1 k hk (hK k hk2), f.trans h2 (fun k hk => .inl (fun h => hk (hK k h))), fun k hk => h3 k (hK k hk)⟩
theorem PS.mv {F F' : Nat → Prop} {l' : List UInt8} (h1 : ∀ k, F k → ¬ K k) (h2 : Fr (fun k => ¬ K k) w W) (h3 : ∀ k, K k → k < W.heap.size) (hp : Pk W' g F' 0 l') (m : Mv F F' W W') : PS w W' g K l' :=
 ⟨F', hp, fun k hk hk2 => by
  rcases m.sub k hk with h | h
  ·exact h1 k h hk2
  ·have := h3 k hk2; omega, h2.trans m.fr (fun k hk => .inl (h1 k hk)), fun k hk => Nat.lt_of_lt_of_le (h3 k hk) m.size⟩
def smB (k : Nat) (vs : List Int) : List UInt8 := vs.flatMap fun v => le v.toNat k
theorem smallGo_all {size : Int} : ∀ {vs : List Int} {l : List UInt8}, (∀ v ∈ vs, fitsB size v = true) → smallGo size l vs = (0, l ++ smB size.toNat vs)
 | [], l, _ => by simp [smallGo, smB]
 | v :: vs, l, h => by
  simp only [smallGo]
  rw [if_pos (h v (by simp)), smallGo_all (fun x hx => h x (List.mem_cons_of_mem _ hx))]
  simp [smB]
theorem pSmall_all {size : Int} {vs : List Int} {l : List UInt8} (h0 : fitsB size 0 = true) (h : ∀ v ∈ vs, fitsB size v = true) : pSmall size 0 l vs = (0, l ++ smB size.toNat vs) := by
 unfold pSmall
 rw [if_pos rfl, if_pos h0, smallGo_all h]
theorem ps_words (h : PS w W g K l) (vs : List Int) (n : Nat) (hn : vs.length = n) (hv : ∀ x ∈ vs, 0 ≤ x) (hl : l.length + 8 * n ≤ 1099511627776) :
  Calls Tryz.prog 41 #[.pointer (some ⟨g, 0, none⟩), .slice (some ⟨W.heap.size, 0, none⟩) n n] (W.alloc (.cells (vs.map (Value.int .u64)).toArray 22)) fun r w' => r = .returned (.tuple #[]) ∧ PS w w' g K (l ++ smB 8 vs) := by
 have h0 := h.fr0 (Fr.none_alloc W (.cells (vs.map (Value.int .u64)).toArray 22))
 obtain ⟨F, hp, h1, h2, h3⟩ := h
 obtain ⟨_, _, _, k2, k3⟩ := h0
 refine (words_any g F 0 l vs _ n n _ (hp.fr (Fr.none_alloc _ _) (fun _ _ h => h)) (Rd.new _ _ _ _ (by rw [List.length_map]; exact hn)) (adF_new hp.lt) hv hl).mono ?_
 rintro r w' ⟨rfl, F', hp', m⟩
 refine ⟨rfl, PS.mv h1 k2 k3 ?_ m⟩
 simpa [pW, smB] using hp'
theorem ps_ints (h : PS w W g K l) (vs : List Int) (n : Nat) (hn : vs.length = n) (hl : l.length + 8 * n ≤ 1099511627776) :
  Calls Tryz.prog 42 #[.pointer (some ⟨g, 0, none⟩), .slice (some ⟨W.heap.size, 0, none⟩) n n] (W.alloc (.cells (vs.map (Value.int .i64)).toArray 3)) fun r w' => r = .returned (.tuple #[]) ∧ PS w w' g K (l ++ le8 vs) := by
 have h0 := h.fr0 (Fr.none_alloc W (.cells (vs.map (Value.int .i64)).toArray 3))
 obtain ⟨F, hp, h1, h2, h3⟩ := h
 obtain ⟨_, _, _, k2, k3⟩ := h0
 refine (ints_any g F 0 l vs _ n n _ (hp.fr (Fr.none_alloc _ _) (fun _ _ h => h)) (Rd.new _ _ _ _ (by rw [List.length_map]; exact hn)) (adF_new hp.lt) hl).mono ?_
 rintro r w' ⟨rfl, F', hp', m⟩
 refine ⟨rfl, PS.mv h1 k2 k3 ?_ m⟩
 simpa [pW] using hp'
theorem ps_small (h : PS w W g K l) (size : Int) (vs : List Int) (n : Nat) (hn : vs.length = n) (hs : fitsB size 0 = true) (hv : ∀ v ∈ vs, fitsB size v = true) (hl : l.length + 8 * n ≤ 1099511627776) :
  Calls Tryz.prog 44 #[.pointer (some ⟨g, 0, none⟩), .int .i64 size, .slice (some ⟨W.heap.size, 0, none⟩) n n] (W.alloc (.cells (vs.map (Value.int .i64)).toArray 3)) fun r w' => r = .returned (.tuple #[]) ∧ PS w w' g K (l ++ smB size.toNat vs) := by
 have h0 := h.fr0 (Fr.none_alloc W (.cells (vs.map (Value.int .i64)).toArray 3))
 obtain ⟨F, hp, h1, h2, h3⟩ := h
 obtain ⟨_, _, _, k2, k3⟩ := h0
 refine (small_any g F 0 size l vs _ n n _ (hp.fr (Fr.none_alloc _ _) (fun _ _ h => h)) (Rd.new _ _ _ _ (by rw [List.length_map]; exact hn)) (adF_new hp.lt) hl).mono ?_
 rintro r w' ⟨rfl, F', hp', m⟩
 rw [pSmall_all hs hv] at hp'
 exact ⟨rfl, PS.mv h1 k2 k3 hp' m⟩
theorem ps_ints_at (h : PS w W g K l) (vs : List Int) (A : Option Addr) (n c : Nat) (hr : Rd W 1 A n (vs.map (Value.int .i64))) (hA : ∀ k, adF A n k → K k) (hl : l.length + 8 * n ≤ 1099511627776) :
  Calls Tryz.prog 42 #[.pointer (some ⟨g, 0, none⟩), .slice A n c] W fun r w' => r = .returned (.tuple #[]) ∧ PS w w' g K (l ++ le8 vs) := by
 obtain ⟨F, hp, h1, h2, h3⟩ := h
 refine (ints_any g F 0 l vs A n c W hp hr (fun k hk hF => h1 k hF (hA k hk)) hl).mono ?_
 rintro r w' ⟨rfl, F', hp', m⟩
 refine ⟨rfl, PS.mv h1 h2 h3 ?_ m⟩
 simpa [pW] using hp'
theorem ps_small_at (h : PS w W g K l) (size : Int) (vs : List Int) (A : Option Addr) (n c : Nat) (hr : Rd W 1 A n (vs.map (Value.int .i64))) (hA : ∀ k, adF A n k → K k) (hs : fitsB size 0 = true) (hv : ∀ v ∈ vs, fitsB size v = true) (hl : l.length + 8 * n ≤ 1099511627776) :
  Calls Tryz.prog 44 #[.pointer (some ⟨g, 0, none⟩), .int .i64 size, .slice A n c] W fun r w' => r = .returned (.tuple #[]) ∧ PS w w' g K (l ++ smB size.toNat vs) := by
 obtain ⟨F, hp, h1, h2, h3⟩ := h
 refine (small_any g F 0 size l vs A n c W hp hr (fun k hk hF => h1 k hF (hA k hk)) hl).mono ?_
 rintro r w' ⟨rfl, F', hp', m⟩
 rw [pSmall_all hs hv] at hp'
 exact ⟨rfl, PS.mv h1 h2 h3 hp' m⟩
theorem ps_text (h : PS w W g K l) (s : ByteArray) (hl : l.length ≤ 549755813888) (hs : s.size ≤ 60000) :
  Calls Tryz.prog 43 #[.pointer (some ⟨g, 0, none⟩), .string s] W fun r w' => r = .returned (.tuple #[]) ∧ PS w w' g K (l ++ textB s) := by
 obtain ⟨F, hp, h1, h2, h3⟩ := h
 refine (text_any g F 0 l s W hp hl (by omega)).mono ?_
 rintro r w' ⟨rfl, F', hp', m⟩
 have e : pText 0 l s = (0, l ++ textB s) := by unfold pText; rw [if_pos rfl, if_neg (by omega)]
 rw [e] at hp'
 exact ⟨rfl, PS.mv h1 h2 h3 hp' m⟩
theorem ps_len (h : PS w W g K l) (hl : l.length ≤ 1099511627776) : Calls Tryz.prog 45 #[.pointer (some ⟨g, 0, none⟩)] W fun r w' => r = .returned (.int .i64 l.length) ∧ W = w' := by
 obtain ⟨F, hp, _⟩ := h
 exact len_any g F 0 l W hp hl
theorem ps_done (h : PS w W g K l) : Calls Tryz.prog 46 #[.pointer (some ⟨g, 0, none⟩)] W fun r w' => r = .returned (.tuple #[.string (bstr l), .int .i64 0]) ∧ W = w' := by
 obtain ⟨F, hp, _⟩ := h
 exact done_ok g F l W hp
end
def entH (x : EntV) : List UInt8 := smB 8 [x.id] ++ (smB 1 [x.tier, x.shard] ++ (smB 2 [(x.bl.length : Int)] ++ smB 2 x.bl))
def toText (c : CatV) : ByteArray := if pendB c = true then printV c.nm2 c.pl2 else ByteArray.empty
def headH (c : CatV) : List UInt8 := smB 8 [c.gen, c.id] ++ le8 [c.now] ++ textB (printV c.nm c.pl) ++ le8 c.fl ++ textB (toText c) ++ smB 1 c.src ++ le8 [c.bound, c.done] ++ smB 2 [(c.es.length : Int)]
def putL (c : CatV) : List UInt8 := headH c ++ c.es.flatMap entH
def putV (c : CatV) : ByteArray × Int := if catB c = true then (if 40000 < (putL c).length then (ByteArray.empty, 2) else (bstr (putL c), 0)) else (ByteArray.empty, 1)
end Go.Proofs.YteajonicnkpbbaaGreatDoor
namespace Go.Proofs.YteajonicnkpbbaaGreatDoor
set_option linter.all false
open Go.RowKit

structure RS where
 e : Int
 b : List UInt8
def Good {α : Type} (R : RS → RS × α) : Prop := ∀ s, (R s).1.e = 0 → s.e = 0 ∧ ∀ t, R ⟨0, s.b ++ t⟩ = (⟨0, (R s).1.b ++ t⟩, (R s).2)
def Enc {α : Type} (R : RS → RS × α) (l : List UInt8) (v : α) : Prop := ∀ t, R ⟨0, l ++ t⟩ = (⟨0, t⟩, v)
def rbind {α β : Type} (R : RS → RS × α) (f : α → RS → RS × β) : RS → RS × β := fun s => f (R s).2 (R s).1
def rret {α : Type} (a : α) : RS → RS × α := fun s => (s, a)
theorem Good.ret {α : Type} (a : α) : Good (rret a) := fun _ h => ⟨h, fun _ => rfl⟩
theorem Good.bind {α β : Type} {R : RS → RS × α} {f : α → RS → RS × β} (h : Good R) (k : ∀ a, Good (f a)) : Good (rbind R f) := by
 intro s hs
 obtain ⟨h1, h2⟩ := k (R s).2 (R s).1 hs
 obtain ⟨h3, h4⟩ := h s h1
 refine ⟨h3, fun t => ?_⟩
 show f (R ⟨0, s.b ++ t⟩).2 (R ⟨0, s.b ++ t⟩).1 = _
 rw [h4 t]
 exact h2 t
theorem Enc.ret {α : Type} (a : α) : Enc (rret a) [] a := fun _ => rfl
theorem Enc.bind {α β : Type} {R : RS → RS × α} {f : α → RS → RS × β} {l m : List UInt8} {a : α} {b : β} (h : Enc R l a) (k : Enc (f a) m b) : Enc (rbind R f) (l ++ m) b := by
 intro t
 show f (R ⟨0, l ++ m ++ t⟩).2 (R ⟨0, l ++ m ++ t⟩).1 = _
 rw [List.append_assoc, h (m ++ t)]
 exact k t
def rTake (n : Nat) (s : RS) : RS × List UInt8 := (⟨(uTake s.e s.b n).1, (uTake s.e s.b n).2.1⟩, (uTake s.e s.b n).2.2)
theorem Good.take (n : Nat) : Good (rTake n) := by
 rintro ⟨e, b⟩ hs
 unfold rTake uTake at hs ⊢
 dsimp only at hs ⊢
 by_cases h0 : e = 0
 ·subst h0
  rw [if_pos rfl] at hs
  by_cases h1 : b.length < n
  ·rw [if_pos h1] at hs; cases hs
  ·refine ⟨rfl, fun t => ?_⟩
   have h2 : ¬ (b ++ t).length < n := by rw [List.length_append]; omega
   simp only [if_pos, if_neg h1, if_neg h2]
   rw [List.drop_append_of_le_length (by omega), List.take_append_of_le_length (by omega)]
 ·rw [if_neg h0] at hs
  exact absurd hs h0
theorem Enc.take (l : List UInt8) : Enc (rTake l.length) l l := fun t => by
 unfold rTake
 rw [uTake_app rfl]
def rWord : RS → RS × Int := rbind (rTake 8) fun l => rret (ofLe l : Int)
def rInt : RS → RS × Int := rbind (rTake 8) fun l => rret (sgn (ofLe l))
def rSmall (k : Int) (s : RS) : RS × Int := (⟨(uSmall k s.e s.b).1, (uSmall k s.e s.b).2.1⟩, ((uSmall k s.e s.b).2.2 : Int))
def rText (s : RS) : RS × ByteArray := (⟨(uText s.e s.b).1, (uText s.e s.b).2.1⟩, bstr (uText s.e s.b).2.2)
theorem Good.word : Good rWord := Good.bind (Good.take 8) (fun _ => Good.ret _)
theorem Good.int : Good rInt := Good.bind (Good.take 8) (fun _ => Good.ret _)
theorem Good.small {k : Int} (hk : fitsB k 0 = true) : Good (rSmall k) := by
 rintro ⟨e, b⟩ hs
 have hg := Good.take k.toNat ⟨e, b⟩
 unfold rTake at hg
 unfold rSmall uSmall at hs ⊢
 dsimp only at hs hg ⊢
 by_cases h0 : e = 0
 ·subst h0
  rw [if_pos rfl, if_pos hk] at hs
  obtain ⟨_, h2⟩ := hg hs
  refine ⟨rfl, fun t => ?_⟩
  have := h2 t
  simp only [Prod.mk.injEq, RS.mk.injEq] at this
  simp only [if_pos, if_pos hk, this.1.1, this.1.2, this.2]
 ·rw [if_neg h0] at hs
  exact absurd hs h0
theorem Good.text : Good rText := by
 rintro ⟨e, b⟩ hs
 unfold rText uText at hs ⊢
 dsimp only at hs ⊢
 by_cases h0 : e = 0
 ·subst h0
  rw [if_pos rfl] at hs
  by_cases h1 : b.length < 2
  ·rw [if_pos h1] at hs; cases hs
  ·rw [if_neg h1] at hs
   by_cases h2 : b.length - 2 < ofLe (b.take 2)
   ·rw [if_pos h2] at hs; cases hs
   ·refine ⟨rfl, fun t => ?_⟩
    have e1 : (b ++ t).take 2 = b.take 2 := List.take_append_of_le_length (by omega)
    have h3 : ¬ (b ++ t).length < 2 := by rw [List.length_append]; omega
    have h4 : ¬ (b ++ t).length - 2 < ofLe (b.take 2) := by rw [List.length_append]; omega
    simp only [if_pos, if_neg h1, if_neg h2, if_neg h3, e1, if_neg h4]
    rw [List.drop_append_of_le_length (by omega), List.drop_append_of_le_length (by omega), List.take_append_of_le_length (by rw [List.length_drop]; omega)]
 ·rw [if_neg h0] at hs
  exact absurd hs h0
theorem Enc.word {x : Int} (h : 0 ≤ x ∧ x < 18446744073709551616) : Enc rWord (le x.toNat 8) x := by
 have h1 := Enc.take (le x.toNat 8)
 rw [le_length] at h1
 have h2 : Enc (rret (ofLe (le x.toNat 8) : Int)) [] x := by
  rw [ofLe_le8 _ (by omega), Int.toNat_of_nonneg h.1]
  exact Enc.ret x
 have := Enc.bind (f := fun l => rret (ofLe l : Int)) h1 h2
 rwa [List.append_nil] at this
theorem Enc.int {x : Int} (h : in64 x) : Enc rInt (le (u64 x) 8) x := by
 have h1 := Enc.take (le (u64 x) 8)
 rw [le_length] at h1
 have h2 : Enc (rret (sgn (ofLe (le (u64 x) 8)))) [] x := by
  rw [ofLe_le8 _ (u64_lt x), sgn_u64 h.1 h.2]
  exact Enc.ret x
 have := Enc.bind (f := fun l => rret (sgn (ofLe l))) h1 h2
 rwa [List.append_nil] at this
theorem Enc.small {k v : Int} (h : fitsB k v = true) : Enc (rSmall k) (le v.toNat k.toNat) v := by
 intro t
 unfold rSmall
 dsimp only
 have hv : 0 ≤ v := by unfold fitsB at h; have := of_decide_eq_true h; omega
 have hb : uSmall k 0 (le v.toNat k.toNat ++ t) = (0, t, v.toNat) := by
  unfold fitsB at h
  obtain ⟨a, b, c, d⟩ := of_decide_eq_true h
  have h0 : fitsB k 0 = true := decide_eq_true ⟨a, b, Int.le_refl _, by have : (0 : Int) < 256 ^ k.toNat := Int.pow_pos (by decide); omega⟩
  have hd : v.toNat < 256 ^ k.toNat := by
   have h2 : ((v.toNat : Nat) : Int) < ((256 ^ k.toNat : Nat) : Int) := by rw [Int.natCast_pow]; rw [Int.toNat_of_nonneg c]; exact d
   exact Int.ofNat_lt.1 h2
  unfold uSmall
  rw [if_pos rfl, if_pos h0, uTake_app (le_length _ _), ofLe_le, Nat.mod_eq_of_lt hd]
 rw [hb]
 dsimp only
 rw [Int.toNat_of_nonneg hv]
theorem Enc.text {s : ByteArray} (h : s.size ≤ 60000) : Enc rText (textB s) s := by
 intro t
 unfold rText
 dsimp only
 rw [textB_back h]
 rfl
def rMany {α : Type} (R : RS → RS × α) : Nat → RS → RS × List α
 | 0 => rret []
 | n + 1 => rbind R fun a => rbind (rMany R n) fun l => rret (a :: l)
theorem Good.many {α : Type} {R : RS → RS × α} (h : Good R) : ∀ n, Good (rMany R n)
 | 0 => Good.ret _
 | n + 1 => Good.bind h (fun _ => Good.bind (Good.many h n) (fun _ => Good.ret _))
theorem Enc.many {α : Type} {R : RS → RS × α} {enc : α → List UInt8} : ∀ {l : List α}, (∀ x ∈ l, Enc R (enc x) x) → Enc (rMany R l.length) (l.flatMap enc) l
 | [], _ => Enc.ret _
 | x :: l, h => by
  have h1 := Enc.many (fun y hy => h y (List.mem_cons_of_mem _ hy))
  have h2 := Enc.bind (f := fun a => rbind (rMany R l.length) fun l => rret (a :: l)) (h x (by simp)) (Enc.bind (f := fun l => rret (x :: l)) h1 (Enc.ret (x :: l)))
  rw [List.append_nil] at h2
  exact h2
def rWhile {α : Type} (R : RS → RS × α) : Nat → RS → RS × List α
 | 0, s => (s, [])
 | n + 1, s => if s.e = 0 then rbind R (fun a => rbind (rWhile R n) fun l => rret (a :: l)) s else (s, [])
theorem rWhile_many {α : Type} {R : RS → RS × α} (hR : Good R) : ∀ {n : Nat} {s : RS}, (rWhile R n s).1.e = 0 → rWhile R n s = rMany R n s
 | 0, s, _ => rfl
 | n + 1, s, h => by
  unfold rWhile at h ⊢
  by_cases h0 : s.e = 0
  ·rw [if_pos h0] at h ⊢
   have h1 : (rWhile R n (R s).1).1.e = 0 := h
   have h2 := rWhile_many hR h1
   show ((rWhile R n (R s).1).1, (R s).2 :: (rWhile R n (R s).1).2) = ((rMany R n (R s).1).1, (R s).2 :: (rMany R n (R s).1).2)
   rw [h2]
  ·rw [if_neg h0] at h
   exact absurd h h0
theorem rMany_while {α : Type} {R : RS → RS × α} (hR : Good R) : ∀ {n : Nat} {s : RS}, (rMany R n s).1.e = 0 → rWhile R n s = rMany R n s
 | 0, s, _ => rfl
 | n + 1, s, h => by
  have h0 := (Good.many hR (n + 1) s h).1
  unfold rWhile
  rw [if_pos h0]
  have h1 : (rMany R n (R s).1).1.e = 0 := h
  have h2 := rMany_while hR h1
  show ((rWhile R n (R s).1).1, (R s).2 :: (rWhile R n (R s).1).2) = ((rMany R n (R s).1).1, (R s).2 :: (rMany R n (R s).1).2)
  rw [h2]
theorem Good.while_ {α : Type} {R : RS → RS × α} (h : Good R) (n : Nat) : Good (rWhile R n) := by
 intro s hs
 have e := rWhile_many h hs
 rw [e] at hs
 obtain ⟨h1, h2⟩ := Good.many h n s hs
 refine ⟨h1, fun t => ?_⟩
 have h3 := h2 t
 rw [rMany_while h (by rw [h3]), h3, e]
theorem Enc.while_ {α : Type} {R : RS → RS × α} (hR : Good R) {n : Nat} {l : List UInt8} {v : List α} (h : Enc (rMany R n) l v) : Enc (rWhile R n) l v := by
 intro t
 rw [rMany_while hR (by rw [h t]), h t]
end Go.Proofs.YteajonicnkpbbaaGreatDoor
