/- StateRoom's walk. -/
import Derived.Test.YtkfdgodngbinlaaGreatDoorStSh
import Derived.Test.YtkfdgodngbinlaaGreatDoorShNote
import Derived.Test.YtkfdgodngbinlaaGreatDoorAlive15
import Derived.Test.YtkfdgodngbinlaaGreatDoorOpenRec
namespace Go.Proofs.YtkfdgodngbinlaaGreatDoor
set_option linter.all false
open Go.RowKit

set_option maxRecDepth 100000 in
set_option maxHeartbeats 8000000 in
theorem stroom_walk (room : Int) (l : List OpS) (A : Option Addr) (n c : Nat) (lb : List SampV) (B : Option Addr) (m d : Nat) (w : World) (hr : Rd w 4 A n (opscells l)) (hok : ∀ o ∈ l, o.ok w) (hn : n ≤ 9223372036854775807) (hrb : Rd w 3 B m (scells lb)) (hwb : ∀ x ∈ lb, x.wf) (hm : m ≤ 9223372036854775807) (hmx : MaxL w) :
  Calls Tryz.prog 4 #[.int .i64 room, .slice A n c, .slice B m d] w fun e w' => e = .returned (.bool true) ∧ Below w.heap.size w w' := by
 have HAl : Hid (∀ W, Fr (fun _ => False) w W → Calls Tryz.prog 11 #[] W fun r w' => r = .returned (.bool true) ∧ Below W.heap.size W w') := fun W f => alive15_any W (hmx.fr f (fun h => h))
 have HLi := Lib.hid (light15_any l A n c w hr hok hn)
 have HSo := Lib.hid (some_any 60 (by omega) lb (fun y hy => (hwb y hy).2.2) B m d w hrb hm)
 have Hr := Lib.hid hr
 have Hln := Lib.hid hr.opsS_len
 have Hok := Lib.hid hok
 have Hrb := Lib.hid hrb
 have Hwb := Lib.hid hwb
 have HMX := Lib.hid hmx
 have F0 := Lib.hid (Fr.refl (fun _ => False) w)
 clear hr hok hrb hwb hmx
 by_cases h0 : room < 0
 ·have hd0 : decide (room < 0) = true := decide_eq_true h0
  go_enter Tryz.func4, Tryz.ntmps4
  go_wp2_with fail
  refine HLi.out.mono ?_
  rintro r w1 ⟨⟨b, rfl, hb⟩, rfl⟩
  clear hb
  cases b
  all_goals
   go_wp2_with fail
   refine (HAl.out _ (F0.out)).mono ?_
   rintro r wz ⟨rfl, bz⟩
   go_wp2_with fail
   go_ret
   exact ⟨rfl, bz⟩
 have hd0 : decide (room < 0) = false := decide_eq_false h0
 by_cases h60 : 60 < room
 ·have hd6 : decide (60 < room) = true := decide_eq_true h60
  go_enter Tryz.func4, Tryz.ntmps4
  go_wp2_with fail
  refine HLi.out.mono ?_
  rintro r w1 ⟨⟨b, rfl, hb⟩, rfl⟩
  clear hb
  cases b
  all_goals
   go_wp2_with fail
   refine (HAl.out _ (F0.out)).mono ?_
   rintro r wz ⟨rfl, bz⟩
   go_wp2_with fail
   go_ret
   exact ⟨rfl, bz⟩
 have hd6 : decide (60 < room) = false := decide_eq_false h60
 have HNw : Hid (Calls Tryz.prog 12 #[.int .i64 room, .string { data := #[112, 111, 108, 105, 99, 121, 32, 119, 101, 98, 10, 116, 105, 101, 114, 32, 114, 97, 119, 32, 101, 118, 101, 114, 121, 32, 49, 32, 107, 101, 101, 112, 32, 49, 48, 48, 32, 115, 104, 97, 114, 100, 115, 32, 50, 10, 116, 105, 101, 114, 32, 116, 101, 110, 115, 32, 101, 118, 101, 114, 121, 32, 49, 48, 32, 107, 101, 101, 112, 32, 49, 48, 48, 48, 32, 115, 104, 97, 114, 100, 115, 32, 49, 10] }] w fun r w' => (∃ g, r = .returned (.tuple #[.pointer (some ⟨g, 0, none⟩), .int .i64 0]) ∧ StP w' g w.heap.size (stNewQ room (readV web8)) 0) ∧ Below w.heap.size w w') := by
  refine (sp_new room web8 (by decide) w HMX.out w.heap.size (Nat.le_refl _)).mono ?_
  rintro r w' ⟨⟨h1, _⟩, hb⟩
  exact ⟨h1 (rm_new ⟨by omega, by omega⟩), hb⟩
 have HG0 : Hid (StGood (stNewQ room (readV web8)) 0) := stNew_good (rm_new ⟨by omega, by omega⟩)
 go_enter Tryz.func4, Tryz.ntmps4
 go_wp2_with fail
 refine HLi.out.mono ?_
 rintro r w1 ⟨⟨b, rfl, hb⟩, rfl⟩
 have Hlb := Lib.hid hb
 clear hb HLi
 cases b with
 | false =>
  go_wp2_with fail
  refine (HAl.out _ (F0.out)).mono ?_
  rintro r wz ⟨rfl, bz⟩
  go_wp2_with fail
  go_ret
  exact ⟨rfl, bz⟩
 | true =>
 have hl60 : n ≤ 60 := (Hlb.out rfl).1
 go_wp2_with fail
 refine HSo.out.mono ?_
 rintro r w1 ⟨⟨b, rfl, hb⟩, rfl⟩
 have Hmb := Lib.hid hb
 clear hb HSo
 cases b with
 | false =>
  go_wp2_with fail
  refine (HAl.out _ (F0.out)).mono ?_
  rintro r wz ⟨rfl, bz⟩
  go_wp2_with fail
  go_ret
  exact ⟨rfl, bz⟩
 | true =>
 have hm60 : m ≤ 60 := Hmb.out rfl
 go_wp2_with fail
 refine HNw.out.mono ?_
 rintro r w1 ⟨⟨g, rfl, h1⟩, b1⟩
 have H1 := Lib.hid h1
 have B1 := Lib.hid b1
 clear h1 b1 HNw hd0 hd6
 go_wp2_with fail
 go_loopw [9] (fun i wr => ∃ k : Nat, k ≤ n ∧ i = .int .i64 k ∧ StP wr g w.heap.size (stRun (stNewQ room (readV web8)) (l.take k)) (8 * k) ∧ Below w.heap.size w wr) (fun i _ => n - (intOf i).toNat)
 case atStart => exact ⟨0, by omega, rfl, H1.out, B1.out⟩
 case round =>
  obtain ⟨k, hk, rfl, hs, hb⟩ := hrel
  by_cases hlt : k < n
  ·have hbw : Below w.heap.size w wr := hb
   obtain ⟨ad, o, rfl, ho, a0, a1, a2, a3⟩ := (Hr.out.below hbw).opS hlt
   have hom := mem_of_get ho
   have hwo : Below w.heap.size w (wr.alloc (.cells #[.int .i64 o.kind, .int .i64 o.n, .slice o.sa o.sn o.sc, .string o.text] 52)) := hbw.trans ((Fr.none_alloc wr _).below_of hbw.size (fun _ h => h.elim))
   have HOk := Lib.hid (show o.ok (wr.alloc (.cells #[.int .i64 o.kind, .int .i64 o.n, .slice o.sa o.sn o.sc, .string o.text] 52)) ∧ ∀ j, adF o.sa o.sn j → j < w.heap.size from ⟨(Hok.out o hom).below hwo, (Hok.out o hom).s.adlt (by decide)⟩)
   have HMx := Lib.hid (HMX.out.below hwo)
   have Ht := Lib.hid ((Hlb.out (by trivial)).2 o hom)
   have hXb : Blk (wr.alloc (.cells #[.int .i64 o.kind, .int .i64 o.n, .slice o.sa o.sn o.sc, .string o.text] 52)) wr.heap.size 52 #[.int .i64 o.kind, .int .i64 o.n, .slice o.sa o.sn o.sc, .string o.text] := Blk.new _ _ _
   have x0 := hXb.cell 0
   have x1 := hXb.cell 1
   have x2 := hXb.cell 2
   have x3 := hXb.cell 3
   simp only [List.getElem?_toArray, List.getElem?_cons_succ, List.getElem?_cons_zero] at x0 x1 x2 x3
   have hgk : StGood (stRun (stNewQ room (readV web8)) (l.take k)) (8 * k) := by
    have h := stRun_good HG0.out (l.take k) (by rw [List.length_take]; omega)
    rw [List.length_take, Hln.out, Nat.min_eq_left hk] at h
    rwa [Nat.zero_add] at h
   have HQN : Hid (∀ Q8, stOp (stRun (stNewQ room (readV web8)) (l.take k)) o = Q8 → Q8.room = room ∧ stRun (stNewQ room (readV web8)) (l.take (k + 1)) = Q8) := fun Q8 h => by
    have e : stRun (stNewQ room (readV web8)) (l.take (k + 1)) = Q8 := by rw [take_snoc ho, stRun_snoc]; exact h
    exact ⟨by rw [← e, stRun_room]; rfl, e⟩
   have HGN : Hid (∀ Q8, stOp (stRun (stNewQ room (readV web8)) (l.take k)) o = Q8 → StGood Q8 (8 * (k + 1))) := fun Q8 h => by
    subst h
    exact hgk.op (by omega) o
   have HsO := Lib.hid (hs.fr0 (Fr.none_alloc wr (.cells #[.int .i64 o.kind, .int .i64 o.n, .slice o.sa o.sn o.sc, .string o.text] 52)))
   have HbO := Lib.hid hwo
   obtain ⟨Qk, hQk⟩ : ∃ v, stRun (stNewQ room (readV web8)) (l.take k) = v := ⟨_, rfl⟩
   rw [hQk] at HsO hgk HQN HGN
   have Gk := Lib.hid hgk
   have hkw : IntKind.i64.wrap ((k : Int) + 1) = (k : Int) + 1 := by simp [IntKind.wrap, IntKind.signed, IntKind.bits]; omega
   clear hs hb hbw ho hom hwo hXb hgk hQk
   by_cases e1 : o.kind = 1
   ·have hd1 : (o.kind == 1) = true := by simpa using e1
    have hop : stOp Qk o = stPut Qk o.sl := by unfold stOp; simp [e1]
    have Hop := Lib.hid hop
    clear hop e1
    have HC := Lib.hid (sp_put Gk.out (by omega) HsO.out o.sl o.sa o.sn o.sc HOk.out.1.s HOk.out.1.swf HOk.out.2)
    go_wp2_with fail
    refine HC.out.mono ?_
    rintro r w8 ⟨hv, h8, b8⟩
    subst hv
    obtain ⟨Q8, hQ8⟩ : ∃ v, stOp Qk o = v := ⟨_, rfl⟩
    have HQ8 := Lib.hid (HQN.out Q8 hQ8)
    have G8 := Lib.hid (HGN.out Q8 hQ8)
    have hc8 : 8 * (k + 1) ≤ 1000000 := by omega
    have H8 : Hid (StP w8 g w.heap.size Q8 (8 * (k + 1))) := by show StP _ _ _ _ _; rw [← hQ8, Hop.out]; first | exact h8 | exact h8.more (by omega)
    have B8 := Lib.hid (HbO.out.trans b8)
    clear h8 b8 hQ8 HC HQN HGN Hop
    have hl8 : w.heap.size ≤ w8.heap.size := by have := H8.out.lt; omega
    have HS8 := Lib.hid (sp_shadow G8.out H8.out)
    have HN8 := Lib.hid (fun W' (f : Fr (fun _ => False) w8 W') => sp_need G8.out hc8 (H8.out.fr0 f))
    have hn8 := need_room G8.out
    rw [HQ8.out.1] at hn8
    have hnd : decide (room < ((needX Q8.X : Nat) : Int) + boundO Q8.ch) = false := decide_eq_false (by omega)
    have hnd2 : ¬ room < ((needX Q8.X : Nat) : Int) + boundO Q8.ch := by omega
    clear hn8
    cases hch : Q8.ch with
    | none =>
     rw [hch] at hnd hnd2 HN8
     go_wp2_with fail
     refine HS8.out.mono ?_
     rintro r w9 ⟨⟨hv, _⟩, b9⟩
     obtain rfl := hv hch
     clear hv
     have F9 := Lib.hid (Fr.b0 b9)
     have HN9 := Lib.hid (HN8.out w9 F9.out)
     clear b9
     go_wp2_with fail
     refine HN9.out.mono ?_
     rintro r w10 ⟨rfl, b10⟩
     have F10 := Lib.hid (F9.out.trans (Fr.b0 b10) (fun _ h => h.elim))
     clear b10
     go_wp2_with fail
     go_roundw
     case rel => exact ⟨k + 1, by omega, by go_num, by rw [HQ8.out.2]; exact H8.out.fr0 F10.out, B8.out.trans (F10.out.below_of hl8 (fun _ h => h.elim))⟩
     case measure => simp [intOf]; omega
    | some S =>
     rw [hch] at hnd hnd2 HN8
     have hbd := ch_bound G8.out hch
     have hfc := ch_facts G8.out hc8 hch
     have hsd : decide (S.bound < ((sneedX S : Nat) : Int)) = false := decide_eq_false (by omega)
     have hsd2 : ¬ S.bound < ((sneedX S : Nat) : Int) := by omega
     have Hfc := Lib.hid hfc
     clear hbd hfc
     go_wp2_with fail
     refine HS8.out.mono ?_
     rintro r w9 ⟨⟨_, hv⟩, b9⟩
     obtain ⟨s, base, F', rfl, ho, hge⟩ := hv S hch
     clear hv
     have F9 := Lib.hid (Fr.b0 b9)
     have HN9 := Lib.hid (HN8.out w9 F9.out)
     have O9 := Lib.hid ho
     clear b9 ho hge
     go_wp2_with fail
     refine HN9.out.mono ?_
     rintro r w10 ⟨rfl, b10⟩
     have F10 := Lib.hid (F9.out.trans (Fr.b0 b10) (fun _ h => h.elim))
     have O10 := Lib.hid (O9.out.fr0 (Fr.b0 b10))
     clear b10
     go_wp2_with fail
     refine (sneed_any s base S w10 O10.out.at_ Hfc.out.1 Hfc.out.2.1 Hfc.out.2.2).mono ?_
     rintro r w11 ⟨rfl, b11⟩
     have F11 := Lib.hid (F10.out.trans (Fr.b0 b11) (fun _ h => h.elim))
     have O11 := Lib.hid (O10.out.fr0 (Fr.b0 b11))
     clear b11
     go_wp2_with fail
     refine (sbound_any s base S w11 O11.out.at_).mono ?_
     rintro r w12 ⟨rfl, rfl⟩
     go_wp2_with fail
     go_roundw
     case rel => exact ⟨k + 1, by omega, by go_num, by rw [HQ8.out.2]; exact H8.out.fr0 F11.out, B8.out.trans (F11.out.below_of hl8 (fun _ h => h.elim))⟩
     case measure => simp [intOf]; omega
   by_cases e2 : o.kind = 2
   ·have hd1 : (o.kind == 1) = false := by simpa using e1
    have hd2 : (o.kind == 2) = true := by simpa using e2
    have hop : stOp Qk o = stTick Qk o.n := by unfold stOp; simp [e1, e2]
    have Hop := Lib.hid hop
    clear hop e1 e2
    have HC := Lib.hid (sp_tick Gk.out (by omega) HsO.out o.n HOk.out.1.n)
    go_wp2_with fail
    refine HC.out.mono ?_
    rintro r w8 ⟨hv, h8, b8⟩
    subst hv
    obtain ⟨Q8, hQ8⟩ : ∃ v, stOp Qk o = v := ⟨_, rfl⟩
    have HQ8 := Lib.hid (HQN.out Q8 hQ8)
    have G8 := Lib.hid (HGN.out Q8 hQ8)
    have hc8 : 8 * (k + 1) ≤ 1000000 := by omega
    have H8 : Hid (StP w8 g w.heap.size Q8 (8 * (k + 1))) := by show StP _ _ _ _ _; rw [← hQ8, Hop.out]; first | exact h8 | exact h8.more (by omega)
    have B8 := Lib.hid (HbO.out.trans b8)
    clear h8 b8 hQ8 HC HQN HGN Hop
    have hl8 : w.heap.size ≤ w8.heap.size := by have := H8.out.lt; omega
    have HS8 := Lib.hid (sp_shadow G8.out H8.out)
    have HN8 := Lib.hid (fun W' (f : Fr (fun _ => False) w8 W') => sp_need G8.out hc8 (H8.out.fr0 f))
    have hn8 := need_room G8.out
    rw [HQ8.out.1] at hn8
    have hnd : decide (room < ((needX Q8.X : Nat) : Int) + boundO Q8.ch) = false := decide_eq_false (by omega)
    have hnd2 : ¬ room < ((needX Q8.X : Nat) : Int) + boundO Q8.ch := by omega
    clear hn8
    cases hch : Q8.ch with
    | none =>
     rw [hch] at hnd hnd2 HN8
     go_wp2_with fail
     refine HS8.out.mono ?_
     rintro r w9 ⟨⟨hv, _⟩, b9⟩
     obtain rfl := hv hch
     clear hv
     have F9 := Lib.hid (Fr.b0 b9)
     have HN9 := Lib.hid (HN8.out w9 F9.out)
     clear b9
     go_wp2_with fail
     refine HN9.out.mono ?_
     rintro r w10 ⟨rfl, b10⟩
     have F10 := Lib.hid (F9.out.trans (Fr.b0 b10) (fun _ h => h.elim))
     clear b10
     go_wp2_with fail
     go_roundw
     case rel => exact ⟨k + 1, by omega, by go_num, by rw [HQ8.out.2]; exact H8.out.fr0 F10.out, B8.out.trans (F10.out.below_of hl8 (fun _ h => h.elim))⟩
     case measure => simp [intOf]; omega
    | some S =>
     rw [hch] at hnd hnd2 HN8
     have hbd := ch_bound G8.out hch
     have hfc := ch_facts G8.out hc8 hch
     have hsd : decide (S.bound < ((sneedX S : Nat) : Int)) = false := decide_eq_false (by omega)
     have hsd2 : ¬ S.bound < ((sneedX S : Nat) : Int) := by omega
     have Hfc := Lib.hid hfc
     clear hbd hfc
     go_wp2_with fail
     refine HS8.out.mono ?_
     rintro r w9 ⟨⟨_, hv⟩, b9⟩
     obtain ⟨s, base, F', rfl, ho, hge⟩ := hv S hch
     clear hv
     have F9 := Lib.hid (Fr.b0 b9)
     have HN9 := Lib.hid (HN8.out w9 F9.out)
     have O9 := Lib.hid ho
     clear b9 ho hge
     go_wp2_with fail
     refine HN9.out.mono ?_
     rintro r w10 ⟨rfl, b10⟩
     have F10 := Lib.hid (F9.out.trans (Fr.b0 b10) (fun _ h => h.elim))
     have O10 := Lib.hid (O9.out.fr0 (Fr.b0 b10))
     clear b10
     go_wp2_with fail
     refine (sneed_any s base S w10 O10.out.at_ Hfc.out.1 Hfc.out.2.1 Hfc.out.2.2).mono ?_
     rintro r w11 ⟨rfl, b11⟩
     have F11 := Lib.hid (F10.out.trans (Fr.b0 b11) (fun _ h => h.elim))
     have O11 := Lib.hid (O10.out.fr0 (Fr.b0 b11))
     clear b11
     go_wp2_with fail
     refine (sbound_any s base S w11 O11.out.at_).mono ?_
     rintro r w12 ⟨rfl, rfl⟩
     go_wp2_with fail
     go_roundw
     case rel => exact ⟨k + 1, by omega, by go_num, by rw [HQ8.out.2]; exact H8.out.fr0 F11.out, B8.out.trans (F11.out.below_of hl8 (fun _ h => h.elim))⟩
     case measure => simp [intOf]; omega
   by_cases e3 : o.kind = 3
   ·have hd1 : (o.kind == 1) = false := by simpa using e1
    have hd2 : (o.kind == 2) = false := by simpa using e2
    have hd3 : (o.kind == 3) = true := by simpa using e3
    have hop : stOp Qk o = stChange Qk (readV o.text) := by unfold stOp; simp [e1, e2, e3]
    have Hop := Lib.hid hop
    clear hop e1 e2 e3
    have HC := Lib.hid (sp_change Gk.out (by omega) HsO.out o.text (by have := Ht.out; omega) HMx.out)
    go_wp2_with fail
    refine HC.out.mono ?_
    rintro r w8 ⟨hv, h8, b8⟩
    obtain ⟨kk, rfl, _⟩ := hv
    obtain ⟨Q8, hQ8⟩ : ∃ v, stOp Qk o = v := ⟨_, rfl⟩
    have HQ8 := Lib.hid (HQN.out Q8 hQ8)
    have G8 := Lib.hid (HGN.out Q8 hQ8)
    have hc8 : 8 * (k + 1) ≤ 1000000 := by omega
    have H8 : Hid (StP w8 g w.heap.size Q8 (8 * (k + 1))) := by show StP _ _ _ _ _; rw [← hQ8, Hop.out]; first | exact h8 | exact h8.more (by omega)
    have B8 := Lib.hid (HbO.out.trans b8)
    clear h8 b8 hQ8 HC HQN HGN Hop
    have hl8 : w.heap.size ≤ w8.heap.size := by have := H8.out.lt; omega
    have HS8 := Lib.hid (sp_shadow G8.out H8.out)
    have HN8 := Lib.hid (fun W' (f : Fr (fun _ => False) w8 W') => sp_need G8.out hc8 (H8.out.fr0 f))
    have hn8 := need_room G8.out
    rw [HQ8.out.1] at hn8
    have hnd : decide (room < ((needX Q8.X : Nat) : Int) + boundO Q8.ch) = false := decide_eq_false (by omega)
    have hnd2 : ¬ room < ((needX Q8.X : Nat) : Int) + boundO Q8.ch := by omega
    clear hn8
    cases hch : Q8.ch with
    | none =>
     rw [hch] at hnd hnd2 HN8
     go_wp2_with fail
     refine HS8.out.mono ?_
     rintro r w9 ⟨⟨hv, _⟩, b9⟩
     obtain rfl := hv hch
     clear hv
     have F9 := Lib.hid (Fr.b0 b9)
     have HN9 := Lib.hid (HN8.out w9 F9.out)
     clear b9
     go_wp2_with fail
     refine HN9.out.mono ?_
     rintro r w10 ⟨rfl, b10⟩
     have F10 := Lib.hid (F9.out.trans (Fr.b0 b10) (fun _ h => h.elim))
     clear b10
     go_wp2_with fail
     go_roundw
     case rel => exact ⟨k + 1, by omega, by go_num, by rw [HQ8.out.2]; exact H8.out.fr0 F10.out, B8.out.trans (F10.out.below_of hl8 (fun _ h => h.elim))⟩
     case measure => simp [intOf]; omega
    | some S =>
     rw [hch] at hnd hnd2 HN8
     have hbd := ch_bound G8.out hch
     have hfc := ch_facts G8.out hc8 hch
     have hsd : decide (S.bound < ((sneedX S : Nat) : Int)) = false := decide_eq_false (by omega)
     have hsd2 : ¬ S.bound < ((sneedX S : Nat) : Int) := by omega
     have Hfc := Lib.hid hfc
     clear hbd hfc
     go_wp2_with fail
     refine HS8.out.mono ?_
     rintro r w9 ⟨⟨_, hv⟩, b9⟩
     obtain ⟨s, base, F', rfl, ho, hge⟩ := hv S hch
     clear hv
     have F9 := Lib.hid (Fr.b0 b9)
     have HN9 := Lib.hid (HN8.out w9 F9.out)
     have O9 := Lib.hid ho
     clear b9 ho hge
     go_wp2_with fail
     refine HN9.out.mono ?_
     rintro r w10 ⟨rfl, b10⟩
     have F10 := Lib.hid (F9.out.trans (Fr.b0 b10) (fun _ h => h.elim))
     have O10 := Lib.hid (O9.out.fr0 (Fr.b0 b10))
     clear b10
     go_wp2_with fail
     refine (sneed_any s base S w10 O10.out.at_ Hfc.out.1 Hfc.out.2.1 Hfc.out.2.2).mono ?_
     rintro r w11 ⟨rfl, b11⟩
     have F11 := Lib.hid (F10.out.trans (Fr.b0 b11) (fun _ h => h.elim))
     have O11 := Lib.hid (O10.out.fr0 (Fr.b0 b11))
     clear b11
     go_wp2_with fail
     refine (sbound_any s base S w11 O11.out.at_).mono ?_
     rintro r w12 ⟨rfl, rfl⟩
     go_wp2_with fail
     go_roundw
     case rel => exact ⟨k + 1, by omega, by go_num, by rw [HQ8.out.2]; exact H8.out.fr0 F11.out, B8.out.trans (F11.out.below_of hl8 (fun _ h => h.elim))⟩
     case measure => simp [intOf]; omega
   by_cases e4 : o.kind = 4
   ·have hd1 : (o.kind == 1) = false := by simpa using e1
    have hd2 : (o.kind == 2) = false := by simpa using e2
    have hd3 : (o.kind == 3) = false := by simpa using e3
    have hd4 : (o.kind == 4) = true := by simpa using e4
    have hop : stOp Qk o = stStep Qk := by unfold stOp; simp [e1, e2, e3, e4]
    have Hop := Lib.hid hop
    clear hop e1 e2 e3 e4
    have HC := Lib.hid (sp_step Gk.out (by omega) HsO.out)
    go_wp2_with fail
    refine HC.out.mono ?_
    rintro r w8 ⟨hv, h8, b8⟩
    subst hv
    obtain ⟨Q8, hQ8⟩ : ∃ v, stOp Qk o = v := ⟨_, rfl⟩
    have HQ8 := Lib.hid (HQN.out Q8 hQ8)
    have G8 := Lib.hid (HGN.out Q8 hQ8)
    have hc8 : 8 * (k + 1) ≤ 1000000 := by omega
    have H8 : Hid (StP w8 g w.heap.size Q8 (8 * (k + 1))) := by show StP _ _ _ _ _; rw [← hQ8, Hop.out]; first | exact h8 | exact h8.more (by omega)
    have B8 := Lib.hid (HbO.out.trans b8)
    clear h8 b8 hQ8 HC HQN HGN Hop
    have hl8 : w.heap.size ≤ w8.heap.size := by have := H8.out.lt; omega
    have HS8 := Lib.hid (sp_shadow G8.out H8.out)
    have HN8 := Lib.hid (fun W' (f : Fr (fun _ => False) w8 W') => sp_need G8.out hc8 (H8.out.fr0 f))
    have hn8 := need_room G8.out
    rw [HQ8.out.1] at hn8
    have hnd : decide (room < ((needX Q8.X : Nat) : Int) + boundO Q8.ch) = false := decide_eq_false (by omega)
    have hnd2 : ¬ room < ((needX Q8.X : Nat) : Int) + boundO Q8.ch := by omega
    clear hn8
    cases hch : Q8.ch with
    | none =>
     rw [hch] at hnd hnd2 HN8
     go_wp2_with fail
     refine HS8.out.mono ?_
     rintro r w9 ⟨⟨hv, _⟩, b9⟩
     obtain rfl := hv hch
     clear hv
     have F9 := Lib.hid (Fr.b0 b9)
     have HN9 := Lib.hid (HN8.out w9 F9.out)
     clear b9
     go_wp2_with fail
     refine HN9.out.mono ?_
     rintro r w10 ⟨rfl, b10⟩
     have F10 := Lib.hid (F9.out.trans (Fr.b0 b10) (fun _ h => h.elim))
     clear b10
     go_wp2_with fail
     go_roundw
     case rel => exact ⟨k + 1, by omega, by go_num, by rw [HQ8.out.2]; exact H8.out.fr0 F10.out, B8.out.trans (F10.out.below_of hl8 (fun _ h => h.elim))⟩
     case measure => simp [intOf]; omega
    | some S =>
     rw [hch] at hnd hnd2 HN8
     have hbd := ch_bound G8.out hch
     have hfc := ch_facts G8.out hc8 hch
     have hsd : decide (S.bound < ((sneedX S : Nat) : Int)) = false := decide_eq_false (by omega)
     have hsd2 : ¬ S.bound < ((sneedX S : Nat) : Int) := by omega
     have Hfc := Lib.hid hfc
     clear hbd hfc
     go_wp2_with fail
     refine HS8.out.mono ?_
     rintro r w9 ⟨⟨_, hv⟩, b9⟩
     obtain ⟨s, base, F', rfl, ho, hge⟩ := hv S hch
     clear hv
     have F9 := Lib.hid (Fr.b0 b9)
     have HN9 := Lib.hid (HN8.out w9 F9.out)
     have O9 := Lib.hid ho
     clear b9 ho hge
     go_wp2_with fail
     refine HN9.out.mono ?_
     rintro r w10 ⟨rfl, b10⟩
     have F10 := Lib.hid (F9.out.trans (Fr.b0 b10) (fun _ h => h.elim))
     have O10 := Lib.hid (O9.out.fr0 (Fr.b0 b10))
     clear b10
     go_wp2_with fail
     refine (sneed_any s base S w10 O10.out.at_ Hfc.out.1 Hfc.out.2.1 Hfc.out.2.2).mono ?_
     rintro r w11 ⟨rfl, b11⟩
     have F11 := Lib.hid (F10.out.trans (Fr.b0 b11) (fun _ h => h.elim))
     have O11 := Lib.hid (O10.out.fr0 (Fr.b0 b11))
     clear b11
     go_wp2_with fail
     refine (sbound_any s base S w11 O11.out.at_).mono ?_
     rintro r w12 ⟨rfl, rfl⟩
     go_wp2_with fail
     go_roundw
     case rel => exact ⟨k + 1, by omega, by go_num, by rw [HQ8.out.2]; exact H8.out.fr0 F11.out, B8.out.trans (F11.out.below_of hl8 (fun _ h => h.elim))⟩
     case measure => simp [intOf]; omega
   by_cases e5 : o.kind = 5
   ·have hd1 : (o.kind == 1) = false := by simpa using e1
    have hd2 : (o.kind == 2) = false := by simpa using e2
    have hd3 : (o.kind == 3) = false := by simpa using e3
    have hd4 : (o.kind == 4) = false := by simpa using e4
    have hd5 : (o.kind == 5) = true := by simpa using e5
    have hop : stOp Qk o = stAbort Qk := by unfold stOp; simp [e1, e2, e3, e4, e5]
    have Hop := Lib.hid hop
    clear hop e1 e2 e3 e4 e5
    have HC := Lib.hid (sp_abort HsO.out)
    go_wp2_with fail
    refine HC.out.mono ?_
    rintro r w8 ⟨hv, h8, b8⟩
    subst hv
    obtain ⟨Q8, hQ8⟩ : ∃ v, stOp Qk o = v := ⟨_, rfl⟩
    have HQ8 := Lib.hid (HQN.out Q8 hQ8)
    have G8 := Lib.hid (HGN.out Q8 hQ8)
    have hc8 : 8 * (k + 1) ≤ 1000000 := by omega
    have H8 : Hid (StP w8 g w.heap.size Q8 (8 * (k + 1))) := by show StP _ _ _ _ _; rw [← hQ8, Hop.out]; first | exact h8 | exact h8.more (by omega)
    have B8 := Lib.hid (HbO.out.trans b8)
    clear h8 b8 hQ8 HC HQN HGN Hop
    have hl8 : w.heap.size ≤ w8.heap.size := by have := H8.out.lt; omega
    have HS8 := Lib.hid (sp_shadow G8.out H8.out)
    have HN8 := Lib.hid (fun W' (f : Fr (fun _ => False) w8 W') => sp_need G8.out hc8 (H8.out.fr0 f))
    have hn8 := need_room G8.out
    rw [HQ8.out.1] at hn8
    have hnd : decide (room < ((needX Q8.X : Nat) : Int) + boundO Q8.ch) = false := decide_eq_false (by omega)
    have hnd2 : ¬ room < ((needX Q8.X : Nat) : Int) + boundO Q8.ch := by omega
    clear hn8
    cases hch : Q8.ch with
    | none =>
     rw [hch] at hnd hnd2 HN8
     go_wp2_with fail
     refine HS8.out.mono ?_
     rintro r w9 ⟨⟨hv, _⟩, b9⟩
     obtain rfl := hv hch
     clear hv
     have F9 := Lib.hid (Fr.b0 b9)
     have HN9 := Lib.hid (HN8.out w9 F9.out)
     clear b9
     go_wp2_with fail
     refine HN9.out.mono ?_
     rintro r w10 ⟨rfl, b10⟩
     have F10 := Lib.hid (F9.out.trans (Fr.b0 b10) (fun _ h => h.elim))
     clear b10
     go_wp2_with fail
     go_roundw
     case rel => exact ⟨k + 1, by omega, by go_num, by rw [HQ8.out.2]; exact H8.out.fr0 F10.out, B8.out.trans (F10.out.below_of hl8 (fun _ h => h.elim))⟩
     case measure => simp [intOf]; omega
    | some S =>
     rw [hch] at hnd hnd2 HN8
     have hbd := ch_bound G8.out hch
     have hfc := ch_facts G8.out hc8 hch
     have hsd : decide (S.bound < ((sneedX S : Nat) : Int)) = false := decide_eq_false (by omega)
     have hsd2 : ¬ S.bound < ((sneedX S : Nat) : Int) := by omega
     have Hfc := Lib.hid hfc
     clear hbd hfc
     go_wp2_with fail
     refine HS8.out.mono ?_
     rintro r w9 ⟨⟨_, hv⟩, b9⟩
     obtain ⟨s, base, F', rfl, ho, hge⟩ := hv S hch
     clear hv
     have F9 := Lib.hid (Fr.b0 b9)
     have HN9 := Lib.hid (HN8.out w9 F9.out)
     have O9 := Lib.hid ho
     clear b9 ho hge
     go_wp2_with fail
     refine HN9.out.mono ?_
     rintro r w10 ⟨rfl, b10⟩
     have F10 := Lib.hid (F9.out.trans (Fr.b0 b10) (fun _ h => h.elim))
     have O10 := Lib.hid (O9.out.fr0 (Fr.b0 b10))
     clear b10
     go_wp2_with fail
     refine (sneed_any s base S w10 O10.out.at_ Hfc.out.1 Hfc.out.2.1 Hfc.out.2.2).mono ?_
     rintro r w11 ⟨rfl, b11⟩
     have F11 := Lib.hid (F10.out.trans (Fr.b0 b11) (fun _ h => h.elim))
     have O11 := Lib.hid (O10.out.fr0 (Fr.b0 b11))
     clear b11
     go_wp2_with fail
     refine (sbound_any s base S w11 O11.out.at_).mono ?_
     rintro r w12 ⟨rfl, rfl⟩
     go_wp2_with fail
     go_roundw
     case rel => exact ⟨k + 1, by omega, by go_num, by rw [HQ8.out.2]; exact H8.out.fr0 F11.out, B8.out.trans (F11.out.below_of hl8 (fun _ h => h.elim))⟩
     case measure => simp [intOf]; omega
   ·have hd1 : (o.kind == 1) = false := by simpa using e1
    have hd2 : (o.kind == 2) = false := by simpa using e2
    have hd3 : (o.kind == 3) = false := by simpa using e3
    have hd4 : (o.kind == 4) = false := by simpa using e4
    have hd5 : (o.kind == 5) = false := by simpa using e5
    have hop : stOp Qk o = Qk := by unfold stOp; simp [e1, e2, e3, e4, e5]
    have Hop := Lib.hid hop
    clear hop e1 e2 e3 e4 e5
    obtain ⟨Q8, hQ8⟩ : ∃ v, stOp Qk o = v := ⟨_, rfl⟩
    have HQ8 := Lib.hid (HQN.out Q8 hQ8)
    have G8 := Lib.hid (HGN.out Q8 hQ8)
    have hc8 : 8 * (k + 1) ≤ 1000000 := by omega
    have H8 : Hid (StP (wr.alloc (.cells #[.int .i64 o.kind, .int .i64 o.n, .slice o.sa o.sn o.sc, .string o.text] 52)) g w.heap.size Q8 (8 * (k + 1))) := by show StP _ _ _ _ _; rw [← hQ8, Hop.out]; exact HsO.out.more (by omega)
    have B8 := HbO
    obtain ⟨w8, hw8⟩ : ∃ v, v = wr.alloc (.cells #[.int .i64 o.kind, .int .i64 o.n, .slice o.sa o.sn o.sc, .string o.text] 52) := ⟨_, rfl⟩
    have HW8 := Lib.hid hw8
    rw [← hw8] at H8 B8
    clear hw8 hQ8 HQN HGN Hop HsO HbO HOk
    go_upto_region 8 with fail
    rw [← HW8.out]
    clear x0 x1 x2 x3
    have hl8 : w.heap.size ≤ w8.heap.size := by have := H8.out.lt; omega
    have HS8 := Lib.hid (sp_shadow G8.out H8.out)
    have HN8 := Lib.hid (fun W' (f : Fr (fun _ => False) w8 W') => sp_need G8.out hc8 (H8.out.fr0 f))
    have hn8 := need_room G8.out
    rw [HQ8.out.1] at hn8
    have hnd : decide (room < ((needX Q8.X : Nat) : Int) + boundO Q8.ch) = false := decide_eq_false (by omega)
    have hnd2 : ¬ room < ((needX Q8.X : Nat) : Int) + boundO Q8.ch := by omega
    clear hn8
    cases hch : Q8.ch with
    | none =>
     rw [hch] at hnd hnd2 HN8
     go_wp2_with fail
     refine HS8.out.mono ?_
     rintro r w9 ⟨⟨hv, _⟩, b9⟩
     obtain rfl := hv hch
     clear hv
     have F9 := Lib.hid (Fr.b0 b9)
     have HN9 := Lib.hid (HN8.out w9 F9.out)
     clear b9
     go_wp2_with fail
     refine HN9.out.mono ?_
     rintro r w10 ⟨rfl, b10⟩
     have F10 := Lib.hid (F9.out.trans (Fr.b0 b10) (fun _ h => h.elim))
     clear b10
     go_wp2_with fail
     go_roundw
     case rel => exact ⟨k + 1, by omega, by go_num, by rw [HQ8.out.2]; exact H8.out.fr0 F10.out, B8.out.trans (F10.out.below_of hl8 (fun _ h => h.elim))⟩
     case measure => simp [intOf]; omega
    | some S =>
     rw [hch] at hnd hnd2 HN8
     have hbd := ch_bound G8.out hch
     have hfc := ch_facts G8.out hc8 hch
     have hsd : decide (S.bound < ((sneedX S : Nat) : Int)) = false := decide_eq_false (by omega)
     have hsd2 : ¬ S.bound < ((sneedX S : Nat) : Int) := by omega
     have Hfc := Lib.hid hfc
     clear hbd hfc
     go_wp2_with fail
     refine HS8.out.mono ?_
     rintro r w9 ⟨⟨_, hv⟩, b9⟩
     obtain ⟨s, base, F', rfl, ho, hge⟩ := hv S hch
     clear hv
     have F9 := Lib.hid (Fr.b0 b9)
     have HN9 := Lib.hid (HN8.out w9 F9.out)
     have O9 := Lib.hid ho
     clear b9 ho hge
     go_wp2_with fail
     refine HN9.out.mono ?_
     rintro r w10 ⟨rfl, b10⟩
     have F10 := Lib.hid (F9.out.trans (Fr.b0 b10) (fun _ h => h.elim))
     have O10 := Lib.hid (O9.out.fr0 (Fr.b0 b10))
     clear b10
     go_wp2_with fail
     refine (sneed_any s base S w10 O10.out.at_ Hfc.out.1 Hfc.out.2.1 Hfc.out.2.2).mono ?_
     rintro r w11 ⟨rfl, b11⟩
     have F11 := Lib.hid (F10.out.trans (Fr.b0 b11) (fun _ h => h.elim))
     have O11 := Lib.hid (O10.out.fr0 (Fr.b0 b11))
     clear b11
     go_wp2_with fail
     refine (sbound_any s base S w11 O11.out.at_).mono ?_
     rintro r w12 ⟨rfl, rfl⟩
     go_wp2_with fail
     go_roundw
     case rel => exact ⟨k + 1, by omega, by go_num, by rw [HQ8.out.2]; exact H8.out.fr0 F11.out, B8.out.trans (F11.out.below_of hl8 (fun _ h => h.elim))⟩
     case measure => simp [intOf]; omega
  ·obtain rfl : k = n := by omega
   have e : l.take k = l := take_all (Nat.le_of_eq Hln.out)
   rw [e] at hs
   have hgk : StGood (stRun (stNewQ room (readV web8)) l) (8 * k) := by
    have h := stRun_good HG0.out l (by rw [Hln.out]; omega)
    rw [Hln.out, Nat.zero_add] at h
    exact h
   have hrk : (stRun (stNewQ room (readV web8)) l).room = room := by rw [stRun_room]; rfl
   obtain ⟨Qn, hQn⟩ : ∃ v, stRun (stNewQ room (readV web8)) l = v := ⟨_, rfl⟩
   rw [hQn] at hs hgk hrk
   have Gn := Lib.hid hgk
   have Hs := Lib.hid hs
   have Hb := Lib.hid hb
   have HSn := Lib.hid (sp_shadow2 hgk hs)
   have hl1 : w.heap.size ≤ wr.heap.size := by have := hs.lt; omega
   clear hs hb hgk e hQn
   cases hch : Qn.ch with
   | none =>
    go_wp2_with fail
    refine HSn.out.mono ?_
    rintro r w2 ⟨⟨hv, _⟩, b2⟩
    obtain rfl := hv hch
    have B2 := Lib.hid (Hb.out.trans (b2.mono hl1))
    clear hv b2
    go_wp2_with fail
    refine (HAl.out w2 (Fr.b0 B2.out)).mono ?_
    rintro r wz ⟨rfl, bz⟩
    have B3 := Lib.hid (B2.out.trans (bz.mono B2.out.size))
    go_wp2_with fail
    go_ret
    exact ⟨rfl, B3.out⟩
   | some S =>
    have hst := steps_in (Gn.out.ch S hch).pol
    have hd1 := (Gn.out.ch S hch).done
    have hd0 : 0 ≤ S.done := by
     obtain ⟨o, ho⟩ := (Gn.out.ch S hch).ok
     exact ho.d0
    have hsh : Hid (∀ t ∈ S.tiers, t.shards ≤ 8) := fun x hx => (check_mem (Gn.out.ch S hch).pol.ck hx).2.2.2.2.2
    have h5 := (Gn.out.ch S hch).pol.five
    have HRm := Lib.hid (RmI.start Gn.out hch)
    have HSt : Hid (∀ W s base, ShAt W s base S → ∃ A c B d, (W.cell? ⟨s, 0, none⟩ = some (.string S.name) ∧ W.cell? ⟨s, 1, none⟩ = some (.slice A S.tiers.length c) ∧ W.cell? ⟨s, 2, none⟩ = some (.slice B S.srcs.length d)) ∧ Calls Tryz.prog 29 #[.agg #[.string S.name, .slice A S.tiers.length c, .slice B S.srcs.length d]] W fun r w' => r = .returned (.int .i64 (stepsV S.tiers)) ∧ Below W.heap.size W w') := fun W s base h => by
     obtain ⟨A, c, B, d, h0, h1, h2, h3, _⟩ := h.plan
     exact ⟨A, c, B, d, ⟨h0, h1, h2⟩, steps_any S.name S.tiers A S.tiers.length c B S.srcs.length d W h3 (by omega) hsh.out⟩
    obtain ⟨d0, hd⟩ : ∃ d0 : Nat, S.done = (d0 : Int) := ⟨S.done.toNat, by omega⟩
    obtain ⟨st, hstn⟩ : ∃ st : Nat, stepsV S.tiers = (st : Int) := ⟨(stepsV S.tiers).toNat, by omega⟩
    rw [hd] at HRm hd1
    rw [hstn] at HSt hst hd1
    have Hstn := Lib.hid hstn
    have hst42 : st ≤ 42 := by omega
    have hd1n : d0 < st := by omega
    have HDn : Hid (∀ W s base, ShAt W s base S → Calls Tryz.prog 28 #[.pointer (some ⟨s, 0, none⟩)] W fun r w' => r = .returned (.int .i64 (d0 : Int)) ∧ W = w') := fun W s base h => by
     rw [← hd]
     exact sdone_any s base S W h
    clear hd0 h5 hd hst hd1 hstn
    obtain ⟨lt, hlt0⟩ : ∃ v, S.tiers = v := ⟨_, rfl⟩
    rw [hlt0] at HRm Hstn
    clear hlt0
    go_wp2_with fail
    refine HSn.out.mono ?_
    rintro r w2 ⟨⟨_, hv⟩, b2⟩
    obtain ⟨s, base, rfl, hx⟩ := hv S hch
    have HX := Lib.hid hx
    have B2 := Lib.hid (Hb.out.trans (b2.mono hl1))
    have HD2 := Lib.hid (HDn.out w2 s base hx.sh)
    clear hv b2 hx hch
    go_wp2_with fail
    refine HD2.out.mono ?_
    rintro r w3 ⟨rfl, rfl⟩
    go_wp2_with fail
    go_loopw [13] (fun i wx => ∃ (j cj : Nat) (Qj : StX), d0 ≤ j ∧ j ≤ st ∧ i = .int .i64 (j : Int) ∧ cj ≤ 8 * k + 16 * j ∧ Hid (RmI Qj lt (j : Int) ∧ Qj.room = room ∧ StGood Qj cj) ∧ StSh wx g w.heap.size Qj cj s base S ∧ Below w.heap.size w wx) (fun i _ => st - (intOf i).toNat)
    case atStart => exact ⟨d0, 8 * k, Qn, Nat.le_refl _, by omega, rfl, by omega, ⟨HRm.out, hrk, Gn.out⟩, HX.out, B2.out⟩
    case round =>
     obtain ⟨j, cj, Qj, hj0, hj1, rfl, hcj, hq, hx, hb⟩ := hrel
     have Hx := Lib.hid hx
     have Hb3 := Lib.hid hb
     obtain ⟨pA, pc, pB, pd, ⟨p0, p1, p2⟩, hcl⟩ := HSt.out wr s base hx.sh
     have Hcl := Lib.hid hcl
     have hlx := hx.lo_le
     clear hx hb hcl
     go_wp2_with fail
     refine Hcl.out.mono ?_
     rintro r w4 ⟨rfl, b4⟩
     have B4 := Lib.hid (Hb3.out.trans (b4.mono hlx))
     have X4 := Lib.hid (Hx.out.fr0 (Fr.b0 b4))
     clear p0 p1 p2 b4 Hcl Hx Hb3
     by_cases hjs : j < st
     ·have hstep := hq.out.1.step (by rw [Hstn.out]; omega)
      have hkw : IntKind.i64.wrap ((j : Int) + 1) = (j : Int) + 1 := by simp [IntKind.wrap, IntKind.signed, IntKind.bits]; omega
      by_cases hjm : j < m
      ·have hdm : decide ((j : Int) < (m : Int)) = true := decide_eq_true (by omega)
       obtain ⟨ad, z, rfl, hz, y0, y1, y2⟩ := (Hrb.out.below B4.out).samp_ hjm
       have hzw := Hwb.out z (mem_of_get hz)
       have HP := Lib.hid (StSh.put1 hq.out.2.2 (by omega) X4.out z 1 hzw)
       have hrm := Lib.hid (hq.out.1.put [z])
       have hgp := Lib.hid (hq.out.2.2.put (by omega) [z])
       have hrp : (stPut Qj [z]).room = room := (stPut_room Qj [z]).trans hq.out.2.1
       obtain ⟨Qp, hQp⟩ : ∃ v, stPut Qj [z] = v := ⟨_, rfl⟩
       rw [hQp] at HP hrm hgp hrp
       have Hrp := Lib.hid hrp
       clear hstep hz hzw hQp hrp
       go_wp2_with fail
       refine HP.out.mono ?_
       rintro r w5 ⟨⟨v5, rfl⟩, h5, b5⟩
       have B5 := Lib.hid (B4.out.trans b5)
       have X5 := Lib.hid h5
       clear h5 b5 y0 y1 y2 HP X4 B4
       have hs6 := hrm.out.step (show (j : Int) < stepsV lt by rw [Hstn.out]; omega)
       have hg6 := Lib.hid (hgp.out.step (by omega))
       have HSp : Hid (Calls Tryz.prog 23 #[.pointer (some ⟨g, 0, none⟩)] w5 fun r w' => (∃ a b c, r = .returned (.tuple #[.agg #[.int .i64 a, .int .i64 b, .int .i64 c], .int .i64 0])) ∧ StSh w' g w.heap.size (stStep Qp) (cj + 8) s base S ∧ Below w.heap.size w5 w') := by
        refine (StSh.step hgp.out (by omega) X5.out).mono ?_
        rintro r w' ⟨hr, h1, h2⟩
        rw [hs6.2] at hr
        exact ⟨⟨_, _, _, hr⟩, h1, h2⟩
       have hr6 : (stStep Qp).room = room := (stStep_room Qp).trans Hrp.out
       have hrm6 := Lib.hid hs6.1
       obtain ⟨Q6, hQ6⟩ : ∃ v, stStep Qp = v := ⟨_, rfl⟩
       rw [hQ6] at HSp hg6 hr6 hrm6
       have hn6 := need_room hg6.out
       rw [hr6] at hn6
       have hnd : decide (room < ((needX Q6.X : Nat) : Int) + boundO Q6.ch) = false := decide_eq_false (by omega)
       have hnd2 : ¬ room < ((needX Q6.X : Nat) : Int) + boundO Q6.ch := by omega
       have Hr6 := Lib.hid hr6
       clear hs6 hn6 hr6 hQ6 hgp hrm
       go_wp2_with fail
       refine HSp.out.mono ?_
       rintro r w6 ⟨⟨a, b, c, rfl⟩, h6, b6⟩
       have f7 : Fr (fun _ => False) w6 (w6.alloc (.cells #[.int .i64 a, .int .i64 b, .int .i64 c] 54)) := Fr.none_alloc _ _
       have X7 := Lib.hid (h6.fr0 f7)
       have hlo6 := h6.lo_le
       have B7 := Lib.hid (B5.out.trans (b6.trans (f7.below_of hlo6 (fun _ h => h.elim))))
       have HN7 := Lib.hid (sp_need (hg6.out.more (show cj + 8 + 8 ≤ cj + 16 by omega)) (by omega) (X7.out.more (show cj + 8 ≤ cj + 16 by omega)).p)
       have hlo7 := X7.out.lo_le
       clear h6 b6 f7 HSp X5 B5
       go_wp2_with fail
       refine HN7.out.mono ?_
       rintro r w8 ⟨rfl, b8⟩
       have X8 := Lib.hid (X7.out.fr0 (Fr.b0 b8))
       have B8 := Lib.hid (B7.out.trans (b8.mono hlo7))
       clear b8 X7 B7
       go_wp2_with fail
       go_roundw
       case rel => exact ⟨j + 1, cj + 16, Q6, by omega, by omega, by go_num, by omega, ⟨(by rw [show ((j + 1 : Nat) : Int) = (j : Int) + 1 by omega]; exact hrm6.out), Hr6.out, hg6.out.more (by omega)⟩, X8.out.more (by omega), B8.out⟩
       case measure => simp [intOf]; omega
      ·have hdm : decide ((j : Int) < (m : Int)) = false := decide_eq_false (by omega)
       have hrm := Lib.hid hq.out.1
       have hgp := Lib.hid (hq.out.2.2.more (show cj ≤ cj + 8 by omega))
       have Hrp := Lib.hid hq.out.2.1
       have X5 := Lib.hid (X4.out.more (show cj ≤ cj + 8 by omega))
       have B5 := B4
       obtain ⟨Qp, hQp⟩ : ∃ v, Qj = v := ⟨_, rfl⟩
       rw [hQp] at hrm hgp Hrp X5
       clear hstep X4 B4 hQp
       have hs6 := hrm.out.step (show (j : Int) < stepsV lt by rw [Hstn.out]; omega)
       have hg6 := Lib.hid (hgp.out.step (by omega))
       have HSp : Hid (Calls Tryz.prog 23 #[.pointer (some ⟨g, 0, none⟩)] w4 fun r w' => (∃ a b c, r = .returned (.tuple #[.agg #[.int .i64 a, .int .i64 b, .int .i64 c], .int .i64 0])) ∧ StSh w' g w.heap.size (stStep Qp) (cj + 8) s base S ∧ Below w.heap.size w4 w') := by
        refine (StSh.step hgp.out (by omega) X5.out).mono ?_
        rintro r w' ⟨hr, h1, h2⟩
        rw [hs6.2] at hr
        exact ⟨⟨_, _, _, hr⟩, h1, h2⟩
       have hr6 : (stStep Qp).room = room := (stStep_room Qp).trans Hrp.out
       have hrm6 := Lib.hid hs6.1
       obtain ⟨Q6, hQ6⟩ : ∃ v, stStep Qp = v := ⟨_, rfl⟩
       rw [hQ6] at HSp hg6 hr6 hrm6
       have hn6 := need_room hg6.out
       rw [hr6] at hn6
       have hnd : decide (room < ((needX Q6.X : Nat) : Int) + boundO Q6.ch) = false := decide_eq_false (by omega)
       have hnd2 : ¬ room < ((needX Q6.X : Nat) : Int) + boundO Q6.ch := by omega
       have Hr6 := Lib.hid hr6
       clear hs6 hn6 hr6 hQ6 hgp hrm
       go_wp2_with fail
       refine HSp.out.mono ?_
       rintro r w6 ⟨⟨a, b, c, rfl⟩, h6, b6⟩
       have f7 : Fr (fun _ => False) w6 (w6.alloc (.cells #[.int .i64 a, .int .i64 b, .int .i64 c] 54)) := Fr.none_alloc _ _
       have X7 := Lib.hid (h6.fr0 f7)
       have hlo6 := h6.lo_le
       have B7 := Lib.hid (B5.out.trans (b6.trans (f7.below_of hlo6 (fun _ h => h.elim))))
       have HN7 := Lib.hid (sp_need (hg6.out.more (show cj + 8 + 8 ≤ cj + 16 by omega)) (by omega) (X7.out.more (show cj + 8 ≤ cj + 16 by omega)).p)
       have hlo7 := X7.out.lo_le
       clear h6 b6 f7 HSp X5 B5
       go_wp2_with fail
       refine HN7.out.mono ?_
       rintro r w8 ⟨rfl, b8⟩
       have X8 := Lib.hid (X7.out.fr0 (Fr.b0 b8))
       have B8 := Lib.hid (B7.out.trans (b8.mono hlo7))
       clear b8 X7 B7
       go_wp2_with fail
       go_roundw
       case rel => exact ⟨j + 1, cj + 16, Q6, by omega, by omega, by go_num, by omega, ⟨(by rw [show ((j + 1 : Nat) : Int) = (j : Int) + 1 by omega]; exact hrm6.out), Hr6.out, hg6.out.more (by omega)⟩, X8.out.more (by omega), B8.out⟩
       case measure => simp [intOf]; omega
     ·obtain rfl : j = st := by omega
      have hoff : Qj.ch.isSome = false := by
       rw [hq.out.1.2.1 Hstn.out.symm]; rfl
      go_wp2_with fail
      refine (HAl.out w4 (Fr.b0 B4.out)).mono ?_
      rintro r w5 ⟨rfl, b5⟩
      have X5 := Lib.hid (X4.out.fr0 (Fr.b0 b5))
      have B5 := Lib.hid (B4.out.trans (b5.mono B4.out.size))
      have HP5 := Lib.hid (sp_pend X5.out.p)
      rw [hoff] at HP5
      clear b5 hoff
      go_wp2_with fail
      refine HP5.out.mono ?_
      rintro r w6 ⟨rfl, rfl⟩
      go_wp2_with fail
      go_ret
      exact ⟨rfl, B5.out⟩
end Go.Proofs.YtkfdgodngbinlaaGreatDoor
