/- Walks of sedimentbook.Few, Some. -/
import Derived.Test.YtbblmmneeafhgaaGreatSame
namespace Go.Proofs.YtbblmmneeafhgaaGreat
set_option linter.all false
open Go.RowKit

def FewR (few n : Nat) (r : Ending) : Prop := ∃ b, r = .returned (.bool b) ∧ (b = true → n ≤ few)

theorem few_any (few : Nat) (hfew : few ≤ 1000000) (l : List RecV) (hl : ∀ r ∈ l, r.name.size ≤ maxLen) (A : Option Addr) (n c : Nat) (w : World) (hr : Rd w 7 A n (rcells l)) (hn : n ≤ 9223372036854775807) :
  Calls Tryz.prog 38 #[.int .i64 few, .slice A n c] w fun r w' => FewR few n r ∧ w = w' := by
 have Hr := Lib.hid hr
 have Hl := Lib.hid (fun (r : RecV) (h : r ∈ l) => show (r.name.size : Int) ≤ 9223372036854775807 by have := hl r h; unfold maxLen at this; omega)
 clear hr hl
 go_enter Tryz.func38, Tryz.ntmps38
 go_wp2_with fail
 go_loop [5] (fun i => ∃ k : Nat, k ≤ n ∧ k ≤ few ∧ i = .int .i64 k) (fun i => n - (intOf i).toNat)
 case atStart => exact ⟨0, Nat.zero_le _, Nat.zero_le _, rfl⟩
 case round =>
  obtain ⟨k, hk, hk2, rfl⟩ := hrel
  by_cases hlt : k < n
  ·by_cases hlf : k < few
   ·obtain ⟨ad, r, rfl, hu, d0, d1, d2, d3, d4, d5, d6⟩ := Hr.out.rec_ hlt
    have hsz := Hl.out r (mem_of_get hu)
    clear hu
    by_cases h60 : 60 < (r.name.size : Int)
    ·go_wp2_with fail
     go_ret
     exact ⟨⟨false, rfl, by simp⟩, rfl⟩
    ·go_wp2
     go_round
     case rel => exact ⟨k + 1, by omega, by omega, by go_num⟩
     case measure => simp [intOf]; omega
   ·have hd : ((n : Int) ≤ (few : Int)) = False := by simp; omega
    have hfl : ¬ (k : Int) < (few : Int) := by omega
    have hfd : decide ((k : Int) < (few : Int)) = false := decide_eq_false hfl
    have hfn : decide (k < few) = false := decide_eq_false hlf
    go_wp2_with fail
    go_ret
    exact ⟨⟨false, by simp [*] <;> omega, by simp⟩, rfl⟩
  ·obtain rfl : k = n := by omega
   have hkd : decide (k < k) = false := by simp
   go_wp2_with fail
   go_ret
   exact ⟨⟨true, by simp [*] <;> omega, fun _ => hk2⟩, rfl⟩

theorem some_any (few : Nat) (hfew : few ≤ 1000000) (l : List SampV) (hl : ∀ r ∈ l, r.name.size ≤ maxLen) (A : Option Addr) (n c : Nat) (w : World) (hr : Rd w 3 A n (scells l)) (hn : n ≤ 9223372036854775807) :
  Calls Tryz.prog 37 #[.int .i64 few, .slice A n c] w fun r w' => FewR few n r ∧ w = w' := by
 have Hr := Lib.hid hr
 have Hl := Lib.hid (fun (r : SampV) (h : r ∈ l) => show (r.name.size : Int) ≤ 9223372036854775807 by have := hl r h; unfold maxLen at this; omega)
 clear hr hl
 go_enter Tryz.func37, Tryz.ntmps37
 go_wp2_with fail
 go_loop [5] (fun i => ∃ k : Nat, k ≤ n ∧ k ≤ few ∧ i = .int .i64 k) (fun i => n - (intOf i).toNat)
 case atStart => exact ⟨0, Nat.zero_le _, Nat.zero_le _, rfl⟩
 case round =>
  obtain ⟨k, hk, hk2, rfl⟩ := hrel
  by_cases hlt : k < n
  ·by_cases hlf : k < few
   ·obtain ⟨ad, r, rfl, hu, d0, d1, d2⟩ := Hr.out.samp_ hlt
    have hsz := Hl.out r (mem_of_get hu)
    clear hu
    by_cases h60 : 60 < (r.name.size : Int)
    ·go_wp2_with fail
     go_ret
     exact ⟨⟨false, rfl, by simp⟩, rfl⟩
    ·go_wp2
     go_round
     case rel => exact ⟨k + 1, by omega, by omega, by go_num⟩
     case measure => simp [intOf]; omega
   ·have hd : ((n : Int) ≤ (few : Int)) = False := by simp; omega
    have hfl : ¬ (k : Int) < (few : Int) := by omega
    have hfd : decide ((k : Int) < (few : Int)) = false := decide_eq_false hfl
    have hfn : decide (k < few) = false := decide_eq_false hlf
    go_wp2_with fail
    go_ret
    exact ⟨⟨false, by simp [*] <;> omega, by simp⟩, rfl⟩
  ·obtain rfl : k = n := by omega
   have hkd : decide (k < k) = false := by simp
   go_wp2_with fail
   go_ret
   exact ⟨⟨true, by simp [*] <;> omega, fun _ => hk2⟩, rfl⟩
end Go.Proofs.YtbblmmneeafhgaaGreat
namespace Go.Proofs.YtbblmmneeafhgaaGreat
set_option linter.all false
open Go.RowKit

structure OpC where
 kind : Int
 n : Int
 sa : Option Addr
 sn : Nat
 sc : Nat
 sl : List SampV
 la : Option Addr
 ln : Nat
 lc : Nat
 ll : List RecV
def OpC.cells (o : OpC) : List Value := [.int .i64 o.kind, .int .i64 o.n, .slice o.sa o.sn o.sc, .slice o.la o.ln o.lc]
def OpC.val (o : OpC) : Value := .agg #[.int .i64 o.kind, .int .i64 o.n, .slice o.sa o.sn o.sc, .slice o.la o.ln o.lc]
def opcells (l : List OpC) : List Value := l.flatMap OpC.cells
structure OpC.ok (w : World) (o : OpC) : Prop where
 kind : -9223372036854775808 ≤ o.kind ∧ o.kind ≤ 9223372036854775807
 n : -9223372036854775808 ≤ o.n ∧ o.n ≤ 9223372036854775807
 s : Rd w 3 o.sa o.sn (scells o.sl)
 slen : o.sl.length = o.sn
 sle : o.sn ≤ o.sc
 smax : o.sc ≤ maxLen
 swf : ∀ x ∈ o.sl, x.wf
 l : Rd w 7 o.la o.ln (rcells o.ll)
 llen : o.ll.length = o.ln
 lle : o.ln ≤ o.lc
 lmax : o.lc ≤ maxLen
 lwf : ∀ x ∈ o.ll, x.wf
theorem opc_len (o : OpC) : o.cells.length = 4 := rfl
theorem OpC.ok.below {w w' : World} {o : OpC} (h : o.ok w) (b : Below w.heap.size w w') : o.ok w' := ⟨h.kind, h.n, h.s.below b, h.slen, h.sle, h.smax, h.swf, h.l.below b, h.llen, h.lle, h.lmax, h.lwf⟩
theorem Rd.op_ {w : World} {n k : Nat} {A : Option Addr} {l : List OpC} (h : Rd w 4 A n (opcells l)) (hk : k < n) :
  ∃ ad o, A = some ad ∧ l[k]? = some o ∧ w.cell? (ad.add (k * 4)) = some (.int .i64 o.kind) ∧ w.cell? ⟨(ad.add (k * 4)).block, (ad.add (k * 4)).off + 1, none⟩ = some (.int .i64 o.n) ∧ w.cell? ⟨(ad.add (k * 4)).block, (ad.add (k * 4)).off + 2, none⟩ = some (.slice o.sa o.sn o.sc) ∧ w.cell? ⟨(ad.add (k * 4)).block, (ad.add (k * 4)).off + 3, none⟩ = some (.slice o.la o.ln o.lc) := by
 obtain ⟨ad, s, e, hr, hc⟩ := Rd.elem opc_len h hk (by decide)
 refine ⟨ad, s, e, hr, ?_, ?_, ?_, ?_⟩
 ·have := hc 0 _ rfl; rwa [addr_zero] at this
 ·have := hc 1 _ rfl; rwa [add_pos _ _ (by decide)] at this
 ·have := hc 2 _ rfl; rwa [add_pos _ _ (by decide)] at this
 ·have := hc 3 _ rfl; rwa [add_pos _ _ (by decide)] at this
theorem Rd.ops_len {w : World} {n : Nat} {A : Option Addr} {l : List OpC} (h : Rd w 4 A n (opcells l)) : l.length = n := Rd.elems_len opc_len (by decide) h
end Go.Proofs.YtbblmmneeafhgaaGreat
namespace Go.Proofs.YtbblmmneeafhgaaGreat
set_option linter.all false
open Go.RowKit

def LightR2 (l : List OpC) (n : Nat) (r : Ending) : Prop := ∃ b, r = .returned (.bool b) ∧ (b = true → n ≤ 50 ∧ ∀ o ∈ l, o.sn ≤ 20 ∧ o.ln ≤ 20)
set_option maxRecDepth 100000 in
set_option maxHeartbeats 4000000 in
theorem light2_any (l : List OpC) (A : Option Addr) (n c : Nat) (w : World) (hr : Rd w 4 A n (opcells l)) (hok : ∀ o ∈ l, o.ok w) (hn : n ≤ 9223372036854775807) :
  Calls Tryz.prog 6 #[.slice A n c] w fun r w' => LightR2 l n r ∧ w = w' := by
 have Hr := Lib.hid hr
 have Hln := Lib.hid hr.ops_len
 have HSo : Hid (∀ o ∈ l, Calls Tryz.prog 37 #[.int .i64 20, .slice o.sa o.sn o.sc] w fun r w' => FewR 20 o.sn r ∧ w = w') := fun o h => some_any 20 (by omega) o.sl (fun y hy => ((hok o h).swf y hy).2.2) o.sa o.sn o.sc w (hok o h).s (by have h1 := (hok o h).sle; have h2 := (hok o h).smax; unfold maxLen at h2; omega)
 have HFe : Hid (∀ o ∈ l, Calls Tryz.prog 38 #[.int .i64 20, .slice o.la o.ln o.lc] w fun r w' => FewR 20 o.ln r ∧ w = w') := fun o h => few_any 20 (by omega) o.ll (fun y hy => ((hok o h).lwf y hy).2.2) o.la o.ln o.lc w (hok o h).l (by have h1 := (hok o h).lle; have h2 := (hok o h).lmax; unfold maxLen at h2; omega)
 clear hr hok
 go_enter Tryz.func6, Tryz.ntmps6
 go_wp2_with fail
 go_loop [3] (fun i => ∃ k : Nat, k ≤ n ∧ k ≤ 200 ∧ i = .int .i64 k ∧ ∀ j o, j < k → l[j]? = some o → o.sn ≤ 20 ∧ o.ln ≤ 20) (fun i => n - (intOf i).toNat)
 case atStart => exact ⟨0, Nat.zero_le _, Nat.zero_le _, rfl, fun j _ h => absurd h (Nat.not_lt_zero _)⟩
 case round =>
  obtain ⟨k, hk, hk2, rfl, hall⟩ := hrel
  have Hall := Lib.hid hall
  clear hall
  by_cases hlt : k < n
  ·have hd : decide (k < n) = true := decide_eq_true hlt
   by_cases hl2 : k < 200
   ·have hd2 : decide (k < 200) = true := decide_eq_true hl2
    obtain ⟨ad, o, rfl, ho, a0, a1, a2, a3⟩ := Hr.out.op_ hlt
    have H1 := Lib.hid (HSo.out o (mem_of_get ho))
    have H2 := Lib.hid (HFe.out o (mem_of_get ho))
    have hkw : IntKind.i64.wrap ((k : Int) + 1) = (k : Int) + 1 := by simp [IntKind.wrap, IntKind.signed, IntKind.bits]; omega
    have Ho := Lib.hid ho
    clear ho
    go_wp2_with fail
    refine H1.out.mono ?_
    rintro r w1 ⟨⟨b, rfl, hb⟩, rfl⟩
    have Hb1 := Lib.hid hb
    clear hb H1
    cases b with
    | false =>
     go_wp2_with fail
     go_ret
     exact ⟨⟨false, rfl, by simp⟩, rfl⟩
    | true =>
     go_wp2_with fail
     refine H2.out.mono ?_
     rintro r w1 ⟨⟨b, rfl, hb⟩, rfl⟩
     have Hb2 := Lib.hid hb
     clear hb H2
     cases b with
     | false =>
      go_wp2_with fail
      go_ret
      exact ⟨⟨false, rfl, by simp⟩, rfl⟩
     | true =>
      go_wp2_with fail
      go_round
      case rel => exact ⟨k + 1, by omega, by omega, by go_num, fun j o' hj h => by
       by_cases e : j = k
       ·subst e
        rw [Ho.out] at h
        cases h
        exact ⟨Hb1.out (by trivial), Hb2.out (by trivial)⟩
       ·exact Hall.out j o' (by omega) h⟩
      case measure => simp [intOf]; omega
   ·obtain rfl : k = 200 := by omega
    have hd5 : decide ((n : Int) ≤ 50) = false := decide_eq_false (by omega)
    have hd6 : ¬ (n : Int) ≤ 50 := by omega
    go_wp2_with fail
    go_ret
    exact ⟨⟨false, by first | rfl | simp [*], by simp⟩, rfl⟩
  ·obtain rfl : k = n := by omega
   by_cases h50 : k ≤ 50
   ·have hd5 : decide ((k : Int) ≤ 50) = true := decide_eq_true (by omega)
    have hd6 : (k : Int) ≤ 50 := by omega
    go_wp2_with fail
    go_ret
    exact ⟨⟨true, by first | rfl | simp [*], fun _ => ⟨h50, fun o ho => by
     obtain ⟨j, hj⟩ := List.getElem?_of_mem ho
     exact Hall.out j o (by have := (List.getElem?_eq_some_iff.1 hj).1; rw [Hln.out] at this; exact this) hj⟩⟩, rfl⟩
   ·have hd5 : decide ((k : Int) ≤ 50) = false := decide_eq_false (by omega)
    have hd6 : ¬ (k : Int) ≤ 50 := by omega
    go_wp2_with fail
    go_ret
    exact ⟨⟨false, by first | rfl | simp [*], by simp⟩, rfl⟩
end Go.Proofs.YtbblmmneeafhgaaGreat
