/- Walks of package reach: Start, Cover, All. -/
import Derived.Test.YteajonicnkpbbaaGreatDoorBases
import Derived.Test.YteajonicnkpbbaaGreatDoorBase
import Derived.Test.YteajonicnkpbbaaGreatDoorSame
import Derived.Test.YteajonicnkpbbaaGreatDoorPolB
import Derived.Test.YteajonicnkpbbaaGreatDoorSegC
import Derived.Test.YteajonicnkpbbaaGreatDoorTk
namespace Go.Proofs.YteajonicnkpbbaaGreatDoor
set_option linter.all false
open Go.RowKit

def startV (now : Int) (l : List TierV) (fl : List Int) (i t : Int) : Int × Bool :=
 if 0 ≤ i ∧ i < (l.length : Int) ∧ 0 ≤ t then
  match l[i.toNat]? with
  | some x => (floorV t x.every, decide (fromI now l fl i ≤ floorV t x.every))
  | none => (0, false)
 else (0, false)
def fromsV (now : Int) (l : List TierV) (fl : List Int) : List Int := (List.range l.length).map fun k => fromV now l fl k
theorem fromsV_get {now : Int} {l : List TierV} {fl : List Int} {k : Nat} (h : k < l.length) : (fromsV now l fl)[k]? = some (fromV now l fl k) := by
 unfold fromsV
 rw [List.getElem?_map, List.getElem?_range h]
 rfl
set_option maxRecDepth 100000 in
set_option maxHeartbeats 4000000 in
theorem rall_any (now : Int) (hnow : i64 now) (nm : ByteArray) (l : List TierV) (A : Option Addr) (n c : Nat) (fl : List Int) (B : Option Addr) (m d : Nat) (w : World) (hr : Rd w 4 A n (tcells l)) (hf : Rd w 1 B m (ints fl)) (hwf : ∀ t ∈ l, t.wf) (hn : n ≤ 1099511627776) :
  Calls Tryz.prog 33 #[reachV now nm A n c B m d] w fun r w' => (∃ R cs, r = .returned (.slice R n cs) ∧ w'.ownsRow w.heap.size 3 1 (.slice R n cs) n (ints (fromsV now l fl))) ∧ Below w.heap.size w w' := by
 have HV : Hid (∀ (k : Nat), k < n → ∀ W, Fr (fun _ => False) w W → Calls Tryz.prog 110 #[.agg #[.int .i64 now, .string nm, .slice A n c, .slice B m d], .int .i64 k] W fun r w'' => r = .returned (.int .i64 (fromV now l fl k)) ∧ Below W.heap.size W w'') := fun k hk W h => rfrom_any now hnow nm l A n c fl B m d k W (hr.fr0 h) (hf.fr0 h) hwf hk hn
 unfold reachV
 have HI : Hid (∀ (i : Int) W, Fr (fun _ => False) w W → Calls Tryz.prog 110 #[.agg #[.int .i64 now, .string nm, .slice A n c, .slice B m d], .int .i64 i] W fun r w'' => r = .returned (.int .i64 (fromI now l fl i)) ∧ Below W.heap.size W w'') := fun i W h => fromI_any now hnow nm l A n c fl B m d i W (hr.fr0 h) (hf.fr0 h) hwf hn
 have HIs : Hid (∀ (i : Int) W, Calls Tryz.prog 165 #[.agg #[.int .i64 now, .string nm, .slice A n c, .slice B m d], .int .i64 i] W fun r w'' => r = .returned (.bool (decide (0 ≤ i) && decide (i < n))) ∧ Below W.heap.size W w'') := fun i W => is_any now nm A n c B m d i W
 have Hr := Lib.hid hr
 have Hlen := Lib.hid hr.tiers_len
 have Hwf := Lib.hid hwf
 obtain ⟨W1, hW1⟩ : ∃ W1, W1 = w.alloc (.cells #[.int .i64 now, .string nm, .slice A n c, .slice B m d] 84) := ⟨_, rfl⟩
 have HW1 := Lib.hid hW1
 have B1 : Hid (Blk W1 w.heap.size 84 #[.int .i64 now, .string nm, .slice A n c, .slice B m d]) := hW1 ▸ Blk.new _ _ _
 have F1 : Hid (Fr (fun _ => False) w W1) := by show Fr _ _ _; rw [hW1]; exact Fr.none_alloc _ _
 have O1 : Hid (Own w W1 (fun _ => False)) := by show Own _ _ _; rw [hW1]; exact (Own.start w).skip (Fr.none_alloc _ _)
 clear hW1 hr hf hwf HI HIs
 obtain ⟨i0, hi, hz0, hz1, hz2⟩ := info_parts info_int
 go_enter Tryz.func33, Tryz.ntmps33
 go_wp2_with fail
 rw [← HW1.out]
 go_loopw [3, 9] (fun o i wr => ∃ (k : Nat) (R : Option Addr) (cs : Nat), k ≤ n ∧ i = .int .i64 k ∧ o = .slice R k cs ∧ wr.ownsRow w.heap.size 3 1 (.slice R k cs) k (ints ((fromsV now l fl).take k)) ∧ Blk wr w.heap.size 84 #[.int .i64 now, .string nm, .slice A n c, .slice B m d] ∧ Own w wr (rowF (.slice R k cs))) (fun _ i _ => n - (intOf i).toNat)
 case atStart => exact ⟨0, none, 0, Nat.zero_le _, rfl, rfl, World.ownsRow_nil _ _ _ _, B1.out, O1.out.also (fun k hk => by cases hk)⟩
 case round =>
  obtain ⟨k, R, cs, hk, rfl, rfl, hrow, hb2, ho⟩ := hrel
  have B2 := Lib.hid hb2
  have Hrow := Lib.hid hrow
  have Ho := Lib.hid ho
  clear hb2 hrow ho
  have a0 := B2.out.cell 0
  have a1 := B2.out.cell 1
  have a2 := B2.out.cell 2
  have a3 := B2.out.cell 3
  simp only [List.getElem?_toArray, List.getElem?_cons_succ, List.getElem?_cons_zero] at a0 a1 a2 a3
  by_cases hlt : k < n
  ·have HVk := Lib.hid (HV.out k hlt wr (Fr.b0 Ho.out.bel))
   have Hget := Lib.hid (fromsV_get (now := now) (fl := fl) (show k < l.length by rw [Hlen.out]; exact hlt))
   obtain ⟨fv, hfv⟩ : ∃ fv, fromV now l fl k = fv := ⟨_, rfl⟩
   rw [hfv] at HVk Hget
   have hw0 := Ho.out.bel.size
   clear hfv
   go_wp2_with fail
   refine HVk.out.mono ?_
   rintro r w3 ⟨rfl, b3⟩
   have Hrow3 := Lib.hid (own_fr0 Hrow.out (Fr.b0 b3))
   have B3 := Lib.hid (B2.out.below b3)
   have O3 := Lib.hid (Ho.out.skip (Fr.b0 b3))
   have hw3 : w.heap.size ≤ w3.heap.size := Nat.le_trans hw0 b3.size
   clear b3 a0 a1 a2 a3
   go_wp2_with (at_builtin; refine wpList_app2 rfl _ _ 26 rfl 3 i0 _ 1 8 Tryz.underlying26 hi hz0 hz1 hz2 rfl (by decide) (.slice R k cs) k _ rfl w.heap.size (by simp; omega) (own_fr0 Hrow3.out (Fr.none_alloc _ _)) (some ⟨w3.heap.size, 0, none⟩) 1 1 [.int .i64 fv] rfl (Rd.newS (by simp) _ _ _ _ rfl) (by simp [Value.oneCell']) ?q1 ?q2 ?_)
   case q1 => unfold maxLen; omega
   case q2 => omega
   intro R6 c6 w6 ho6 hm6 _
   have Ho6 := Lib.hid ho6
   have B6 := Lib.hid ((B3.out.alloc _).fr hm6.fr (own_blk_ne Hrow3.out B3.out (by decide)))
   have O6 := Lib.hid ((O3.out.skip (Fr.none_alloc _ _)).mv hm6)
   clear ho6 hm6
   go_wp2
   go_roundw
   case rel =>
    refine ⟨k + 1, R6, c6, by omega, by go_num, rfl, ?_, B6.out, O6.out⟩
    have h := Ho6.out
    rw [take_snoc Hget.out]
    unfold ints at h ⊢
    rw [List.map_append]
    exact h
   case measure => simp [intOf]; omega
  ·obtain rfl : k = n := by omega
   have hl : (fromsV now l fl).take k = fromsV now l fl := take_all (by unfold fromsV; rw [List.length_map, List.length_range, Hlen.out]; exact Nat.le_refl _)
   rw [hl] at Hrow
   clear hl
   go_wp2_with fail
   go_ret
   exact ⟨⟨R, cs, rfl, Hrow.out⟩, Ho.out.bel⟩
end Go.Proofs.YteajonicnkpbbaaGreatDoor
namespace Go.Proofs.YteajonicnkpbbaaGreatDoor
set_option linter.all false
open Go.RowKit

def takesV (now : Int) (l : List TierV) (fl : List Int) (s : SampV) : Int :=
 if validB s.name = true ∧ 0 ≤ s.time then
  if now < s.time then 25 else if 0 < l.length ∧ fromI now l fl 0 ≤ s.time then 0 else 24
 else 1
end Go.Proofs.YteajonicnkpbbaaGreatDoor
namespace Go.Proofs.YteajonicnkpbbaaGreatDoor
set_option linter.all false
open Go.RowKit

structure EntV where
 id : Int
 tier : Int
 shard : Int
 place : Int
 of_ : Int
 ba : Option Addr
 bn : Nat
 bc : Nat
 bl : List Int
def EntV.cells (x : EntV) : List Value := [.int .u64 x.id, .int .i64 x.tier, .int .i64 x.shard, .int .i64 x.place, .int .i64 x.of_, .slice x.ba x.bn x.bc]
def EntV.val (x : EntV) : Value := .agg #[.int .u64 x.id, .int .i64 x.tier, .int .i64 x.shard, .int .i64 x.place, .int .i64 x.of_, .slice x.ba x.bn x.bc]
def encells (l : List EntV) : List Value := l.flatMap EntV.cells
theorem ent_len (x : EntV) : x.cells.length = 6 := rfl
structure EntV.ok (w : World) (x : EntV) : Prop where
 id : 0 ≤ x.id ∧ x.id < 18446744073709551616
 tier : in64 x.tier
 shard : in64 x.shard
 place : in64 x.place
 of_ : in64 x.of_
 b : Rd w 1 x.ba x.bn (ints x.bl)
 blen : x.bl.length = x.bn
 ble : x.bn ≤ x.bc
 bmax : x.bc ≤ maxLen
 bwf : ∀ y ∈ x.bl, in64 y
theorem EntV.ok.fr0 {w w' : World} {x : EntV} (h : x.ok w) (f : Fr (fun _ => False) w w') : x.ok w' := ⟨h.id, h.tier, h.shard, h.place, h.of_, h.b.fr0 f, h.blen, h.ble, h.bmax, h.bwf⟩
theorem Rd.ent {w : World} {n k : Nat} {A : Option Addr} {l : List EntV} (h : Rd w 6 A n (encells l)) (hk : k < n) :
  ∃ ad x, A = some ad ∧ l[k]? = some x ∧ w.cell? (ad.add (k * 6)) = some (.int .u64 x.id) ∧ w.cell? ⟨(ad.add (k * 6)).block, (ad.add (k * 6)).off + 1, none⟩ = some (.int .i64 x.tier) ∧ w.cell? ⟨(ad.add (k * 6)).block, (ad.add (k * 6)).off + 2, none⟩ = some (.int .i64 x.shard) ∧ w.cell? ⟨(ad.add (k * 6)).block, (ad.add (k * 6)).off + 3, none⟩ = some (.int .i64 x.place) ∧ w.cell? ⟨(ad.add (k * 6)).block, (ad.add (k * 6)).off + 4, none⟩ = some (.int .i64 x.of_) ∧ w.cell? ⟨(ad.add (k * 6)).block, (ad.add (k * 6)).off + 5, none⟩ = some (.slice x.ba x.bn x.bc) := by
 obtain ⟨ad, s, e, hr, hc⟩ := Rd.elem ent_len h hk (by decide)
 refine ⟨ad, s, e, hr, ?_, ?_, ?_, ?_, ?_, ?_⟩
 ·have := hc 0 _ rfl; rwa [addr_zero] at this
 ·have := hc 1 _ rfl; rwa [add_pos _ _ (by decide)] at this
 ·have := hc 2 _ rfl; rwa [add_pos _ _ (by decide)] at this
 ·have := hc 3 _ rfl; rwa [add_pos _ _ (by decide)] at this
 ·have := hc 4 _ rfl; rwa [add_pos _ _ (by decide)] at this
 ·have := hc 5 _ rfl; rwa [add_pos _ _ (by decide)] at this
structure CatV where
 gen : Int
 id : Int
 now : Int
 nm : ByteArray
 pl : List TierV
 fl : List Int
 nm2 : ByteArray
 pl2 : List TierV
 src : List Int
 bound : Int
 done : Int
 es : List EntV
structure CatA where
 pA : Option Addr
 pn : Nat
 pc : Nat
 fA : Option Addr
 fn : Nat
 fc : Nat
 tA : Option Addr
 tn : Nat
 tc : Nat
 sA : Option Addr
 sn : Nat
 sc : Nat
 eA : Option Addr
 en : Nat
 ec : Nat
def catCells (c : CatV) (a : CatA) : Array Value := #[.int .u64 c.gen, .int .u64 c.id, .int .i64 c.now, .string c.nm, .slice a.pA a.pn a.pc, .slice a.fA a.fn a.fc, .string c.nm2, .slice a.tA a.tn a.tc, .slice a.sA a.sn a.sc, .int .i64 c.bound, .int .i64 c.done, .slice a.eA a.en a.ec]
structure CatIn (w : World) (c : CatV) (a : CatA) : Prop where
 gen : 0 ≤ c.gen ∧ c.gen < 18446744073709551616
 id : 0 ≤ c.id ∧ c.id < 18446744073709551616
 now : in64 c.now
 bound : in64 c.bound
 done : in64 c.done
 nm : c.nm.size ≤ maxLen
 nm2 : c.nm2.size ≤ maxLen
 rp : Rd w 4 a.pA a.pn (tcells c.pl)
 rf : Rd w 1 a.fA a.fn (ints c.fl)
 rt : Rd w 4 a.tA a.tn (tcells c.pl2)
 rs : Rd w 1 a.sA a.sn (ints c.src)
 re : Rd w 6 a.eA a.en (encells c.es)
 lp : c.pl.length = a.pn
 lf : c.fl.length = a.fn
 lt : c.pl2.length = a.tn
 ls : c.src.length = a.sn
 le : c.es.length = a.en
 cp : a.pn ≤ a.pc ∧ a.pc ≤ maxLen
 cf : a.fn ≤ a.fc ∧ a.fc ≤ maxLen
 ct : a.tn ≤ a.tc ∧ a.tc ≤ maxLen
 cs : a.sn ≤ a.sc ∧ a.sc ≤ maxLen
 ce : a.en ≤ a.ec ∧ a.ec ≤ maxLen
 wp : ∀ t ∈ c.pl, t.wf
 wt : ∀ t ∈ c.pl2, t.wf
 wf : ∀ x ∈ c.fl, in64 x
 ws : ∀ x ∈ c.src, in64 x
 we : ∀ x ∈ c.es, x.ok w
theorem CatIn.fr0 {w w' : World} {c : CatV} {a : CatA} (h : CatIn w c a) (f : Fr (fun _ => False) w w') : CatIn w' c a :=
 ⟨h.gen, h.id, h.now, h.bound, h.done, h.nm, h.nm2, h.rp.fr0 f, h.rf.fr0 f, h.rt.fr0 f, h.rs.fr0 f, h.re.fr0 f, h.lp, h.lf, h.lt, h.ls, h.le, h.cp, h.cf, h.ct, h.cs, h.ce, h.wp, h.wt, h.wf, h.ws, fun x hx => (h.we x hx).fr0 f⟩
def inB (n most : Int) : Bool := decide (0 ≤ n) && decide (n ≤ most)
def pendB (c : CatV) : Bool := !decide (c.nm2.size = 0) || decide (0 < c.pl2.length)
def plainB (c : CatV) : Bool := (!decide (c.gen = 0) && (inB c.now 1099511627776 && (checkB c.nm c.pl && decide (c.fl.length = c.pl.length)))) && c.fl.all (fun f => inB f 4611686018427387904)
def changeB (c : CatV) : Bool :=
 if pendB c = true then c.src.all (fun s => inB s ((c.pl.length : Int) - 1)) && (checkB c.nm2 c.pl2 && (decide (c.src.length = c.pl2.length) && (inB c.bound 4096 && inB c.done 100)))
 else decide (c.bound = 0) && (decide (c.done = 0) && decide (c.src.length = 0))
def entryB (cid : Int) (x : EntV) : Bool :=
 x.bl.all (fun b => inB b 4095) && ((inB x.tier 9 && (inB x.shard 7 && (decide (1 ≤ x.id) && decide (x.id ≤ cid)))) && (decide (x.place = 0) && (decide (x.of_ = x.bl.length) && (decide (1 ≤ x.of_) && decide (x.of_ ≤ 4096)))))
def placesOf (l : List EntV) : List (Int × Int) := l.map fun x => (x.tier, x.shard)
def blocksOf (l : List EntV) : List Int := l.flatMap EntV.bl
def catB (c : CatV) : Bool := plainB c && (changeB c && (decide (c.es.length ≤ 90) && (c.es.all (entryB c.id) && (decide (placesOf c.es).Nodup && decide (blocksOf c.es).Nodup))))
end Go.Proofs.YteajonicnkpbbaaGreatDoor
