/- Walks of package reach: Start, Cover, All. -/
import Derived.Test.YtjhhodndlkpmhaaGreatDoorBases
import Derived.Test.YtjhhodndlkpmhaaGreatDoorSegC
namespace Go.Proofs.YtjhhodndlkpmhaaGreatDoor
set_option linter.all false
set_option maxHeartbeats 4000000
set_option maxRecDepth 100000
open Go.RowKit Tryz
def zbW(now:Int)(l:List za_)(fl:List Int)(i t:Int):Int×Bool:=
 if 0≤i∧i<(l.length:Int)∧0≤t then
  match l[i.toNat]? with
  | some x=>(zaq t x.every,decide (zcg now l fl i≤zaq t x.every))
  | none=>(0,false)
 else (0,false)
theorem znX(now:Int)(hnow:i64 now)(nm:ByteArray)(l:List za_)(A:Option Addr)(n c:Nat)(fl:List Int)(B:Option Addr)(m d:Nat)(i t:Int)(ht:i64 t)(w:World)(hr:Rd w 4 A n (zah l))(hf:Rd w 1 B m (zbg fl))(hwf:∀ t∈l,t.wf)(hn:n≤1099511627776):
  Calls prog 88 #[zbL now nm A n c B m d,.int .i64 i,.int .i64 t] w fun r w'=>r=.returned (.tuple #[.int .i64 (zbW now l fl i t).1,.bool (zbW now l fl i t).2])∧Below w.heap.size w w':=by
 unfold zbL;have HI:Hid (∀ (i:Int) W,Fr (fun _=>False) w W→Calls prog 84 #[.agg #[.int .i64 now,.string nm,.slice A n c,.slice B m d],.int .i64 i] W fun r w''=>r=.returned (.int .i64 (zcg now l fl i))∧Below W.heap.size W w''):=fun i W h=>zcE now hnow nm l A n c fl B m d i W (hr.fr0 h) (hf.fr0 h) hwf hn;have HIs:Hid (∀ (i:Int) W,Calls prog 130 #[.agg #[.int .i64 now,.string nm,.slice A n c,.slice B m d],.int .i64 i] W fun r w''=>r=.returned (.bool (decide (0≤i)&&decide (i<n)))∧Below W.heap.size W w''):=fun i W=>zjt now nm A n c B m d i W;have Hr:=q0_ hr;have Hlen:=q0_ hr.tiers_len;have Hwf:=q0_ hwf
 obtain⟨W1,hW1⟩:∃ W1,W1=w.alloc (.cells #[.int .i64 now,.string nm,.slice A n c,.slice B m d] 66):=⟨_,rfl⟩
 have HW1:=q0_ hW1;have B1:Hid (Blk W1 w.heap.size 66 #[.int .i64 now,.string nm,.slice A n c,.slice B m d]):=hW1▸Blk.new _ _ _
 have F1:Hid (Fr (fun _=>False) w W1):=by show Fr _ _ _;rw[hW1];exact Fr.none_alloc _ _
 clear hW1 hr hf hwf;unfold zbW;rw[Hlen.out]
 by_cases hi:0≤i∧i<(n:Int)
 ·have hib:(decide (0≤i)&&decide (i<(n:Int)))=true:=by simp[hi.1,hi.2]
  by_cases h0:0≤t
  ·have h0d:decide (t<0)=false:=q9_ (by omega)
   rw[if_pos ⟨hi.1,hi.2,h0⟩];obtain⟨k,rfl⟩:=Int.eq_ofNat_of_zero_le hi.1
   have hkn:k<n:=by omega
   obtain⟨ad,x,rfl,hx,e0,e1,e2,e3⟩:=(Hr.out.fr0 F1.out).tier hkn;have HIk:=q0_ (HI.out (k:Int));have hxw:=Hwf.out x (zab hx);unfold i64 at ht;have HF:Hid (∀ W,Calls prog 91 #[.int .i64 t,.int .i64 x.every] W fun r w'=>r=.returned (.int .i64 (zaq t x.every))∧W=w'):=fun W=>zeU t x.every ht.1 ht.2 hxw.1.1 hxw.1.2 W;rw[Int.toNat_natCast,hx];simp only
   obtain⟨fv,hfv⟩:∃ fv,zaq t x.every=fv:=⟨_,rfl⟩
   obtain⟨gv,hgv⟩:∃ gv,zcg now l fl (k:Int)=gv:=⟨_,rfl⟩
   rw[hfv] at HF ⊢;rw[hgv] at HIk ⊢;have HIb:=q0_ (HIs.out (k:Int));rw[hib] at HIb;have E1:=q0_ e1;clear hfv hgv hx hxw e0 e1 e2 e3 HI HIs;go_enter func88,ntmps88;have a0:=B1.out.cell 0;have a1:=B1.out.cell 1;have a2:=B1.out.cell 2;have a3:=B1.out.cell 3;simp only[q1_,q2_,q3_] at a0 a1 a2 a3;go_wp2_with fail;rw[← HW1.out];refine (HIb.out W1).mono ?_;rintro r w2 ⟨rfl,b2⟩;have F2:=q0_ (Fr.b0 b2);have B2:=q0_ (B1.out.below b2);have e1:=F2.out.cell E1.out (fun h=>h);clear a0 a1 a2 a3 b2;have a0:=B2.out.cell 0;have a1:=B2.out.cell 1;have a2:=B2.out.cell 2;have a3:=B2.out.cell 3;simp only[q1_,q2_,q3_] at a0 a1 a2 a3
   go_wp2_with (first | (go_at_call 91;refine (HF.out _).mono ?_;rintro r w3 ⟨rfl,rfl⟩) | (go_at_call 84;refine (HIk.out _ (F1.out.trans F2.out q4_)).mono ?_;rintro r w4 ⟨rfl,b4⟩))
   have O4:=q0_ ((F1.out.trans F2.out q4_).trans (Fr.b0 b4) q4_);clear b4
   go_ret2
   exact⟨rfl,O4.out.below q4_⟩
  ·have h0d:decide (t<0)=true:=qa_ (by omega)
   rw[if_neg (by omega)];have HIb:=q0_ (HIs.out i);rw[hib] at HIb;go_enter func88,ntmps88;have a0:=B1.out.cell 0;have a1:=B1.out.cell 1;have a2:=B1.out.cell 2;have a3:=B1.out.cell 3;simp only[q1_,q2_,q3_] at a0 a1 a2 a3;go_wp2_with fail;rw[← HW1.out];refine (HIb.out W1).mono ?_;rintro r w2 ⟨rfl,b2⟩;have O2:=q0_ (F1.out.trans (Fr.b0 b2) q4_);clear b2;go_wp2
   go_ret2
   exact⟨rfl,O2.out.below q4_⟩
 ·have hib:(decide (0≤i)&&decide (i<(n:Int)))=false:=by
   rw[Bool.and_eq_false_iff]
   by_cases h:0≤i
   ·exact .inr (q9_ (fun k=>hi ⟨h,k⟩))
   ·exact .inl (q9_ h)
  rw[if_neg (by omega)];have HIb:=q0_ (HIs.out i);rw[hib] at HIb;go_enter func88,ntmps88;have a0:=B1.out.cell 0;have a1:=B1.out.cell 1;have a2:=B1.out.cell 2;have a3:=B1.out.cell 3;simp only[q1_,q2_,q3_] at a0 a1 a2 a3;go_wp2_with fail;rw[← HW1.out];refine (HIb.out W1).mono ?_;rintro r w2 ⟨rfl,b2⟩;have O2:=q0_ (F1.out.trans (Fr.b0 b2) q4_);clear b2;go_wp2
  go_ret2
  exact⟨rfl,O2.out.below q4_⟩
def zaW(now:Int)(l:List za_)(fl:List Int):List Int:=(List.range l.length).map fun k=>zar now l fl k
theorem zmW{now:Int}{l:List za_}{fl:List Int}{k:Nat}(h:k<l.length):(zaW now l fl)[k]? =some (zar now l fl k):=by
 unfold zaW;rw[List.getElem?_map,List.getElem?_range h]
 rfl
theorem zp3(now:Int)(hnow:i64 now)(nm:ByteArray)(l:List za_)(A:Option Addr)(n c:Nat)(fl:List Int)(B:Option Addr)(m d:Nat)(w:World)(hr:Rd w 4 A n (zah l))(hf:Rd w 1 B m (zbg fl))(hwf:∀ t∈l,t.wf)(hn:n≤1099511627776):
  Calls prog 60 #[zbL now nm A n c B m d] w fun r w'=>(∃ R cs,r=.returned (.slice R n cs)∧w'.ownsRow w.heap.size 3 1 (.slice R n cs) n (zbg (zaW now l fl)))∧Below w.heap.size w w':=by
 have HV:Hid (∀ (k:Nat),k<n→∀ W,Fr (fun _=>False) w W→Calls prog 84 #[.agg #[.int .i64 now,.string nm,.slice A n c,.slice B m d],.int .i64 k] W fun r w''=>r=.returned (.int .i64 (zar now l fl k))∧Below W.heap.size W w''):=fun k hk W h=>zgr now hnow nm l A n c fl B m d k W (hr.fr0 h) (hf.fr0 h) hwf hk hn;unfold zbL;have HI:Hid (∀ (i:Int) W,Fr (fun _=>False) w W→Calls prog 84 #[.agg #[.int .i64 now,.string nm,.slice A n c,.slice B m d],.int .i64 i] W fun r w''=>r=.returned (.int .i64 (zcg now l fl i))∧Below W.heap.size W w''):=fun i W h=>zcE now hnow nm l A n c fl B m d i W (hr.fr0 h) (hf.fr0 h) hwf hn;have HIs:Hid (∀ (i:Int) W,Calls prog 130 #[.agg #[.int .i64 now,.string nm,.slice A n c,.slice B m d],.int .i64 i] W fun r w''=>r=.returned (.bool (decide (0≤i)&&decide (i<n)))∧Below W.heap.size W w''):=fun i W=>zjt now nm A n c B m d i W;have Hr:=q0_ hr;have Hlen:=q0_ hr.tiers_len;have Hwf:=q0_ hwf
 obtain⟨W1,hW1⟩:∃ W1,W1=w.alloc (.cells #[.int .i64 now,.string nm,.slice A n c,.slice B m d] 66):=⟨_,rfl⟩
 have HW1:=q0_ hW1;have B1:Hid (Blk W1 w.heap.size 66 #[.int .i64 now,.string nm,.slice A n c,.slice B m d]):=hW1▸Blk.new _ _ _
 have F1:Hid (Fr (fun _=>False) w W1):=by show Fr _ _ _;rw[hW1];exact Fr.none_alloc _ _
 have O1:Hid (Own w W1 (fun _=>False)):=by show Own _ _ _;rw[hW1];exact (Own.start w).skip (Fr.none_alloc _ _)
 clear hW1 hr hf hwf HI HIs;obtain⟨i0,hi,hz0,hz1,hz2⟩:=info_parts zeN;go_enter func60,ntmps60;go_wp2_with fail;rw[← HW1.out]
 go_loopw [3,9] (fun o i wr=>∃ (k:Nat) (R:Option Addr) (cs:Nat),k≤n∧i=.int .i64 k∧o=.slice R k cs∧wr.ownsRow w.heap.size 3 1 (.slice R k cs) k (zbg ((zaW now l fl).take k))∧Blk wr w.heap.size 66 #[.int .i64 now,.string nm,.slice A n c,.slice B m d]∧Own w wr (zaE (.slice R k cs))) (fun _ i _=>n-(intOf i).toNat)
 case atStart=>exact⟨0,none,0,Nat.zero_le _,rfl,rfl,World.ownsRow_nil _ _ _ _,B1.out,O1.out.also (fun k hk=>by cases hk)⟩
 case round=>
  obtain⟨k,R,cs,hk,rfl,rfl,hrow,hb2,ho⟩:=hrel;have B2:=q0_ hb2;have Hrow:=q0_ hrow;have Ho:=q0_ ho;clear hb2 hrow ho;have a0:=B2.out.cell 0;have a1:=B2.out.cell 1;have a2:=B2.out.cell 2;have a3:=B2.out.cell 3;simp only[q1_,q2_,q3_] at a0 a1 a2 a3
  by_cases hlt:k<n
  ·have HVk:=q0_ (HV.out k hlt wr (Fr.b0 Ho.out.bel))
   have Hget:=q0_ (zmW (now:=now) (fl:=fl) (show k<l.length by rw[Hlen.out];exact hlt))
   obtain⟨fv,hfv⟩:∃ fv,zar now l fl k=fv:=⟨_,rfl⟩
   rw[hfv] at HVk Hget;have hw0:=Ho.out.bel.size;clear hfv;go_wp2_with fail;refine HVk.out.mono ?_;rintro r w3 ⟨rfl,b3⟩;have Hrow3:=q0_ (zac Hrow.out (Fr.b0 b3));have B3:=q0_ (B2.out.below b3);have O3:=q0_ (Ho.out.skip (Fr.b0 b3));have hw3:w.heap.size≤w3.heap.size:=Nat.le_trans hw0 b3.size;clear b3 a0 a1 a2 a3
   go_wp2_with (at_builtin;refine zbs rfl _ _ 52 rfl 3 i0 _ 1 8 underlying52 hi hz0 hz1 hz2 rfl (by decide) (.slice R k cs) k _ rfl w.heap.size (by simp;omega) (zac Hrow3.out (Fr.none_alloc _ _)) (some ⟨w3.heap.size,0,none⟩) 1 1 [.int .i64 fv] rfl (Rd.newS (by simp) _ _ _ _ rfl) (by simp[Value.oneCell']) ?q1 ?q2 ?_)
   case q1=>unfold maxLen;omega
   case q2=>omega
   intro R6 c6 w6 ho6 hm6 _;have Ho6:=q0_ ho6;have B6:=q0_ ((B3.out.alloc _).fr hm6.fr (zad Hrow3.out B3.out (by decide)));have O6:=q0_ ((O3.out.skip (Fr.none_alloc _ _)).mv hm6);clear ho6 hm6
   go_wp2
   go_roundw
   case rel=>
    refine⟨k+1,R6,c6,by omega,by go_num,rfl,?_,B6.out,O6.out⟩;have h:=Ho6.out;rw[zan Hget.out];unfold zbg at h ⊢;rw[List.map_append];exact h
   case measure=>simp[intOf];omega
  ·obtain rfl:k=n:=by omega
   have hl:(zaW now l fl).take k=zaW now l fl:=za3 (by unfold zaW;rw[List.length_map,List.length_range,Hlen.out];exact Nat.le_refl _);rw[hl] at Hrow;clear hl;go_wp2;go_ret;exact⟨⟨R,cs,rfl,Hrow.out⟩,Ho.out.bel⟩
def zbP(now:Int)(l:List za_)(fl:List Int)(s:zas):Int:=
 if zaD s.name=true∧0≤s.time then
  if now<s.time then 25 else if 0<l.length∧zcg now l fl 0≤s.time then 0 else 24
 else 1
theorem znN(now:Int)(hnow:i64 now)(nm:ByteArray)(l:List za_)(A:Option Addr)(n c:Nat)(fl:List Int)(B:Option Addr)(m d:Nat)(s:zas)(hs:s.name.size≤maxLen)(w:World)(hr:Rd w 4 A n (zah l))(hf:Rd w 1 B m (zbg fl))(hwf:∀ t∈l,t.wf)(hn:n≤1099511627776):
  Calls prog 87 #[zbL now nm A n c B m d,s.val] w fun r w'=>r=.returned (.int .i64 (zbP now l fl s))∧Below w.heap.size w w':=by
 have HF0:Hid (∀ W,Fr (fun _=>False) w W→Calls prog 84 #[.agg #[.int .i64 now,.string nm,.slice A n c,.slice B m d],.int .i64 0] W fun r w''=>r=.returned (.int .i64 (zcg now l fl 0))∧Below W.heap.size W w''):=fun W h=>zcE now hnow nm l A n c fl B m d 0 W (hr.fr0 h) (hf.fr0 h) hwf hn;have HI0:Hid (∀ W,Calls prog 130 #[.agg #[.int .i64 now,.string nm,.slice A n c,.slice B m d],.int .i64 0] W fun r w''=>r=.returned (.bool (decide (0≤(0:Int))&&decide ((0:Int)<n)))∧Below W.heap.size W w''):=fun W=>zjt now nm A n c B m d 0 W;have Hlen:=q0_ hr.tiers_len;have HVd:=q0_ (fun b c w hc=>zf9 s.name hs b c w hc)
 obtain⟨W1,hW1⟩:∃ W1,W1=(w.alloc (.cells #[.int .i64 now,.string nm,.slice A n c,.slice B m d] 66)).alloc (.cells #[.string s.name,.int .i64 s.time,.int .i64 s.value] 84):=⟨_,rfl⟩
 have HW1:=q0_ hW1
 have B1:Blk W1 w.heap.size 66 #[.int .i64 now,.string nm,.slice A n c,.slice B m d]:=by rw[hW1];exact (Blk.new _ _ _).alloc _
 have B2:Blk W1 (w.heap.size+1) 84 #[.string s.name,.int .i64 s.time,.int .i64 s.value]:=by rw[hW1];exact Blk.new' (by simp) _ _
 have FW:Hid (Fr (fun _=>False) w W1):=by show Fr _ _ _;rw[hW1];exact (Fr.none_alloc _ _).trans (Fr.none_alloc _ _) q4_
 have HC:Hid (∀ W,Fr (fun _=>False) W1 W→W.cell? ⟨w.heap.size,0,none⟩=some (.int .i64 now)∧W.cell? ⟨w.heap.size,1,none⟩=some (.string nm)∧W.cell? ⟨w.heap.size,2,none⟩=some (.slice A n c)∧W.cell? ⟨w.heap.size,3,none⟩=some (.slice B m d)∧W.cell? ⟨w.heap.size+1,0,none⟩=some (.string s.name)∧W.cell? ⟨w.heap.size+1,1,none⟩=some (.int .i64 s.time)):=fun W f=>⟨(B1.fr f (fun h=>h)).cell 0,(B1.fr f (fun h=>h)).cell 1,(B1.fr f (fun h=>h)).cell 2,(B1.fr f (fun h=>h)).cell 3,(B2.fr f (fun h=>h)).cell 0,(B2.fr f (fun h=>h)).cell 1⟩
 have HSz:Hid (w.heap.size+1+1=W1.heap.size):=by show _=_;rw[hW1];simp
 unfold zbL zas.val zbP;rw[Hlen.out];clear hr hf hwf hW1 B1 B2
 cases hv:zaD s.name
 ·rw[hv] at HVd
  rw[if_neg (by simp)];clear hv;obtain⟨a0,a1,a2,a3,t0,t1⟩:=HC.out W1 (Fr.refl _ _);go_enter func87,ntmps87;go_wp2_with fail;rw[← HW1.out];refine (HVd.out _ _ _ ((Blk.new' HSz.out _ _).cell 0)).mono ?_;rintro r w2 ⟨rfl,rfl⟩;clear a0 a1 a2 a3 t0 t1;obtain⟨a0,a1,a2,a3,t0,t1⟩:=HC.out _ (Fr.none_alloc W1 (.cells #[.string s.name] 9));have F2:Hid (Fr (fun _=>False) W1 (W1.alloc (.cells #[.string s.name] 9))):=Fr.none_alloc _ _;have F02:Hid (Below w.heap.size w (W1.alloc (.cells #[.string s.name] 9))):=(FW.out.trans F2.out q4_).below q4_
  obtain⟨W2,hW2⟩:∃ W2,W2=W1.alloc (.cells #[.string s.name] 9):=⟨_,rfl⟩
  rw[← hW2] at F2 F02 a0 a1 a2 a3 t0 t1 ⊢;clear hW2;go_wp2;go_ret;exact⟨rfl,F02.out⟩
 ·rw[hv] at HVd
  by_cases h0:0≤s.time
  ·rw[if_pos ⟨rfl,h0⟩]
   have h0d:decide (s.time<0)=false:=q9_ (by omega)
   by_cases hnw:now<s.time
   ·rw[if_pos hnw]
    have hnd:decide (now<s.time)=true:=qa_ hnw;clear hv;obtain⟨a0,a1,a2,a3,t0,t1⟩:=HC.out W1 (Fr.refl _ _);go_enter func87,ntmps87;go_wp2_with fail;rw[← HW1.out];refine (HVd.out _ _ _ ((Blk.new' HSz.out _ _).cell 0)).mono ?_;rintro r w2 ⟨rfl,rfl⟩;clear a0 a1 a2 a3 t0 t1;obtain⟨a0,a1,a2,a3,t0,t1⟩:=HC.out _ (Fr.none_alloc W1 (.cells #[.string s.name] 9));have F2:Hid (Fr (fun _=>False) W1 (W1.alloc (.cells #[.string s.name] 9))):=Fr.none_alloc _ _;have F02:Hid (Below w.heap.size w (W1.alloc (.cells #[.string s.name] 9))):=(FW.out.trans F2.out q4_).below q4_
    obtain⟨W2,hW2⟩:∃ W2,W2=W1.alloc (.cells #[.string s.name] 9):=⟨_,rfl⟩
    rw[← hW2] at F2 F02 a0 a1 a2 a3 t0 t1 ⊢;clear hW2;go_wp2;go_ret;exact⟨rfl,F02.out⟩
   ·rw[if_neg hnw]
    have hnd:decide (now<s.time)=false:=q9_ hnw;clear hv
    by_cases hn0:0<n
    ·have hib:(decide (0≤(0:Int))&&decide ((0:Int)<n))=true:=by simp;omega
     rw[hib] at HI0
     obtain⟨fv,hfv⟩:∃ fv,zcg now l fl 0=fv:=⟨_,rfl⟩
     rw[hfv] at HF0 ⊢
     by_cases hle:fv≤s.time
     ·rw[if_pos ⟨hn0,hle⟩]
      have hld:decide (s.time<fv)=false:=q9_ (by omega);clear hib hfv;obtain⟨a0,a1,a2,a3,t0,t1⟩:=HC.out W1 (Fr.refl _ _);go_enter func87,ntmps87;go_wp2_with fail;rw[← HW1.out];refine (HVd.out _ _ _ ((Blk.new' HSz.out _ _).cell 0)).mono ?_;rintro r w2 ⟨rfl,rfl⟩;clear a0 a1 a2 a3 t0 t1;obtain⟨a0,a1,a2,a3,t0,t1⟩:=HC.out _ (Fr.none_alloc W1 (.cells #[.string s.name] 9));have F2:Hid (Fr (fun _=>False) W1 (W1.alloc (.cells #[.string s.name] 9))):=Fr.none_alloc _ _;have F02:Hid (Below w.heap.size w (W1.alloc (.cells #[.string s.name] 9))):=(FW.out.trans F2.out q4_).below q4_
      obtain⟨W2,hW2⟩:∃ W2,W2=W1.alloc (.cells #[.string s.name] 9):=⟨_,rfl⟩
      rw[← hW2] at F2 F02 a0 a1 a2 a3 t0 t1 ⊢;clear hW2;go_wp2_with fail;have HT:=q0_ (FW.out.trans F2.out q4_);refine wp_region_held_drew (S:=fun W=>Fr (fun _=>False) W2 W) (by kernel_rfl) ((Fr.refl _ W2).drew) (fun hY_=>?_);refine tl 0 ?v1 rfl ?q1 ?r1
      case q1=>intro W hSw;(try obtain⟨a0,a1,a2,a3,t0,t1⟩:=HC.out W (F2.out.trans hSw q4_));go_simp;try rfl
      try simp only[Act.put,sA,sB,sC]
      refine rl 1 rfl (fun K hK=>?_);go_simp
      go_wp2_with (go_at_call 130;refine (HI0.out _).mono ?_;rintro r w5 ⟨rfl,b5⟩)
      refine hK.out _ _ (hY_.trans (Fr.b0 b5) q4_) (fun hY_=>?_);clear hK K;refine tq 5 [2,3,4,5,6] ?_;refine sk ?_
      iterate 4 (refine sf (fun W hSw=>HC.out W (F2.out.trans hSw q4_)) ?_;try simp only[Act.put,sA,sB,sC])
      refine sz ?_
      try simp only[Act.put,sA,sB,sC]
      refine rl 7 rfl (fun K hK=>?_);go_simp
      go_wp2_with (go_at_call 84;refine (HF0.out _ (HT.out.trans hY_ q4_)).mono ?_;rintro r w6 ⟨rfl,b6⟩)
      refine hK.out _ _ (hY_.trans (Fr.b0 b6) q4_) (fun hY_=>?_);clear hK K
      try simp only[Act.put,sA,sB,sC]
      refine tq 3 [8,9,10] ?_
      iterate 2 refine sf (fun W hSw=>HC.out W (F2.out.trans hSw q4_)) ?_
      refine sf (fun W hSw=>HC.out W (F2.out.trans hSw q4_)) ?_
      try simp only[Act.put,sA,sB,sC]
      refine sz ?_
      try simp only[Act.put,sA,sB,sC]
      refine wpAnyH_done (by kernel_rfl) ?_ _;go_wp2;go_ret;exact⟨rfl,F02.out.trans ((hY_.below q4_).mono F02.out.size)⟩
     ·rw[if_neg (by omega)]
      have hld:decide (s.time<fv)=true:=qa_ (by omega);clear hib hfv;obtain⟨a0,a1,a2,a3,t0,t1⟩:=HC.out W1 (Fr.refl _ _);go_enter func87,ntmps87;go_wp2_with fail;rw[← HW1.out];refine (HVd.out _ _ _ ((Blk.new' HSz.out _ _).cell 0)).mono ?_;rintro r w2 ⟨rfl,rfl⟩;clear a0 a1 a2 a3 t0 t1;obtain⟨a0,a1,a2,a3,t0,t1⟩:=HC.out _ (Fr.none_alloc W1 (.cells #[.string s.name] 9));have F2:Hid (Fr (fun _=>False) W1 (W1.alloc (.cells #[.string s.name] 9))):=Fr.none_alloc _ _;have F02:Hid (Below w.heap.size w (W1.alloc (.cells #[.string s.name] 9))):=(FW.out.trans F2.out q4_).below q4_
      obtain⟨W2,hW2⟩:∃ W2,W2=W1.alloc (.cells #[.string s.name] 9):=⟨_,rfl⟩
      rw[← hW2] at F2 F02 a0 a1 a2 a3 t0 t1 ⊢;clear hW2;go_wp2_with fail;have HT:=q0_ (FW.out.trans F2.out q4_);refine wp_region_held_drew (S:=fun W=>Fr (fun _=>False) W2 W) (by kernel_rfl) ((Fr.refl _ W2).drew) (fun hY_=>?_);refine tl 0 ?v10 rfl ?q10 ?r10
      case q10=>intro W hSw;(try obtain⟨a0,a1,a2,a3,t0,t1⟩:=HC.out W (F2.out.trans hSw q4_));go_simp;try rfl
      try simp only[Act.put,sA,sB,sC]
      refine rl 1 rfl (fun K hK=>?_);go_simp
      go_wp2_with (go_at_call 130;refine (HI0.out _).mono ?_;rintro r w5 ⟨rfl,b5⟩)
      refine hK.out _ _ (hY_.trans (Fr.b0 b5) q4_) (fun hY_=>?_);clear hK K;refine tq 5 [2,3,4,5,6] ?_;refine sk ?_
      iterate 4 (refine sf (fun W hSw=>HC.out W (F2.out.trans hSw q4_)) ?_;try simp only[Act.put,sA,sB,sC])
      refine sz ?_
      try simp only[Act.put,sA,sB,sC]
      refine rl 7 rfl (fun K hK=>?_);go_simp
      go_wp2_with (go_at_call 84;refine (HF0.out _ (HT.out.trans hY_ q4_)).mono ?_;rintro r w6 ⟨rfl,b6⟩)
      refine hK.out _ _ (hY_.trans (Fr.b0 b6) q4_) (fun hY_=>?_);clear hK K
      try simp only[Act.put,sA,sB,sC]
      refine tq 3 [8,9,10] ?_
      iterate 2 refine sf (fun W hSw=>HC.out W (F2.out.trans hSw q4_)) ?_
      refine sf (fun W hSw=>HC.out W (F2.out.trans hSw q4_)) ?_
      try simp only[Act.put,sA,sB,sC]
      refine sz ?_
      try simp only[Act.put,sA,sB,sC]
      refine wpAnyH_done (by kernel_rfl) ?_ _;go_wp2;go_ret;exact⟨rfl,F02.out.trans ((hY_.below q4_).mono F02.out.size)⟩
    ·have hib:(decide (0≤(0:Int))&&decide ((0:Int)<n))=false:=by simp;omega
     rw[hib] at HI0;rw[if_neg (by omega)];clear hib;obtain⟨a0,a1,a2,a3,t0,t1⟩:=HC.out W1 (Fr.refl _ _);go_enter func87,ntmps87;go_wp2_with fail;rw[← HW1.out];refine (HVd.out _ _ _ ((Blk.new' HSz.out _ _).cell 0)).mono ?_;rintro r w2 ⟨rfl,rfl⟩;clear a0 a1 a2 a3 t0 t1;obtain⟨a0,a1,a2,a3,t0,t1⟩:=HC.out _ (Fr.none_alloc W1 (.cells #[.string s.name] 9));have F2:Hid (Fr (fun _=>False) W1 (W1.alloc (.cells #[.string s.name] 9))):=Fr.none_alloc _ _;have F02:Hid (Below w.heap.size w (W1.alloc (.cells #[.string s.name] 9))):=(FW.out.trans F2.out q4_).below q4_
     obtain⟨W2,hW2⟩:∃ W2,W2=W1.alloc (.cells #[.string s.name] 9):=⟨_,rfl⟩
     rw[← hW2] at F2 F02 a0 a1 a2 a3 t0 t1 ⊢;clear hW2;go_wp2_with fail;have HT:=q0_ (FW.out.trans F2.out q4_);refine wp_region_held_drew (S:=fun W=>Fr (fun _=>False) W2 W) (by kernel_rfl) ((Fr.refl _ W2).drew) (fun hY_=>?_);refine tl 0 ?v19 rfl ?q19 ?r19
     case q19=>intro W hSw;(try obtain⟨a0,a1,a2,a3,t0,t1⟩:=HC.out W (F2.out.trans hSw q4_));go_simp;try rfl
     try simp only[Act.put,sA,sB,sC]
     refine rl 1 rfl (fun K hK=>?_);go_simp
     go_wp2_with (go_at_call 130;refine (HI0.out _).mono ?_;rintro r w5 ⟨rfl,b5⟩)
     refine hK.out _ _ (hY_.trans (Fr.b0 b5) q4_) (fun hY_=>?_);clear hK K;refine tq 9 [2,3,4,5,6,7,8,9,10] ?_;refine sk ?_;refine sk ?_
     try simp only[Act.put,sA,sB,sC]
     iterate 4 (refine su ?_;try simp only[Act.put,sA,sB,sC])
     refine su ?_;refine sk ?_;refine sf (fun W hSw=>HC.out W (F2.out.trans hSw q4_)) ?_
     try simp only[Act.put,sA,sB,sC]
     refine sz ?_
     try simp only[Act.put,sA,sB,sC]
     refine wpAnyH_done (by kernel_rfl) ?_ _;go_wp2;go_ret;exact⟨rfl,F02.out.trans ((hY_.below q4_).mono F02.out.size)⟩
  ·rw[if_neg (by omega)]
   have h0d:decide (s.time<0)=true:=qa_ (by omega);clear hv;obtain⟨a0,a1,a2,a3,t0,t1⟩:=HC.out W1 (Fr.refl _ _);go_enter func87,ntmps87;go_wp2_with fail;rw[← HW1.out];refine (HVd.out _ _ _ ((Blk.new' HSz.out _ _).cell 0)).mono ?_;rintro r w2 ⟨rfl,rfl⟩;clear a0 a1 a2 a3 t0 t1;obtain⟨a0,a1,a2,a3,t0,t1⟩:=HC.out _ (Fr.none_alloc W1 (.cells #[.string s.name] 9));have F2:Hid (Fr (fun _=>False) W1 (W1.alloc (.cells #[.string s.name] 9))):=Fr.none_alloc _ _;have F02:Hid (Below w.heap.size w (W1.alloc (.cells #[.string s.name] 9))):=(FW.out.trans F2.out q4_).below q4_
   obtain⟨W2,hW2⟩:∃ W2,W2=W1.alloc (.cells #[.string s.name] 9):=⟨_,rfl⟩
   rw[← hW2] at F2 F02 a0 a1 a2 a3 t0 t1 ⊢;clear hW2;go_wp2;go_ret;exact⟨rfl,F02.out⟩
structure zdg where
 id:Int
 tier:Int
 shard:Int
 place:Int
 of_:Int
 ba:Option Addr
 bn:Nat
 bc:Nat
 bl:List Int
def zdg.cells(x:zdg):List Value:=[.int .u64 x.id,.int .i64 x.tier,.int .i64 x.shard,.int .i64 x.place,.int .i64 x.of_,.slice x.ba x.bn x.bc]
def zfx(l:List zdg):List Value:=l.flatMap zdg.cells
theorem zrM(x:zdg):x.cells.length=6:=rfl
structure zdg.ok(w:World)(x:zdg):Prop where
 id:0≤x.id∧x.id<18446744073709551616
 tier:zbh x.tier
 shard:zbh x.shard
 place:zbh x.place
 of_:zbh x.of_
 b:Rd w 1 x.ba x.bn (zbg x.bl)
 blen:x.bl.length=x.bn
 ble:x.bn≤x.bc
 bmax:x.bc≤maxLen
 bwf:∀ y∈x.bl,zbh y
theorem zdg.ok.fr0{w w':World}{x:zdg}(h:x.ok w)(f:Fr (fun _=>False) w w'):x.ok w':=⟨h.id,h.tier,h.shard,h.place,h.of_,h.b.fr0 f,h.blen,h.ble,h.bmax,h.bwf⟩
theorem Rd.ent{w:World}{n k:Nat}{A:Option Addr}{l:List zdg}(h:Rd w 6 A n (zfx l))(hk:k<n):
  ∃ ad x,A=some ad∧l[k]? =some x∧w.cell? (ad.add (k*6))=some (.int .u64 x.id)∧w.cell? ⟨(ad.add (k*6)).block,(ad.add (k*6)).off+1,none⟩=some (.int .i64 x.tier)∧w.cell? ⟨(ad.add (k*6)).block,(ad.add (k*6)).off+2,none⟩=some (.int .i64 x.shard)∧w.cell? ⟨(ad.add (k*6)).block,(ad.add (k*6)).off+3,none⟩=some (.int .i64 x.place)∧w.cell? ⟨(ad.add (k*6)).block,(ad.add (k*6)).off+4,none⟩=some (.int .i64 x.of_)∧w.cell? ⟨(ad.add (k*6)).block,(ad.add (k*6)).off+5,none⟩=some (.slice x.ba x.bn x.bc):=by
 obtain⟨ad,s,e,hr,hc⟩:=Rd.elem zrM h hk (by decide);refine⟨ad,s,e,hr,?_,?_,?_,?_,?_,?_⟩
 ·have:=hc 0 _ rfl;rwa[zaZ] at this
 ·have:=hc 1 _ rfl;rwa[zaV _ _ (by decide)] at this
 ·have:=hc 2 _ rfl;rwa[zaV _ _ (by decide)] at this
 ·have:=hc 3 _ rfl;rwa[zaV _ _ (by decide)] at this
 ·have:=hc 4 _ rfl;rwa[zaV _ _ (by decide)] at this
 ·have:=hc 5 _ rfl;rwa[zaV _ _ (by decide)] at this
structure zfH where
 gen:Int
 id:Int
 now:Int
 nm:ByteArray
 pl:List za_
 fl:List Int
 nm2:ByteArray
 pl2:List za_
 src:List Int
 bound:Int
 done:Int
 es:List zdg
structure zqV where
 pA:Option Addr
 pn:Nat
 pc:Nat
 fA:Option Addr
 fn:Nat
 fc:Nat
 tA:Option Addr
 tn:Nat
 tc:Nat
 sA:Option Addr
 sn:Nat
 sc:Nat
 eA:Option Addr
 en:Nat
 ec:Nat
def zd7(c:zfH)(a:zqV):Array Value:=#[.int .u64 c.gen,.int .u64 c.id,.int .i64 c.now,.string c.nm,.slice a.pA a.pn a.pc,.slice a.fA a.fn a.fc,.string c.nm2,.slice a.tA a.tn a.tc,.slice a.sA a.sn a.sc,.int .i64 c.bound,.int .i64 c.done,.slice a.eA a.en a.ec]
structure zex(w:World)(c:zfH)(a:zqV):Prop where
 gen:0≤c.gen∧c.gen<18446744073709551616
 id:0≤c.id∧c.id<18446744073709551616
 now:zbh c.now
 bound:zbh c.bound
 done:zbh c.done
 nm:c.nm.size≤maxLen
 nm2:c.nm2.size≤maxLen
 rp:Rd w 4 a.pA a.pn (zah c.pl)
 rf:Rd w 1 a.fA a.fn (zbg c.fl)
 rt:Rd w 4 a.tA a.tn (zah c.pl2)
 rs:Rd w 1 a.sA a.sn (zbg c.src)
 re:Rd w 6 a.eA a.en (zfx c.es)
 lp:c.pl.length=a.pn
 lf:c.fl.length=a.fn
 lt:c.pl2.length=a.tn
 ls:c.src.length=a.sn
 le:c.es.length=a.en
 cp:a.pn≤a.pc∧a.pc≤maxLen
 cf:a.fn≤a.fc∧a.fc≤maxLen
 ct:a.tn≤a.tc∧a.tc≤maxLen
 cs:a.sn≤a.sc∧a.sc≤maxLen
 ce:a.en≤a.ec∧a.ec≤maxLen
 wp:∀ t∈c.pl,t.wf
 wt:∀ t∈c.pl2,t.wf
 wf:∀ x∈c.fl,zbh x
 ws:∀ x∈c.src,zbh x
 we:∀ x∈c.es,x.ok w
theorem zex.fr0{w w':World}{c:zfH}{a:zqV}(h:zex w c a)(f:Fr (fun _=>False) w w'):zex w' c a:=
 ⟨h.gen,h.id,h.now,h.bound,h.done,h.nm,h.nm2,h.rp.fr0 f,h.rf.fr0 f,h.rt.fr0 f,h.rs.fr0 f,h.re.fr0 f,h.lp,h.lf,h.lt,h.ls,h.le,h.cp,h.cf,h.ct,h.cs,h.ce,h.wp,h.wt,h.wf,h.ws,fun x hx=>(h.we x hx).fr0 f⟩
def inB(n most:Int):Bool:=decide (0≤n)&&decide (n≤most)
def zfn(c:zfH):Bool:= !decide (c.nm2.size=0)||decide (0<c.pl2.length)
def zcn(c:zfH):Bool:=(!decide (c.gen=0)&&(inB c.now 1099511627776&&(zak c.nm c.pl&&decide (c.fl.length=c.pl.length))))&&c.fl.all (fun f=>inB f 4611686018427387904)
def za9(c:zfH):Bool:=
 if zfn c=true then c.src.all (fun s=>inB s ((c.pl.length:Int)-1))&&(zak c.nm2 c.pl2&&(decide (c.src.length=c.pl2.length)&&(inB c.bound 4096&&inB c.done 100)))
 else decide (c.bound=0)&&(decide (c.done=0)&&decide (c.src.length=0))
def zbu(cid:Int)(x:zdg):Bool:=
 x.bl.all (fun b=>inB b 4095)&&((inB x.tier 9&&(inB x.shard 7&&(decide (1≤x.id)&&decide (x.id≤cid))))&&(decide (x.place=0)&&(decide (x.of_=x.bl.length)&&(decide (1≤x.of_)&&decide (x.of_≤4096)))))
def zbB(l:List zdg):List (Int×Int):=l.map fun x=>(x.tier,x.shard)
def zaI(l:List zdg):List Int:=l.flatMap zdg.bl
def zg7(c:zfH):Bool:=zcn c&&(za9 c&&(decide (c.es.length≤90)&&(c.es.all (zbu c.id)&&(decide (zbB c.es).Nodup&&decide (zaI c.es).Nodup))))
end Go.Proofs.YtjhhodndlkpmhaaGreatDoor
