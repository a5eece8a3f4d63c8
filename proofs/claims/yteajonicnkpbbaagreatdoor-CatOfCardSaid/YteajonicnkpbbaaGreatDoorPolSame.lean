/- Tiers and ints compared: walks of sedimentbook.SameTiers, SameInts. -/
import Derived.Test.YteajonicnkpbbaaGreatDoorTiersCopy
namespace Go.Proofs.YteajonicnkpbbaaGreatDoor
set_option linter.all false
set_option maxHeartbeats 4000000
set_option maxRecDepth 100000
open Go.RowKit Tryz
def zgi(x y:za_):Bool:=(x.name.toList==y.name.toList)&&((x.every==y.every)&&((x.keep==y.keep)&&(x.shards==y.shards)))
theorem ze_(x y:za_):zgi x y=true↔x=y:=by
 obtain⟨a,b,c,d⟩:=x;obtain⟨a',b',c',d'⟩:=y;unfold zgi;simp only[Bool.and_eq_true,beq_iff_eq,za_.mk.injEq];exact⟨fun h=>⟨toList_inj h.1,h.2⟩,fun h=>⟨by rw[h.1],h.2⟩⟩
instance zrI:DecidableEq za_:=fun x y=>if h:zgi x y=true then isTrue ((ze_ x y).1 h) else isFalse fun e=>h ((ze_ x y).2 e)
theorem ziq(a b:List za_):zag (a++b)=zag a++zag b:=by simp[zag]
def zro(x:Int):List Value:=[.int .i64 x]
def zes(l:List Int):List Value:=l.flatMap zro
theorem zjV(l:List Int):zes l=l.map (Value.int .i64):=by
 induction l with
 | nil=>rfl
 | cons a l ih=>unfold zes at ih ⊢;rw[List.flatMap_cons,ih];rfl
theorem Rd.icell_{w:World}{n k:Nat}{A:Option Addr}{l:List Int}(h:Rd w 1 A n (zes l))(hk:k<n):∃ ad x,A=some ad∧l[k]? =some x∧w.cell? (ad.add k)=some (.int .i64 x):=by
 rw[zjV] at h;exact h.at_map hk
theorem Rd.icells_len{w:World}{n:Nat}{A:Option Addr}{l:List Int}(h:Rd w 1 A n (zes l)):l.length=n:=by
 rw[zjV] at h;exact h.len_map
theorem zb2(la lb:List Int)(A:Option Addr)(n c:Nat)(B:Option Addr)(m d:Nat)(w:World)(ha:Rd w 1 A n (zes la))(hb:Rd w 1 B m (zes lb))(hn:n≤1099511627776)(hm:m≤1099511627776):
  Calls prog 32 #[.slice A n c,.slice B m d] w fun r w'=>r=.returned (.bool (decide (la=lb)))∧Below w.heap.size w w':=by
 have Ha:=q0_ ha;have Hb:=q0_ hb;have hla:=q0_ ha.icells_len;have hlb:=q0_ hb.icells_len;clear ha hb
 by_cases hnm:n=m
 ·subst hnm
  go_enter func32,ntmps32;go_wp2_with fail
  go_loopw [5] (fun i wr=>∃ k:Nat,k≤n∧i=.int .i64 k∧Hid (la.take k=lb.take k)∧Own w wr (fun _=>False)) (fun i _=>n-(intOf i).toNat)
  case atStart=>exact⟨0,Nat.zero_le _,rfl,rfl,Own.start w⟩
  case round=>
   obtain⟨k,hk,rfl,htk,ho⟩:=hrel;have Ho:=q0_ ho
   by_cases hlt:k<n
   ·obtain⟨ad,x,rfl,hx,a0⟩:=(Ha.out.fr0 (Fr.b0 ho.bel)).icell_ hlt
    obtain⟨bd,y,rfl,hy,b0⟩:=(Hb.out.fr0 (Fr.b0 ho.bel)).icell_ hlt;have Hx:=q0_ hx;have Hy:=q0_ hy
    by_cases heq:x=y
    ·have htk2:Hid (la.take (k+1)=lb.take (k+1)):=by show _=_;rw[zak Hx.out,zak Hy.out,htk.out,heq]
     have q:(x==y)=true:=by simpa using heq
     have q2:x=y:=heq;clear hx hy ho
     go_wp2
     go_quiet (fail)
     go_wp2
     go_roundw
     case rel=>exact⟨k+1,by omega,by go_num,htk2.out,Ho.out.skip (Fr.none_drewN _ _)⟩
     case measure=>simp[intOf];omega
    ·have hne:Hid (decide (la=lb)=false):=by
      refine q9_ fun h=>?_;have h1:=Hx.out;have h2:=Hy.out;rw[h] at h1;rw[h1] at h2;exact heq (Option.some.inj h2)
     have q:(x==y)=false:=by simpa using heq
     have q2:decide (x=y)=false:=q9_ heq;have q3:¬ x=y:=heq;clear hx hy ho heq
     go_wp2
     go_quiet (fail)
     go_wp2
     go_ret;exact⟨by rw[hne.out];rfl,(Ho.out.skip (Fr.none_drewN _ _)).bel⟩
   ·obtain rfl:k=n:=by omega
    have hE:Hid (decide (la=lb)=true):=by
     refine qa_ ?_;have h:=htk.out;rwa[zaN (by rw[hla.out];exact Nat.le_refl _),zaN (by rw[hlb.out];exact Nat.le_refl _)] at h
    clear ho;go_wp2;go_ret;exact⟨by rw[hE.out];rfl,Ho.out.bel⟩
 ·have hne:Hid (decide (la=lb)=false):=by
   refine q9_ fun h=>hnm ?_;have h1:=hla.out;have h2:=hlb.out;rw[h] at h1;omega
  have hnm2:((n:Int) != (m:Int))=true:=by simpa using (show (n:Int)≠(m:Int) by omega)
  go_enter func32,ntmps32;go_wp2;go_ret;exact⟨by rw[hne.out];rfl,Below.refl _ _⟩
theorem zj1(x y:zaf)(w:World):(Op.equalIn 10000 198 x.val y.val).run prog w=.ok (zmC x y) w:=by
 have hu:prog.underlying 198=some (.struct (prog.fieldsOf 198)):=by kernel_rfl
 have hp:prog.stoodInHeld 198=false:=by kernel_rfl
 have hf:(prog.fieldsOf 198).toList=[⟨"Name",9,0,false, "", "",0⟩,⟨"Start",3,1,false, "", "",16⟩,⟨"Agg",196,2,false, "", "",24⟩]:=by kernel_rfl
 have hA:=zn2 9997 x.agg y.agg;unfold zaS.val at hA;unfold zaf.val zmC;rw[run_equalIn_struct (P:=prog) w 9999 _ _ _ hu hp,hf];simp[Op.eqFields,hA,zh8 9998,ziT 9998,part]
 by_cases h1:x.name.toList=y.name.toList<;>by_cases h2:x.start=y.start<;>cases znh x.agg y.agg<;>simp[h1,h2]
theorem zkR{x y:zaf}(h:x=y)(w:World):(binOp .neq 198 x.val y.val).run prog w=.ok (.bool false) w:=by
 have h2:=zj1 x y w;unfold zaf.val at h2 ⊢;rw[run_neq_struct,h2,(zeZ x y).2 h]
 rfl
theorem zjz{x y:zaf}(h:x≠y)(w:World):(binOp .neq 198 x.val y.val).run prog w=.ok (.bool true) w:=by
 have h2:=zj1 x y w;unfold zaf.val at h2 ⊢;rw[run_neq_struct,h2]
 cases hb:zmC x y
 ·rfl
 ·exact absurd ((zeZ x y).1 hb) h
theorem zm4(la lb:List zaf)(A:Option Addr)(n c:Nat)(B:Option Addr)(m d:Nat)(w:World)(ha:Rd w 7 A n (zaA la))(hb:Rd w 7 B m (zaA lb))(hn:n≤1099511627776)(hm:m≤1099511627776):
  Calls prog 200 #[.slice A n c,.slice B m d] w fun r w'=>r=.returned (.bool (decide (la=lb)))∧Below w.heap.size w w':=by
 have Ha:=q0_ ha;have Hb:=q0_ hb;have hla:=q0_ ha.recs_len;have hlb:=q0_ hb.recs_len;clear ha hb
 by_cases hnm:n=m
 ·subst hnm
  go_enter func200,ntmps200;go_wp2_with fail
  go_loopw [13] (fun i wr=>∃ k:Nat,k≤n∧i=.int .i64 k∧Hid (la.take k=lb.take k)∧Fr (fun _=>False) w wr) (fun i _=>n-(intOf i).toNat)
  case atStart=>exact⟨0,Nat.zero_le _,rfl,rfl,Fr.refl _ _⟩
  case round=>
   obtain⟨k,hk,rfl,htk,ho⟩:=hrel;have Ho:=q0_ ho;clear ho
   by_cases hlt:k<n
   ·obtain⟨ad,x,rfl,hx,a0,a1,a2,a3,a4,a5,a6⟩:=(Ha.out.fr0 Ho.out).rec_ hlt
    obtain⟨bd,y,rfl,hy,b0,b1,b2,b3,b4,b5,b6⟩:=(Hb.out.fr0 Ho.out).rec_ hlt
    have kn:0≤(k:Int)∧(k:Int)<(n:Int):=by omega
    have Hx:=q0_ hx;have Hy:=q0_ hy
    have HC:Hid (∀ W,Fr (fun _=>False) wr W→W.cell? (ad.add (k*7))=some (.string x.name)∧W.cell? (⟨(ad.add (k*7)).block,(ad.add (k*7)).off+1,none⟩)=some (.int .i64 x.start)∧W.cell? (⟨(ad.add (k*7)).block,(ad.add (k*7)).off+2,none⟩)=some (.int .i64 x.agg.count)∧W.cell? (⟨(ad.add (k*7)).block,(ad.add (k*7)).off+3,none⟩)=some (.int .i64 x.agg.hi)∧W.cell? (⟨(ad.add (k*7)).block,(ad.add (k*7)).off+4,none⟩)=some (.int .u64 x.agg.lo)∧W.cell? (⟨(ad.add (k*7)).block,(ad.add (k*7)).off+5,none⟩)=some (.int .i64 x.agg.min)∧W.cell? (⟨(ad.add (k*7)).block,(ad.add (k*7)).off+6,none⟩)=some (.int .i64 x.agg.max)∧W.cell? (bd.add (k*7))=some (.string y.name)∧W.cell? (⟨(bd.add (k*7)).block,(bd.add (k*7)).off+1,none⟩)=some (.int .i64 y.start)∧W.cell? (⟨(bd.add (k*7)).block,(bd.add (k*7)).off+2,none⟩)=some (.int .i64 y.agg.count)∧W.cell? (⟨(bd.add (k*7)).block,(bd.add (k*7)).off+3,none⟩)=some (.int .i64 y.agg.hi)∧W.cell? (⟨(bd.add (k*7)).block,(bd.add (k*7)).off+4,none⟩)=some (.int .u64 y.agg.lo)∧W.cell? (⟨(bd.add (k*7)).block,(bd.add (k*7)).off+5,none⟩)=some (.int .i64 y.agg.min)∧W.cell? (⟨(bd.add (k*7)).block,(bd.add (k*7)).off+6,none⟩)=some (.int .i64 y.agg.max)):=fun W f=>⟨f.cell a0 (fun h=>h),f.cell a1 (fun h=>h),f.cell a2 (fun h=>h),f.cell a3 (fun h=>h),f.cell a4 (fun h=>h),f.cell a5 (fun h=>h),f.cell a6 (fun h=>h),f.cell b0 (fun h=>h),f.cell b1 (fun h=>h),f.cell b2 (fun h=>h),f.cell b3 (fun h=>h),f.cell b4 (fun h=>h),f.cell b5 (fun h=>h),f.cell b6 (fun h=>h)⟩
    by_cases heq:x=y
    ·have htk2:Hid (la.take (k+1)=lb.take (k+1)):=by show _=_;rw[zak Hx.out,zak Hy.out,htk.out,heq]
     have q:=zkR heq;unfold zaf.val at q;clear hx hy a0 a1 a2 a3 a4 a5 a6 b0 b1 b2 b3 b4 b5 b6;go_wp2_with fail;refine wp_region_held_drew (S:=fun W=>Fr (fun _=>False) wr W) (by kernel_rfl) ((Fr.refl _ wr).drew) (fun hY_=>?_);refine tq 9 [0,1,2,3,4,5,6,7,8] ?_
     iterate 8 refine sf HC.out ?_
     refine sf HC.out ?_
     try simp only[Act.put,sA,sB,sC]
     refine sz ?_
     try simp only[Act.put,sA,sB,sC]
     refine wpAnyH_done (by kernel_rfl) ?_ _;go_wp2
     go_roundw
     case rel=>exact⟨k+1,by omega,by go_num,htk2.out,Ho.out.trans hY_ q4_⟩
     case measure=>simp[intOf];omega
    ·have hne:Hid (decide (la=lb)=false):=by
      refine q9_ fun h=>?_;have h1:=Hx.out;have h2:=Hy.out;rw[h] at h1;rw[h1] at h2;exact heq (Option.some.inj h2)
     have q:=zjz heq;unfold zaf.val at q;clear hx hy a0 a1 a2 a3 a4 a5 a6 b0 b1 b2 b3 b4 b5 b6;go_wp2_with fail;refine wp_region_held_drew (S:=fun W=>Fr (fun _=>False) wr W) (by kernel_rfl) ((Fr.refl _ wr).drew) (fun hY_=>?_);refine tq 9 [0,1,2,3,4,5,6,7,8] ?_
     iterate 8 refine sf HC.out ?_
     refine sf HC.out ?_
     try simp only[Act.put,sA,sB,sC]
     refine sz ?_
     try simp only[Act.put,sA,sB,sC]
     refine wpAnyH_done (by kernel_rfl) ?_ _;go_wp2;go_ret;exact⟨by rw[hne.out];rfl,(Ho.out.trans hY_ q4_).below q4_⟩
   ·obtain rfl:k=n:=by omega
    have hE:Hid (decide (la=lb)=true):=by
     refine qa_ ?_;have h:=htk.out;rwa[zaN (by rw[hla.out];exact Nat.le_refl _),zaN (by rw[hlb.out];exact Nat.le_refl _)] at h
    go_wp2;go_ret;exact⟨by rw[hE.out];rfl,Ho.out.below q4_⟩
 ·have hne:Hid (decide (la=lb)=false):=by
   refine q9_ fun h=>hnm ?_;have h1:=hla.out;have h2:=hlb.out;rw[h] at h1;omega
  have hnm2:((n:Int) != (m:Int))=true:=by simpa using (show (n:Int)≠(m:Int) by omega)
  have hnm3:((n:Int)==(m:Int))=false:=by simpa using (show (n:Int)≠(m:Int) by omega)
  go_enter func200,ntmps200;go_wp2;go_ret;exact⟨by rw[hne.out];rfl,Below.refl _ _⟩
end Go.Proofs.YteajonicnkpbbaaGreatDoor
