/- Tiers and ints compared: walks of sedimentbook.SameTiers, SameInts. -/
import Derived.Test.YteajonicnkpbbaaGreatDoorTiersCopy
namespace Go.Proofs.YteajonicnkpbbaaGreatDoor
set_option linter.all false
set_option maxHeartbeats 1000000
open Go.RowKit Tryz
def zdQ(x y:zaa):Bool:=(x.name.toList==y.name.toList)&&((x.every==y.every)&&((x.keep==y.keep)&&(x.shards==y.shards)))
theorem zcu(x y:zaa):zdQ x y=true↔x=y:=by
 obtain⟨a,b,c,d⟩:=x;obtain⟨a',b',c',d'⟩:=y;unfold zdQ;simp only[Bool.and_eq_true,beq_iff_eq,zaa.mk.injEq];exact⟨fun h=>⟨toList_inj h.1,h.2⟩,fun h=>⟨by rw[h.1],h.2⟩⟩
instance zqo:DecidableEq zaa:=fun x y=>if h:zdQ x y=true then isTrue ((zcu x y).1 h) else isFalse fun e=>h ((zcu x y).2 e)
theorem zg4(x y:zaa)(w:World):(binOp .eql 99 x.val y.val).run prog w=.ok (.bool (zdQ x y)) w:=by
 have hu:prog.underlying 99=some (.struct (prog.fieldsOf 99)):=by kernel_rfl
 have hp:prog.stoodInHeld 99=false:=by kernel_rfl
 have hf:(prog.fieldsOf 99).toList=[⟨"Name",9,0,false, "", "",0⟩,⟨"Every",3,1,false, "", "",16⟩,⟨"Keep",3,2,false, "", "",24⟩,⟨"Shards",3,3,false, "", "",32⟩]:=by kernel_rfl
 unfold zaa.val zdQ;rw[run_eql_struct,run_equalIn_struct (P:=prog) w 9999 _ _ _ hu hp,hf];simp[Op.eqFields,part,zhD 9998,zj2 9998]
 by_cases h1:x.name.toList=y.name.toList<;>by_cases h2:x.every=y.every<;>by_cases h3:x.keep=y.keep<;>by_cases h4:x.shards=y.shards<;>simp[h1,h2,h3,h4]
theorem zem(t:zaa):t.cells.length=4:=rfl
theorem zhU(a b:List zaa):zaf (a++b)=zaf a++zaf b:=by simp[zaf]
theorem zjv{x y:zaa}(h:x=y)(w:World):(binOp .eql 99 x.val y.val).run prog w=.ok (.bool true) w:=by rw[zg4,((zcu x y).2 h)]
theorem ziy{x y:zaa}(h:x≠y)(w:World):(binOp .eql 99 x.val y.val).run prog w=.ok (.bool false) w:=by
 rw[zg4]
 cases hb:zdQ x y
 ·rfl
 ·exact absurd ((zcu x y).1 hb) h
theorem zhY(la lb:List zaa)(A:Option Addr)(n c:Nat)(B:Option Addr)(m d:Nat)(w:World)(ha:Rd w 4 A n (zaf la))(hb:Rd w 4 B m (zaf lb))(hn:n≤1099511627776)(hm:m≤1099511627776):
  Calls prog 60 #[.slice A n c,.slice B m d] w fun r w'=>r=.returned (.bool (decide (la=lb)))∧Below w.heap.size w w':=by
 have Ha:=q0_ ha;have Hb:=q0_ hb;have hla:=q0_ ha.tiers_len;have hlb:=q0_ hb.tiers_len;clear ha hb
 by_cases hnm:n=m
 ·subst hnm
  go_enter func60,ntmps60;go_wp2_with fail
  go_loopw [5] (fun i wr=>∃ k:Nat,k≤n∧i=.int .i64 k∧Hid (la.take k=lb.take k)∧Own w wr (fun _=>False)) (fun i _=>n-(intOf i).toNat)
  case atStart=>exact⟨0,Nat.zero_le _,rfl,rfl,Own.start w⟩
  case round=>
   obtain⟨k,hk,rfl,htk,ho⟩:=hrel;have Ho:=q0_ ho
   by_cases hlt:k<n
   ·obtain⟨ad,x,rfl,hx,a0,a1,a2,a3⟩:=(Ha.out.fr0 (Fr.b0 ho.bel)).tier hlt
    obtain⟨bd,y,rfl,hy,b0,b1,b2,b3⟩:=(Hb.out.fr0 (Fr.b0 ho.bel)).tier hlt;have Hx:=q0_ hx;have Hy:=q0_ hy
    by_cases heq:x=y
    ·have htk2:Hid (la.take (k+1)=lb.take (k+1)):=by show _=_;rw[zan Hx.out,zan Hy.out,htk.out,heq]
     have q:=zjv heq;unfold zaa.val at q;clear hx hy ho heq
     go_wp2
     go_quiet (fail)
     go_wp2
     go_roundw
     case rel=>exact⟨k+1,by omega,by go_num,htk2.out,Ho.out.skip (Fr.none_drewN _ _)⟩
     case measure=>simp[intOf];omega
    ·have hne:Hid (decide (la=lb)=false):=by
      refine q9_ fun h=>?_;have h1:=Hx.out;have h2:=Hy.out;rw[h] at h1;rw[h1] at h2;exact heq (Option.some.inj h2)
     have q:=ziy heq;unfold zaa.val at q;clear hx hy ho heq
     go_wp2
     go_quiet (fail)
     go_wp2
     go_ret;exact⟨by rw[hne.out];rfl,(Ho.out.skip (Fr.none_drewN _ _)).bel⟩
   ·obtain rfl:k=n:=by omega
    have hE:Hid (decide (la=lb)=true):=by
     refine qa_ ?_;have h:=htk.out;rwa[zbh (by rw[hla.out];exact Nat.le_refl _),zbh (by rw[hlb.out];exact Nat.le_refl _)] at h
    clear ho;go_wp2;go_ret;exact⟨by rw[hE.out];rfl,Ho.out.bel⟩
 ·have hne:Hid (decide (la=lb)=false):=by
   refine q9_ fun h=>hnm ?_;have h1:=hla.out;have h2:=hlb.out;rw[h] at h1;omega
  have hnm2:((n:Int) != (m:Int))=true:=by simpa using (show (n:Int)≠(m:Int) by omega)
  go_enter func60,ntmps60;go_wp2;go_ret;exact⟨by rw[hne.out];rfl,Below.refl _ _⟩
theorem zdu(l:List zaa)(A:Option Addr)(n c:Nat)(B:Option Addr)(d:Nat)(w:World)(ha:Rd w 4 A n (zaf l))(hb:Rd w 4 B n (zaf l))(hn:n≤1000000000):
  Calls prog 60 #[.slice A n c,.slice B n d] w fun r w'=>r=.returned (.bool true)∧Below w.heap.size w w':=
 (zhY l l A n c B n d w ha hb (by omega) (by omega)).mono fun r w' ⟨e,b⟩=>⟨by rw[e,qa_ rfl],b⟩
def zbm(x:Int):List Value:=[.int .i64 x]
def zaU(l:List Int):List Value:=l.flatMap zbm
theorem zgk(l:List Int):zaU l=l.map (Value.int .i64):=by
 induction l with
 | nil=>rfl
 | cons a l ih=>unfold zaU at ih ⊢;rw[List.flatMap_cons,ih];rfl
theorem zex(x:Int):(zbm x).length=1:=rfl
theorem Rd.icell_{w:World}{n k:Nat}{A:Option Addr}{l:List Int}(h:Rd w 1 A n (zaU l))(hk:k<n):∃ ad x,A=some ad∧l[k]? =some x∧w.cell? (ad.add k)=some (.int .i64 x):=by
 rw[zgk] at h;exact h.at_map hk
theorem Rd.icells_len{w:World}{n:Nat}{A:Option Addr}{l:List Int}(h:Rd w 1 A n (zaU l)):l.length=n:=by
 rw[zgk] at h;exact h.len_map
theorem ze0(l:List Int):∀ u∈zaU l,u.oneCell'=true:=by
 rw[zgk];intro u hu;rw[List.mem_map] at hu;obtain⟨x,_,rfl⟩:=hu
 rfl
theorem zcG(la lb:List Int)(A:Option Addr)(n c:Nat)(B:Option Addr)(m d:Nat)(w:World)(ha:Rd w 1 A n (zaU la))(hb:Rd w 1 B m (zaU lb))(hn:n≤1099511627776)(hm:m≤1099511627776):
  Calls prog 32 #[.slice A n c,.slice B m d] w fun r w'=>r=.returned (.bool (decide (la=lb)))∧Below w.heap.size w w':=by
 have Ha:=q0_ ha;have Hb:=q0_ hb;have hla:=q0_ ha.icells_len;have hlb:=q0_ hb.icells_len;clear ha hb
 by_cases hnm:n=m
 ·subst hnm
  go_enter func32,ntmps32;go_wp2_with fail
  go_loopw [5] (fun i wr=>∃ k:Nat,k≤n∧i=.int .i64 k∧Hid (la.take k=lb.take k)∧Own w wr (fun _=>False)) (fun i _=>n-(intOf i).toNat)
  case atStart=>exact⟨0,Nat.zero_le _,rfl,rfl,Own.start w⟩
  case round=>
   obtain⟨k,hk,rfl,htk,ho⟩:=hrel;have Ho:=q0_ ho
   by_cases hlt:k<n
   ·obtain⟨ad,x,rfl,hx,a0⟩:=(Ha.out.fr0 (Fr.b0 ho.bel)).icell_ hlt
    obtain⟨bd,y,rfl,hy,b0⟩:=(Hb.out.fr0 (Fr.b0 ho.bel)).icell_ hlt;have Hx:=q0_ hx;have Hy:=q0_ hy
    by_cases heq:x=y
    ·have htk2:Hid (la.take (k+1)=lb.take (k+1)):=by show _=_;rw[zan Hx.out,zan Hy.out,htk.out,heq]
     have q:(x==y)=true:=by simpa using heq
     have q2:x=y:=heq;clear hx hy ho
     go_wp2
     go_quiet (fail)
     go_wp2
     go_roundw
     case rel=>exact⟨k+1,by omega,by go_num,htk2.out,Ho.out.skip (Fr.none_drewN _ _)⟩
     case measure=>simp[intOf];omega
    ·have hne:Hid (decide (la=lb)=false):=by
      refine q9_ fun h=>?_;have h1:=Hx.out;have h2:=Hy.out;rw[h] at h1;rw[h1] at h2;exact heq (Option.some.inj h2)
     have q:(x==y)=false:=by simpa using heq
     have q2:decide (x=y)=false:=q9_ heq;have q3:¬ x=y:=heq;clear hx hy ho heq
     go_wp2
     go_quiet (fail)
     go_wp2
     go_ret;exact⟨by rw[hne.out];rfl,(Ho.out.skip (Fr.none_drewN _ _)).bel⟩
   ·obtain rfl:k=n:=by omega
    have hE:Hid (decide (la=lb)=true):=by
     refine qa_ ?_;have h:=htk.out;rwa[zbh (by rw[hla.out];exact Nat.le_refl _),zbh (by rw[hlb.out];exact Nat.le_refl _)] at h
    clear ho;go_wp2;go_ret;exact⟨by rw[hE.out];rfl,Ho.out.bel⟩
 ·have hne:Hid (decide (la=lb)=false):=by
   refine q9_ fun h=>hnm ?_;have h1:=hla.out;have h2:=hlb.out;rw[h] at h1;omega
  have hnm2:((n:Int) != (m:Int))=true:=by simpa using (show (n:Int)≠(m:Int) by omega)
  go_enter func32,ntmps32;go_wp2;go_ret;exact⟨by rw[hne.out];rfl,Below.refl _ _⟩
theorem zd5(l:List Int)(A:Option Addr)(n c:Nat)(B:Option Addr)(d:Nat)(w:World)(ha:Rd w 1 A n (zaU l))(hb:Rd w 1 B n (zaU l))(hn:n≤1000000000):
  Calls prog 32 #[.slice A n c,.slice B n d] w fun r w'=>r=.returned (.bool true)∧Below w.heap.size w w':=
 (zcG l l A n c B n d w ha hb (by omega) (by omega)).mono fun r w' ⟨e,b⟩=>⟨by rw[e,qa_ rfl],b⟩
end Go.Proofs.YteajonicnkpbbaaGreatDoor
