/- Policies in memory; walks of package policy. -/
import Derived.Test.YtjhhodndlkpmhaaGreatDoorName
namespace Go.Proofs.YtjhhodndlkpmhaaGreatDoor
set_option linter.all false
set_option maxHeartbeats 1000000
set_option maxRecDepth 100000
open Go.RowKit Tryz
structure za_ where
 name:ByteArray
 every:Int
 keep:Int
 shards:Int
def za_.cells(t:za_):List Value:=[.string t.name,.int .i64 t.every,.int .i64 t.keep,.int .i64 t.shards]
def za_.val(t:za_):Value:=.agg #[.string t.name,.int .i64 t.every,.int .i64 t.keep,.int .i64 t.shards]
def zah(l:List za_):List Value:=l.flatMap za_.cells
theorem zeC(l:List za_):(zah l).length=l.length*4:=by
 induction l with
 | nil=>rfl
 | cons a t ih=>simp only[zah,List.flatMap_cons,q8_] at ih ⊢;rw[ih];simp[za_.cells];omega
theorem zd1{l:List za_}{k:Nat}{t:za_}(h:l[k]? =some t)(j:Nat)(hj:j<4):(zah l)[k*4+j]? =t.cells[j]? :=by
 induction l generalizing k with
 | nil=>cases h
 | cons a r ih=>
  cases k with
  | zero=>
   simp only[q3_,Option.some.injEq] at h;subst h;simp only[zah,List.flatMap_cons];rw[List.getElem?_append_left (by simp[za_.cells];omega)];simp
  | succ k=>
   simp only[q2_] at h;have:=ih h;simp only[zah,List.flatMap_cons];rw[List.getElem?_append_right (by simp[za_.cells];omega)];rw[← this];simp only[zah]
   congr 1
   simp[za_.cells];omega
theorem Rd.tier{w:World}{n k:Nat}{A:Option Addr}{l:List za_}(h:Rd w 4 A n (zah l))(hk:k<n):
  ∃ ad t,A=some ad∧l[k]? =some t∧w.cell? (ad.add (k*4))=some (.string t.name)∧w.cell? ⟨(ad.add (k*4)).block,(ad.add (k*4)).off+1,none⟩=some (.int .i64 t.every)∧w.cell? ⟨(ad.add (k*4)).block,(ad.add (k*4)).off+2,none⟩=some (.int .i64 t.keep)∧w.cell? ⟨(ad.add (k*4)).block,(ad.add (k*4)).off+3,none⟩=some (.int .i64 t.shards):=by
 obtain⟨ad,e,hc⟩:=h.2 (by omega)
 have hl:k<l.length:=by have:=h.1;rw[zeC] at this;omega
 have ht:=q6_ hl;refine⟨ad,l[k],e,ht,hc _ _ (zd1 ht 0 (by decide)),?_,?_,?_⟩
 ·rw[← zaV _ _ (by decide),zcy];exact hc _ _ (zd1 ht 1 (by decide))
 ·rw[← zaV _ _ (by decide),zcy];exact hc _ _ (zd1 ht 2 (by decide))
 ·rw[← zaV _ _ (by decide),zcy];exact hc _ _ (zd1 ht 3 (by decide))
theorem Rd.tiers_len{w:World}{n:Nat}{A:Option Addr}{l:List za_}(h:Rd w 4 A n (zah l)):l.length=n:=by have:=h.1;rw[zeC] at this;omega
def named(l:List za_)(nm:ByteArray):Bool:=l.any fun x=>decide (x.name=nm)
def za_.ok(t:za_):Bool:=zaD t.name&&zbn t.keep 1000000&&zbn t.shards 8
def zdR(t:za_)(ahead:List za_):Bool:=
 t.ok&&match ahead.getLast? with
  | none=>(t.every==1)
  | some a=> !(named ahead t.name)&&decide (a.every<t.every)&&decide (t.every≤1000000)&&zau a.every t.every&&decide (a.keep≤t.keep)
theorem zf9(x:ByteArray)(hx:x.size≤maxLen)(b c:Nat)(w:World)(hc:w.cell? ⟨b,0,none⟩=some (.string x)):
  Calls prog 125 #[.slice (some ⟨b,0,none⟩) 1 c] w fun r w'=>r=.returned (.bool (zaD x))∧w=w':=by
 have h:=zns [x] (some ⟨b,0,none⟩) 1 c w ⟨rfl,fun _=>⟨_,rfl,fun j u hu=>by
  rcases j with _ | j
  ·simp at hu;subst hu;exact hc
  ·simp at hu⟩⟩ (by decide) (by simpa using hx)
 simpa using h
theorem zbV(x:ByteArray)(hx:x.size≤maxLen)(k c:Nat)(w:World)(t:TypeId)(hk:k=w.heap.size):
  Calls prog 125 #[.slice (some ⟨k,0,none⟩) 1 c] (w.alloc (.cells #[.string x] t)) fun r w'=>r=.returned (.bool (zaD x))∧w.alloc (.cells #[.string x] t)=w':=
 zf9 x hx k c _ (by subst hk;exact zo4 _ _ _)
theorem zrw(a b:ByteArray):(a.toList==b.toList)=decide (a=b):=by
 rw[Bool.eq_iff_iff,beq_iff_eq,decide_eq_true_iff,Lib.toList_data,Lib.toList_data];exact⟨fun h=>ByteArray.ext (Array.toList_inj.mp h),fun h=>by rw[h]⟩
theorem zlk(nm:ByteArray)(p:Addr)(x:za_)(w:World)(hp:w.cell? p=some (.string nm)):
  Calls prog 162 #[.agg #[.string x.name,.int .i64 x.every,.int .i64 x.keep,.int .i64 x.shards],.pointer (some p)] w
   fun r w'=>r=.returned (.bool (decide (x.name=nm)))∧Below w.heap.size w w':=by
 have hp1:∀ o,(w.alloc o).cell? p=some (.string nm):=fun o=>(Fr.none_alloc _ _).cell hp (fun h=>h);have he:=zrw x.name nm
 obtain⟨b,hb⟩:∃ b,decide (x.name=nm)=b:=⟨_,rfl⟩
 rw[hb] at he ⊢;clear hb
 cases b<;>
 ·go_enter func162,ntmps162
  go_wp2;go_ret;exact⟨rfl,((Own.start w).skip (Fr.none_alloc _ _)).bel⟩
theorem zhG{l:List za_}{nm:ByteArray}{k:Nat}{x:za_}(h:l[k]? =some x)(ha:named (l.take k) nm=false):named (l.take (k+1)) nm=decide (x.name=nm):=by
 unfold named at ha ⊢;rw[zan h,List.any_append,ha];simp
theorem zmJ{l:List za_}{nm:ByteArray}{k:Nat}(ha:named (l.take k) nm=true):named l nm=true:=by
 unfold named at ha ⊢;rw[List.any_eq_true] at ha ⊢;obtain⟨x,hx,h⟩:=ha;exact⟨x,List.mem_of_mem_take hx,h⟩
theorem zoG(nm:ByteArray)(p:Addr)(l:List za_)(A:Option Addr)(n c:Nat)(w:World)(hr:Rd w 4 A n (zah l))(hp:w.cell? p=some (.string nm))(hn:n≤1099511627776):
  Calls prog 192 #[.slice A n c,.func (Fn.func 162) #[] #[.pointer (some p)]] w
   fun r w'=>(∃ k:Int,r=.returned (.int .i64 k)∧decide (0≤k)=named l nm)∧Below w.heap.size w w':=by
 have Hlen:=q0_ hr.tiers_len;go_enter func192,ntmps192;go_wp2_with fail
 go_loopw [8] (fun i wr=>∃ k:Nat,k≤n∧i=.int .i64 k∧Below w.heap.size w wr∧Hid (named (l.take k) nm=false)) (fun i _=>n-(intOf i).toNat)
 case atStart=>exact⟨0,Nat.zero_le _,rfl,Below.refl _ _,rfl⟩
 case round=>
  obtain⟨k,hk,rfl,hb,ha⟩:=hrel
  by_cases hlt:k<n
  ·obtain⟨ad,x,rfl,hu,d0,d1,d2,d3⟩:=(hr.below hb).tier hlt
   have Hu:=q0_ hu;have Hb:=q0_ hb;have Hp:=q0_ ((Fr.of_below (F:=fun _=>False) hb).cell hp (fun h=>h));clear hu hb
   by_cases he:decide (x.name=nm)=true
   ·have E:=q0_ (zmJ (k:=k+1) (by rw[zhG Hu.out ha.out];exact he))
    have He:=q0_ he;clear he;go_wp2_with fail;refine (zlk nm p x _ Hp.out).mono ?_;rw[He.out];rintro r w1 ⟨rfl,hb1⟩;have Hb1:=q0_ hb1;clear hb1 d0 d1 d2 d3;go_wp2;go_ret;exact⟨⟨(k:Int),rfl,by rw[E.out];exact qa_ (by omega)⟩,((Own.start w).below Hb.out |>.below Hb1.out).bel⟩
   ·have He:=q0_ (show decide (x.name=nm)=false by simpa using he)
    have E:=q0_ (show named (l.take (k+1)) nm=false by rw[zhG Hu.out ha.out];exact He.out);clear he;go_wp2_with fail;refine (zlk nm p x _ Hp.out).mono ?_;rw[He.out];rintro r w1 ⟨rfl,hb1⟩;have Hb1:=q0_ hb1;clear hb1 d0 d1 d2 d3;go_wp2
    go_roundw
    case rel=>exact⟨k+1,by omega,by go_num,((Own.start w).below Hb.out |>.below Hb1.out).bel,E.out⟩
    case measure=>simp[intOf];omega
  ·obtain rfl:k=n:=by omega
   have Hb:=q0_ hb;clear hb;go_wp2;go_ret;have:=ha.out;rw[za3 (by have:=Hlen.out;omega)] at this;exact⟨⟨-1,rfl,by rw[this];rfl⟩,Hb.out⟩
theorem zjJ(nm:ByteArray)(p:Addr)(l:List za_)(A:Option Addr)(n c:Nat)(w:World)(hr:Rd w 4 A n (zah l))(hp:w.cell? p=some (.string nm))(hn:n≤1099511627776):
  Calls prog 161 #[.slice A n c,.func (Fn.func 162) #[] #[.pointer (some p)]] w
   fun r w'=>r=.returned (.bool (named l nm))∧Below w.heap.size w w':=by
 have H:=q0_ (zoG nm p l A n c w hr hp hn)
 obtain⟨b,hb⟩:∃ b,named l nm=b:=⟨_,rfl⟩
 rw[hb];have Hnb:=q0_ hb;clear hb hr hp;go_enter func161,ntmps161;go_wp2_with fail;refine H.out.mono ?_;rintro r w1 ⟨⟨k,rfl,hk⟩,hb⟩;have Hb:=q0_ hb;rw[Hnb.out] at hk;clear hb
 cases b
 ·have h0:k<0:=by have:=of_decide_eq_false hk;omega
  clear hk;go_wp2_with fail
  all_goals (go_ret<;>exact⟨by simp[*],Hb.out⟩)
 ·have h0:0≤k:=of_decide_eq_true hk
  clear hk;go_wp2_with fail
  all_goals (go_ret<;>exact⟨by simp[*],Hb.out⟩)
theorem zoQ(t:za_)(ht:t.name.size≤maxLen)(ahead:List za_)(A:Option Addr)(n c:Nat)(w:World)(hr:Rd w 4 A n (zah ahead))(hn:n≤1099511627776):
  Calls prog 127 #[t.val,.slice A n c] w fun r w'=>r=.returned (.bool (zdR t ahead))∧Below w.heap.size w w':=by
 unfold za_.val;have Ht:=q0_ ht;have Hlen:=q0_ hr.tiers_len;clear ht
 by_cases hok:t.ok=true
 ·have hok':=hok
  unfold za_.ok at hok';simp only[Bool.and_eq_true] at hok';obtain⟨⟨o1,o2⟩,o3⟩:=hok'
  by_cases h0:n=0
  ·subst h0
   obtain rfl:ahead=[]:=List.eq_nil_of_length_eq_zero Hlen.out;clear hr;rw[show zdR t []=(t.every==1) by simp[zdR,hok]];have O1:=q0_ o1;have O2:=q0_ o2;have O3:=q0_ o3;clear o1 o2 o3 hok;go_enter func127,ntmps127;go_wp2_with fail;refine (zbV t.name Ht.out _ _ _ _ (by simp)).mono ?_;rw[O1.out];rintro r w1 ⟨rfl,rfl⟩;go_wp2_with fail;refine (zby _ _ _).mono ?_;rw[O2.out];rintro r w1 ⟨rfl,rfl⟩;go_wp2_with fail;refine (zby _ _ _).mono ?_;rw[O3.out];rintro r w1 ⟨rfl,rfl⟩;go_wp2;go_ret;exact⟨rfl,(((Own.start w).skip (Fr.none_alloc _ _)).skip (Fr.none_alloc _ _)).bel⟩
  ·have h1:0<n:=by omega
   obtain⟨ad,la,rfl,hla,d0,d1,d2,d3⟩:=hr.tier (k:=n-1) (by omega);have O1:=q0_ o1;have O2:=q0_ o2;have O3:=q0_ o3;have Hla:=q0_ hla;clear o1 o2 o3 hla
   have i1:((n:Int)==0)=false:=by simp;omega
   have i2:(n:Int)-1=((n-1:Nat):Int):=by omega
   have i3:n-1<n:=by omega
   obtain⟨m,hm⟩:∃ m,n-1=m:=⟨_,rfl⟩
   rw[hm] at d0 d1 d2 d3 i2 i3
   replace d0:=zlO d0
   replace d1:=zlO d1
   replace d2:=zlO d2
   replace d3:=zlO d3
   have Hr:=q0_ hr;have Hok:=q0_ hok;clear hr hok hm h0;go_enter func127,ntmps127;go_wp2_with fail;refine (zbV t.name Ht.out _ _ _ _ (by simp)).mono ?_;rw[O1.out];rintro r w1 ⟨rfl,rfl⟩;go_wp2_with fail;refine (zby _ _ _).mono ?_;rw[O2.out];rintro r w1 ⟨rfl,rfl⟩;go_wp2_with fail;refine (zby _ _ _).mono ?_;rw[O3.out];rintro r w1 ⟨rfl,rfl⟩;go_wp2_with fail;have B0:=q0_ ((Blk.new w 130 #[.string t.name,.int .i64 t.every,.int .i64 t.keep,.int .i64 t.shards]).alloc (.cells #[.string t.name] 9) |>.alloc (.cells #[.string la.name,.int .i64 la.every,.int .i64 la.keep,.int .i64 la.shards] 130));have B1:=q0_ (Blk.new' (w:=(w.alloc (.cells #[.string t.name,.int .i64 t.every,.int .i64 t.keep,.int .i64 t.shards] 130)).alloc (.cells #[.string t.name] 9)) (k:=w.heap.size+1+1) (by simp) 130 #[.string la.name,.int .i64 la.every,.int .i64 la.keep,.int .i64 la.shards]);have R3:=q0_ (((Hr.out.alloc (.cells #[.string t.name,.int .i64 t.every,.int .i64 t.keep,.int .i64 t.shards] 130)).alloc (.cells #[.string t.name] 9)).alloc (.cells #[.string la.name,.int .i64 la.every,.int .i64 la.keep,.int .i64 la.shards] 130));have O:=q0_ ((((Own.start w).skip (Fr.none_alloc w (.cells #[.string t.name,.int .i64 t.every,.int .i64 t.keep,.int .i64 t.shards] 130))).skip (Fr.none_alloc _ (.cells #[.string t.name] 9))).skip (Fr.none_alloc _ (.cells #[.string la.name,.int .i64 la.every,.int .i64 la.keep,.int .i64 la.shards] 130)));refine (zjJ t.name _ ahead _ n c _ R3.out (B0.out.cell 0) hn).mono ?_;rintro r w1 ⟨rfl,hb⟩;have c1:=(B0.out.below hb).cell 1;have c2:=(B0.out.below hb).cell 2;have e1:=(B1.out.below hb).cell 1;have e2:=(B1.out.below hb).cell 2;simp only[q1_,q2_,q3_] at c1 c2 e1 e2;have O2:=q0_ (O.out.below hb)
   have hfin:zdR t ahead=(!(named ahead t.name)&&decide (la.every<t.every)&&decide (t.every≤1000000)&&zau la.every t.every&&decide (la.keep≤t.keep)):=by
    unfold zdR;rw[Hok.out,List.getLast?_eq_getElem?,Hlen.out,Hla.out];rfl
   have Hfin:=q0_ hfin;clear d0 d1 d2 d3 hb hfin B0 B1 R3 O
   cases hnm:named ahead t.name
   ·by_cases f1:la.every<t.every
    ·by_cases f2:t.every≤1000000
     ·cases hdv:zau la.every t.every
      ·go_wp2_with fail
       refine (zcF _ _ _).mono ?_;rw[hdv];rintro r w2 ⟨rfl,rfl⟩;go_wp2;go_ret;exact⟨by rw[Hfin.out];simp[*]<;>(intros;omega),O2.out.bel⟩
      ·by_cases f3:la.keep≤t.keep
       ·go_wp2_with fail
        refine (zcF _ _ _).mono ?_;rw[hdv];rintro r w2 ⟨rfl,rfl⟩;go_wp2;go_ret;exact⟨by rw[Hfin.out];simp[*]<;>(intros;omega),O2.out.bel⟩
       ·go_wp2_with fail
        refine (zcF _ _ _).mono ?_;rw[hdv];rintro r w2 ⟨rfl,rfl⟩;go_wp2;go_ret;exact⟨by rw[Hfin.out];simp[*]<;>(intros;omega),O2.out.bel⟩
     ·go_wp2
      go_ret;exact⟨by rw[Hfin.out];simp[*]<;>(intros;omega),O2.out.bel⟩
    ·go_wp2
     go_ret;exact⟨by rw[Hfin.out];simp[*]<;>(intros;omega),O2.out.bel⟩
   ·go_wp2
    go_ret;exact⟨by rw[Hfin.out];simp[*]<;>(intros;omega),O2.out.bel⟩
 ·rw[show zdR t ahead=false by unfold zdR;rw[show t.ok=false by simpa using hok];rfl]
  have O:=q0_ (((Own.start w).skip (Fr.none_alloc w (.cells #[.string t.name,.int .i64 t.every,.int .i64 t.keep,.int .i64 t.shards] 130))).skip (Fr.none_alloc _ (.cells #[.string t.name] 9)));unfold za_.ok at hok;clear hr
  cases hv:zaD t.name
  ·have Hv:=q0_ hv
   clear hok hv;go_enter func127,ntmps127;go_wp2_with fail;refine (zbV t.name Ht.out _ _ _ _ (by simp)).mono ?_;rw[Hv.out];rintro r w1 ⟨rfl,rfl⟩;go_wp2;go_ret;exact⟨rfl,O.out.bel⟩
  ·have Hv:=q0_ hv
   cases hk:zbn t.keep 1000000
   ·have Hk:=q0_ hk
    clear hok hv hk;go_enter func127,ntmps127;go_wp2_with fail;refine (zbV t.name Ht.out _ _ _ _ (by simp)).mono ?_;rw[Hv.out];rintro r w1 ⟨rfl,rfl⟩;go_wp2_with fail;refine (zby _ _ _).mono ?_;rw[Hk.out];rintro r w1 ⟨rfl,rfl⟩;go_wp2;go_ret;exact⟨rfl,O.out.bel⟩
   ·have Hk:=q0_ hk
    have Hs:=q0_ (show zbn t.shards 8=false by rw[hv,hk] at hok;simpa using hok);clear hok hv hk;go_enter func127,ntmps127;go_wp2_with fail;refine (zbV t.name Ht.out _ _ _ _ (by simp)).mono ?_;rw[Hv.out];rintro r w1 ⟨rfl,rfl⟩;go_wp2_with fail;refine (zby _ _ _).mono ?_;rw[Hk.out];rintro r w1 ⟨rfl,rfl⟩;go_wp2_with fail;refine (zby _ _ _).mono ?_;rw[Hs.out];rintro r w1 ⟨rfl,rfl⟩;go_wp2;go_ret;exact⟨rfl,O.out.bel⟩
def zfS(nm:ByteArray)(A:Option Addr)(n c:Nat):Value:=.agg #[.string nm,.slice A n c]
def zfN(l:List za_)(i:Nat):Bool:=match l[i]? with | some t=>zdR t (l.take i) | none=>true
def zak(nm:ByteArray)(l:List za_):Bool:=zaD nm&&zbn (l.length:Int) 5&&(List.range l.length).all (zfN l)
def zfw(b:Bool):Int:=bif b then 0 else 23
theorem zkg(l:List za_)(k:Nat):zah (l.take k)=(zah l).take (k*4):=by
 induction l generalizing k with
 | nil=>simp[zah]
 | cons a r ih=>
  cases k with
  | zero=>simp[zah]
  | succ k=>
   have:=ih k;simp only[zah] at this;simp only[List.take_succ_cons,zah,List.flatMap_cons,this];rw[show (k+1)*4=a.cells.length+k*4 by simp[za_.cells];omega,List.take_length_add_append]
theorem Rd.takeT{w:World}{n k:Nat}{A:Option Addr}{l:List za_}(h:Rd w 4 A n (zah l))(hk:k≤n):Rd w 4 A k (zah (l.take k)):=by
 rw[zkg];exact h.take hk
theorem zdV(nm:ByteArray)(hnm:nm.size≤maxLen)(l:List za_)(A:Option Addr)(n c:Nat)(w:World)(hr:Rd w 4 A n (zah l))(hnc:n≤c)(hsz:∀ t∈l,t.name.size≤maxLen):
  Calls prog 79 #[zfS nm A n c] w fun r w'=>(∃ k:Int,r=.returned (.tuple #[.int .i64 (zfw (zak nm l)),.int .i64 k]))∧Below w.heap.size w w':=by
 unfold zfS;have Hnm:=q0_ hnm;have Hsz:=q0_ hsz;have Hlen:=q0_ hr.tiers_len;have Hr:=q0_ hr;have O:=q0_ (((Own.start w).skip (Fr.none_alloc w (.cells #[.string nm,.slice A n c] 51))).skip (Fr.none_alloc _ (.cells #[.string nm] 9)));have B:=q0_ ((Blk.new w 51 #[.string nm,.slice A n c]).alloc (.cells #[.string nm] 9));clear hnm hsz hr
 cases hv:zaD nm
 ·have Hv:=q0_ hv
  rw[show zak nm l=false by unfold zak;rw[hv];rfl];clear hv;go_enter func79,ntmps79;go_wp2_with fail;refine (zbV nm Hnm.out _ _ _ _ (by simp)).mono ?_;rw[Hv.out];rintro r w1 ⟨rfl,rfl⟩;go_wp2
  go_ret2
  exact⟨⟨0,rfl⟩,O.out.bel⟩
 ·have Hv:=q0_ hv
  cases hw:zbn (l.length:Int) 5
  ·have Hw:=q0_ (show zbn (n:Int) 5=false by rw[← Hlen.out];exact hw)
   rw[show zak nm l=false by unfold zak;rw[hv,hw];rfl];clear hv hw;go_enter func79,ntmps79;go_wp2_with fail;refine (zbV nm Hnm.out _ _ _ _ (by simp)).mono ?_;rw[Hv.out];rintro r w1 ⟨rfl,rfl⟩;go_wp2_with fail;refine (zby _ _ _).mono ?_;rw[Hw.out];rintro r w1 ⟨rfl,rfl⟩;go_wp2
   go_ret2
   exact⟨⟨0,rfl⟩,O.out.bel⟩
  ·have Hw:=q0_ (show zbn (n:Int) 5=true by rw[← Hlen.out];exact hw)
   have hn5:n≤5:=by have:=Hw.out;unfold zbn at this;simp at this;omega
   rw[show zak nm l=(List.range l.length).all (zfN l) by unfold zak;rw[hv,hw];rfl]
   obtain⟨b,hb0⟩:∃ b,(List.range l.length).all (zfN l)=b:=⟨_,rfl⟩
   rw[hb0];have Hb0:=q0_ hb0;clear hv hw hb0;go_enter func79,ntmps79;go_wp2_with fail;refine (zbV nm Hnm.out _ _ _ _ (by simp)).mono ?_;rw[Hv.out];rintro r w1 ⟨rfl,rfl⟩;go_wp2_with fail;refine (zby _ _ _).mono ?_;rw[Hw.out];rintro r w1 ⟨rfl,rfl⟩;go_wp2_with fail
   go_loopw [21] (fun i wr=>∃ k:Nat,k≤n∧i=.int .i64 k∧Blk wr w.heap.size 51 #[.string nm,.slice A n c]∧Own w wr (fun _=>False)∧Hid ((List.range k).all (zfN l)=true)) (fun i _=>n-(intOf i).toNat)
   case atStart=>exact⟨0,Nat.zero_le _,rfl,B.out,O.out,rfl⟩
   case round=>
    obtain⟨k,hk,rfl,hb,ho,ha⟩:=hrel
    by_cases hlt:k<n
    ·have hR:=Hr.out.below ho.bel
     obtain⟨ad,x,rfl,hu,d0,d1,d2,d3⟩:=hR.tier hlt;have HR:=q0_ hR;have Hu:=q0_ hu;have Ho:=q0_ ho;have Hb:=q0_ hb;clear hu hR ho hb;go_wp2_with fail
     obtain⟨W1,hW1⟩:∃ W1,W1=wr.alloc (.cells #[.string x.name,.int .i64 x.every,.int .i64 x.keep,.int .i64 x.shards] 130):=⟨_,rfl⟩
     rw[← hW1];have HW1:=q0_ hW1;have hbx:Blk W1 wr.heap.size 130 #[.string x.name,.int .i64 x.every,.int .i64 x.keep,.int .i64 x.shards]:=hW1▸Blk.new _ _ _;have e0:=hbx.cell 0;have e1:=hbx.cell 1;have e2:=hbx.cell 2;have e3:=hbx.cell 3;have hb1:Blk W1 w.heap.size 51 #[.string nm,.slice (some ad) n c]:=hW1▸Hb.out.alloc _;have c1:=hb1.cell 1;simp only[q1_,q2_,q3_] at c1 e0 e1 e2 e3;clear hW1 d0 d1 d2 d3 hbx hb1
     have hkc:k≤c:=by omega
     have hkc':(k:Int)≤(c:Int):=by omega
     go_still_tail 5,(by kernel_rfl)
     repeat still_step
     try refine wpStill_nil ?_
     change wpList _ _ _ _ _ W1.drew
     have hR2:Rd W1.drew 4 (some ad) k (zah (l.take k)):=by
      rw[HW1.out];exact ((HR.out.alloc _).takeT hk).drew
     have HR2:=q0_ hR2
     have hO2:Own w W1.drew (fun _=>False):=((Ho.out.skip (Fr.none_alloc wr (.cells #[.string x.name,.int .i64 x.every,.int .i64 x.keep,.int .i64 x.shards] 130))).skip (by rw[← HW1.out];exact (Fr.refl _ W1).drew))
     have HO2:=q0_ hO2
     have hB2:Blk W1.drew w.heap.size 51 #[.string nm,.slice (some ad) n c]:=by
      rw[HW1.out];exact (Hb.out.alloc _).drew
     have HB2:=q0_ hB2
     have hfa:zfN l k=zdR x (l.take k):=by unfold zfN;rw[Hu.out]
     have Hfa:=q0_ hfa;have hxs:=Hsz.out x (zab Hu.out);clear hR2 hO2 hB2 hfa c1 e0 e1 e2 e3 HW1 hkc hkc';go_wp2_with fail;refine (zoQ x hxs (l.take k) (some ad) k c W1.drew HR2.out (by omega)).mono ?_;rintro r w2 ⟨rfl,hb2⟩;have HO3:=q0_ (HO2.out.below hb2);have HB3:=q0_ (HB2.out.below hb2);clear hxs hb2
     cases hf:zdR x (l.take k)
     ·have E:b=false:=by
       rw[← Hb0.out];rw[List.all_eq_false];exact⟨k,List.mem_range.2 (by rw[Hlen.out];exact hlt),by rw[Hfa.out,hf];decide⟩
      subst E;clear hf;go_wp2
      go_ret2
      exact⟨⟨_,rfl⟩,HO3.out.bel⟩
     ·have Hf:=q0_ hf
      clear hf;go_wp2
      go_roundw
      case rel=>exact⟨k+1,by omega,by go_num,HB3.out,HO3.out,by
       show (List.range (k+1)).all (zfN l)=true
       rw[List.range_succ,List.all_append,ha.out]
       simp[Hfa.out,Hf.out]⟩
      case measure=>simp[intOf];omega
    ·obtain rfl:k=n:=by omega
     have Ho:=q0_ ho
     have E:b=true:=by rw[← Hb0.out,Hlen.out];exact ha.out
     subst E;clear hb ho;go_wp2
     go_ret2
     exact⟨⟨_,rfl⟩,Ho.out.bel⟩
end Go.Proofs.YtjhhodndlkpmhaaGreatDoor
