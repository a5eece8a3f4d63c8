/- Walk of plan: fits. -/
import Derived.Test.YtjhhodndlkpmhaaGreatDoorTiersLoad
import Derived.Test.YtjhhodndlkpmhaaGreatDoorGoodX
namespace Go.Proofs.YtjhhodndlkpmhaaGreatDoor
set_option linter.all false
set_option maxHeartbeats 8000000
set_option maxRecDepth 100000
open Go.RowKit Tryz
def zpz(l:List za_)(lt:List za_)(ss:List Int)(i:Nat):Bool:=
 match ss[i]?,lt[i]? with
 | some s,some y=>decide (0≤s)&&(match l[s.toNat]? with | some x=>zau x.every y.every | none=>false)
 | _,_=>false
def zeW(l:List za_)(nm:ByteArray)(lt:List za_)(ss:List Int):Bool:=zak nm lt&&decide (ss.length=lt.length)&&(List.range ss.length).all (zpz l lt ss)
theorem ziB{l:List za_}{nm:ByteArray}{lt:List za_}{ss:List Int}{k:Nat}(hk:k<ss.length)(h:zpz l lt ss k=false):zeW l nm lt ss=false:=by
 unfold zeW;rw[Bool.and_eq_false_iff]
 right
 rw[List.all_eq_false];exact⟨k,List.mem_range.2 hk,by rw[h];simp⟩
theorem zjz{l:List za_}{nm:ByteArray}{lt:List za_}{ss:List Int}(h1:zak nm lt=true)(h2:ss.length=lt.length)(h:∀ k,k<ss.length→zpz l lt ss k=true):zeW l nm lt ss=true:=by
 unfold zeW;rw[h1,qa_ h2,List.all_eq_true.2 (fun k hk=>h k (List.mem_range.1 hk))]
 rfl
theorem zlJ{l:List za_}{nm:ByteArray}{lt:List za_}{ss:List Int}(h:zeW l nm lt ss=true):zak nm lt=true∧ss.length=lt.length∧∀ k,k<lt.length→∃ (i:Nat) (x y:za_),ss[k]? =some (i:Int)∧l[i]? =some x∧lt[k]? =some y∧zau x.every y.every=true:=by
 unfold zeW at h;simp only[Bool.and_eq_true,decide_eq_true_eq] at h;obtain⟨⟨h1,h2⟩,h3⟩:=h;refine⟨h1,h2,fun k hk=>?_⟩;have h4:=List.all_eq_true.1 h3 k (List.mem_range.2 (by omega));have e1:ss[k]? =some ss[k]:=q6_ (by omega);have e2:lt[k]? =some lt[k]:=q6_ hk;unfold zpz at h4;rw[e1,e2] at h4;simp only[Bool.and_eq_true,decide_eq_true_eq] at h4;obtain⟨h5,h6⟩:=h4;obtain⟨i,hi⟩:=Int.eq_ofNat_of_zero_le h5;rw[hi] at h6 e1;rw[Int.toNat_natCast] at h6
 cases hx:l[i]? with
 | none=>rw[hx] at h6;simp at h6
 | some x=>rw[hx] at h6;exact⟨i,x,_,e1,hx,e2,h6⟩
theorem zjf(nm:ByteArray)(hnm:nm.size≤maxLen)(lt:List za_)(A:Option Addr)(n c:Nat)(ss:List Int)(S:Option Addr)(m d:Nat)(t base:Nat)(X:zaa)(w:World)(ht:Rd w 4 A n (zah lt))(hnc:n≤c)(hn9:n≤1099511627776)(hwt:∀ t∈lt,t.wf)(hs:Rd w 1 S m (zbg ss))(hm9:m≤1099511627776)(hss:∀ s∈ss,i64 s)(h:zbw w t base X)(hn:X.tiers.length≤1000)(hwf:∀ x∈X.tiers,x.wf):
  Calls prog 132 #[zfm nm A n c S m d,.pointer (some ⟨t,0,none⟩)] w fun r w'=>r=.returned (.bool (zeW X.tiers nm lt ss))∧Below w.heap.size w w':=by
 unfold zfm
 have HCk:Hid (∀ w',Fr (fun _=>False) w w'→Calls prog 79 #[.agg #[.string nm,.slice A n c]] w' fun r w''=>(∃ k:Int,r=.returned (.tuple #[.int .i64 (zfw (zak nm lt)),.int .i64 k]))∧Below w'.heap.size w' w''):=
  fun w' h=>zdV nm hnm lt A n c w' (ht.fr0 h) hnc (fun t ht=>(hwt t ht).2.2.2)
 obtain⟨tA,tc,tB,td,T,ct,tb,hi⟩:=h;have Ht:=q0_ ht;have Hs:=q0_ hs;have Hln:=q0_ ht.tiers_len;have Hlm:Hid (ss.length=m):=Rd.len_map hs;have Hwt:=q0_ hwt;have Hwf:=q0_ hwf;have Hss:=q0_ hss;have Hi:=q0_ hi;have F0:=q0_ (Fr.none_alloc w (.cells #[.string nm,.slice A n c,.slice S m d] 106));have B0:=q0_ (Blk.new w 106 #[.string nm,.slice A n c,.slice S m d])
 obtain⟨res,hres⟩:∃ b,zeW X.tiers nm lt ss=b:=⟨_,rfl⟩
 have Hres:=q0_ hres;rw[hres];clear ht hs hwt hwf hss hi hres;go_enter func132,ntmps132;go_wp2_with fail
 obtain⟨W1,hW1⟩:∃ W1,W1=w.alloc (.cells #[.string nm,.slice A n c,.slice S m d] 106):=⟨_,rfl⟩
 rw[← hW1];rw[← hW1] at F0 B0;clear hW1;refine (HCk.out _ F0.out).mono ?_;rintro r w2 ⟨⟨kk,rfl⟩,b2⟩;have F2:=q0_ (F0.out.trans (Fr.b0 b2) q4_);have B2:=q0_ (B0.out.fr (Fr.b0 b2) (fun h=>h));clear b2 F0 B0 HCk;have p0:=B2.out.cell 0;have p1:=B2.out.cell 1;have p2:=B2.out.cell 2;simp only[q1_,q2_,q3_] at p0 p1 p2
 cases hc:zak nm lt with
 | false=>
  have hr:res=false:=by rw[← Hres.out];unfold zeW;rw[hc];rfl
  subst hr;clear hc;unfold zfw;go_wp2;go_ret;exact⟨rfl,F2.out.below q4_⟩
 | true=>
 have Hck:=q0_ hc;clear hc;unfold zfw
 by_cases hmn:m=n
 case neg=>
  have hr:res=false:=by rw[← Hres.out];unfold zeW;rw[q9_ (by rw[Hlm.out,Hln.out];exact hmn)];simp
  subst hr
  have hm1:((m:Int) != (n:Int))=true:=by rw[bne_iff_ne];omega
  have hm2:(m != n)=true:=by simpa using hmn
  have hm3:¬ ((m:Int)=(n:Int)):=by omega
  have hm4:decide (m=n)=false:=q9_ hmn;go_wp2;go_ret;exact⟨by first | rfl | simp[*],F2.out.below q4_⟩
 case pos=>
 subst hmn;go_wp2_with fail;have O2:Hid (Fr (fun _=>False) w2 w2):=Fr.refl _ _;clear p0 p1 p2
 go_loopw [34] (fun i wr=>∃ k:Nat,k≤m∧i=.int .i64 k∧Fr (fun _=>False) w2 wr∧∀ j,j<k→zpz X.tiers lt ss j=true) (fun i _=>m-(intOf i).toNat)
 case atStart=>exact⟨0,Nat.zero_le _,rfl,O2.out,fun j hj=>absurd hj (by omega)⟩
 case round=>
  obtain⟨k,hk,rfl,hf,hall⟩:=hrel;have Hf:=q0_ hf;have Hall:=q0_ hall;clear hf hall O2
  by_cases hlt:k<m
  ·have Fr1:=q0_ (F2.out.trans Hf.out q4_)
   obtain⟨ad,s,rfl,hs,d0⟩:=Rd.at_map (f:=Value.int .i64) (l:=ss) (Hs.out.fr0 Fr1.out) hlt;have hs64:=Hss.out s (zab hs);have hi64: -9223372036854775808≤s∧s≤9223372036854775807:=hs64
   obtain⟨Tc,X2⟩:∃ z:Nat,z=X.tiers.length:=⟨_,rfl⟩
   have Bp:=q0_ (B2.out.fr Hf.out (fun h=>h));have Bt:=q0_ (Hi.out.fr0 Fr1.out).blk
   have hkn:0≤(k:Int)∧(k:Int)<(m:Int):=by omega
   have HC:Hid (∀ W,Fr (fun _=>False) wr W→W.cell? ⟨w.heap.size,0,none⟩=some (.string nm)∧W.cell? ⟨w.heap.size,1,none⟩=some (.slice A m c)∧W.cell? ⟨w.heap.size,2,none⟩=some (.slice (some ad) m d)∧W.cell? ⟨t,2,none⟩=some (.slice tA Tc tc)):=fun W f=>
    ⟨(Bp.out.fr f (fun h=>h)).cell 0,(Bp.out.fr f (fun h=>h)).cell 1,(Bp.out.fr f (fun h=>h)).cell 2,by rw[X2];exact (Bt.out.fr f (fun h=>h)).cell 2⟩
   have Hs1:=q0_ hs;have X3:=q0_ X2
   have hTc:Tc≤1000:=by rw[X2];exact hn
   clear hs hs64 X2;have q0:=(HC.out _ (Fr.refl _ _)).2.2.1
   by_cases hs0:s<0
   ·have hd0:decide (s<0)=true:=qa_ hs0
    have hr:res=false:=by
     rw[← Hres.out];refine ziB (k:=k) (by rw[Hlm.out];exact hlt) ?_;unfold zpz;rw[Hs1.out];have:decide (0≤s)=false:=q9_ (by omega)
     split
     ·rename_i e _;injection e with e;subst e;rw[this];rfl
     ·rfl
    subst hr;go_wp2_with fail;refine wp_region_held_drew (S:=fun W=>Fr (fun _=>False) wr W) (by kernel_rfl) ((Fr.refl _ wr).drew) (fun hY_=>?_);refine tq 34 [0,1,2,3,4,5,6,7,8,9,10,11,12,13,14,15,16,17,18,19,20,21,22,23,24,25,26,27,28,29,30,31,32,33] ?_
    iterate 2 refine sf HC.out ?_
    refine sk ?_
    try simp only[Act.put,sA,sB,sC]
    iterate 8 (refine su ?_;try simp only[Act.put,sA,sB,sC])
    refine su ?_;refine sk ?_;refine sk ?_
    try simp only[Act.put,sA,sB,sC]
    iterate 18 (refine su ?_;try simp only[Act.put,sA,sB,sC])
    refine su ?_;refine sk ?_
    try simp only[Act.put,sA,sB,sC]
    refine sz ?_
    try simp only[Act.put,sA,sB,sC]
    refine wpAnyH_done (by kernel_rfl) ?_ _;go_wp2;go_ret;exact⟨rfl,(Fr1.out.trans hY_ q4_).below q4_⟩
   ·have hd0:decide (s<0)=false:=q9_ hs0
    obtain⟨i,rfl⟩:=Int.eq_ofNat_of_zero_le (show 0≤s by omega);obtain⟨ay,y,rfl,hy,_,y1,_⟩:=(Ht.out.fr0 Fr1.out).tier hlt
    by_cases hlen:Tc≤i
    ·have hd1:decide ((Tc:Int)≤(i:Int))=true:=qa_ (by omega)
     have hd2:decide (Tc≤i)=true:=qa_ hlen
     have hr:res=false:=by
      rw[← Hres.out];refine ziB (k:=k) (by rw[Hlm.out];exact hlt) ?_;unfold zpz;rw[Hs1.out,hy];simp only[Int.toNat_natCast];rw[List.getElem?_eq_none (by rw[← X3.out];exact hlen)];simp
     subst hr;clear hy y1;go_wp2_with fail;refine wp_region_held_drew (S:=fun W=>Fr (fun _=>False) wr W) (by kernel_rfl) ((Fr.refl _ wr).drew) (fun hY_=>?_);refine tq 34 [0,1,2,3,4,5,6,7,8,9,10,11,12,13,14,15,16,17,18,19,20,21,22,23,24,25,26,27,28,29,30,31,32,33] ?_
     iterate 2 refine sf HC.out ?_
     iterate 9 (refine sf HC.out ?_;try simp only[Act.put,sA,sB,sC])
     iterate 2 refine sf HC.out ?_
     refine sk ?_
     try simp only[Act.put,sA,sB,sC]
     iterate 18 (refine su ?_;try simp only[Act.put,sA,sB,sC])
     refine su ?_;refine sk ?_
     try simp only[Act.put,sA,sB,sC]
     refine sz ?_
     try simp only[Act.put,sA,sB,sC]
     refine wpAnyH_done (by kernel_rfl) ?_ _;go_wp2;go_ret;exact⟨rfl,(Fr1.out.trans hY_ q4_).below q4_⟩
    ·have hd1:decide ((Tc:Int)≤(i:Int))=false:=q9_ (by omega)
     have hd2:decide (Tc≤i)=false:=q9_ hlen
     have hin:0≤(i:Int)∧(i:Int)<(Tc:Int):=by omega
     have hrow:Rd wr 4 tA Tc (zah X.tiers):=by rw[X3.out];exact (zat (Hi.out.fr0 Fr1.out).tiers).2.2.1
     obtain⟨ax,x,rfl,hx,_,x1,_⟩:=hrow.tier (show i<Tc by omega);have HDv:Hid (∀ W,Calls prog 163 #[.int .i64 x.every,.int .i64 y.every] W fun r w'=>r=.returned (.bool (zau x.every y.every))∧W=w'):=fun W=>zcF x.every y.every W
     have HB:Hid (zpz X.tiers lt ss k=zau x.every y.every):=by
      show _=_
      unfold zpz;rw[Hs1.out,hy];simp only[Int.toNat_natCast];rw[hx];simp
     have HC2:Hid (∀ W,Fr (fun _=>False) wr W→W.cell? ⟨w.heap.size,0,none⟩=some (.string nm)∧W.cell? ⟨w.heap.size,1,none⟩=some (.slice (some ay) m c)∧W.cell? ⟨w.heap.size,2,none⟩=some (.slice (some ad) m d)∧W.cell? ⟨t,2,none⟩=some (.slice (some ax) Tc tc)∧W.cell? ⟨(ax.add (i*4)).block,(ax.add (i*4)).off+1,none⟩=some (.int .i64 x.every)∧W.cell? ⟨(ay.add (k*4)).block,(ay.add (k*4)).off+1,none⟩=some (.int .i64 y.every)):=fun W f=>by
      obtain⟨k0,k1,k2,k3⟩:=HC.out W f;exact⟨k0,k1,k2,k3,f.cell x1 (fun h=>h),f.cell y1 (fun h=>h)⟩
     obtain⟨xe,hxe⟩:∃ z,x.every=z:=⟨_,rfl⟩
     obtain⟨ye,hye⟩:∃ z,y.every=z:=⟨_,rfl⟩
     rw[hxe,hye] at HDv HB HC2
     obtain⟨dv,hdv⟩:∃ z,zau xe ye=z:=⟨_,rfl⟩
     rw[hdv] at HDv HB;clear hrow hx hy x1 y1 hxe hye hdv HC
     cases dv with
     | false=>
      have hr:res=false:=by rw[← Hres.out];exact ziB (k:=k) (by rw[Hlm.out];exact hlt) HB.out
      subst hr;go_wp2_with fail;refine wp_region_held_drew (S:=fun W=>Fr (fun _=>False) wr W) (by kernel_rfl) ((Fr.refl _ wr).drew) (fun hY_=>?_);refine tq 31 [0,1,2,3,4,5,6,7,8,9,10,11,12,13,14,15,16,17,18,19,20,21,22,23,24,25,26,27,28,29,30] ?_
      iterate 2 refine sf HC2.out ?_
      iterate 9 (refine sf HC2.out ?_;try simp only[Act.put,sA,sB,sC])
      iterate 2 refine sf HC2.out ?_
      iterate 18 (refine sf HC2.out ?_;try simp only[Act.put,sA,sB,sC])
      refine sz ?_
      try simp only[Act.put,sA,sB,sC]
      refine rl 31 rfl (fun K hK=>?_);go_simp
      go_wp2_with (go_at_call 163;refine (HDv.out _).mono ?_;rintro r w5 ⟨rfl,rfl⟩)
      refine hK.out _ _ (hY_) (fun hY_=>?_);clear hK K
      try simp only[Act.put,sA,sB,sC]
      refine tq 2 [32,33] ?_;refine sk ?_;refine sk ?_
      try simp only[Act.put,sA,sB,sC]
      refine sz ?_
      try simp only[Act.put,sA,sB,sC]
      refine wpAnyH_done (by kernel_rfl) ?_ _;go_wp2;go_ret;exact⟨rfl,(Fr1.out.trans hY_ q4_).below q4_⟩
     | true=>
      go_wp2_with fail;refine wp_region_held_drew (S:=fun W=>Fr (fun _=>False) wr W) (by kernel_rfl) ((Fr.refl _ wr).drew) (fun hY_=>?_);refine tq 31 [0,1,2,3,4,5,6,7,8,9,10,11,12,13,14,15,16,17,18,19,20,21,22,23,24,25,26,27,28,29,30] ?_
      iterate 2 refine sf HC2.out ?_
      iterate 9 (refine sf HC2.out ?_;try simp only[Act.put,sA,sB,sC])
      iterate 2 refine sf HC2.out ?_
      iterate 18 (refine sf HC2.out ?_;try simp only[Act.put,sA,sB,sC])
      refine sz ?_
      try simp only[Act.put,sA,sB,sC]
      refine rl 31 rfl (fun K hK=>?_);go_simp
      go_wp2_with (go_at_call 163;refine (HDv.out _).mono ?_;rintro r w5 ⟨rfl,rfl⟩)
      refine hK.out _ _ (hY_) (fun hY_=>?_);clear hK K
      try simp only[Act.put,sA,sB,sC]
      refine tq 2 [32,33] ?_;refine sk ?_;refine sk ?_
      try simp only[Act.put,sA,sB,sC]
      refine sz ?_
      try simp only[Act.put,sA,sB,sC]
      refine wpAnyH_done (by kernel_rfl) ?_ _;go_wp2
      go_roundw
      case rel=>
       refine⟨k+1,by omega,by go_num,Hf.out.trans hY_ q4_,fun j hj=>?_⟩
       by_cases e:j=k
       ·subst e;exact HB.out
       ·exact Hall.out j (by omega)
      case measure=>simp[intOf];omega
  ·obtain rfl:k=m:=by omega
   have hr:res=true:=by rw[← Hres.out];exact zjz Hck.out (by rw[Hlm.out,Hln.out]) (fun j hj=>Hall.out j (by rw[Hlm.out] at hj;exact hj))
   subst hr;go_wp2;go_ret;exact⟨rfl,(F2.out.trans Hf.out q4_).below q4_⟩
def zcQ(X:zaa)(lt:List za_)(ss:List Int)(fl:List Int)(j:Nat):List zae:=
 match ss[j]?,lt[j]? with
 | some s,some y=>(match X.tiers[s.toNat]? with | some x=>zcH x.every y.every (zar X.now lt fl j) (X.tabs.getD s.toNat []) | none=>[])
 | _,_=>[]
def zap(X:zaa)(nm:ByteArray)(lt:List za_)(ss:List Int):zaa:=
 ⟨X.now,nm,lt,zaR X.now X.tiers X.floors ss lt,(List.range lt.length).map (zcQ X lt ss (zaR X.now X.tiers X.floors ss lt))⟩
def zcR(X:zaa)(nm:ByteArray)(lt:List za_)(ss:List Int):Int:=
 if zeW X.tiers nm lt ss=true then zfs nm lt X.now (zaR X.now X.tiers X.floors ss lt) else 1
theorem zpa{X:zaa}{nm:ByteArray}{lt:List za_}{ss:List Int}:zcR X nm lt ss=0∨zcR X nm lt ss=1:=by
 unfold zcR
 split
 ·rename_i h
  unfold zfs;rw[if_pos (zlJ h).1]
  split
  ·exact .inr rfl
  ·split
   ·exact .inl rfl
   ·exact .inr rfl
 ·exact .inr rfl
theorem zi4(e1 e fr:Int)(l:List zae):(zcH e1 e fr l).length≤l.length:=by
 unfold zcH
 split
 ·have h1:=zde (every:=e) (zeF e fr l) zav.nil
  have h2:=zi5 e fr l;simp only[List.length_nil] at h1;omega
 ·simp
theorem zaF{w W:World}{F:Nat→Prop}(f:Fr (fun j=>F j∧∃ es ck,w.heap[j]? =some (.map es ck)) w W){p:Addr}{v:Value}(h:w.cell? p=some v):W.cell? p=some v:=
 f.cell h (fun ⟨_,es,ck,hb⟩=>by
  unfold World.cell? at h;rw[hb] at h
  cases h)
theorem zmM{X:zaa}{j:Nat}{y:za_}{e1:Int}{l:List zae}(hy:X.tiers[j]? =some y)(hm:X.tabs[j]? =some []):zea X j (zcH e1 y.every (zar X.now X.tiers X.floors j) l)={X with tabs:=X.tabs.set j (zcH e1 y.every (zar X.now X.tiers X.floors j) l)}:=by
 unfold zea;rw[hy,hm];simp only
 have hf:(zcH e1 y.every (zar X.now X.tiers X.floors j) l).filter (ldB X j)=zcH e1 y.every (zar X.now X.tiers X.floors j) l:=
  List.filter_eq_self.2 (fun r hr=>qa_ ((zdl.2 r hr).2))
 rw[hf,zpq]
theorem zhX{X:zaa}{lt:List za_}{ss fl:List Int}{c:Nat}(h:∀ m∈X.tabs,m.length≤c)(j:Nat):(zcQ X lt ss fl j).length≤c:=by
 unfold zcQ
 split
 ·split
  ·exact Nat.le_trans (zi4 _ _ _ _) (zeR h _)
  ·simp
 ·simp
theorem Rd.mapfr{w W:World}{size n:Nat}{A:Option Addr}{xs:List Value}{F:Nat→Prop}(h:Rd w size A n xs)(hs:0<size)(f:Fr (fun j=>F j∧∃ es ck,w.heap[j]? =some (.map es ck)) w W):Rd W size A n xs:=
 h.fr f (fun _ hk ⟨_,_,_,hb⟩=>zdK h hs hb hk rfl)
theorem fr4{w a b c d:World}(h1:Below w.heap.size w a)(h2:Below a.heap.size a b)(h3:Below b.heap.size b c)(h4:Below c.heap.size c d):Fr (fun _=>False) w d:=
 (((Fr.b0 h1).trans (Fr.b0 h2) q4_).trans (Fr.b0 h3) q4_).trans (Fr.b0 h4) q4_
theorem zij{w:World}{base b n size:Nat}{e:TypeId}{v:Value}{xs:List Value}(h:w.ownsRow base e size v n xs)(hb:b≤base):w.ownsRow b e size v n xs:=
 zgE h (fun k hk=>Nat.le_trans hb (h.lt k hk).1)
theorem zaJ.down{w:World}{t base b:Nat}{X:zaa}{F:Nat→Prop}(h:zaJ w t base X F)(hb:b≤base):zaJ w t b X F:=by
 obtain⟨A,c,B,d,T,ct,tb,hi,e⟩:=h;exact⟨A,c,B,d,T,ct,tb,⟨hi.blk,zij hi.tiers hb,zij hi.floors hb,zij hi.row hb,hi.tlen,hi.tab,hi.nodup,fun p hp=>⟨Nat.le_trans hb (hi.ge p hp).1,Nat.le_trans hb (hi.ge p hp).2⟩,Nat.le_trans hb hi.tge⟩,e⟩
def zsp(E:Int)(B:Nat)(Z:zaa)(r:Ending)(w':World):Prop:=
 (E=0→∃ t' F',r=.returned (.tuple #[.pointer (some ⟨t',0,none⟩),.int .i64 0])∧zaJ w' t' B Z F'∧∀ j,F' j→B≤j)∧(E≠0→r=.returned (.tuple #[.pointer none,.int .i64 1]))
theorem zp_(nm:ByteArray)(hnm:nm.size≤maxLen)(lt:List za_)(A:Option Addr)(n c:Nat)(ss:List Int)(S:Option Addr)(m d:Nat)(t base:Nat)(X:zaa)(w:World)(ht:Rd w 4 A n (zah lt))(hnc:n≤c)(hn9:n≤1000)(hwt:∀ t∈lt,t.wf)(hs:Rd w 1 S m (zbg ss))(hm9:m≤1099511627776)(hss:∀ s∈ss,i64 s)
  (h:zbw w t base X) (hn:X.tiers.length≤1000) (hl:∀ m∈X.tabs,m.length≤1000000) (hnow:0≤X.now∧X.now≤1099511627776) (hfl:∀ f∈X.floors,i64 f) (hwf:∀ x∈X.tiers,x.wf):
  Calls prog 85 #[zfm nm A n c S m d,.pointer (some ⟨t,0,none⟩)] w fun r w'=>zsp (zcR X nm lt ss) w.heap.size (zap X nm lt ss) r w'∧Below w.heap.size w w':=by
 have hn64:i64 X.now:=by unfold i64;omega
 have F0:=q0_ (Fr.none_alloc w (.cells #[.string nm,.slice A n c,.slice S m d] 106));have B0:=q0_ (Blk.new w 106 #[.string nm,.slice A n c,.slice S m d])
 have HFi:Hid (∀ W,Fr (fun _=>False) w W→Calls prog 132 #[.agg #[.string nm,.slice A n c,.slice S m d],.pointer (some ⟨t,0,none⟩)] W fun r w'=>r=.returned (.bool (zeW X.tiers nm lt ss))∧Below W.heap.size W w'):=fun W f=>
  zjf nm hnm lt A n c ss S m d t base X W (ht.fr0 f) hnc (by omega) hwt (hs.fr0 f) hm9 hss (h.fr0 f) hn hwf
 have Ht:=q0_ ht;have Hs:=q0_ hs;have Hln:=q0_ ht.tiers_len;have Hlm:Hid (ss.length=m):=Rd.len_map hs;have Hwt:=q0_ hwt;have Hwf:=q0_ hwf;have Hss:=q0_ hss;have Hl:=q0_ hl;have Hfl:=q0_ hfl;have HT:=q0_ h
 obtain⟨fb,hfb⟩:∃ b,zeW X.tiers nm lt ss=b:=⟨_,rfl⟩
 have Hfb:=q0_ hfb;rw[hfb] at HFi;unfold zfm;clear ht hs hwt hwf hss hl hfl h hfb
 cases fb with
 | false=>
  have hE:zcR X nm lt ss=1:=by unfold zcR;rw[Hfb.out];rfl
  obtain⟨E,hEq⟩:∃ E,zcR X nm lt ss=E:=⟨_,rfl⟩
  have HE:=q0_ hE;rw[hEq] at HE ⊢;clear hE hEq;go_enter func85,ntmps85;go_wp2_with fail;refine (HFi.out _ F0.out).mono ?_;rintro r w2 ⟨rfl,b2⟩;have F2:=q0_ (F0.out.trans (Fr.b0 b2) q4_);clear b2;go_wp2;refine bodyPost_ret (v:=.tuple #[.pointer none,.int .i64 1]) (by simp[results,results85,go_sem]) rfl ⟨⟨fun h=>?_,fun _=>rfl⟩,F2.out.below q4_⟩;rw[HE.out] at h
  cases h
 | true=>
 have hat:=zlJ Hfb.out
 have hmn:m=n:=by rw[← Hlm.out,hat.2.1,Hln.out]
 have HAt:=q0_ hat.2.2;have Hck:=q0_ hat.1;clear hat;subst hmn
 have HE0:Hid (zcR X nm lt ss=zfs nm lt X.now (zaR X.now X.tiers X.floors ss lt)):=by show _=_;unfold zcR;rw[Hfb.out,if_pos rfl]
 have HE1:Hid (zcR X nm lt ss=0∨zcR X nm lt ss=1):=zpa
 obtain⟨bs,hbs⟩:∃ b,zaR X.now X.tiers X.floors ss lt=b:=⟨_,rfl⟩
 have HX:Hid (zap X nm lt ss=⟨X.now,nm,lt,bs,(List.range lt.length).map (zcQ X lt ss bs)⟩):=by show _=_;unfold zap;rw[hbs]
 have Hbl:Hid (bs.length=m):=by show _=_;rw[← hbs];unfold zaR;rw[List.length_zipWith,Hlm.out,Hln.out,Nat.min_self]
 obtain⟨E,hEq⟩:∃ E,zcR X nm lt ss=E:=⟨_,rfl⟩
 rw[hEq] at HE0 HE1 ⊢;rw[hbs] at HE0
 obtain⟨Z,hZ⟩:∃ Z,zap X nm lt ss=Z:=⟨_,rfl⟩
 rw[hZ] at HX ⊢;obtain⟨tA,tc,tB,td,T,ct,tb,hi⟩:=HT.out;have Hi:=q0_ hi
 have HBs:Hid (∀ W,Fr (fun _=>False) w W→Calls prog 133 #[.agg #[.string nm,.slice A m c,.slice S m d],.agg #[.int .i64 X.now,.string X.name,.slice tA X.tiers.length tc,.slice tB X.floors.length td]] W
   fun r w'=>(∃ A' c',r=.returned (.slice A' m c')∧w'.ownsRow W.heap.size 3 1 (.slice A' m c') m (zbg bs))∧Below W.heap.size W w'):=fun W f=>by
  rw[← hbs];exact zpe nm lt A m c ss S d X.now hn64 X.name X.tiers tA X.tiers.length tc X.floors tB X.floors.length td W (Ht.out.fr0 f) (Hs.out.fr0 f) (zat (Hi.out.fr0 f).tiers).2.2.1 (zat (Hi.out.fr0 f).floors).2.2.1 Hwt.out Hwf.out Hfl.out (by omega) (by omega)
 have HNw:Hid (∀ W B d',Fr (fun _=>False) w W→Rd W 1 B m (zbg bs)→Calls prog 39 #[.agg #[.string nm,.slice A m c],.int .i64 X.now,.slice B m d'] W fun r w'=>(∃ Pv,r=.returned (.tuple #[Pv,.int .i64 E])∧(E=0→∃ t' F',Pv=.pointer (some ⟨t',0,none⟩)∧zaJ w' t' W.heap.size (zfZ nm lt X.now bs) F'∧∀ j,F' j→W.heap.size≤j)∧(E≠0→Pv=.pointer none))∧Below W.heap.size W w'):=fun W B d' f hrd=>by
  refine (zh6 nm hnm lt A m c X.now hn64 bs B m d' W (Ht.out.fr0 f) hnc Hwt.out (by omega) hrd (by omega)).mono ?_;rintro r w' ⟨⟨h1,h2⟩,hb⟩;rw[← HE0.out] at h1 h2;refine⟨?_,hb⟩
  by_cases hz:E=0
  ·obtain⟨t',rfl,ha⟩:=h1 hz
   obtain⟨F',ho⟩:=ha.on;exact⟨_,by rw[hz],fun _=>⟨t',F',rfl,ho,fun j hj=>(ho.ge j hj).1⟩,fun h=>absurd hz h⟩
  ·obtain rfl:=h2 hz
   exact⟨_,rfl,fun h=>absurd h hz,fun _=>rfl⟩
 have HTa0:Hid (∀ (i:Nat) (x:za_),X.tiers[i]? =some x→∀ W,Fr (fun _=>False) w W→Calls prog 73 #[.pointer (some ⟨t,0,none⟩),.int .i64 i] W fun r w'=>(∃ g' b',r=.returned (.pointer (some ⟨g',0,none⟩))∧zaw w' g' x.every b' (X.tabs.getD i [])∧W.heap.size≤g'∧W.heap.size≤b')∧Below W.heap.size W w'):=fun i x hx W f=>by
  have hil:=(List.getElem?_eq_some_iff.1 hx).1
  have e:X.tabs[i]? =some (X.tabs.getD i []):=by rw[List.getD_eq_getElem?_getD,q6_ (by rw[Hi.out.tlen];exact hil)];rfl
  exact ziN t base X i x _ W (HT.out.fr0 f) hx e
 obtain⟨x0,hx0⟩:∃ x0,X.now=x0:=⟨_,rfl⟩
 obtain⟨x1,hx1⟩:∃ x1,X.name=x1:=⟨_,rfl⟩
 obtain⟨x2,hx2⟩:∃ x2,X.tiers.length=x2:=⟨_,rfl⟩
 obtain⟨x3,hx3⟩:∃ x3,X.floors.length=x3:=⟨_,rfl⟩
 have Bt:=q0_ Hi.out.blk;rw[hx0,hx1,hx2,hx3] at HBs Bt;rw[hx0] at HNw HX hn64 hnow;have Hx0:=q0_ hx0;clear hi hbs hZ hEq HT Hfb hx0 hx1 hx2 hx3 Hi;go_enter func85,ntmps85;go_wp2_with fail
 obtain⟨pb,hpb⟩:∃ v,w.heap.size=v:=⟨_,rfl⟩
 obtain⟨W0,hW0⟩:∃ W0,W0=w.alloc (.cells #[.string nm,.slice A m c,.slice S m d] 106):=⟨_,rfl⟩
 rw[← hW0];rw[← hW0] at F0 B0
 try rw[hpb]
 rw[hpb] at B0;have Hpb:=q0_ hpb;clear hW0 hpb;refine (HFi.out _ F0.out).mono ?_;rintro r w2 ⟨rfl,b2⟩;have F2:=q0_ (F0.out.trans (Fr.b0 b2) q4_);have B2:=q0_ (B0.out.fr (Fr.b0 b2) (fun h=>h));have Bt2:=q0_ (Bt.out.fr F2.out (fun h=>h));clear b2 F0 B0 HFi Bt
 have HC:Hid (∀ W,Fr (fun _=>False) w2 W→W.cell? ⟨pb,0,none⟩=some (.string nm)∧W.cell? ⟨pb,1,none⟩=some (.slice A m c)∧W.cell? ⟨pb,2,none⟩=some (.slice S m d)∧W.cell? ⟨t,0,none⟩=some (.int .i64 x0)∧W.cell? ⟨t,1,none⟩=some (.string x1)∧W.cell? ⟨t,2,none⟩=some (.slice tA x2 tc)∧W.cell? ⟨t,3,none⟩=some (.slice tB x3 td)):=fun W f=>by
  have b1:=B2.out.fr f (fun h=>h);have b2:=Bt2.out.fr f (fun h=>h);exact⟨b1.cell 0,b1.cell 1,b1.cell 2,b2.cell 0,b2.cell 1,b2.cell 2,b2.cell 3⟩
 have HBs2:Hid (∀ W,Fr (fun _=>False) w2 W→Calls prog 133 #[.agg #[.string nm,.slice A m c,.slice S m d],.agg #[.int .i64 x0,.string x1,.slice tA x2 tc,.slice tB x3 td]] W
   fun r w'=>(∃ A' c',r=.returned (.slice A' m c')∧w'.ownsRow W.heap.size 3 1 (.slice A' m c') m (zbg bs))∧Below W.heap.size W w'):=fun W f=>HBs.out W (F2.out.trans f q4_)
 have HNw2:Hid (∀ W B d',Fr (fun _=>False) w2 W→Rd W 1 B m (zbg bs)→Calls prog 39 #[.agg #[.string nm,.slice A m c],.int .i64 x0,.slice B m d'] W fun r w'=>(∃ Pv,r=.returned (.tuple #[Pv,.int .i64 E])∧(E=0→∃ t' F',Pv=.pointer (some ⟨t',0,none⟩)∧zaJ w' t' W.heap.size (zfZ nm lt x0 bs) F'∧∀ j,F' j→W.heap.size≤j)∧(E≠0→Pv=.pointer none))∧Below W.heap.size W w'):=fun W B d' f=>HNw.out W B d' (F2.out.trans f q4_);clear HBs HNw;have HBs:=HBs2;have HNw:=HNw2;clear HBs2 HNw2;go_wp2_with fail;refine wp_region_held_drew (S:=fun W=>Fr (fun _=>False) w2 W) (by kernel_rfl) ((Fr.refl _ w2).drew) (fun hY_=>?_);refine tq 12 [0,1,2,3,4,5,6,7,8,9,10,11] ?_
 iterate 11 refine sf HC.out ?_
 refine sf HC.out ?_
 try simp only[Act.put,sA,sB,sC]
 refine sz ?_
 try simp only[Act.put,sA,sB,sC]
 refine rl 12 rfl (fun K hK=>?_);go_simp
 go_wp2_with (go_at_call 133;refine (HBs.out _ hY_).mono ?_;rintro r wb ⟨⟨Ab,cb,rfl,ob⟩,bb⟩)
 have ob:=q0_ ob;refine hK.out _ _ (hY_.trans (Fr.b0 bb) q4_) (fun hY_=>?_);clear hK K
 try simp only[Act.put,sA,sB,sC]
 refine rl 13 rfl (fun K hK=>?_);go_simp
 go_wp2_with (go_at_call 39;refine (HNw.out _ _ _ hY_ (Rd.of_own ob.out)).mono ?_;rintro r wn ⟨⟨Pv,rfl,hn1,hn2⟩,bn⟩)
 have hn1:=q0_ hn1;have hn2:=q0_ hn2;refine hK.out _ _ (hY_.trans (Fr.b0 bn) q4_) (fun hY_=>?_);clear hK K;refine tq 5 [14,15,16,17,18] ?_
 iterate 4 refine sf HC.out ?_
 refine sf HC.out ?_
 try simp only[Act.put,sA,sB,sC]
 refine sz ?_
 try simp only[Act.put,sA,sB,sC]
 refine wpAnyH_done (by kernel_rfl) ?_ _;have F3:=q0_ hY_;have hsz:Hid (w.heap.size≤wb.heap.size):=Nat.le_trans F2.out.size (by have h1:=hY_.size;have h2:=bn.size;have h3:=bb.size;exact Nat.le_trans (Fr.refl (fun _=>False) w2).drew.size h3);have Hpl:Hid (pb<wb.heap.size):=Nat.lt_of_lt_of_le B2.out.lt (by have h3:=bb.size;exact Nat.le_trans (Fr.refl (fun _=>False) w2).drew.size h3);clear hY_ bb HBs HNw ob
 rcases HE1.out with hE | hE
 case inr=>
  subst hE;obtain rfl:=hn2.out (by omega);clear hn1 hn2 bn;go_wp2;refine bodyPost_ret (v:=.tuple #[.pointer none,.int .i64 1]) (by simp[results,results85,go_sem]) rfl ⟨⟨fun h=>absurd h (by decide),fun _=>rfl⟩,(F2.out.trans F3.out q4_).below q4_⟩
 case inl=>
 subst hE;obtain⟨t',F,rfl,To,hFg⟩:=hn1.out rfl;have HTo:=q0_ To;have HFg:Hid (∀ j,F j→w.heap.size≤j):=fun j hj=>Nat.le_trans hsz.out (hFg j hj);have HFb:Hid (∀ j,F j→wb.heap.size≤j):=hFg;have Fw:=q0_ (F2.out.trans F3.out q4_);have B3:=q0_ (B2.out.fr F3.out (fun h=>h));clear hn1 hn2 bn To hFg;have p0:=B3.out.cell 0;have p1:=B3.out.cell 1;have p2:=B3.out.cell 2;simp only[q1_,q2_,q3_] at p0 p1 p2;go_wp2_with fail;clear p0 p1 p2
 obtain⟨bt,hbt⟩:∃ b,(List.range lt.length).map (zcQ X lt ss bs)=b:=⟨_,rfl⟩
 have Hbt:Hid (∀ j,j<m→bt[j]? =some (zcQ X lt ss bs j)):=fun j hj=>by rw[← hbt,List.getElem?_map,List.getElem?_range (by rw[Hln.out];exact hj)];rfl
 have Hbtl:Hid (bt.length=m):=by show _=_;rw[← hbt];simp[Hln.out]
 have Hbtm:Hid (∀ L∈bt,L.length≤1000000):=fun L hL=>by
  rw[← hbt] at hL;obtain⟨j,_,rfl⟩:=List.mem_map.1 hL;exact zhX Hl.out j
 rw[hbt] at HX;clear hbt
 obtain⟨em,hem⟩:∃ e:List (List zae),lt.map (fun _=>([]:List zae))=e:=⟨_,rfl⟩
 have Hem:Hid (∀ j,j<m→em[j]? =some []):=fun j hj=>by rw[← hem,List.getElem?_map,q6_ (by rw[Hln.out];exact hj)];rfl
 have Heml:Hid (em.length=m):=by show _=_;rw[← hem];simp[Hln.out]
 have Hemm:Hid (∀ L∈em,L.length≤1000000):=fun L hL=>by
  rw[← hem] at hL;obtain⟨_,_,rfl⟩:=List.mem_map.1 hL;simp
 have HTo2:Hid (zaJ wn t' wb.heap.size ⟨x0,nm,lt,bs,bt.take 0++em.drop 0⟩ F):=by
  show zaJ _ _ _ _ _
  rw[List.take_zero,List.drop_zero,List.nil_append, ← hem];exact HTo.out
 clear hem HTo
 go_loopw [37] (fun i wr=>∃ k:Nat,k≤m∧i=.int .i64 k∧zaJ wr t' wb.heap.size ⟨x0,nm,lt,bs,bt.take k++em.drop k⟩ F∧Fr F wn wr) (fun i _=>m-(intOf i).toNat)
 case atStart=>exact⟨0,Nat.zero_le _,rfl,HTo2.out,Fr.refl _ _⟩
 case round=>
  obtain⟨k,hk,rfl,hT,hf⟩:=hrel;have HT:=q0_ hT;have Hf:=q0_ hf;clear hT hf HTo2
  by_cases hlt:k<m
  ·obtain⟨i,x,y,hsi,hx,hy,hdv⟩:=HAt.out k (by rw[Hln.out];exact hlt)
   have hFw:Fr (fun j=>w.heap.size≤j) w wr:=(Fw.out.mono q4_).trans Hf.out (fun j hj=>.inl (HFg.out j hj))
   have FW:Hid (Fr (fun _=>False) w wr):=⟨hFw.os,hFw.tape,hFw.output,hFw.size,fun j hj _=>hFw.block j hj (by omega)⟩
   obtain⟨ad,y',rfl,hy',y0,y1,y2,y3⟩:=(Ht.out.fr0 FW.out).tier hlt
   obtain rfl:y=y':=by rw[hy] at hy';exact Option.some.inj hy'
   obtain⟨sa,s',rfl,hs',d0⟩:=Rd.at_map (f:=Value.int .i64) (l:=ss) (Hs.out.fr0 FW.out) hlt
   obtain rfl:(i:Int)=s':=by rw[hsi] at hs';exact Option.some.inj hs'
   have hye:1≤y.every:=(zaN Hck.out (zab hy)).1
   have hkm:0≤(k:Int)∧(k:Int)<(m:Int):=by omega
   have Bp:=q0_ (B3.out.fr Hf.out (fun h=>absurd (HFb.out pb h) (Nat.not_le.2 Hpl.out)));have hwy:=Hwt.out y (zab hy);have Hy:=q0_ hy;have Hsi:=q0_ hsi;have Hx:=q0_ hx;clear hy hsi hx hy' hs' hFw;go_wp2_with fail
   obtain⟨w5,hw5⟩:∃ w5,w5=wr.alloc (.cells #[.string y.name,.int .i64 y.every,.int .i64 y.keep,.int .i64 y.shards] 130):=⟨_,rfl⟩
   rw[← hw5]
   obtain⟨xb,hxb⟩:∃ xb,wr.heap.size=xb:=⟨_,rfl⟩
   try rw[hxb]
   have Bx:Hid (Blk w5 xb 130 #[.string y.name,.int .i64 y.every,.int .i64 y.keep,.int .i64 y.shards]):=by show Blk _ _ _ _;rw[hw5];exact Blk.new' hxb.symm _ _
   have F5:Hid (Fr (fun _=>False) wr w5):=by show Fr _ _ _;rw[hw5];exact Fr.none_alloc _ _
   have FW5:Hid (Fr (fun _=>False) w w5):=FW.out.trans F5.out q4_;have T5:=q0_ (HT.out.fr0 F5.out);have Bp5:=q0_ (Bp.out.fr F5.out (fun h=>h));have d5:=F5.out.cell d0 (fun h=>h);obtain⟨oA,oc,oB,od,oT,oct,otb,hoi,hFe⟩:=T5.out;have Hoi:=q0_ hoi
   have hbo:Blk w5 t' 69 #[.int .i64 x0,.string nm,.slice oA m oc,.slice oB m od,.slice oT m oct]:=by
    have h:=hoi.blk;simp only[Hln.out,Hbl.out] at h;exact h
   have HC:Hid (∀ W,Fr (fun i=>F i∧∃ es ck,w5.heap[i]? =some (.map es ck)) w5 W→W.cell? ⟨pb,2,none⟩=some (.slice (some sa) m d)∧W.cell? (sa.add k)=some (.int .i64 i)∧W.cell? ⟨xb,1,none⟩=some (.int .i64 y.every)∧W.cell? ⟨t',0,none⟩=some (.int .i64 x0)∧W.cell? ⟨t',1,none⟩=some (.string nm)∧W.cell? ⟨t',2,none⟩=some (.slice oA m oc)∧W.cell? ⟨t',3,none⟩=some (.slice oB m od)):=fun W f=>
    ⟨zaF f (Bp5.out.cell 2),zaF f d5,zaF f (Bx.out.cell 1),zaF f (hbo.cell 0),zaF f (hbo.cell 1),zaF f (hbo.cell 2),zaF f (hbo.cell 3)⟩
   have hRo:Rd w5 4 oA m (zah lt):=by have h:=(zat hoi.tiers).2.2.1;simp only[Hln.out] at h;exact h
   have hRb:Rd w5 1 oB m (zbg bs):=by have h:=(zat hoi.floors).2.2.1;simp only[Hbl.out] at h;exact h
   have hkn:k<lt.length:=by rw[Hln.out];exact hlt
   have hfe:zcg x0 lt bs (k:Int)=zar x0 lt bs k:=zcD hkn
   have HFr:Hid (∀ W,Fr (fun i=>F i∧∃ es ck,w5.heap[i]? =some (.map es ck)) w5 W→Calls prog 84 #[.agg #[.int .i64 x0,.string nm,.slice oA m oc,.slice oB m od],.int .i64 k] W fun r w'=>r=.returned (.int .i64 (zar x0 lt bs k))∧Below W.heap.size W w'):=fun W f=>by
    rw[← hfe];exact zcE x0 hn64 nm lt oA m oc bs oB m od k W (hRo.mapfr (by decide) f) (hRb.mapfr (by decide) f) Hwt.out (by omega)
   have HTa:Hid (∀ W,Fr (fun i=>F i∧∃ es ck,w5.heap[i]? =some (.map es ck)) w5 W→Calls prog 73 #[.pointer (some ⟨t,0,none⟩),.int .i64 i] W fun r w'=>(∃ g' b',r=.returned (.pointer (some ⟨g',0,none⟩))∧zaw w' g' x.every b' (X.tabs.getD i [])∧W.heap.size≤g'∧W.heap.size≤b')∧Below W.heap.size W w'):=fun W f=>HTa0.out i x Hx.out W (FW5.out.trans f (fun j hj=>.inr (HFg.out j hj.1)));have hsl:(X.tabs.getD i []).length≤1000000:=zeR Hl.out i
   have hmx:max y.every 1=y.every:=by omega
   obtain⟨sl,hsle⟩:∃ l,X.tabs.getD i []=l:=⟨_,rfl⟩
   rw[hsle] at HTa hsl
   obtain⟨fv,hfv⟩:∃ v,zar x0 lt bs k=v:=⟨_,rfl⟩
   have Hfv:=q0_ hfv;rw[hfv] at HFr
   have HRo:Hid (∀ W g b,zaw W g x.every b sl→Calls prog 134 #[.pointer (some ⟨g,0,none⟩),.int .i64 y.every,.int .i64 fv] W fun r w'=>(∃ g' b',r=.returned (.pointer (some ⟨g',0,none⟩))∧zaw w' g' y.every b' (zcH x.every y.every fv sl)∧W.heap.size≤g'∧W.heap.size≤b')∧Below W.heap.size W w'):=fun W g b ht=>by
    have h:=zkh g x.every b sl y.every fv hwy.1 W ht (by omega);rw[hmx] at h;exact h
   have hL1:zcQ X lt ss bs k=zcH x.every y.every fv sl:=by
    unfold zcQ;rw[Hsi.out,Hy.out];simp only[Int.toNat_natCast];rw[Hx.out];simp only;rw[Hx0.out,hfv,hsle]
   have hlX:zea ⟨x0,nm,lt,bs,bt.take k++em.drop k⟩ k (zcH x.every y.every fv sl)=⟨x0,nm,lt,bs,(bt.take k++em.drop k).set k (zcH x.every y.every fv sl)⟩:=by
    have h:=zmM (X:=⟨x0,nm,lt,bs,bt.take k++em.drop k⟩) (j:=k) (e1:=x.every) (l:=sl) Hy.out (by
     show (bt.take k++em.drop k)[k]? =some []
     rw[List.getElem?_append_right (by rw[List.length_take];omega),List.length_take,Nat.min_eq_left (by rw[Hbtl.out];omega),Nat.sub_self,List.getElem?_drop,Nat.add_zero]
     exact Hem.out k hlt)
    simp only[hfv] at h;exact h
   have hLl:(zcH x.every y.every fv sl).length≤1000000:=Nat.le_trans (zi4 _ _ _ _) hsl
   obtain⟨L,hL⟩:∃ L,zcH x.every y.every fv sl=L:=⟨_,rfl⟩
   rw[hL] at HRo hL1 hlX hLl
   have hbk:bt[k]? =some L:=by rw[Hbt.out k hlt,hL1]
   have hmix:=zf0 (D:=bt) (L:=em) (k:=k) (y:=L) (by rw[Heml.out];exact hlt) hbk (by rw[Hbtl.out];omega);rw[hmix] at hlX;have HAl:Hid (∀ W g b,zaw W g y.every b L→Calls prog 74 #[.pointer (some ⟨g,0,none⟩)] W fun r w'=>(∃ A c,r=.returned (.slice A L.length c)∧w'.ownsRow W.heap.size 127 7 (.slice A L.length c) L.length (za1 L))∧Below W.heap.size W w'):=fun W g b ht=>zd2 g y.every b L W ht (by omega)
   have HLd:Hid (∀ W A c,Fr (fun _=>False) w5 W→Rd W 7 A L.length (za1 L)→(∀ r∈L,r.wf)→Calls prog 55 #[.pointer (some ⟨t',0,none⟩),.int .i64 k,.slice A L.length c] W fun r w'=>r=.returned (.int .i64 (zfu ⟨x0,nm,lt,bs,bt.take k++em.drop k⟩ k L:Nat))∧zaJ w' t' wb.heap.size ⟨x0,nm,lt,bs,bt.take (k+1)++em.drop (k+1)⟩ F∧Fr (fun i=>F i∧∃ es ck,w5.heap[i]? =some (.map es ck)) W w'):=fun W A c f hrd hrw=>by
    refine (zlc t' wb.heap.size ⟨x0,nm,lt,bs,bt.take k++em.drop k⟩ F k L A L.length c W (T5.out.fr0 f) hkn (by show lt.length≤1000;rw[Hln.out];exact hn9) ?_ (by omega) hnow Hwt.out hrd hrw).mono ?_
    ·intro z hz
     rcases List.mem_append.1 hz with hz | hz
     ·exact Nat.le_trans (Hbtm.out z (List.mem_of_mem_take hz)) (by omega)
     ·exact Nat.le_trans (Hemm.out z (List.mem_of_mem_drop hz)) (by omega)
    ·rintro r w' ⟨rfl,h1,h2⟩
     rw[hlX] at h1;refine⟨rfl,h1,h2.mono (fun j hj=>.inl ⟨hj.1,?_⟩)⟩;obtain⟨es,ck,hb⟩:=hj.2;exact⟨es,ck,by rw[← f.block j (T5.out.ge j hj.1).2 (fun h=>h)];exact hb⟩
   obtain⟨ln,hln⟩:∃ v,zfu ⟨x0,nm,lt,bs,bt.take k++em.drop k⟩ k L=v:=⟨_,rfl⟩
   obtain⟨Ln,hLn⟩:∃ v,L.length=v:=⟨_,rfl⟩
   obtain⟨ye,hye2⟩:∃ v,y.every=v:=⟨_,rfl⟩
   obtain⟨xe,hxe2⟩:∃ v,x.every=v:=⟨_,rfl⟩
   rw[hln,hLn] at HLd;rw[hLn,hye2] at HAl;rw[hye2] at HC;rw[hye2,hxe2] at HRo;rw[hxe2] at HTa;clear hln hLn hye2 hxe2 hL hL1 hbk hlX hmix hfv hsle hmx hsl hfe hRo hRb hbo hoi hFe d5 d0 y0 y1 y2 y3 hw5 hxb hye hwy hdv Hoi Hsi Hy Hx HT;refine wp_region_held_drew (S:=fun W=>Fr (fun i=>F i∧∃ es ck,w5.heap[i]? =some (.map es ck)) w5 W) (by kernel_rfl) ((Fr.refl _ w5).drew) (fun hY_=>?_);refine tq 15 [0,1,2,3,4,5,6,7,9,10,11,12,13,14,15] ?_
   iterate 14 refine sf HC.out ?_
   refine sk ?_
   try simp only[Act.put,sA,sB,sC]
   refine sz ?_
   try simp only[Act.put,sA,sB,sC]
   refine rl 8 rfl (fun K hK=>?_);go_simp
   go_wp2_with (go_at_call 73;refine (HTa.out _ hY_).mono ?_;rintro r wa ⟨⟨ga,ba,rfl,ta,_,_⟩,bba⟩)
   have ta:=q0_ ta;refine hK.out _ _ (hY_.trans (Fr.b0 bba) q4_) (fun hY_=>?_);clear hK K
   try simp only[Act.put,sA,sB,sC]
   refine rl 16 rfl (fun K hK=>?_);go_simp
   go_wp2_with (go_at_call 84;refine (HFr.out _ hY_).mono ?_;rintro r wc ⟨rfl,bbc⟩)
   refine hK.out _ _ (hY_.trans (Fr.b0 bbc) q4_) (fun hY_=>?_);clear hK K
   try simp only[Act.put,sA,sB,sC]
   refine rl 17 rfl (fun K hK=>?_);go_simp
   go_wp2_with (go_at_call 134;refine (HRo.out _ _ _ (ta.out.fr0 (Fr.b0 bbc))).mono ?_;rintro r wd ⟨⟨gd,bd,rfl,td2,_,_⟩,bbd⟩)
   have td2:=q0_ td2;refine hK.out _ _ (hY_.trans (Fr.b0 bbd) q4_) (fun hY_=>?_);clear hK K
   try simp only[Act.put,sA,sB,sC]
   refine rl 18 rfl (fun K hK=>?_);go_simp
   go_wp2_with (go_at_call 74;refine (HAl.out _ _ _ td2.out).mono ?_;rintro r we ⟨⟨Ae,ce,rfl,oe⟩,bbe⟩)
   have oe:=q0_ oe;refine hK.out _ _ (hY_.trans (Fr.b0 bbe) q4_) (fun hY_=>?_);clear hK K
   try simp only[Act.put,sA,sB,sC]
   refine rl 19 rfl (fun K hK=>?_);go_simp
   go_wp2_with (go_at_call 55;refine (HLd.out _ _ _ ((Fr.refl _ w5).drew.trans (fr4 bba bbc bbd bbe) q4_) (Rd.of_own oe.out) td2.out.own.wf).mono ?_;rintro r wf ⟨rfl,Tf,ff⟩)
   have Tf:=q0_ Tf;refine hK.out _ _ (hY_.trans ff (fun i hi=>.inl hi)) (fun hY_=>?_);clear hK K
   try simp only[Act.put,sA,sB,sC]
   refine wpAnyH_done (by kernel_rfl) ?_ _;have Fh:=q0_ hY_;clear hY_ ff;go_wp2
   go_roundw
   case rel=>exact⟨k+1,by omega,by go_num,Tf.out,(Hf.out.trans F5.out q4_).trans Fh.out (fun j hj=>.inl hj.1)⟩
   case measure=>simp[intOf];omega
  ·obtain rfl:m=k:=by omega
   have hfin:=HT.out;rw[← Hbtl.out,List.take_length,Hbtl.out,List.drop_eq_nil_of_le (by rw[Heml.out];exact Nat.le_refl _),List.append_nil, ← HX.out] at hfin;have Hfin:=q0_ hfin;clear hfin;go_wp2;refine bodyPost_ret (v:=.tuple #[.pointer (some ⟨t',0,none⟩),.int .i64 0]) (by simp[results,results85,go_sem]) rfl ⟨⟨fun _=>⟨t',F,rfl,?_,HFg.out⟩,fun h=>absurd rfl h⟩,?_⟩
   ·exact Hfin.out.down hsz.out
   ·exact (Fw.out.below q4_).trans (Hf.out.below_of Fw.out.size HFg.out)
end Go.Proofs.YtjhhodndlkpmhaaGreatDoor
