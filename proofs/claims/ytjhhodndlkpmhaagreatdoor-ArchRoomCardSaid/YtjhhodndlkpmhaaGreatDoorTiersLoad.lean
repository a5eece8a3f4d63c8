/- Walk of tiers: Load. -/
import Derived.Test.YtjhhodndlkpmhaaGreatDoorTabNeed
namespace Go.Proofs.YtjhhodndlkpmhaaGreatDoor
set_option linter.all false
set_option maxHeartbeats 8000000
set_option maxRecDepth 100000
open Go.RowKit Tryz
def ldB(X:zaa)(k:Nat)(r:zae):Bool:=decide (zar X.now X.tiers X.floors k≤r.start)
def zea(X:zaa)(k:Nat)(rs:List zae):zaa:=
 match X.tiers[k]?,X.tabs[k]? with
 | some x,some m=>{X with tabs:=X.tabs.set k (zbN x.every m (rs.filter (ldB X k)))}
 | _,_=>X
def zfu(X:zaa)(k:Nat)(rs:List zae):Nat:=
 match X.tiers[k]? with
 | some x=>((rs.filter (ldB X k)).filter (zaG x.every)).length
 | none=>0
theorem zlc(t base:Nat)(X:zaa)(F:Nat→Prop)(k:Nat)(rs:List zae)(A1:Option Addr)(n1 c1:Nat)(w:World)(h:zaJ w t base X F)(hk:k<X.tiers.length)(hn:X.tiers.length≤1000)(hl:∀ m∈X.tabs,m.length≤100000000)(hn1:n1≤100000000)(hnow:0≤X.now∧X.now≤1099511627776)(hwf:∀ x∈X.tiers,x.wf)(hr:Rd w 7 A1 n1 (za1 rs))(hrw:∀ r∈rs,r.wf):
  Calls prog 55 #[.pointer (some ⟨t,0,none⟩),.int .i64 k,.slice A1 n1 c1] w fun r w'=>r=.returned (.int .i64 (zfu X k rs:Nat))∧zaJ w' t base (zea X k rs) F∧Fr (fun j=>F j∧∃ es ck,w.heap[j]? =some (.map es ck)) w w':=by
 have HI:=q0_ (znE t base X (k:Int) w h.at_ (by omega))
 have hd:(decide (0≤(k:Int))&&decide ((k:Int)<(X.tiers.length:Int)))=true:=by
  rw[qa_ (show 0≤(k:Int) by omega),qa_ (show (k:Int)<(X.tiers.length:Int) by omega)]
  rfl
 rw[hd] at HI;obtain⟨A,c,B,d,T,ct,tb,hi,rfl⟩:=h;obtain⟨g,b,x,m0,h1,h2,h3,_⟩:=hi.tabAt hk;have hb0:=(zat hi.row).2.2.1;obtain⟨ad,e,_⟩:=hb0.2 (show 0<X.tiers.length by omega);subst e;have Hi:=q0_ hi;have Hr:=q0_ hr;have Hln:=q0_ hr.recs_len;have Hrw:=q0_ hrw;have Hwf:=q0_ hwf;have Hml:=q0_ (hl m0 (zab h3));have HM:Hid (∀ j,tM tb j→∃ es ck,w.heap[j]? =some (.map es ck)):=fun j hj=>(hi.map_ hj).2.2
 have hn64:i64 X.now:=by unfold i64;omega
 have hlX:zea X k rs={X with tabs:=X.tabs.set k (zbN x.every m0 (rs.filter (ldB X k)))}:=by unfold zea;rw[h2,h3]
 have hlN:zfu X k rs=((rs.filter (ldB X k)).filter (zaG x.every)).length:=by unfold zfu;rw[h2]
 have hss:X.tabs.set k m0=X.tabs:=zif h3;have Hgs:=q0_ (hi.tab k (g,b) x m0 h1 h2 h3).own.sorted
 have hi0:zaO w t base {X with tabs:=X.tabs.set k (zbN x.every m0 [])} A c B d (some ad) ct tb:=by
  show zaO w t base {X with tabs:=X.tabs.set k m0} A c B d (some ad) ct tb
  rw[hss];exact hi
 have Hi0:=q0_ hi0
 have HFr0:Hid (∀ W tabs,zaO W t base {X with tabs:=tabs} A c B d (some ad) ct tb→Calls prog 84 #[.agg #[.int .i64 X.now,.string X.name,.slice A X.tiers.length c,.slice B X.floors.length d],.int .i64 k] W fun r w'=>r=.returned (.int .i64 (zcg X.now X.tiers X.floors k))∧Below W.heap.size W w'):=fun W tabs hi'=>
  zcE X.now hn64 X.name X.tiers A X.tiers.length c X.floors B X.floors.length d k W (zat hi'.tiers).2.2.1 (zat hi'.floors).2.2.1 Hwf.out (by omega)
 have hfe:zcg X.now X.tiers X.floors (k:Int)=zar X.now X.tiers X.floors k:=by unfold zcg;rw[if_pos (by omega),Int.toNat_natCast]
 rw[hlX,hlN]
 have hPe:ldB X k=fun r=>decide (zcg X.now X.tiers X.floors k≤r.start):=by funext r;unfold ldB;rw[hfe]
 rw[hPe]
 obtain⟨fv,hfv⟩:∃ fv,zcg X.now X.tiers X.floors (k:Int)=fv:=⟨_,rfl⟩
 rw[hfv] at HFr0 ⊢
 obtain⟨P,hP⟩:∃ P:zae→Bool,(fun r=>decide (fv≤r.start))=P:=⟨_,rfl⟩
 have HP:Hid (∀ r,P r=decide (fv≤r.start)):=fun r=>by rw[← hP]
 rw[hP];have Htl:=q0_ hi.tlen;have H1:=q0_ h1;have H2:=q0_ h2;have Hf0:Hid (Fr (tM tb) w w):=Fr.refl _ _
 have hkn:0≤(k:Int)∧(k:Int)<(X.tiers.length:Int):=by omega
 clear hi hi0 h1 h2 h3 hlX hlN hPe hfv hP hfe hss hr hrw hwf hl hd hb0;go_enter func55,ntmps55;go_wp2_with fail;refine HI.out.mono ?_;rintro r w' ⟨rfl,rfl⟩;go_wp2_with fail
 go_loopw [7,16] (fun m i wr=>∃ q:Nat,q≤n1∧m=.int .i64 ((((rs.take q).filter P).filter (zaG x.every)).length:Nat)∧i=.int .i64 q∧zaO wr t base {X with tabs:=X.tabs.set k (zbN x.every m0 ((rs.take q).filter P))} A c B d (some ad) ct tb∧Fr (tM tb) w wr) (fun _ i _=>n1-(intOf i).toNat)
 case atStart=>exact⟨0,Nat.zero_le _,rfl,rfl,Hi0.out,Hf0.out⟩
 case round=>
  obtain⟨q,hq,rfl,rfl,hiq,hfq⟩:=hrel;have Hiq:=q0_ hiq;have Hfq:=q0_ hfq;clear hiq hfq Hi0 Hf0;have hcnt:(((rs.take q).filter P).filter (zaG x.every)).length≤q:=Nat.le_trans (List.length_filter_le _ _) (Nat.le_trans (List.length_filter_le _ _) (by rw[List.length_take];omega))
  by_cases hlq:q<n1
  ·obtain⟨ade,s,rfl,hs,d0,d1,d2,d3,d4,d5,d6⟩:=(Hr.out.fr Hfq.out (fun j hj hm=>by obtain⟨es,ck,hb⟩:=HM.out j hm;exact zdK Hr.out (by decide) hb hj rfl)).rec_ hlq
   have hsw:=Hrw.out s (zab hs)
   have kn:0≤(q:Int)∧(q:Int)<(n1:Int):=by omega
   have HS1:Hid ((rs.take (q+1)).filter P=(rs.take q).filter P++[s].filter P):=by show _=_;rw[zan hs,List.filter_append]
   obtain⟨L,hL⟩:∃ L,(rs.take q).filter P=L:=⟨_,rfl⟩
   have HLn:Hid (L.length≤q):=by show _≤_;rw[← hL];exact Nat.le_trans (List.length_filter_le _ _) (by rw[List.length_take];omega)
   rw[hL] at HS1 Hiq hcnt
   obtain⟨cur,hcur⟩:∃ cur,zbN x.every m0 L=cur:=⟨_,rfl⟩
   have HCl:Hid (cur.length≤300000000):=by
    show _≤_
    rw[← hcur];have:=zde (every:=x.every) L Hgs.out;have:=Hml.out;have:=HLn.out;omega
   have HS2:Hid (∀ r,zbN x.every m0 (L++[r])=zb0 x.every cur r):=fun r=>by rw[zfG,hcur]
   have HS3:=q0_ hcur;rw[hcur] at Hiq;rw[hL]
   obtain⟨cn,hcn⟩:∃ cn,(L.filter (zaG x.every)).length=cn:=⟨_,rfl⟩
   have Hcn:=q0_ hcn;rw[hcn] at hcnt ⊢
   have hT:zaw wr g x.every b cur:=by
    refine Hiq.out.tab k (g,b) x cur H1.out H2.out ?_
    show (X.tabs.set k cur)[k]? =some cur
    rw[List.getElem?_set_self (by rw[Htl.out];exact hk)]
   have HT:=q0_ hT;have hrow:=(zat Hiq.out.row).2.2.1;obtain⟨ad',e,hce⟩:=hrow.2 (show 0<X.tiers.length by omega)
   cases e
   have hpe:=hce k _ (zcq H1.out);obtain⟨es,ck,hbm⟩:=hT.own.isMap
   have hadb:(ad.add k).block≠b:=by rw[zdX];exact zdK hrow (by decide) hbm ⟨by show 0<X.tiers.length;omega,ad,rfl,rfl⟩
   have htb:t≠b:=zer (Hiq.out.blk.cell 0) hbm;have Hs:=q0_ hs;have Hpe:=q0_ hpe;have Hadb:=q0_ hadb;have Htb:=q0_ htb;clear hs hL hcur hcn hT hrow hce hpe hbm hadb htb;go_wp2_with fail
   obtain⟨rb,hrb⟩:∃ rb,wr.heap.size=rb:=⟨_,rfl⟩
   obtain⟨W1,hW1⟩:∃ W1,W1=wr.alloc (.cells #[.string s.name,.int .i64 s.start,.int .i64 s.agg.count,.int .i64 s.agg.hi,.int .u64 s.agg.lo,.int .i64 s.agg.min,.int .i64 s.agg.max] 127):=⟨_,rfl⟩
   rw[← hW1]
   try rw[hrb]
   have hbx:Blk W1 rb 127 #[.string s.name,.int .i64 s.start,.int .i64 s.agg.count,.int .i64 s.agg.hi,.int .u64 s.agg.lo,.int .i64 s.agg.min,.int .i64 s.agg.max]:=by rw[hW1];exact Blk.new' hrb.symm _ _
   have F1:Hid (Fr (fun _=>False) wr W1):=by show Fr _ _ _;rw[hW1];exact Fr.none_alloc _ _
   have hbt:=(Hiq.out.fr0 F1.out).blk
   have HC:Hid (∀ W,Fr (fun _=>False) W1 W→W.cell? ⟨t,0,none⟩=some (.int .i64 X.now)∧W.cell? ⟨t,1,none⟩=some (.string X.name)∧W.cell? ⟨t,2,none⟩=some (.slice A X.tiers.length c)∧W.cell? ⟨t,3,none⟩=some (.slice B X.floors.length d)∧W.cell? ⟨rb,0,none⟩=some (.string s.name)∧W.cell? ⟨rb,1,none⟩=some (.int .i64 s.start)∧W.cell? ⟨rb,2,none⟩=some (.int .i64 s.agg.count)∧W.cell? ⟨rb,3,none⟩=some (.int .i64 s.agg.hi)∧W.cell? ⟨rb,4,none⟩=some (.int .u64 s.agg.lo)∧W.cell? ⟨rb,5,none⟩=some (.int .i64 s.agg.min)∧W.cell? ⟨rb,6,none⟩=some (.int .i64 s.agg.max)):=fun W f=>⟨(hbt.fr f (fun h=>h)).cell 0,(hbt.fr f (fun h=>h)).cell 1,(hbt.fr f (fun h=>h)).cell 2,(hbt.fr f (fun h=>h)).cell 3,(hbx.fr f (fun h=>h)).cell 0,(hbx.fr f (fun h=>h)).cell 1,(hbx.fr f (fun h=>h)).cell 2,(hbx.fr f (fun h=>h)).cell 3,(hbx.fr f (fun h=>h)).cell 4,(hbx.fr f (fun h=>h)).cell 5,(hbx.fr f (fun h=>h)).cell 6⟩
   have HFr:Hid (∀ W,Fr (fun _=>False) W1 W→Calls prog 84 #[.agg #[.int .i64 X.now,.string X.name,.slice A X.tiers.length c,.slice B X.floors.length d],.int .i64 k] W fun r w'=>r=.returned (.int .i64 fv)∧Below W.heap.size W w'):=fun W f=>HFr0.out W _ (Hiq.out.fr0 (F1.out.trans f q4_));have HT1:=q0_ (HT.out.fr0 F1.out);have Hi1:=q0_ (Hiq.out.fr0 F1.out);have hpe1:=q0_ (F1.out.cell Hpe.out (fun h=>h));have Hbx:=q0_ hbx;have Hfq1:Hid (Fr (tM tb) w W1):=Hfq.out.trans F1.out q4_;clear hW1 hbt hbx d0 d1 d2 d3 d4 d5 d6 HT Hpe Hiq Hfq hrb F1
   obtain⟨bv,hbv⟩:∃ bv,decide (fv≤s.start)=bv:=⟨_,rfl⟩
   have HPs:Hid ([s].filter P=if bv then[s] else[]):=by show _=_;rw[← hbv, ← HP.out];cases hp:P s<;>simp[hp]
   cases bv with
   | false=>
    refine wp_region_held_drew (S:=fun W=>Fr (fun _=>False) W1 W) (by kernel_rfl) ((Fr.refl _ W1).drew) (fun hY_=>?_);refine tq 7 [0,1,2,3,4,5,6] ?_
    iterate 6 refine sf HC.out ?_
    refine sk ?_
    try simp only[Act.put,sA,sB,sC]
    refine sz ?_
    try simp only[Act.put,sA,sB,sC]
    refine rl 7 rfl (fun K hK=>?_);go_simp
    go_wp2_with (go_at_call 84;refine (HFr.out _ hY_).mono ?_;rintro r w5 ⟨rfl,b5⟩)
    refine hK.out _ _ (hY_.trans (Fr.b0 b5) q4_) (fun hY_=>?_);clear hK K;refine tl 8 ?v8 rfl ?q8 ?r8
    case q8=>intro W hSw;(try obtain⟨a0,a1,a2,a3,s0,s1,s2,s3,s4,s5,s6⟩:=HC.out W hSw);go_simp;try rfl
    try simp only[Act.put,sA,sB,sC]
    refine wpAnyH_done (by kernel_rfl) ?_ _;have F5:=q0_ hY_;clear hY_ b5;go_wp2
    go_roundw
    case rel=>
     refine⟨q+1,by omega,?_,by go_num,?_,Hfq1.out.trans F5.out q4_⟩
     ·rw[HS1.out,HPs.out];simp only[Bool.false_eq_true,if_false,List.append_nil,Hcn.out]
     ·rw[HS1.out,HPs.out]
      simp only[Bool.false_eq_true,if_false,List.append_nil];rw[HS3.out];exact Hi1.out.fr0 F5.out
    case measure=>simp[intOf];omega
   | true=>
    refine wp_region_held_drew (S:=fun W=>Fr (fun _=>False) W1 W) (by kernel_rfl) ((Fr.refl _ W1).drew) (fun hY_=>?_);refine tq 7 [0,1,2,3,4,5,6] ?_
    iterate 6 refine sf HC.out ?_
    refine sk ?_
    try simp only[Act.put,sA,sB,sC]
    refine sz ?_
    try simp only[Act.put,sA,sB,sC]
    refine rl 7 rfl (fun K hK=>?_);go_simp
    go_wp2_with (go_at_call 84;refine (HFr.out _ hY_).mono ?_;rintro r w5 ⟨rfl,b5⟩)
    refine hK.out _ _ (hY_.trans (Fr.b0 b5) q4_) (fun hY_=>?_);clear hK K;refine tl 8 ?v16 rfl ?q16 ?r16
    case q16=>intro W hSw;(try obtain⟨a0,a1,a2,a3,s0,s1,s2,s3,s4,s5,s6⟩:=HC.out W hSw);go_simp;try rfl
    try simp only[Act.put,sA,sB,sC]
    refine wpAnyH_done (by kernel_rfl) ?_ _;have F5:=q0_ hY_;clear hY_ b5;have HTb:=q0_ (HT1.out.fr0 F5.out);have Hi5:=q0_ (Hi1.out.fr0 F5.out);have hb4:=Hi5.out.blk;have hp5:=F5.out.cell hpe1.out (fun h=>h);have Hb5:=q0_ (Hbx.out.fr F5.out (fun h=>h));obtain⟨es,ck,hbm⟩:=HTb.out.own.isMap;have hrb:=zer (Hb5.out.cell 0) hbm
    have HC5:Hid (∀ W,Fr (fun i=>i=b) w5 W→W.cell? ⟨t,4,none⟩=some (.slice (some ad) X.tiers.length ct)∧W.cell? (ad.add k)=some (.pointer (some ⟨g,0,none⟩))∧W.cell? ⟨rb,0,none⟩=some (.string s.name)∧W.cell? ⟨rb,1,none⟩=some (.int .i64 s.start)∧W.cell? ⟨rb,2,none⟩=some (.int .i64 s.agg.count)∧W.cell? ⟨rb,3,none⟩=some (.int .i64 s.agg.hi)∧W.cell? ⟨rb,4,none⟩=some (.int .u64 s.agg.lo)∧W.cell? ⟨rb,5,none⟩=some (.int .i64 s.agg.min)∧W.cell? ⟨rb,6,none⟩=some (.int .i64 s.agg.max)):=fun W f=>⟨(hb4.fr f Htb.out).cell 4,f.cell hp5 Hadb.out,(Hb5.out.fr f hrb).cell 0,(Hb5.out.fr f hrb).cell 1,(Hb5.out.fr f hrb).cell 2,(Hb5.out.fr f hrb).cell 3,(Hb5.out.fr f hrb).cell 4,(Hb5.out.fr f hrb).cell 5,(Hb5.out.fr f hrb).cell 6⟩
    have HAd:Hid (∀ W A c,zaw W g x.every b cur→Rd W 7 A 1 [.string s.name,.int .i64 s.start,.int .i64 s.agg.count,.int .i64 s.agg.hi,.int .u64 s.agg.lo,.int .i64 s.agg.min,.int .i64 s.agg.max]→Calls prog 89 #[.pointer (some ⟨g,0,none⟩),.slice A 1 c] W fun r' w'=>r'=.returned (.int .i64 (([s].filter (zaG x.every)).length:Nat))∧zaw w' g x.every b (zb0 x.every cur s)∧Fr (fun j=>j=b) W w'):=fun W A c ht hrd=>
     zg2 g x.every b cur [s] A 1 c W ht hrd (fun a ha=>by rw[List.mem_singleton] at ha;rw[ha];exact hsw) (by have:=HCl.out;omega)
    obtain⟨on,hon⟩:∃ on,([s].filter (zaG x.every)).length=on:=⟨_,rfl⟩
    have hon1:on≤1:=by rw[← hon];exact List.length_filter_le _ _
    rw[hon] at HAd;have Hon:=q0_ hon
    have hwr:IntKind.i64.wrap ((cn:Int)+(on:Int))=(cn:Int)+(on:Int):=by simp[IntKind.wrap,IntKind.signed,IntKind.bits];omega
    clear hb4 hp5 hbm hrb hon;go_wp2_with fail;refine wp_region_held_drew (S:=fun W=>Fr (fun i=>i=b) w5 W) (by kernel_rfl) ((Fr.refl _ w5).drew) (fun hY_=>?_);refine tq 9 [0,1,2,3,4,5,6,7,8] ?_
    iterate 8 refine sf HC5.out ?_
    refine sf HC5.out ?_
    try simp only[Act.put,sA,sB,sC]
    refine sz ?_
    try simp only[Act.put,sA,sB,sC]
    refine rl 9 rfl (fun K hK=>?_);go_simp;refine hK.out _ _ ((hY_.trans (Fr.none_alloc _ _) q4_)) (fun hY_=>?_);clear hK K
    try simp only[Act.put,sA,sB,sC]
    refine rl 10 rfl (fun K hK=>?_);go_simp
    go_wp2_with (go_at_call 89;refine (HAd.out _ _ _ ((HTb.out.fr0 (Fr.refl _ w5).drew).fr0 (Fr.none_alloc _ _)) (Rd.newS (w:=w5.drew) (k:=w5.heap.size) rfl _ _ 1 7 rfl)).mono ?_;rintro r w7 ⟨rfl,t7,f7⟩)
    refine hK.out _ _ (hY_.trans f7 (fun i hi=>.inl hi)) (fun hY_=>?_);clear hK K;refine tq 2 [11,12] ?_;refine sf HC5.out ?_;refine sf HC5.out ?_
    try simp only[Act.put,sA,sB,sC]
    refine sz ?_
    try simp only[Act.put,sA,sB,sC]
    refine wpAnyH_done (by kernel_rfl) ?_ _;have F7:=q0_ hY_;have T7:=q0_ t7;clear hY_ t7 f7;go_wp2
    go_roundw
    case rel=>
     have h:=Hi5.out.set (k:=k) H1.out H2.out T7.out F7.out;refine⟨q+1,by omega,?_,by go_num,?_,(Hfq1.out.trans F5.out q4_).trans F7.out (fun i hi=>.inl ⟨_,List.mem_of_getElem? H1.out,hi⟩)⟩
     ·rw[HS1.out,HPs.out]
      simp only[if_true,List.filter_append,q8_,Hcn.out,Hon.out]
      go_num
     ·rw[HS1.out,HPs.out]
      simp only[if_true];rw[HS2.out];have h':zaO w7 t base {X with tabs:=(X.tabs.set k cur).set k (zb0 x.every cur s)} A c B d (some ad) ct tb:=h;rw[List.set_set] at h';exact h'
    case measure=>simp[intOf];omega
  ·have hql:rs.take q=rs:=za3 (by rw[Hln.out];omega)
   rw[hql] at Hiq ⊢;go_wp2;go_ret;exact⟨rfl,⟨A,c,B,d,(some ad),ct,tb,Hiq.out,rfl⟩,Hfq.out.mono (fun j hj=>.inl ⟨.inr hj,HM.out j hj⟩)⟩
end Go.Proofs.YtjhhodndlkpmhaaGreatDoor
