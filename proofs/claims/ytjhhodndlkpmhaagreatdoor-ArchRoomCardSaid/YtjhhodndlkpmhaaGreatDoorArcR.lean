/- Walk of arch.read. -/
import Derived.Test.YtjhhodndlkpmhaaGreatDoorCatO
import Derived.Test.YtjhhodndlkpmhaaGreatDoorCatGet
namespace Go.Proofs.YtjhhodndlkpmhaaGreatDoor
set_option linter.all false
set_option maxHeartbeats 8000000
set_option maxRecDepth 100000
open Go.RowKit Tryz
def zjp:ByteArray:=⟨#[83,69,68,65,82,67,72,49]⟩
def zpy(b:List UInt8)(lo:Nat)(r:Ending)(w':World):Prop:=
 (∃ X t F nm l fl,zb1 b=some X∧r=.returned (.tuple #[.pointer (some ⟨t,0,none⟩),.bool true])∧zb_ nm l∧nm.size≤maxLen∧fl.length≤5∧(∀ f∈fl,zbh f)∧Tio nm l fl lo w' t X F 100000)∨(zb1 b=none∧∃ v,r=.returned (.tuple #[v,.bool false]))
theorem zkw{k:Nat}{x:UInt8}{s:RS}(h:zbc[k]? =some x):zc5 (zbc.drop k) s=if (zai 1 s).2=x.toNat then zc5 (zbc.drop (k+1)) (zai 1 s).1 else none:=by
 have hk:k<zbc.length:=(List.getElem?_eq_some_iff.1 h).1;have hx:zbc[k]=x:=(List.getElem?_eq_some_iff.1 h).2;rw[List.drop_eq_getElem_cons hk,hx]
 rfl
theorem zp5(s:RS):zc5 (zbc.drop 8) s=some s:=rfl
theorem zlp(k:Int)(s:RS):(zai k s).1.b.length≤s.b.length:=zge k s.e s.b
theorem zp4(s:RS):(zd9 s).length≤s.b.length:=by
 unfold zd9 zay
 split
 ·split
  ·exact Nat.zero_le _
  ·rw[List.length_take];omega
 ·exact Nat.zero_le _
theorem zna{c:zfH}(h:zg7 c=true):(∀ f∈c.fl,zbh f)∧c.fl.length=c.pl.length∧c.pl.length≤5:=by
 have hb:=h;unfold zg7 at hb;simp only[Bool.and_eq_true,decide_eq_true_eq] at hb;obtain⟨b1,_⟩:=hb;unfold zcn at b1;simp only[Bool.and_eq_true,decide_eq_true_eq,List.all_eq_true] at b1;obtain⟨⟨_,g2,g3,g4⟩,g5⟩:=b1;refine⟨fun f hf=>?_,g4,(zch (zjO h).1).2⟩;have:=g5 f hf;unfold inB at this;simp only[Bool.and_eq_true,decide_eq_true_eq] at this;exact⟨by omega,by omega⟩
theorem zog(l:List UInt8)(n:Nat):∀ r∈zbo l n,r.wf:=by
 intro r hr;unfold zbo at hr;obtain⟨k,_,rfl⟩:=List.mem_map.1 hr;exact zlo _
theorem zmr(l:List UInt8)(n:Nat):(zbo l n).length=n:=by unfold zbo;simp
theorem znx{W:World}{g:Nat}{s:RS}(h:UQ W g s):zg5 W (fun i=>i=g):=fun j hj=>by
 subst hj;exact .inr ⟨_,_,_,h.1,by decide,by decide,by decide,by decide⟩
theorem zpg(b:List UInt8)(hb0:b.length≤1000000)(w:World)(hmx0:MaxL w)(htab0:Tab w):
  Calls prog 20 #[.string (zal b)] w fun r w'=>zpy b w.heap.size r w'∧Below w.heap.size w w':=by
 have hmx:=q0_ hmx0;have htab:=q0_ htab0;have hb:=q0_ hb0;clear hmx0 htab0 hb0;unfold zpy;go_enter func20,ntmps20;go_wp2_with fail;refine (zeS b w (by have:=hb.out;omega)).mono ?_;rintro r w1 ⟨g,rfl,u1,b1,hg⟩
 have U1:Hid (UQ w1 g ⟨0,b⟩):=⟨u1,by have:=hb.out;show b.length≤_;omega⟩
 have F1:Hid (Fr (fun _=>False) w w1):=Fr.b0 b1;have Hg:=q0_ hg;clear u1 b1 hg;have HM0:Hid (zb1 b=zq0 (zc5 (zbc.drop 0) ⟨0,b⟩)):=zqM b;go_wp2_with fail
 go_loopw [16] (fun i wr=>∃ (k:Nat) (s:RS),k≤8∧i=.int .i64 k∧Hid (UQ wr g s)∧Hid (Fr (fun i=>i=g) w1 wr)∧Hid (s.b.length≤1000000)∧Hid (zc5 (zbc.drop 0) ⟨0,b⟩=zc5 (zbc.drop k) s)) (fun i _=>8-(intOf i).toNat)
 case atStart=>exact⟨0,⟨0,b⟩,Nat.zero_le _,rfl,U1,Fr.refl _ _,hb.out,rfl⟩
 case round=>
  obtain⟨k,s,hk,rfl,hu,hf,hsl,hm⟩:=hrel;clear U1
  by_cases hlt:k<8
  ·have hkB:k<zjp.size:=hlt
   have hx1:zjp[k].toNat<256:=zjp[k].toNat_lt;have HMs:=q0_ (zkw (s:=s) (show zbc[k]? =some zjp[k] from zfC hkB));have HSm:Hid (∀ W',Fr (fun _=>False) wr W'→Calls prog 50 #[.pointer (some ⟨g,0,none⟩),.int .i64 1] W' fun r w'=>r=.returned (.int .i64 (zai 1 s).2)∧UQ w' g (zai 1 s).1∧Fr (fun k=>k=g) W' w'):=fun W' f=>zh4 1 (hu.out.fr0 f);have hle:=q0_ (zlp 1 s)
   obtain⟨⟨s2,v⟩,hv⟩:∃ p,zai 1 s=p:=⟨_,rfl⟩
   have hvr:=zdm s;rw[hv] at HMs HSm hle hvr;dsimp only at HMs HSm hle hvr;clear hv
   obtain⟨x,hxx⟩:∃ x,zjp[k]=x:=⟨_,rfl⟩
   rw[hxx] at HMs hx1;have hxx2:∀ h:k<(⟨#[83,69,68,65,82,67,72,49]⟩:ByteArray).size,(⟨#[83,69,68,65,82,67,72,49]⟩:ByteArray)[k]'h=x:=fun h=>hxx;have hkB2:k<(⟨#[83,69,68,65,82,67,72,49]⟩:ByteArray).size:=hlt
   have hkB3:(k:Int)<((⟨#[83,69,68,65,82,67,72,49]⟩:ByteArray).size:Int):=by show (k:Int)<8;omega
   have hwr:IntKind.i64.wrap (x.toNat:Int)=(x.toNat:Int):=zf7 ⟨by omega,by omega⟩;clear hxx hkB
   cases he1:(v==(x.toNat:Int))
   ·have he2:(v != (x.toNat:Int))=true:=by simpa using he1
    have HMt:Hid (zb1 b=none):=by show _=_;rw[HM0.out,hm.out,HMs.out,if_neg (by simpa using he1),zph]
    clear HMs hm
    go_upto_region 5 with fail
    refine wp_region_held_drew (S:=fun W'=>Fr (fun i=>i=g) wr W') (by kernel_rfl) ((Fr.refl _ wr).drew) (fun hY_=>?_);refine tl 0 ?v1 rfl ?q1 ?r1
    case q1=>intro W hSw;(try skip);go_simp;(try simp only[hxx2,hwr]);try rfl
    refine tl 2 ?v2 rfl ?q2 ?r2
    case q2=>intro W hSw;(try skip);go_simp;(try simp only[hxx2,hwr]);try rfl
    refine tl 3 ?v3 rfl ?q3 ?r3
    case q3=>intro W hSw;(try skip);go_simp;(try simp only[hxx2,hwr]);try rfl
    refine tl 4 ?v4 rfl ?q4 ?r4
    case q4=>intro W hSw;(try skip);go_simp;(try simp only[hxx2,hwr]);try rfl
    try simp only[Act.put,sA,sB,sC]
    refine rl 1 rfl (fun K hK=>?_);go_simp
    go_wp2_with (go_at_call 50;refine (HSm.out _ ((Fr.refl _ wr).drew)).mono ?_;rintro r w5 ⟨rfl,u5,f5⟩)
    have HU2:=q0_ u5;refine hK.out _ _ (hY_.trans f5 (fun j hj=>.inl hj)) (fun hY_=>?_);clear hK K;refine tl 5 ?v5 rfl ?q5 ?r5
    case q5=>intro W hSw;(try skip);go_simp;(try simp only[hxx2,hwr]);try rfl
    try simp only[Act.put,sA,sB,sC]
    refine wpAnyH_done (by kernel_rfl) ?_ _;have hF5:=q0_ hY_;clear hY_;go_wp2
    go_ret2
    exact⟨.inr ⟨HMt.out,_,rfl⟩,((F1.out.trans hf.out (fun k hk=>.inr (by have:=Hg.out;omega))).trans hF5.out (fun k hk=>.inr (by have:=Hg.out;have:=F1.out.size;omega))).below q4_⟩
   ·have he2:(v != (x.toNat:Int))=false:=by simpa using he1
    have HMt:Hid (zc5 (zbc.drop 0) ⟨0,b⟩=zc5 (zbc.drop (k+1)) s2):=by show _=_;rw[hm.out,HMs.out,if_pos (by simpa using he1)]
    clear HMs hm
    go_upto_region 5 with fail
    refine wp_region_held_drew (S:=fun W'=>Fr (fun i=>i=g) wr W') (by kernel_rfl) ((Fr.refl _ wr).drew) (fun hY_=>?_);refine tl 0 ?v6 rfl ?q6 ?r6
    case q6=>intro W hSw;(try skip);go_simp;(try simp only[hxx2,hwr]);try rfl
    refine tl 2 ?v7 rfl ?q7 ?r7
    case q7=>intro W hSw;(try skip);go_simp;(try simp only[hxx2,hwr]);try rfl
    refine tl 3 ?v8 rfl ?q8 ?r8
    case q8=>intro W hSw;(try skip);go_simp;(try simp only[hxx2,hwr]);try rfl
    refine tl 4 ?v9 rfl ?q9 ?r9
    case q9=>intro W hSw;(try skip);go_simp;(try simp only[hxx2,hwr]);try rfl
    try simp only[Act.put,sA,sB,sC]
    refine rl 1 rfl (fun K hK=>?_);go_simp
    go_wp2_with (go_at_call 50;refine (HSm.out _ ((Fr.refl _ wr).drew)).mono ?_;rintro r w5 ⟨rfl,u5,f5⟩)
    have HU2:=q0_ u5;refine hK.out _ _ (hY_.trans f5 (fun j hj=>.inl hj)) (fun hY_=>?_);clear hK K;refine tl 5 ?v10 rfl ?q10 ?r10
    case q10=>intro W hSw;(try skip);go_simp;(try simp only[hxx2,hwr]);try rfl
    try simp only[Act.put,sA,sB,sC]
    refine wpAnyH_done (by kernel_rfl) ?_ _;have hF5:=q0_ hY_;clear hY_;go_wp2
    go_roundw
    case rel=>exact⟨k+1,s2,by omega,by go_num,HU2,hf.out.trans hF5.out (fun k hk=>.inl hk),Nat.le_trans hle.out hsl.out,HMt⟩
    case measure=>simp[intOf];omega
  ·obtain rfl:k=8:=by omega
   have HM1:Hid (zb1 b=zq0 (some s)):=by show _=_;rw[HM0.out,hm.out,zp5]
   have FW:Hid (Fr (fun _=>False) w wr):=F1.out.trans hf.out (fun k hk=>.inr (by have:=Hg.out;omega));have HTs:=q0_ (zfi s);have HTb:Hid ((zco s).1.b.length≤1000000):=Nat.le_trans (zhk s.e s.b) hsl.out;have HTx:=q0_ (znv hu.out)
   obtain⟨⟨s2,T⟩,hT⟩:∃ p,zco s=p:=⟨_,rfl⟩
   have HM1b:Hid (zb1 b=zrX s2 T):=by show _=_;rw[HM1.out,zjS hT]
   rw[hT] at HTs HTb HTx;dsimp only at HTs HTb HTx;clear hT hm HM0 hf hsl F1 HM1;go_wp2_with fail;refine HTx.out.mono ?_;rintro r w2 ⟨rfl,u2,f2⟩;have U2:=q0_ u2;have F2:Hid (Fr (fun _=>False) w w2):=FW.out.trans f2 (fun k hk=>.inr (by have:=Hg.out;omega));have HGet:=q0_ (zqE T.data.toList (by rw[zbj];have:=HTs.out;omega) w2 (hmx.out.fr F2.out (fun h=>h)) (htab.out.below (F2.out.below q4_)));rw[zcG] at HGet;clear u2 f2 HTx hu FW;go_wp2_with fail;refine HGet.out.mono ?_;rintro r w3 ⟨hr,b3⟩;have F3:Hid (Fr (fun _=>False) w w3):=F2.out.trans (Fr.b0 b3) q4_;have U3:=q0_ (U2.out.fr0 (Fr.b0 b3));clear b3 HGet U2 F2
   rcases hr with ⟨d,a,rfl,hgi,hq⟩ | ⟨e,he,rfl,hno⟩
   rotate_left
   ·have HA:Hid (zb1 b=none):=by show _=_;rw[HM1b.out,zpi (zo8 hno)]
    have he2:(e != 0)=true:=by simpa using he
    unfold zj9;clear hno he HM1b U3
    go_upto_region 9 with fail
    go_wp2
    go_ret2
    exact⟨.inr ⟨HA.out,_,rfl⟩,(F3.out.trans (Fr.none_alloc _ _) q4_).below q4_⟩
   have HC:Hid (znq T.data.toList=some d.p):=zo7 hq
   have HM2:Hid (zb1 b=if zfs d.nm d.pl d.now d.fl=0 then zrq (zcM d.pl.length 0 (zfZ d.nm d.pl d.now d.fl) s2) else none):=by show _=_;rw[HM1b.out,zjT HC.out];unfold zss;rfl
   have HFl:=q0_ (zna (c:=d) (by rw[zlQ];exact hq.2.2.1));have Hgi:=q0_ hgi
   have Hpn:Hid (d.pl.length=a.pn∧d.fl.length=a.fn):=⟨hgi.lp,hgi.lf⟩
   clear hgi hq HM1b HC;unfold zd7
   go_upto_region 9 with fail
   obtain⟨W4,hW4⟩:∃ W4,W4=w3.alloc (.cells #[.int .u64 d.gen,.int .u64 d.id,.int .i64 d.now,.string d.nm,.slice a.pA a.pn a.pc,.slice a.fA a.fn a.fc,.string d.nm2,.slice a.tA a.tn a.tc,.slice a.sA a.sn a.sc,.int .i64 d.bound,.int .i64 d.done,.slice a.eA a.en a.ec] 55):=⟨_,rfl⟩
   rw[← hW4]
   have X4:Blk W4 w3.heap.size 55 #[.int .u64 d.gen,.int .u64 d.id,.int .i64 d.now,.string d.nm,.slice a.pA a.pn a.pc,.slice a.fA a.fn a.fc,.string d.nm2,.slice a.tA a.tn a.tc,.slice a.sA a.sn a.sc,.int .i64 d.bound,.int .i64 d.done,.slice a.eA a.en a.ec]:=by rw[hW4];exact Blk.new _ _ _
   have F34:Fr (fun _=>False) w3 W4:=by rw[hW4];exact Fr.none_alloc _ _
   have F4:Hid (Fr (fun _=>False) w W4):=F3.out.trans F34 q4_;have U4:=q0_ (U3.out.fr0 F34);have HCin:=q0_ (Hgi.out.cin.fr0 F34);have HX4:=q0_ X4;have HNew:=q0_ (zpK Hgi.out.nm Hgi.out.wp a.pA a.pn a.pc d.now Hgi.out.now a.fA a.fn a.fc w.heap.size W4 F4.out.size HCin.out.rp HCin.out.cp.1 (by have:=HCin.out.cp.2;unfold maxLen at this;have:=HFl.out.2.2;have:=Hpn.out.1;omega) HCin.out.rf (by have:=HFl.out.2.1;have:=HFl.out.2.2;have:=Hpn.out.2;omega));have x2:W4.cell? ⟨w3.heap.size,2,none⟩=some (.int .i64 d.now):=X4.cell 2;have x3:W4.cell? ⟨w3.heap.size,3,none⟩=some (.string d.nm):=X4.cell 3;have x4:W4.cell? ⟨w3.heap.size,4,none⟩=some (.slice a.pA a.pn a.pc):=X4.cell 4;have x5:W4.cell? ⟨w3.heap.size,5,none⟩=some (.slice a.fA a.fn a.fc):=X4.cell 5
   have Hcb:Hid (w3.heap.size<W4.heap.size∧w.heap.size≤w3.heap.size):=⟨X4.lt,F3.out.size⟩
   have Hnm:Hid (d.nm.size≤maxLen):=Hgi.out.nm;clear hW4 X4 F34 F3 U3 Hgi HCin;go_wp2_with fail;refine HNew.out.mono ?_;rintro r w5 ⟨hr,b5⟩;have F5:Hid (Fr (fun _=>False) w w5):=F4.out.trans (Fr.b0 b5) q4_;have U5:=q0_ (U4.out.fr0 (Fr.b0 b5));have x4b:w5.cell? ⟨w3.heap.size,4,none⟩=some (.slice a.pA a.pn a.pc):=(HX4.out.fr (Fr.b0 b5) (fun h=>h)).cell 4;clear x2 x3 x4 x5 HNew b5 HX4
   by_cases hE:zfs d.nm d.pl d.now d.fl=0
   rotate_left
   ·obtain rfl:=hr.2 hE
    have HA:Hid (zb1 b=none):=by show _=_;rw[HM2.out,if_neg hE]
    have hE2:(zfs d.nm d.pl d.now d.fl != 0)=true:=by simpa using hE
    clear hr hE;go_wp2
    go_ret2
    exact⟨.inr ⟨HA.out,_,rfl⟩,F5.out.below q4_⟩
   obtain⟨hpol,t,F,rfl,ht,hF⟩:=hr.1 hE;have Hpol:=q0_ hpol;have Ht:=q0_ ht
   have HF:Hid (¬ F g):=fun h=>by have:=hF _ h;have:=U4.out.1.lt;omega
   obtain⟨X0,hX0⟩:∃ X0,zfZ d.nm d.pl d.now d.fl=X0:=⟨_,rfl⟩
   obtain⟨n,hn⟩:∃ n,a.pn=n:=⟨_,rfl⟩
   have hn5:n≤5:=by have:=HFl.out.2.2;have:=Hpn.out.1;omega
   have HM3:Hid (zb1 b=zrq (zcM n 0 X0 s2)):=by show _=_;rw[HM2.out,if_pos hE,hX0,Hpn.out.1,hn]
   have Hpl:Hid (d.pl.length=n):=by show _=_;rw[Hpn.out.1,hn]
   have Hf5:Hid (d.fl.length≤5):=by have:=HFl.out.2.1;have:=HFl.out.2.2;show _≤_;omega
   rw[hX0] at Ht;rw[hn] at x4b;clear hr hE hpol ht hF hX0 hn HM2 U4 F4 Hcb;go_wp2_with fail;clear x4b
   go_loopw [4,50] (fun u i wr=>∃ (k gk:Nat) (s:RS) (X:zaa),k≤n∧i=.int .i64 k∧u=.pointer (some ⟨gk,0,none⟩)∧Hid (UQ wr gk s)∧Hid (Tio d.nm d.pl d.fl w.heap.size wr t X F (k*16000))∧Hid (¬ F gk)∧Hid (Fr (fun _=>False) w wr)∧Hid (s.b.length≤1000000)∧Hid (zb1 b=zrq (zcM (n-k) k X s))∧Hid (w.heap.size≤gk)) (fun _ i _=>n-(intOf i).toNat)
   case atStart=>exact⟨0,g,s2,X0,Nat.zero_le _,rfl,rfl,U5,by show Tio _ _ _ _ _ _ _ _ _;rw[Nat.zero_mul];exact Ht.out,HF,F5,HTb,HM3,Hg⟩
   case round=>
    obtain⟨k,gk,s,X,hk,rfl,rfl,hu,hti,hFg,hfr,hsl,hm,hgk⟩:=hrel;clear U5 Ht HF F5 HTb HM3
    by_cases hlt:k<n
    ·have HS4:=q0_ (zh4 4 hu.out)
     have hvr:=zfj 4 s 4294967296 (by decide);have hsb:=q0_ (Nat.le_trans (zlp 4 s) hsl.out)
     have hnk:0<n-k:=by omega
     have hrt:zih k X s=if (zd9 (zai 4 s).1).length / 64<(zai 4 s).2.toNat then none else if zcA ((zd9 (zai 4 s).1).take (64*(zai 4 s).2.toNat)) (zai 4 s).2.toNat=true then (if zfu X k (zbo ((zd9 (zai 4 s).1).take (64*(zai 4 s).2.toNat)) (zai 4 s).2.toNat)=(zai 4 s).2.toNat then some (zea X k (zbo ((zd9 (zai 4 s).1).take (64*(zai 4 s).2.toNat)) (zai 4 s).2.toNat),⟨0,(zd9 (zai 4 s).1).drop (64*(zai 4 s).2.toNat)⟩) else none) else none:=rfl
     obtain⟨⟨s1,nv⟩,hnv⟩:∃ p,zai 4 s=p:=⟨_,rfl⟩
     rw[hnv] at HS4 hvr hsb hrt;dsimp only at HS4 hvr hsb hrt
     obtain⟨nn,rfl⟩:∃ nn:Nat,nv=(nn:Int):=⟨nv.toNat,by omega⟩
     rw[Int.toNat_natCast] at hrt;have hrl:=zp4 s1;have hRv:zd9 s1=(zay s1.e s1.b s1.b.length).2.2:=rfl
     obtain⟨RR,hR⟩:∃ R,zd9 s1=R:=⟨_,rfl⟩
     rw[hR] at hrt hrl hRv
     have hRl:RR.length≤1000000:=by have:=hsb.out;omega
     have HRv:=q0_ hRv;have HNk:=q0_ hnk;have HRt:=q0_ hrt;clear hnv hR hrl hRv hnk hrt;go_wp2_with fail;refine HS4.out.mono ?_;rintro r wa ⟨rfl,ua,fa⟩;have Ta:=q0_ (hti.out.frK2 fa (znx hu.out) (fun j hj e=>hFg.out (e▸hj)));have Ua:=q0_ ua;have Fa:Hid (Fr (fun _=>False) w wa):=hfr.out.trans fa (fun j hj=>.inr (by have:=hgk.out;omega));have HRs:=q0_ (zln gk s1.e s1.b wa ua.1 ua.2);rw[← HRv.out] at HRs;clear ua fa HS4 hu hti hfr;go_wp2_with fail;refine HRs.out.mono ?_;rintro r wb ⟨rfl,_,fb⟩;have Tb:=q0_ (Ta.out.frK2 fb (znx Ua.out) (fun j hj e=>hFg.out (e▸hj)));have Fb:Hid (Fr (fun _=>False) w wb):=Fa.out.trans fb (fun j hj=>.inr (by have:=hgk.out;omega));clear fb HRs Ta Ua Fa;have hSz:=zam RR
     have HTk:Hid ((zal RR).extract 0 (nn*64)=zal (RR.take (64*nn))):=by show _=_;rw[zaP,Nat.mul_comm];simp
     have HDr:Hid ((zal RR).extract (nn*64) (zal RR).size=zal (RR.drop (64*nn))):=by show _=_;rw[zaP,zam,List.take_length,Nat.mul_comm]
     obtain⟨S,hS⟩:∃ S,zal RR=S:=⟨_,rfl⟩
     rw[hS] at hSz HTk HDr;rw[hS]
     obtain⟨z,hz⟩:∃ z,RR.length / 64=z:=⟨_,rfl⟩
     have hd2:(S.size:Int) / 64=(z:Int):=by omega
     have hd1:(S.size:Int).tdiv 64=(z:Int):=by rw[Int.tdiv_eq_ediv_of_nonneg (by omega)];exact hd2
     have hSb:S.size≤1000000:=by omega
     rw[hz] at HRt
     by_cases hgt:z<nn
     ·have hgi:(z:Int)<(nn:Int):=by omega
      have HA:Hid (zb1 b=none):=by show _=_;rw[hm.out];exact zfh HNk.out (by rw[HRt.out,if_pos hgt])
      clear hS hz hgt HRt HNk hm;go_wp2
      go_ret2
      exact⟨.inr ⟨HA.out,_,rfl⟩,Fb.out.below q4_⟩
     have hgi:(nn:Int)≤(z:Int):=by omega
     have hnb:nn*64≤S.size:=by omega
     have hnb2:(nn:Int)*64≤(S.size:Int):=by omega
     have hto:((nn:Int)*64).toNat=nn*64:=by omega
     have hn0:0≤(nn:Int)*64:=by omega
     have hnn:nn≤15625:=by omega
     have hlen:(RR.take (64*nn)).length=64*nn:=by rw[List.length_take];omega
     have HGt:=q0_ (zmt (RR.take (64*nn)) nn hlen (by omega) wb);rw[← HTk.out] at HGt
     have HRt2:Hid (zih k X s=if zcA (RR.take (64*nn)) nn=true then (if zfu X k (zbo (RR.take (64*nn)) nn)=nn then some (zea X k (zbo (RR.take (64*nn)) nn),⟨0,RR.drop (64*nn)⟩) else none) else none):=by show _=_;rw[HRt.out,if_neg hgt]
     have hDl:(RR.drop (64*nn)).length≤1000000:=by rw[List.length_drop];omega
     have HDl:=q0_ hDl
     have HFm:Hid (∀ W',Calls prog 49 #[.string (S.extract (nn*64) S.size)] W' fun r w'=>∃ g,r=.returned (.pointer (some ⟨g,0,none⟩))∧Up w' g 0 (RR.drop (64*nn))∧Below W'.heap.size W' w'∧W'.heap.size≤g):=fun W'=>by rw[HDr.out];exact zeS _ W' (by omega)
     obtain⟨D1,hD1⟩:∃ D,RR.take (64*nn)=D:=⟨_,rfl⟩
     obtain⟨D2,hD2⟩:∃ D,RR.drop (64*nn)=D:=⟨_,rfl⟩
     obtain⟨SL,hSL⟩:∃ S2,S.extract 0 (nn*64)=S2:=⟨_,rfl⟩
     have HSL:=q0_ hSL;rw[hD1,hD2] at HRt2;rw[hD1,hSL] at HGt;rw[hD2] at HDl HFm;clear hS hz hgt hlen HRt hDl hD1 hD2 hSL HTk HDr hSz;go_wp2_with fail
     try rw[HSL.out]
     refine HGt.out.mono ?_;rintro r wc ⟨hr1,hr2,bc⟩;have Tc:=q0_ (Tb.out.fr0 (Fr.b0 bc));have Fc:Hid (Fr (fun _=>False) w wc):=Fb.out.trans (Fr.b0 bc) q4_;clear bc HGt Tb Fb
     cases hok:zcA D1 nn
     ·obtain rfl:=hr2 hok
      have HA:Hid (zb1 b=none):=by show _=_;rw[hm.out];exact zfh HNk.out (by rw[HRt2.out,hok];rfl)
      clear hr1 hr2 hok HRt2 HNk hm;go_wp2
      go_ret2
      exact⟨.inr ⟨HA.out,_,rfl⟩,Fc.out.below q4_⟩
     obtain⟨A,cc,rfl,_,hrd,_⟩:=hr1 hok;have HLd:=q0_ (znG Hpol.out Tc.out (by have:=hn5;omega) k (by rw[Hpl.out];exact hlt) (zbo D1 nn) A nn cc hrd (zog _ _) (by omega));have HRl:=q0_ (zmr D1 nn)
     have HRt3:Hid (zih k X s=if zfu X k (zbo D1 nn)=nn then some (zea X k (zbo D1 nn),⟨0,D2⟩) else none):=by show _=_;rw[HRt2.out,if_pos hok]
     obtain⟨LN,hLN⟩:∃ m,zfu X k (zbo D1 nn)=m:=⟨_,rfl⟩
     obtain⟨LX,hLX⟩:∃ m,zea X k (zbo D1 nn)=m:=⟨_,rfl⟩
     rw[hLN,hLX] at HLd HRt3;clear hr1 hr2 hok hrd HRt2 hLN hLX
     by_cases hl:LN=nn
     rotate_left
     ·have hl3:¬ (LN:Int)=(nn:Int):=by omega
      have hl1:((LN:Int)==(nn:Int))=false:=beq_eq_false_iff_ne.2 hl3
      have hl2:((LN:Int) != (nn:Int))=true:=by rw[bne,hl1];rfl
      have HA:Hid (zb1 b=none):=by show _=_;rw[hm.out];exact zfh HNk.out (by rw[HRt3.out,if_neg hl])
      clear hl HRt3 HNk hm;go_wp2_with fail;refine HLd.out.mono ?_;rintro r wd ⟨rfl,_,fd⟩;have Fd:Hid (Fr (fun _=>False) w wd):=Fc.out.trans fd (fun j hj=>.inr (Tc.out.ge j hj).1);clear fd HLd;go_wp2
      go_ret2
      exact⟨.inr ⟨HA.out,_,rfl⟩,Fd.out.below q4_⟩
     subst hl
     have HMn:Hid (zb1 b=zrq (zcM (n-(k+1)) (k+1) LX ⟨0,D2⟩)):=by show _=_;rw[hm.out,zgw HNk.out (by rw[HRt3.out,if_pos rfl]),show n-k-1=n-(k+1) by omega]
     clear HRt3 HNk hm;go_wp2_with fail;refine HLd.out.mono ?_;rintro r wd ⟨rfl,td,fd⟩;have Fd:Hid (Fr (fun _=>False) w wd):=Fc.out.trans fd (fun j hj=>.inr (Tc.out.ge j hj).1);have Td:Hid (Tio d.nm d.pl d.fl w.heap.size wd t LX F ((k+1)*16000)):=td.more (by rw[HRl.out,Nat.add_mul];omega);clear fd td HLd Tc Fc;go_wp2_with fail;refine (HFm.out _).mono ?_;rintro r we ⟨ge,rfl,ue,be,hge⟩
     have Ue:Hid (UQ we ge ⟨0,D2⟩):=⟨ue,by have:=HDl.out;show D2.length≤_;omega⟩
     have Te:=q0_ (Td.out.fr0 (Fr.b0 be));have Fe:Hid (Fr (fun _=>False) w we):=Fd.out.trans (Fr.b0 be) q4_
     have HFe:Hid (¬ F ge):=fun h=>by have:=(Td.out.ge ge h).2;omega
     have Hge:Hid (w.heap.size≤ge):=Nat.le_trans Fd.out.size hge;clear ue be hge Td Fd;go_wp2
     go_roundw
     case rel=>exact⟨k+1,ge,⟨0,D2⟩,LX,by omega,by go_num,rfl,Ue,Te,HFe,Fe,HDl,HMn,Hge⟩
     case measure=>simp[intOf];omega
    ·obtain rfl:k=n:=by omega
     have HL:=q0_ (zly gk s.e s.b wr hu.out.1)
     have HM4:Hid (zb1 b=if s.b.length=0 then some X else none):=by show _=_;rw[hm.out,Nat.sub_self,zmw]
     have HT:=q0_ (hti.out.more (show k*16000≤100000 by omega))
     obtain⟨m,hm2⟩:∃ m,s.b.length=m:=⟨_,rfl⟩
     rw[hm2] at HL HM4;clear hm2 hm hti
     by_cases h0:m=0
     ·subst h0
      go_wp2_with fail;refine HL.out.mono ?_;rintro r w9 ⟨rfl,rfl⟩;go_wp2
      go_ret2
      exact⟨.inl ⟨X,t,F,d.nm,d.pl,d.fl,by rw[HM4.out];simp,rfl,Hpol.out,Hnm.out,Hf5.out,HFl.out.1,HT.out⟩,hfr.out.below q4_⟩
     ·have h1:((m:Int)==0)=false:=by simpa using h0
      have h2:¬ (m:Int)=0:=by omega
      go_wp2_with fail;refine HL.out.mono ?_;rintro r w9 ⟨rfl,rfl⟩;go_wp2
      go_ret2
      exact⟨.inr ⟨by rw[HM4.out,if_neg h0],_,rfl⟩,hfr.out.below q4_⟩
end Go.Proofs.YtjhhodndlkpmhaaGreatDoor
