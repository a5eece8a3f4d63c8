/- Walks of arch.raw, arch.Export. -/
import Derived.Test.YtjhhodndlkpmhaaGreatDoorCatO
namespace Go.Proofs.YtjhhodndlkpmhaaGreatDoor
set_option linter.all false
set_option maxHeartbeats 8000000
set_option maxRecDepth 100000
open Go.RowKit Tryz
theorem zsh(b:UInt8):smB (Int.toNat 1) [(b.toNat:Int)]=[b]:=by
 unfold smB;simp[le]
section
variable {w W:World} {g:Nat} {K:Nat→Prop} {l:List UInt8}
theorem zro(h:PS w W g K l)(s:List UInt8)(hs:s.length≤64)(hl:l.length≤549755813888):
  Calls prog 30 #[.pointer (some ⟨g,0,none⟩),.string (zal s)] W fun r w'=>r=.returned (.tuple #[])∧PS w w' g K (l++s):=by
 obtain⟨x,hx⟩:∃ x,zal s=x:=⟨_,rfl⟩
 have hz:x.size=s.length:=by rw[← hx,zam]
 have HB:Hid (∀ (j:Nat) (h:j<x.size),s[j]? =some x[j]):=fun j h=>by
  have e:x.data.toList=s:=by rw[← hx,za8]
  have h2:=zfC h;rw[e] at h2;exact h2
 have hx64:x.size≤64:=by omega
 have H:=q0_ h
 have HS:Hid (∀ j,(l++s.take j).length+8*1≤1099511627776):=fun j=>by rw[q8_,List.length_take];omega
 have HE:Hid (s.take x.size=s):=by show _=_;rw[hz];exact List.take_length
 rw[hx];clear h hs hx hz hl;go_enter func30,ntmps30;go_wp2_with fail
 go_loopw [7] (fun i wr=>∃ j:Nat,j≤x.size∧i=.int .i64 j∧Hid (PS w wr g K (l++s.take j))) (fun i _=>x.size-(intOf i).toNat)
 case atStart=>exact⟨0,Nat.zero_le _,rfl,by show PS _ _ _ _ _;simpa using H.out⟩
 case round=>
  obtain⟨j,hj,rfl,hp⟩:=hrel
  by_cases hlj:j<x.size
  ·have hb1:x[j].toNat<256:=x[j].toNat_lt
   have hw:=zd4 hp.out 1 [(x[j].toNat:Int)] 1 rfl rfl (fun v hv=>by rw[List.mem_singleton] at hv;rw[hv];exact zjw ⟨by omega,by omega⟩) (HS.out j);simp only[List.map_cons,List.map_nil] at hw;have HW:=q0_ hw
   have HT:Hid (l++s.take (j+1)=l++s.take j++smB (Int.toNat 1) [(x[j].toNat:Int)]):=by show _=_;rw[zan (HB.out j hlj), ← List.append_assoc,zsh]
   clear hw hp;go_wp2_with fail;refine (show Calls _ _ _ _ _ from HW.out).mono ?_;rintro r w1 ⟨rfl,hp1⟩;rw[← HT.out] at hp1;have HP:=q0_ hp1;clear hp1;go_wp2
   go_roundw
   case rel=>exact⟨j+1,by omega,by go_num,HP⟩
   case measure=>simp[intOf];omega
  ·obtain rfl:j=x.size:=by omega
   go_wp2
   go_end0
   refine⟨rfl,?_⟩;have:=hp.out;rw[HE.out] at this;exact this
end
theorem Tio.recs_wf{nm:ByteArray}{l:List za_}{fl:List Int}{lo:Nat}{W:World}{t:Nat}{X:zaa}{F:Nat→Prop}{c k:Nat}{m:List zae}(h:Tio nm l fl lo W t X F c)(hk:k<l.length)(hm:X.tabs[k]? =some m):∀ r∈m,r.wf:=by
 obtain⟨base,hb,ho⟩:=h.on;obtain⟨A,cc,B,d,T,ct,tb,hi,rfl⟩:=ho;obtain⟨g,b,x,m0,h1,h2,h3,_⟩:=hi.tabAt (k:=k) (by rw[h.good.tiers];exact hk);rw[hm] at h3;obtain rfl:=Option.some.inj h3;exact (hi.tab k (g,b) x _ h1 h2 hm).own.wf
theorem znJ{m:List zae}{c:Nat}(ho:m.all za0=true)(hl:m.length≤c):(zcT m).length≤4+64*c:=by
 unfold zcT;rw[q8_,zaQ,zeG ho];omega
theorem zfa{c:Nat}:∀ {L:List (List zae)},L.all (fun m=>m.all za0)=true→(∀ m∈L,m.length≤c)→(L.flatMap zcT).length≤L.length*(4+64*c)
 | [],_,_=>Nat.zero_le _
 | m::L,ho,hl=>by
  rw[List.all_cons,Bool.and_eq_true] at ho;have h1:=znJ ho.1 (hl m (by simp));have h2:=zfa ho.2 (fun x hx=>hl x (List.mem_cons_of_mem _ hx));rw[List.flatMap_cons,q8_,List.length_cons,Nat.succ_mul];omega
theorem zd_{W:World}{g lo c:Nat}{Q:StX}(hg:zbU Q c)(hch:Q.ch=none)(hfl:∀ f∈Q.X.floors,zbh f)(hc:c≤1000000)(h:StP W g lo Q c)(htab:Tab W):
  Calls prog 10 #[.pointer (some ⟨g,0,none⟩)] W fun r w'=>r=.returned (.tuple #[.string (zfO Q).1,.int .i64 (zfO Q).2])∧Below W.heap.size W w':=by
 obtain⟨n,hn⟩:∃ n,Q.X.tiers.length=n:=⟨_,rfl⟩
 have hn5:n≤5:=by rw[← hn];exact hg.pol.five
 have HPe:Hid (∀ W',Fr (fun _=>False) W W'→Calls prog 23 #[.pointer (some ⟨g,0,none⟩)] W' fun r w'=>r=.returned (.bool false)∧W'=w'):=fun W' f=>by
  have:=zra (h.fr0 f);rw[hch] at this;exact this
 have HOf:=q0_ (fun (W':World) (f:Fr (fun _=>False) W W')=>zqD hg hfl (h.fr0 f))
 have HTi:Hid (Calls prog 22 #[.pointer (some ⟨g,0,none⟩)] W fun r w'=>(∃ t F',r=.returned (.pointer (some ⟨t,0,none⟩))∧Tio Q.X.name Q.X.tiers Q.X.floors W.heap.size w' t Q.X F' c)∧Below W.heap.size W w'):=by
  obtain⟨F,ho⟩:=h;refine (zfK hg ho W.heap.size (Nat.le_refl _)).mono ?_;rintro r w' ⟨⟨t,F',rfl,ht,_⟩,hb⟩;exact⟨⟨t,F',rfl,ht⟩,hb⟩
 have HTb:=q0_ htab;have Hc:=q0_ hc;have Hn:=q0_ hn;have HGd:=q0_ hg.good;clear hg hch hfl hc h htab hn;go_enter func10,ntmps10;go_wp2_with fail;refine HTi.out.mono ?_;rintro r w1 ⟨⟨t,F',rfl,ht⟩,b1⟩;have F1:Hid (Fr (fun _=>False) W w1):=Fr.b0 b1;have T1:=q0_ ht;clear b1 ht HTi;go_wp2_with fail;refine (HPe.out _ F1.out).mono ?_;rintro r w2 ⟨rfl,rfl⟩;go_wp2_with fail;refine (HOf.out _ F1.out).mono ?_;rintro r w2 ⟨⟨d,a,rfl,hin,hp⟩,b2⟩;have Hin:=q0_ hin;have Hp:=q0_ hp;have F2:Hid (Fr (fun _=>False) W w2):=F1.out.trans (Fr.b0 b2) q4_;have T2:=q0_ (T1.out.fr0 (Fr.b0 b2));clear hin hp b2 F1 T1 HPe HOf;unfold zd7
 go_upto_region 7 with fail
 obtain⟨W3,hW3⟩:∃ W3,W3=w2.alloc (.cells #[.int .u64 d.gen,.int .u64 d.id,.int .i64 d.now,.string d.nm,.slice a.pA a.pn a.pc,.slice a.fA a.fn a.fc,.string d.nm2,.slice a.tA a.tn a.tc,.slice a.sA a.sn a.sc,.int .i64 d.bound,.int .i64 d.done,.slice a.eA a.en a.ec] 55):=⟨_,rfl⟩
 rw[← hW3]
 have X3:Blk W3 w2.heap.size 55 #[.int .u64 d.gen,.int .u64 d.id,.int .i64 d.now,.string d.nm,.slice a.pA a.pn a.pc,.slice a.fA a.fn a.fc,.string d.nm2,.slice a.tA a.tn a.tc,.slice a.sA a.sn a.sc,.int .i64 d.bound,.int .i64 d.done,.slice a.eA a.en a.ec]:=by rw[hW3];exact Blk.new _ _ _
 have F23:Fr (fun _=>False) w2 W3:=by rw[hW3];exact Fr.none_alloc _ _
 have F3:Hid (Fr (fun _=>False) W W3):=F2.out.trans F23 q4_;have T3:=q0_ (T2.out.fr0 F23);have Hin3:=q0_ (Hin.out.fr0 F23);have x0:W3.cell? ⟨w2.heap.size,0,none⟩=some (.int .u64 d.gen):=X3.cell 0;have x1:W3.cell? ⟨w2.heap.size,1,none⟩=some (.int .u64 d.id):=X3.cell 1;have x2:W3.cell? ⟨w2.heap.size,2,none⟩=some (.int .i64 d.now):=X3.cell 2;have x3:W3.cell? ⟨w2.heap.size,3,none⟩=some (.string d.nm):=X3.cell 3;have x4:W3.cell? ⟨w2.heap.size,4,none⟩=some (.slice a.pA a.pn a.pc):=X3.cell 4;have x5:W3.cell? ⟨w2.heap.size,5,none⟩=some (.slice a.fA a.fn a.fc):=X3.cell 5;have x6:W3.cell? ⟨w2.heap.size,6,none⟩=some (.string d.nm2):=X3.cell 6;have x7:W3.cell? ⟨w2.heap.size,7,none⟩=some (.slice a.tA a.tn a.tc):=X3.cell 7;have x8:W3.cell? ⟨w2.heap.size,8,none⟩=some (.slice a.sA a.sn a.sc):=X3.cell 8;have x9:W3.cell? ⟨w2.heap.size,9,none⟩=some (.int .i64 d.bound):=X3.cell 9;have x10:W3.cell? ⟨w2.heap.size,10,none⟩=some (.int .i64 d.done):=X3.cell 10;have x11:W3.cell? ⟨w2.heap.size,11,none⟩=some (.slice a.eA a.en a.ec):=X3.cell 11;have HPut:=q0_ (zlN Hin3.out (HTb.out.below (F3.out.below q4_)))
 obtain⟨pv,hpv⟩:∃ p,zok d=p:=⟨_,rfl⟩
 rw[hpv] at HPut
 have HPV:Hid (pv=if zo6 (ofQ Q)=true then (if 40000<(zha (ofQ Q)).length then (ByteArray.empty,2) else (zal (zha (ofQ Q)),0)) else (ByteArray.empty,1)):=by
  show _=_
  rw[← hpv, ← Hp.out];unfold zok;rw[zlQ,zlq]
 obtain⟨pt,pe⟩:=pv;clear hW3 X3 F23 hpv T2 F2 Hin;go_wp2_with fail;refine (show Calls _ _ _ _ _ from HPut.out).mono ?_;rintro r w4 ⟨rfl,b4⟩;have F4:Hid (Fr (fun _=>False) W w4):=F3.out.trans (Fr.b0 b4) q4_;have T4:=q0_ (T3.out.fr0 (Fr.b0 b4));clear b4 x0 x1 x2 x3 x4 x5 x6 x7 x8 x9 x10 x11 HPut Hin3 T3 F3;dsimp only
 by_cases hp0:pe=0
 rotate_left
 ·have hp2:(pe != 0)=true:=by simpa using hp0
  have HR:Hid (zfO Q=(ByteArray.empty,pe)∧pt=ByteArray.empty):=by
   have h:=HPV.out;unfold zfO
   by_cases h1:zo6 (ofQ Q)=true
   ·rw[if_pos h1] at h ⊢
    by_cases h2:40000<(zha (ofQ Q)).length
    ·rw[if_pos h2] at h ⊢
     injection h with e1 e2
     exact⟨by rw[e2],e1⟩
    ·rw[if_neg h2] at h
     injection h with e1 e2
     exact absurd e2 hp0
   ·rw[if_neg h1] at h ⊢
    injection h with e1 e2
    exact⟨by rw[e2],e1⟩
  clear hp0;go_wp2
  go_ret2
  exact⟨by rw[HR.out.1];rfl,F4.out.below q4_⟩
 have hp2:(pe != 0)=false:=by simpa using hp0
 have HQ:Hid (zo6 (ofQ Q)=true∧¬ 40000<(zha (ofQ Q)).length∧pt=zal (zha (ofQ Q))):=by
  have h:=HPV.out
  by_cases h1:zo6 (ofQ Q)=true
  ·rw[if_pos h1] at h
   by_cases h2:40000<(zha (ofQ Q)).length
   ·rw[if_pos h2] at h
    injection h with e1 e2
    omega
   ·rw[if_neg h2] at h
    injection h with e1 e2
    exact⟨h1,h2,e1⟩
  ·rw[if_neg h1] at h
   injection h with e1 e2
   omega
 have HPz:Hid (pt.size≤40000):=by show _≤_;rw[HQ.out.2.2,zam];have:=HQ.out.2.1;omega
 have HEx:Hid (zfO Q=if Q.X.tabs.all (fun m=>m.all za0)=true then (if 1000000<(zbZ (zbc++(zb6 pt++Q.X.tabs.flatMap zcT))).length then (ByteArray.empty,2) else (zal (zbZ (zbc++(zb6 pt++Q.X.tabs.flatMap zcT))),0)) else (ByteArray.empty,1)):=by
  show _=_
  unfold zfO zdw;rw[if_pos HQ.out.1,if_neg HQ.out.2.1,HQ.out.2.2]
 clear HPV HQ hp0
 go_upto_region 11 with fail
 have H0:Hid (PS w4 (w4.alloc (.cells #[.int .i64 0,.slice none 0 0] 63)) w4.heap.size (fun k=>k<w4.heap.size) []):=PS.new (Fr.refl _ _) (fun k hk=>hk)
 obtain⟨gp,hgp⟩:∃ g,g=w4.heap.size:=⟨_,rfl⟩
 obtain⟨Wk,hWk⟩:∃ Wk,Wk=w4.alloc (.cells #[.int .i64 0,.slice none 0 0] 63):=⟨_,rfl⟩
 have H0b:Hid (PS w4 Wk gp (fun k=>k<w4.heap.size) []):=by show PS _ _ _ _ _;rw[hWk,hgp];exact H0.out
 rw[← hWk, ← hgp];clear hgp hWk H0;have HW1:=q0_ (zkx H0b.out pt (by decide) (by have:=HPz.out;omega));go_wp2_with fail;refine (show Calls _ _ _ _ _ from HW1.out).mono ?_;rintro r u1 ⟨rfl,hp1⟩;rw[List.nil_append] at hp1
 obtain⟨l1,hl1⟩:∃ l,zb6 pt=l:=⟨_,rfl⟩
 have B1:Hid (l1.length≤40002):=by show _≤_;rw[← hl1,zeB];have:=HPz.out;omega
 rw[hl1] at hp1 HEx;have H1:=q0_ hp1;obtain⟨tA,tc,tB,td,hre⟩:=(T4.out.fr0 hp1.none).reach;have c2:=hre.c2;rw[Hn.out] at c2;clear hp1 hl1 hre HW1 H0b;go_wp2_with fail;clear c2
 obtain⟨TL,hTL⟩:∃ TL,Q.X.tabs=TL:=⟨_,rfl⟩
 rw[hTL] at HEx;have HTL:=q0_ hTL
 have HTn:Hid (TL.length=n):=by show _=_;rw[← hTL,HGd.out.tlen,Hn.out]
 have HTc:Hid (∀ m∈TL,m.length≤c):=fun m hm=>HGd.out.len m (by rw[hTL];exact hm);clear hTL
 go_loopw [45] (fun i wr=>∃ k:Nat,k≤n∧i=.int .i64 k∧Hid (PS w4 wr gp (fun k=>k<w4.heap.size) (l1++(TL.take k).flatMap zcT))∧Hid ((TL.take k).all (fun m=>m.all za0)=true)) (fun i _=>n-(intOf i).toNat)
 case atStart=>exact⟨0,Nat.zero_le _,rfl,by show PS _ _ _ _ _;simpa using H1.out,rfl⟩
 case round=>
  obtain⟨k,hk,rfl,hp,hall⟩:=hrel;clear H1
  have BL:Hid ((l1++(TL.take k).flatMap zcT).length≤400000000):=by
   show _≤_
   have h1:=zfa hall.out (fun m hm=>HTc.out m (List.mem_of_mem_take hm))
   have h2:(TL.take k).length≤5:=by rw[List.length_take];omega
   have h3:=Nat.mul_le_mul_right (4+64*c) h2;have h4:=Hc.out;have h5:=B1.out;rw[q8_];omega
  by_cases hlt:k<n
  ·obtain⟨m,hm⟩:∃ m,TL[k]? =some m:=⟨_,q6_ (by rw[HTn.out];exact hlt)⟩
   have hmD:Q.X.tabs.getD k []=m:=by rw[HTL.out,List.getD_eq_getElem?_getD,hm];rfl
   have hkt:k<Q.X.tiers.length:=by rw[Hn.out];exact hlt
   have HRc:Hid (∀ W',Fr (fun _=>False) w4 W'→Calls prog 28 #[.pointer (some ⟨t,0,none⟩),.int .i64 k] W' fun r w'=>(∃ A c,r=.returned (.slice A m.length c)∧w'.ownsRow W'.heap.size 127 7 (.slice A m.length c) m.length (za1 m))∧Below W'.heap.size W' w'):=fun W' f=>by
    have:=zke (T4.out.fr0 f) Hc.out k hkt;rw[hmD] at this;exact this
   have Hwf:Hid (∀ r∈m,r.wf):=T4.out.recs_wf hkt (by rw[HTL.out];exact hm);have hmc:m.length≤1000000:=Nat.le_trans (HTc.out m (zab hm)) Hc.out
   obtain⟨L,hL⟩:∃ L,l1++(TL.take k).flatMap zcT=L:=⟨_,rfl⟩
   rw[hL] at hp BL
   have HSn:Hid (l1++(TL.take (k+1)).flatMap zcT=L++smB (Int.toNat 4) [(m.length:Int)]++m.flatMap zdD):=by
    show _=_
    rw[zjy hm, ← List.append_assoc,hL];unfold zcT smB;simp
   have HAf:Hid (m.all za0=false→TL.all (fun m=>m.all za0)=false):=fun e=>zjU hm e
   have HAt:Hid (m.all za0=true→(TL.take (k+1)).all (fun m=>m.all za0)=true):=fun e=>by rw[zlS hm,hall.out,e];rfl
   clear hL hmD hm hall HTL;go_wp2_with fail;refine (HRc.out _ hp.out.none).mono ?_;rintro r w5 ⟨⟨A5,c5,rfl,_⟩,b5⟩;have hw:=zd4 (hp.out.fr0 (Fr.b0 b5)) 4 [(m.length:Int)] 1 rfl rfl (fun v hv=>by rw[List.mem_singleton] at hv;rw[hv];exact zoI ⟨by omega,by omega⟩) (by have:=BL.out;omega);simp only[List.map_cons,List.map_nil] at hw;have HW:=q0_ hw;clear hw b5 hp;go_wp2_with fail;refine (show Calls _ _ _ _ _ from HW.out).mono ?_;rintro r w6 ⟨rfl,hp6⟩
   obtain⟨L2,hL2⟩:∃ L2,L++smB (Int.toNat 4) [(m.length:Int)]=L2:=⟨_,rfl⟩
   have BL2:Hid (L2.length≤400000004):=by
    show _≤_
    rw[← hL2,q8_,zcl];have:=BL.out
    show _+4*1≤_
    omega
   rw[hL2] at hp6 HSn;have H6:=q0_ hp6;clear hp6 hL2 HW BL;go_wp2_with fail;refine (HRc.out _ H6.out.none).mono ?_;rintro r w7 ⟨⟨A7,c7,rfl,ho7⟩,b7⟩;have H7:=q0_ (H6.out.fr0 (Fr.b0 b7));have HPt:=q0_ (zms m Hwf.out A7 m.length c7 w7 (Rd.of_own ho7) (by omega));clear ho7 b7 H6 HRc
   cases hok:m.all za0
   ·have HR:Hid (zfO Q=(ByteArray.empty,1)):=by show _=_;rw[HEx.out,HAf.out hok];rfl
    rw[hok] at HPt;clear hok;go_wp2_with fail;refine HPt.out.mono ?_;rintro r w8 ⟨rfl,b8⟩;have F8:Hid (Fr (fun _=>False) W w8):=(F4.out.trans H7.out.none q4_).trans (Fr.b0 b8) q4_;clear b8;go_wp2
    go_ret2
    exact⟨by rw[HR.out];rfl,F8.out.below q4_⟩
   ·have HT:=q0_ (HAt.out hok)
    rw[hok] at HPt
    obtain⟨D,hD⟩:∃ D,m.flatMap zdD=D:=⟨_,rfl⟩
    have hDl:D.length=64*m.length:=by rw[← hD,zeG hok]
    obtain⟨mn,hmn⟩:∃ mn,m.length=mn:=⟨_,rfl⟩
    rw[hmn] at hDl hmc;rw[hD] at HPt HSn;have hDz:=zam D
    have HCk:Hid (∀ q,(zal D).extract (64*q) (64*q+64)=zal (zdt 64 D q)):=fun q=>by
     rw[zaP,List.drop_take,show 64*q+64-64*q=64 by omega];rfl
    obtain⟨S,hS⟩:∃ S,zal D=S:=⟨_,rfl⟩
    rw[hS] at HPt hDz HCk
    have hSz:S.size=64*mn:=by omega
    have HSz:=q0_ hSz;have HDl:=q0_ hDl
    have hSb:S.size≤1000000000:=by omega
    clear hok hD hmn hDz hS hDl hSz;go_wp2_with fail;refine HPt.out.mono ?_;rintro r w8 ⟨rfl,b8⟩;have H8:=q0_ (H7.out.fr0 (Fr.b0 b8));clear b8 H7 HPt;go_wp2_with fail
    go_loopw [13] (fun i wr=>∃ (q j:Nat),q≤mn∧i=.int .i64 j∧Hid (j=64*q)∧Hid (PS w4 wr gp (fun k=>k<w4.heap.size) (L2++D.take (64*q)))) (fun i _=>S.size-(intOf i).toNat)
    case atStart=>exact⟨0,0,Nat.zero_le _,rfl,rfl,by show PS _ _ _ _ _;simpa using H8.out⟩
    case round=>
     obtain⟨q,j,hq,rfl,hj,hpq⟩:=hrel;clear H8
     by_cases hlq:q<mn
     ·have hjn:j<S.size:=by have:=hj.out;have:=HSz.out;omega
      have hjn2:j+64≤S.size:=by have:=hj.out;have:=HSz.out;omega
      have hji:(j:Int)+64≤(S.size:Int):=by omega
      have hto:((j:Int)+64).toNat=j+64:=by omega
      have HRw:Hid (Calls prog 30 #[.pointer (some ⟨gp,0,none⟩),.string (S.extract j (j+64))] wr fun r w'=>r=.returned (.tuple #[])∧PS w4 w' gp (fun k=>k<w4.heap.size) (L2++D.take (64*(q+1)))):=by
       show Calls _ _ _ _ _
       rw[hj.out,HCk.out];have h:=zro hpq.out (zdt 64 D q) (by unfold zdt;rw[List.length_take];omega) (by rw[q8_,List.length_take];have:=BL2.out;have:=HDl.out;omega)
       have e:L2++D.take (64*(q+1))=L2++D.take (64*q)++zdt 64 D q:=by
        unfold zdt;rw[List.append_assoc,Nat.mul_add,Nat.mul_one,List.take_add]
       rw[e];exact h
      clear hpq;go_wp2_with fail;refine HRw.out.mono ?_;rintro r w9 ⟨rfl,hp9⟩;have H9:=q0_ hp9;clear hp9 HRw;go_wp2
      go_roundw
      case rel=>exact⟨q+1,j+64,by omega,by go_num,by have:=hj.out;show _=_;omega,H9⟩
      case measure=>simp[intOf];omega
     ·obtain rfl:q=mn:=by omega
      have hje:¬ (j:Int)<(S.size:Int):=by have:=hj.out;have:=HSz.out;omega
      have HE:Hid (PS w4 wr gp (fun k=>k<w4.heap.size) (l1++(TL.take (k+1)).flatMap zcT)):=by
       show PS _ _ _ _ _
       rw[HSn.out];have:=hpq.out;rw[← HDl.out,List.take_length] at this;exact this
      clear hpq;go_wp2
      go_roundw
      case rel=>exact⟨k+1,by omega,by go_num,HE,HT⟩
      case measure=>simp[intOf];omega
  ·obtain rfl:k=n:=by omega
   have hta:TL.take k=TL:=za3 (by rw[HTn.out];exact Nat.le_refl _);rw[hta] at hall hp BL;have HDn:=q0_ (zky hp.out);have F5:Hid (Fr (fun _=>False) W wr):=F4.out.trans hp.out.none q4_
   obtain⟨L,hL⟩:∃ L,l1++TL.flatMap zcT=L:=⟨_,rfl⟩
   rw[hL] at HDn BL HEx;have hex:=HEx.out;rw[if_pos hall.out] at hex;have HCl:Hid (∀ W',Calls prog 32 #[.string (zal (zbc++L))] W' fun r w'=>r=.returned (.string (zal (zbZ (zbc++L))))∧Below W'.heap.size W' w'):=fun W'=>zn_ (zbc++L) (by rw[q8_];have:=BL.out;show 8+_≤_;omega) W'
   have HM:Hid ((⟨#[83,69,68,65,82,67,72,49]⟩:ByteArray)++zal L=zal (zbc++L)):=by show _=_;rw[← zdu];rfl
   have hLz:=zam L;have hLb:L.length≤400000000:=BL.out
   obtain⟨Z,hZ⟩:∃ Z,zbZ (zbc++L)=Z:=⟨_,rfl⟩
   have hZl:Z.length=L.length+12:=by rw[← hZ,zfz,q8_];show 8+_+4=_;omega
   rw[hZ] at HCl hex;have hZz:=zam Z;have Hex:=q0_ hex
   have hm8:(zal (zbc++L)).size=L.length+8:=by rw[zam,q8_];show 8+_=_;omega
   obtain⟨U,hU⟩:∃ U,zal L=U:=⟨_,rfl⟩
   obtain⟨V,hV⟩:∃ V,zal (zbc++L)=V:=⟨_,rfl⟩
   obtain⟨Y,hY⟩:∃ Y,zal Z=Y:=⟨_,rfl⟩
   rw[hU] at HDn HM hLz;rw[hV] at HM HCl hm8;rw[hY] at HCl hZz;have HY:=q0_ hY
   have hUz:U.size≤400000000:=by omega
   have hYz:Y.size≤400000012:=by omega
   have HZz:=q0_ hZz;clear hta hall hp hL hex hZ hU hV hY hLz hLb hZl hm8 hZz HTL HTn HTc HEx BL;go_wp2_with fail;refine HDn.out.mono ?_;rintro r w9 ⟨rfl,rfl⟩;go_wp2_with fail
   try rw[HM.out]
   refine (HCl.out _).mono ?_;rintro r w9 ⟨rfl,b9⟩;have F9:Hid (Fr (fun _=>False) W w9):=F5.out.trans (Fr.b0 b9) q4_;clear b9
   by_cases hgt:1000000<Y.size
   ·have hgi:(1000000:Int)<(Y.size:Int):=by omega
    have HR:Hid (zfO Q=(ByteArray.empty,2)):=by show _=_;rw[Hex.out,if_pos (by have:=HZz.out;omega)]
    go_wp2
    go_ret2
    exact⟨by rw[HR.out];rfl,F9.out.below q4_⟩
   ·have hgi:(Y.size:Int)≤1000000:=by omega
    have HR:Hid (zfO Q=(Y,0)):=by show _=_;rw[Hex.out,if_neg (by have:=HZz.out;omega),HY.out]
    go_wp2
    go_ret2
    exact⟨by rw[HR.out];rfl,F9.out.below q4_⟩
end Go.Proofs.YtjhhodndlkpmhaaGreatDoor
