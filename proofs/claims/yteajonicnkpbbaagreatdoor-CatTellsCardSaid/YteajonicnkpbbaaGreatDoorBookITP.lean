/- Walks of sedimentbook: marks, copies, still, put, grow, marked of Tiers. -/
import Derived.Test.YteajonicnkpbbaaGreatDoorBookIntsC
namespace Go.Proofs.YteajonicnkpbbaaGreatDoor
set_option linter.all false
set_option maxHeartbeats 16000000
set_option maxRecDepth 100000
open Go.RowKit Tryz
def zqr(i k:Nat):zaa:=⟨{data:=#[]},0, -1000*(i:Int)-(k:Int)-1,0⟩
theorem zm3:(prog.info? 23).map (fun i=>(i.zero,i.size,i.bytes))=some (some (.slice none 0 0),1,24):=by kernel_rfl
def zar(i b n:Nat):List zaa:=(List.range n).map fun j=>zqr i (b+j)
theorem zbt(i b n:Nat):(zar i b n).length=n:=by simp[zar]
theorem zed(i b n:Nat):zar i b (n+1)=zar i b n++[zqr i (b+n)]:=by simp[zar,List.range_succ]
theorem zc1(i b m:Nat):∀ n,zar i b (m+n)=zar i b m++zar i (b+m) n
  | 0=>by simp[zar]
  | n+1=>by rw[← Nat.add_assoc,zed,zc1 i b m n,zed,List.append_assoc,Nat.add_assoc]
theorem znu(l:List zaa):(zaf l).length=l.length*4:=zbZ zem l
theorem zg_(i b n : Nat)(hi : i ≤ 1000)(hb : b ≤ 17179869184)(hn : n ≤ 17179869184)(w : World) :
    Calls prog 137 #[.int .i64 (i:Int),.int .i64 (b:Int),.int .i64 (n:Int)] w fun r w'=>∃ A c,r=.returned (.slice A n c)∧w'.ownsRow w.heap.size 99 4 (.slice A n c) n (zaf (zar i b n))∧Below w.heap.size w w':=by
  obtain⟨i0,hi0,hz0,hz1,hz2⟩:=info_parts zc4;go_enter func137,ntmps137;go_wp2_with fail
  go_loopw [7,8] (fun o i' wr=>∃ (k j:Nat) (R:Option Addr) (cs:Nat),k≤n∧i'=.int .i64 j∧Hid (j=b+k)∧o=.slice R k cs∧wr.ownsRow w.heap.size 99 4 (.slice R k cs) k (zaf (zar i b k))∧Own w wr (zag (.slice R k cs))) (fun _ i' _=>b+n-(intOf i').toNat)
  case atStart=>exact⟨0,b,none,0,Nat.zero_le _,rfl,rfl,rfl,World.ownsRow_nil _ _ _ _,(Own.start w).also (fun k hk=>by cases hk)⟩
  case round=>
    obtain⟨k,j,R,cs,hk,rfl,hj,rfl,hrow,ho⟩:=hrel;have Hrow:=q0_ hrow;have Ho:=q0_ ho;have hwr:=q0_ ho.bel.size;clear hrow ho
    have hjb:j≤34359738368:=by have:=hj.out;omega
    by_cases hlt:k<n
    · have hjn:(j:Int)<(b:Int)+(n:Int):=by have:=hj.out;omega
      have Hs:Hid (zaf (zar i b (k+1))=zaf (zar i b k)++[.string {data:=#[]},.int .i64 0,.int .i64 (-1000*(i:Int)-(j:Int)-1),.int .i64 0]):=by
        show _=_
        rw[zed,hj.out.symm];unfold zaf;rw[List.flatMap_append];simp[zqr,zaa.cells]
      go_wp2_with (at_builtin;refine zaq rfl _ _ 23 rfl 99 i0 _ 4 40 underlying23 hi0 hz0 hz1 hz2 rfl (by decide) (.slice R k cs) k _ rfl w.heap.size (by have:=hwr.out;simp;omega) (za_ Hrow.out (Fr.none_alloc _ _)) (some ⟨wr.heap.size,0,none⟩) 1 1 [.string {data:=#[]},.int .i64 0,.int .i64 (-1000*(i:Int)-(j:Int)-1),.int .i64 0] rfl (Rd.newS (by simp) _ _ _ _ rfl) (by simp[Value.oneCell']) ?q1 ?q2 ?_)
      case q1=>unfold maxLen;omega
      case q2=>omega
      intro R6 c6 w6 ho6 hm6 _;have Ho6:=q0_ ho6;have Hm6:=q0_ hm6;clear ho6 hm6
      go_wp2
      go_roundw
      case rel=>
        refine⟨k+1,j+1,R6,c6,by omega,by go_num,by have:=hj.out;show _=_;omega,by go_num,?_,(Ho.out.skip (Fr.none_alloc _ _)).mv Hm6.out⟩;rw[Hs.out];exact Ho6.out
      case measure=>simp[intOf];omega
    · obtain rfl:k=n:=by omega
      have hje:¬ (j:Int)<(b:Int)+(k:Int):=by have:=hj.out;omega
      go_wp2;go_ret;exact⟨R,cs,rfl,Hrow.out,Ho.out.bel⟩
theorem znw(l : List zaa)(A : Option Addr)(n c : Nat)(w : World)(hr : Rd w 4 A n (zaf l))(hn : n ≤ 17179869184) :
    Calls prog 59 #[.slice A n c] w fun r w'=>∃ B d,r=.returned (.slice B n d)∧w'.ownsRow w.heap.size 99 4 (.slice B n d) n (zaf l)∧Below w.heap.size w w':=by
  obtain⟨i0,hi0,hz0,hz1,hz2⟩:=info_parts zc4;have Hr:=q0_ hr;clear hr;go_enter func59,ntmps59
  go_wp2_with (at_builtin;refine zaq rfl _ _ 23 rfl 99 i0 _ 4 40 underlying23 hi0 hz0 hz1 hz2 rfl (by decide) (.slice none 0 0) 0 [] rfl w.heap.size (Nat.le_refl _) (World.ownsRow_nil _ _ _ _) A n c (zaf l) rfl Hr.out (zcV l) ?q1 ?q2 ?_)
  case q1=>unfold maxLen;omega
  case q2=>omega
  intro R6 c6 w6 ho6 hm6 _
  (try simp only[Nat.zero_add,List.nil_append] at ho6)
  (try simp only[Nat.zero_add] at hm6)
  (try rw[Nat.zero_add])
  have Ho6:=q0_ ho6;have Hm6:=q0_ hm6;clear ho6 hm6;go_wp2;go_ret;exact⟨R6,c6,rfl,Ho6.out,(((Own.start w).also (G:=zag (.slice none 0 0)) (fun k hk=>by cases hk)).mv Hm6.out).bel⟩
theorem zlb(g : Nat)(cs : Array Value)(base : Nat)(V U : Value)(hs us : List (HV zaa))(w : World)(hb : Blk w g 42 cs)(hV : cs[8]? = some V)(hU : cs[9]? = some U)
    (hk:zel zaa.cells w base 23 99 4 V U hs us) (hn:hs.length≤1000) (hl:∀ h∈hs,h.l.length≤1000000):
    Calls prog 65 #[.pointer (some ⟨g,0,none⟩)] w fun r w'=>r=.returned (.bool true)∧Below w.heap.size w w':=by
  have HB:=q0_ hb;have HV0:=q0_ hV;have HU0:=q0_ hU;have HK:=q0_ hk;have HL:=q0_ hl;have hln:=hk.len;obtain⟨RA,rc,rfl,_,_,hR⟩:=zam hk.row;obtain⟨UA,uc,rfl,_,_,hU2⟩:=zam hk.wrow;rw[hln] at hU2 HU0 HK;have HR:=q0_ hR;have HU:=q0_ hU2
  obtain⟨m,hm⟩:∃ m,hs.length=m:=⟨_,rfl⟩
  rw[hm] at HR HU HV0 HU0 HK hn;have Hm:=q0_ hm;have Hln:=q0_ hln;clear hb hV hU hk hl hR hU2 hm hln;go_enter func65,ntmps65;go_wp2_with fail
  go_loopw [3] (fun i wr=>∃ k:Nat,k≤m∧i=.int .i64 k∧Own w wr (fun _=>False)) (fun i _=>m-(intOf i).toNat)
  case atStart=>exact⟨0,Nat.zero_le _,rfl,Own.start w⟩
  case round=>
    obtain⟨k,hk,rfl,ho⟩:=hrel;have Ho:=q0_ ho;have hB:=HB.out.below ho.bel;have c0:=hB.cell 8;have c1:=hB.cell 9;rw[HV0.out] at c0;rw[HU0.out] at c1;clear hB
    by_cases hlt:k<m
    · obtain⟨ad,x,rfl,hx,d0⟩:=(HR.out.fr0 (Fr.b0 ho.bel)).at_map hlt
      obtain⟨bd,y,rfl,hy,d1⟩:=(HU.out.fr0 (Fr.b0 ho.bel)).at_map hlt;have hlx:=HL.out x (zab hx)
      have hyx:y.l=x.l:=by
        have h1:(us.map HV.l)[k]? =(hs.map HV.l)[k]? :=by rw[HK.out.same]
        rw[List.getElem?_map,List.getElem?_map,hx,hy] at h1;exact Option.some.inj h1
      have ox:=za_ (HK.out.lists.own x (zab hx)) (Fr.b0 ho.bel);have oy:=za_ (HK.out.was y (zab hy)) (Fr.b0 ho.bel);obtain⟨vx,lx⟩:=x;obtain⟨vy,ly⟩:=y;simp only at hyx d0 d1 ox oy hlx;subst hyx;obtain⟨Ax,cx,rfl,_,_,rx⟩:=zam ox;obtain⟨Ay,cy,rfl,_,_,ry⟩:=zam oy;have RX:=q0_ (Rd.drew rx);have RY:=q0_ (Rd.drew ry)
      have hlt2:(k:Int)<(m:Int):=by omega
      clear hx hy ox oy rx ry ho;go_wp2_with fail
      go_still_tail 14,(by kernel_rfl)
      repeat still_step
      try refine wpStill_nil ?_
      change wpList _ _ _ _ _ wr.drew;have o1:=q0_ (Ho.out.skip ((Fr.refl _ wr).drew));clear c0 c1 d0 d1;go_wp2_with fail;refine (zdu ly _ _ _ _ _ wr.drew RX.out RY.out (by omega)).mono ?_;rintro r w5 ⟨rfl,b5⟩;have o5:=q0_ (o1.out.below b5);clear b5
      go_wp2
      go_roundw
      case rel=>exact⟨k+1,by omega,by go_num,o5.out⟩
      case measure=>simp[intOf];omega
    · obtain rfl:k=m:=by omega
      clear ho;go_wp2;go_ret;exact⟨rfl,Ho.out.bel⟩
theorem zoU(g : Nat)(cs : Array Value)(base : Nat)(V U : Value)(hs us : List (HV zaa))(l : List zaa)(A : Option Addr)(n c : Nat)(w : World)(hb : Blk w g 42 cs)(hV : cs[8]? = some V)(hU : cs[9]? = some U)
    (hk:zel zaa.cells w base 23 99 4 V U hs us) (hn:hs.length<250) (ho:w.ownsRow base 99 4 (.slice A n c) n (zaf l)) (hl:n≤1000000) (hbase:base≤w.heap.size) (hd:∀ h∈hs,∀ k,zag h.v k→¬ zag (.slice A n c) k):
    Calls prog 16 #[.pointer (some ⟨g,0,none⟩),.slice A n c] w fun r w'=>r=.returned (.tuple #[])∧∃ V' U' B d,Blk w' g 42 ((cs.setIfInBounds 8 V').setIfInBounds 9 U')∧zel zaa.cells w' base 23 99 4 V' U' (hs++[⟨.slice A n c,l⟩]) (us++[⟨.slice B n d,l⟩])∧Fr (fun k=>k=g∨zag V k∨zag U k) w w'∧(∀ k,zag V' k→zag V k∨w.heap.size≤k)∧(∀ k,zag U' k→zag U k∨w.heap.size≤k)∧∀ k,zag (.slice B n d) k→w.heap.size≤k:=by
  have hln:=hk.len
  have hsz:l.length=n:=by have:=ho.1;rw[znu] at this;omega
  obtain⟨RA,rc,rfl,hrc1,hrc2,_⟩:=zam hk.row;obtain⟨UA,uc,rfl,huc1,huc2,_⟩:=zam hk.wrow;have Hlen:=q0_ hln
  obtain⟨m,hm⟩:∃ m,hs.length=m:=⟨_,rfl⟩
  have HK:=q0_ hk;have HU0:=q0_ hk.row;have HW0:=q0_ hk.wrow;rw[hln] at HK HW0 hU;rw[hm] at HK HU0 HW0 hn hV hU;have Hm:=q0_ hm;have Hsz:=q0_ hsz;have HO:=q0_ ho;have HD:=q0_ hd;have HBs:=q0_ hbase;have HB:=q0_ hb;have c0:=hb.cell 8;have f0:=hb.frozen 8;rw[hV] at c0;have hcs0:8<cs.size:=(Array.getElem?_eq_some_iff.1 hV).1;have HUU:=q0_ hU;have HVV:=q0_ hV;obtain⟨i0,hi0,hz0,hz1,hz2⟩:=info_parts zm3;clear hb hV hU hk ho hd hm hln hsz hbase;go_enter func16,ntmps16
  go_wp2_with (at_builtin;refine zaq rfl _ _ 37 rfl 23 i0 _ 1 24 underlying37 hi0 hz0 hz1 hz2 rfl (by decide) (.slice RA m rc) m _ rfl base (by have:=HBs.out;simp;omega) (za_ HU0.out (Fr.none_alloc _ _)) (some ⟨w.heap.size,0,none⟩) 1 1 [.slice A n c] rfl (Rd.newS (by simp) _ _ _ _ rfl) (by simp[Value.oneCell']) ?q1 ?q2 ?_)
  case q1=>unfold maxLen;omega
  case q2=>omega
  intro R2 c2 w2 ho2 hm2 _;have HO2:=q0_ ho2;have HM2:=q0_ hm2;have gV:¬ zag (.slice RA m rc) g:=zac HU0.out HB.out (by decide);have gU:¬ zag (.slice UA m uc) g:=zac HW0.out HB.out (by decide);have B2:=(HB.out.alloc (.cells #[.slice A n c] 23)).fr hm2.fr gV;have gV2:¬ zag (.slice R2 (m+1) c2) g:=zac ho2 B2 (by decide);have c2':=B2.cell 8;have f2':=B2.frozen 8;rw[HVV.out] at c2';have HB2:=q0_ B2;have GV:=q0_ gV;have GU:=q0_ gU;have GV2:=q0_ gV2;have hc0:=q0_ hcs0;clear ho2 hm2 gV gU gV2 B2 c0 f0 hcs0;go_wp2_with fail
  obtain⟨W3,hW3⟩:∃ W3,W3=w2.setCell ⟨g,8,none⟩ (.slice R2 (m+1) c2):=⟨_,rfl⟩
  rw[← hW3];have B3:Blk W3 g 42 (cs.setIfInBounds 8 (.slice R2 (m+1) c2)):=hW3▸HB2.out.set_ 8 _
  have F3:Fr (fun k=>k=g∨zag (.slice RA m rc) k∨zag (.slice UA m uc) k) w W3:=by
    rw[hW3];exact (((Fr.none_alloc w (.cells #[.slice A n c] 23)).mono q4_).trans HM2.out.fr (fun i hi=>.inl (.inr (.inl hi)))).setCell (p:=⟨g,8,none⟩) (.inl (.inl rfl)) _
  have R3:W3.ownsRow base 23 1 (.slice R2 (m+1) c2) (m+1) (hs.map HV.v++[.slice A n c]):=by
    rw[hW3];exact zad HO2.out ((Fr.refl (fun k=>k=g) w2).setCell (p:=⟨g,8,none⟩) (.inl rfl) _) (fun k hk e=>GV2.out (e▸hk))
  have U3:W3.ownsRow base 23 1 (.slice UA m uc) m (us.map HV.v):=by
    refine zad (zad (za_ HW0.out (Fr.none_alloc w (.cells #[.slice A n c] 23))) HM2.out.fr (fun k hk e=>HK.out.uv k e hk)) (?_ :Fr (fun k=>k=g) w2 W3) (fun k hk e=>GU.out (e▸hk));rw[hW3];exact (Fr.refl (fun k=>k=g) w2).setCell (p:=⟨g,8,none⟩) (.inl rfl) _
  have V3:∀ k,zag (.slice R2 (m+1) c2) k→¬ zag (.slice UA m uc) k:=fun k h1 h2=>by
    rcases HM2.out.sub k h1 with h3 | h3
    · exact HK.out.uv k h3 h2
    · have:=zcp HW0.out k h2
      simp at h3;omega
  have L3:W3.ownsRow base 99 4 (.slice A n c) n (zaf l):=by
    refine (Off.or (Off.blk HB.out (by decide)) (Off.or (Off.row HU0.out (by decide)) (Off.row HW0.out (by decide)))).own (ts:=[99]) HO.out (by decide) F3
  have e1:W3.drew.cell? ⟨g,9,none⟩=some (.slice UA m uc):=by
    have:=B3.cell 9;rwa[Array.getElem?_setIfInBounds_ne (by decide),HUU.out] at this
  have HB3:=q0_ (show Blk W3.drew g 42 (cs.setIfInBounds 8 (.slice R2 (m+1) c2)) from B3);have HF3:=q0_ (F3.drew);have HR3:=q0_ (show W3.drew.ownsRow base 23 1 (.slice R2 (m+1) c2) (m+1) (hs.map HV.v++[.slice A n c]) from za_ R3 ((Fr.refl (fun _=>False) W3).drew));have HU3:=q0_ (show W3.drew.ownsRow base 23 1 (.slice UA m uc) m (us.map HV.v) from za_ U3 ((Fr.refl (fun _=>False) W3).drew));have HL3:=q0_ (show W3.drew.ownsRow base 99 4 (.slice A n c) n (zaf l) from za_ L3 ((Fr.refl (fun _=>False) W3).drew));have HV3:=q0_ V3;have hbs3:=q0_ (show base≤W3.drew.heap.size by have:=F3.size;have:=HBs.out;show base≤W3.heap.size;omega);clear hW3 B3 F3 R3 U3 V3 L3 c2' f2';have hU1:9<cs.size:=(Array.getElem?_eq_some_iff.1 HUU.out).1;have HP5:Hid (∀ w5,Below W3.drew.heap.size W3.drew w5→w5.cell? ⟨g,9,none⟩=some (.slice UA m uc)):=fun w5 h=>(HB3.out.below h).cell 9 |>.trans (by rw[Array.getElem?_setIfInBounds_ne (by decide),HUU.out]);have HP5':Hid (∀ w5,Below W3.drew.heap.size W3.drew w5→∀ o,(w5.alloc o).cell? ⟨g,9,none⟩=some (.slice UA m uc)):=fun w5 h o=>((HB3.out.below h).alloc o).cell 9 |>.trans (by rw[Array.getElem?_setIfInBounds_ne (by decide),HUU.out]);have HB6:Hid (∀ w5,Below W3.drew.heap.size W3.drew w5→∀ o A6 c6 w6,Mv (zag (.slice UA m uc)) (zag (.slice A6 (m+1) c6)) (w5.alloc o) w6→Blk w6 g 42 (cs.setIfInBounds 8 (.slice R2 (m+1) c2))):=fun w5 h o A6 c6 w6 hm=>((HB3.out.below h).alloc o).fr hm.fr GU.out;have HP6:Hid (∀ w5,Below W3.drew.heap.size W3.drew w5→∀ o A6 c6 w6,Mv (zag (.slice UA m uc)) (zag (.slice A6 (m+1) c6)) (w5.alloc o) w6→w6.cell? ⟨g,9,none⟩=some (.slice UA m uc)):=fun w5 h o A6 c6 w6 hm=>(HB6.out w5 h o A6 c6 w6 hm).cell 9 |>.trans (by rw[Array.getElem?_setIfInBounds_ne (by decide),HUU.out]);have HF6:Hid (∀ w5,Below W3.drew.heap.size W3.drew w5→∀ o A6 c6 w6,Mv (zag (.slice UA m uc)) (zag (.slice A6 (m+1) c6)) (w5.alloc o) w6→w6.frozen? ⟨g,9,none⟩=false):=fun w5 h o A6 c6 w6 hm=>(HB6.out w5 h o A6 c6 w6 hm).frozen 9
  have HZ : Hid (∀ w5, Below W3.drew.heap.size W3.drew w5 → ∀ B d, w5.ownsRow W3.drew.heap.size 99 4 (.slice B n d) n (zaf l) → ∀ o A6 c6 w6, w6.ownsRow base 23 1 (.slice A6 (m + 1) c6) (m + 1) (us.map HV.v ++ [.slice B n d]) → Mv (zag (.slice UA m uc)) (zag (.slice A6 (m + 1) c6)) (w5.alloc o) w6 →
      Blk (w6.setCell ⟨g,9,none⟩ (.slice A6 (m+1) c6)) g 42 ((cs.setIfInBounds 8 (.slice R2 (m+1) c2)).setIfInBounds 9 (.slice A6 (m+1) c6))∧zel zaa.cells (w6.setCell ⟨g,9,none⟩ (.slice A6 (m+1) c6)) base 23 99 4 (.slice R2 (m+1) c2) (.slice A6 (m+1) c6) (hs++[⟨.slice A n c,l⟩]) (us++[⟨.slice B n d,l⟩])∧Fr (fun k=>k=g∨zag (.slice RA m rc) k∨zag (.slice UA m uc) k) w (w6.setCell ⟨g,9,none⟩ (.slice A6 (m+1) c6))∧(∀ k,zag (.slice R2 (m+1) c2) k→zag (.slice RA m rc) k∨w.heap.size≤k)∧(∀ k,zag (.slice A6 (m+1) c6) k→zag (.slice UA m uc) k∨w.heap.size≤k)∧∀ k,zag (.slice B n d) k→w.heap.size≤k):=by
    intro w5 h5 B d hB5 o A6 c6 w6 hown hm;have hb6:=HB6.out w5 h5 o A6 c6 w6 hm;have hne:¬ zag (.slice A6 (m+1) c6) g:=zac hown hb6 (by decide);have hs7:Fr (fun j=>j=g) w6 (w6.setCell ⟨g,9,none⟩ (.slice A6 (m+1) c6)):=(Fr.refl (fun j=>j=g) w6).setCell (p:=⟨g,9,none⟩) (.inl rfl) _;have f5:Fr (fun _=>False) W3.drew (w5.alloc o):=(Fr.b0 h5).alloc o;have f57:Fr (fun k=>k=g∨zag (.slice UA m uc) k) (w5.alloc o) (w6.setCell ⟨g,9,none⟩ (.slice A6 (m+1) c6)):=(hm.fr.mono (fun i hi=>.inl (.inr hi))).trans hs7 (fun i hi=>.inl (.inl hi));have f37:Fr (fun k=>k=g∨zag (.slice UA m uc) k) W3.drew (w6.setCell ⟨g,9,none⟩ (.slice A6 (m+1) c6)):=(f5.mono q4_).trans f57 (fun i hi=>.inl hi);have f07:Fr (fun k=>k=g∨zag (.slice RA m rc) k∨zag (.slice UA m uc) k) w (w6.setCell ⟨g,9,none⟩ (.slice A6 (m+1) c6)):=HF3.out.trans f37 (fun i hi=>.inl (hi.imp id .inr));have off0:Off w (fun k=>k=g∨zag (.slice RA m rc) k∨zag (.slice UA m uc) k) [99]:=Off.or (Off.blk HB.out (by decide)) (Off.or (Off.row HU0.out (by decide)) (Off.row HW0.out (by decide)));have off5:Off (w5.alloc o) (fun k=>k=g∨zag (.slice UA m uc) k) [99]:=Off.or (Off.blk ((HB3.out.below h5).alloc o) (by decide)) (Off.row (za_ HU3.out f5) (by decide));have hsz35:w.heap.size≤W3.drew.heap.size:=HF3.out.size;have hsz5:W3.drew.heap.size≤(w5.alloc o).heap.size:=f5.size;refine⟨hb6.set_ 9 _,zel.add HK.out ?_ ?_ ?_ ?_ ?_ f07 off0 HD.out,f07,fun k hk=>(HM2.out.sub k hk).imp id (fun h=>by simp at h;omega),fun k hk=>(hm.sub k hk).imp id (fun h=>by omega),fun k hk=>by have:=(hB5.lt k hk).1;omega⟩
    · rw[Hm.out]
      refine zad (za_ HR3.out f5) f57 (fun k hk e=>?_)
      rcases e with e | e
      · exact absurd (e▸hk) (zac HR3.out HB3.out (by decide))
      · exact HV3.out k hk e
    · rw[Hlen.out,Hm.out]
      exact zad hown hs7 (fun k hk e=>hne (e▸hk))
    · intro k h1 h2
      rcases hm.sub k h2 with h3 | h3
      · exact HV3.out k h1 h3
      · have:=zcp (za_ HR3.out f5) k h1
        omega
    · rw[Hsz.out]
      exact off0.own HO.out (by decide) f07
    · rw[Hsz.out]
      exact zaL (off5.own (za_ hB5 (Fr.none_alloc _ _)) (by decide) f57) hbs3.out
  have HC5:=q0_ (fun (_:Unit)=>znw l A n c W3.drew (Rd.of_own HL3.out) (by omega))
  have hq1:m+1≤maxLen:=by unfold maxLen;omega
  have hq2:(m+1)*24≤140737488355328:=by omega
  go_region_law (first
    | (refine ziB rfl (.tmp 24) (.tmp 27) 37 rfl 23 i0 (.slice none 0 0) 1 24 underlying37 hi0 hz0 hz1 hz2 rfl (by decide) (.slice UA m uc) m _ rfl base (by have := hbs3.out; have := b5.size; simp; omega)
        (za_ (za_ HU3.out (Fr.b0 b5)) (Fr.none_alloc _ _)) (some ⟨w5.heap.size,0,none⟩) 1 1 [.slice B n d] rfl (Rd.new w5 [.slice B n d] _ 1 rfl) (by simp[Value.oneCell']) hq1 hq2 ?_;intro A6 c6 w6 ho6 hm6 _;have q6:=HP6.out w5 b5 _ _ _ _ hm6;have f6:=HF6.out w5 b5 _ _ _ _ hm6)
    | (go_simp;go_at_call 59;refine (HC5.out ()).mono ?_;rintro r w5 ⟨B,d,rfl,ho5,b5⟩;have q5:=HP5.out w5 b5;have q5':=HP5'.out w5 b5;try dsimp only))
  all_goals (
    have hz:=q0_ (HZ.out w5 b5 _ _ ho5 _ _ _ _ ho6 hm6);clear e1 q5 q5' q6 f6 ho6 hm6 b5 ho5
    go_wp2
    go_end0
    exact⟨rfl,.slice R2 (m+1) c2,.slice A6 (m+1) c6,B,d,by rw[Hlen.out,Hm.out];exact hz.out⟩)
theorem zoe(g : Nat)(cs : Array Value)(base : Nat)(V : Value)(hs : List (HV zaa))(w : World)(hb : Blk w g 42 cs)(hV : cs[8]? = some V)(hbase : base ≤ w.heap.size)
    (hL:zcm zaa.cells w base 99 4 hs) (hrow:w.ownsRow base 23 1 V hs.length (hs.map HV.v)) (hn:hs.length≤1000) (hl:∀ h∈hs,h.l.length≤1000000):
    Calls prog 74 #[.pointer (some ⟨g,0,none⟩)] w fun r w'=>r=.returned (.tuple #[])∧zcm zaa.cells w' base 99 4 (zaD (fun i n=>zar i 0 n) hs.length hs)∧Fr (zaP hs) w w':=by
  obtain⟨RA,rc,rfl,_,_,hR⟩:=zam hrow;have HB:=q0_ hb;have HLs:=q0_ hL;have HRow:=q0_ hrow;have HL:=q0_ hl
  obtain⟨m,hm⟩:∃ m,hs.length=m:=⟨_,rfl⟩
  rw[hm] at HRow hn hV hR ⊢;have HV0:=q0_ hV;have HR:=q0_ hR;have HBs:=q0_ hbase;have OB:=q0_ (Off.lists hL (ts:=[42,23]) (by decide));have HMk:=q0_ (fun i n=>zbt i 0 n);clear hb hV hL hrow hl hR hm hbase;go_enter func74,ntmps74;go_wp2_with fail
  go_loopw [2] (fun i wr=>∃ k:Nat,k≤m∧i=.int .i64 k∧zcm zaa.cells wr base 99 4 (zaD (fun i n=>zar i 0 n) k hs)∧Fr (zaP hs) w wr) (fun i _=>m-(intOf i).toNat)
  case atStart=>exact⟨0,Nat.zero_le _,rfl,by rw[zet];exact HLs.out,Fr.refl _ _⟩
  case round=>
    obtain⟨k,hk,rfl,hl2,hf2⟩:=hrel;have HL2:=q0_ hl2;have HF2:=q0_ hf2;have hB:=OB.out.blkf HB.out (by decide) hf2;have hR2:=OB.out.own HRow.out (by decide) hf2;have c0:=hB.cell 8;rw[HV0.out] at c0;have HB2:=q0_ hB;have HR2:=q0_ hR2;clear hB hl2 hf2
    by_cases hlt:k<m
    · obtain⟨ad,x,rfl,hx,d0⟩:=(Rd.of_own hR2).at_map hlt
      have hlx:=HL.out x (zab hx)
      have ox:wr.ownsRow base 99 4 x.v x.l.length (x.l.flatMap zaa.cells):=HL2.out.own x (by
        have:=za2 (mk:=fun i n=>zar i 0 n) (k:=k) hx;rw[if_neg (Nat.lt_irrefl k)] at this
        exact zab this)
      have hxF:∀ i,zag x.v i→zaP hs i:=fun i hi=>⟨x,zab hx,hi⟩
      have HX:=q0_ hx;obtain⟨vx,lx⟩:=x;simp only at d0 ox hlx hxF;obtain⟨Ax,cx,rfl,hcx,hcx2,_⟩:=zam ox
      obtain⟨nx,hnx⟩:∃ nx,lx.length=nx:=⟨_,rfl⟩
      rw[hnx] at d0 ox hlx hcx hxF HX;have HOX:=q0_ ox;have HNX:=q0_ hnx;have HXF:=q0_ hxF
      have HMK:Hid (∀ w',Calls prog 137 #[.int .i64 (k:Int),.int .i64 0,.int .i64 (nx:Int)] w' fun r w''=>∃ A c,r=.returned (.slice A nx c)∧w''.ownsRow w'.heap.size 99 4 (.slice A nx c) nx (zaf (zar k 0 nx))∧Below w'.heap.size w' w''):=fun w'=>by
        have:=zg_ k 0 nx (by omega) (by omega) (by omega) w';exact this
      have hlt2:(k:Int)<(m:Int):=by omega
      clear hx ox hnx hxF hR2;go_wp2_with fail;refine (HMK.out wr).mono ?_;rintro r w5 ⟨M,cm,rfl,om,b5⟩;have OM:=q0_ om;have B5:=q0_ (HB2.out.below b5);have R5:=q0_ (za_ HR2.out (Fr.b0 b5));have OX5:=q0_ (za_ HOX.out (Fr.b0 b5));have F5:=q0_ (HF2.out.trans (Fr.b0 b5) q4_);have BB5:=q0_ b5
      have hMX:Hid (∀ i,zag (.slice M nx cm) i→¬ zag (.slice Ax nx cx) i):=fun i h1 h2=>by
        have:=zcp HOX.out i h2;have:=(OM.out.lt i h1).1;omega
      clear om b5 c0 d0 HB2 HR2;go_wp2_with fail
      go_loopw [4] (fun j w2=>∃ jj:Nat,jj≤nx∧j=.int .i64 jj∧w2.ownsRow base 99 4 (.slice Ax nx cx) nx (((zar k 0 nx).take jj++lx.drop jj).flatMap zaa.cells)∧Fr (zag (.slice Ax nx cx)) w5 w2) (fun j _=>nx-(intOf j).toNat)
      case atStart=>exact⟨0,Nat.zero_le _,rfl,by simpa using OX5.out,Fr.refl _ _⟩
      case round=>
        obtain⟨jj,hjj,rfl,ho2,hf3⟩:=hrel;have HX2:=q0_ ho2;have HF3:=q0_ hf3;have RX5:Off w5 (zag (.slice Ax nx cx)) [42,23]:=Off.row OX5.out (by decide);have B6:=RX5.blkf B5.out (by decide) hf3;have R6:=RX5.own R5.out (by decide) hf3;have M6:=zad OM.out hf3 hMX.out;clear RX5
        by_cases hlj:jj<nx
        · have c0:=B6.cell 8
          rw[HV0.out] at c0;obtain⟨ad2,x2,e2,hx2,d0⟩:=(Rd.of_own R6).at_map hlt
          injection e2 with e2
          subst e2;have hx3:=HX.out;rw[hx2] at hx3
          injection hx3 with hx3
          subst hx3;obtain⟨md,y,rfl,hy,e0,e1,e2,e3⟩:=(Rd.of_own M6).tier hlj;have HY:=q0_ hy;obtain⟨gx,cap,hform,hgx,_⟩:=HX2.out.form (by omega)
          injection hform with h1 h2 h3
          subst h1;subst h3;have hlenX:(((zar k 0 nx).take jj++lx.drop jj).flatMap zaa.cells).length=nx*4:=HX2.out.1
          obtain⟨q0,hq0⟩:∃ q,(((zar k 0 nx).take jj++lx.drop jj).flatMap zaa.cells)[jj*4]? =some q:=⟨_,q6_ (by rw[hlenX];omega)⟩
          have s0:=HX2.out.cellAt (jj*4) (by omega);rw[hq0] at s0;have z0:=HX2.out.frozenAt (jj*4);clear hq0
          obtain⟨q1,hq1⟩:∃ q,(((zar k 0 nx).take jj++lx.drop jj).flatMap zaa.cells)[jj*4+1]? =some q:=⟨_,q6_ (by rw[hlenX];omega)⟩
          have s1:=HX2.out.cellAt (jj*4+1) (by omega);rw[hq1] at s1;have z1:=HX2.out.frozenAt (jj*4+1);clear hq1
          obtain⟨q2,hq2⟩:∃ q,(((zar k 0 nx).take jj++lx.drop jj).flatMap zaa.cells)[jj*4+2]? =some q:=⟨_,q6_ (by rw[hlenX];omega)⟩
          have s2:=HX2.out.cellAt (jj*4+2) (by omega);rw[hq2] at s2;have z2:=HX2.out.frozenAt (jj*4+2);clear hq2
          obtain⟨q3,hq3⟩:∃ q,(((zar k 0 nx).take jj++lx.drop jj).flatMap zaa.cells)[jj*4+3]? =some q:=⟨_,q6_ (by rw[hlenX];omega)⟩
          have s3:=HX2.out.cellAt (jj*4+3) (by omega);rw[hq3] at s3;have z3:=HX2.out.frozenAt (jj*4+3);clear hq3
          have HZ:Hid (∀ W,W=ziI wr.drew gx (jj*4) [.string y.name,.int .i64 y.every,.int .i64 y.keep,.int .i64 y.shards]→W.ownsRow base 99 4 (.slice (some ⟨gx,0,none⟩) nx cx) nx (((zar k 0 nx).take (jj+1)++lx.drop (jj+1)).flatMap zaa.cells)∧Fr (zag (.slice (some ⟨gx,0,none⟩) nx cx)) w5 W):=fun W hW=>by
            subst hW
            have hlx:∃ z,lx[jj]? =some z:=⟨lx[jj]'(by rw[HNX.out];exact hlj),q6_ _⟩
            obtain⟨z,hz⟩:=hlx;have h1:=zeU [.string y.name,.int .i64 y.every,.int .i64 y.keep,.int .i64 y.shards] (jj*4) wr.drew _ (za_ HX2.out ((Fr.refl (fun _=>False) wr).drew));have h2:=zkN zem _ _ HY.out hz;refine⟨?_,(HF3.out.drew).trans (zfR [.string y.name,.int .i64 y.every,.int .i64 y.keep,.int .i64 y.shards] (jj*4) wr.drew) (fun i hi=>.inl (by subst hi;rfl))⟩;rw[← h2];exact h1
          clear hx2 hy B6 R6 M6 hlenX ho2 hf3;go_wp2_with fail
          go_still_tail 13,(by kernel_rfl)
          repeat still_step
          try refine wpStill_nil ?_
          change wpList _ _ _ _ _ wr.drew
          obtain⟨W2,hW2⟩:∃ W2,W2=wr.drew:=⟨_,rfl⟩
          change wr.drew.cell? _=_ at s0;change wr.drew.frozen? _=_ at z0;change wr.drew.cell? _=_ at s1;change wr.drew.frozen? _=_ at z1;change wr.drew.cell? _=_ at s2;change wr.drew.frozen? _=_ at z2;change wr.drew.cell? _=_ at s3;change wr.drew.frozen? _=_ at z3;rw[← hW2] at HZ s0 z0 s1 z1 s2 z2 s3 z3 ⊢
          obtain⟨p,hp⟩:∃ p,jj*4=p:=⟨_,rfl⟩
          rw[hp] at HZ s0 z0 s1 z1 s2 z2 s3 z3 ⊢;clear c0 d0 e0 e1 e2 e3 hW2 hp
          go_wp2
          go_roundw
          case rel=>exact⟨jj+1,by omega,by go_num,(HZ.out _ rfl).1,(HZ.out _ rfl).2⟩
          case measure=>simp[intOf];omega
        · obtain rfl:jj=nx:=by omega
          have HE:Hid (zcm zaa.cells wr base 99 4 (zaD (fun i n=>zar i 0 n) (k+1) hs)∧Fr (zaP hs) w wr):=by
            have hL5:=(HL2.out.fr0 (Fr.b0 BB5.out))
            have ho3:wr.ownsRow base 99 4 (.slice Ax jj cx) jj ((zar k 0 jj).flatMap zaa.cells):=by
              have:=HX2.out;rwa[zbh (by rw[zbt];exact Nat.le_refl _),List.drop_eq_nil_of_le (by rw[HNX.out];exact Nat.le_refl _),List.append_nil] at this
            refine⟨hL5.mark HX.out HMk.out HF3.out ?_,F5.out.trans HF3.out (fun i hi=>.inl (HXF.out i hi))⟩;rw[HNX.out];exact ho3
          clear ho2 hf3 B6 R6 M6
          go_wp2
          go_roundw
          case rel=>exact⟨k+1,by omega,by go_num,HE.out.1,HE.out.2⟩
          case measure=>simp[intOf];omega
    · obtain rfl:k=m:=by omega
      go_wp2
      go_end0
      exact⟨rfl,HL2.out,HF2.out⟩
theorem zf8(O : Option Addr)(co m : Nat)(gs : List (HV zaa))(w : World)(hr : Rd w 1 O m (gs.map HV.v))(hn : m ≤ 1000)
    (hg:∀ h∈gs,zcS zaa.cells w 4 h) (hl:∀ h∈gs,h.l.length≤2000000) (hmk:∀ (i:Nat) (h:HV zaa),gs[i]? =some h→h.l=zar i 0 h.l.length):
    Calls prog 89 #[.slice O m co] w fun r w'=>r=.returned (.bool true)∧Below w.heap.size w w':=by
  have HR:=q0_ hr;have HG:=q0_ hg;have HL:=q0_ hl;have HMk:=q0_ hmk;clear hr hg hl hmk;go_enter func89,ntmps89;go_wp2_with fail
  go_loopw [3] (fun i wr=>∃ k:Nat,k≤m∧i=.int .i64 k∧Own w wr (fun _=>False)) (fun i _=>m-(intOf i).toNat)
  case atStart=>exact⟨0,Nat.zero_le _,rfl,Own.start w⟩
  case round=>
    obtain⟨k,hk,rfl,ho⟩:=hrel;have Ho:=q0_ ho
    by_cases hlt:k<m
    · obtain⟨ad,x,rfl,hx,d0⟩:=(HR.out.fr0 (Fr.b0 ho.bel)).at_map hlt
      have hlx:=HL.out x (zab hx);have hxl:=HMk.out k x hx;obtain⟨Ax,cx,hv,hrx,_⟩:=(HG.out x (zab hx)).fr0 (Fr.b0 ho.bel);obtain⟨vx,lx⟩:=x;simp only at hv hlx hxl hrx d0;subst hv
      obtain⟨nx,hnx⟩:∃ nx,lx.length=nx:=⟨_,rfl⟩
      rw[hnx] at hlx hxl hrx d0;subst hxl;have HRX:=q0_ hrx
      have hlt2:(k:Int)<(m:Int):=by omega
      have HM:Hid (∀ W,W.cell? (ad.add k)=some (.slice Ax nx cx)∧Fr (fun _=>False) wr W→Calls prog 137 #[.int .i64 (k:Int),.int .i64 0,.int .i64 (nx:Int)] W fun r w''=>∃ A c,r=.returned (.slice A nx c)∧w''.ownsRow wr.heap.size 99 4 (.slice A nx c) nx (zaf (zar k 0 nx))∧w''.cell? (ad.add k)=some (.slice Ax nx cx)∧Fr (fun _=>False) wr w''):=fun W hW=>by
        refine (zg_ k 0 nx (by omega) (by omega) (by omega) W).mono ?_;rintro r w'' ⟨A,c,e,ho,b⟩;exact⟨A,c,e,zaL ho hW.2.size,(Fr.b0 b).cell hW.1 (fun h=>h),hW.2.trans (Fr.b0 b) q4_⟩
      have HS:Hid (∀ W A c,Fr (fun _=>False) wr W→W.ownsRow wr.heap.size 99 4 (.slice A nx c) nx (zaf (zar k 0 nx))→Calls prog 60 #[.slice Ax nx cx,.slice A nx c] W fun r w''=>r=.returned (.bool true)∧w''.cell? (ad.add k)=some (.slice Ax nx cx)∧Fr (fun _=>False) wr w''):=fun W A c hf h=>by
        refine (zdu (zar k 0 nx) _ _ _ _ _ W (HRX.out.fr0 hf) (Rd.of_own h) (by omega)).mono ?_;rintro r w'' ⟨e,b⟩;have hf2:Fr (fun _=>False) wr w'':=hf.trans (Fr.b0 b) q4_;exact⟨e,hf2.cell d0 (fun h=>h),hf2⟩
      clear hx hnx hrx ho;go_wp2_with fail
      go_region_held3 (fun w'=>w'.cell? (ad.add k)=some (.slice Ax nx cx)∧Fr (fun _=>False) wr w') (first | exact⟨d0,(Fr.refl _ wr).drew⟩ | assumption | exact⟨by assumption,by assumption⟩) (first | (go_at_call 137;refine (HM.out _ (by first | assumption | exact⟨by assumption,by assumption⟩)).mono ?_;rintro r w5 ⟨M,cm,rfl,om,q5,f5⟩) | (go_at_call 60;refine (HS.out _ _ _ (by assumption) (by assumption)).mono ?_;rintro r w6 ⟨rfl,q6,f6⟩))
      go_wp2
      go_roundw
      case rel=>exact⟨k+1,by omega,by go_num,Ho.out.skip (by assumption)⟩
      case measure=>simp[intOf];omega
    · obtain rfl:k=m:=by omega
      clear ho;go_wp2;go_ret;exact⟨rfl,Ho.out.bel⟩
theorem zm8(g : Nat)(cs : Array Value)(base : Nat)(V : Value)(hs : List (HV zaa))(w : World)(hb : Blk w g 42 cs)(hV : cs[8]? = some V)(hbase : base ≤ w.heap.size)
    (hL:zcm zaa.cells w base 99 4 hs) (hrow:w.ownsRow base 23 1 V hs.length (hs.map HV.v)) (hn:hs.length≤1000) (hl:∀ h∈hs,h.l.length≤1000000)
    (hmk:∀ (i:Nat) (h:HV zaa),hs[i]? =some h→h.l=zar i 0 h.l.length):
    Calls prog 81 #[.pointer (some ⟨g,0,none⟩)] w fun r w'=>∃ (O:Option Addr) (co:Nat) (gs:List (HV zaa)),r=.returned (.slice O hs.length co)∧w'.ownsRow w.heap.size 23 1 (.slice O hs.length co) hs.length (gs.map HV.v)∧gs.length=hs.length∧(∀ h∈gs,zcS zaa.cells w' 4 h)∧(∀ h∈hs,zcS zaa.cells w' 4 h)∧
      (∀ h∈gs,h.l.length≤1000072)∧(∀ (i:Nat) (h:HV zaa),gs[i]? =some h→h.l=zar i 0 h.l.length)∧(∀ h∈gs,∀ b,zag h.v b→zaP hs b∨w.heap.size≤b)∧Fr (zaP hs) w w':=by
  obtain⟨RA,rc,rfl,_,_,hR⟩:=zam hrow;have HB:=q0_ hb;have HLs:=q0_ hL;have HRow:=q0_ hrow;have HL:=q0_ hl;have HMk:=q0_ hmk
  obtain⟨m,hm⟩:∃ m,hs.length=m:=⟨_,rfl⟩
  rw[hm] at HRow hn hV ⊢;have HV0:=q0_ hV;have HBs:=q0_ hbase;have OB:=q0_ (Off.lists hL (ts:=[42,23]) (by decide));obtain⟨i0,hi0,hz0,hz1,hz2⟩:=info_parts zm3;obtain⟨j0,hj0,hy0,hy1,hy2⟩:=info_parts zc4;have HLen:=q0_ hm;clear hb hV hL hrow hl hR hm hbase hmk;go_enter func81,ntmps81;go_wp2_with fail
  go_loopw [3, 4] (fun o i wr => ∃ (k : Nat) (O : Option Addr) (co : Nat) (gs : List (HV zaa)), k ≤ m ∧ i = .int .i64 k ∧ o = .slice O k co ∧ Hid (gs.length = k) ∧ wr.ownsRow w.heap.size 23 1 (.slice O k co) k (gs.map HV.v) ∧ zdq zaa.cells wr base 99 4 (fun i n => zar i 0 n) w.heap.size hs gs ∧
      Hid (∀ (i:Nat) (h:HV zaa),k≤i→hs[i]? =some h→wr.ownsRow base 99 4 h.v h.l.length (h.l.flatMap zaa.cells))∧Fr (zaP hs) w wr) (fun _ i _=>m-(intOf i).toNat)
  case atStart=>exact⟨0,none,0,[],Nat.zero_le _,rfl,rfl,rfl,World.ownsRow_nil _ _ _ _,zdq.start fun h hh=>zcS.of_own (HLs.out.own h hh),fun i h _ hh=>HLs.out.own h (zab hh),Fr.refl _ _⟩
  case round=>
    obtain⟨k,O,co,gs,hk,rfl,rfl,hgl,hrow,hgr,hown,hf2⟩:=hrel;have HO2:=q0_ hrow;have HG:=q0_ hgr;have HF2:=q0_ hf2;have hB:=OB.out.blkf HB.out (by decide) hf2;have hR2:=OB.out.own HRow.out (by decide) hf2;have c0:=hB.cell 8;rw[HV0.out] at c0;have HB2:=q0_ hB;clear hB hrow hgr hf2
    by_cases hlt:k<m
    · obtain⟨ad,x,rfl,hx,d0⟩:=(Rd.of_own hR2).at_map hlt
      have hlx:=HL.out x (zab hx);have ox:=hown.out k x (Nat.le_refl _) hx;have hxl:=HMk.out k x hx;have HX:=q0_ hx;obtain⟨vx,lx⟩:=x;simp only at d0 ox hlx hxl;obtain⟨Ax,cx,rfl,hcx,hcx2,_⟩:=zam ox
      obtain⟨nx,hnx⟩:∃ nx,lx.length=nx:=⟨_,rfl⟩
      rw[hnx] at d0 ox hlx hcx hxl HX;subst hxl;have HOX:=q0_ ox;have hhx:=q0_ (zes ox);have HMK:Hid (∀ (j q:Nat) w',j≤1001000→q≤1000→Calls prog 137 #[.int .i64 (k:Int),.int .i64 (j:Int),.int .i64 (q:Int)] w' fun r w''=>∃ A c,r=.returned (.slice A q c)∧w''.ownsRow w'.heap.size 99 4 (.slice A q c) q (zaf (zar k j q))∧Below w'.heap.size w' w''):=fun j q w' hj hq=>zg_ k j q (by omega) (by omega) (by omega) w'
      obtain⟨wo,hwo⟩:∃ wo:World,wo=wr:=⟨_,rfl⟩
      have hlt2:(k:Int)<(m:Int):=by omega
      clear hx ox hR2;go_wp2_with fail;rw[← hwo] at HO2 HG hown HF2 HB2 HOX ⊢;clear c0 d0 hwo
      go_loopw [5,6] (fun l j wr=>∃ (jj q:Nat) (A:Option Addr) (c:Nat),jj≤12∧j=.int .i64 jj∧q≤1000012∧Hid (q=nx+jj)∧l=.slice A q c∧wr.ownsRow base 99 4 (.slice A q c) q ((zar k 0 q).flatMap zaa.cells)∧Rd wr 4 Ax nx ((zar k 0 nx).flatMap zaa.cells)∧Mv (zag (.slice Ax nx cx)) (zag (.slice A q c)) wo wr) (fun _ j _=>12-(intOf j).toNat)
      case atStart=>exact⟨0,nx,Ax,cx,by omega,rfl,by omega,rfl,rfl,HOX.out,Rd.of_own HOX.out,Mv.refl _ _⟩
      case round=>
        obtain⟨jj,q,A,c,hjj,rfl,hq,hqn,rfl,hol,hrx,hmv⟩:=hrel;have HOL:=q0_ hol;have HRX:=q0_ hrx;have HMV:=q0_ hmv;have hha:=q0_ (zes hol);have hbs:=q0_ hmv.size
        have hbw:Hid (base≤wo.heap.size):=by have:=HF2.out.size;have:=HBs.out;show _≤_;omega
        clear hol hrx hmv
        by_cases hlj:jj<12
        · have hmk1 : Hid ((zar k 0 (q + 1)).flatMap zaa.cells = (zar k 0 q).flatMap zaa.cells ++ zaf (zar k q 1)) := by
            show _=_
            rw[zc1,List.flatMap_append,Nat.zero_add];rfl
          have hpre:Hid (((zar k 0 q).flatMap zaa.cells).take (nx*4)=(zar k 0 nx).flatMap zaa.cells):=by
            show _=_
            rw[hqn.out,zc1,List.flatMap_append,List.take_left' (by rw[zbZ zem,zbt])]
          go_wp2_with fail;refine (HMK.out q 1 wr (by omega) (by omega)).mono ?_;rintro r w5 ⟨M,cm,rfl,om,b5⟩;have OM:=q0_ om;have B5:=q0_ b5;have hs5:=q0_ b5.size;clear om b5
          go_wp2_with (at_builtin;refine zaq rfl _ _ 23 rfl 99 j0 _ 4 40 underlying23 hj0 hy0 hy1 hy2 rfl (by decide) (.slice A q c) q _ rfl base (by have:=hs5.out;have:=hbs.out;have:=hbw.out;omega) (za_ HOL.out (Fr.b0 B5.out)) M 1 cm (zaf (zar k q 1)) rfl (Rd.of_own OM.out) (zcV _) ?q1 ?q2 ?_)
          case q1=>unfold maxLen;omega
          case q2=>omega
          intro A6 c6 w6 ho6 hm6 hk6;have HO6:=q0_ ho6;have HM6:=q0_ hm6;have HK6:=q0_ hk6;clear ho6 hm6 hk6
          go_wp2
          go_roundw
          case rel=>
            refine⟨jj+1,q+1,A6,c6,by omega,by go_num,by have:=hqn.out;omega,by have:=hqn.out;show _=_;omega,by go_num,?_,?_,(HMV.out.skip (Fr.b0 B5.out)).trans HM6.out⟩
            · rw[hmk1.out];exact HO6.out
            · exact zew hhx.out (HRX.out.fr0 (Fr.b0 B5.out)) hha.out HM6.out.fr HK6.out (by have:=hqn.out;omega) hpre.out
          case measure=>simp[intOf];omega
        · obtain rfl:jj=12:=by omega
          have hmk1:Hid ((zar k 0 (q+60)).flatMap zaa.cells=(zar k 0 q).flatMap zaa.cells++zaf (zar k q 60)):=by
            show _=_
            rw[zc1,List.flatMap_append,Nat.zero_add];rfl
          have hpre:Hid (((zar k 0 q).flatMap zaa.cells).take (nx*4)=(zar k 0 nx).flatMap zaa.cells):=by
            show _=_
            rw[hqn.out,zc1,List.flatMap_append,List.take_left' (by rw[zbZ zem,zbt])]
          go_wp2_with fail;refine (HMK.out q 60 wr (by omega) (by omega)).mono ?_;rintro r w5 ⟨M,cm,rfl,om,b5⟩;have OM:=q0_ om;have B5:=q0_ b5;have hs5:=q0_ b5.size;clear om b5
          go_wp2_with (at_builtin;refine zaq rfl (.tmp 34) (.tmp 38) 23 rfl 99 j0 _ 4 40 underlying23 hj0 hy0 hy1 hy2 rfl (by decide) (.slice A q c) q _ rfl base (by have:=hs5.out;have:=hbs.out;have:=hbw.out;omega) (za_ HOL.out (Fr.b0 B5.out)) M 60 cm (zaf (zar k q 60)) rfl (Rd.of_own OM.out) (zcV _) ?q1 ?q2 ?_)
          case q1=>unfold maxLen;omega
          case q2=>omega
          intro A7 c7 w7 ho7 hm7 hk7;have HM7:=q0_ ((HMV.out.skip (Fr.b0 B5.out)).trans hm7);have HX7:Hid (Rd w7 4 Ax nx ((zar k 0 nx).flatMap zaa.cells)):=zew hhx.out (HRX.out.fr0 (Fr.b0 B5.out)) hha.out hm7.fr hk7 (by have:=hqn.out;omega) hpre.out
          have HO7:Hid (w7.ownsRow base 99 4 (.slice A7 (q+60) c7) (q+60) ((zar k 0 (q+60)).flatMap zaa.cells)):=by show World.ownsRow _ _ _ _ _ _ _;rw[hmk1.out];exact ho7
          have HR7:Hid (w7.ownsRow w.heap.size 23 1 (.slice O k co) k (gs.map HV.v)):=(Off.row HOX.out (ts:=[23]) (by decide)).own HO2.out (by decide) HM7.out.fr;have hs7:=q0_ HM7.out.size;have hw0:=q0_ HF2.out.size
          have HG7:Hid (zdq zaa.cells w7 base 99 4 (fun i n=>zar i 0 n) w.heap.size hs (gs++[⟨.slice A7 (q+60) c7,zar k 0 (q+60)⟩])):=by
            refine HG.out.step HX.out hgl.out HLs.out.apart (fun i hi=>?_) hw0.out HM7.out ?_ ?_ ?_ ?_
            · exact zcp (HLs.out.own _ (zab HX.out)) i hi
            · refine⟨Ax,cx,?_,?_,hhx.out⟩
              · simp only[zbt]
              · simp only[zbt];exact HX7.out
            · simp only[zbt];exact HO7.out
            · simp only[zbt];have:=hqn.out;omega
            · simp only[zbt]
          clear ho7 hm7 hk7
          go_wp2_with (at_builtin;refine zaq rfl (.tmp 33) (.tmp 40) 37 rfl 23 i0 _ 1 24 underlying37 hi0 hz0 hz1 hz2 rfl (by decide) (.slice O k co) k _ rfl w.heap.size (by have:=hs7.out;have:=hw0.out;simp;omega) (za_ HR7.out (Fr.none_alloc _ _)) (some ⟨w7.heap.size,0,none⟩) 1 1 [.slice A7 (q+60) c7] rfl (Rd.newS (by simp) _ _ _ _ rfl) (by simp[Value.oneCell']) ?q1 ?q2 ?_)
          case q1=>unfold maxLen;omega
          case q2=>omega
          intro O8 c8 w8 ho8 hm8 _;have HO8:=q0_ ho8;have F8:Fr (zag (.slice O k co)) w7 w8:=((Fr.none_alloc w7 (.cells #[.slice A7 (q+60) c7] 23)).mono q4_).trans hm8.fr (fun i hi=>.inl hi)
          have HG8:Hid (zdq zaa.cells w8 base 99 4 (fun i n=>zar i 0 n) w.heap.size hs (gs++[⟨.slice A7 (q+60) c7,zar k 0 (q+60)⟩])):=by
            refine HG7.out.fr F8 (Off.row HR7.out (by decide)) (fun i hi=>(HR7.out.lt i hi).1) (fun i ⟨x,hx,hi⟩=>zcp (HLs.out.own x hx) i hi)
          have HF8:Hid (Fr (zaP hs) w w8):=(HF2.out.trans HM7.out.fr (fun i hi=>.inl ⟨_,zab HX.out,hi⟩)).trans F8 (fun i hi=>.inr (HR7.out.lt i hi).1)
          have HW8:Hid (∀ (i:Nat) (h:HV zaa),k+1≤i→hs[i]? =some h→w8.ownsRow base 99 4 h.v h.l.length (h.l.flatMap zaa.cells)):=fun i h hik hi=>by
            refine (Off.row HR7.out (ts:=[99]) (by decide)).own ?_ (by decide) F8;exact zad (hown.out i h (by omega) hi) HM7.out.fr (zeG HLs.out.apart hi HX.out (by omega))
          have hgl2:Hid ((gs++[(⟨.slice A7 (q+60) c7,zar k 0 (q+60)⟩:HV zaa)]).length=k+1):=by show _=_;rw[q8_,hgl.out];rfl
          clear ho8 hm8 F8
          go_wp2
          go_roundw
          case rel=>
            refine⟨k+1,O8,c8,gs++[⟨.slice A7 (q+60) c7,zar k 0 (q+60)⟩],by omega,by go_num,by go_num,hgl2,?_,HG8.out,HW8.out,HF8.out⟩;simpa using HO8.out
          case measure=>simp[intOf];omega
    · obtain rfl:k=m:=by omega
      go_wp2;go_ret;exact⟨O,co,gs,rfl,HO2.out,by rw[hgl.out],fun h hh=>zcS.of_own (HG.out.2.1 h hh),HG.out.1,HG.out.2.2.1 (fun h hh=>HL.out h hh),HG.out.2.2.2.1,HG.out.whence (by rw[hgl.out,HLen.out]),HF2.out⟩
theorem zkb(g : Nat)(cs : Array Value)(base : Nat)(VI UI : Value)(hI uI : List (HV Int))(VT UT : Value)(hT uT : List (HV zaa))(w : World)(hb : Blk w g 42 cs)(hbase : base ≤ w.heap.size)
    (cTexts:cs[0]? =some (.slice none 0 0)) (cI:cs[2]? =some VI) (dI:cs[3]? =some UI) (kI:zel zbm w base 26 3 1 VI UI hI uI) (nI:hI.length≤250) (lI:∀ h∈hI,h.l.length≤100000) (cRecords:cs[4]? =some (.slice none 0 0)) (cSamples:cs[6]? =some (.slice none 0 0)) (cT:cs[8]? =some VT) (dT:cs[9]? =some UT) (kT:zel zaa.cells w base 23 99 4 VT UT hT uT) (nT:hT.length≤250) (lT:∀ h∈hT,h.l.length≤100000) (cErrnos:cs[10]? =some (.slice none 0 0)) (cWords:cs[12]? =some (.slice none 0 0)) (cSteps:cs[14]? =some (.slice none 0 0)):
    Calls prog 20 #[.pointer (some ⟨g,0,none⟩)] w fun r w'=>r=.returned (.bool true)∧Fr (fun k=>zaP hI k∨zaP hT k) w w':=by
  have HB0:=q0_ hb;have F0:=q0_ (Fr.refl (fun k=>zaP hI k∨zaP hT k) w);have HBs:=q0_ hbase;obtain⟨RI,rI,rfl,_,_,_⟩:=zam kI.row;have HKI0:=q0_ kI;have HCI:=q0_ cI;have HDI:=q0_ dI;have HNI:=q0_ nI;have HLI:=q0_ lI;have HMI:=q0_ (fun i n=>zbu i 0 n);obtain⟨RT,rT,rfl,_,_,_⟩:=zam kT.row;have HKT0:=q0_ kT;have HCT:=q0_ cT;have HDT:=q0_ dT;have HNT:=q0_ nT;have HLT:=q0_ lT;have HMT:=q0_ (fun i n=>zbt i 0 n);have HCTexts:=q0_ cTexts;have HCRecords:=q0_ cRecords;have HCSamples:=q0_ cSamples;have HCErrnos:=q0_ cErrnos;have HCWords:=q0_ cWords;have HCSteps:=q0_ cSteps;clear hb hbase cTexts cI dI kI nI lI cRecords cSamples cT dT kT nT lT cErrnos cWords cSteps;go_enter func20,ntmps20;go_wp2_with fail;refine (zfO g cs w HB0.out HCTexts.out).mono ?_;rintro r w' ⟨rfl,rfl⟩;go_wp2_with fail;refine (zlc g cs base _ UI hI uI w HB0.out HCI.out HDI.out HKI0.out (by have:=HNI.out;omega) (fun h hh=>by have:=HLI.out h hh;omega)).mono ?_;rintro r w1 ⟨rfl,b1⟩;have HB1:=q0_ (HB0.out.below b1);have F1:=q0_ (F0.out.trans (Fr.b0 b1) q4_);have HKI1:=q0_ (HKI0.out.fr0 (Fr.b0 b1));have HKT1:=q0_ (HKT0.out.fr0 (Fr.b0 b1));clear b1 HB0 HKI0 HKT0;go_wp2_with fail;refine (zeT g cs w1 HB1.out HCRecords.out).mono ?_;rintro r w' ⟨rfl,rfl⟩;go_wp2_with fail;refine (zeS g cs w1 HB1.out HCSamples.out).mono ?_;rintro r w' ⟨rfl,rfl⟩;go_wp2_with fail;refine (zlb g cs base _ UT hT uT w1 HB1.out HCT.out HDT.out HKT1.out (by have:=HNT.out;omega) (fun h hh=>by have:=HLT.out h hh;omega)).mono ?_;rintro r w2 ⟨rfl,b2⟩;have HB2:=q0_ (HB1.out.below b2);have F2:=q0_ (F1.out.trans (Fr.b0 b2) q4_);have HKI2:=q0_ (HKI1.out.fr0 (Fr.b0 b2));have HKT2:=q0_ (HKT1.out.fr0 (Fr.b0 b2));clear b2 HB1 HKI1 HKT1;go_wp2_with fail;refine (zfp g cs w2 HB2.out HCErrnos.out).mono ?_;rintro r w' ⟨rfl,rfl⟩;go_wp2_with fail;refine (zfN g cs w2 HB2.out HCWords.out).mono ?_;rintro r w' ⟨rfl,rfl⟩;go_wp2_with fail;refine (zfP g cs w2 HB2.out HCSteps.out).mono ?_;rintro r w' ⟨rfl,rfl⟩;have HSI2:=q0_ HKI2.out.lists;have HRI2:=q0_ HKI2.out.row;clear HKI2;have HbI:=q0_ (show base≤w2.heap.size by have:=F2.out.size;have:=HBs.out;omega);have HST2:=q0_ HKT2.out.lists;have HRT2:=q0_ HKT2.out.row;clear HKT2;have HbT:=q0_ (show base≤w2.heap.size by have:=F2.out.size;have:=HBs.out;omega);go_wp2_with fail;refine (zh5 g cs w2 HB2.out HCSteps.out).mono ?_;rintro r w' ⟨rfl,rfl⟩;go_wp2_with fail;refine (zh4 g cs w2 HB2.out HCTexts.out).mono ?_;rintro r w' ⟨rfl,rfl⟩;go_wp2_with fail;refine (zof g cs base _ hI w2 HB2.out HCI.out (by have:=F2.out.size;have:=HBs.out;omega) HSI2.out HRI2.out (by have:=HNI.out;omega) (fun h hh=>by have:=HLI.out h hh;omega)).mono ?_;rintro r w3 ⟨rfl,m3,f3⟩;have HB3:=q0_ ((Off.lists HSI2.out (ts:=[42]) (by decide)).blkf HB2.out (by decide) f3);have F3:=q0_ (F2.out.trans f3 (fun i hi=>.inl (by first | exact hi | exact .inl hi | exact .inr hi | exact .inr (.inl hi))));have HRI3:=q0_ ((Off.lists HSI2.out (ts:=[26]) (by decide)).own HRI2.out (by decide) f3);have HSI3:=q0_ m3;have HRT3:=q0_ ((Off.lists HSI2.out (ts:=[23]) (by decide)).own HRT2.out (by decide) f3);have HST3:=q0_ (HST2.out.fr f3 (Off.lists HSI2.out (ts:=[99]) (by decide)) (by decide));clear m3 f3 HB2 HRI2 HSI2 HRT2 HST2;go_wp2_with fail;refine (zf2 g cs w3 HB3.out HCRecords.out).mono ?_;rintro r w' ⟨rfl,rfl⟩;go_wp2_with fail;refine (zf1 g cs w3 HB3.out HCSamples.out).mono ?_;rintro r w' ⟨rfl,rfl⟩;go_wp2_with fail;refine (zoe g cs base _ hT w3 HB3.out HCT.out (by have:=F3.out.size;have:=HBs.out;omega) HST3.out HRT3.out (by have:=HNT.out;omega) (fun h hh=>by have:=HLT.out h hh;omega)).mono ?_;rintro r w4 ⟨rfl,m4,f4⟩;have HB4:=q0_ ((Off.lists HST3.out (ts:=[42]) (by decide)).blkf HB3.out (by decide) f4);have F4:=q0_ (F3.out.trans f4 (fun i hi=>.inl (by first | exact hi | exact .inl hi | exact .inr hi | exact .inr (.inl hi))));have HRI4:=q0_ ((Off.lists HST3.out (ts:=[26]) (by decide)).own HRI3.out (by decide) f4);have HSI4:=q0_ (HSI3.out.fr f4 (Off.lists HST3.out (ts:=[3]) (by decide)) (by decide));have HRT4:=q0_ ((Off.lists HST3.out (ts:=[23]) (by decide)).own HRT3.out (by decide) f4);have HST4:=q0_ m4;clear m4 f4 HB3 HRI3 HSI3 HRT3 HST3;go_wp2_with fail;refine (zgL g cs w4 HB4.out HCErrnos.out).mono ?_;rintro r w' ⟨rfl,rfl⟩;go_wp2_with fail;refine (zh2 g cs w4 HB4.out HCWords.out).mono ?_;rintro r w' ⟨rfl,rfl⟩
  obtain⟨mI,hmI⟩:∃ m,zaD (fun i n=>zas i 0 n) hI.length hI=m:=⟨_,rfl⟩
  have E1I:Hid (mI.length=hI.length):=by show _=_;rw[← hmI,zfh]
  have E2I:Hid (∀ h∈mI,h.l.length≤100000):=by rw[← hmI];exact zhm (P:=fun n=>n≤100000) HMI.out HLI.out
  have E3I:Hid (∀ (i:Nat) (h:HV Int),mI[i]? =some h→h.l=zas i 0 h.l.length):=by rw[← hmI];exact ziZ HMI.out
  have E4I:Hid (∀ k,zaP mI k→zaP hI k):=by rw[← hmI];exact zeu _
  have E5I:Hid (mI.map HV.v=hI.map HV.v):=by show _=_;rw[← hmI,zde]
  rw[hmI] at HSI4
  have HVI4:Hid (w4.ownsRow base 26 1 (.slice RI hI.length rI) hI.length (mI.map HV.v)):=by show World.ownsRow _ _ _ _ _ _ _;rw[E5I.out];exact HRI4.out
  clear hmI HRI4
  obtain⟨mT,hmT⟩:∃ m,zaD (fun i n=>zar i 0 n) hT.length hT=m:=⟨_,rfl⟩
  have E1T:Hid (mT.length=hT.length):=by show _=_;rw[← hmT,zfh]
  have E2T:Hid (∀ h∈mT,h.l.length≤100000):=by rw[← hmT];exact zhm (P:=fun n=>n≤100000) HMT.out HLT.out
  have E3T:Hid (∀ (i:Nat) (h:HV zaa),mT[i]? =some h→h.l=zar i 0 h.l.length):=by rw[← hmT];exact ziZ HMT.out
  have E4T:Hid (∀ k,zaP mT k→zaP hT k):=by rw[← hmT];exact zeu _
  have E5T:Hid (mT.map HV.v=hT.map HV.v):=by show _=_;rw[← hmT,zde]
  rw[hmT] at HST4
  have HVT4:Hid (w4.ownsRow base 23 1 (.slice RT hT.length rT) hT.length (mT.map HV.v)):=by show World.ownsRow _ _ _ _ _ _ _;rw[E5T.out];exact HRT4.out
  clear hmT HRT4;have SepIT:=q0_ (Off.apart (Off.lists HST4.out (ts:=[3]) (by decide)) HSI4.out.ty);go_wp2_with fail;refine (zgP g cs w4 HB4.out HCTexts.out).mono ?_;rintro r w' ⟨rfl,rfl⟩;go_wp2_with fail;refine (zm9 g cs base _ mI w4 HB4.out HCI.out (by have:=F4.out.size;have:=HBs.out;omega) HSI4.out (by rw[E1I.out];exact HVI4.out) (by have:=HNI.out;have:=E1I.out;omega) (fun h hh=>by have:=E2I.out h hh;omega) E3I.out).mono ?_;rintro r w5 ⟨OI,oI,gI,rfl,r5,q5,x5,y5,z5,t5,v5,f5⟩;have HB5:=q0_ ((Off.lists HSI4.out (ts:=[42]) (by decide)).blkf HB4.out (by decide) f5);have F5:=q0_ (F4.out.trans f5 (fun i hi=>.inl (by have hi:=E4I.out i hi;first | exact hi | exact .inl hi | exact .inr hi | exact .inr (.inl hi))));have HVI5:=q0_ ((Off.lists HSI4.out (ts:=[26]) (by decide)).own HVI4.out (by decide) f5);have HXI5:=q0_ y5;have HGI5:=q0_ x5;have HOI5:=q0_ r5;have HqI:=q0_ q5;have HzI:=q0_ z5;have HtI:=q0_ t5;have HwI5:Hid (∀ h∈gI,∀ b,zag h.v b→zaP mI b∨w4.heap.size≤b):=v5;have HVT5:=q0_ ((Off.lists HSI4.out (ts:=[23]) (by decide)).own HVT4.out (by decide) f5);have HST5:=q0_ (HST4.out.fr f5 (Off.lists HSI4.out (ts:=[99]) (by decide)) (by decide));have HLtTI:=q0_ HST4.out.lt;clear r5 q5 x5 y5 z5 t5 v5 HB4 HVI4 HVT4;clear f5;go_wp2_with fail;refine (zfx g cs w5 HB5.out HCRecords.out).mono ?_;rintro r w' ⟨rfl,rfl⟩;go_wp2_with fail;refine (zfw g cs w5 HB5.out HCSamples.out).mono ?_;rintro r w' ⟨rfl,rfl⟩;go_wp2_with fail;refine (zm8 g cs base _ mT w5 HB5.out HCT.out (by have:=F5.out.size;have:=HBs.out;omega) HST5.out (by rw[E1T.out];exact HVT5.out) (by have:=HNT.out;have:=E1T.out;omega) (fun h hh=>by have:=E2T.out h hh;omega) E3T.out).mono ?_;rintro r w6 ⟨OT,oT,gT,rfl,r6,q6,x6,y6,z6,t6,v6,f6⟩;have HB6:=q0_ ((Off.lists HST5.out (ts:=[42]) (by decide)).blkf HB5.out (by decide) f6);have F6:=q0_ (F5.out.trans f6 (fun i hi=>.inl (by have hi:=E4T.out i hi;first | exact hi | exact .inl hi | exact .inr hi | exact .inr (.inl hi))));have HVI6:=q0_ ((Off.lists HST5.out (ts:=[26]) (by decide)).own HVI5.out (by decide) f6);have HOI6:=q0_ ((Off.lists HST5.out (ts:=[26]) (by decide)).own HOI5.out (by decide) f6);have HXI6:=q0_ (fun h hh=>(HXI5.out h hh).fr f6 (fun k hk=>SepIT.out k ⟨h,hh,hk⟩));have HGI6:=q0_ (fun h hh=>(HGI5.out h hh).fr f6 (fun k hk hF=>(HwI5.out h hh k hk).elim (fun h2=>SepIT.out k h2 hF) (fun h2=>by have:=HLtTI.out k hF;omega)));have HwI6:=HwI5;clear HwI5 HOI5 HXI5 HGI5;have HVT6:=q0_ ((Off.lists HST5.out (ts:=[23]) (by decide)).own HVT5.out (by decide) f6);have HXT6:=q0_ y6;have HGT6:=q0_ x6;have HOT6:=q0_ r6;have HqT:=q0_ q6;have HzT:=q0_ z6;have HtT:=q0_ t6;have HwT6:Hid (∀ h∈gT,∀ b,zag h.v b→zaP mT b∨w5.heap.size≤b):=v6;clear r6 q6 x6 y6 z6 t6 v6 HB5 HVI5 HVT5;clear f6;go_wp2_with fail;refine (zgn g cs w6 HB6.out HCErrnos.out).mono ?_;rintro r w' ⟨rfl,rfl⟩;go_wp2_with fail;refine (zgO g cs w6 HB6.out HCWords.out).mono ?_;rintro r w' ⟨rfl,rfl⟩;go_wp2_with fail;refine (zgQ g cs w6 HB6.out HCSteps.out).mono ?_;rintro r w' ⟨rfl,rfl⟩;go_wp2_with fail;refine (zdk _).mono ?_;rintro r w' ⟨rfl,rfl⟩;have e0:=HB6.out.cell 0;rw[HCTexts.out] at e0;go_wp2_with fail;clear e0;refine (zdk _).mono ?_;rintro r w' ⟨rfl,rfl⟩;go_wp2_with fail;refine (zf9 OI oI mI.length gI w6 (Rd.of_own HOI6.out) (by have:=HNI.out;have:=E1I.out;omega) HGI6.out (fun h hh=>by have:=HzI.out h hh;omega) HtI.out).mono ?_;rintro r w7 ⟨rfl,b7⟩;have HB7:=q0_ (HB6.out.below b7);have F7:=q0_ (F6.out.trans (Fr.b0 b7) q4_);have HVI7:=q0_ (za_ HVI6.out (Fr.b0 b7));have HOI7:=q0_ (za_ HOI6.out (Fr.b0 b7));have HXI7:=q0_ (fun h hh=>(HXI6.out h hh).fr0 (Fr.b0 b7));have HGI7:=q0_ (fun h hh=>(HGI6.out h hh).fr0 (Fr.b0 b7));have HVT7:=q0_ (za_ HVT6.out (Fr.b0 b7));have HOT7:=q0_ (za_ HOT6.out (Fr.b0 b7));have HXT7:=q0_ (fun h hh=>(HXT6.out h hh).fr0 (Fr.b0 b7));have HGT7:=q0_ (fun h hh=>(HGT6.out h hh).fr0 (Fr.b0 b7));clear b7 HB6 F6 HVI6 HOI6 HXI6 HGI6 HVT6 HOT6 HXT6 HGT6;have e0:=HB7.out.cell 2;rw[HCI.out] at e0;go_wp2_with fail;clear e0;refine (zf9 RI rI hI.length mI w7 (Rd.of_own HVI7.out) (by have:=HNI.out;have:=E1I.out;omega) HXI7.out (fun h hh=>by have:=E2I.out h hh;omega) E3I.out).mono ?_;rintro r w8 ⟨rfl,b8⟩;have HB8:=q0_ (HB7.out.below b8);have F8:=q0_ (F7.out.trans (Fr.b0 b8) q4_);have HVI8:=q0_ (za_ HVI7.out (Fr.b0 b8));have HOI8:=q0_ (za_ HOI7.out (Fr.b0 b8));have HXI8:=q0_ (fun h hh=>(HXI7.out h hh).fr0 (Fr.b0 b8));have HGI8:=q0_ (fun h hh=>(HGI7.out h hh).fr0 (Fr.b0 b8));have HVT8:=q0_ (za_ HVT7.out (Fr.b0 b8));have HOT8:=q0_ (za_ HOT7.out (Fr.b0 b8));have HXT8:=q0_ (fun h hh=>(HXT7.out h hh).fr0 (Fr.b0 b8));have HGT8:=q0_ (fun h hh=>(HGT7.out h hh).fr0 (Fr.b0 b8));clear b8 HB7 F7 HVI7 HOI7 HXI7 HGI7 HVT7 HOT7 HXT7 HGT7;go_wp2_with fail;refine (zcK _).mono ?_;rintro r w' ⟨rfl,rfl⟩;have e0:=HB8.out.cell 4;rw[HCRecords.out] at e0;go_wp2_with fail;clear e0;refine (zcK _).mono ?_;rintro r w' ⟨rfl,rfl⟩;go_wp2_with fail;refine (zcJ _).mono ?_;rintro r w' ⟨rfl,rfl⟩;have e0:=HB8.out.cell 6;rw[HCSamples.out] at e0;go_wp2_with fail;clear e0;refine (zcJ _).mono ?_;rintro r w' ⟨rfl,rfl⟩;go_wp2_with fail;refine (zf8 OT oT mT.length gT w8 (Rd.of_own HOT8.out) (by have:=HNT.out;have:=E1T.out;omega) HGT8.out (fun h hh=>by have:=HzT.out h hh;omega) HtT.out).mono ?_;rintro r w9 ⟨rfl,b9⟩;have HB9:=q0_ (HB8.out.below b9);have F9:=q0_ (F8.out.trans (Fr.b0 b9) q4_);have HVI9:=q0_ (za_ HVI8.out (Fr.b0 b9));have HOI9:=q0_ (za_ HOI8.out (Fr.b0 b9));have HXI9:=q0_ (fun h hh=>(HXI8.out h hh).fr0 (Fr.b0 b9));have HGI9:=q0_ (fun h hh=>(HGI8.out h hh).fr0 (Fr.b0 b9));have HVT9:=q0_ (za_ HVT8.out (Fr.b0 b9));have HOT9:=q0_ (za_ HOT8.out (Fr.b0 b9));have HXT9:=q0_ (fun h hh=>(HXT8.out h hh).fr0 (Fr.b0 b9));have HGT9:=q0_ (fun h hh=>(HGT8.out h hh).fr0 (Fr.b0 b9));clear b9 HB8 F8 HVI8 HOI8 HXI8 HGI8 HVT8 HOT8 HXT8 HGT8;have e0:=HB9.out.cell 8;rw[HCT.out] at e0;go_wp2_with fail;clear e0;refine (zf8 RT rT hT.length mT w9 (Rd.of_own HVT9.out) (by have:=HNT.out;have:=E1T.out;omega) HXT9.out (fun h hh=>by have:=E2T.out h hh;omega) E3T.out).mono ?_;rintro r w10 ⟨rfl,b10⟩;have HB10:=q0_ (HB9.out.below b10);have F10:=q0_ (F9.out.trans (Fr.b0 b10) q4_);have HVI10:=q0_ (za_ HVI9.out (Fr.b0 b10));have HOI10:=q0_ (za_ HOI9.out (Fr.b0 b10));have HXI10:=q0_ (fun h hh=>(HXI9.out h hh).fr0 (Fr.b0 b10));have HGI10:=q0_ (fun h hh=>(HGI9.out h hh).fr0 (Fr.b0 b10));have HVT10:=q0_ (za_ HVT9.out (Fr.b0 b10));have HOT10:=q0_ (za_ HOT9.out (Fr.b0 b10));have HXT10:=q0_ (fun h hh=>(HXT9.out h hh).fr0 (Fr.b0 b10));have HGT10:=q0_ (fun h hh=>(HGT9.out h hh).fr0 (Fr.b0 b10));clear b10 HB9 F9 HVI9 HOI9 HXI9 HGI9 HVT9 HOT9 HXT9 HGT9;go_wp2_with fail;refine (zc3 _).mono ?_;rintro r w' ⟨rfl,rfl⟩;have e0:=HB10.out.cell 10;rw[HCErrnos.out] at e0;go_wp2_with fail;clear e0;refine (zc3 _).mono ?_;rintro r w' ⟨rfl,rfl⟩;go_wp2_with fail;refine (zdj _).mono ?_;rintro r w' ⟨rfl,rfl⟩;have e0:=HB10.out.cell 12;rw[HCWords.out] at e0;go_wp2_with fail;clear e0;refine (zdj _).mono ?_;rintro r w' ⟨rfl,rfl⟩;go_wp2_with fail;refine (zdl _).mono ?_;rintro r w' ⟨rfl,rfl⟩;have e0:=HB10.out.cell 14;rw[HCSteps.out] at e0;go_wp2_with fail;clear e0;refine (zdl _).mono ?_;rintro r w' ⟨rfl,rfl⟩;go_wp2;go_ret;exact⟨rfl,F10.out⟩
def zb_(w:World)(g base:Nat)(kI:Nat)(LI:Nat→Prop)(kT:Nat)(LT:Nat→Prop):Prop:=
  ∃ (cs:Array Value) (VI UI:Value) (hI uI:List (HV Int)) (VT UT:Value) (hT uT:List (HV zaa)),Blk w g 42 cs∧base≤g∧base≤w.heap.size∧(∀ j,j<16→j≠2→j≠3→j≠8→j≠9→cs[j]? =some (.slice none 0 0))∧(cs[2]? =some VI∧cs[3]? =some UI∧zel zbm w base 26 3 1 VI UI hI uI∧hI.length=kI∧(∀ h∈hI,h.l.length≤100000)∧(∀ i,zaP hI i→LI i))∧(cs[8]? =some VT∧cs[9]? =some UT∧zel zaa.cells w base 23 99 4 VT UT hT uT∧hT.length=kT∧(∀ h∈hT,h.l.length≤100000)∧(∀ i,zaP hT i→LT i))
theorem zb_.fr{w w':World}{g base kI kT:Nat}{LI LT:Nat→Prop}(h:zb_ w g base kI LI kT LT)(hb:Below w.heap.size w w'):zb_ w' g base kI LI kT LT:=by
  obtain⟨cs,VI,UI,hI,uI,VT,UT,hT,uT,hB,hg,hw,hno,⟨aI,bI,cI,dI,eI,fI⟩,⟨aT,bT,cT,dT,eT,fT⟩⟩:=h;exact⟨cs,VI,UI,hI,uI,VT,UT,hT,uT,hB.below hb,hg,Nat.le_trans hw hb.size,hno,⟨aI,bI,cI.fr0 (Fr.b0 hb),dI,eI,fI⟩,⟨aT,bT,cT.fr0 (Fr.b0 hb),dT,eT,fT⟩⟩
theorem zb_.off{w w':World}{g base kI kT:Nat}{LI LT:Nat→Prop}{F:Nat→Prop}(h:zb_ w g base kI LI kT LT)(f:Fr F w w')(o:Off w F [42,26,3,23,99]):zb_ w' g base kI LI kT LT:=by
  obtain⟨cs,VI,UI,hI,uI,VT,UT,hT,uT,hB,hg,hw,hno,⟨aI,bI,cI,dI,eI,fI⟩,⟨aT,bT,cT,dT,eT,fT⟩⟩:=h;exact⟨cs,VI,UI,hI,uI,VT,UT,hT,uT,o.blkf hB (by decide) f,hg,Nat.le_trans hw f.size,hno,⟨aI,bI,cI.fr f o (by decide) (by decide),dI,eI,fI⟩,⟨aT,bT,cT.fr f o (by decide) (by decide),dT,eT,fT⟩⟩
theorem zb_.lt{w:World}{g base kI kT:Nat}{LI LT:Nat→Prop}(h:zb_ w g base kI LI kT LT):g<w.heap.size:=by
  obtain⟨cs,VI,UI,hI,uI,VT,UT,hT,uT,hB,hg,hw,hno,⟨aI,bI,cI,dI,eI,fI⟩,⟨aT,bT,cT,dT,eT,fT⟩⟩:=h;exact hB.lt
theorem zb_.new(w:World):zb_ (w.alloc (.cells #[.slice none 0 0,.slice none 0 0,.slice none 0 0,.slice none 0 0,.slice none 0 0,.slice none 0 0,.slice none 0 0,.slice none 0 0,.slice none 0 0,.slice none 0 0,.slice none 0 0,.slice none 0 0,.slice none 0 0,.slice none 0 0,.slice none 0 0,.slice none 0 0] 42)) w.heap.size w.heap.size 0 (fun _=>False) 0 (fun _=>False):=by
  refine⟨_,.slice none 0 0,.slice none 0 0,[],[],.slice none 0 0,.slice none 0 0,[],[],Blk.new _ _ _,Nat.le_refl _,by simp,fun j hj _ _ _ _=>?_,⟨rfl,rfl,zel.nil,rfl,fun x hx=>(by cases hx),fun i hi=>(by obtain⟨_,hx,_⟩:=hi;cases hx)⟩,⟨rfl,rfl,zel.nil,rfl,fun x hx=>(by cases hx),fun i hi=>(by obtain⟨_,hx,_⟩:=hi;cases hx)⟩⟩
  have:j=0∨j=1∨j=2∨j=3∨j=4∨j=5∨j=6∨j=7∨j=8∨j=9∨j=10∨j=11∨j=12∨j=13∨j=14∨j=15:=by omega
  rcases this with rfl | rfl | rfl | rfl | rfl | rfl | rfl | rfl | rfl | rfl | rfl | rfl | rfl | rfl | rfl | rfl<;>rfl
theorem zb_.addI{w : World}{g base kI kT : Nat}{LI LT : Nat → Prop}(h : zb_ w g base kI LI kT LT)(hk : kI < 200)(l : List Int)(A : Option Addr)(n c B : Nat)(ho : w.ownsRow B 3 1 (.slice A n c) n (zaU l))(hBb : base ≤ B)(hL : ∀ i, LI i → ¬ zag (.slice A n c) i)(hn : n ≤ 100000) :
    Calls prog 15 #[.pointer (some ⟨g,0,none⟩),.slice A n c] w fun r w'=>r=.returned (.tuple #[])∧zb_ w' g base (kI+1) (fun i=>LI i∨zag (.slice A n c) i) kT LT∧∃ F:Nat→Prop,Fr F w w'∧(∀ i,F i→base≤i)∧∀ us:List TypeId,42∉us→26∉us→Off w F us:=by
  obtain⟨cs,VI,UI,hI,uI,VT,UT,hT,uT,hB,hg,hw,hno,⟨aI,bI,cI,dI,eI,fI⟩,⟨aT,bT,cT,dT,eT,fT⟩⟩:=h
  have hlen:l.length=n:=by have:=ho.1;rw[znv] at this;omega
  refine (zoV g cs base VI UI hI uI l A n c w hB aI bI cI (by omega) (zaL ho hBb) (by omega) hw ?_).mono ?_
  · intro x hx i h1' h2'
    exact hL i (fI i ⟨x,hx,h1'⟩) h2'
  · rintro r w' ⟨e,V',U',B',d,b1,k1,f1,_⟩
    have hOff:∀ us:List TypeId,42∉us→26∉us→Off w (fun k=>k=g∨zag VI k∨zag UI k) us:=fun us h1 h2=>(Off.blk hB h1).or ((Off.row cI.row h2).or (Off.row cI.wrow h2))
    have h16:cs.size≥4:=by have:=(Array.getElem?_eq_some_iff.1 bI).1;omega
    refine⟨e,⟨_,V',U',_,_,VT,UT,hT,uT,b1,hg,Nat.le_trans hw f1.size,fun j hj j2 j3 j8 j9=>?_,⟨?_,?_,k1,by simp[dI],fun x hx=>?_,fun i hi=>?_⟩,⟨?_,?_,cT.fr f1 (hOff [23,99] (by decide) (by decide)) (by simp) (by simp),dT,eT,fT⟩⟩,_,f1,fun i hi=>?_,hOff⟩
    · rw[Array.getElem?_setIfInBounds_ne (by omega),Array.getElem?_setIfInBounds_ne (by omega),hno j hj j2 j3 j8 j9]
    · rw[Array.getElem?_setIfInBounds_ne (by decide),Array.getElem?_setIfInBounds_self_of_lt (by omega)]
    · rw[Array.getElem?_setIfInBounds_self_of_lt (by simp;omega)]
    · rcases List.mem_append.1 hx with hx | hx
      · exact eI x hx
      · rw[List.mem_singleton] at hx;subst hx;show l.length≤_;omega
    · obtain⟨x,hx,hi⟩:=hi
      rcases List.mem_append.1 hx with hx | hx
      · exact .inl (fI i ⟨x,hx,hi⟩)
      · rw[List.mem_singleton] at hx;subst hx;exact .inr hi
    · rw[Array.getElem?_setIfInBounds_ne (by decide),Array.getElem?_setIfInBounds_ne (by decide),aT]
    · rw[Array.getElem?_setIfInBounds_ne (by decide),Array.getElem?_setIfInBounds_ne (by decide),bT]
    · rcases hi with rfl | hi | hi
      · exact hg
      · exact (cI.row.lt i hi).1
      · exact (cI.wrow.lt i hi).1
theorem zb_.addT{w : World}{g base kI kT : Nat}{LI LT : Nat → Prop}(h : zb_ w g base kI LI kT LT)(hk : kT < 200)(l : List zaa)(A : Option Addr)(n c B : Nat)(ho : w.ownsRow B 99 4 (.slice A n c) n (zaf l))(hBb : base ≤ B)(hL : ∀ i, LT i → ¬ zag (.slice A n c) i)(hn : n ≤ 100000) :
    Calls prog 16 #[.pointer (some ⟨g,0,none⟩),.slice A n c] w fun r w'=>r=.returned (.tuple #[])∧zb_ w' g base kI LI (kT+1) (fun i=>LT i∨zag (.slice A n c) i)∧∃ F:Nat→Prop,Fr F w w'∧(∀ i,F i→base≤i)∧∀ us:List TypeId,42∉us→23∉us→Off w F us:=by
  obtain⟨cs,VI,UI,hI,uI,VT,UT,hT,uT,hB,hg,hw,hno,⟨aI,bI,cI,dI,eI,fI⟩,⟨aT,bT,cT,dT,eT,fT⟩⟩:=h
  have hlen:l.length=n:=by have:=ho.1;rw[znu] at this;omega
  refine (zoU g cs base VT UT hT uT l A n c w hB aT bT cT (by omega) (zaL ho hBb) (by omega) hw ?_).mono ?_
  · intro x hx i h1' h2'
    exact hL i (fT i ⟨x,hx,h1'⟩) h2'
  · rintro r w' ⟨e,V',U',B',d,b1,k1,f1,_⟩
    have hOff:∀ us:List TypeId,42∉us→23∉us→Off w (fun k=>k=g∨zag VT k∨zag UT k) us:=fun us h1 h2=>(Off.blk hB h1).or ((Off.row cT.row h2).or (Off.row cT.wrow h2))
    have h16:cs.size≥10:=by have:=(Array.getElem?_eq_some_iff.1 bT).1;omega
    refine⟨e,⟨_,VI,UI,hI,uI,V',U',_,_,b1,hg,Nat.le_trans hw f1.size,fun j hj j2 j3 j8 j9=>?_,⟨?_,?_,cI.fr f1 (hOff [26,3] (by decide) (by decide)) (by simp) (by simp),dI,eI,fI⟩,⟨?_,?_,k1,by simp[dT],fun x hx=>?_,fun i hi=>?_⟩⟩,_,f1,fun i hi=>?_,hOff⟩
    · rw[Array.getElem?_setIfInBounds_ne (by omega),Array.getElem?_setIfInBounds_ne (by omega),hno j hj j2 j3 j8 j9]
    · rw[Array.getElem?_setIfInBounds_ne (by decide),Array.getElem?_setIfInBounds_ne (by decide),aI]
    · rw[Array.getElem?_setIfInBounds_ne (by decide),Array.getElem?_setIfInBounds_ne (by decide),bI]
    · rw[Array.getElem?_setIfInBounds_ne (by decide),Array.getElem?_setIfInBounds_self_of_lt (by omega)]
    · rw[Array.getElem?_setIfInBounds_self_of_lt (by simp;omega)]
    · rcases List.mem_append.1 hx with hx | hx
      · exact eT x hx
      · rw[List.mem_singleton] at hx;subst hx;show l.length≤_;omega
    · obtain⟨x,hx,hi⟩:=hi
      rcases List.mem_append.1 hx with hx | hx
      · exact .inl (fT i ⟨x,hx,hi⟩)
      · rw[List.mem_singleton] at hx;subst hx;exact .inr hi
    · rcases hi with rfl | hi | hi
      · exact hg
      · exact (cT.row.lt i hi).1
      · exact (cT.wrow.lt i hi).1
theorem zb_.apart{w : World}{g base kI kT : Nat}{LI LT : Nat → Prop}(h : zb_ w g base kI LI kT LT)(qI : kI < 200)(qT : kT < 200) :
    Calls prog 20 #[.pointer (some ⟨g,0,none⟩)] w fun r w'=>r=.returned (.bool true)∧Fr (fun i=>base≤i) w w':=by
  obtain⟨cs,VI,UI,hI,uI,VT,UT,hT,uT,hB,hg,hw,hno,⟨aI,bI,cI,dI,eI,fI⟩,⟨aT,bT,cT,dT,eT,fT⟩⟩:=h;refine (zkb g cs base VI UI hI uI VT UT hT uT w hB hw (hno 0 (by decide) (by decide) (by decide) (by decide) (by decide)) aI bI cI (by omega) eI (hno 4 (by decide) (by decide) (by decide) (by decide) (by decide)) (hno 6 (by decide) (by decide) (by decide) (by decide) (by decide)) aT bT cT (by omega) eT (hno 10 (by decide) (by decide) (by decide) (by decide) (by decide)) (hno 12 (by decide) (by decide) (by decide) (by decide) (by decide)) (hno 14 (by decide) (by decide) (by decide) (by decide) (by decide))).mono ?_;rintro r w' ⟨e,f⟩
  exact⟨e,f.mono fun i hi=>.inl (by
    rcases hi with hi | hi<;>first | exact (cI.new i hi).1 | exact (cT.new i hi).1)⟩
end Go.Proofs.YteajonicnkpbbaaGreatDoor
