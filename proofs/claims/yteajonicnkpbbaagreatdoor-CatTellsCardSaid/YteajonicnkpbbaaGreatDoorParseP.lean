/- Walks of package policy: Parse, Read. -/
import Derived.Test.YteajonicnkpbbaaGreatDoorParseT
namespace Go.Proofs.YteajonicnkpbbaaGreatDoor
set_option linter.all false
set_option maxHeartbeats 8000000
set_option maxRecDepth 100000
open Go.RowKit Tryz
def zqg(nm:ByteArray):List zaa ⊕ Int→(ByteArray×List zaa) ⊕ Int
 | .inl l=>.inl (nm,l)
 | .inr k=>.inr k
theorem zey{x:zak}{t:List zak}:1≤(za8 (x::t)).length:=by unfold za8;simp
theorem zd2:∀ (f f':Nat) (Q:List zak) (acc:List zaa),Q.length≤f→Q.length≤f'→zbQ f Q acc=zbQ f' Q acc
 | 0,0,_,_,_,_=>rfl
 | 0,f'+1,[],_,_,_=>rfl
 | 0,f'+1,_::_,_,h,_=>by simp at h
 | f+1,0,[],_,_,_=>rfl
 | f+1,0,_::_,_,_,h=>by simp at h
 | f+1,f'+1,[],_,_,_=>rfl
 | f+1,f'+1,x::Q,acc,h,h'=>by
  have h1:=zey (x:=x) (t:=Q);unfold zbQ
  cases zd3 ((za8 (x::Q)).map zak.text) acc with
  | none=>rfl
  | some acc'=>
   simp only;simp only[List.length_cons] at h h';exact zd2 f f' _ _ (by rw[List.length_drop,List.length_cons];omega) (by rw[List.length_drop,List.length_cons];omega)
theorem zmc{L:List ByteArray}{acc acc':List zaa}(h:zd3 L acc=some acc')(h5:acc.length≤5):acc'.length≤5:=by
 unfold zd3 at h
 split at h
 ·split at h
  ·rename_i hc
   injection h with h
   subst h;simp only[Bool.and_eq_true,Bool.not_eq_true',decide_eq_false_iff_not] at hc;rw[q8_,List.length_singleton];omega
  ·cases h
 ·cases h
theorem zjt{R:List zak}{k:Nat}{x:zak}{acc:List zaa}(hx:R[k]? =some x):
  zbQ (R.length-k) (R.drop k) acc=match zd3 (zfK R k) acc with
   | none=>.inr x.line
   | some acc'=>zbQ (R.length-(k+llen R k)) (R.drop (k+llen R k)) acc':=by
 have hk:=(List.getElem?_eq_some_iff.1 hx).1;have e:R[k]=x:=(List.getElem?_eq_some_iff.1 hx).2
 have hd:R.drop k=x::R.drop (k+1):=by rw[List.drop_eq_getElem_cons hk,e]
 have hf:R.length-k=(R.length-k-1)+1:=by omega
 have hp:=zey (x:=x) (t:=R.drop (k+1));have hle:=zm6 (x::R.drop (k+1));simp only[List.length_cons,List.length_drop] at hle;unfold zfK llen;rw[hd,hf]
 show (match zd3 ((za8 (x::R.drop (k+1))).map zak.text) acc with | none=>(Sum.inr x.line:List zaa ⊕ Int) | some acc'=>zbQ (R.length-k-1) ((x::R.drop (k+1)).drop (za8 (x::R.drop (k+1))).length) acc')=_
 cases zd3 ((za8 (x::R.drop (k+1))).map zak.text) acc with
 | none=>rfl
 | some acc'=>
  simp only;rw[← hd,List.drop_drop];refine zd2 _ _ _ _ ?_ ?_
  ·rw[List.length_drop];rw[hd];omega
  ·rw[List.length_drop];omega
theorem zk8{R:List zak}{k:Nat}{acc:List zaa}(h:R.length≤k):zbQ (R.length-k) (R.drop k) acc=.inl acc:=by
 rw[show R.length-k=0 by omega]
 rfl
theorem zhH{text:ByteArray}{R:List zak}(h:zjc text=.inl R):znO R:=by
 unfold zjc at h
 split at h
 ·cases h
 rename_i hs
 have key:∀ (L:List ByteArray) (i:Nat) (acc R:List zak),(∀ p∈L,p.size≤4000)→i+L.length≤4001→(acc.length≤i*4000∧∀ x∈acc,x.text.size≤4000∧0≤x.line∧x.line≤4001)→zj4 L i acc=.inl R→R.length≤16012001∧∀ x∈R,x.text.size≤4000∧0≤x.line∧x.line≤4001:=by
  intro L
  induction L with
  | nil=>
   intro i acc R _ hi ha e
   injection e with e
   subst e;exact⟨by omega,ha.2⟩
  | cons s t ih=>
   intro i acc R hp hi ha e;simp only[List.length_cons] at hi;unfold zj4 at e
   cases hl:zdO s ((i:Int)+1) with
   | none=>rw[hl] at e;cases e
   | some l=>
    rw[hl] at e;have hsz:=hp s (by simp);refine ih (i+1) (acc++l) R (fun p h=>hp p (List.mem_cons_of_mem _ h)) (by omega) ⟨?_,fun x hx=>?_⟩ e
    ·rw[q8_]
     have:=zi1 hl;omega
    ·rcases List.mem_append.1 hx with hx | hx
     ·exact ha.2 x hx
     ·obtain⟨h1,h2⟩:=zmU hl x hx
      omega
 cases hg:zj4 (Lib.splitB bNl 0 (Lib.countB text bNl) text) 0 [] with
 | inr k=>rw[hg] at h;cases h
 | inl R'=>
  rw[hg] at h
  injection h with h
  subst h
  obtain⟨h1,h2⟩:=key _ 0 [] R' (fun p hp=>by have:=zd4 bNl _ _ p hp;omega) (by
   rw[Lib.splitB_all bNl (by decide) 0 _ _ rfl];have:=Lib.countB_le bNl (by decide) text.size text (Nat.le_refl _)
   omega) ⟨by simp,fun x hx=>by cases hx⟩ hg
  exact⟨h1,fun x hx=>by have:=h2 x hx;omega⟩
def zkX(e at_:Int)(nm:ByteArray)(l:List zaa)(lo:Nat)(r:Ending)(w':World):Prop:=
 ∃ A c,r=.returned (.tuple #[.agg #[.string nm,.slice A l.length c],.int .i64 e,.int .i64 at_])∧l.length≤c∧Rd w' 4 A l.length (zaf l)∧w'.ownsRow lo 99 4 (.slice A l.length c) l.length (zaf l)
theorem zoN{text:ByteArray}{e k:Int}(h:zjc text=.inr (e,k)):e=2∨e=22:=by
 unfold zjc at h
 split at h
 ·injection h with h
  injection h with h1 _
  exact .inl h1.symm
 ·split at h
  ·injection h with h
   injection h with h1 _
   exact .inr h1.symm
  ·cases h
/- WALKS -/
theorem zcT.fr0{w w':World}{lb wb lo k:Nat}{R:List zak}{nm:ByteArray}{l:List zaa}(h:zcT w lb wb lo k R nm l)(f:Fr (fun _=>False) w w'):zcT w' lb wb lo k R nm l:=by
 obtain⟨⟨A,c,hb,ho⟩,hw,hg⟩:=h;exact⟨⟨A,c,hb.fr f (fun h=>h),za_ ho f⟩,hw.fr0 f,hg⟩
theorem zo4{w:World}{lo n c size:Nat}{e:TypeId}{A:Option Addr}{xs:List Value}(h:w.ownsRow lo e size (.slice A n c) n xs):∀ j,adF A n j→lo≤j:=by
 rintro j ⟨h0,ad,e1,h3⟩;obtain⟨g,e2⟩:=zcH h h0;have e3:=e2;rw[e1] at e3
 cases e3
 exact (h.lt j (by rw[e2, ← h3];rfl)).1
theorem zkX.zero(e k:Int)(lo:Nat)(w':World):zkX e k ByteArray.empty [] lo (.returned (.tuple #[.agg #[.string ByteArray.empty,.slice none 0 0],.int .i64 e,.int .i64 k])) w':=
 ⟨none,0,rfl,Nat.le_refl _,Rd.nil_,World.ownsRow_nil _ _ _ _⟩
def zjP(R:List zak)(b:Nat)(wr:World):Nat:=
 match wr.cell? ⟨b,0,none⟩ with
 | some (.int _ k)=>R.length-k.toNat
 | _=>0
theorem zdG{R:List zak}{b lo k:Nat}{wr:World}(h:zbw wr b lo k R):zjP R b wr=R.length-k:=by
 obtain⟨A,c,hI⟩:=h;have c0:=hI.1.cell 0;simp only[q1_,q3_] at c0;unfold zjP;rw[c0];simp
theorem zmI(text:ByteArray)(hs:text.size≤1099511627776)(w:World)(hmx:MaxL w):
  Calls prog 125 #[.string text] w fun r w'=>zkX (zbS text).1 (zbS text).2.1 (zbS text).2.2.1 (zbS text).2.2.2 w.heap.size r w'∧Below w.heap.size w w':=by
 have RB0:Hid (Blk (w.alloc (.cells #[.string ByteArray.empty,.slice none 0 0] 25)) w.heap.size 25 #[.string ByteArray.empty,.slice none 0 0]):=Blk.new _ _ _;have F0:Hid (Fr (fun _=>False) w (w.alloc (.cells #[.string ByteArray.empty,.slice none 0 0] 25))):=Fr.none_alloc _ _;have HC:=q0_ (zpG text hs (w.alloc (.cells #[.string ByteArray.empty,.slice none 0 0] 25)) (hmx.fr F0.out (fun h=>h)))
 cases hV:zjc text with
 | inr ek=>
  obtain⟨e,k⟩:=ek
  have hP:zbS text=(e,k,ByteArray.empty,[]):=by unfold zbS;rw[hV]
  rw[hP];have he:=zoN hV
  have he0:(e != 0)=true:=by rcases he with rfl | rfl<;>rfl
  have he1:¬ e=0:=by omega
  rw[hV] at HC;clear hV hP he;go_enter func125,ntmps125;go_wp2_with fail;refine HC.out.mono ?_;rintro r w1 ⟨h1,b1⟩;obtain rfl:=h1;have RB:=q0_ (RB0.out.below b1);have F1:=q0_ (F0.out.trans (Fr.b0 b1) q4_);clear b1;have y0:=RB.out.cell 0;have y1:=RB.out.cell 1;have z0:=RB.out.frozen 0;have z1:=RB.out.frozen 1;simp only[q1_,q2_,q3_] at y0 y1;go_wp2;refine bodyPost_ret (v:=.tuple #[.agg #[.string ByteArray.empty,.slice none 0 0],.int .i64 e,.int .i64 k]) ?_ rfl ⟨zkX.zero _ _ _ _,?_⟩
  ·simp[results,results125,go_sem, *]
   first | done | rfl
  ·exact (F1.out.below q4_).trans ((((Fr.refl (fun j=>j=w.heap.size) w1).setCell (p:=⟨w.heap.size,0,none⟩) (.inl rfl) _).setCell (p:=⟨w.heap.size,1,none⟩) (.inl rfl) _).below_of F1.out.size (fun j hj=>by omega))
 | inl R=>
  have hWS:=zhH hV
  have HPV:Hid (zbS text=match zcY R with | .inr k=>(22,k,ByteArray.empty,[]) | .inl (nm,l)=>(0,0,nm,l)):=by show _=_;unfold zbS;rw[hV];rfl
  rw[hV] at HC;clear hV;go_enter func125,ntmps125;go_wp2_with fail;refine HC.out.mono ?_;rintro r w1 ⟨⟨b,rfl,hws,hRl⟩,b1⟩;have RB1:=q0_ (RB0.out.below b1);have F1:=q0_ (F0.out.trans (Fr.b0 b1) q4_)
  obtain⟨lo,hlo⟩:∃ lo,(w.alloc (.cells #[.string ByteArray.empty,.slice none 0 0] 25)).heap.size=lo:=⟨_,rfl⟩
  have hlo2:lo=w.heap.size+1:=by rw[← hlo];simp
  rw[hlo] at hws b1
  have hl1:lo≤w1.heap.size:=by rw[← hlo];exact b1.size
  have Hws:=q0_ hws;clear b1 hws HC hlo;go_wp2_with fail
  obtain⟨W2,hW2⟩:∃ W2,W2=w1.alloc (.cells #[.pointer (some ⟨b,0,none⟩),.string {data:=#[]},.slice none 0 0] 238):=⟨_,rfl⟩
  have hb2:Blk W2 w1.heap.size 238 #[.pointer (some ⟨b,0,none⟩),.string ByteArray.empty,.slice none 0 0]:=by rw[hW2];exact Blk.new _ _ _
  have hf2:Fr (fun _=>False) w1 W2:=by rw[hW2];exact Fr.none_alloc _ _
  obtain⟨lb,hlb⟩:∃ lb,w1.heap.size=lb:=⟨_,rfl⟩
  rw[hlb] at hb2 hl1 ⊢
  have hL2:zcT W2 lb b lo 0 R ByteArray.empty []:=⟨⟨none,0,hb2,World.ownsRow_nil _ _ _ _⟩,Hws.out.fr0 hf2,hl1⟩
  have HL2:=q0_ hL2;have RB2:=q0_ (RB1.out.fr hf2 (fun h=>h));have BL2:=q0_ ((F1.out.trans hf2 q4_).below q4_)
  have hblo:lo≤b:=by obtain⟨_,_,hI⟩:=Hws.out;exact hI.2.2.1
  rw[← hW2];clear hW2 hf2 hb2 hlb hL2 Hws
  go_loopw [9] (fun p wr=>∃ (fs:Bool) (k:Nat) (nm:ByteArray) (l:List zaa),p=.bool fs∧zcT wr lb b lo k R nm l∧Hid (l.length≤5)∧Hid (fs=true→k=0∧nm=ByteArray.empty∧l=[])∧Hid (fs=false→zcY R=zqg nm (zbQ (R.length-k) (R.drop k) l))∧Blk wr w.heap.size 25 #[.string ByteArray.empty,.slice none 0 0]∧Below w.heap.size w wr) (fun _ wr=>zjP R b wr)
  case atStart=>exact⟨true,0,ByteArray.empty,[],rfl,HL2.out,(by show _≤_;simp),(fun _=>⟨rfl,rfl,rfl⟩),(fun h=>by cases h),RB2.out,BL2.out⟩
  case round=>
   obtain⟨fs,k,nm,l,rfl,hl,hl5,hfs,hnf,hrb,hbel⟩:=hrel;have HL:=q0_ hl;have HRb:=q0_ hrb;have HBel:=q0_ hbel
   have hkR:k≤R.length:=by obtain⟨_,_,hI⟩:=hl.words;exact hI.2.2.2
   clear hl hrb hbel
   cases fs with
   | true=>
    obtain⟨rfl,rfl,rfl⟩:=hfs.out rfl;have HL23:Hid (Fr (fun _=>False) wr wr):=Fr.refl _ _
    cases hx:R[0]? with
    | none=>
     have HPk:=q0_ (zer b lo 0 R wr HL.out.words);rw[show zcq R 0=(⟨ByteArray.empty,0,0⟩,false) by unfold zcq;rw[hx]] at HPk
     have hR0:R=[]:=by
      cases R with
      | nil=>rfl
      | cons a t=>simp at hx
     have HPG:Hid (zcY R=.inr 1):=by show _=_;rw[hR0];rfl
     have hHW:zfu (zfK R 0)=none:=by rw[hR0];rfl
     unfold zak.val at HPk;clear hx
     have l0:wr.cell? ⟨lb,0,none⟩=some (.pointer (some ⟨b,0,none⟩)):=by
      obtain⟨⟨A,c,hb,_⟩,_,_⟩:=HL.out;exact hb.cell 0
     go_wp2_with fail;refine (HPk.out).mono ?_;rintro r w3 ⟨rfl,b3⟩;have F3:=q0_ (HL23.out.trans (Fr.b0 b3) q4_);have X3:Hid (Blk (w3.alloc (.cells #[.string ByteArray.empty,.int .i64 0,.int .i64 0] 206)) w3.heap.size 206 #[.string ByteArray.empty,.int .i64 0,.int .i64 0]):=Blk.new _ _ _;have x1:=X3.out.cell 1;simp only[q1_,q2_,q3_] at x1;have F4:Hid (Fr (fun _=>False) wr (w3.alloc (.cells #[.string ByteArray.empty,.int .i64 0,.int .i64 0] 206))):=F3.out.trans (Fr.none_alloc _ _) q4_;have L4:=q0_ (HL.out.fr0 F4.out);have B4:Hid (Below w.heap.size w (w3.alloc (.cells #[.string ByteArray.empty,.int .i64 0,.int .i64 0] 206))):=HBel.out.trans (F4.out.below_of (by have:=HRb.out.lt;omega) q4_);clear b3;go_wp2_with fail;have HHd:=q0_ (zf4 lb b lo 0 R ByteArray.empty [] _ L4.out hWS);rw[hHW] at HHd;refine HHd.out.mono ?_;rintro r W5 ⟨rfl,f5⟩;have FRM:Hid (Fr (fun j=>j=b∨j=lb) wr W5):=(F4.out.mono q4_).trans f5 (fun j hj=>.inl hj);have BELW:Below w.heap.size w W5:=HBel.out.trans (FRM.out.below_of (by have:=HRb.out.lt;omega) (fun j hj=>by omega));have RB:=q0_ (HRb.out.fr FRM.out (fun h=>by omega));have y0:=RB.out.cell 0;have y1:=RB.out.cell 1;have z0:=RB.out.frozen 0;have z1:=RB.out.frozen 1;simp only[q1_,q2_,q3_] at y0 y1;go_wp2;refine bodyPost_ret (v:=.tuple #[.agg #[.string ByteArray.empty,.slice none 0 0],.int .i64 22,.int .i64 1]) ?_ rfl ⟨?_,?_⟩
     ·simp[results,results125,go_sem, *]
      first | done | rfl
     ·rw[show zbS text=(22,1,ByteArray.empty,[]) by rw[HPV.out,HPG.out]]
      exact zkX.zero _ _ _ _
     ·exact BELW.trans ((((Fr.refl (fun j=>j=w.heap.size) W5).setCell (p:=⟨w.heap.size,0,none⟩) (.inl rfl) _).setCell (p:=⟨w.heap.size,1,none⟩) (.inl rfl) _).below_of (by have:=RB.out.lt;omega) (fun j hj=>by omega))
    | some x=>
     have HPk:=q0_ (zer b lo 0 R wr HL.out.words);rw[zeX hx] at HPk
     have hRx:∃ t,R=x::t:=by
      cases R with
      | nil=>simp at hx
      | cons a t=>simp at hx;exact⟨t,by rw[hx]⟩
     have HRx:=q0_ hRx;unfold zak.val at HPk;clear hx hRx
     cases hHW:zfu (zfK R 0) with
     | none=>
      have HPG:Hid (zcY R=.inr x.line):=by
       obtain⟨t,rfl⟩:=HRx.out
       show (match zfu (zfK (x::t) 0) with | none=>(Sum.inr x.line:(ByteArray×List zaa) ⊕ Int) | some nm=>_)=_
       rw[hHW]
      have l0:wr.cell? ⟨lb,0,none⟩=some (.pointer (some ⟨b,0,none⟩)):=by
       obtain⟨⟨A,c,hb,_⟩,_,_⟩:=HL.out;exact hb.cell 0
      go_wp2_with fail;refine (HPk.out).mono ?_;rintro r w3 ⟨rfl,b3⟩;have F3:=q0_ (HL23.out.trans (Fr.b0 b3) q4_);have X3:Hid (Blk (w3.alloc (.cells #[.string x.text,.int .i64 x.line,.int .i64 x.col] 206)) w3.heap.size 206 #[.string x.text,.int .i64 x.line,.int .i64 x.col]):=Blk.new _ _ _;have x1:=X3.out.cell 1;simp only[q1_,q2_,q3_] at x1;have F4:Hid (Fr (fun _=>False) wr (w3.alloc (.cells #[.string x.text,.int .i64 x.line,.int .i64 x.col] 206))):=F3.out.trans (Fr.none_alloc _ _) q4_;have L4:=q0_ (HL.out.fr0 F4.out);have B4:Hid (Below w.heap.size w (w3.alloc (.cells #[.string x.text,.int .i64 x.line,.int .i64 x.col] 206))):=HBel.out.trans (F4.out.below_of (by have:=HRb.out.lt;omega) q4_);clear b3;go_wp2_with fail;have HHd:=q0_ (zf4 lb b lo 0 R ByteArray.empty [] _ L4.out hWS);rw[hHW] at HHd;refine HHd.out.mono ?_;rintro r W5 ⟨rfl,f5⟩;have FRM:Hid (Fr (fun j=>j=b∨j=lb) wr W5):=(F4.out.mono q4_).trans f5 (fun j hj=>.inl hj);have BELW:Below w.heap.size w W5:=HBel.out.trans (FRM.out.below_of (by have:=HRb.out.lt;omega) (fun j hj=>by omega));have RB:=q0_ (HRb.out.fr FRM.out (fun h=>by omega));have y0:=RB.out.cell 0;have y1:=RB.out.cell 1;have z0:=RB.out.frozen 0;have z1:=RB.out.frozen 1;simp only[q1_,q2_,q3_] at y0 y1;go_wp2;refine bodyPost_ret (v:=.tuple #[.agg #[.string ByteArray.empty,.slice none 0 0],.int .i64 22,.int .i64 x.line]) ?_ rfl ⟨?_,?_⟩
      ·simp[results,results125,go_sem, *]
       first | done | rfl
      ·rw[show zbS text=(22,x.line,ByteArray.empty,[]) by rw[HPV.out,HPG.out]]
       exact zkX.zero _ _ _ _
      ·exact BELW.trans ((((Fr.refl (fun j=>j=w.heap.size) W5).setCell (p:=⟨w.heap.size,0,none⟩) (.inl rfl) _).setCell (p:=⟨w.heap.size,1,none⟩) (.inl rfl) _).below_of (by have:=RB.out.lt;omega) (fun j hj=>by omega))
     | some nm'=>
      have HPG:Hid (zcY R=zqg nm' (zbQ (R.length-(0+llen R 0)) (R.drop (0+llen R 0)) [])):=by
       show (match zfu (zfK R 0) with | none=>(Sum.inr _:(ByteArray×List zaa) ⊕ Int) | some nm=>match zbQ R.length (R.drop (za8 R).length) [] with | .inl l=>.inl (nm,l) | .inr k=>.inr k)=_
       rw[hHW,Nat.zero_add];have e:=zd2 R.length (R.length-llen R 0) (R.drop (za8 R).length) [] (by rw[List.length_drop];omega) (by rw[List.length_drop];exact Nat.le_refl _);simp only;rw[e]
       show _=zqg nm' (zbQ (R.length-llen R 0) (R.drop (za8 R).length) [])
       cases zbQ (R.length-llen R 0) (R.drop (za8 R).length) []<;>rfl
      have hlp:1≤llen R 0:=by
       obtain⟨t,rfl⟩:=HRx.out;exact zey
      have l0:wr.cell? ⟨lb,0,none⟩=some (.pointer (some ⟨b,0,none⟩)):=by
       obtain⟨⟨A,c,hb,_⟩,_,_⟩:=HL.out;exact hb.cell 0
      go_wp2_with fail;refine (HPk.out).mono ?_;rintro r w3 ⟨rfl,b3⟩;have F3:=q0_ (HL23.out.trans (Fr.b0 b3) q4_);have X3:Hid (Blk (w3.alloc (.cells #[.string x.text,.int .i64 x.line,.int .i64 x.col] 206)) w3.heap.size 206 #[.string x.text,.int .i64 x.line,.int .i64 x.col]):=Blk.new _ _ _;have x1:=X3.out.cell 1;simp only[q1_,q2_,q3_] at x1;have F4:Hid (Fr (fun _=>False) wr (w3.alloc (.cells #[.string x.text,.int .i64 x.line,.int .i64 x.col] 206))):=F3.out.trans (Fr.none_alloc _ _) q4_;have L4:=q0_ (HL.out.fr0 F4.out);have B4:Hid (Below w.heap.size w (w3.alloc (.cells #[.string x.text,.int .i64 x.line,.int .i64 x.col] 206))):=HBel.out.trans (F4.out.below_of (by have:=HRb.out.lt;omega) q4_);clear b3;go_wp2_with fail;have HHd:=q0_ (zf4 lb b lo 0 R ByteArray.empty [] _ L4.out hWS);rw[hHW] at HHd;refine HHd.out.mono ?_;rintro r W5 ⟨⟨rfl,hl5'⟩,f5⟩;have FRM:Hid (Fr (fun j=>j=b∨j=lb) wr W5):=(F4.out.mono q4_).trans f5 (fun j hj=>.inl hj);have BELW:Below w.heap.size w W5:=HBel.out.trans (FRM.out.below_of (by have:=HRb.out.lt;omega) (fun j hj=>by omega));have HL5:=q0_ hl5';clear hl5' f5;go_wp2
      go_roundw
      case rel=>exact⟨false,0+llen R 0,nm',[],rfl,HL5.out,(by show _≤_;simp),(fun h=>by cases h),(fun _=>HPG.out),HRb.out.fr FRM.out (fun h=>by omega),BELW⟩
      case measure=>
       rw[zdG HL5.out.words,zdG HL.out.words];obtain⟨t,ht⟩:=HRx.out
       have:0<R.length:=by rw[ht];simp
       omega
   | false=>
    have HLen:=q0_ (zkj b lo k R wr HL.out.words)
    obtain⟨v,hv⟩:∃ v,(R.length:Int)-(k:Int)=v:=⟨_,rfl⟩
    rw[hv] at HLen
    cases hx:R[k]? with
    | none=>
     have hle:R.length≤k:=List.getElem?_eq_none_iff.1 hx
     have hv0:¬ (0:Int)<v:=by omega
     have hv1:decide ((0:Int)<v)=false:=q9_ hv0
     have HPG:Hid (zcY R=.inl (nm,l)):=by show _=_;rw[hnf.out rfl,zk8 hle];rfl
     have l0:wr.cell? ⟨lb,0,none⟩=some (.pointer (some ⟨b,0,none⟩)):=by
      obtain⟨⟨A,c,hb,_⟩,_,_⟩:=HL.out;exact hb.cell 0
     clear hx hv hle;go_wp2_with fail;refine HLen.out.mono ?_;rintro r w2 ⟨rfl,b2⟩;have F2:=q0_ (Fr.b0 b2);obtain⟨⟨A,c,hb,ho⟩,_,_⟩:=HL.out.fr0 F2.out
     obtain⟨m,hm⟩:∃ m,l.length=m:=⟨_,rfl⟩
     rw[hm] at hb ho;have e1:=hb.cell 1;have e2:=hb.cell 2;have HO:=q0_ ho;have Hm:=q0_ hm;have RB:=q0_ (HRb.out.fr F2.out (fun h=>h));have y0:=RB.out.cell 0;have y1:=RB.out.cell 1;have z0:=RB.out.frozen 0;have z1:=RB.out.frozen 1;simp only[q1_,q2_,q3_] at y0 y1 e1 e2;have BELW:Below w.heap.size w w2:=HBel.out.trans (F2.out.below_of (by have:=HRb.out.lt;omega) q4_);clear b2 hb ho hm;go_wp2;refine bodyPost_ret (v:=.tuple #[.agg #[.string nm,.slice A m c],.int .i64 0,.int .i64 0]) ?_ rfl ⟨?_,?_⟩
     ·simp[results,results125,go_sem, *]
     ·rw[show zbS text=(0,0,nm,l) by rw[HPV.out,HPG.out]]
      refine⟨A,c,by rw[Hm.out],?_,?_,?_⟩
      ·rw[Hm.out]
       obtain⟨_,_,e0,h1,_⟩:=zam HO.out
       cases e0
       exact h1
      ·rw[Hm.out]
       exact (Rd.of_own HO.out).fr (((Fr.refl (fun j=>j=w.heap.size) w2).setCell (p:=⟨w.heap.size,0,none⟩) (.inl rfl) _).setCell (p:=⟨w.heap.size,1,none⟩) (.inl rfl) _) (fun j hj e=>by have:=zo4 HO.out j (by rw[← Hm.out];rw[Hm.out];exact hj);omega)
      ·rw[Hm.out]
       exact zaL (zad HO.out (((Fr.refl (fun j=>j=w.heap.size) w2).setCell (p:=⟨w.heap.size,0,none⟩) (.inl rfl) _).setCell (p:=⟨w.heap.size,1,none⟩) (.inl rfl) _) (fun j hj e=>by have:=(HO.out.lt j hj).1;omega)) (by omega)
     ·exact BELW.trans ((((Fr.refl (fun j=>j=w.heap.size) w2).setCell (p:=⟨w.heap.size,0,none⟩) (.inl rfl) _).setCell (p:=⟨w.heap.size,1,none⟩) (.inl rfl) _).below_of (by have:=RB.out.lt;omega) (fun j hj=>by omega))
    | some x=>
     have hlt:k<R.length:=(List.getElem?_eq_some_iff.1 hx).1
     have hv0:(0:Int)<v:=by omega
     have hv1:decide ((0:Int)<v)=true:=qa_ hv0;have hstep:=zjt (acc:=l) hx;have hpar:=hnf.out rfl;rw[hstep] at hpar
     have HPeek:Hid (∀ W,Fr (fun _=>False) wr W→Calls prog 176 #[.pointer (some ⟨b,0,none⟩)] W fun r w'=>r=.returned (.tuple #[.agg #[.string x.text,.int .i64 x.line,.int .i64 x.col],.bool true])∧Below W.heap.size W w'):=fun W f=>by
      have:=zer b lo k R W (HL.out.words.fr0 f);rw[zeX hx] at this;exact this
     have hlp:1≤llen R k:=by
      unfold llen;have hk2:R.drop k=R[k]::R.drop (k+1):=List.drop_eq_getElem_cons hlt;rw[hk2];exact zey
     cases hTW:zd3 (zfK R k) l with
     | none=>
      have HPG:Hid (zcY R=.inr x.line):=by show _=_;rw[hpar,hTW];rfl
      clear hx hv hstep hpar
      have l0:wr.cell? ⟨lb,0,none⟩=some (.pointer (some ⟨b,0,none⟩)):=by
       obtain⟨⟨A,c,hb,_⟩,_,_⟩:=HL.out;exact hb.cell 0
      go_wp2_with fail;refine HLen.out.mono ?_;rintro r w2 ⟨rfl,b2⟩;have HL23:=q0_ (Fr.b0 b2);have HPk:=q0_ (HPeek.out w2 HL23.out);have l0:w2.cell? ⟨lb,0,none⟩=some (.pointer (some ⟨b,0,none⟩)):=HL23.out.cell l0 (fun h=>h);clear b2;go_wp2_with fail;refine (HPk.out).mono ?_;rintro r w3 ⟨rfl,b3⟩;have F3:=q0_ (HL23.out.trans (Fr.b0 b3) q4_);have X3:Hid (Blk (w3.alloc (.cells #[.string x.text,.int .i64 x.line,.int .i64 x.col] 206)) w3.heap.size 206 #[.string x.text,.int .i64 x.line,.int .i64 x.col]):=Blk.new _ _ _;have x1:=X3.out.cell 1;simp only[q1_,q2_,q3_] at x1;have F4:Hid (Fr (fun _=>False) wr (w3.alloc (.cells #[.string x.text,.int .i64 x.line,.int .i64 x.col] 206))):=F3.out.trans (Fr.none_alloc _ _) q4_;have L4:=q0_ (HL.out.fr0 F4.out);have B4:Hid (Below w.heap.size w (w3.alloc (.cells #[.string x.text,.int .i64 x.line,.int .i64 x.col] 206))):=HBel.out.trans (F4.out.below_of (by have:=HRb.out.lt;omega) q4_);clear b3;go_wp2_with fail;have HTi:=q0_ (ziS lb b lo k R nm l _ L4.out hWS hl5.out);rw[hTW] at HTi;refine HTi.out.mono ?_;rintro r W5 ⟨h5,f5⟩;obtain rfl:=h5;have FRM:Hid (Fr (fun j=>lo≤j) wr W5):=(F4.out.mono q4_).trans f5 (fun j hj=>.inl hj);have BELW:Below w.heap.size w W5:=HBel.out.trans (FRM.out.below_of (by have:=HRb.out.lt;omega) (fun j hj=>by omega));have RB:=q0_ (HRb.out.fr FRM.out (fun h=>by omega));have y0:=RB.out.cell 0;have y1:=RB.out.cell 1;have z0:=RB.out.frozen 0;have z1:=RB.out.frozen 1;simp only[q1_,q2_,q3_] at y0 y1;go_wp2;refine bodyPost_ret (v:=.tuple #[.agg #[.string ByteArray.empty,.slice none 0 0],.int .i64 22,.int .i64 x.line]) ?_ rfl ⟨?_,?_⟩
      ·simp[results,results125,go_sem, *]
       first | done | rfl
      ·rw[show zbS text=(22,x.line,ByteArray.empty,[]) by rw[HPV.out,HPG.out]]
       exact zkX.zero _ _ _ _
      ·exact BELW.trans ((((Fr.refl (fun j=>j=w.heap.size) W5).setCell (p:=⟨w.heap.size,0,none⟩) (.inl rfl) _).setCell (p:=⟨w.heap.size,1,none⟩) (.inl rfl) _).below_of (by have:=RB.out.lt;omega) (fun j hj=>by omega))
     | some l'=>
      have HPG:Hid (zcY R=zqg nm (zbQ (R.length-(k+llen R k)) (R.drop (k+llen R k)) l')):=by show _=_;rw[hpar,hTW]
      have hl5':=zmc hTW hl5.out;clear hx hv hstep hpar
      have l0:wr.cell? ⟨lb,0,none⟩=some (.pointer (some ⟨b,0,none⟩)):=by
       obtain⟨⟨A,c,hb,_⟩,_,_⟩:=HL.out;exact hb.cell 0
      go_wp2_with fail;refine HLen.out.mono ?_;rintro r w2 ⟨rfl,b2⟩;have HL23:=q0_ (Fr.b0 b2);have HPk:=q0_ (HPeek.out w2 HL23.out);have l0:w2.cell? ⟨lb,0,none⟩=some (.pointer (some ⟨b,0,none⟩)):=HL23.out.cell l0 (fun h=>h);clear b2;go_wp2_with fail;refine (HPk.out).mono ?_;rintro r w3 ⟨rfl,b3⟩;have F3:=q0_ (HL23.out.trans (Fr.b0 b3) q4_);have X3:Hid (Blk (w3.alloc (.cells #[.string x.text,.int .i64 x.line,.int .i64 x.col] 206)) w3.heap.size 206 #[.string x.text,.int .i64 x.line,.int .i64 x.col]):=Blk.new _ _ _;have x1:=X3.out.cell 1;simp only[q1_,q2_,q3_] at x1;have F4:Hid (Fr (fun _=>False) wr (w3.alloc (.cells #[.string x.text,.int .i64 x.line,.int .i64 x.col] 206))):=F3.out.trans (Fr.none_alloc _ _) q4_;have L4:=q0_ (HL.out.fr0 F4.out);have B4:Hid (Below w.heap.size w (w3.alloc (.cells #[.string x.text,.int .i64 x.line,.int .i64 x.col] 206))):=HBel.out.trans (F4.out.below_of (by have:=HRb.out.lt;omega) q4_);clear b3;go_wp2_with fail;have HTi:=q0_ (ziS lb b lo k R nm l _ L4.out hWS hl5.out);rw[hTW] at HTi;refine HTi.out.mono ?_;rintro r W5 ⟨⟨h5,hL5⟩,f5⟩;obtain rfl:=h5;have FRM:Hid (Fr (fun j=>lo≤j) wr W5):=(F4.out.mono q4_).trans f5 (fun j hj=>.inl hj);have BELW:Below w.heap.size w W5:=HBel.out.trans (FRM.out.below_of (by have:=HRb.out.lt;omega) (fun j hj=>by omega));have HL5:=q0_ hL5;clear hL5 f5;go_wp2
      go_roundw
      case rel=>exact⟨false,k+llen R k,nm,l',rfl,HL5.out,hl5',(fun h=>by cases h),(fun _=>HPG.out),HRb.out.fr FRM.out (fun h=>by omega),BELW⟩
      case measure=>
       rw[zdG HL5.out.words,zdG HL.out.words];omega
def zoW(V:Int×ByteArray×List zaa)(lo:Nat)(r:Ending)(w':World):Prop:=∃ k,zkX V.1 k V.2.1 V.2.2 lo r w'
theorem zhy{Q:List zak}{x:zak}(h:x∈za8 Q):x∈Q:=by
 have:=zie (R:=Q) (k:=0) (x:=x) h;exact this
theorem zfb{N:Nat}:∀ (f:Nat) (Q:List zak) (acc l:List zaa),(∀ x∈Q,x.text.size≤N)→(∀ t∈acc,t.name.size≤N)→zbQ f Q acc=.inl l→∀ t∈l,t.name.size≤N
 | 0,_,acc,l,_,ha,h=>by
  injection h with h
  subst h;exact ha
 | f+1,[],acc,l,_,ha,h=>by
  injection h with h
  subst h;exact ha
 | f+1,x::Q,acc,l,hq,ha,h=>by
  unfold zbQ at h
  cases ht:zd3 ((za8 (x::Q)).map zak.text) acc with
  | none=>rw[ht] at h;cases h
  | some acc'=>
   rw[ht] at h;refine zfb f _ acc' l (fun y hy=>hq y (List.mem_of_mem_drop hy)) (fun t hta=>?_) h;unfold zd3 at ht
   split at ht
   ·rename_i hL
    split at ht
    ·injection ht with ht
     subst ht
     rcases List.mem_append.1 hta with hta | hta
     ·exact ha t hta
     ·rw[List.mem_singleton] at hta
      subst hta
      have hm:∀ z∈(za8 (x::Q)).map zak.text,z.size≤N:=fun z hz=>by
       obtain⟨y,hy,rfl⟩:=List.mem_map.1 hz;exact hq y (zhy hy)
      rw[hL] at hm;exact hm _ (by simp)
    ·cases ht
   ·cases ht
theorem zjJ(text:ByteArray):(zbS text).2.2.1.size≤maxLen∧∀ t∈(zbS text).2.2.2,t.name.size≤maxLen:=by
 unfold zbS
 cases hV:zjc text with
 | inr ek=>
  obtain⟨e,k⟩:=ek;exact⟨by simp,fun t h=>by cases h⟩
 | inl R=>
  have hW:=zhH hV;simp only
  cases hP:zcY R with
  | inr k=>exact⟨by simp,fun t h=>by cases h⟩
  | inl p=>
   obtain⟨nm,l⟩:=p;simp only;unfold zcY at hP
   cases hh:zfu ((za8 R).map zak.text) with
   | none=>rw[hh] at hP;cases hP
   | some nm'=>
    rw[hh] at hP;simp only at hP
    cases ht:zbQ R.length (R.drop (za8 R).length) [] with
    | inr k=>rw[ht] at hP;cases hP
    | inl l'=>
     rw[ht] at hP
     injection hP with hP
     injection hP with h1 h2
     subst h1 h2;refine⟨?_,fun t hta=>?_⟩
     ·unfold zfu at hh
      split at hh
      ·rename_i hL
       split at hh
       ·injection hh with hh
        subst hh
        have hm:∀ z∈(za8 R).map zak.text,z.size≤4000:=fun z hz=>by
         obtain⟨y,hy,rfl⟩:=List.mem_map.1 hz;exact (hW.2 y (zhy hy)).1
        rw[hL] at hm;exact Nat.le_trans (hm _ (List.mem_cons_of_mem _ (List.mem_cons_self ..))) (by unfold maxLen;omega)
       ·cases hh
      ·cases hh
     ·have:=zfb (N:=4000) _ _ _ _ (fun x hx=>(hW.2 x (List.mem_of_mem_drop hx)).1) (fun t h=>by cases h) ht t hta
      exact Nat.le_trans this (by unfold maxLen;omega)
theorem zh1(text:ByteArray)(hs:text.size≤1099511627776)(w:World)(hmx:MaxL w):
  Calls prog 53 #[.string text] w fun r w'=>zoW (zaT text) w.heap.size r w'∧Below w.heap.size w w':=by
 have RB0:Hid (Blk (w.alloc (.cells #[.string ByteArray.empty,.slice none 0 0] 25)) w.heap.size 25 #[.string ByteArray.empty,.slice none 0 0]):=Blk.new _ _ _;have F0:Hid (Fr (fun _=>False) w (w.alloc (.cells #[.string ByteArray.empty,.slice none 0 0] 25))):=Fr.none_alloc _ _;have HP:=q0_ (zmI text hs (w.alloc (.cells #[.string ByteArray.empty,.slice none 0 0] 25)) (hmx.fr F0.out (fun h=>h)));have HSz:=q0_ (zjJ text)
 have hsz0:(w.alloc (.cells #[.string ByteArray.empty,.slice none 0 0] 25)).heap.size=w.heap.size+1:=by simp
 have HRV:Hid (zaT text=match zbS text with | (e,_,nm,l)=>if e=0 then (if zal nm l then (0,nm,l) else (23,ByteArray.empty,[])) else (e,ByteArray.empty,[])):=rfl
 obtain⟨⟨e,at_,nm,l⟩,hV⟩:∃ v,zbS text=v:=⟨_,rfl⟩
 rw[hV] at HP HSz HRV;clear hV;unfold zkX at HP;dsimp only at HP
 obtain⟨n,hn⟩:∃ n,l.length=n:=⟨_,rfl⟩
 have HN:=q0_ hn
 by_cases he:e=0
 ·subst he
  rw[hn] at HP;go_enter func53,ntmps53;go_wp2_with fail;refine HP.out.mono ?_;rintro r w1 ⟨⟨A,c,rfl,hnc,hrd,had⟩,b1⟩;have RB1:=q0_ (RB0.out.below b1);have F1:=q0_ (F0.out.trans (Fr.b0 b1) q4_)
  have hw1:w.heap.size+1≤w1.heap.size:=by have:=b1.size;omega
  have Hrd:=q0_ hrd;have Had:=q0_ had;clear b1 hrd had;have X2:Hid (Blk (w1.alloc (.cells #[.string nm,.slice A n c] 25)) w1.heap.size 25 #[.string nm,.slice A n c]):=Blk.new _ _ _;have F2:Hid (Fr (fun _=>False) w1 (w1.alloc (.cells #[.string nm,.slice A n c] 25))):=Fr.none_alloc _ _;have HCk:=q0_ (zeD nm HSz.out.1 l A n c (w1.alloc (.cells #[.string nm,.slice A n c] 25)) (Hrd.out.fr0 F2.out) hnc HSz.out.2);unfold zdw at HCk;have x0:=X2.out.cell 0;have x1:=X2.out.cell 1;simp only[q1_,q2_,q3_] at x0 x1
  cases hck:zal nm l
  ·rw[hck] at HCk
   have hV:Hid (zaT text=(23,ByteArray.empty,[])):=by show _=_;rw[HRV.out];simp[hck]
   clear hck;go_wp2_with fail;refine HCk.out.mono ?_;rintro r w3 ⟨⟨kk,rfl⟩,b3⟩;have RB3:=q0_ ((RB1.out.fr F2.out (fun h=>h)).below b3);have BEL:Hid (Below w.heap.size w w3):=((F1.out.trans F2.out q4_).trans (Fr.b0 b3) q4_).below q4_;have y0:=RB3.out.cell 0;have yz0:=RB3.out.frozen 0;have y1:=RB3.out.cell 1;have yz1:=RB3.out.frozen 1;simp only[q1_,q2_,q3_] at y0 y1;clear b3 x0 x1;unfold zeg;go_wp2;refine bodyPost_ret (v:=.tuple #[.agg #[.string ByteArray.empty,.slice none 0 0],.int .i64 23,.int .i64 kk]) ?_ rfl ⟨?_,?_⟩
   ·simp[results,results53,go_sem, *]
    first | done | rfl
   ·rw[hV.out]
    exact⟨kk,zkX.zero _ _ _ _⟩
   ·exact BEL.out.trans ((((Fr.refl (fun j=>j=w.heap.size) w3).setCell (p:=⟨w.heap.size,0,none⟩) (.inl rfl) _).setCell (p:=⟨w.heap.size,1,none⟩) (.inl rfl) _).below_of (by have:=RB3.out.lt;omega) (fun j hj=>by omega))
  ·rw[hck] at HCk
   have hV:Hid (zaT text=(0,nm,l)):=by show _=_;rw[HRV.out];simp[hck]
   clear hck;go_wp2_with fail;refine HCk.out.mono ?_;rintro r w3 ⟨⟨kk,rfl⟩,b3⟩;have RB3:=q0_ ((RB1.out.fr F2.out (fun h=>h)).below b3);have F3:=q0_ (F2.out.trans (Fr.b0 b3) q4_);have BEL:Hid (Below w.heap.size w w3):=((F1.out.trans F2.out q4_).trans (Fr.b0 b3) q4_).below q4_;have X3:=q0_ (X2.out.below b3);clear x0 x1;have x0:=X3.out.cell 0;have x1:=X3.out.cell 1;have y0:=RB3.out.cell 0;have yz0:=RB3.out.frozen 0;have y1:=RB3.out.cell 1;have yz1:=RB3.out.frozen 1;simp only[q1_,q2_,q3_] at y0 y1 x0 x1;clear b3;unfold zeg;go_wp2;refine bodyPost_ret (v:=.tuple #[.agg #[.string nm,.slice A n c],.int .i64 0,.int .i64 0]) ?_ rfl ⟨?_,?_⟩
   ·simp[results,results53,go_sem, *]
   ·rw[hV.out]
    refine⟨0,A,c,by rw[HN.out],by rw[HN.out];exact hnc,?_,?_⟩
    ·rw[HN.out]
     exact (Hrd.out.fr0 F3.out).fr (((Fr.refl (fun j=>j=w.heap.size) w3).setCell (p:=⟨w.heap.size,0,none⟩) (.inl rfl) _).setCell (p:=⟨w.heap.size,1,none⟩) (.inl rfl) _) (fun j hj e=>by have:=zo4 Had.out j hj;omega)
    ·rw[HN.out]
     exact zaL (zad (za_ Had.out F3.out) (((Fr.refl (fun j=>j=w.heap.size) w3).setCell (p:=⟨w.heap.size,0,none⟩) (.inl rfl) _).setCell (p:=⟨w.heap.size,1,none⟩) (.inl rfl) _) (fun j hj e=>by have:=(Had.out.lt j hj).1;omega)) (by omega)
   ·exact BEL.out.trans ((((Fr.refl (fun j=>j=w.heap.size) w3).setCell (p:=⟨w.heap.size,0,none⟩) (.inl rfl) _).setCell (p:=⟨w.heap.size,1,none⟩) (.inl rfl) _).below_of (by have:=RB3.out.lt;omega) (fun j hj=>by omega))
 ·have he0:(e != 0)=true:=by simpa using he
  have hV:Hid (zaT text=(e,ByteArray.empty,[])):=by show _=_;rw[HRV.out];simp[he]
  rw[hn] at HP;go_enter func53,ntmps53;go_wp2_with fail;refine HP.out.mono ?_;rintro r w1 ⟨⟨A,c,rfl,hnc,hrd,had⟩,b1⟩;have RB1:=q0_ (RB0.out.below b1);have F1:=q0_ (F0.out.trans (Fr.b0 b1) q4_);have F2:Hid (Fr (fun _=>False) w1 (w1.alloc (.cells #[.string nm,.slice A n c] 25))):=Fr.none_alloc _ _;have RB3:=q0_ (RB1.out.fr F2.out (fun h=>h));have BEL:Hid (Below w.heap.size w (w1.alloc (.cells #[.string nm,.slice A n c] 25))):=(F1.out.trans F2.out q4_).below q4_;clear b1 hrd had;have y0:=RB3.out.cell 0;have yz0:=RB3.out.frozen 0;have y1:=RB3.out.cell 1;have yz1:=RB3.out.frozen 1;simp only[q1_,q2_,q3_] at y0 y1;go_wp2;refine bodyPost_ret (v:=.tuple #[.agg #[.string ByteArray.empty,.slice none 0 0],.int .i64 e,.int .i64 at_]) ?_ rfl ⟨?_,?_⟩
  ·simp[results,results53,go_sem, *]
   first | done | rfl
  ·rw[hV.out]
   exact⟨at_,zkX.zero _ _ _ _⟩
  ·exact BEL.out.trans ((((Fr.refl (fun j=>j=w.heap.size) _).setCell (p:=⟨w.heap.size,0,none⟩) (.inl rfl) _).setCell (p:=⟨w.heap.size,1,none⟩) (.inl rfl) _).below_of (by have:=RB3.out.lt;omega) (fun j hj=>by omega))
end Go.Proofs.YteajonicnkpbbaaGreatDoor
