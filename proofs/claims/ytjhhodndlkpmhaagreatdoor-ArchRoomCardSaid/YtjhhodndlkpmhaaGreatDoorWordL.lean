/- Walks of package word: blank, letter, line. -/
import Derived.Test.YtjhhodndlkpmhaaGreatDoorBase
import Derived.Test.YtjhhodndlkpmhaaGreatDoorShelf
import Derived.Lib.SplitLaws
namespace Go.Proofs.YtjhhodndlkpmhaaGreatDoor
set_option linter.all false
set_option maxHeartbeats 8000000
set_option maxRecDepth 100000
open Go.RowKit Tryz
theorem Rd.word_{w:World}{n k:Nat}{A:Option Addr}{l:List zao}(h:Rd w 3 A n (zaM l))(hk:k<n):
  ∃ ad x,A=some ad∧l[k]? =some x∧w.cell? (ad.add (k*3))=some (.string x.text)∧w.cell? ⟨(ad.add (k*3)).block,(ad.add (k*3)).off+1,none⟩=some (.int .i64 x.line)∧w.cell? ⟨(ad.add (k*3)).block,(ad.add (k*3)).off+2,none⟩=some (.int .i64 x.col):=by
 obtain⟨ad,s,e,hr,hc⟩:=Rd.elem zdi h hk (by decide);refine⟨ad,s,e,hr,?_,?_,?_⟩
 ·have:=hc 0 _ rfl;rwa[zaZ] at this
 ·have:=hc 1 _ rfl;rwa[zaV _ _ (by decide)] at this
 ·have:=hc 2 _ rfl;rwa[zaV _ _ (by decide)] at this
theorem Rd.words_len{w:World}{n:Nat}{A:Option Addr}{l:List zao}(h:Rd w 3 A n (zaM l)):l.length=n:=Rd.elems_len zdi (by decide) h
theorem zgQ:(prog.info? 194).map (fun i=>(i.zero,i.size,i.bytes))=some (some (.agg #[.string ByteArray.empty,.int .i64 0,.int .i64 0]),3,32):=by kernel_rfl
theorem zpd(c:Int)(w:World):Calls prog 188 #[.int .u8 c] w fun r w'=>r=.returned (.bool ((c==32)||(c==9)))∧w=w':=by
 have go:∀ b1 b2:Bool,(c==32)=b1→(c==9)=b2→Calls prog 188 #[.int .u8 c] w fun r w'=>r=.returned (.bool (b1||b2))∧w=w':=by
  intro b1 b2 e1 e2
  cases b1<;>cases b2<;>(
   go_enter func188,ntmps188;go_wp2;go_ret
   exact⟨by first | rfl | simp[*],rfl⟩)
 exact go _ _ rfl rfl
theorem zkM(c:Int)(w:World):Calls prog 189 #[.int .u8 c] w fun r w'=>r=.returned (.bool (decide (32<c)&&decide (c<127)))∧w=w':=by
 have go:∀ b1 b2:Bool,decide (32<c)=b1→decide (c<127)=b2→Calls prog 189 #[.int .u8 c] w fun r w'=>r=.returned (.bool (b1&&b2))∧w=w':=by
  intro b1 b2 e1 e2
  cases b1<;>cases b2<;>(
   go_enter func189,ntmps189;go_wp2;go_ret
   exact⟨by first | rfl | simp[*],rfl⟩)
 exact go _ _ rfl rfl
theorem zqI{s:ByteArray}{k:Nat}(h:k<s.size):s.data.toList[k]? =some s[k]:=by
 have hl:k<s.data.size:=h;rw[Array.getElem?_toList,Array.getElem?_eq_getElem hl];rfl
theorem zrG{s:ByteArray}(h:0<s.size):ziu s=((s[0].toNat:Int)==35):=by
 unfold ziu
 have:s.data.toList.head?=some s[0]:=by rw[List.head?_eq_getElem?];exact zqI h
 rw[this];rw[Bool.eq_iff_iff];simp only[beq_iff_eq,Option.some.injEq]
 constructor
 ·intro e;rw[e];rfl
 ·intro e
  have h2:s[0].toNat=35:=by omega
  exact UInt8.toNat_inj.1 h2
theorem ziO{α:Type}{p:α→Bool}{l:List α}(h:∀ x∈l,p x=true):l.takeWhile p=l:=by
 induction l with
 | nil=>rfl
 | cons a t ih=>rw[List.takeWhile_cons_of_pos (h a (by simp)),ih (fun x hx=>h x (List.mem_cons_of_mem _ hx))]
theorem zib{α:Type}{p:α→Bool}:∀ {l:List α} {k:Nat} {x:α},l[k]? =some x→p x=false→(∀ j y,j<k→l[j]? =some y→p y=true)→l.takeWhile p=l.take k
 | [],_,_,h,_,_=>by simp at h
 | a::t,0,x,h,hp,_=>by
  simp at h;subst h;rw[List.takeWhile_cons_of_neg (by simp[hp])]
  rfl
 | a::t,k+1,x,h,hp,ha=>by
  have h0:=ha 0 a (by omega) rfl;rw[List.takeWhile_cons_of_pos h0,List.take_succ_cons,zib (k:=k) (by simpa using h) hp (fun j y hj hy=>ha (j+1) y (by omega) (by simpa using hy))]
theorem zk_(l:List zao)(k:Nat):zaM (l.take k)=(zaM l).take (k*3):=by
 induction l generalizing k with
 | nil=>simp[zaM]
 | cons a r ih=>
  cases k with
  | zero=>simp[zaM]
  | succ k=>
   show a.cells++zaM (r.take k)=(a.cells++zaM r).take ((k+1)*3)
   rw[List.take_append,ih,List.take_of_length_le (l:=a.cells) (by rw[zdi];omega),zdi,show (k+1)*3-3=k*3 by omega]
def zsB(o:Option (List zao))(lo:Nat)(r:Ending)(w':World):Prop:=
 (∀ l,o=some l→∃ A c,r=.returned (.tuple #[.slice A l.length c,.bool true])∧Rd w' 3 A l.length (zaM l)∧l.length≤c∧∀ k,adF A l.length k→lo≤k)∧(o=none→r=.returned (.tuple #[.slice none 0 0,.bool false]))
theorem zqj(s:ByteArray)(hs:s.size≤1099511627776)(n:Int)(w:World):
  Calls prog 157 #[.string s,.int .i64 n] w fun r w'=>zsB (zeK s n) w.heap.size r w'∧Below w.heap.size w w':=by
 have HB:Hid (∀ (c:UInt8) (W:World),Calls prog 188 #[.int .u8 (c.toNat:Int)] W fun r w'=>r=.returned (.bool (zhY c))∧W=w'):=fun c W=>by
  have:=zpd (c.toNat:Int) W;rwa[show (((c.toNat:Int)==32)||((c.toNat:Int)==9))=zhY c by unfold zhY;rw[Bool.eq_iff_iff];simp;omega] at this
 have HL:Hid (∀ (c:UInt8) (W:World),Calls prog 189 #[.int .u8 (c.toNat:Int)] W fun r w'=>r=.returned (.bool (zgJ c))∧W=w'):=fun c W=>by
  have:=zkM (c.toNat:Int) W;rwa[show (decide (32<(c.toNat:Int))&&decide ((c.toNat:Int)<127))=zgJ c by unfold zgJ;rw[Bool.eq_iff_iff];simp;omega] at this
 obtain⟨i0,hi,hz0,hz1,hz2⟩:=info_parts zgQ;go_enter func157,ntmps157;go_wp2_with fail
 go_loopw [6,7,14] (fun o b i wr=>∃ (k:Nat) (out:List zao) (bg:Int) (R:Option Addr) (cs:Nat),k≤s.size∧i=.int .i64 k∧b=.int .i64 bg∧o=.slice R out.length cs∧Hid (zcf s n k=some (out,bg))∧ze2 s n k out bg∧wr.ownsRow w.heap.size 194 3 (.slice R out.length cs) out.length (zaM out)∧Own w wr (zaE (.slice R out.length cs))) (fun _ _ i _=>s.size-(intOf i).toNat)
 case atStart=>exact⟨0,[], -1,none,0,Nat.zero_le _,rfl,rfl,rfl,rfl,ze2.zero,World.ownsRow_nil _ _ _ _,(Own.start w).also (fun k hk=>by cases hk)⟩
 case round=>
  obtain⟨k,out,bg,R,cs,hk,rfl,rfl,rfl,hat,hok,hrow,ho⟩:=hrel;have Hrow:=q0_ hrow;have Ho:=q0_ ho;have Hok:=q0_ hok
  obtain⟨m,hm⟩:∃ m,out.length=m:=⟨_,rfl⟩
  rw[hm] at Hrow Ho ⊢
  have hmk:m≤k:=by have:=hok.len;omega
  clear hrow ho hok
  by_cases hlt:k<s.size
  ·have hb1:s[k].toNat<256:=s[k].toNat_lt
   have hnext:=zgI hlt hat.out
   cases hb:zhY s[k]
   ·have hHB:=HB.out s[k]
    rw[hb] at hHB;have HB2:=q0_ hHB;clear hHB
    cases hl:zgJ s[k]
    ·have hHL:=HL.out s[k]
     rw[hl] at hHL;have HL2:=q0_ hHL;clear hHL;have hnone:zeK s n=none:=zmO (i:=k+1) (by omega) (by rw[hnext];unfold zcb;rw[hb,hl];rfl);have HN:=q0_ hnone;clear hnone hnext hb hl;go_wp2_with fail;refine (HB2.out _).mono ?_;rintro r w1 ⟨rfl,rfl⟩;go_wp2_with fail;refine (HL2.out _).mono ?_;rintro r w1 ⟨rfl,rfl⟩;go_wp2
     go_ret2
     exact⟨⟨fun l h=>(by rw[HN.out] at h;cases h),fun _=>rfl⟩,Ho.out.bel⟩
    ·have hHL:=HL.out s[k]
     rw[hl] at hHL;have HL2:=q0_ hHL;clear hHL
     have hto:((k:Int)+1).toNat=k+1:=by omega
     have hk1:(k:Int)+1≤(s.size:Int):=by omega
     by_cases hbg:bg<0
     ·have hd:decide (bg<0)=true:=qa_ hbg
      have hn2:zcf s n (k+1)=some (out++[⟨s.extract k (k+1),n,(k:Int)+1⟩],(k:Int)):=by rw[hnext];unfold zcb;rw[hb,hl,if_neg (by simp),if_neg (by simp),if_pos hbg]
      have HN:=q0_ hn2;have hok2:=Hok.out.step hlt (by rw[← hnext];exact hn2);have HO2:=q0_ hok2;have hwr:=Ho.out.bel.size;clear hnext hb hl hn2 hok2;go_wp2_with fail;refine (HB2.out _).mono ?_;rintro r w1 ⟨rfl,rfl⟩;go_wp2_with fail;refine (HL2.out _).mono ?_;rintro r w1 ⟨rfl,rfl⟩;go_wp2_with fail;refine (HB2.out _).mono ?_;rintro r w1 ⟨rfl,rfl⟩
      go_wp2_with (at_builtin;refine zbs rfl _ _ 221 rfl 194 i0 _ 3 32 underlying221 hi hz0 hz1 hz2 rfl (by decide) (.slice R m cs) m _ rfl w.heap.size (by simp;omega) (zac Hrow.out (Fr.none_alloc _ _)) (some ⟨wr.heap.size,0,none⟩) 1 1 [.string (s.extract k (k+1)),.int .i64 n,.int .i64 ((k:Int)+1)] rfl (Rd.newS rfl _ _ _ _ rfl) (by simp[Value.oneCell']) ?q1 ?q2 ?_)
      case q1=>unfold maxLen;omega
      case q2=>omega
      intro R6 c6 w6 ho6 hm6 _;have Ho6:=q0_ ho6;have Hm6:=q0_ hm6;clear ho6 hm6;go_wp2
      go_roundw
      case rel=>
       refine⟨k+1,out++[⟨s.extract k (k+1),n,(k:Int)+1⟩],(k:Int),R6,c6,by omega,by go_num,rfl,by rw[q8_,List.length_singleton,hm],HN,HO2.out,?_,?_⟩
       ·rw[q8_,List.length_singleton,hm,zbz]
        exact Ho6.out
       ·rw[q8_,List.length_singleton,hm]
        exact (Ho.out.skip (Fr.none_alloc _ _)).mv Hm6.out
      case measure=>simp[intOf];omega
     ·have hd:decide (bg<0)=false:=q9_ hbg
      have hne:out≠[]:=Hok.out.last (by omega)
      have hm0:0<m:=by rw[← hm];exact List.length_pos_iff.2 hne
      obtain⟨b0,rfl⟩:∃ b0:Nat,bg=b0:=⟨bg.toNat,by omega⟩
      have hb0:=Hok.out.hi
      have hn2:zcf s n (k+1)=some (zhe out (s.extract b0 (k+1)),(b0:Int)):=by rw[hnext];unfold zcb;rw[hb,hl,if_neg (by simp),if_neg (by simp),if_neg hbg];simp
      have HN:=q0_ hn2;have hok2:=Hok.out.step hlt (by rw[← hnext];exact hn2);have HO2:=q0_ hok2;have hwr:=Ho.out.bel.size;obtain⟨gr,rfl⟩:=zcN Hrow.out hm0;obtain⟨cs0,hB⟩:=zkG Hrow.out;have HGr:=q0_ (zka hne (s.extract b0 (k+1)));have HGl:=q0_ (zgT out (s.extract b0 (k+1)));obtain⟨ad,x,e,_,q0,q1,q2⟩:=(Rd.of_own Hrow.out).word_ (k:=m-1) (by omega)
      cases e
      have z0:=hB.frozen ((m-1)*3);rw[zdZ,Nat.zero_add] at q0
      have hm1:((m:Int)-1).toNat=m-1:=by omega
      have hm2:0≤(m:Int)-1∧(m:Int)-1<(m:Int):=by omega
      clear hnext hb hl hn2 hok2 hne q1 q2 hB;go_wp2_with fail;refine (HB2.out _).mono ?_;rintro r w1 ⟨rfl,rfl⟩;go_wp2_with fail;refine (HL2.out _).mono ?_;rintro r w1 ⟨rfl,rfl⟩;go_wp2_with fail;refine (HB2.out _).mono ?_;rintro r w1 ⟨rfl,rfl⟩;go_wp2
      go_roundw
      case rel=>exact⟨k+1,zhe out (s.extract b0 (k+1)),b0,some ⟨gr,0,none⟩,cs,by omega,by go_num,rfl,by rw[HGl.out,hm],HN,HO2.out,by rw[HGr.out,HGl.out,hm];exact zp9 Hrow.out,by rw[HGl.out,hm];exact Ho.out.fr ((Fr.refl (zaE (.slice (some ⟨gr,0,none⟩) m cs)) wr).setCell (p:=⟨gr,(m-1)*3,none⟩) (.inl rfl) _)⟩
      case measure=>simp[intOf];omega
   ·have hHB:=HB.out s[k]
    rw[hb] at hHB;have HB2:=q0_ hHB;clear hHB
    have hn2:zcf s n (k+1)=some (out, -1):=by rw[hnext];unfold zcb;rw[hb];simp
    have HN:=q0_ hn2;have hok2:=Hok.out.step hlt (by rw[← hnext];exact hn2);have HO2:=q0_ hok2;clear hnext hb hn2 hok2;go_wp2_with fail;refine (HB2.out _).mono ?_;rintro r w1 ⟨rfl,rfl⟩;go_wp2_with fail;refine (HB2.out _).mono ?_;rintro r w1 ⟨rfl,rfl⟩;go_wp2
    go_roundw
    case rel=>exact⟨k+1,out, -1,R,cs,by omega,by go_num,rfl,by rw[hm],HN.out,HO2.out,by rw[hm];exact Hrow.out,by rw[hm];exact Ho.out⟩
    case measure=>simp[intOf];omega
  ·obtain rfl:k=s.size:=by omega
   have HV:Hid (zeK s n=some (out.takeWhile fun x=> !ziu x.text)):=by show _=_;unfold zeK;rw[hat.out];rfl
   have Hm:=q0_ hm;clear hm;go_wp2_with fail
   go_loopw [62] (fun i wx=>∃ (j:Nat),j≤m∧i=.int .i64 j∧Hid (∀ q y,q<j→out[q]? =some y→ziu y.text=false)∧Fr (fun _=>False) wr wx) (fun i _=>m-(intOf i).toNat)
   case atStart=>exact⟨0,Nat.zero_le _,rfl,fun q y h=>absurd h (Nat.not_lt_zero _),Fr.refl _ _⟩
   case round=>
    obtain⟨j,hj,rfl,hall,hf⟩:=hrel;have Hf:=q0_ hf;have Hrx:=q0_ (zac Hrow.out hf)
    have hmc:m≤cs:=by
     obtain⟨A0,c0,e0,h1,_⟩:=za5 Hrx.out
     cases e0
     exact h1
    by_cases hlt2:j<m
    ·obtain⟨ad,x,rfl,hx,q0,q1,q2⟩:=(Rd.of_own Hrx.out).word_ hlt2
     have hx0:=(Hok.out.full x (zab hx)).1
     have hxi:(0:Int)<(x.text.size:Int):=by omega
     have Hx:=q0_ hx;have hh:=zrG hx0
     have hkw:IntKind.i64.wrap ((j:Int)+1)=(j:Int)+1:=by simp[IntKind.wrap,IntKind.signed,IntKind.bits];omega
     cases hb:ziu x.text
     ·rw[hb] at hh
      have hh2:¬ ((x.text[0].toNat:Int)=35):=by simpa using hh.symm
      have hh3:=hh.symm;have Hb:=q0_ hb;clear hx hf hh hb;go_wp2
      go_roundw
      case rel=>exact⟨j+1,by omega,by go_num,(fun q y hq h=>by
       by_cases e:q=j
       ·subst e
        rw[Hx.out] at h
        cases h
        exact Hb.out
       ·exact hall.out q y (by omega) h),Hf.out.trans (Fr.none_alloc _ _) q4_⟩
      case measure=>simp[intOf];omega
     ·rw[hb] at hh
      have hh2:(x.text[0].toNat:Int)=35:=by simpa using hh.symm
      have hh3:=hh.symm;have HT:Hid (out.takeWhile (fun x=> !ziu x.text)=out.take j):=zib Hx.out (by rw[hb];rfl) (fun q y hq h=>by rw[hall.out q y hq h];rfl)
      have hjl:Hid ((out.take j).length=j):=by show _=_;rw[List.length_take,Hm.out];omega
      have hj2:0≤(j:Int)∧(j:Int)≤(cs:Int):=by omega
      clear hx hf hh hb;go_wp2
      go_ret2
      refine⟨⟨fun l h=>?_,fun h=>by rw[HV.out] at h;cases h⟩,(Ho.out.skip Hf.out).bel.trans ((Fr.none_alloc _ _).below_of (Ho.out.skip Hf.out).bel.size q4_)⟩;rw[HV.out,HT.out] at h
      cases h
      rw[hjl.out];refine⟨some ad,cs,rfl,?_,by omega,fun k hk=>Ho.out.new k ?_⟩
      ·rw[zk_]
       exact ((Rd.of_own Hrx.out).fr0 (Fr.none_alloc _ _)).take hj
      ·obtain⟨_,ad',e,h3⟩:=hk
       cases e
       obtain⟨g',e'⟩:=zcN Hrx.out (by omega)
       cases e'
       rw[← h3]
       rfl
    ·obtain rfl:j=m:=by omega
     have HT:Hid (out.takeWhile (fun x=> !ziu x.text)=out):=ziO (fun x hx=>by
      obtain⟨q,hq⟩:=List.getElem?_of_mem hx;have hql:=(List.getElem?_eq_some_iff.1 hq).1;have:=hall.out q x (by have:=Hm.out;omega) hq;rw[this]
      rfl)
     clear hf;go_wp2
     go_ret2
     refine⟨⟨fun l h=>?_,fun h=>by rw[HV.out] at h;cases h⟩,(Ho.out.skip Hf.out).bel⟩;rw[HV.out,HT.out] at h
     cases h
     rw[Hm.out];refine⟨R,cs,rfl,Rd.of_own Hrx.out,hmc,fun k hk=>?_⟩;obtain⟨h0,ad',e,h3⟩:=hk;obtain⟨g',e'⟩:=zcN Hrx.out h0;subst e'
     cases e
     exact Ho.out.new k (by rw[← h3];rfl)
def MaxL(w:World):Prop:=∃ m:Int,w.cell? ⟨0,0,none⟩=some (.int .i64 m)
theorem MaxL.fr{F:Nat→Prop}{w w':World}(h:MaxL w)(f:Fr F w w')(hF:¬ F 0):MaxL w':=by
 obtain⟨m,h⟩:=h;exact⟨m,f.cell h hF⟩
theorem zfB(s:ByteArray)(w:World)(h:s.size≤1099511627776):
  Calls prog 48 #[.string s] w fun r w'=>r=.returned (.string s)∧Below w.heap.size w w':=by
 have Hs:Hid (s.size≤281474976710656):=by show _≤_;omega
 clear h;go_enter func48,ntmps48;go_wp2_with fail;refine (Tryz.stringslite_Clone _ _ Hs.out).mono ?_;rintro r w1 ⟨rfl,hb⟩;have Hb:=q0_ hb;clear hb
 go_wp2
 go_ret;exact⟨rfl,Hb.out⟩
theorem zej(sep:ByteArray):∀ (k:Nat) (s:ByteArray),∀ p∈Lib.splitB sep 0 k s,p.size≤s.size
 | 0,s,p,hp=>by
  rw[Lib.splitB_zero,List.mem_singleton] at hp;rw[hp];exact Nat.le_refl _
 | k+1,s,p,hp=>by
  by_cases h:Lib.indexB s sep= -1
  ·rw[Lib.splitB_miss sep 0 (k+1) s h,List.mem_singleton] at hp
   rw[hp];exact Nat.le_refl _
  ·have e:Lib.splitB sep 0 (k+1) s=s.extract 0 ((Lib.indexB s sep).toNat+0)::Lib.splitB sep 0 k (s.extract ((Lib.indexB s sep).toNat+sep.size) s.size):=by
    conv=>lhs;unfold Lib.splitB
    rw[if_neg (by simpa using h)]
   rw[e] at hp
   rcases List.mem_cons.1 hp with rfl | hp
   ·rw[ByteArray.size_extract];omega
   ·have:=zej sep k _ p hp
    rw[ByteArray.size_extract] at this;omega
theorem zlx{s:ByteArray}{n:Int}:∀ i,i≤s.size→∀ out b,zcf s n i=some (out,b)→ze2 s n i out b:=by
 intro i
 induction i with
 | zero=>intro _ out b e;injection e with e;injection e with e1 e2;subst e1 e2;exact ze2.zero
 | succ i ih=>
  intro hi out b e
  cases hp:zcf s n i with
  | none=>have:=zen hp 1;rw[this] at e;cases e
  | some p=>
   obtain⟨o,c⟩:=p;have hk:=ih (by omega) o c hp;rw[zgI (by omega) hp] at e;exact hk.step (by omega) e
theorem zjq{s:ByteArray}{n:Int}{l:List zao}(h:zeK s n=some l):l.length≤s.size:=by
 unfold zeK at h
 cases hp:zcf s n s.size with
 | none=>rw[hp] at h;cases h
 | some p=>
  rw[hp] at h
  injection h with h
  subst h;have:=(zlx s.size (Nat.le_refl _) p.1 p.2 hp).len;exact Nat.le_trans (List.takeWhile_sublist _).length_le this
theorem zoA{s:ByteArray}{n:Int}{l:List zao}(h:zeK s n=some l):∀ x∈l,x.text.size≤s.size∧x.line=n:=by
 unfold zeK at h
 cases hp:zcf s n s.size with
 | none=>rw[hp] at h;cases h
 | some p=>
  rw[hp] at h
  injection h with h
  subst h;have hk:=zlx s.size (Nat.le_refl _) p.1 p.2 hp;intro x hx;have hs:=List.takeWhile_sublist (fun x:zao=> !ziu x.text) (l:=p.1);exact⟨(hk.full x (hs.subset hx)).2,hk.lines x (hs.subset hx)⟩
def bNl:ByteArray:={data:=#[10]}
def zlM(text:ByteArray):List zao ⊕ (Int×Int):=
 if 4000<text.size then .inr (2,0)
 else match znp (Lib.splitB bNl 0 (Lib.countB text bNl) text) 0 [] with
  | .inr k=>.inr (22,(k:Int))
  | .inl R=>.inl R
def zca(w:World)(b lo k:Nat)(R:List zao)(A:Option Addr)(c:Nat):Prop:=
 Blk w b 223 #[.int .i64 k,.slice A R.length c]∧w.ownsRow lo 194 3 (.slice A R.length c) R.length (zaM R)∧lo≤b∧k≤R.length
def zbO(w:World)(b lo k:Nat)(R:List zao):Prop:=∃ A c,zca w b lo k R A c
def zsy(o:List zao ⊕ (Int×Int))(lo:Nat)(r:Ending)(w':World):Prop:=
 match o with
 | .inl R=>∃ b,r=.returned (.tuple #[.pointer (some ⟨b,0,none⟩),.int .i64 0,.int .i64 0])∧zbO w' b lo 0 R∧R.length≤16012001
 | .inr (e,k)=>r=.returned (.tuple #[.pointer none,.int .i64 e,.int .i64 k])
theorem Rd.of_blk{w:World}{g n:Nat}{t:TypeId}{xs:List Value}(h:Blk w g t xs.toArray)(hn:xs.length=n):Rd w 1 (some ⟨g,0,none⟩) n xs:=by
 refine⟨by omega,fun _=>⟨_,rfl,fun j u hu=>?_⟩⟩;rw[zdZ,Nat.zero_add,h.cell];simpa using hu
theorem zjF{L:List ByteArray}{k:Nat}{acc:List zao}{x:ByteArray}(hx:L[k]? =some x):znp (L.drop k) k acc=(match zeK x ((k:Int)+1) with | none=>.inr (k+1) | some l=>znp (L.drop (k+1)) (k+1) (acc++l)):=by
 have hk:=(List.getElem?_eq_some_iff.1 hx).1;have e:L[k]=x:=(List.getElem?_eq_some_iff.1 hx).2;rw[List.drop_eq_getElem_cons hk,e]
 rfl
theorem zrO(text:ByteArray)(hs:text.size≤1099511627776)(w:World)(hmx:MaxL w):
  Calls prog 120 #[.string text] w fun r w'=>zsy (zlM text) w.heap.size r w'∧Below w.heap.size w w':=by
 obtain⟨i0,hi,hz0,hz1,hz2⟩:=info_parts zgQ
 by_cases hlong:4000<text.size
 ·have hE:Hid (zlM text=.inr (2,0)):=by show _=_;unfold zlM;rw[if_pos hlong]
  have hi1:(4000:Int)<(text.size:Int):=by omega
  have hd:decide ((4000:Int)<(text.size:Int))=true:=qa_ hi1;go_enter func120,ntmps120;go_wp2;refine bodyPost_ret (v:=.tuple #[.pointer none,.int .i64 2,.int .i64 0]) ?_ rfl ⟨by rw[hE.out];rfl,Below.refl _ _⟩;simp[results,results120,go_sem]
 have hi1:¬ (4000:Int)<(text.size:Int):=by omega
 have hd:decide ((4000:Int)<(text.size:Int))=false:=q9_ hi1
 have hsz:text.size≤4000:=by omega
 obtain⟨L,hL⟩:∃ L,Lib.splitB bNl 0 (Lib.countB text bNl) text=L:=⟨_,rfl⟩
 obtain⟨n,hn⟩:∃ n,Lib.countB text bNl+1=n:=⟨_,rfl⟩
 have hLn:L.length=n:=by rw[← hL, ← hn];exact Lib.splitB_all bNl (by decide) 0 _ _ rfl
 have hnb:n≤4001:=by have:=Lib.countB_le bNl (by decide) text.size text (Nat.le_refl _);omega
 have hLs:∀ p∈L,p.size≤4000:=fun p hp=>by rw[← hL] at hp;have:=zej bNl _ _ p hp;omega
 have hV:zlM text=(match znp L 0 [] with | .inr k=>.inr (22,(k:Int)) | .inl R=>.inl R):=by unfold zlM;rw[if_neg hlong,hL]
 have HV:=q0_ hV;have HCl:=q0_ (fun W=>zfB text W (by omega))
 have HSp:Hid (∀ W,Fr (fun _=>False) w W→Calls prog 156 #[.string text,.string bNl] W fun e w'=>e=.returned (.slice (some ⟨W.heap.size,0,none⟩) n n)∧w'=W.alloc (.cells (L.map Value.string).toArray 9)):=fun W f=>by
  obtain⟨m,hm⟩:=hmx.fr f (fun h=>h);have:=Tryz.strings_Split text bNl m W (by omega) hm (by decide);rw[hL,hn] at this;exact this
 have HLn:=q0_ (fun (p:ByteArray) (hp:p∈L) (k:Int) W=>zqj p (by have:=hLs p hp;omega) k W);have HLs:=q0_ hLs;have HLl:=q0_ hLn;have O0:Hid (Blk (w.alloc (.cells #[.int .i64 0,.slice none 0 0] 223)) w.heap.size 223 #[.int .i64 0,.slice none 0 0]):=Blk.new _ _ _;have F0:Hid (Fr (fun _=>False) w (w.alloc (.cells #[.int .i64 0,.slice none 0 0] 223))):=Fr.none_alloc _ _;clear hV hL hn hLs hlong hLn hmx;unfold bNl at HSp;go_enter func120,ntmps120;go_wp2_with fail;refine (HCl.out _).mono ?_;rintro r w1 ⟨rfl,b1⟩;have B1:=q0_ (O0.out.below b1);have F1:=q0_ (F0.out.trans (Fr.b0 b1) q4_);clear b1;go_wp2_with fail;refine (HSp.out _ F1.out).mono ?_;rintro r w2 ⟨rfl,hw2⟩
 have hR2:Blk w2 w1.heap.size 9 (L.map Value.string).toArray:=by rw[hw2];exact Blk.new w1 _ _
 have hF2:Fr (fun _=>False) w1 w2:=by rw[hw2];exact Fr.none_alloc _ _
 have R2:=q0_ hR2;have B2:=q0_ (B1.out.fr hF2 (fun h=>h));have F2:=q0_ (F1.out.trans hF2 q4_);have hw12:w.heap.size<w1.heap.size:=B1.out.lt
 obtain⟨gl,hgl⟩:∃ g,w1.heap.size=g:=⟨_,rfl⟩
 rw[hgl] at R2 hw12 ⊢;clear hw2 hR2 hF2 hgl;go_wp2_with fail
 obtain⟨s,hs0⟩:∃ s,w.heap.size=s:=⟨_,rfl⟩
 have HFb:Hid (Below s w w2):=by show Below _ _ _;rw[← hs0];exact F2.out.below q4_
 rw[hs0] at B2 hw12 ⊢
 have hs2:s≤w2.heap.size:=by have:=B2.out.lt;omega
 go_loopw [19] (fun i wr=>∃ (k:Nat) (acc:List zao) (A:Option Addr) (c:Nat),k≤n∧i=.int .i64 k∧Hid (znp L 0 []=znp (L.drop k) k acc)∧Hid (acc.length≤k*4000)∧Blk wr s 223 #[.int .i64 0,.slice A acc.length c]∧wr.ownsRow s 194 3 (.slice A acc.length c) acc.length (zaM acc)∧Blk wr gl 9 (L.map Value.string).toArray∧Below s w wr) (fun i _=>n-(intOf i).toNat)
 case atStart=>exact⟨0,[],none,0,Nat.zero_le _,rfl,rfl,Nat.zero_le _,B2.out,World.ownsRow_nil _ _ _ _,R2.out,HFb.out⟩
 case round=>
  obtain⟨k,acc,A,c,hk,rfl,hcg,hacc,hblk,hrow,hstr,hbel⟩:=hrel;have Hblk:=q0_ hblk;have Hrow:=q0_ hrow;have Hstr:=q0_ hstr;have Hbel:=q0_ hbel
  obtain⟨m,hm⟩:∃ m,acc.length=m:=⟨_,rfl⟩
  rw[hm] at Hblk Hrow
  have hm4:m≤16004000:=by have:=hacc.out;omega
  have Hm:=q0_ hm;clear hblk hrow hstr hbel hm
  by_cases hlt:k<n
  ·obtain⟨ad,x,e,hx,q0⟩:=(Rd.of_blk Hstr.out (by rw[List.length_map];exact HLl.out):Rd wr 1 (some ⟨gl,0,none⟩) n (L.map Value.string)).at_map hlt
   cases e
   rw[zdZ,Nat.zero_add] at q0;have Hx:=q0_ hx;have HLx:=q0_ (HLn.out x (zab hx) ((k:Int)+1));have hxs:=HLs.out x (zab hx)
   have hkw:IntKind.i64.wrap ((k:Int)+1)=(k:Int)+1:=by simp[IntKind.wrap,IntKind.signed,IntKind.bits];omega
   clear hx;go_wp2_with fail;refine (HLx.out _).mono ?_;rintro r w3 ⟨⟨h3,h4⟩,b3⟩;have Hblk3:=q0_ (Hblk.out.below b3);have Hrow3:=q0_ (zac Hrow.out (Fr.b0 b3));have Hstr3:=q0_ (Hstr.out.below b3)
   have hsr:s≤wr.heap.size:=by have:=Hblk.out.lt;omega
   have Hbel3:=q0_ (Hbel.out.trans (b3.mono hsr));clear b3
   cases hv:zeK x ((k:Int)+1) with
   | none=>
    obtain rfl:=h4 hv
    have hE:zlM text=.inr (22,(k:Int)+1):=by
     have:=hcg.out;rw[zjF Hx.out,hv] at this;rw[HV.out,this]
     rfl
    have HE:=q0_ hE;clear hE h3 h4 hv;go_wp2;refine bodyPost_ret (v:=.tuple #[.pointer none,.int .i64 22,.int .i64 ((k:Int)+1)]) ?_ rfl ⟨by rw[HE.out];rfl,by rw[hs0];exact Hbel3.out⟩;simp[results,results120,go_sem]
   | some l=>
    obtain⟨A2,c2,rfl,hr3,hlc,had⟩:=h3 l hv;have hll:=zjq hv
    have hcg2:znp L 0 []=znp (L.drop (k+1)) (k+1) (acc++l):=by
     have:=hcg.out;rw[zjF Hx.out,hv] at this;exact this
    have HC2:=q0_ hcg2;have HR3:=q0_ hr3
    obtain⟨q,hq⟩:∃ q,l.length=q:=⟨_,rfl⟩
    rw[hq] at HR3 hlc hll had ⊢;have Hq:=q0_ hq;have d0:=Hblk3.out.cell 0;have d1:=Hblk3.out.cell 1;simp only[q1_,q2_,q3_] at d0 d1
    have hs3:s≤w3.heap.size:=by have:=Hblk3.out.lt;omega
    clear hr3 hcg2 h3 h4 hv had hq
    go_wp2_with (at_builtin;go_loud (refine zbs rfl _ _ 221 rfl 194 i0 _ 3 32 underlying221 hi hz0 hz1 hz2 rfl (by decide) (.slice A m c) m _ rfl s hs3 Hrow3.out A2 q c2 (zaM l) rfl HR3.out (zl1 l) ?q1 ?q2 ?_))
    case q1=>unfold maxLen;omega
    case q2=>omega
    intro R6 c6 w6 ho6 hm6 _;have hb6:=Hblk3.out.fr hm6.fr (fun hj=>zad Hrow3.out Hblk3.out (by decide) hj);have hs6:=Hstr3.out.fr hm6.fr (fun hj=>zad Hrow3.out Hstr3.out (by decide) hj);have d0:=hb6.cell 0;have d1:=hb6.cell 1;have z1:=hb6.frozen 1;simp only[q1_,q2_,q3_] at d0 d1;have Hb6:=q0_ hb6;have Hs6:=q0_ hs6;have Ho6:=q0_ ho6;have Hbel6:=q0_ (Hbel3.out.trans (hm6.fr.below_of hs3 (fun j hj=>(Hrow3.out.lt j hj).1)));clear ho6 hm6 hb6 hs6;go_wp2_with fail;have hst:Fr (fun j=>j=s) w6 (w6.setCell ⟨s,1,none⟩ (.slice R6 (m+q) c6)):=(Fr.refl (fun j=>j=s) w6).setCell (p:=⟨s,1,none⟩) (.inl rfl) _
    have hs6':s≤w6.heap.size:=by have:=Hb6.out.lt;omega
    go_roundw
    case rel=>
     refine⟨k+1,acc++l,R6,c6,by omega,by go_num,HC2,?_,?_,?_,Hs6.out.fr hst (by omega),Hbel6.out.trans (hst.below_of hs6' (fun j hj=>by omega))⟩
     ·show (acc++l).length≤_
      rw[q8_,Hm.out,Hq.out];have:=hacc.out;have:=Hm.out;omega
     ·rw[q8_,Hm.out,Hq.out]
      exact Hb6.out.set_ 1 _
     ·rw[q8_,Hm.out,Hq.out,zbz]
      exact zaf Ho6.out hst (fun j hj e=>zad Ho6.out Hb6.out (by decide) (by rw[← e];exact hj))
    case measure=>simp[intOf];omega
  ·obtain rfl:k=n:=by omega
   have hE:zlM text=.inl acc:=by
    have:=hcg.out;rw[List.drop_of_length_le (by rw[HLl.out];exact Nat.le_refl _)] at this;rw[HV.out,this]
    rfl
   have HE:=q0_ hE;clear hE;go_wp2;refine bodyPost_ret (v:=.tuple #[.pointer (some ⟨s,0,none⟩),.int .i64 0,.int .i64 0]) ?_ rfl ⟨?_,by rw[hs0];exact Hbel.out⟩
   ·simp[results,results120,go_sem]
   ·rw[HE.out,hs0]
    exact⟨s,rfl,⟨A,c,by rw[Hm.out];exact Hblk.out,by rw[Hm.out];exact Hrow.out,Nat.le_refl _,Nat.zero_le _⟩,by have:=Hm.out;omega⟩
end Go.Proofs.YtjhhodndlkpmhaaGreatDoor
