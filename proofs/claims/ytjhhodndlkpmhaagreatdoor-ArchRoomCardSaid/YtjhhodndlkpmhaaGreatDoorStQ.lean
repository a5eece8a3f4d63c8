/- Walks of state: Change, Step. -/
import Derived.Test.YtjhhodndlkpmhaaGreatDoorStB
namespace Go.Proofs.YtjhhodndlkpmhaaGreatDoor
set_option linter.all false
set_option maxHeartbeats 4000000
set_option maxRecDepth 100000
open Go.RowKit Tryz
section
variable {W:World} {g lo:Nat} {Q:StX} {c t:Nat} {Ft Fs F:Nat→Prop} {v:Value}
end
def StP(W:World)(g lo:Nat)(Q:StX)(c:Nat):Prop:=∃ F,zf6 W g lo Q c F
section
variable {W W':World} {g lo:Nat} {Q:StX} {c:Nat} {F:Nat→Prop}
theorem StP.fr0(h:StP W g lo Q c)(f:Fr (fun _=>False) W W'):StP W' g lo Q c:=by
 obtain⟨F,h⟩:=h;exact⟨F,h.fr0 f⟩
theorem StP.lt(h:StP W g lo Q c):lo≤g∧g<W.heap.size:=by
 obtain⟨F,t,Ft,Fs,v,hi,_⟩:=h;exact⟨hi.glo,hi.blk.lt⟩
theorem StR.p(h:StR W g lo Q c F W')(hge:∀ j,F j→lo≤j)(hlo:lo≤W.heap.size):StP W' g lo Q c∧Below lo W W':=by
 obtain⟨⟨F',h1,_⟩,h2⟩:=h;exact⟨⟨F',h1⟩,h2.below_of hlo hge⟩
theorem zr9(hg:za2 Q c)(hc:c+8≤1000000)(h:StP W g lo Q c)(s:List zas)(A:Option Addr)(n d:Nat)(hr:Rd W 3 A n (zdz s))(hsw:∀ x∈s,x.wf)(hA:∀ j,adF A n j→j<lo):
  Calls prog 15 #[.pointer (some ⟨g,0,none⟩),.slice A n d] W fun r w'=>r=.returned (.int .i64 (zdy Q s))∧StP w' g lo (zbI Q s) (c+8)∧Below lo W w':=by
 have hl:=h.lt;obtain⟨F,h⟩:=h;refine (znU hg hc h (by omega) s A n d hr hsw (fun j hj hF=>by have h1:=hA j hj;have h2:=(h.ge j hF).1;omega)).mono ?_;rintro r w' ⟨rfl,h2⟩;exact⟨rfl,h2.p (fun j hj=>(h.ge j hj).1) (by omega)⟩
theorem zr_(hg:za2 Q c)(hc:c≤1000000)(h:StP W g lo Q c)(n:Int)(hn:i64 n):
  Calls prog 14 #[.pointer (some ⟨g,0,none⟩),.int .i64 n] W fun r w'=>r=.returned (.int .i64 (zdj Q.X n))∧StP w' g lo (zed Q n) c∧Below lo W w':=by
 have hl:=h.lt;obtain⟨F,h⟩:=h;refine (zmc hg hc h n hn).mono ?_;rintro r w' ⟨rfl,h1,h2⟩;exact⟨rfl,⟨F,h1⟩,h2.below_of (by omega) (fun j hj=>(h.ge j hj).1)⟩
theorem zrb(hg:za2 Q c)(hc:c≤1000000)(h:StP W g lo Q c):
  Calls prog 11 #[.pointer (some ⟨g,0,none⟩)] W fun r w'=>r=.returned (.int .i64 (((zaB Q.X:Nat):Int)+zbv Q.ch))∧Below W.heap.size W w':=by
 obtain⟨F,h⟩:=h;exact zmf hg hc h
theorem zn0(h:StP W g lo Q c):Calls prog 16 #[.pointer (some ⟨g,0,none⟩)] W fun r w'=>r=.returned (.int .i64 Q.room)∧W=w':=by
 obtain⟨F,h⟩:=h;exact zmd h
theorem zra(h:StP W g lo Q c):Calls prog 23 #[.pointer (some ⟨g,0,none⟩)] W fun r w'=>r=.returned (.bool Q.ch.isSome)∧W=w':=by
 obtain⟨F,h⟩:=h;exact zme h
theorem zqY(room:Int)(text:ByteArray)(hs:text.size≤1099511627776)(w:World)(hmx:MaxL w)(lo:Nat)(hlo:lo≤w.heap.size):
  Calls prog 13 #[.int .i64 room,.string text] w fun r w'=>((zcL room (zaY text)=0→∃ g,r=.returned (.tuple #[.pointer (some ⟨g,0,none⟩),.int .i64 0])∧StP w' g lo (zho room (zaY text)) 0)∧(zcL room (zaY text)≠0→r=.returned (.tuple #[.pointer none,.int .i64 (zcL room (zaY text))])))∧Below w.heap.size w w':=by
 refine (znV room text hs w hmx lo hlo).mono ?_;rintro r w' ⟨⟨h1,h2⟩,hb⟩;refine⟨⟨fun h=>?_,h2⟩,hb⟩;obtain⟨g,F,hr,ho,_⟩:=h1 h;exact⟨g,hr,F,ho⟩
end
def zdP(room:Int)(X:zaa):Int:=if 0≤room∧room≤4096 then (if room<((zaB X:Nat):Int) then 20 else 0) else 1
theorem zoU{X:zaa}{nm:ByteArray}{l:List za_}{fl:List Int}{c:Nat}(p:zb_ nm l)(hnm:nm.size≤maxLen)(hfl:fl.length≤5)(hg:zbf nm l fl X c)(room:Int):zbU ⟨room,X,none⟩ c:=by
 have h1:=hg.name;have h2:=hg.tiers;have h3:=hg.floors;subst h1 h2 h3;exact⟨p,hnm,hg,hfl,⟨show (0:Int)≤0 by decide,show (0:Int)≤4096 by decide⟩,fun S h=>by cases h⟩
theorem zmh(v:Value)(W:World):Calls prog 57 #[v,.pointer none] W fun r w'=>r=.returned (.int .i64 0)∧W=w':=by
 go_enter func57,ntmps57;go_wp2;go_ret;exact⟨rfl,rfl⟩
theorem zmg{W:World}{lo t c:Nat}{X:zaa}{nm:ByteArray}{l:List za_}{fl:List Int}{F:Nat→Prop}(p:zb_ nm l)(hnm:nm.size≤maxLen)(hfl:fl.length≤5)(h:Tio nm l fl lo W t X F c)(hc:c≤1000000)(room:Int)(lo2:Nat)(hlo:lo2≤W.heap.size):
  Calls prog 21 #[.int .i64 room,.pointer (some ⟨t,0,none⟩),.pointer none] W fun r w'=>((zdP room X=0→∃ g,r=.returned (.tuple #[.pointer (some ⟨g,0,none⟩),.int .i64 0])∧StP w' g lo2 ⟨room,X,none⟩ c)∧(zdP room X≠0→r=.returned (.tuple #[.pointer none,.int .i64 (zdP room X)])))∧Below W.heap.size W w':=by
 have HRi:=q0_ (zgk room W);have HF:=q0_ (zmh (.pointer (some ⟨t,0,none⟩)) W);have HTc:=q0_ (zh8 p h (by omega) lo2 hlo);have HGd:=q0_ h.good;have hfair:=zoU p hnm hfl h.good room;have HSc:=q0_ (fun (W':World)=>ziZ W')
 by_cases hr:0≤room∧room≤4096
 rotate_left
 ·have hd:(decide (0≤room)&&decide (room≤4096))=false:=by
   by_cases h0:0≤room<;>by_cases h1:room≤4096<;>simp[h0,h1]
   exact hr ⟨h0,h1⟩
  have HE:Hid (zdP room X=1):=by show _=_;unfold zdP;rw[if_neg hr]
  rw[hd] at HRi;clear hd hr p hnm hfl h hc hfair HF HTc HSc HGd;go_enter func21,ntmps21;go_wp2_with fail;refine HRi.out.mono ?_;rintro r w1 ⟨rfl,rfl⟩;go_wp2
  go_ret2
  exact⟨⟨fun e=>absurd (HE.out.symm.trans e) (by decide),fun _=>by rw[HE.out];rfl⟩,Below.refl _ _⟩
 have hd:(decide (0≤room)&&decide (room≤4096))=true:=by rw[qa_ hr.1,qa_ hr.2];rfl
 have HE:Hid (zdP room X=if room<((zaB X:Nat):Int) then 20 else 0):=by show _=_;unfold zdP;rw[if_pos hr]
 rw[hd] at HRi;have HFa:=q0_ hfair;have HX1:=q0_ h.good.name;have HX2:=q0_ h.good.tiers;have HX3:=q0_ h.good.floors;have Hc:=q0_ hc;have Hlo:=q0_ hlo;clear hd hr p hnm hfl h hc hfair hlo;go_enter func21,ntmps21;go_wp2_with fail;refine HRi.out.mono ?_;rintro r w1 ⟨rfl,rfl⟩;go_wp2_with fail;refine HF.out.mono ?_;rintro r w1 ⟨rfl,rfl⟩;go_wp2_with fail;refine HTc.out.mono ?_;rintro r w2 ⟨⟨t2,F2,rfl,ht2,_⟩,b2⟩;have T2:=q0_ ht2;have G2:Hid (Fr (fun _=>False) W w2):=Fr.b0 b2;clear ht2 b2 HTc;go_wp2_with fail;refine (HSc.out _).mono ?_;rintro r w3 ⟨rfl,rfl⟩
 go_upto_region 7 with fail
 obtain⟨gb,hgb⟩:∃ g,g=w2.heap.size:=⟨_,rfl⟩
 obtain⟨W3,hW3⟩:∃ W3,W3=w2.alloc (.cells #[.int .i64 room,.pointer (some ⟨t2,0,none⟩),.pointer none] 82):=⟨_,rfl⟩
 have HSt:Hid (StP W3 gb lo2 ⟨room,X,none⟩ c):=by
  show StP _ _ _ _ _
  have hs:=G2.out.size;have hl:=Hlo.out;refine⟨_,t2,F2,fun _=>False,.pointer none,⟨?_,by omega,?_,⟨rfl,rfl⟩,fun _ _ h=>h⟩,rfl⟩
  ·rw[hW3,hgb];exact Blk.new _ _ _
  ·show Tio X.name X.tiers X.floors _ _ _ _ _ _
   rw[HX1.out,HX2.out,HX3.out,hW3];exact T2.out.fr0 (Fr.none_alloc _ _)
 have G3:Hid (Fr (fun _=>False) W W3):=by show Fr _ _ _;rw[hW3];exact G2.out.trans (Fr.none_alloc _ _) q4_
 rw[← hW3, ← hgb];clear hW3 hgb
 have HN:Hid (Calls prog 11 #[.pointer (some ⟨gb,0,none⟩)] W3 fun r w'=>r=.returned (.int .i64 ((zaB X:Nat):Int))∧Below W3.heap.size W3 w'):=by
  obtain⟨F,ho⟩:=HSt.out;refine (zb7 HFa.out Hc.out ho).mono ?_;rintro r w' ⟨rfl,hb⟩;exact⟨by show _=Ending.returned (.int .i64 (((zaB X:Nat):Int)));rw[show (((zaB (StX.X ⟨room,X,none⟩):Nat):Int)+zbv (StX.ch ⟨room,X,none⟩))=((zaB X:Nat):Int) from Int.add_zero _],hb⟩
 obtain⟨nv,hnv⟩:∃ nv,zaB X=nv:=⟨_,rfl⟩
 rw[hnv] at HN HE;clear hnv
 by_cases hgt:room<(nv:Int)
 ·have HE2:Hid (zdP room X=20):=by show _=_;rw[HE.out,if_pos hgt]
  go_wp2_with fail;refine HN.out.mono ?_;rintro r w4 ⟨rfl,b4⟩;have G4:Hid (Fr (fun _=>False) W w4):=G3.out.trans (Fr.b0 b4) q4_;clear b4;go_wp2
  go_ret2
  exact⟨⟨fun e=>absurd (HE2.out.symm.trans e) (by decide),fun _=>by rw[HE2.out];rfl⟩,G4.out.below q4_⟩
 ·have HE2:Hid (zdP room X=0):=by show _=_;rw[HE.out,if_neg hgt]
  have hle:(nv:Int)≤room:=by omega
  go_wp2_with fail;refine HN.out.mono ?_;rintro r w4 ⟨rfl,b4⟩;have G4:Hid (Fr (fun _=>False) W w4):=G3.out.trans (Fr.b0 b4) q4_;have HS4:=q0_ (HSt.out.fr0 (Fr.b0 b4));clear b4;go_wp2
  go_ret2
  exact⟨⟨fun _=>⟨gb,rfl,HS4.out⟩,fun e=>absurd HE2.out e⟩,G4.out.below q4_⟩
end Go.Proofs.YtjhhodndlkpmhaaGreatDoor
