/- ArchRoom's walk: what has no room is refused. -/
import Derived.Test.YtjhhodndlkpmhaaGreatDoorArcI
import Derived.Test.YtjhhodndlkpmhaaGreatDoorArcL
namespace Go.Proofs.YtjhhodndlkpmhaaGreatDoor
set_option linter.all false
set_option maxHeartbeats 8000000
set_option maxRecDepth 100000
open Go.RowKit Tryz
def rm0:StX:=zho 4096 (zaY zq6)
def rm1:StX:=zed rm0 60
theorem zoc:zcL 4096 (zaY zq6)=0:=by
 unfold zcL;rw[if_pos ⟨by decide,by decide⟩];exact ziK
theorem zlm:za2 rm0 0:=zhn zoc
theorem zri:zdj rm0.X 60=0:=by decide+kernel
theorem zd3:za2 rm1 0:=zlm.tick (by decide) 60
def rmF:List Int:=zaW 60 rm1.X.tiers []
theorem zi6:rm1.X.now=60∧rm1.X.floors=[]∧rm1.X.tabs=[[],[]]∧rm1.X.tiers.length=2∧rm1.room=4096:=⟨by kernel_rfl,by kernel_rfl,by kernel_rfl,by kernel_rfl,by kernel_rfl⟩
def rmQ:zj8:=⟨1,1,60,rm1.X.name,rm1.X.tiers,rmF,ByteArray.empty,[],[],0,0,[]⟩
theorem zsc:znq (zha rmQ)=some rmQ:=by kernel_rfl
theorem zrl:zo6 rmQ=true:=by decide+kernel
theorem zod:(zha rmQ).length≤1000:=by decide+kernel
theorem zrj:zfs rm1.X.name rm1.X.tiers 60 rmF=0:=by decide+kernel
theorem zpX:zaW 60 rm1.X.tiers rmF=rmF:=by decide+kernel
theorem zrk:∀ k,zar 60 rm1.X.tiers rmF k≤zar 60 rm1.X.tiers [] k:=fun k=>by
 rcases Nat.lt_or_ge k 2 with h | h
 ·obtain rfl | rfl:k=0∨k=1:=by omega
  ·decide+kernel
  ·decide+kernel
 ·have hn:rm1.X.tiers[k]? =none:=List.getElem?_eq_none (by rw[zi6.2.2.2.1];exact h)
  unfold zar;rw[hn];exact Int.le_refl _
theorem zkk(Q:StX)(s:List zas):(zbI Q s).X=za4 Q.X s∨(zbI Q s).X=Q.X:=by
 unfold zbI
 split
 ·exact .inl rfl
 ·exact .inr rfl
theorem zle{Q:StX}(h:Q.ch=none)(s:List zas):(zbI Q s).ch=none:=by
 unfold zbI
 split
 ·show Option.map _ Q.ch=none
  rw[h];rfl
 ·exact h
theorem zsa(s:List zas)(hw:∀ (k:Nat) (m:List zae),(zbI rm1 s).X.tabs[k]? =some m→∀ r∈m,r.wf):
  ∃ B,zfO (zbI rm1 s)=(zal B,0)∧B.length≤1000000∧zbD B=(zdw (zbI rm1 s),0)∧∃ Y,zb1 (zdw (zbI rm1 s))=some Y∧zaB Y=zaB (zbI rm1 s).X∧zfO ⟨4096,Y,none⟩=(zal B,0):=by
 obtain⟨Q,hQ⟩:∃ Q,zbI rm1 s=Q:=⟨_,rfl⟩
 have hgood:za2 Q 8:=by rw[← hQ];exact (zd3.put (by decide) s)
 have hch:Q.ch=none:=by rw[← hQ];exact zle rfl s
 have hp:Q.X.name=rm1.X.name∧Q.X.tiers=rm1.X.tiers∧Q.X.floors=[]∧Q.X.now=60:=by
  rw[← hQ];have h1:=zi6
  rcases zkk rm1 s with e | e
  ·rw[e]
   obtain⟨a,b,c,d⟩:=zfl rm1.X s;exact⟨a,b,by rw[c,h1.2.1],by rw[d,h1.1]⟩
  ·rw[e]
   exact⟨rfl,rfl,h1.2.1,h1.1⟩
 have hemp:∀ (k:Nat) (r:zae),¬ r∈rm1.X.tabs.getD k []:=fun k r hr=>by
  rw[zi6.2.2.1] at hr
  match k,hr with
  | 0,hr=>cases hr
  | 1,hr=>cases hr
  | k+2,hr=>cases hr
 have hlow:zr4 Q.X:=by
  rw[← hQ];have h0:zr4 rm1.X:=fun k r hr=>absurd hr (hemp k r)
  rcases zkk rm1 s with e | e
  ·rw[e];exact h0.put zd3.good s
  ·rw[e];exact h0
 have hhigh:znn Q.X:=by
  rw[← hQ];have h0:znn rm1.X:=fun k r hr=>absurd hr (hemp k r)
  rcases zkk rm1 s with e | e
  ·rw[e];exact h0.put (fun x hx=>(zaN zd3.pol.ck hx).1) zd3.good s
  ·rw[e];exact h0
 rw[hQ] at hw ⊢;obtain⟨p1,p2,p3,p4⟩:=hp
 have hof:ofQ Q=rmQ:=by
  unfold ofQ;rw[hch];simp only;rw[p1,p2,p3,p4]
  rfl
 have hfs:zaW Q.X.now Q.X.tiers Q.X.floors=rmF:=by rw[p2,p3,p4];rfl
 obtain⟨hrec,hrd⟩:=zqL (Q:=Q) (c:=8) hgood.good (by decide) hlow hhigh hw (by rw[hof,zsc,hfs,p1,p2,p4];rfl) (by rw[hof];have:=zod;omega) (by rw[hfs,p1,p2,p4];exact zrj) (by rw[hfs,p2,p3,p4];exact zrk);rw[hfs] at hrd
 have hlen:(zbZ (zdw Q)).length≤1000000:=by
  have h1:=zfa (c:=8) hrec hgood.good.len
  have h2:Q.X.tabs.length=2:=by rw[hgood.good.tlen,p2];exact zi6.2.2.2.1
  have h3:=zod;rw[zfz];unfold zdw;rw[q8_,q8_,zeB,zam,hof];rw[h2] at h1
  show 8+_+4≤_
  omega
 have hex:zfO Q=(zal (zbZ (zdw Q)),0):=by
  unfold zfO;rw[hof,if_pos zrl,if_neg (by have:=zod;omega),if_pos hrec,if_neg (by omega)]
 refine⟨zbZ (zdw Q),hex,hlen,zfq _,_,hrd,by unfold zaB zce;rfl,?_⟩
 have hof2:ofQ ⟨4096,{Q.X with floors:=rmF},none⟩=ofQ Q:=by
  rw[hof];unfold ofQ;simp only;rw[p1,p2,p4,zpX]
  rfl
 rw[← hex];unfold zfO zdw;rw[hof2]
theorem zsb{B:List UInt8}{Q:StX}{Y:zaa}{n:Int}(hn:0≤n∧n≤4096)(hl:B.length≤1000000)(ho:zbD B=(zdw Q,0))(hr:zb1 (zdw Q)=some Y)(hd:(zaB Y:Int)≤4096)(hx:zfO ⟨4096,Y,none⟩=(zal B,0)):zdh n B=if n<(zaB Y:Int) then 20 else 0:=by
 rw[zdQ hn (by omega) (by rw[ho]),ho];simp only;rw[hr];unfold zrE;simp only;rw[if_neg (by omega),if_pos hx]
theorem aroom_walk(s:List zas)(hsw:∀ y∈s,y.wf)(A:Option Addr)(n c:Nat)(w:World)(hs:Rd w 3 A n (zdz s))(hn9:n≤9223372036854775807)(hmx:MaxL w)(htab:Tab w):
  Calls prog 5 #[.slice A n c] w fun r w'=>r=.returned (.bool true)∧Below w.heap.size w w':=by
 have HMX:=q0_ hmx;have HTB:=q0_ htab;have HA:Hid (∀ W',Fr (fun _=>False) w W'→Calls prog 6 #[] W' fun r w'=>r=.returned (.bool true)∧Below W'.heap.size W' w'):=fun W' f=>zeu W' (hmx.fr f (fun h=>h)) (htab.below (f.below q4_));have HSo:=q0_ (zpR 8 (by omega) s (fun y h=>(hsw y h).2.2) A n c w hs hn9);have HRd:=q0_ hs;have Hsw:=q0_ hsw
 have HNw:Hid (Calls prog 13 #[.int .i64 4096,.string {data:=#[112,111,108,105,99,121,32,119,101,98,10,116,105,101,114,32,114,97,119,32,101,118,101,114,121,32,49,32,107,101,101,112,32,49,48,48,32,115,104,97,114,100,115,32,50,10,116,105,101,114,32,116,101,110,115,32,101,118,101,114,121,32,49,48,32,107,101,101,112,32,49,48,48,48,32,115,104,97,114,100,115,32,49,10]}] w fun r w'=>(∃ g,r=.returned (.tuple #[.pointer (some ⟨g,0,none⟩),.int .i64 0])∧StP w' g w.heap.size rm0 0)∧Below w.heap.size w w'):=by
  refine (zqY 4096 zq6 (by decide) w hmx w.heap.size (Nat.le_refl _)).mono ?_;rintro r w' ⟨⟨h1,_⟩,hb⟩;exact⟨h1 zoc,hb⟩
 have HAd:Hid (∀ j,adF A n j→j<w.heap.size):=fun j hj=>Rd.adlt hs (by decide) j hj;clear hmx htab hs hsw hn9;go_enter func5,ntmps5;go_wp2_with fail;refine HSo.out.mono ?_;rintro r w1 ⟨⟨bv,rfl,_⟩,rfl⟩;clear HSo
 cases bv
 ·go_wp2_with fail
  refine (HA.out _ (Fr.refl _ _)).mono ?_;rintro r w2 ⟨rfl,b2⟩;have F2:=q0_ b2;clear b2;go_wp2;go_ret;exact⟨rfl,F2.out⟩
 go_wp2_with fail;refine HNw.out.mono ?_;rintro r w2 ⟨⟨g,rfl,hs2⟩,b2⟩;have B2:Hid (Below w.heap.size w w2):=b2;have HTk:=q0_ (zr_ zlm (by decide) hs2 60 (by constructor<;>decide));clear b2 hs2 HNw;go_wp2_with fail;refine HTk.out.mono ?_;rw[zri];rintro r w3 ⟨rfl,hs3,b3⟩;have F3:Hid (Fr (fun _=>False) w w3):=Fr.b0 (B2.out.trans b3);have HPu:=q0_ (zr9 zd3 (by decide) hs3 s A n c (HRd.out.fr0 F3.out) Hsw.out HAd.out);clear b3 hs3 HTk B2;go_wp2_with fail;refine HPu.out.mono ?_;rintro r w4 ⟨rfl,hs4,b4⟩;have F4:Hid (Fr (fun _=>False) w w4):=Fr.b0 ((F3.out.below q4_).trans b4);have hg4:za2 (zbI rm1 s) 8:=zd3.put (by decide) s;have hch:(zbI rm1 s).ch=none:=zle rfl s
 obtain⟨B,hex,hBl,hop,Y,hrd,hnY,hexY⟩:=zsa s (fun k m hm=>by
  obtain⟨F,t,Ft,Fs,v,hi,_⟩:=hs4
  exact hi.tio.recs_wf (by have h1:=(List.getElem?_eq_some_iff.1 hm).1;have h2:(zbI rm1 s).X.tabs.length=(zbI rm1 s).X.tiers.length:=hg4.good.tlen;omega) hm)
 have hrm:(zbI rm1 s).room=4096:=by rw[zmj];exact zi6.2.2.2.2
 have hnd:=hg4.need;rw[hch,hrm] at hnd;have HEx:=q0_ (zd_ hg4.fair hch (fun f hf=>by have:=hg4.hfl (by decide) f hf;exact⟨by omega,by omega⟩) (by decide) hs4 (HTB.out.below (F4.out.below q4_)));rw[hex] at HEx
 have HNd:Hid (∀ W',Fr (fun _=>False) w4 W'→Calls prog 11 #[.pointer (some ⟨g,0,none⟩)] W' fun r w'=>r=.returned (.int .i64 (zaB Y:Nat))∧Below W'.heap.size W' w'):=fun W' f=>by
  refine (zrb hg4 (by decide) (hs4.fr0 f)).mono ?_;rintro r w' ⟨rfl,hb⟩;refine⟨?_,hb⟩;rw[hch,hnY]
  show Ending.returned (.int .i64 (((zaB (zbI rm1 s).X:Nat):Int)+0))=_
  rw[Int.add_zero]
 have hnv:((zaB Y:Nat):Int)≤4096:=by
  rw[hnY];have h0:zbv none=0:=rfl;rw[h0] at hnd;omega
 have HIm:Hid (∀ W' (m:Int),0≤m→m≤4096→Fr (fun _=>False) w W'→Calls prog 8 #[.int .i64 m,.string (zal B)] W' fun r w'=>((¬ m<(zaB Y:Int)→∃ g,r=.returned (.tuple #[.pointer (some ⟨g,0,none⟩),.int .i64 0])∧StP w' g W'.heap.size ⟨m,Y,none⟩ 100000∧zbU ⟨m,Y,none⟩ 100000)∧(m<(zaB Y:Int)→r=.returned (.tuple #[.pointer none,.int .i64 20])))∧Below W'.heap.size W' w'):=fun W' m h0 h1 f=>by
  have hE:=zsb ⟨h0,h1⟩ hBl hop hrd hnv hexY;refine (zc9 m B (by omega) W' (HMX.out.fr f (fun h=>h)) (HTB.out.below (f.below q4_))).mono ?_;rintro r w' ⟨hr,hb⟩;refine⟨?_,hb⟩
  rcases hr with ⟨h2,X,g,hX,hf,_,rfl,hp⟩ | ⟨h2,rfl⟩
  ·rw[hop,hrd] at hX
   obtain rfl:=Option.some.inj hX;refine⟨fun _=>⟨g,rfl,hp,hf⟩,fun h=>?_⟩;rw[if_pos h] at hE;omega
  ·refine⟨fun h=>?_,fun h=>?_⟩
   ·rw[if_neg h] at hE
    exact absurd hE h2
   ·rw[if_pos h] at hE
    rw[hE]
 have HNd2:Hid (∀ W' g lo m,StP W' g lo ⟨m,Y,none⟩ 100000→zbU ⟨m,Y,none⟩ 100000→Calls prog 11 #[.pointer (some ⟨g,0,none⟩)] W' fun r w'=>r=.returned (.int .i64 (zaB Y:Nat))∧Below W'.heap.size W' w'):=fun W' g lo m hs hf=>by
  obtain⟨F,ho⟩:=hs;refine (zb7 hf (by decide) ho).mono ?_;rintro r w' ⟨rfl,hb⟩;refine⟨?_,hb⟩
  show Ending.returned (.int .i64 (((zaB Y:Nat):Int)+0))=_
  rw[Int.add_zero]
 obtain⟨nv,hnvv⟩:∃ nv,zaB Y=nv:=⟨_,rfl⟩
 rw[hnvv] at HNd hnv HIm HNd2
 obtain⟨S,hS⟩:∃ S,zal B=S:=⟨_,rfl⟩
 rw[hS] at HEx HIm;clear hg4 hch hex hBl hop hrd hnY hexY hrm hnd hs4 b4 HPu F3 hnvv hS;go_wp2_with fail;refine HEx.out.mono ?_;rintro r w5 ⟨rfl,b5⟩;have F5:Hid (Fr (fun _=>False) w w5):=F4.out.trans (Fr.b0 b5) q4_;have G5:Hid (Fr (fun _=>False) w4 w5):=Fr.b0 b5;clear b5 HEx;go_wp2_with fail;refine (HNd.out _ G5.out).mono ?_;rintro r w6 ⟨rfl,b6⟩;have F6:Hid (Fr (fun _=>False) w w6):=F5.out.trans (Fr.b0 b6) q4_;clear b6 HNd G5 F5 F4;go_wp2_with fail;refine (HIm.out w6 nv (by omega) hnv F6.out).mono ?_;rintro r w7 ⟨⟨hr,_⟩,b7⟩;obtain⟨t,rfl,hs7,hf7⟩:=hr (by omega);have F7:Hid (Fr (fun _=>False) w w7):=F6.out.trans (Fr.b0 b7) q4_;have HS7:=q0_ hs7;have HN7:=q0_ (HNd2.out _ _ _ _ hs7 hf7);clear b7 hr hs7 hf7 F6 HNd2;have q0:((nv:Int)==(nv:Int))=true:=beq_self_eq_true _
 have q1:((nv:Int) != (nv:Int))=false:=by simp
 go_wp2_with fail;refine HN7.out.mono ?_;rintro r w8 ⟨rfl,b8⟩;have F8:Hid (Fr (fun _=>False) w w8):=F7.out.trans (Fr.b0 b8) q4_;have HR:=q0_ (zn0 (HS7.out.fr0 (Fr.b0 b8)));dsimp only at HR;clear b8 HN7 HS7 F7;go_wp2_with fail;refine HR.out.mono ?_;rintro r w9 ⟨rfl,rfl⟩;clear HR
 by_cases hz:nv=0
 ·have z1:((nv:Int)==0)=true:=by simpa using hz
  have z2:(nv:Int)=0:=by omega
  go_wp2_with fail;refine (HA.out _ F8.out).mono ?_;rintro r w10 ⟨rfl,b10⟩;have F10:Hid (Fr (fun _=>False) w w10):=F8.out.trans (Fr.b0 b10) q4_;clear b10;go_wp2;go_ret;exact⟨rfl,F10.out.below q4_⟩
 ·have z1:((nv:Int)==0)=false:=by simpa using hz
  have z2:¬ (nv:Int)=0:=by omega
  have z3:(1:Int)≤(nv:Int):=by omega
  go_wp2_with fail;refine (HIm.out _ ((nv:Int)-1) (by omega) (by omega) F8.out).mono ?_;rintro r w10 ⟨⟨_,hr⟩,b10⟩;obtain rfl:=hr (by omega);have F10:Hid (Fr (fun _=>False) w w10):=F8.out.trans (Fr.b0 b10) q4_;clear b10 hr;go_wp2_with fail;refine (HA.out _ F10.out).mono ?_;rintro r w11 ⟨rfl,b11⟩;have F11:Hid (Fr (fun _=>False) w w11):=F10.out.trans (Fr.b0 b11) q4_;clear b11;go_wp2;go_ret;exact⟨rfl,F11.out.below q4_⟩
end Go.Proofs.YtjhhodndlkpmhaaGreatDoor
