/- Walks of arch.Import, arch.Valid. -/
import Derived.Test.YtjhhodndlkpmhaaGreatDoorArcE
import Derived.Test.YtjhhodndlkpmhaaGreatDoorArcR
namespace Go.Proofs.YtjhhodndlkpmhaaGreatDoor
set_option linter.all false
set_option maxHeartbeats 8000000
set_option maxRecDepth 100000
open Go.RowKit Tryz
def zsC(room:Int)(b:List UInt8)(lo:Nat)(r:Ending)(w':World):Prop:=
 (zdh room b=0∧∃ X g,zb1 (zbD b).1=some X∧zbU ⟨room,X,none⟩ 100000∧(∀ f∈X.floors,zbh f)∧r=.returned (.tuple #[.pointer (some ⟨g,0,none⟩),.int .i64 0])∧StP w' g lo ⟨room,X,none⟩ 100000)∨
 (zdh room b≠0∧r=.returned (.tuple #[.pointer none,.int .i64 (zdh room b)]))
theorem zeO{room:Int}{b:List UInt8}(h:¬ (0≤room∧room≤4096)):zdh room b=1:=by unfold zdh;rw[if_neg h]
theorem zjv{room:Int}{b:List UInt8}(h:0≤room∧room≤4096)(hl:1000000<b.length):zdh room b=2:=by unfold zdh;rw[if_pos h,if_pos hl]
theorem zeP{room:Int}{b:List UInt8}(h:0≤room∧room≤4096)(hl:¬ 1000000<b.length)(ho:¬ (zbD b).2=0):zdh room b=(zbD b).2:=by unfold zdh;rw[if_pos h,if_neg hl,if_neg ho]
theorem zdQ{room:Int}{b:List UInt8}(h:0≤room∧room≤4096)(hl:¬ 1000000<b.length)(ho:(zbD b).2=0):zdh room b=zrE room (zal b) (zb1 (zbD b).1):=by unfold zdh;rw[if_pos h,if_neg hl,if_pos ho]
theorem zop(b:List UInt8):(zbD b).1.length≤b.length:=by
 unfold zbD
 split
 ·exact Nat.zero_le _
 ·split
  ·rw[List.length_take];omega
  ·exact Nat.zero_le _
theorem zc9(room:Int)(b:List UInt8)(hb0:b.length≤1099511627776)(w:World)(hmx0:MaxL w)(htab0:Tab w):
  Calls prog 8 #[.int .i64 room,.string (zal b)] w fun r w'=>zsC room b w.heap.size r w'∧Below w.heap.size w w':=by
 have hmx:=q0_ hmx0;have htab:=q0_ htab0;have hz:=zam b;have HOp:=q0_ (zo2 b hb0 w)
 obtain⟨S,hS⟩:∃ S,zal b=S:=⟨_,rfl⟩
 rw[hS] at hz HOp ⊢;have HS:=q0_ hS
 have hSb:S.size≤1099511627776:=by omega
 clear hmx0 htab0 hb0 hS;unfold zsC
 by_cases h0:room<0
 ·have HE:Hid (zdh room b=1):=zeO (by omega)
  go_enter func8,ntmps8;go_wp2
  go_ret2
  exact⟨.inr ⟨by rw[HE.out];decide,by rw[HE.out];rfl⟩,Below.refl _ _⟩
 have h0':0≤room:=by omega
 by_cases h1:4096<room
 ·have HE:Hid (zdh room b=1):=zeO (by omega)
  go_enter func8,ntmps8;go_wp2
  go_ret2
  exact⟨.inr ⟨by rw[HE.out];decide,by rw[HE.out];rfl⟩,Below.refl _ _⟩
 have h1':room≤4096:=by omega
 have Hr:Hid (0≤room∧room≤4096):=⟨h0',h1'⟩
 clear h0 h1
 by_cases hl:1000000<S.size
 ·have hli:(1000000:Int)<(S.size:Int):=by omega
  have HE:Hid (zdh room b=2):=zjv Hr.out (by omega);go_enter func8,ntmps8;go_wp2
  go_ret2
  exact⟨.inr ⟨by rw[HE.out];decide,by rw[HE.out];rfl⟩,Below.refl _ _⟩
 have hli:(S.size:Int)≤1000000:=by omega
 have HL:Hid (¬ 1000000<b.length):=by show ¬ _;omega
 have HBl:Hid ((zbD b).1.length≤1000000):=by have:=zop b;show _≤_;omega
 obtain⟨⟨body,e⟩,hop⟩:∃ p,zbD b=p:=⟨_,rfl⟩
 have HOe:Hid (zbD b=(body,e)):=hop;rw[hop] at HOp HBl ⊢;dsimp only at HOp HBl ⊢;clear hl hz hop
 by_cases he:e=0
 rotate_left
 ·have he2:(e != 0)=true:=by simpa using he
  have HE:Hid (zdh room b=e):=by show _=_;rw[zeP Hr.out HL.out (by rw[HOe.out];exact he),HOe.out]
  have HNe:=q0_ he;clear he;go_enter func8,ntmps8;go_wp2_with fail;refine HOp.out.mono ?_;rintro r w1 ⟨rfl,b1⟩;have F1:Hid (Below w.heap.size w w1):=b1;clear b1;go_wp2
  go_ret2
  exact⟨.inr ⟨by rw[HE.out];exact HNe.out,by rw[HE.out];rfl⟩,F1.out⟩
 subst he
 have HEm:Hid (zdh room b=zrE room S (zb1 body)):=by
  have:=zdQ Hr.out HL.out (by rw[HOe.out]);rw[HOe.out,HS.out] at this;exact this
 have HRd:Hid (∀ W',Below w.heap.size w W'→Calls prog 20 #[.string (zal body)] W' fun r w'=>zpy body W'.heap.size r w'∧Below W'.heap.size W' w'):=fun W' f=>zpg body HBl.out W' (hmx.out.fr (Fr.b0 f) (fun h=>h)) (htab.out.below f);clear HOe HL HS;go_enter func8,ntmps8;go_wp2_with fail;refine HOp.out.mono ?_;rintro r w1 ⟨rfl,b1⟩;have F1:Hid (Fr (fun _=>False) w w1):=Fr.b0 b1;have HR1:=q0_ (HRd.out w1 b1);clear b1 HOp HRd;go_wp2_with fail;refine HR1.out.mono ?_;rintro r w2 ⟨hr,b2⟩;have F2:Hid (Fr (fun _=>False) w w2):=F1.out.trans (Fr.b0 b2) q4_;have HS1:Hid (w.heap.size≤w1.heap.size):=F1.out.size;clear b2 HR1 F1
 rcases hr with ⟨X,t,F,nm,l,fl,hX,rfl,hp,hnm,hfl,hf64,ht⟩ | ⟨hX,v,rfl⟩
 rotate_left
 ·have HE:Hid (zdh room b=6):=by show _=_;rw[HEm.out,hX];rfl
  clear hX HEm;go_wp2
  go_ret2
  exact⟨.inr ⟨by rw[HE.out];decide,by rw[HE.out];rfl⟩,F2.out.below q4_⟩
 have HX:=q0_ hX;have HP:=q0_ hp;have Hnm:=q0_ hnm;have Hfl:=q0_ hfl;have Hf64:Hid (∀ f∈X.floors,zbh f):=fun f hf=>hf64 f (by rw[← ht.good.floors];exact hf);have T2:=q0_ ht;have HMk:=q0_ (fun (W':World) (f:Fr (fun _=>False) w2 W') (room:Int)=>zmg hp hnm hfl (ht.fr0 f) (by omega) room w.heap.size (Nat.le_trans F2.out.size f.size));have HFr:=q0_ (fun (room:Int)=>zoU hp hnm hfl ht.good room)
 have HE0:Hid (zdh room b=if 4096<zaB X then 6 else if zfO ⟨4096,X,none⟩=(S,0) then (if room<(zaB X:Int) then 20 else 0) else 6):=by show _=_;rw[HEm.out,hX];rfl
 clear hX hp hnm hfl hf64 ht HEm;go_wp2_with fail;refine (HMk.out _ (Fr.refl _ _) 4096).mono ?_;rintro r w3 ⟨⟨k1,k2⟩,b3⟩;have F3:Hid (Fr (fun _=>False) w w3):=F2.out.trans (Fr.b0 b3) q4_;have G3:Hid (Fr (fun _=>False) w2 w3):=Fr.b0 b3;clear b3
 by_cases hn:4096<zaB X
 ·have hm:zdP 4096 X=20:=by unfold zdP;rw[if_pos ⟨by decide,by decide⟩,if_pos (by omega)]
  obtain rfl:=k2 (by rw[hm];decide);rw[hm]
  have HE:Hid (zdh room b=6):=by show _=_;rw[HE0.out,if_pos hn]
  clear k1 k2 hm hn HE0;go_wp2
  go_ret2
  exact⟨.inr ⟨by rw[HE.out];decide,by rw[HE.out];rfl⟩,F3.out.below q4_⟩
 have hm:zdP 4096 X=0:=by unfold zdP;rw[if_pos ⟨by decide,by decide⟩,if_neg (by omega)]
 obtain⟨g3,rfl,hs3⟩:=k1 hm;have HS3:=q0_ hs3;have HEx:=q0_ (zd_ (HFr.out 4096) rfl Hf64.out (by decide) hs3 (htab.out.below (F3.out.below q4_)))
 have HE1:Hid (zdh room b=if zfO ⟨4096,X,none⟩=(S,0) then (if room<(zaB X:Int) then 20 else 0) else 6):=by show _=_;rw[HE0.out,if_neg hn]
 obtain⟨⟨ot,oe⟩,hev⟩:∃ p,zfO ⟨4096,X,none⟩=p:=⟨_,rfl⟩
 rw[hev] at HEx HE1;dsimp only at HEx;clear k1 k2 hm hn HE0 hs3 hev;go_wp2_with fail;refine HEx.out.mono ?_;rintro r w4 ⟨rfl,b4⟩;have F4:Hid (Fr (fun _=>False) w w4):=F3.out.trans (Fr.b0 b4) q4_;have G4:Hid (Fr (fun _=>False) w2 w4):=G3.out.trans (Fr.b0 b4) q4_;clear b4 HEx
 by_cases hoe:oe=0
 rotate_left
 ·have he2:(oe != 0)=true:=by simpa using hoe
  have HE:Hid (zdh room b=6):=by show _=_;rw[HE1.out,if_neg (fun h=>hoe (by injection h))]
  clear hoe HE1;go_wp2
  go_ret2
  exact⟨.inr ⟨by rw[HE.out];decide,by rw[HE.out];rfl⟩,F4.out.below q4_⟩
 subst hoe
 by_cases hot:ot=S
 rotate_left
 ·have q1:(ot.toList==S.toList)=false:=beq_eq_false_iff_ne.2 (fun h=>hot (toList_inj h))
  have q2:(ot.toList != S.toList)=true:=by simpa using q1
  have q3:¬ ot.toList=S.toList:=fun h=>hot (toList_inj h)
  have HE:Hid (zdh room b=6):=by show _=_;rw[HE1.out,if_neg (fun h=>hot (by injection h))]
  clear hot HE1;go_wp2
  go_ret2
  exact⟨.inr ⟨by rw[HE.out];decide,by rw[HE.out];rfl⟩,F4.out.below q4_⟩
 subst hot;have q1:(ot.toList==ot.toList)=true:=beq_self_eq_true _
 have q2:(ot.toList != ot.toList)=false:=by simpa using q1
 have HE2:Hid (zdh room b=zdP room X):=by show _=_;rw[HE1.out,if_pos rfl];unfold zdP;rw[if_pos Hr.out]
 clear HE1;go_wp2_with fail;refine (HMk.out _ G4.out room).mono ?_;rintro r w5 ⟨⟨k1,k2⟩,b5⟩;have F5:Hid (Fr (fun _=>False) w w5):=F4.out.trans (Fr.b0 b5) q4_;clear b5
 by_cases hm:zdP room X=0
 ·obtain⟨g5,rfl,hs5⟩:=k1 hm
  have HS5:=q0_ hs5
  have HE3:Hid (zdh room b=0):=by show _=_;rw[HE2.out,hm]
  clear k1 k2 hm hs5 HE2;go_wp2
  go_ret2
  exact⟨.inl ⟨HE3.out,X,g5,HX.out,HFr.out room,Hf64.out,rfl,HS5.out⟩,F5.out.below q4_⟩
 ·obtain rfl:=k2 hm
  have HE3:Hid (zdh room b≠0):=by show _≠_;rw[HE2.out];exact hm
  have HE4:=q0_ HE2.out
  obtain⟨ev,hev⟩:∃ ev,zdP room X=ev:=⟨_,rfl⟩
  rw[hev] at HE4 ⊢;clear k1 k2 hm hev HE2;go_wp2
  go_ret2
  exact⟨.inr ⟨HE3.out,by rw[HE4.out];rfl⟩,F5.out.below q4_⟩
theorem zfE(b:List UInt8)(hb:b.length≤1099511627776)(w:World)(hmx:MaxL w)(htab:Tab w):
  Calls prog 9 #[.string (zal b)] w fun r w'=>r=.returned (.bool (zdh 4096 b==0))∧Below w.heap.size w w':=by
 have HI:=q0_ (zc9 4096 b hb w hmx htab)
 obtain⟨S,hS⟩:∃ S,zal b=S:=⟨_,rfl⟩
 rw[hS] at HI ⊢
 obtain⟨e,he⟩:∃ e,zdh 4096 b=e:=⟨_,rfl⟩
 have He:=q0_ he;rw[he];clear hb hmx htab hS he;go_enter func9,ntmps9;go_wp2_with fail;refine HI.out.mono ?_;rintro r w1 ⟨hr,b1⟩;have F1:=q0_ b1;unfold zsC at hr;rw[He.out] at hr;clear b1
 rcases hr with ⟨h0,X,g,_,_,_,rfl,_⟩ | ⟨h0,rfl⟩
 ·subst h0
  go_wp2;go_ret;exact⟨rfl,F1.out⟩
 ·have h1:(e==0)=false:=by simpa using h0
  clear h0;go_wp2;go_ret;exact⟨by first | rfl | (rw[h1];rfl) | simp[h1],F1.out⟩
def zj6:StX:=zho 20 (zaY zq6)
theorem zlT:zcL 20 (zaY zq6)=0:=by
 unfold zcL;rw[if_pos ⟨by decide,by decide⟩];exact ziK
theorem zjW:za2 zj6 0:=zhn zlT
def zdY:List UInt8:=zbZ (zdw zj6)
theorem ze0:zdY.length≤1000∧8<zdY.length:=by decide+kernel
theorem zqO:zdY.take 8=zbc:=by decide+kernel
theorem zlV:zfO zj6=(zal zdY,0):=by
 have h1:zo6 (ofQ zj6)=true:=by decide+kernel
 have h2:(zha (ofQ zj6)).length≤40000:=by decide+kernel
 have h3:zj6.X.tabs.all (fun m=>m.all za0)=true:=by decide+kernel
 have h4:=ze0.1;unfold zfO;rw[if_pos h1,if_neg (by omega),if_pos h3]
 show (if 1000000<zdY.length then _ else _)=_
 rw[if_neg (by omega)]
 rfl
def zhf:zaa:=zfZ zj6.X.name zj6.X.tiers 0 (zaW 0 zj6.X.tiers [])
theorem zpk:zb1 (zdw zj6)=some zhf:=by kernel_rfl
theorem zjV:zaB zhf=0:=zjm _ _ _ _
theorem zrZ:ofQ ⟨4096,zhf,none⟩=ofQ zj6:=by kernel_rfl
theorem zpj:zhf.tabs=zj6.X.tabs:=by kernel_rfl
theorem zqP:zfO ⟨4096,zhf,none⟩=(zal zdY,0):=by
 rw[← zlV];unfold zfO zdw;rw[zrZ];dsimp only;rw[zpj]
theorem zlU{room:Int}(h:0≤room∧room≤4096):zdh room zdY=0:=by
 have ho:zbD zdY=(zdw zj6,0):=zfq _;have hl:=ze0.1;rw[zdQ h (by omega) (by rw[ho]),ho];simp only;rw[zpk];unfold zrE;simp only;rw[zjV,zqP,if_neg (by omega),if_pos rfl,if_neg (by have:=h.1;show ¬ room<0;omega)]
theorem zeu(w:World)(hmx:MaxL w)(htab:Tab w):Calls prog 6 #[] w fun r w'=>r=.returned (.bool true)∧Below w.heap.size w w':=by
 have HMX:=q0_ hmx;have HTB:=q0_ htab
 have HNw:Hid (Calls prog 13 #[.int .i64 20,.string {data:=#[112,111,108,105,99,121,32,119,101,98,10,116,105,101,114,32,114,97,119,32,101,118,101,114,121,32,49,32,107,101,101,112,32,49,48,48,32,115,104,97,114,100,115,32,50,10,116,105,101,114,32,116,101,110,115,32,101,118,101,114,121,32,49,48,32,107,101,101,112,32,49,48,48,48,32,115,104,97,114,100,115,32,49,10]}] w fun r w'=>(∃ g,r=.returned (.tuple #[.pointer (some ⟨g,0,none⟩),.int .i64 0])∧StP w' g w.heap.size zj6 0)∧Below w.heap.size w w'):=by
  refine (zqY 20 zq6 (by decide) w hmx w.heap.size (Nat.le_refl _)).mono ?_;rintro r w' ⟨⟨h1,_⟩,hb⟩;exact⟨h1 zlT,hb⟩
 have HIm:Hid (∀ W',Fr (fun _=>False) w W'→Calls prog 8 #[.int .i64 50,.string (zal zdY)] W' fun r w'=>(∃ g,r=.returned (.tuple #[.pointer (some ⟨g,0,none⟩),.int .i64 0])∧StP w' g W'.heap.size ⟨50,zhf,none⟩ 100000∧zbU ⟨50,zhf,none⟩ 100000)∧Below W'.heap.size W' w'):=fun W' f=>by
  refine (zc9 50 zdY (by have:=ze0.1;omega) W' (hmx.fr f (fun h=>h)) (htab.below (f.below q4_))).mono ?_;rintro r w' ⟨hr,hb⟩;refine⟨?_,hb⟩
  rcases hr with ⟨_,X,g,hX,hf,_,rfl,hs⟩ | ⟨hne,_⟩
  ·have ho:zbD zdY=(zdw zj6,0):=zfq _
   rw[ho] at hX;obtain rfl:=Option.some.inj (zpk.symm.trans hX);exact⟨g,rfl,hs,hf⟩
  ·exact absurd (zlU ⟨by decide,by decide⟩) hne
 have HVa:Hid (∀ W',Fr (fun _=>False) w W'→Calls prog 9 #[.string (zal zdY)] W' fun r w'=>r=.returned (.bool true)∧Below W'.heap.size W' w'):=fun W' f=>by
  have:=zfE zdY (by have:=ze0.1;omega) W' (hmx.fr f (fun h=>h)) (htab.below (f.below q4_));rw[zlU ⟨by decide,by decide⟩] at this;exact this
 have HExp:Hid (∀ W' g,Fr (fun _=>False) w W'→StP W' g w.heap.size zj6 0→Calls prog 10 #[.pointer (some ⟨g,0,none⟩)] W' fun r w'=>r=.returned (.tuple #[.string (zal zdY),.int .i64 0])∧Below W'.heap.size W' w'):=fun W' g f hs=>by
  have:=zd_ zjW.fair rfl (fun f hf=>by have:=zjW.hfl (by decide) f hf;exact⟨by omega,by omega⟩) (by decide) hs (htab.below (f.below q4_));rw[zlV] at this;exact this
 have hz:=zam zdY;have hl:=ze0.2
 have HEx8:Hid ((zal zdY).extract 0 8=⟨#[83,69,68,65,82,67,72,49]⟩):=by show _=_;rw[zaP,zqO];rfl
 have HNd:Hid (∀ W' g lo,StP W' g lo ⟨50,zhf,none⟩ 100000→zbU ⟨50,zhf,none⟩ 100000→Calls prog 11 #[.pointer (some ⟨g,0,none⟩)] W' fun r w'=>r=.returned (.int .i64 0)∧Below W'.heap.size W' w'):=fun W' g lo hs hf=>by
  obtain⟨F,ho⟩:=hs;refine (zb7 hf (by decide) ho).mono ?_;rintro r w' ⟨rfl,hb⟩;refine⟨?_,hb⟩
  show Ending.returned (.int .i64 (((zaB zhf:Nat):Int)+0))=_
  rw[zjV]
  rfl
 obtain⟨S,hS⟩:∃ S,zal zdY=S:=⟨_,rfl⟩
 rw[hS] at HIm HVa HExp hz HEx8
 have hS8:(8:Int)<(S.size:Int):=by omega
 have hS8n:8≤S.size:=by omega
 have hS8i:(8:Int)≤(S.size:Int):=by omega
 clear hmx htab hS hz hl;go_enter func6,ntmps6;go_wp2_with fail;refine HNw.out.mono ?_;rintro r w1 ⟨⟨g,rfl,h1⟩,b1⟩;have F1:Hid (Fr (fun _=>False) w w1):=Fr.b0 b1;have HE:=q0_ (HExp.out w1 g (Fr.b0 b1) h1);clear h1 b1 HNw HExp;go_wp2_with fail;refine HE.out.mono ?_;rintro r w2 ⟨rfl,b2⟩;have F2:Hid (Fr (fun _=>False) w w2):=F1.out.trans (Fr.b0 b2) q4_;clear b2 F1 HE;go_wp2_with fail;refine (HIm.out _ F2.out).mono ?_;rintro r w3 ⟨⟨t,rfl,hs,hf⟩,b3⟩;have F3:Hid (Fr (fun _=>False) w w3):=F2.out.trans (Fr.b0 b3) q4_;have HS:=q0_ hs;have HN:=q0_ (HNd.out _ _ _ hs hf);clear hs hf b3 HNd F2 HIm;go_wp2_with fail;refine HN.out.mono ?_;rintro r w4 ⟨rfl,b4⟩;have F4:Hid (Fr (fun _=>False) w w4):=F3.out.trans (Fr.b0 b4) q4_;have HR:=q0_ (zn0 (HS.out.fr0 (Fr.b0 b4)));clear b4 F3 HS HN;go_wp2_with fail;refine HR.out.mono ?_;rintro r w5 ⟨rfl,rfl⟩;dsimp only;go_wp2_with fail;refine (HVa.out _ F4.out).mono ?_;rintro r w6 ⟨rfl,b6⟩;have F6:Hid (Fr (fun _=>False) w w6):=F4.out.trans (Fr.b0 b6) q4_;clear b6 F4;have hx8:=HEx8.out;have hx8b:S.extract 0 8={data:=#[83,69,68,65,82,67,72,49]}:=hx8;go_wp2;go_ret;exact⟨by first | rfl | (simp[hx8b]),F6.out.below q4_⟩
end Go.Proofs.YtjhhodndlkpmhaaGreatDoor
