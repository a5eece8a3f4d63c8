/- The document's Close: a text of four bytes more. -/
import Derived.Test.YtjhhodndlkpmhaaGreatDoorArcI
namespace Go.Proofs.YtjhhodndlkpmhaaGreatDoor
set_option linter.all false
set_option maxHeartbeats 8000000
set_option maxRecDepth 100000
open Go.RowKit Tryz
theorem zpV(s:ByteArray)(hs:s.size≤1099511627776)(w:World):
  Calls prog 18 #[.string s] w fun r w'=>(∃ v,zqo v∧r=.returned (.int .u32 v))∧w=w':=by
 have hn:(s.size:Int)≤1099511627776:=by omega
 clear hs;unfold zqo;go_enter func18,ntmps18;go_wp2_with fail
 go_loopw [3,4] (fun x i wr=>∃ (j:Nat) (u:Int),j≤s.size∧x=.int .u32 u∧i=.int .i64 j∧w=wr∧0≤u∧u<4294967296) (fun _ i _=>s.size-(intOf i).toNat)
 case atStart=>exact⟨0,4294967295,Nat.zero_le _,rfl,rfl,rfl,by decide,by decide⟩
 case round=>
  obtain⟨j,u,hj,rfl,rfl,rfl,u0,u1⟩:=hrel
  by_cases hlj:j<s.size
  ·have hb1:s[j].toNat<256:=s[j].toNat_lt
   have HX:=q0_ (zq5 u s[j].toNat);go_wp2_with fail
   go_loopw [3,5] (fun x i wr=>∃ (m:Nat) (t:Int),m≤8∧x=.int .u32 t∧i=.int .i64 m∧w=wr∧0≤t∧t<4294967296) (fun _ i _=>8-(intOf i).toNat)
   case atStart=>exact⟨0,_,Nat.zero_le _,rfl,rfl,rfl,HX.out.1,HX.out.2⟩
   case round=>
    obtain⟨m,t,hm,rfl,rfl,rfl,t0,t1⟩:=hrel
    by_cases hlm:m<8
    ·have h2:t.tmod 2=t%2:=Int.tmod_eq_emod_of_nonneg t0
     have h3:t.tdiv 2=t / 2:=Int.tdiv_eq_ediv_of_nonneg t0;have HY:=q0_ (zq5 (t / 2) 3945912366)
     by_cases ho:t%2=1
     ·go_wp2
      go_roundw
      case rel=>exact⟨m+1,_,by omega,rfl,by go_num,by trivial,HY.out.1,HY.out.2⟩
      case measure=>simp[intOf];omega
     ·go_wp2
      go_roundw
      case rel=>exact⟨m+1,_,by omega,rfl,by go_num,by trivial,by omega,by omega⟩
      case measure=>simp[intOf];omega
    ·obtain rfl:m=8:=by omega
     go_wp2
     go_roundw
     case rel=>exact⟨j+1,t,by omega,rfl,by go_num,by trivial,t0,t1⟩
     case measure=>simp[intOf];omega
  ·go_wp2
   go_ret;exact⟨⟨_,⟨by omega,by omega⟩,rfl⟩,rfl⟩
theorem zof(v:Int)(hv:zqo v)(w:World):
  Calls prog 17 #[.int .u32 v] w fun r w'=>(∃ t:ByteArray,t.size=4∧r=.returned (.string t))∧Below w.heap.size w w':=by
 obtain⟨v0,v1⟩:=hv
 have hcv:(convert 61 9 (.slice (some ⟨w.heap.size,0,none⟩) 4 4)).run prog (w.alloc (.cells #[.int .u8 (v%256),.int .u8 (v / 256%256),.int .u8 (v / 65536%256),.int .u8 (v / 16777216)] 5))=.ok (.string ⟨#[UInt8.ofNat (v%256).toNat,UInt8.ofNat (v / 256%256).toNat,UInt8.ofNat (v / 65536%256).toNat,UInt8.ofNat (v / 16777216).toNat]⟩) (w.alloc (.cells #[.int .u8 (v%256),.int .u8 (v / 256%256),.int .u8 (v / 65536%256),.int .u8 (v / 16777216)] 5)):=by
  have e:∀ x:Int,0≤x→x<256→Value.int .u8 ((UInt8.ofNat x.toNat).toNat:Int)=.int .u8 x:=fun x h0 h1=>by
   have h2:(UInt8.ofNat x.toNat).toNat=x.toNat:=by simp;omega
   rw[h2,Int.toNat_of_nonneg h0]
  have h:Rd (w.alloc (.cells #[.int .u8 (v%256),.int .u8 (v / 256%256),.int .u8 (v / 65536%256),.int .u8 (v / 16777216)] 5)) 1 (some ⟨w.heap.size,0,none⟩) 4 (bys [UInt8.ofNat (v%256).toNat,UInt8.ofNat (v / 256%256).toNat,UInt8.ofNat (v / 65536%256).toNat,UInt8.ofNat (v / 16777216).toNat]):=by
   unfold bys;simp only[List.map_cons,List.map_nil];rw[e _ (by omega) (by omega),e _ (by omega) (by omega),e _ (by omega) (by omega),e _ (by omega) (by omega)];exact Rd.new _ _ _ _ rfl
  exact zdA 61 9 5 underlying61 underlying5 underlying9 4 h
 go_enter func17,ntmps17;go_wp2;go_ret;exact⟨⟨_,rfl,rfl⟩,(Fr.none_alloc _ _).below q4_⟩
theorem zmv(s:ByteArray)(hs:s.size≤1000000)(w:World):
  Calls prog 7 #[.string s] w fun r w'=>(∃ t:ByteArray,t.size=s.size+4∧r=.returned (.string t))∧Below w.heap.size w w':=by
 have HS:=q0_ (zpV s (by omega) w);go_enter func7,ntmps7;go_wp2_with fail;refine HS.out.mono ?_;rintro r w1 ⟨⟨v,hv,rfl⟩,rfl⟩;have HF:=q0_ (zof v hv w);clear hv HS;go_wp2_with fail;refine HF.out.mono ?_;rintro r w2 ⟨⟨t,ht,rfl⟩,b2⟩;have HB:=q0_ b2;have HT:=q0_ ht
 have htb:t.size≤4:=by omega
 clear b2 HF ht;go_wp2;go_ret;exact⟨⟨_,by rw[ByteArray.size_append,HT.out],rfl⟩,HB.out⟩
theorem zkH(b:List UInt8):(zbD b).2=0∨(zbD b).2=5∨(zbD b).2=7:=by
 unfold zbD
 split
 ·exact .inr (.inl rfl)
 ·split
  ·exact .inl rfl
  ·exact .inr (.inr rfl)
theorem zmT{room:Int}{b:List UInt8}(h:0≤room∧room≤4096)(hl:¬ 1000000<b.length):zdh room b=0∨zdh room b=5∨zdh room b=7∨zdh room b=6∨zdh room b=20:=by
 by_cases ho:(zbD b).2=0
 ·rw[zdQ h hl ho]
  unfold zrE
  split
  ·exact .inr (.inr (.inr (.inl rfl)))
  ·split
   ·exact .inr (.inr (.inr (.inl rfl)))
   ·split
    ·split
     ·exact .inr (.inr (.inr (.inr rfl)))
     ·exact .inl rfl
    ·exact .inr (.inr (.inr (.inl rfl)))
 ·rw[zeP h hl ho]
  rcases zkH b with e | e | e
  ·exact absurd e ho
  ·exact .inr (.inl e)
  ·exact .inr (.inr (.inl e))
theorem zoH{room:Int}{b:List UInt8}{X:zaa}(h:zdh room b=0)(hX:zb1 (zbD b).1=some X):zfO ⟨4096,X,none⟩=(zal b,0)∧zaB X≤4096:=by
 by_cases hr:0≤room∧room≤4096
 ·by_cases hl:1000000<b.length
  ·rw[zjv hr hl] at h;cases h
  ·by_cases ho:(zbD b).2=0
   ·rw[zdQ hr hl ho,hX] at h
    unfold zrE at h;dsimp only at h
    by_cases h1:4096<zaB X
    ·rw[if_pos h1] at h;cases h
    ·rw[if_neg h1] at h
     by_cases h2:zfO ⟨4096,X,none⟩=(zal b,0)
     ·exact⟨h2,by omega⟩
     ·rw[if_neg h2] at h;cases h
   ·rw[zeP hr hl ho] at h
    exact absurd h ho
 ·rw[zeO hr] at h;cases h
theorem zmS(s:ByteArray)(hs:s.size≤4004)(w:World)(hmx:MaxL w)(htab:Tab w):
  Calls prog 8 #[.int .i64 4096,.string s] w fun r w'=>((∃ g X,zdh 4096 s.data.toList=0∧r=.returned (.tuple #[.pointer (some ⟨g,0,none⟩),.int .i64 0])∧StP w' g w.heap.size ⟨4096,X,none⟩ 100000∧zbU ⟨4096,X,none⟩ 100000∧(∀ f∈X.floors,zbh f)∧zfO ⟨4096,X,none⟩=(s,0)∧zaB X≤4096)∨
   (∃ e,(e=5∨e=7∨e=6∨e=20)∧zdh 4096 s.data.toList=e∧r=.returned (.tuple #[.pointer none,.int .i64 e])))∧Below w.heap.size w w':=by
 have hl:s.data.toList.length≤4004:=by rw[zbj];exact hs
 have h:=zc9 4096 s.data.toList (by omega) w hmx htab;rw[zcG] at h;refine h.mono ?_;rintro r w' ⟨hr,hb⟩;refine⟨?_,hb⟩
 rcases hr with ⟨h0,X,g,hX,hf,hfl,rfl,hp⟩ | ⟨hne,rfl⟩
 ·have hz:=zoH h0 hX
  rw[zcG] at hz;exact .inl ⟨g,X,h0,rfl,hp,hf,hfl,hz.1,hz.2⟩
 ·have hw:=zmT (room:=4096) (b:=s.data.toList) ⟨by decide,by decide⟩ (by omega)
  refine .inr ⟨_,?_,rfl,rfl⟩
  rcases hw with e | e
  ·exact absurd e hne
  ·exact e
theorem abytes_walk(b:ByteArray)(hb:b.size≤maxLen)(seal_:Bool)(w:World)(hmx:MaxL w)(htab:Tab w):Calls prog 3 #[.string b,.bool seal_] w fun r w'=>r=.returned (.bool true)∧Below w.heap.size w w':=by
 have HTb:=q0_ htab;have HA:Hid (∀ W',Fr (fun _=>False) w W'→Calls prog 6 #[] W' fun r w'=>r=.returned (.bool true)∧Below W'.heap.size W' w'):=fun W' f=>zeu W' (hmx.fr f (fun h=>h)) (htab.below (f.below q4_));have HI:=q0_ (fun (s:ByteArray) (W':World) (hs:s.size≤4004) (f:Fr (fun _=>False) w W')=>zmS s hs W' (hmx.fr f (fun h=>h)) (htab.below (f.below q4_)))
 have HV:Hid (∀ (s:ByteArray) (W':World),s.size≤4004→Fr (fun _=>False) w W'→Calls prog 9 #[.string s] W' fun r w'=>r=.returned (.bool (zdh 4096 s.data.toList==0))∧Below W'.heap.size W' w'):=fun s W' hs f=>by
  have:=zfE s.data.toList (by rw[zbj];omega) W' (hmx.fr f (fun h=>h)) (htab.below (f.below q4_));rw[zcG] at this;exact this
 have hb2:(b.size:Int)≤9223372036854775807:=by unfold maxLen at hb;omega
 clear hmx htab hb
 by_cases hl:4000<b.size
 ·have hli:(4000:Int)<(b.size:Int):=by omega
  go_enter func3,ntmps3;go_wp2_with fail;refine (HA.out w (Fr.refl _ _)).mono ?_;rintro r w1 ⟨rfl,b1⟩;have F1:=q0_ b1;clear b1;go_wp2;go_ret;exact⟨rfl,F1.out⟩
 have hli:(b.size:Int)≤4000:=by omega
 cases seal_
 ·have hsz:b.size≤4004:=by omega
  have F1:Hid (Fr (fun _=>False) w w):=Fr.refl _ _;go_enter func3,ntmps3;go_wp2_with fail;clear hl hli hb2;refine (HI.out b w hsz F1.out).mono ?_;rintro r w2 ⟨hr,b2⟩;have F2:Hid (Fr (fun _=>False) w w2):=F1.out.trans (Fr.b0 b2) q4_;have HVs:=q0_ (HV.out b w2 hsz F2.out);clear b2
  rcases hr with ⟨g,X,he,rfl,hs,hf,hfl,hex,hn⟩ | ⟨e,hcs,he,rfl⟩
  ·rw[he] at HVs
   have HX:=q0_ hf
   have HE:Hid (∀ W',Fr (fun _=>False) w2 W'→Calls prog 10 #[.pointer (some ⟨g,0,none⟩)] W' fun r w'=>r=.returned (.tuple #[.string b,.int .i64 0])∧Below W'.heap.size W' w'):=fun W' f=>by
    have:=zd_ hf rfl hfl (by decide) (hs.fr0 f) (HTb.out.below ((F2.out.trans f q4_).below q4_));rw[hex] at this;exact this
   have HNd:Hid (∀ W',Fr (fun _=>False) w2 W'→Calls prog 11 #[.pointer (some ⟨g,0,none⟩)] W' fun r w'=>r=.returned (.int .i64 (zaB X:Nat))∧Below W'.heap.size W' w'):=fun W' f=>by
    obtain⟨F,ho⟩:=hs.fr0 f;refine (zb7 hf (by decide) ho).mono ?_;rintro r w' ⟨rfl,hb⟩;refine⟨?_,hb⟩
    show Ending.returned (.int .i64 (((zaB X:Nat):Int)+0))=_
    rw[Int.add_zero]
   obtain⟨nv,hnv⟩:∃ n,zaB X=n:=⟨_,rfl⟩
   rw[hnv] at HNd hn
   have hn2:(nv:Int)≤4096:=by omega
   have q1:(b.toList==b.toList)=true:=beq_self_eq_true _;clear he hs hf hfl hex hnv hn;go_wp2_with fail;refine HVs.out.mono ?_;rintro r w3 ⟨rfl,b3⟩;have F3:Hid (Fr (fun _=>False) w w3):=F2.out.trans (Fr.b0 b3) q4_;have G3:Hid (Fr (fun _=>False) w2 w3):=Fr.b0 b3;clear b3 HVs;go_wp2_with fail;refine (HE.out _ G3.out).mono ?_;rintro r w4 ⟨rfl,b4⟩;have F4:Hid (Fr (fun _=>False) w w4):=F3.out.trans (Fr.b0 b4) q4_;have G4:Hid (Fr (fun _=>False) w2 w4):=G3.out.trans (Fr.b0 b4) q4_;clear b4 HE;go_wp2_with fail;refine (HA.out _ F4.out).mono ?_;rintro r w5 ⟨rfl,b5⟩;have F5:Hid (Fr (fun _=>False) w w5):=F4.out.trans (Fr.b0 b5) q4_;have G5:Hid (Fr (fun _=>False) w2 w5):=G4.out.trans (Fr.b0 b5) q4_;clear b5;go_wp2_with fail;refine (HNd.out _ G5.out).mono ?_;rintro r w6 ⟨rfl,b6⟩;have F6:Hid (Fr (fun _=>False) w w6):=F5.out.trans (Fr.b0 b6) q4_;clear b6;go_wp2;go_ret;exact⟨by first | rfl | simp[hn2],F6.out.below q4_⟩
  ·rw[he] at HVs
   have Hcs:=q0_ hcs
   have hne:e≠0:=by omega
   have q1:(e==0)=false:=by simpa using hne
   have q2:(e != 0)=true:=by simpa using hne
   rw[q1] at HVs;clear he hcs hne;go_wp2_with fail;refine HVs.out.mono ?_;rintro r w3 ⟨rfl,b3⟩;have F3:Hid (Fr (fun _=>False) w w3):=F2.out.trans (Fr.b0 b3) q4_;clear b3 HVs;go_wp2_with fail;refine (HA.out _ F3.out).mono ?_;rintro r w4 ⟨rfl,b4⟩;have F4:Hid (Fr (fun _=>False) w w4):=F3.out.trans (Fr.b0 b4) q4_;clear b4
   rcases Hcs.out with rfl | rfl | rfl | rfl
   all_goals (go_wp2;go_ret;exact⟨rfl,F4.out.below q4_⟩)
 ·have HC:=q0_ (zmv b (by omega) w)
  go_enter func3,ntmps3;go_wp2_with fail;refine HC.out.mono ?_;rintro r W ⟨⟨s,hs,rfl⟩,b1⟩;have F1:Hid (Fr (fun _=>False) w W):=Fr.b0 b1
  have hsz:s.size≤4004:=by omega
  clear b1 hs hl hli hb2 HC;go_wp2_with fail;refine (HI.out s W hsz F1.out).mono ?_;rintro r w2 ⟨hr,b2⟩;have F2:Hid (Fr (fun _=>False) w w2):=F1.out.trans (Fr.b0 b2) q4_;have HVs:=q0_ (HV.out s w2 hsz F2.out);clear b2
  rcases hr with ⟨g,X,he,rfl,hs,hf,hfl,hex,hn⟩ | ⟨e,hcs,he,rfl⟩
  ·rw[he] at HVs
   have HX:=q0_ hf
   have HE:Hid (∀ W',Fr (fun _=>False) w2 W'→Calls prog 10 #[.pointer (some ⟨g,0,none⟩)] W' fun r w'=>r=.returned (.tuple #[.string s,.int .i64 0])∧Below W'.heap.size W' w'):=fun W' f=>by
    have:=zd_ hf rfl hfl (by decide) (hs.fr0 f) (HTb.out.below ((F2.out.trans f q4_).below q4_));rw[hex] at this;exact this
   have HNd:Hid (∀ W',Fr (fun _=>False) w2 W'→Calls prog 11 #[.pointer (some ⟨g,0,none⟩)] W' fun r w'=>r=.returned (.int .i64 (zaB X:Nat))∧Below W'.heap.size W' w'):=fun W' f=>by
    obtain⟨F,ho⟩:=hs.fr0 f;refine (zb7 hf (by decide) ho).mono ?_;rintro r w' ⟨rfl,hb⟩;refine⟨?_,hb⟩
    show Ending.returned (.int .i64 (((zaB X:Nat):Int)+0))=_
    rw[Int.add_zero]
   obtain⟨nv,hnv⟩:∃ n,zaB X=n:=⟨_,rfl⟩
   rw[hnv] at HNd hn
   have hn2:(nv:Int)≤4096:=by omega
   have q1:(s.toList==s.toList)=true:=beq_self_eq_true _;clear he hs hf hfl hex hnv hn;go_wp2_with fail;refine HVs.out.mono ?_;rintro r w3 ⟨rfl,b3⟩;have F3:Hid (Fr (fun _=>False) w w3):=F2.out.trans (Fr.b0 b3) q4_;have G3:Hid (Fr (fun _=>False) w2 w3):=Fr.b0 b3;clear b3 HVs;go_wp2_with fail;refine (HE.out _ G3.out).mono ?_;rintro r w4 ⟨rfl,b4⟩;have F4:Hid (Fr (fun _=>False) w w4):=F3.out.trans (Fr.b0 b4) q4_;have G4:Hid (Fr (fun _=>False) w2 w4):=G3.out.trans (Fr.b0 b4) q4_;clear b4 HE;go_wp2_with fail;refine (HA.out _ F4.out).mono ?_;rintro r w5 ⟨rfl,b5⟩;have F5:Hid (Fr (fun _=>False) w w5):=F4.out.trans (Fr.b0 b5) q4_;have G5:Hid (Fr (fun _=>False) w2 w5):=G4.out.trans (Fr.b0 b5) q4_;clear b5;go_wp2_with fail;refine (HNd.out _ G5.out).mono ?_;rintro r w6 ⟨rfl,b6⟩;have F6:Hid (Fr (fun _=>False) w w6):=F5.out.trans (Fr.b0 b6) q4_;clear b6;go_wp2;go_ret;exact⟨by first | rfl | simp[hn2],F6.out.below q4_⟩
  ·rw[he] at HVs
   have Hcs:=q0_ hcs
   have hne:e≠0:=by omega
   have q1:(e==0)=false:=by simpa using hne
   have q2:(e != 0)=true:=by simpa using hne
   rw[q1] at HVs;clear he hcs hne;go_wp2_with fail;refine HVs.out.mono ?_;rintro r w3 ⟨rfl,b3⟩;have F3:Hid (Fr (fun _=>False) w w3):=F2.out.trans (Fr.b0 b3) q4_;clear b3 HVs;go_wp2_with fail;refine (HA.out _ F3.out).mono ?_;rintro r w4 ⟨rfl,b4⟩;have F4:Hid (Fr (fun _=>False) w w4):=F3.out.trans (Fr.b0 b4) q4_;clear b4
   rcases Hcs.out with rfl | rfl | rfl | rfl
   all_goals (go_wp2;go_ret;exact⟨rfl,F4.out.below q4_⟩)
end Go.Proofs.YtjhhodndlkpmhaaGreatDoor
