/- Walks of state: Need, Copy, Tick, New. -/
import Derived.Test.YtjhhodndlkpmhaaGreatDoorStA
import Derived.Test.YtjhhodndlkpmhaaGreatDoorParseT
import Derived.Test.YtjhhodndlkpmhaaGreatDoorStRun
namespace Go.Proofs.YtjhhodndlkpmhaaGreatDoor
set_option linter.all false
set_option maxHeartbeats 8000000
set_option maxRecDepth 100000
open Go.RowKit Tryz
section
variable {W:World} {g lo:Nat} {Q:StX} {c t:Nat} {Ft Fs F:Nat→Prop} {v:Value}
theorem zgZ{o:Option ShX}(h:zg8 W lo o v Fs):Calls prog 36 #[v] W fun r w'=>r=.returned (.int .i64 (zbv o))∧W=w':=by
 cases o with
 | none=>obtain⟨rfl,_⟩:=h;exact zmo W
 | some S=>
  obtain⟨s,base,_,rfl,hs⟩:=h;exact zhp s base S W hs.at_
theorem za2.bound(hg:za2 Q c):0≤zbv Q.ch∧zbv Q.ch≤4096:=by
 have h1:=hg.need;have h2:=hg.room;refine⟨?_,by omega⟩
 cases hc:Q.ch with
 | none=>exact Int.le_refl _
 | some S=>exact (hg.ch S hc).b0
theorem zb7(hg:zbU Q c)(hc:c≤1000000)(h:zf6 W g lo Q c F):Calls prog 11 #[.pointer (some ⟨g,0,none⟩)] W fun r w'=>r=.returned (.int .i64 (((zaB Q.X:Nat):Int)+zbv Q.ch))∧Below W.heap.size W w':=by
 obtain⟨t,Ft,Fs,v,hi,rfl⟩:=h;have HN:=q0_ (zfe hi);have hb:=hg.bd;have hn:=zhE hg.pol hg.good hc;have HNd:Hid (∀ W',Fr (fun _=>False) W W'→Calls prog 35 #[.pointer (some ⟨t,0,none⟩)] W' fun r w'=>r=.returned (.int .i64 (zaB Q.X:Nat))∧Below W'.heap.size W' w'):=fun W' f=>zh7 hg.pol (hi.fr0 f).tio hc;have HBd:Hid (∀ W',Fr (fun _=>False) W W'→Calls prog 36 #[v] W' fun r w'=>r=.returned (.int .i64 (zbv Q.ch))∧W'=w'):=fun W' f=>zgZ (hi.fr0 f).ch;have HC:Hid (∀ W',Fr (fun _=>False) W W'→W'.cell? ⟨g,1,none⟩=some (.pointer (some ⟨t,0,none⟩))∧W'.cell? ⟨g,2,none⟩=some v):=fun W' f=>(hi.cells f (fun h=>h)).2
 obtain⟨bd,hbd⟩:∃ b,zbv Q.ch=b:=⟨_,rfl⟩
 obtain⟨nv,hnv⟩:∃ n,zaB Q.X=n:=⟨_,rfl⟩
 rw[hbd] at HBd hb ⊢;rw[hnv] at HNd hn ⊢;have HAd:Hid (∀ W',Calls prog 34 #[.int .i64 (nv:Int),.int .i64 bd] W' fun r w'=>r=.returned (.int .i64 ((nv:Int)+bd))∧W'=w'):=fun W'=>ziT _ _ W' (by omega) hb.1 (by omega);clear hi hbd hnv;go_enter func11,ntmps11;go_wp2_with fail;refine HN.out.mono ?_;rintro r w1 ⟨rfl,rfl⟩;go_wp2_with fail;refine wp_region_held_drew (S:=fun W'=>Fr (fun _=>False) W W') (by kernel_rfl) ((Fr.refl _ W).drew) (fun hY_=>?_);refine tq 9 [0,1,2,3,4,6,7,8,9] ?_
 iterate 8 refine sf HC.out ?_
 refine sf HC.out ?_
 try simp only[Act.put,sA,sB,sC]
 refine sz ?_
 try simp only[Act.put,sA,sB,sC]
 refine rl 5 rfl (fun K hK=>?_);go_simp
 go_wp2_with (go_at_call 35;refine (HNd.out _ hY_).mono ?_;rintro r wa ⟨rfl,ba⟩)
 refine hK.out _ _ (hY_.trans (Fr.b0 ba) q4_) (fun hY_=>?_);clear hK K
 try simp only[Act.put,sA,sB,sC]
 refine rl 10 rfl (fun K hK=>?_);go_simp
 go_wp2_with (go_at_call 36;refine (HBd.out _ hY_).mono ?_;rintro r wb ⟨rfl,rfl⟩)
 refine hK.out _ _ (hY_) (fun hY_=>?_);clear hK K
 try simp only[Act.put,sA,sB,sC]
 refine rl 11 rfl (fun K hK=>?_);go_simp
 go_wp2_with (go_at_call 34;refine (HAd.out _).mono ?_;rintro r wc ⟨rfl,rfl⟩)
 refine hK.out _ _ (hY_) (fun hY_=>?_);clear hK K;refine tl 12 ?v10 rfl ?q10 ?r10
 case q10=>intro W_ hSw;(try obtain⟨a0,a1⟩:=HC.out W_ hSw);go_simp;try rfl
 try simp only[Act.put,sA,sB,sC]
 refine wpAnyH_done (by kernel_rfl) ?_ _;go_wp2;go_ret;exact⟨rfl,hY_.below q4_⟩
theorem zmf(hg:za2 Q c)(hc:c≤1000000)(h:zf6 W g lo Q c F):Calls prog 11 #[.pointer (some ⟨g,0,none⟩)] W fun r w'=>r=.returned (.int .i64 (((zaB Q.X:Nat):Int)+zbv Q.ch))∧Below W.heap.size W w':=zb7 hg.fair hc h
theorem zmc(hg:za2 Q c)(hc:c≤1000000)(h:zf6 W g lo Q c F)(n:Int)(hn:i64 n):Calls prog 14 #[.pointer (some ⟨g,0,none⟩),.int .i64 n] W fun r w'=>r=.returned (.int .i64 (zdj Q.X n))∧zf6 w' g lo (zed Q n) c F∧Fr F W w':=by
 obtain⟨t,Ft,Fs,v,hi,rfl⟩:=h;have HN:=q0_ (zfe hi);have HT:=q0_ (zpJ hg.pol hi.tio hc n hn);have HC:Hid (∀ W',Fr (fun j=>Ft j∨Fs j) W W'→W'.cell? ⟨g,0,none⟩=some (.int .i64 Q.room)∧W'.cell? ⟨g,1,none⟩=some (.pointer (some ⟨t,0,none⟩))∧W'.cell? ⟨g,2,none⟩=some v):=fun W' f=>hi.cells f (fun h=>h.elim (hi.tio.blk_ne hi.blk) (hi.ch.blk_ne hi.blk));have Hi:=q0_ hi;obtain⟨_,c1,_⟩:=hi.cells0;clear hi
 by_cases hE:zdj Q.X n=0
 ·have hQ:zed Q n={Q with X:=zaz Q.X n,ch:=Q.ch.map fun S=>zgf (S.built (zaz Q.X n)) S}:=by unfold zed;rw[if_pos hE]
  have hE1:(zdj Q.X n != 0)=false:=by rw[hE];rfl
  have HTr:Hid (∀ W' W'',Fr Ft W W'→Tio Q.X.name Q.X.tiers Q.X.floors lo W' t (zaz Q.X n) Ft c→Fr (fun _=>False) W' W''→Calls prog 41 #[v,.pointer (some ⟨t,0,none⟩)] W'' fun r w'=>(∃ k,r=.returned (.int .i64 k))∧zf6 w' g lo (zed Q n) c (stF g Ft Fs)∧Fr (stF g Ft Fs) W w'∧Fr Fs W'' w'):=fun W' W'' f1 ht f2=>by
   rw[hQ];have e:=zgh Q.X n;have hblk:Blk W'' g 82 #[.int .i64 Q.room,.pointer (some ⟨t,0,none⟩),v]:=(Hi.out.blk.fr f1 (Hi.out.tio.blk_ne Hi.out.blk)).fr f2 (fun h=>h);have hch:zg8 W'' lo Q.ch v Fs:=(Hi.out.ch.fr f1 Hi.out.tio.kind2 (fun j hj h=>Hi.out.apart j h hj)).fr f2 zfv (fun _ _ h=>h);have ht2:Tio Q.X.name Q.X.tiers Q.X.floors lo W'' t (zaz Q.X n) Ft c:=ht.fr0 f2;have fr02:Fr (stF g Ft Fs) W W'':=(f1.trans f2 q4_).mono (fun j hj=>.inl (.inr (.inl hj)))
   have hmk:∀ (W3:World) (o:Option ShX),Blk W3 g 82 #[.int .i64 Q.room,.pointer (some ⟨t,0,none⟩),v]→Tio Q.X.name Q.X.tiers Q.X.floors lo W3 t (zaz Q.X n) Ft c→zg8 W3 lo o v Fs→zf6 W3 g lo ⟨Q.room,zaz Q.X n,o⟩ c (stF g Ft Fs):=fun W3 o hb ht hc=>by
    refine⟨t,Ft,Fs,v,⟨hb,Hi.out.glo,?_,hc,Hi.out.apart⟩,rfl⟩
    show Tio (zaz Q.X n).name (zaz Q.X n).tiers (zaz Q.X n).floors lo W3 t (zaz Q.X n) Ft c
    rw[e.1,e.2.1,e.2.2];exact ht
   cases hcc:Q.ch with
   | none=>
    rw[hcc] at hch;obtain⟨rfl,hF⟩:=hch;refine (znS _ W'').mono ?_;rintro r w' ⟨rfl,rfl⟩;exact⟨⟨0,rfl⟩,hmk W'' none hblk ht2 ⟨rfl,hF⟩,fr02,Fr.refl _ _⟩
   | some S=>
    rw[hcc] at hch;obtain⟨s,base,hb,rfl,hs⟩:=hch;have hk:=hg.ch S hcc;obtain⟨o,ho⟩:=hk.ok;have hfl:=hg.hfl hc;have hl:∀ m∈S.tabs,m.length≤1000000:=fun m hm=>Nat.le_trans (ho.lens hg.pol hk.pol hg.good hfl m hm) hc;refine (znT (o:=o) hg.pol hk.pol hk.nm ht2 hc hfl hs rfl rfl ho.src hl).mono ?_;rintro r w' ⟨rfl,h1,h2⟩;have hkd:=hs.kind2
    have eb:S.built (zaz Q.X n)=zap (zaz Q.X n) S.name S.tiers (srcs o Q.X.tiers Q.X.floors S.tiers):=by unfold ShX.built;rw[ho.src]
    refine⟨⟨_,rfl⟩,hmk w' (some (zgf (S.built (zaz Q.X n)) S)) (hblk.fr h2 (fun h=>(zg8.blk_ne (o:=some S) (v:=.pointer (some ⟨s,0,none⟩)) ⟨s,base,hb,rfl,hs⟩ hblk) h)) (ht2.frSh h2 hs (fun j hj h=>Hi.out.apart j hj h)) ⟨s,base,hb,rfl,by rw[eb];exact h1⟩,fr02.trans h2 (fun j hj=>.inl (.inr (.inr hj))),h2⟩
  rw[hE] at HT ⊢;clear hQ hE hE1;go_enter func14,ntmps14;go_wp2_with fail;refine HN.out.mono ?_;rintro r w1 ⟨rfl,rfl⟩;go_wp2_with fail;refine HT.out.mono ?_;rintro r w2 ⟨rfl,ht,hf⟩;have HF2:=q0_ hf;have HT2:=q0_ ht;clear ht hf c1;go_wp2_with fail;refine wp_region_held_drew (S:=fun W'=>Fr Fs w2 W') (by kernel_rfl) ((Fr.refl _ w2).drew) (fun hY_=>?_);refine tq 9 [0,1,2,3,4,5,6,7,8] ?_
  iterate 8 refine sf (fun W_ hSw=>HC.out W_ ((HF2.out.mono (fun j hj=>.inl (.inl hj))).trans hSw (fun j hj=>.inl (.inr hj)))) ?_
  refine sf (fun W_ hSw=>HC.out W_ ((HF2.out.mono (fun j hj=>.inl (.inl hj))).trans hSw (fun j hj=>.inl (.inr hj)))) ?_
  try simp only[Act.put,sA,sB,sC]
  refine sz ?_
  try simp only[Act.put,sA,sB,sC]
  refine rl 9 rfl (fun K hK=>?_);go_simp
  go_wp2_with (go_at_call 41;refine (HTr.out w2 _ HF2.out HT2.out ((Fr.refl _ w2).drew)).mono ?_;rintro r wa ⟨⟨kk,rfl⟩,hso,hfr,hf3⟩)
  have HSO:=q0_ (And.intro hso hfr);refine hK.out _ _ (hY_.trans hf3 (fun j hj=>.inl hj)) (fun hY_=>?_);clear hK K
  try simp only[Act.put,sA,sB,sC]
  refine wpAnyH_done (by kernel_rfl) ?_ _;go_wp2;go_ret;exact⟨rfl,HSO.out.1,HSO.out.2⟩
 ·have hQ:zed Q n=Q:=by unfold zed;rw[if_neg hE]
  have hX:zaz Q.X n=Q.X:=by unfold zaz;rw[if_neg hE]
  have hE1:(zdj Q.X n != 0)=true:=by simpa using hE
  rw[hX] at HT;rw[hQ]
  obtain⟨ev,hev⟩:∃ v,zdj Q.X n=v:=⟨_,rfl⟩
  rw[hev] at HT hE hE1 ⊢;clear hQ hX hev;go_enter func14,ntmps14;go_wp2_with fail;refine HN.out.mono ?_;rintro r w1 ⟨rfl,rfl⟩;go_wp2_with fail;refine HT.out.mono ?_;rintro r w2 ⟨rfl,ht,hf⟩;have HF2:=q0_ hf;have HT2:=q0_ ht;clear ht hf c1;go_wp2;go_ret;exact⟨rfl,⟨t,Ft,Fs,v,⟨Hi.out.blk.fr HF2.out (Hi.out.tio.blk_ne Hi.out.blk),Hi.out.glo,HT2.out,Hi.out.ch.fr HF2.out Hi.out.tio.kind2 (fun j hj h=>Hi.out.apart j h hj),Hi.out.apart⟩,rfl⟩,HF2.out.mono (fun j hj=>.inl (.inr (.inl hj)))⟩
end
def zcL(room:Int)(R:Int×ByteArray×List za_):Int:=if 0≤room∧room≤4096 then R.1 else 1
def zho(room:Int)(R:Int×ByteArray×List za_):StX:=⟨room,zfZ R.2.1 R.2.2 0 [],none⟩
def zsJ(E:Int)(Q:StX)(lo:Nat)(w:World)(r:Ending)(w':World):Prop:=
 (E=0→∃ g F,r=.returned (.tuple #[.pointer (some ⟨g,0,none⟩),.int .i64 0])∧zf6 w' g lo Q 0 F∧(∀ j,F j→w.heap.size≤j))∧(E≠0→r=.returned (.tuple #[.pointer none,.int .i64 E]))
theorem zhn{room:Int}{text:ByteArray}(h:zcL room (zaY text)=0):za2 (zho room (zaY text)) 0:=by
 unfold zcL at h
 split at h
 ·rename_i hr
  obtain⟨p,hn⟩:=zkv text h;exact za2.new p hn hr.1 hr.2
 ·exact absurd h (by decide)
theorem znV(room:Int)(text:ByteArray)(hs:text.size≤1099511627776)(w:World)(hmx:MaxL w)(lo:Nat)(hlo:lo≤w.heap.size):
  Calls prog 13 #[.int .i64 room,.string text] w fun r w'=>zsJ (zcL room (zaY text)) (zho room (zaY text)) lo w r w'∧Below w.heap.size w w':=by
 have HR:=q0_ (zgk room w);have HP:=q0_ (zig text hs w hmx)
 by_cases hr:0≤room∧room≤4096
 ·have hb:(decide (0≤room)&&decide (room≤4096))=true:=by simp;exact hr
  rw[hb] at HR
  have hE:zcL room (zaY text)=(zaY text).1:=by unfold zcL;rw[if_pos hr]
  have hok:=zkv text;rw[hE];unfold zho
  obtain⟨⟨e,nm,l⟩,hV⟩:∃ v,zaY text=v:=⟨_,rfl⟩
  rw[hV] at HP hok ⊢;unfold zqT zl0 at HP;dsimp only at HP ⊢;unfold zpw at hok;dsimp only at hok
  obtain⟨n,hn⟩:∃ n,l.length=n:=⟨_,rfl⟩
  rw[hn] at HP;have HN:=q0_ hn;clear hb hE hV hn hmx
  by_cases he:e=0
  ·subst he
   obtain⟨p,hnm⟩:=hok rfl;clear hok;go_enter func13,ntmps13;go_wp2_with fail;refine HR.out.mono ?_;rintro r w1 ⟨rfl,rfl⟩;go_wp2_with fail;refine HP.out.mono ?_;rintro r w1 ⟨⟨kk,A,c,rfl,hnc,hrd,had⟩,b1⟩;have F1:=q0_ (Fr.b0 b1);have X2:Hid (Blk (w1.alloc (.cells #[.string nm,.slice A n c] 51)) w1.heap.size 51 #[.string nm,.slice A n c]):=Blk.new _ _ _;have F2:Hid (Fr (fun _=>False) w1 (w1.alloc (.cells #[.string nm,.slice A n c] 51))):=Fr.none_alloc _ _;have x0:=X2.out.cell 0;have x1:=X2.out.cell 1;simp only[q1_,q2_,q3_] at x0 x1;have F12:=q0_ (F1.out.trans F2.out q4_);have HNw:=q0_ (zq8 hnm p.wf A n c 0 (by omega) lo (w1.alloc (.cells #[.string nm,.slice A n c] 51)) (Nat.le_trans hlo F12.out.size) (hrd.fr0 F2.out) hnc (by have:=p.five;have:=HN.out;omega));rw[zou p] at HNw;clear b1 hrd had;go_wp2_with fail;refine HNw.out.mono ?_;rintro r w3 ⟨⟨h3,_⟩,b3⟩;obtain⟨_,t,Ft,rfl,ht,hFt⟩:=h3 (by trivial);have F3:=q0_ (F12.out.trans (Fr.b0 b3) q4_);have HT:=q0_ ht;have HFt:=q0_ (fun j hj=>Nat.le_trans F12.out.size (hFt j hj));clear b3 ht hFt h3 x0 x1;go_wp2
   go_ret2
   refine⟨⟨fun _=>⟨w3.heap.size,stF w3.heap.size Ft (fun _=>False),rfl,⟨t,Ft,fun _=>False,.pointer none,⟨Blk.new _ _ _,Nat.le_trans hlo F3.out.size,HT.out.fr0 (Fr.none_alloc _ _),⟨rfl,rfl⟩,fun _ _ h=>h⟩,rfl⟩,fun j hj=>?_⟩,fun h=>absurd rfl h⟩,(F3.out.trans (Fr.none_alloc _ _) q4_).below q4_⟩
   rcases hj with hj | hj | hj
   ·have:=F3.out.size;omega
   ·exact HFt.out j hj
   ·exact hj.elim
  ·have he1:(e != 0)=true:=by simpa using he
   clear hok;go_enter func13,ntmps13;go_wp2_with fail;refine HR.out.mono ?_;rintro r w1 ⟨rfl,rfl⟩;go_wp2_with fail;refine HP.out.mono ?_;rintro r w1 ⟨⟨kk,A,c,rfl,hnc,hrd,had⟩,b1⟩;have F1:=q0_ (Fr.b0 b1);clear b1 hrd had;go_wp2
   go_ret2
   exact⟨⟨fun h=>absurd h he,fun _=>rfl⟩,(F1.out.trans (Fr.none_alloc _ _) q4_).below q4_⟩
 ·have hb:(decide (0≤room)&&decide (room≤4096))=false:=by
   cases h:(decide (0≤room)&&decide (room≤4096))
   ·rfl
   ·simp at h;exact absurd h hr
  rw[hb] at HR
  have hE:zcL room (zaY text)=1:=by unfold zcL;rw[if_neg hr]
  rw[hE];clear hb hE;go_enter func13,ntmps13;go_wp2_with fail;refine HR.out.mono ?_;rintro r w1 ⟨rfl,rfl⟩;go_wp2
  go_ret2
  exact⟨⟨fun h=>absurd h (by decide),fun _=>rfl⟩,Below.refl _ _⟩
section
variable {W:World} {g lo:Nat} {Q:StX} {c t:Nat} {Ft Fs F:Nat→Prop} {v:Value}
def StR(w:World)(g lo:Nat)(Q:StX)(c:Nat)(F:Nat→Prop)(w':World):Prop:=(∃ F',zf6 w' g lo Q c F'∧zsI w F F')∧Fr F w w'
theorem znU(hg:za2 Q c)(hc:c+8≤1000000)(h:zf6 W g lo Q c F)(hlo:lo≤W.heap.size)(s:List zas)(A:Option Addr)(n d:Nat)(hr:Rd W 3 A n (zdz s))(hsw:∀ x∈s,x.wf)(hA:∀ j,adF A n j→¬ F j):
  Calls prog 15 #[.pointer (some ⟨g,0,none⟩),.slice A n d] W fun r w'=>r=.returned (.int .i64 (zdy Q s))∧StR W g lo (zbI Q s) (c+8) F w':=by
 obtain⟨t,Ft,Fs,v,hi,rfl⟩:=h
 have hc1:c≤1000000:=by omega
 have HN:=q0_ (zfe hi);have HCp:=q0_ (zh8 hg.pol hi.tio (Nat.le_trans hg.flen (by decide)) lo hlo);have Hi:=q0_ hi;have Hr:=q0_ hr;have hv:=hi.ch.val;obtain⟨_,c1,_⟩:=hi.cells0;have HC:Hid (∀ W',Fr (fun _=>False) W W'→W'.cell? ⟨g,0,none⟩=some (.int .i64 Q.room)∧W'.cell? ⟨g,1,none⟩=some (.pointer (some ⟨t,0,none⟩))∧W'.cell? ⟨g,2,none⟩=some v):=fun W' f=>hi.cells f (fun h=>h);have HA:=q0_ hA;clear hi hr hA
 by_cases hE:zfR Q.X s=0
 ·have hPE:zdy Q s=if zi1 Q (za4 Q.X s) then 0 else 20:=by unfold zdy;rw[if_pos hE]
  obtain⟨e1,e2,e3,e4⟩:=zfl Q.X s;have hb:=hg.bound
  have hn8:n≤8:=by
   have hl:=Hr.out.samps_len;unfold zfR at hE
   split at hE
   ·cases hE
   ·split at hE
    ·cases hE
    ·omega
  have hfl:=hg.hfl hc1;have hgood:=hg.good;go_enter func15,ntmps15;go_wp2_with fail;refine HN.out.mono ?_;rintro r w1 ⟨rfl,rfl⟩;go_wp2_with fail;refine HCp.out.mono ?_;rintro r w1 ⟨⟨t2,Ft2,rfl,ht2,hFt⟩,b1⟩;have F1:=q0_ (Fr.b0 b1);have HPt:=q0_ (znF hg.pol ht2 hc1 s A n d (Hr.out.fr0 F1.out) hsw);rw[hE] at HPt;have HFt:=q0_ hFt;clear b1 ht2 hFt;go_wp2_with fail;refine HPt.out.mono ?_;rintro r w2 ⟨rfl,ht,hf⟩;have F2:=q0_ (F1.out.trans hf (fun j hj=>.inr (HFt.out j hj)));have HT2:=q0_ ht;clear ht hf c1 HPt
  obtain⟨bd,hbd⟩:∃ b,zbv Q.ch=b:=⟨_,rfl⟩
  have hn:=zhE (c:=c+8) hg.pol (HT2.out.good) hc
  obtain⟨nv,hnv⟩:∃ n,zaB (za4 Q.X s)=n:=⟨_,rfl⟩
  have HNd:Hid (∀ W',Fr (fun _=>False) w2 W'→Calls prog 35 #[.pointer (some ⟨t2,0,none⟩)] W' fun r w'=>r=.returned (.int .i64 (nv:Int))∧Below W'.heap.size W' w'):=fun W' f=>by rw[← hnv];exact zh7 hg.pol (HT2.out.fr0 f) hc
  have HBd:Hid (∀ W',Fr (fun _=>False) w2 W'→Calls prog 36 #[v] W' fun r w'=>r=.returned (.int .i64 bd)∧W'=w'):=fun W' f=>by rw[← hbd];exact zgZ (Hi.out.fr0 (F2.out.trans f q4_)).ch
  rw[hbd] at hb;rw[hnv] at hn;have HAd:Hid (∀ W',Calls prog 34 #[.int .i64 (nv:Int),.int .i64 bd] W' fun r w'=>r=.returned (.int .i64 ((nv:Int)+bd))∧W'=w'):=fun W'=>ziT _ _ W' (by omega) hb.1 (by omega);have HC2:Hid (∀ W',Fr (fun _=>False) w2 W'→W'.cell? ⟨g,0,none⟩=some (.int .i64 Q.room)∧W'.cell? ⟨g,1,none⟩=some (.pointer (some ⟨t,0,none⟩))∧W'.cell? ⟨g,2,none⟩=some v):=fun W' f=>HC.out W' (F2.out.trans f q4_)
  have HBAD:Hid (∀ w3,Fr (fun _=>False) w2 w3→StR W g lo Q (c+8) (stF g Ft Fs) w3):=fun w3 f=>⟨⟨_,⟨t,Ft,Fs,v,(Hi.out.fr0 (F2.out.trans f q4_)).more (by omega),rfl⟩,fun j hj=>.inl hj⟩,(F2.out.trans f q4_).mono q4_⟩
  have HMK:Hid (∀ w3 w5 (o:Option ShX),Fr (fun _=>False) w2 w3→Fr Fs (w3.setCell ⟨g,1,none⟩ (.pointer (some ⟨t2,0,none⟩))) w5→zg8 w5 lo o v Fs→StR W g lo ⟨Q.room,za4 Q.X s,o⟩ (c+8) (stF g Ft Fs) w5):=fun w3 w5 o f f5 hch=>by
   have f3:=F2.out.trans f q4_;have hi3:=Hi.out.fr0 f3;have hst:Fr (fun j=>j=g) w3 (w3.setCell ⟨g,1,none⟩ (.pointer (some ⟨t2,0,none⟩))):=(Fr.refl (fun j=>j=g) w3).setCell (p:=⟨g,1,none⟩) (.inl rfl) _;have hk:zg5 w3 (fun j=>j=g):=fun j hj=>hi3.kind2 j (.inl hj);have hgl:=Hi.out.blk.lt;have hch4:=hi3.ch.fr hst hk (fun j hj e=>hi3.ch.blk_ne hi3.blk (e▸hj));have t4:=(HT2.out.fr0 f).frK2 hst hk (fun j hj e=>by have:=HFt.out j hj;omega);have b4:=hi3.blk.set_ 1 (.pointer (some ⟨t2,0,none⟩))
   have hap:∀ j,Ft2 j→¬ Fs j:=fun j h1 h2=>by have e1:=HFt.out j h1;have e2:=(Hi.out.ch.ge j h2).2;omega
   refine⟨⟨stF g Ft2 Fs,⟨t2,Ft2,Fs,v,⟨b4.fr f5 (hch4.blk_ne b4),Hi.out.glo,?_,hch,hap⟩,rfl⟩,fun j hj=>?_⟩,?_⟩
   ·show Tio (za4 Q.X s).name (za4 Q.X s).tiers (za4 Q.X s).floors lo w5 t2 (za4 Q.X s) Ft2 (c+8)
    rw[e1,e2,e3];exact t4.frK2 f5 hch4.kind2 hap
   ·rcases hj with hj | hj | hj
    ·exact .inl (.inl hj)
    ·exact .inr (HFt.out j hj)
    ·exact .inl (.inr (.inr hj))
   ·exact ((f3.mono (G:=stF g Ft Fs) q4_).trans hst (fun j hj=>.inl (.inl hj))).trans f5 (fun j hj=>.inl (.inr (.inr hj)))
  have HB3:Hid (∀ w3,Fr (fun _=>False) w2 w3→Blk w3 g 82 #[.int .i64 Q.room,.pointer (some ⟨t,0,none⟩),v]):=fun w3 f=>(Hi.out.fr0 (F2.out.trans f q4_)).blk
  obtain⟨rm,hrm⟩:∃ r,Q.room=r:=⟨_,rfl⟩
  rw[hrm] at HC2 HB3 HMK
  have hRB:zi1 Q (za4 Q.X s)=(decide ((nv:Int)+bd≤rm)&&zoR Q.ch (za4 Q.X s)):=by unfold zi1;rw[hbd,hnv,hrm]
  by_cases hov:rm<(nv:Int)+bd
  ·have ho1:decide (rm<(nv:Int)+bd)=true:=qa_ hov
   have hP:zdy Q s=20:=by rw[hPE,hRB,q9_ (by omega)];rfl
   have hQ:zbI Q s=Q:=by unfold zbI;rw[hP];rfl
   have HP:=q0_ hP;have HQ:=q0_ hQ;clear hP hQ hRB hnv hbd hrm;go_wp2_with fail;refine wp_region_held_drew (S:=fun W'=>Fr (fun _=>False) w2 W') (by kernel_rfl) ((Fr.refl _ w2).drew) (fun hY_=>?_);refine tq 10 [0,2,3,4,5,8,9,10,11,12] ?_
   iterate 9 refine sf HC2.out ?_
   refine sf HC2.out ?_
   try simp only[Act.put,sA,sB,sC]
   refine sz ?_
   try simp only[Act.put,sA,sB,sC]
   refine rl 1 rfl (fun K hK=>?_);go_simp
   go_wp2_with (go_at_call 35;refine (HNd.out _ hY_).mono ?_;rintro r wa ⟨rfl,ba⟩)
   refine hK.out _ _ (hY_.trans (Fr.b0 ba) q4_) (fun hY_=>?_);clear hK K
   try simp only[Act.put,sA,sB,sC]
   refine rl 6 rfl (fun K hK=>?_);go_simp
   go_wp2_with (go_at_call 36;refine (HBd.out _ hY_).mono ?_;rintro r wb ⟨rfl,rfl⟩)
   refine hK.out _ _ (hY_) (fun hY_=>?_);clear hK K
   try simp only[Act.put,sA,sB,sC]
   refine rl 7 rfl (fun K hK=>?_);go_simp
   go_wp2_with (go_at_call 34;refine (HAd.out _).mono ?_;rintro r wc ⟨rfl,rfl⟩)
   refine hK.out _ _ (hY_) (fun hY_=>?_);clear hK K;refine tq 17 [13,14,15,16,17,18,19,20,21,22,23,24,25,26,27,28,29] ?_;refine sf HC2.out ?_;refine sf HC2.out ?_
   try simp only[Act.put,sA,sB,sC]
   iterate 13 (refine su ?_;try simp only[Act.put,sA,sB,sC])
   refine su ?_;refine sf HC2.out ?_
   try simp only[Act.put,sA,sB,sC]
   refine sz ?_
   try simp only[Act.put,sA,sB,sC]
   refine wpAnyH_done (by kernel_rfl) ?_ _;go_wp2;go_ret;rw[HP.out,HQ.out];exact⟨rfl,HBAD.out _ hY_⟩
  ·have ho1:decide (rm<(nv:Int)+bd)=false:=q9_ hov
   have hle:decide ((nv:Int)+bd≤rm)=true:=qa_ (by omega)
   cases hcc:Q.ch with
   | none=>
    obtain rfl:=hv.1 hcc
    have hP:zdy Q s=0:=by rw[hPE,hRB,hle,hcc];rfl
    have hQ:zbI Q s=⟨rm,za4 Q.X s,none⟩:=by unfold zbI;rw[hP,if_pos rfl,hcc,hrm];rfl
    have HP:=q0_ hP;have HQ:=q0_ hQ;have Hcc:=q0_ hcc
    have HFN:Hid (Fs=fun _=>False):=by have:=Hi.out.ch;rw[hcc] at this;exact this.2
    have HNt:=q0_ (fun W'=>zn2 (.pointer (some ⟨t2,0,none⟩)) (.slice A n d) W');clear hP hQ hRB hnv hbd hrm hcc hle hv;go_wp2_with fail;refine wp_region_held_drew (S:=fun W'=>Fr (fun _=>False) w2 W') (by kernel_rfl) ((Fr.refl _ w2).drew) (fun hY_=>?_);refine tq 10 [0,2,3,4,5,8,9,10,11,12] ?_
    iterate 9 refine sf HC2.out ?_
    refine sf HC2.out ?_
    try simp only[Act.put,sA,sB,sC]
    refine sz ?_
    try simp only[Act.put,sA,sB,sC]
    refine rl 1 rfl (fun K hK=>?_);go_simp
    go_wp2_with (go_at_call 35;refine (HNd.out _ hY_).mono ?_;rintro r wa ⟨rfl,ba⟩)
    refine hK.out _ _ (hY_.trans (Fr.b0 ba) q4_) (fun hY_=>?_);clear hK K
    try simp only[Act.put,sA,sB,sC]
    refine rl 6 rfl (fun K hK=>?_);go_simp
    go_wp2_with (go_at_call 36;refine (HBd.out _ hY_).mono ?_;rintro r wb ⟨rfl,rfl⟩)
    refine hK.out _ _ (hY_) (fun hY_=>?_);clear hK K
    try simp only[Act.put,sA,sB,sC]
    refine rl 7 rfl (fun K hK=>?_);go_simp
    go_wp2_with (go_at_call 34;refine (HAd.out _).mono ?_;rintro r wc ⟨rfl,rfl⟩)
    refine hK.out _ _ (hY_) (fun hY_=>?_);clear hK K;refine tq 17 [13,14,15,16,17,18,19,20,21,22,23,24,25,26,27,28,29] ?_;refine sf HC2.out ?_
    iterate 7 (refine sf HC2.out ?_;try simp only[Act.put,sA,sB,sC])
    iterate 7 (refine su ?_;try simp only[Act.put,sA,sB,sC])
    refine sf HC2.out ?_;refine sf HC2.out ?_
    try simp only[Act.put,sA,sB,sC]
    refine sz ?_
    try simp only[Act.put,sA,sB,sC]
    refine wpAnyH_done (by kernel_rfl) ?_ _;obtain⟨g0,g1,g2⟩:=HC2.out wa hY_;have z1:=(HB3.out wa hY_).frozen 1;have y2:=((HB3.out wa hY_).set_ 1 (.pointer (some ⟨t2,0,none⟩))).cell 2;simp only[q7_,List.set_cons_succ,List.set_cons_zero,q1_,q2_,q3_] at y2;go_wp2_with fail;refine (HNt.out _).mono ?_;rintro r w5 ⟨rfl,rfl⟩;go_wp2;go_ret;rw[HP.out,HQ.out];exact⟨rfl,HMK.out wa _ none hY_ (Fr.refl _ _) ⟨rfl,HFN.out⟩⟩
   | some S=>
    obtain⟨s',rfl⟩:=hv.2 S hcc;have hk:=hg.ch S hcc;obtain⟨o,ho⟩:=hk.ok
    obtain⟨sb,base,hbase,hsv,hs⟩:=(show ∃ s base,lo≤base∧(Value.pointer (some ⟨s',0,none⟩))=.pointer (some ⟨s,0,none⟩)∧ze5 W s base S Fs by have:=Hi.out.ch;rw[hcc] at this;exact this)
    cases hsv
    have HS:=q0_ hs
    have eb:S.built (za4 Q.X s)=zap (za4 Q.X s) S.name S.tiers (srcs o Q.X.tiers Q.X.floors S.tiers):=by unfold ShX.built;rw[ho.src]
    have HFi:Hid (∀ W',Fr (fun _=>False) w2 W'→Calls prog 44 #[.pointer (some ⟨s',0,none⟩),.pointer (some ⟨t2,0,none⟩)] W' fun r w'=>r=.returned (.bool (zoR (some S) (za4 Q.X s)))∧Below W'.heap.size W' w'):=fun W' f=>by
     have:=zn7 (o:=o) hg.pol hk.pol hk.nm (HT2.out.fr0 f) hc hfl (hs.fr0 (F2.out.trans f q4_)) rfl rfl ho.src;rw[← eb] at this;exact this
    cases hfb:zoR (some S) (za4 Q.X s)
    ·have hP:zdy Q s=20:=by rw[hPE,hRB,hle,hcc,hfb];rfl
     have hQ:zbI Q s=Q:=by unfold zbI;rw[hP];rfl
     have HP:=q0_ hP;have HQ:=q0_ hQ;rw[hfb] at HFi;clear hP hQ hRB hnv hbd hrm hcc hle hv hfb eb hs;go_wp2_with fail;refine wp_region_held_drew (S:=fun W'=>Fr (fun _=>False) w2 W') (by kernel_rfl) ((Fr.refl _ w2).drew) (fun hY_=>?_);refine tq 10 [0,2,3,4,5,8,9,10,11,12] ?_
     iterate 9 refine sf HC2.out ?_
     refine sf HC2.out ?_
     try simp only[Act.put,sA,sB,sC]
     refine sz ?_
     try simp only[Act.put,sA,sB,sC]
     refine rl 1 rfl (fun K hK=>?_);go_simp
     go_wp2_with (go_at_call 35;refine (HNd.out _ hY_).mono ?_;rintro r wa ⟨rfl,ba⟩)
     refine hK.out _ _ (hY_.trans (Fr.b0 ba) q4_) (fun hY_=>?_);clear hK K
     try simp only[Act.put,sA,sB,sC]
     refine rl 6 rfl (fun K hK=>?_);go_simp
     go_wp2_with (go_at_call 36;refine (HBd.out _ hY_).mono ?_;rintro r wb ⟨rfl,rfl⟩)
     refine hK.out _ _ (hY_) (fun hY_=>?_);clear hK K
     try simp only[Act.put,sA,sB,sC]
     refine rl 7 rfl (fun K hK=>?_);go_simp
     go_wp2_with (go_at_call 34;refine (HAd.out _).mono ?_;rintro r wc ⟨rfl,rfl⟩)
     refine hK.out _ _ (hY_) (fun hY_=>?_);clear hK K;refine tq 13 [13,14,15,16,17,18,19,20,21,22,23,24,25] ?_;refine sf HC2.out ?_
     iterate 12 (refine sf HC2.out ?_;try simp only[Act.put,sA,sB,sC])
     refine sz ?_
     try simp only[Act.put,sA,sB,sC]
     refine rl 26 rfl (fun K hK=>?_);go_simp
     go_wp2_with (go_at_call 44;refine (HFi.out _ hY_).mono ?_;rintro r wf ⟨rfl,bf⟩)
     refine hK.out _ _ (hY_.trans (Fr.b0 bf) q4_) (fun hY_=>?_);clear hK K
     try simp only[Act.put,sA,sB,sC]
     refine tq 3 [27,28,29] ?_;refine sf HC2.out ?_
     try simp only[Act.put,sA,sB,sC]
     refine sf HC2.out ?_;refine sf HC2.out ?_
     try simp only[Act.put,sA,sB,sC]
     refine sz ?_
     try simp only[Act.put,sA,sB,sC]
     refine wpAnyH_done (by kernel_rfl) ?_ _;go_wp2;go_ret;rw[HP.out,HQ.out];exact⟨rfl,HBAD.out _ hY_⟩
    ·have hP:zdy Q s=0:=by rw[hPE,hRB,hle,hcc,hfb];rfl
     have hQ:zbI Q s=⟨rm,za4 Q.X s,some (S.noted (za4 Q.X s) s)⟩:=by unfold zbI;rw[hP,if_pos rfl,hcc,hrm];rfl
     have HP:=q0_ hP;have HQ:=q0_ hQ
     have HNt:Hid (∀ w3,Fr (fun _=>False) w2 w3→Calls prog 45 #[.pointer (some ⟨s',0,none⟩),.pointer (some ⟨t2,0,none⟩),.slice A n d] (w3.setCell ⟨g,1,none⟩ (.pointer (some ⟨t2,0,none⟩))) fun r w'=>r=.returned (.tuple #[])∧zg8 w' lo (some (S.noted (za4 Q.X s) s)) (.pointer (some ⟨s',0,none⟩)) Fs∧Fr Fs (w3.setCell ⟨g,1,none⟩ (.pointer (some ⟨t2,0,none⟩))) w'):=fun w3 f=>by
      have f3:=F2.out.trans f q4_;have hi3:=Hi.out.fr0 f3;have hst:Fr (fun j=>j=g) w3 (w3.setCell ⟨g,1,none⟩ (.pointer (some ⟨t2,0,none⟩))):=(Fr.refl (fun j=>j=g) w3).setCell (p:=⟨g,1,none⟩) (.inl rfl) _;have hk3:zg5 w3 (fun j=>j=g):=fun j hj=>hi3.kind2 j (.inl hj);have hgl:=Hi.out.blk.lt;have t4:=(HT2.out.fr0 f).frK2 hst hk3 (fun j hj e=>by have:=HFt.out j hj;omega);have hs4:=(HS.out.fr0 f3).fr hst hk3 (fun j hj e=>hi3.ch.blk_ne hi3.blk (e▸hj));refine (zn1 (o:=o) hg.pol hk.pol hk.nm hg.good hE hsw t4 hc hc1 hfl hs4 ho A n d ((Hr.out.fr0 f3).fr hst (fun j hj e=>HA.out j hj (.inl e))) (by omega) (fun j hj h=>HA.out j hj (.inr (.inr h)))).mono ?_;rintro r w' ⟨rfl,h1,_,h2⟩;refine⟨rfl,⟨s',base,hbase,rfl,?_⟩,h2⟩;unfold ShX.noted;rw[eb];exact h1
     rw[hfb] at HFi;clear hP hQ hRB hnv hbd hrm hcc hle hv hfb eb hs;go_wp2_with fail;refine wp_region_held_drew (S:=fun W'=>Fr (fun _=>False) w2 W') (by kernel_rfl) ((Fr.refl _ w2).drew) (fun hY_=>?_);refine tq 10 [0,2,3,4,5,8,9,10,11,12] ?_
     iterate 9 refine sf HC2.out ?_
     refine sf HC2.out ?_
     try simp only[Act.put,sA,sB,sC]
     refine sz ?_
     try simp only[Act.put,sA,sB,sC]
     refine rl 1 rfl (fun K hK=>?_);go_simp
     go_wp2_with (go_at_call 35;refine (HNd.out _ hY_).mono ?_;rintro r wa ⟨rfl,ba⟩)
     refine hK.out _ _ (hY_.trans (Fr.b0 ba) q4_) (fun hY_=>?_);clear hK K
     try simp only[Act.put,sA,sB,sC]
     refine rl 6 rfl (fun K hK=>?_);go_simp
     go_wp2_with (go_at_call 36;refine (HBd.out _ hY_).mono ?_;rintro r wb ⟨rfl,rfl⟩)
     refine hK.out _ _ (hY_) (fun hY_=>?_);clear hK K
     try simp only[Act.put,sA,sB,sC]
     refine rl 7 rfl (fun K hK=>?_);go_simp
     go_wp2_with (go_at_call 34;refine (HAd.out _).mono ?_;rintro r wc ⟨rfl,rfl⟩)
     refine hK.out _ _ (hY_) (fun hY_=>?_);clear hK K;refine tq 13 [13,14,15,16,17,18,19,20,21,22,23,24,25] ?_;refine sf HC2.out ?_
     iterate 12 (refine sf HC2.out ?_;try simp only[Act.put,sA,sB,sC])
     refine sz ?_
     try simp only[Act.put,sA,sB,sC]
     refine rl 26 rfl (fun K hK=>?_);go_simp
     go_wp2_with (go_at_call 44;refine (HFi.out _ hY_).mono ?_;rintro r wf ⟨rfl,bf⟩)
     refine hK.out _ _ (hY_.trans (Fr.b0 bf) q4_) (fun hY_=>?_);clear hK K
     try simp only[Act.put,sA,sB,sC]
     refine tq 3 [27,28,29] ?_;refine sf HC2.out ?_
     try simp only[Act.put,sA,sB,sC]
     refine sf HC2.out ?_;refine sf HC2.out ?_
     try simp only[Act.put,sA,sB,sC]
     refine sz ?_
     try simp only[Act.put,sA,sB,sC]
     refine wpAnyH_done (by kernel_rfl) ?_ _;obtain⟨g0,g1,g2⟩:=HC2.out wf hY_;have z1:=(HB3.out wf hY_).frozen 1;have y2:=((HB3.out wf hY_).set_ 1 (.pointer (some ⟨t2,0,none⟩))).cell 2;simp only[q7_,List.set_cons_succ,List.set_cons_zero,q1_,q2_,q3_] at y2;go_wp2_with fail;refine (HNt.out wf hY_).mono ?_;rintro r w5 ⟨rfl,h5,f5⟩;go_wp2;go_ret;rw[HP.out,HQ.out];exact⟨rfl,HMK.out wf _ (some (S.noted (za4 Q.X s) s)) hY_ f5 h5⟩
 ·have hPE:zdy Q s=zfR Q.X s:=by unfold zdy;rw[if_neg hE]
  have hQ:zbI Q s=Q:=by unfold zbI;rw[hPE,if_neg hE]
  have hX:za4 Q.X s=Q.X:=by unfold za4;rw[if_neg hE]
  rw[hPE,hQ]
  obtain⟨ev,hev⟩:∃ v,zfR Q.X s=v:=⟨_,rfl⟩
  have hE1:(ev != 0)=true:=by rw[← hev];simpa using hE
  go_enter func15,ntmps15;go_wp2_with fail;refine HN.out.mono ?_;rintro r w1 ⟨rfl,rfl⟩;go_wp2_with fail;refine HCp.out.mono ?_;rintro r w1 ⟨⟨t2,Ft2,rfl,ht2,hFt⟩,b1⟩;have F1:=q0_ (Fr.b0 b1);have HPt:=q0_ (znF hg.pol ht2 hc1 s A n d (Hr.out.fr0 F1.out) hsw);rw[hev] at HPt;have HFt:=q0_ hFt;clear b1 ht2 hFt;go_wp2_with fail;refine HPt.out.mono ?_;rintro r w2 ⟨rfl,ht,hf⟩;have F2:=q0_ (F1.out.trans hf (fun j hj=>.inr (HFt.out j hj)));clear ht hf;go_wp2;go_ret;rw[hev];exact⟨rfl,⟨_,⟨t,Ft,Fs,v,(Hi.out.fr0 F2.out).more (by omega),rfl⟩,fun j hj=>.inl hj⟩,F2.out.mono q4_⟩
end
end Go.Proofs.YtjhhodndlkpmhaaGreatDoor
