/- The state in memory; frames; its small calls. -/
import Derived.Test.YteajonicnkpbbaaGreatDoorShNote
namespace Go.Proofs.YteajonicnkpbbaaGreatDoor
set_option linter.all false
open Go.RowKit Tryz
def zf1(W:World)(lo:Nat):Option ShX→Value→(Nat→Prop)→Prop
 | none,v,F=>v=.pointer none∧F=fun _=>False
 | some S,v,F=>∃ s base,lo≤base∧v=.pointer (some ⟨s,0,none⟩)∧zcr W s base S F
structure zhp(W:World)(g lo:Nat)(Q:StX)(c t:Nat)(Ft Fs:Nat→Prop)(v:Value):Prop where
 blk:Blk W g 148 #[.int .i64 Q.room,.pointer (some ⟨t,0,none⟩),v]
 glo:lo≤g
 tio:Tio Q.X.name Q.X.tiers Q.X.floors lo W t Q.X Ft c
 ch:zf1 W lo Q.ch v Fs
 apart:∀ j,Ft j→¬ Fs j
def stF(g:Nat)(Ft Fs:Nat→Prop):Nat→Prop:=fun j=>j=g∨Ft j∨Fs j
def zfK(W:World)(g lo:Nat)(Q:StX)(c:Nat)(F:Nat→Prop):Prop:=∃ t Ft Fs v,zhp W g lo Q c t Ft Fs v∧F=stF g Ft Fs
def zd5(W:World)(G:Nat→Prop):Prop:=∀ j,G j→(∃ es ck,W.heap[j]? =some (.map es ck))∨(∃ cs fz ty,W.heap[j]? =some (.cells cs ty fz)∧ty≠99∧ty≠3∧ty≠208∧ty≠244)
section
variable {W W':World} {g lo:Nat} {Q:StX} {c t:Nat} {Ft Fs F G:Nat→Prop} {v:Value}
theorem zf1.fr{o:Option ShX}(h:zf1 W lo o v Fs)(hf:Fr G W W')(hG:zd5 W G)(hd:∀ j,Fs j→¬ G j):zf1 W' lo o v Fs:=by
 cases o with
 | none=>exact h
 | some S=>
  obtain⟨s,base,hb,hv,hs⟩:=h;exact⟨s,base,hb,hv,hs.fr hf hG hd⟩
theorem zf1.kind2{o:Option ShX}(h:zf1 W lo o v Fs):zd5 W Fs:=by
 cases o with
 | none=>obtain⟨_,rfl⟩:=h;exact fun _ h=>h.elim
 | some S=>
  obtain⟨s,base,hb,hv,hs⟩:=h;exact hs.kind2
theorem zf1.ge{o:Option ShX}(h:zf1 W lo o v Fs):∀ j,Fs j→lo≤j∧j<W.heap.size:=by
 cases o with
 | none=>obtain⟨_,rfl⟩:=h;exact fun _ h=>h.elim
 | some S=>
  obtain⟨s,base,hb,hv,hs⟩:=h;intro j hj;have:=hs.ge j hj;omega
theorem zf1.blk_ne{o:Option ShX}(h:zf1 W lo o v Fs){cs:Array Value}(hb:Blk W g 148 cs):¬ Fs g:=by
 cases o with
 | none=>obtain⟨_,rfl⟩:=h;exact fun h=>h
 | some S=>
  obtain⟨s,base,_,_,hs⟩:=h;intro hj;have hb0:W.heap[g]? =some (Obj.cells cs 148 (0,0)):=hb
  rcases hs.kind g hj with ⟨es,ck,e⟩ | ⟨cs',fz,e⟩
  ·rw[hb0] at e;cases e
  ·rw[hb0] at e
   injection e with e
   injection e with _ e _
   exact absurd e (by decide)
theorem Tio.kind2{nm:ByteArray}{l:List za_}{fl:List Int}{X:zac}(h:Tio nm l fl lo W t X Ft c):zd5 W Ft:=by
 obtain⟨b,hb,ho⟩:=h.on;exact ho.kind2
theorem Tio.blk_ne{nm:ByteArray}{l:List za_}{fl:List Int}{X:zac}(h:Tio nm l fl lo W t X Ft c){cs:Array Value}(hb:Blk W g 148 cs):¬ Ft g:=by
 obtain⟨b,_,ho⟩:=h.on;intro hj;have hb0:W.heap[g]? =some (Obj.cells cs 148 (0,0)):=hb
 rcases ho.kind g hj with ⟨es,ck,e⟩ | ⟨cs',fz,e⟩
 ·rw[hb0] at e;cases e
 ·rw[hb0] at e
  injection e with e
  injection e with _ e _
  exact absurd e (by decide)
theorem Tio.frK2{nm:ByteArray}{l:List za_}{fl:List Int}{X:zac}(h:Tio nm l fl lo W t X Ft c)(hf:Fr G W W')(hG:zd5 W G)(hd:∀ j,Ft j→¬ G j):Tio nm l fl lo W' t X Ft c:=by
 obtain⟨b,hb,ho⟩:=h.on;exact⟨⟨b,hb,ho.frSh hf hG hd⟩,h.good⟩
theorem zhp.fr(h:zhp W g lo Q c t Ft Fs v)(hf:Fr G W W')(hG:zd5 W G)(hd:∀ j,stF g Ft Fs j→¬ G j):zhp W' g lo Q c t Ft Fs v:=
 ⟨h.blk.fr hf (hd g (.inl rfl)),h.glo,h.tio.frK2 hf hG (fun j hj=>hd j (.inr (.inl hj))),h.ch.fr hf hG (fun j hj=>hd j (.inr (.inr hj))),h.apart⟩
theorem zeg:zd5 W (fun _=>False):=fun _ h=>h.elim
theorem zhp.fr0(h:zhp W g lo Q c t Ft Fs v)(hf:Fr (fun _=>False) W W'):zhp W' g lo Q c t Ft Fs v:=h.fr hf zeg (fun _ _ h=>h)
theorem zhp.kind2(h:zhp W g lo Q c t Ft Fs v):zd5 W (stF g Ft Fs):=by
 rintro j (rfl | hj | hj)
 ·exact .inr ⟨_,_,_,h.blk,by decide,by decide,by decide,by decide⟩
 ·exact h.tio.kind2 j hj
 ·exact h.ch.kind2 j hj
theorem zhp.ge(h:zhp W g lo Q c t Ft Fs v):∀ j,stF g Ft Fs j→lo≤j∧j<W.heap.size:=by
 rintro j (rfl | hj | hj)
 ·exact⟨h.glo,h.blk.lt⟩
 ·exact h.tio.ge j hj
 ·exact h.ch.ge j hj
theorem zhp.more(h:zhp W g lo Q c t Ft Fs v){d:Nat}(hd:c≤d):zhp W g lo Q d t Ft Fs v:=⟨h.blk,h.glo,h.tio.more hd,h.ch,h.apart⟩
theorem zfK.fr(h:zfK W g lo Q c F)(hf:Fr G W W')(hG:zd5 W G)(hd:∀ j,F j→¬ G j):zfK W' g lo Q c F:=by
 obtain⟨t,Ft,Fs,v,hi,rfl⟩:=h;exact⟨t,Ft,Fs,v,hi.fr hf hG hd,rfl⟩
theorem zfK.fr0(h:zfK W g lo Q c F)(hf:Fr (fun _=>False) W W'):zfK W' g lo Q c F:=h.fr hf zeg (fun _ _ h=>h)
theorem zfK.ge(h:zfK W g lo Q c F):∀ j,F j→lo≤j∧j<W.heap.size:=by
 obtain⟨t,Ft,Fs,v,hi,rfl⟩:=h;exact hi.ge
theorem zfK.more(h:zfK W g lo Q c F){d:Nat}(hd:c≤d):zfK W g lo Q d F:=by
 obtain⟨t,Ft,Fs,v,hi,rfl⟩:=h;exact⟨t,Ft,Fs,v,hi.more hd,rfl⟩
def zrS(W:World)(F F':Nat→Prop):Prop:=∀ j,F' j→F j∨W.heap.size≤j
end
theorem zkI(room:Int)(w:World):Calls prog 94 #[.int .i64 room] w fun r w'=>r=.returned (.bool (decide (0≤room)&&decide (room≤4096)))∧w=w':=by
 have go:∀ b1 b2:Bool,decide (0≤room)=b1→decide (room≤4096)=b2→Calls prog 94 #[.int .i64 room] w fun r w'=>r=.returned (.bool (b1&&b2))∧w=w':=by
  intro b1 b2 e1 e2
  cases b1<;>cases b2<;>(
   go_enter func94,ntmps94;go_wp2;go_ret
   exact⟨by first | rfl | simp[*],rfl⟩)
 exact go _ _ rfl rfl
theorem zjk(a b:Int)(w:World)(h0:0≤a)(h1:0≤b)(h2:a+b≤9223372036854775807):Calls prog 99 #[.int .i64 a,.int .i64 b] w fun r w'=>r=.returned (.int .i64 (a+b))∧w=w':=by
 have e1:IntKind.i64.wrap (9223372036854775807-b)=9223372036854775807-b:=IntWalk.i64_in _ (by omega);have e2:decide (9223372036854775807-b<a)=false:=q9_ (by omega)
 have e2':¬ 9223372036854775807-b<a:=by omega
 have e3:IntKind.i64.wrap (a+b)=a+b:=IntWalk.i64_in _ (by omega);go_enter func99,ntmps99;go_wp2;go_ret;exact⟨by first | rfl | simp[*],rfl⟩
section
variable {W:World} {g lo:Nat} {Q:StX} {c t:Nat} {Ft Fs F:Nat→Prop} {v:Value}
theorem zhp.cells(h:zhp W g lo Q c t Ft Fs v){G:Nat→Prop}{W':World}(f:Fr G W W')(hg:¬ G g):W'.cell? ⟨g,0,none⟩=some (.int .i64 Q.room)∧W'.cell? ⟨g,1,none⟩=some (.pointer (some ⟨t,0,none⟩))∧W'.cell? ⟨g,2,none⟩=some v:=by
 have b:=h.blk.fr f hg;exact⟨b.cell 0,b.cell 1,b.cell 2⟩
theorem zhp.cells0(h:zhp W g lo Q c t Ft Fs v):W.cell? ⟨g,0,none⟩=some (.int .i64 Q.room)∧W.cell? ⟨g,1,none⟩=some (.pointer (some ⟨t,0,none⟩))∧W.cell? ⟨g,2,none⟩=some v:=h.cells (Fr.refl (fun _=>False) W) (fun h=>h)
theorem zf1.val{o:Option ShX}(h:zf1 W lo o v Fs):(o=none→v=.pointer none)∧(∀ S,o=some S→∃ s,v=.pointer (some ⟨s,0,none⟩)):=by
 cases o with
 | none=>exact⟨fun _=>h.1,(fun _ e=>by cases e)⟩
 | some S=>
  obtain⟨s,base,_,hv,_⟩:=h;exact⟨(fun e=>by cases e),fun _ _=>⟨s,hv⟩⟩
theorem zdg(h:zhp W g lo Q c t Ft Fs v):Calls prog 96 #[.pointer (some ⟨g,0,none⟩)] W fun r w'=>r=.returned (.bool false)∧W=w':=by
 obtain⟨_,c1,_⟩:=h.cells0;clear h;go_enter func96,ntmps96;go_wp2;go_ret;exact⟨by first | rfl | simp[*],rfl⟩
theorem znb(hg:zax Q c)(h:zf1 W lo Q.ch v Fs)(lo2:Nat)(hlo:lo2≤W.heap.size):Calls prog 109 #[v] W fun r w'=>(∃ v F',r=.returned v∧zf1 w' lo2 Q.ch v F'∧∀ j,F' j→W.heap.size≤j)∧Below W.heap.size W w':=by
 cases hc:Q.ch with
 | none=>
  rw[hc] at h;obtain⟨rfl,_⟩:=h;refine (znZ W).mono ?_;rintro r w' ⟨rfl,rfl⟩;exact⟨⟨.pointer none,fun _=>False,rfl,⟨rfl,rfl⟩,fun _ h=>h.elim⟩,Below.refl _ _⟩
 | some S=>
  rw[hc] at h;obtain⟨s,base,_,rfl,hs⟩:=h;have hk:=hg.ch S hc;obtain⟨o,ho⟩:=hk.ok;have hst:=zcw hk.pol;refine (zn0 s base S Fs W hs hk.pol.pos (by have:=hk.pol.five;omega) (by rw[ho.src];unfold srcs;rw[List.length_map];have:=hk.pol.five;omega) (fun x hx=>(zaq hk.pol.ck hx).2.2.2.2.2) (fun x hx=>(zaq hk.pol.ck hx).1) hk.b0 (by omega)).mono ?_;rintro r w' ⟨⟨o',F',rfl,h1⟩,hb⟩;exact⟨⟨_,F',rfl,⟨o',W.heap.size,hlo,rfl,h1⟩,fun j hj=>(h1.ge j hj).1⟩,hb⟩
theorem zkH(hg:zax Q c)(h:zfK W g lo Q c F)(lo2:Nat)(hlo:lo2≤W.heap.size):Calls prog 29 #[.pointer (some ⟨g,0,none⟩)] W fun r w'=>(∃ t' F',r=.returned (.pointer (some ⟨t',0,none⟩))∧Tio Q.X.name Q.X.tiers Q.X.floors lo2 w' t' Q.X F' c∧∀ j,F' j→W.heap.size≤j)∧Below W.heap.size W w':=by
 obtain⟨t,Ft,Fs,v,hi,_⟩:=h;have HC:=q0_ (zlD hg.pol hi.tio (Nat.le_trans hg.flen (by decide)) lo2 hlo);obtain⟨_,c1,_⟩:=hi.cells0;clear hi;go_enter func29,ntmps29;go_wp2_with fail;refine HC.out.mono ?_;rintro r w1 ⟨⟨t',F',rfl,h1,h2⟩,hb⟩;have H1:=q0_ h1;have H2:=q0_ h2;have HB:=q0_ hb;clear h1 h2 hb;go_wp2;go_ret;exact⟨⟨t',F',rfl,H1.out,H2.out⟩,HB.out⟩
theorem zjg(hg:zax Q c)(h:zfK W g lo Q c F)(lo2:Nat)(hlo:lo2≤W.heap.size):Calls prog 30 #[.pointer (some ⟨g,0,none⟩)] W fun r w'=>(∃ v F',r=.returned v∧zf1 w' lo2 Q.ch v F'∧∀ j,F' j→W.heap.size≤j)∧Below W.heap.size W w':=by
 obtain⟨t,Ft,Fs,v,hi,_⟩:=h;obtain⟨_,_,c2⟩:=hi.cells0;have HC:Hid (Calls prog 109 #[v] W fun r w'=>(∃ v F',r=.returned v∧zf1 w' lo2 Q.ch v F'∧∀ j,F' j→W.heap.size≤j)∧Below W.heap.size W w'):=znb hg hi.ch lo2 hlo;clear hi;go_enter func30,ntmps30;go_wp2_with fail;refine HC.out.mono ?_;rintro r w1 ⟨⟨v',F',rfl,h1,h2⟩,hb⟩;have H1:=q0_ h1;have H2:=q0_ h2;have HB:=q0_ hb;clear h1 h2 hb;go_wp2;go_ret;exact⟨⟨v',F',rfl,H1.out,H2.out⟩,HB.out⟩
theorem zkJ(h:zfK W g lo Q c F):Calls prog 27 #[.pointer (some ⟨g,0,none⟩)] W fun r w'=>r=.returned (.int .i64 (zeb Q))∧(∃ F',zfK w' g lo (zfq Q) c F'∧zrS W F F')∧Fr F W w':=by
 obtain⟨t,Ft,Fs,v,hi,rfl⟩:=h;have HN:=q0_ (zdg hi);obtain⟨_,_,c2⟩:=hi.cells0;have hv:=hi.ch.val;have z2:=hi.blk.frozen 2;have Hi:=q0_ hi;clear hi
 cases hc:Q.ch with
 | none=>
  obtain rfl:=hv.1 hc
  have hE:zeb Q=8:=by unfold zeb;rw[hc]
  have hQ:zfq Q=Q:=by obtain⟨a,b,d⟩:=Q;subst hc;rfl
  rw[hE,hQ];clear hv hc hE hQ;go_enter func27,ntmps27;go_wp2_with fail;refine HN.out.mono ?_;rintro r w1 ⟨rfl,rfl⟩;go_wp2;go_ret;exact⟨rfl,⟨_,⟨t,Ft,Fs,_,Hi.out,rfl⟩,fun _ h=>.inl h⟩,Fr.refl _ _⟩
 | some S=>
  obtain⟨s,rfl⟩:=hv.2 S hc
  have hE:zeb Q=0:=by unfold zeb;rw[hc]
  rw[hE];clear hv hc hE;go_enter func27,ntmps27;go_wp2_with fail;refine HN.out.mono ?_;rintro r w1 ⟨rfl,rfl⟩;go_wp2;go_ret;have hst:Fr (fun j=>j=g) W (W.setCell ⟨g,2,none⟩ (.pointer none)):=(Fr.refl (fun j=>j=g) W).setCell (p:=⟨g,2,none⟩) (.inl rfl) _;have hk:zd5 W (fun j=>j=g):=fun j hj=>Hi.out.kind2 j (.inl hj);have hne:=Hi.out.tio.blk_ne Hi.out.blk;refine⟨rfl,⟨stF g Ft (fun _=>False),⟨t,Ft,fun _=>False,.pointer none,⟨Hi.out.blk.set_ 2 _,Hi.out.glo,Hi.out.tio.frK2 hst hk (fun j hj e=>hne (e▸hj)),⟨rfl,rfl⟩,fun _ _ h=>h⟩,rfl⟩,fun j hj=>.inl ?_⟩,hst.mono (fun j hj=>.inl (.inl hj))⟩
  rcases hj with hj | hj | hj
  ·exact .inl hj
  ·exact .inr (.inl hj)
  ·exact hj.elim
end
end Go.Proofs.YteajonicnkpbbaaGreatDoor
