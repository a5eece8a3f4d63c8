/- A state: its tiers, the change that is under way; what its calls come to, and what stays true of it. -/
import Derived.Test.YtjhhodndlkpmhaaGreatDoorShChk
import Derived.Test.YtjhhodndlkpmhaaGreatDoorShLoad
namespace Go.Proofs.YtjhhodndlkpmhaaGreatDoor
set_option linter.all false
open Go.RowKit
structure StX where
 room:Int
 X:zaa
 ch:Option ShX
def zbv:Option ShX→Int
 | none=>0
 | some S=>S.bound
def ShX.built(S:ShX)(X:zaa):zaa:=zap X S.name S.tiers S.srcs
def zoR:Option ShX→zaa→Bool
 | none,_=>true
 | some S,X=>decide (((zaB (S.built X):Nat):Int)≤S.bound)
def zi1(Q:StX)(X:zaa):Bool:=decide (((zaB X:Nat):Int)+zbv Q.ch≤Q.room)&&zoR Q.ch X
def zdy(Q:StX)(s:List zas):Int:=if zfR Q.X s=0 then (if zi1 Q (za4 Q.X s) then 0 else 20) else zfR Q.X s
def ShX.noted(S:ShX)(X:zaa)(s:List zas):ShX:={S with tabs:=zbM (S.built X) S.done S.tabs s}
def zbI(Q:StX)(s:List zas):StX:=if zdy Q s=0 then {Q with X:=za4 Q.X s,ch:=Q.ch.map fun S=>S.noted (za4 Q.X s) s} else Q
def zed(Q:StX)(n:Int):StX:=if zdj Q.X n=0 then {Q with X:=zaz Q.X n,ch:=Q.ch.map fun S=>zgf (S.built (zaz Q.X n)) S} else Q
structure zq3(X:zaa)(S:ShX):Prop where
 pol:zb_ S.name S.tiers
 nm:S.name.size≤maxLen
 ok:∃ o,znm S.name X.tiers S.tiers X.floors o X S
 done:S.done<zcz S.tiers
 b0:0≤S.bound
 fits:((zaB (S.built X):Nat):Int)≤S.bound
structure za2(Q:StX)(c:Nat):Prop where
 pol:zb_ Q.X.name Q.X.tiers
 nm:Q.X.name.size≤maxLen
 good:zbf Q.X.name Q.X.tiers Q.X.floors Q.X c
 fl:∀ f∈Q.X.floors,0≤f∧f≤1099511627776+1000000*(c:Int)
 flen:Q.X.floors.length≤5
 room:0≤Q.room∧Q.room≤4096
 need:((zaB Q.X:Nat):Int)+zbv Q.ch≤Q.room
 ch:∀ S,Q.ch=some S→zq3 Q.X S
structure zbU(Q:StX)(c:Nat):Prop where
 pol:zb_ Q.X.name Q.X.tiers
 nm:Q.X.name.size≤maxLen
 good:zbf Q.X.name Q.X.tiers Q.X.floors Q.X c
 flen:Q.X.floors.length≤5
 bd:0≤zbv Q.ch∧zbv Q.ch≤4096
 ch:∀ S,Q.ch=some S→zq3 Q.X S
section
variable {Q:StX} {c:Nat}
theorem za2.fair(h:za2 Q c):zbU Q c:=by
 refine⟨h.pol,h.nm,h.good,h.flen,?_,h.ch⟩;have h1:=h.need;have h2:=h.room;refine⟨?_,by omega⟩
 cases hc:Q.ch with
 | none=>exact Int.le_refl _
 | some S=>exact (h.ch S hc).b0
theorem za2.hfl(h:za2 Q c)(hc:c≤1000000):∀ f∈Q.X.floors,0≤f∧f≤2199023255552:=fun f hf=>by
 have:=h.fl f hf;omega
theorem za2.more(h:za2 Q c){d:Nat}(hd:c≤d):za2 Q d:=
 ⟨h.pol,h.nm,h.good.more hd,fun f hf=>by have:=h.fl f hf;omega,h.flen,h.room,h.need,h.ch⟩
theorem zfl(X:zaa)(s:List zas):(za4 X s).name=X.name∧(za4 X s).tiers=X.tiers∧(za4 X s).floors=X.floors∧(za4 X s).now=X.now:=by
 unfold za4
 split<;>exact⟨rfl,rfl,rfl,rfl⟩
theorem zgh(X:zaa)(n:Int):(zaz X n).name=X.name∧(zaz X n).tiers=X.tiers∧(zaz X n).floors=X.floors:=by
 unfold zaz
 split<;>exact⟨rfl,rfl,rfl⟩
theorem zkn{X:zaa}(h:zi1 Q X=true):((zaB X:Nat):Int)+zbv Q.ch≤Q.room∧zoR Q.ch X=true:=by
 unfold zi1 at h;rw[Bool.and_eq_true,decide_eq_true_eq] at h;exact h
theorem za2.put(h:za2 Q c)(hc:c≤1000000)(s:List zas):za2 (zbI Q s) (c+8):=by
 unfold zbI
 split
 ·rename_i hE
  unfold zdy at hE
  have hP:zfR Q.X s=0:=by
   by_cases hp:zfR Q.X s=0
   ·exact hp
   ·rw[if_neg hp] at hE;exact absurd hE hp
  rw[if_pos hP] at hE
  have hR:zi1 Q (za4 Q.X s)=true:=by
   cases hr:zi1 Q (za4 Q.X s)
   ·rw[hr] at hE;cases hE
   ·rfl
  obtain⟨r1,r2⟩:=zkn hR;obtain⟨e1,e2,e3,e4⟩:=zfl Q.X s;have hg:=h.good.put s;refine⟨?_,?_,?_,?_,?_,h.room,?_,?_⟩
  ·show zb_ (za4 Q.X s).name (za4 Q.X s).tiers
   rw[e1,e2];exact h.pol
  ·show (za4 Q.X s).name.size≤_
   rw[e1];exact h.nm
  ·show zbf (za4 Q.X s).name (za4 Q.X s).tiers (za4 Q.X s).floors (za4 Q.X s) (c+8)
   rw[e1,e2,e3];exact hg
  ·show ∀ f∈(za4 Q.X s).floors,_
   rw[e3];intro f hf;have:=h.fl f hf;omega
  ·show (za4 Q.X s).floors.length≤5
   rw[e3];exact h.flen
  ·show ((zaB (za4 Q.X s):Nat):Int)+zbv (Q.ch.map fun S=>S.noted (za4 Q.X s) s)≤Q.room
   have:zbv (Q.ch.map fun S=>S.noted (za4 Q.X s) s)=zbv Q.ch:=by cases Q.ch<;>rfl
   rw[this];exact r1
  ·intro S' hS'
   have hS0:(Q.ch.map fun S=>S.noted (za4 Q.X s) s)=some S':=hS'
   cases hch:Q.ch with
   | none=>rw[hch] at hS0;cases hS0
   | some S=>
    rw[hch] at hS0
    injection hS0 with hS0
    have hk:=h.ch S hch;obtain⟨o,ho⟩:=hk.ok;subst hS0;have hb:(S.noted (za4 Q.X s) s).built (za4 Q.X s)=S.built (za4 Q.X s):=rfl;refine⟨hk.pol,hk.nm,⟨o,?_⟩,hk.done,hk.b0,?_⟩
    ·have:=ho.put h.pol.ck h.good (h.hfl hc) hk.pol.ck hP
     show znm S.name (za4 Q.X s).tiers S.tiers (za4 Q.X s).floors o (za4 Q.X s) (S.noted (za4 Q.X s) s)
     rw[e2,e3]
     have e5:S.noted (za4 Q.X s) s={S with tabs:=zbM (zap (za4 Q.X s) S.name S.tiers (srcs o Q.X.tiers Q.X.floors S.tiers)) S.done S.tabs s}:=by
      unfold ShX.noted ShX.built;rw[ho.src]
     rw[e5];exact this
    ·show ((zaB (S.built (za4 Q.X s)):Nat):Int)≤S.bound
     rw[hch] at r2;exact of_decide_eq_true r2
 ·exact h.more (by omega)
theorem zlu{Y Z:zaa}(ht:Y.tiers=Z.tiers)(hl:Y.tabs.length=Z.tabs.length)(h:∀ (j:Nat) (m m':List zae),Y.tabs[j]? =some m→Z.tabs[j]? =some m'→∀ M,zeJ M m≤zeJ M m'):zaB Y≤zaB Z:=by
 unfold zaB zce;rw[ht];refine zfd (by simp[hl]) (fun i x y hx hy=>?_);rw[List.getElem?_zipWith] at hx hy
 cases h1:Z.tiers[i]? with
 | none=>rw[h1] at hx;cases hx
 | some t=>
  rw[h1] at hx hy
  cases h2:Y.tabs[i]? with
  | none=>rw[h2] at hx;cases hx
  | some m=>
   cases h3:Z.tabs[i]? with
   | none=>rw[h3] at hy;cases hy
   | some m'=>
    rw[h2] at hx;rw[h3] at hy
    cases hx
    cases hy
    exact h i m m' h2 h3 _
theorem znK{nm:ByteArray}{l:List za_}{fl:List Int}{X:zaa}(hg:zbf nm l fl X c)(n:Int):zaB (zaz X n)≤zaB X:=by
 unfold zaz
 split
 ·refine zlu rfl (by show (zda _ X).length=_;unfold zda;rw[List.length_map,List.length_range,hg.tlen,hg.tiers]) (fun j m m' h1 h2 M=>?_)
  have hj:j<X.tiers.length:=by
   have h3:j<(zda (X.now+n) X).length:=(List.getElem?_eq_some_iff.1 h1).1;unfold zda at h3;simpa using h3
  have h1:(zda (X.now+n) X)[j]? =some m:=h1;unfold zda at h1;rw[List.getElem?_map,List.getElem?_range hj] at h1;simp only[Option.map_some,Option.some.injEq] at h1;subst h1
  have e:X.tabs.getD j []=m':=by rw[List.getD_eq_getElem?_getD,h2];rfl
  rw[e];exact zhF M _ m'
 ·exact Nat.le_refl _
theorem zes{nm2:ByteArray}{lt:List za_}{X:zaa}{ss:List Int}:(zap X nm2 lt ss).tabs.length=lt.length:=by unfold zap;simp
theorem zl9{nm nm2:ByteArray}{l lt:List za_}{fl:List Int}{X:zaa}{o:Int}(p:zak nm l=true)(hg:zbf nm l fl X c)(hfl:∀ f∈fl,0≤f∧f≤2199023255552)(p2:zak nm2 lt=true){n:Int}(hE:zdj X n=0):
  zaB (zap (zaz X n) nm2 lt (srcs o l fl lt))≤zaB (zap X nm2 lt (srcs o l fl lt)):=by
 refine zlu rfl (by rw[zes,zes]) (fun j m m' h1 h2 M=>?_)
 have hj:j<lt.length:=by
  have:=(List.getElem?_eq_some_iff.1 h1).1;rwa[zes] at this
 have e1:(zap (zaz X n) nm2 lt (srcs o l fl lt)).tabs.getD j []=m:=by rw[List.getD_eq_getElem?_getD,h1];rfl
 have e2:(zap X nm2 lt (srcs o l fl lt)).tabs.getD j []=m':=by rw[List.getD_eq_getElem?_getD,h2];rfl
 have:=zhW (o:=o) p hg hfl p2 hE hj;rw[e1,e2] at this;rw[this];exact zhF M _ m'
theorem za2.tick(h:za2 Q c)(hc:c≤1000000)(n:Int):za2 (zed Q n) c:=by
 unfold zed
 split
 ·rename_i hE
  obtain⟨e1,e2,e3⟩:=zgh Q.X n;have hg:=h.good.tick n;have hnd:=znK h.good n;have hneed:=h.need;refine⟨?_,?_,?_,?_,?_,h.room,?_,?_⟩
  ·show zb_ (zaz Q.X n).name (zaz Q.X n).tiers
   rw[e1,e2];exact h.pol
  ·show (zaz Q.X n).name.size≤_
   rw[e1];exact h.nm
  ·show zbf (zaz Q.X n).name (zaz Q.X n).tiers (zaz Q.X n).floors (zaz Q.X n) c
   rw[e1,e2,e3];exact hg
  ·show ∀ f∈(zaz Q.X n).floors,_
   rw[e3];exact h.fl
  ·show (zaz Q.X n).floors.length≤5
   rw[e3];exact h.flen
  ·show ((zaB (zaz Q.X n):Nat):Int)+zbv (Q.ch.map fun S=>zgf (S.built (zaz Q.X n)) S)≤Q.room
   have:zbv (Q.ch.map fun S=>zgf (S.built (zaz Q.X n)) S)=zbv Q.ch:=by cases Q.ch<;>rfl
   rw[this];omega
  ·intro S' hS'
   have hS0:(Q.ch.map fun S=>zgf (S.built (zaz Q.X n)) S)=some S':=hS'
   cases hch:Q.ch with
   | none=>rw[hch] at hS0;cases hS0
   | some S=>
    rw[hch] at hS0
    injection hS0 with hS0
    have hk:=h.ch S hch;obtain⟨o,ho⟩:=hk.ok;subst hS0;refine⟨hk.pol,hk.nm,⟨o,?_⟩,hk.done,hk.b0,?_⟩
    ·have:=ho.tick h.pol.ck h.good (h.hfl hc) hk.pol.ck hE
     show znm S.name (zaz Q.X n).tiers S.tiers (zaz Q.X n).floors o (zaz Q.X n) (zgf (S.built (zaz Q.X n)) S)
     rw[e2,e3]
     have e5:S.built (zaz Q.X n)=zap (zaz Q.X n) S.name S.tiers (srcs o Q.X.tiers Q.X.floors S.tiers):=by
      unfold ShX.built;rw[ho.src]
     rw[e5];exact this
    ·show ((zaB (S.built (zaz Q.X n)):Nat):Int)≤S.bound
     have h1:=zl9 (o:=o) h.pol.ck h.good (h.hfl hc) hk.pol.ck hE;have h2:=hk.fits;unfold ShX.built at h2 ⊢;rw[ho.src] at h2 ⊢;omega
 ·exact h
def zpw(R:Int×ByteArray×List za_):Prop:=R.1=0→zb_ R.2.1 R.2.2∧R.2.1.size≤maxLen
theorem zjm(nm:ByteArray)(l:List za_)(now:Int)(fl:List Int):zaB (zfZ nm l now fl)=0:=by
 have hz:∀ L:List za_,(List.zipWith (fun (x:za_) (m:List zae)=>zeJ (max x.shards 1) m) L (L.map fun _=>[])).sum=0:=by
  intro L
  induction L with
  | nil=>rfl
  | cons a L ih=>
   rw[List.map_cons,List.zipWith_cons_cons,List.sum_cons,ih]
   have hz:∀ R:List Nat,(R.map fun k=>(zg6 (max a.shards 1) [] k+2) / 3).sum=0:=by
    intro R
    induction R with
    | nil=>rfl
    | cons x R ihR=>rw[List.map_cons,List.sum_cons,ihR,show zg6 (max a.shards 1) [] x=0 from rfl]
   unfold zeJ;rw[hz]
 unfold zaB zce zfZ;exact hz l
theorem zou{nm:ByteArray}{l:List za_}(p:zb_ nm l):zfs nm l 0 []=0:=by
 unfold zfs;rw[if_pos p.ck,if_neg (by simp),if_pos];unfold ziz;rw[List.all_eq_true];intro k _;unfold zep;simp
theorem za2.new{nm:ByteArray}{l:List za_}(p:zb_ nm l)(hnm:nm.size≤maxLen){room:Int}(h0:0≤room)(h1:room≤4096):za2 ⟨room,zfZ nm l 0 [],none⟩ 0:=by
 refine⟨p,hnm,zbf.new (zou p),(fun _ h=>by cases h),Nat.zero_le _,⟨h0,h1⟩,?_,(fun _ h=>by cases h)⟩
 show ((zaB (zfZ nm l 0 []):Nat):Int)+0≤room
 rw[zjm];omega
end
def zg8(W:World)(lo:Nat):Option ShX→Value→(Nat→Prop)→Prop
 | none,v,F=>v=.pointer none∧F=fun _=>False
 | some S,v,F=>∃ s base,lo≤base∧v=.pointer (some ⟨s,0,none⟩)∧ze5 W s base S F
structure ziI(W:World)(g lo:Nat)(Q:StX)(c t:Nat)(Ft Fs:Nat→Prop)(v:Value):Prop where
 blk:Blk W g 82 #[.int .i64 Q.room,.pointer (some ⟨t,0,none⟩),v]
 glo:lo≤g
 tio:Tio Q.X.name Q.X.tiers Q.X.floors lo W t Q.X Ft c
 ch:zg8 W lo Q.ch v Fs
 apart:∀ j,Ft j→¬ Fs j
def stF(g:Nat)(Ft Fs:Nat→Prop):Nat→Prop:=fun j=>j=g∨Ft j∨Fs j
def zf6(W:World)(g lo:Nat)(Q:StX)(c:Nat)(F:Nat→Prop):Prop:=∃ t Ft Fs v,ziI W g lo Q c t Ft Fs v∧F=stF g Ft Fs
def zg5(W:World)(G:Nat→Prop):Prop:=∀ j,G j→(∃ es ck,W.heap[j]? =some (.map es ck))∨(∃ cs fz ty,W.heap[j]? =some (.cells cs ty fz)∧ty≠130∧ty≠3∧ty≠121∧ty≠178)
section
variable {W W':World} {g lo:Nat} {Q:StX} {c t:Nat} {Ft Fs F G:Nat→Prop} {v:Value}
theorem zg8.fr{o:Option ShX}(h:zg8 W lo o v Fs)(hf:Fr G W W')(hG:zg5 W G)(hd:∀ j,Fs j→¬ G j):zg8 W' lo o v Fs:=by
 cases o with
 | none=>exact h
 | some S=>
  obtain⟨s,base,hb,hv,hs⟩:=h;exact⟨s,base,hb,hv,hs.fr hf hG hd⟩
theorem zg8.kind2{o:Option ShX}(h:zg8 W lo o v Fs):zg5 W Fs:=by
 cases o with
 | none=>obtain⟨_,rfl⟩:=h;exact fun _ h=>h.elim
 | some S=>
  obtain⟨s,base,hb,hv,hs⟩:=h;exact hs.kind2
theorem zg8.ge{o:Option ShX}(h:zg8 W lo o v Fs):∀ j,Fs j→lo≤j∧j<W.heap.size:=by
 cases o with
 | none=>obtain⟨_,rfl⟩:=h;exact fun _ h=>h.elim
 | some S=>
  obtain⟨s,base,hb,hv,hs⟩:=h;intro j hj;have:=hs.ge j hj;omega
theorem zg8.blk_ne{o:Option ShX}(h:zg8 W lo o v Fs){cs:Array Value}(hb:Blk W g 82 cs):¬ Fs g:=by
 cases o with
 | none=>obtain⟨_,rfl⟩:=h;exact fun h=>h
 | some S=>
  obtain⟨s,base,_,_,hs⟩:=h;intro hj;have hb0:W.heap[g]? =some (Obj.cells cs 82 (0,0)):=hb
  rcases hs.kind g hj with ⟨es,ck,e⟩ | ⟨cs',fz,e⟩
  ·rw[hb0] at e;cases e
  ·rw[hb0] at e
   injection e with e
   injection e with _ e _
   exact absurd e (by decide)
theorem Tio.kind2{nm:ByteArray}{l:List za_}{fl:List Int}{X:zaa}(h:Tio nm l fl lo W t X Ft c):zg5 W Ft:=by
 obtain⟨b,hb,ho⟩:=h.on;exact ho.kind2
theorem Tio.blk_ne{nm:ByteArray}{l:List za_}{fl:List Int}{X:zaa}(h:Tio nm l fl lo W t X Ft c){cs:Array Value}(hb:Blk W g 82 cs):¬ Ft g:=by
 obtain⟨b,_,ho⟩:=h.on;intro hj;have hb0:W.heap[g]? =some (Obj.cells cs 82 (0,0)):=hb
 rcases ho.kind g hj with ⟨es,ck,e⟩ | ⟨cs',fz,e⟩
 ·rw[hb0] at e;cases e
 ·rw[hb0] at e
  injection e with e
  injection e with _ e _
  exact absurd e (by decide)
theorem Tio.frK2{nm:ByteArray}{l:List za_}{fl:List Int}{X:zaa}(h:Tio nm l fl lo W t X Ft c)(hf:Fr G W W')(hG:zg5 W G)(hd:∀ j,Ft j→¬ G j):Tio nm l fl lo W' t X Ft c:=by
 obtain⟨b,hb,ho⟩:=h.on;exact⟨⟨b,hb,ho.frSh hf hG hd⟩,h.good⟩
theorem ziI.fr(h:ziI W g lo Q c t Ft Fs v)(hf:Fr G W W')(hG:zg5 W G)(hd:∀ j,stF g Ft Fs j→¬ G j):ziI W' g lo Q c t Ft Fs v:=
 ⟨h.blk.fr hf (hd g (.inl rfl)),h.glo,h.tio.frK2 hf hG (fun j hj=>hd j (.inr (.inl hj))),h.ch.fr hf hG (fun j hj=>hd j (.inr (.inr hj))),h.apart⟩
theorem zfv:zg5 W (fun _=>False):=fun _ h=>h.elim
theorem ziI.fr0(h:ziI W g lo Q c t Ft Fs v)(hf:Fr (fun _=>False) W W'):ziI W' g lo Q c t Ft Fs v:=h.fr hf zfv (fun _ _ h=>h)
theorem ziI.kind2(h:ziI W g lo Q c t Ft Fs v):zg5 W (stF g Ft Fs):=by
 rintro j (rfl | hj | hj)
 ·exact .inr ⟨_,_,_,h.blk,by decide,by decide,by decide,by decide⟩
 ·exact h.tio.kind2 j hj
 ·exact h.ch.kind2 j hj
theorem ziI.ge(h:ziI W g lo Q c t Ft Fs v):∀ j,stF g Ft Fs j→lo≤j∧j<W.heap.size:=by
 rintro j (rfl | hj | hj)
 ·exact⟨h.glo,h.blk.lt⟩
 ·exact h.tio.ge j hj
 ·exact h.ch.ge j hj
theorem ziI.more(h:ziI W g lo Q c t Ft Fs v){d:Nat}(hd:c≤d):ziI W g lo Q d t Ft Fs v:=⟨h.blk,h.glo,h.tio.more hd,h.ch,h.apart⟩
theorem zf6.fr(h:zf6 W g lo Q c F)(hf:Fr G W W')(hG:zg5 W G)(hd:∀ j,F j→¬ G j):zf6 W' g lo Q c F:=by
 obtain⟨t,Ft,Fs,v,hi,rfl⟩:=h;exact⟨t,Ft,Fs,v,hi.fr hf hG hd,rfl⟩
theorem zf6.fr0(h:zf6 W g lo Q c F)(hf:Fr (fun _=>False) W W'):zf6 W' g lo Q c F:=h.fr hf zfv (fun _ _ h=>h)
theorem zf6.ge(h:zf6 W g lo Q c F):∀ j,F j→lo≤j∧j<W.heap.size:=by
 obtain⟨t,Ft,Fs,v,hi,rfl⟩:=h;exact hi.ge
def zsI(W:World)(F F':Nat→Prop):Prop:=∀ j,F' j→F j∨W.heap.size≤j
end
end Go.Proofs.YtjhhodndlkpmhaaGreatDoor
