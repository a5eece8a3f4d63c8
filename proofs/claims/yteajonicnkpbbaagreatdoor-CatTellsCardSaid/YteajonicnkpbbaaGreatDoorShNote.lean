/- Walk of shadow: Note. -/
import Derived.Test.YteajonicnkpbbaaGreatDoorShStepU
import Derived.Test.YteajonicnkpbbaaGreatDoorShCopy
import Derived.Test.YteajonicnkpbbaaGreatDoorParseP
namespace Go.Proofs.YteajonicnkpbbaaGreatDoor
set_option linter.all false
open Go.RowKit Tryz
def zf6(Y:zae)(done:Int)(tabs:List (List zah))(ls:List zaN):List (List zah):=ls.foldl (zh9 Y done) tabs
section
variable {nm nm2:ByteArray} {l lt:List zaa} {fl:List Int} {o:Int} {lo:Nat} {W:World} {t s base:Nat} {X:zae} {S:ShX} {Ft F:Nat→Prop} {cc:Nat}
theorem zkg.tab(h:zkg nm2 l lt fl o X S)(p:zcl nm l)(p2:zcl nm2 lt)(hg:zbE nm l fl X cc)(hfl:∀ f∈fl,0≤f∧f≤2199023255552){j:Nat}{y:zaa}(hy:lt[j]? =some y):
  zay (S.tabs.getD j [])∧∀ r∈S.tabs.getD j [],zbR y.every r=true:=by
 have hj:=(List.getElem?_eq_some_iff.1 hy).1;obtain⟨h1,h2⟩:=zj7 (o:=o) p p2 hg hfl hy;rw[h.tabs,zhX hj];unfold shL;refine⟨?_,fun r hr=>(h2 r (List.mem_filter.1 hr).1).1⟩;exact List.Pairwise.sublist List.filter_sublist h1.1
end
def zk6(Y:zae)(S:ShX):ShX:={S with tabs:=(List.range Y.tiers.length).map fun j=>za0 (zap (zaF Y.now Y.tiers Y.floors j)) (S.tabs.getD j [])}
section
variable {nm nm2:ByteArray} {l lt:List zaa} {fl:List Int} {o:Int} {X:zae} {S:ShX} {c:Nat}
theorem zoq{Y Z:zae}{done:Int}(h1:Y.now=Z.now)(h2:Y.tiers=Z.tiers)(h3:Y.floors=Z.floors):zh9 Y done=zh9 Z done:=by
 funext tabs s
 unfold zh9 zlw;rw[h1,h2,h3]
theorem zmf{now:Int}{l:List zaa}{fl:List Int}{z:zaN}(h:zdR now l fl z=0):0≤z.time:=by
 unfold zdR at h
 split at h
 ·rename_i h2;exact h2.2
 ·cases h
theorem zog{z:zaN}(h:zdR X.now X.tiers X.floors z=0):zks X [z]=0:=by
 show zgr X [z]=0
 exact zj1 (fun s hs=>by rw[List.mem_singleton] at hs;rw[hs];exact h)
theorem ziG(p:zal nm l=true)(hfl:∀ f∈fl,0≤f∧f≤2199023255552)(p2:zal nm2 lt=true)(done:Int):∀ (s:List zaN) (X:zae) (c:Nat),zbE nm l fl X c→(∀ a∈s,zdR X.now X.tiers X.floors a=0)→
  zf6 (zaw {X with tabs:=zf0 X X.tabs s} nm2 lt (srcs o l fl lt)) done (shT lt done (zaw X nm2 lt (srcs o l fl lt)).tabs) s=shT lt done (zaw {X with tabs:=zf0 X X.tabs s} nm2 lt (srcs o l fl lt)).tabs
 | [],X,c,_,_=>rfl
 | a::s,X,c,hg,h=>by
  have ha:=h a (by simp);have hE:=zog ha
  have hX:zb2 X [a]={X with tabs:=addT X X.tabs a}:=by unfold zb2;rw[if_pos hE];rfl
  have hg2:=hg.put [a];have ih:=ziG p hfl p2 done s (zb2 X [a]) (c+8) hg2 (fun b hb=>by rw[hX];exact h b (List.mem_cons_of_mem _ hb));have e2:=zn7 (o:=o) (done:=done) p hg hfl p2 hE (zmf ha)
  have e3:({zb2 X [a] with tabs:=zf0 (zb2 X [a]) (zb2 X [a]).tabs s}:zae)={X with tabs:=zf0 X X.tabs (a::s)}:=by rw[hX];rfl
  rw[e3] at ih;have e4:zh9 (zaw {X with tabs:=zf0 X X.tabs (a::s)} nm2 lt (srcs o l fl lt)) done=zh9 (zaw (zb2 X [a]) nm2 lt (srcs o l fl lt)) done:=zoq (by rw[hX];first | done | rfl) rfl (by rw[hX];first | done | rfl);rw[← ih, ← e2]
  show zf6 _ done (zh9 _ done _ a) s=_
  rw[e4]
theorem zpc(p:zal nm l=true)(hg:zbE nm l fl X c)(hfl:∀ f∈fl,0≤f∧f≤2199023255552)(p2:zal nm2 lt=true){s:List zaN}(hE:zks X s=0)(done:Int):
  zf6 (zaw (zb2 X s) nm2 lt (srcs o l fl lt)) done (shT lt done (zaw X nm2 lt (srcs o l fl lt)).tabs) s=shT lt done (zaw (zb2 X s) nm2 lt (srcs o l fl lt)).tabs:=by
 have hX:zb2 X s={X with tabs:=zf0 X X.tabs s}:=by unfold zb2;rw[if_pos hE]
 rw[hX];refine ziG p hfl p2 done s X c hg (fun a ha=>?_)
 have h:zgr X s=0:=by
  unfold zks at hE
  split at hE
  ·cases hE
  ·split at hE
   ·cases hE
   ·exact hE
 unfold zgr at h
 split at h
 ·rename_i z hz
  have:=List.find?_some hz;simp only[decide_eq_true_eq] at this;exact absurd h this
 ·rename_i hz
  have:=List.find?_eq_none.1 hz a ha;simpa using this
theorem ziN{e F F' G:Int}(he:1≤e)(hF:F≤F')(hG:G≤F'):∀ {L acc:List zah},zbJ acc→(∀ r∈L,0≤r.start)→
  za0 (zap F') (zbL e F acc L)=zbL e F' (za0 (zap F') acc) (za0 (zap G) L)
 | [],_,_,_=>rfl
 | r::L,acc,hg,hr=>by
  have h0:=hr r (by simp);obtain⟨_,f2,_⟩:=zeA h0 he
  show za0 (zap F') (zbL e F (zbM e F acc r) L)=_
  rw[ziN he hF hG (zcX hg r) (fun y hy=>hr y (List.mem_cons_of_mem _ hy))]
  have hcons:za0 (zap G) (r::L)=if r.start<G then za0 (zap G) L else r::za0 (zap G) L:=by
   unfold za0
   by_cases h:r.start<G
   ·rw[if_pos h,List.filter_cons_of_neg (by unfold zap;simp[h])]
   ·rw[if_neg h,List.filter_cons_of_pos (by unfold zap;simp[h])]
  have hlow:zav r.start e<F'→za0 (zap F') (zbM e F acc r)=za0 (zap F') acc:=fun h=>by
   unfold zbM
   split
   ·exact zge (zdS F') hg.1 (by unfold zap;simpa using h)
   ·rfl
  rw[hcons]
  by_cases h1:r.start<G
  ·rw[if_pos h1,hlow (by omega)]
  ·rw[if_neg h1]
   show _=zbL e F' (zbM e F' (za0 (zap F') acc) r) (za0 (zap G) L)
   congr 1
   by_cases h2:F'≤zav r.start e
   ·unfold zbM
    rw[if_pos h2,if_pos (by omega)];exact zgf (zdS F') hg.1 (by unfold zap;simp;omega)
   ·rw[hlow (by omega)]
    unfold zbM;rw[if_neg h2]
theorem znC{a b e:Int}(h0:0≤a)(hab:a≤b)(h1:b≤4398046511104)(he:1≤e)(he2:e≤1000000):zgx a e≤zgx b e:=by
 obtain⟨a1,a2,a3,a4,_⟩:=zfG (t:=a) (e:=e) h0 (by omega) he he2;obtain⟨b1,b2,b3,b4,_⟩:=zfG (t:=b) (e:=e) (by omega) h1 he he2;rw[Int.tmod_eq_emod_of_nonneg a4] at a1;rw[Int.tmod_eq_emod_of_nonneg b4] at b1;obtain⟨x,hx⟩:=Int.dvd_of_emod_eq_zero a1;obtain⟨y,hy⟩:=Int.dvd_of_emod_eq_zero b1;rw[hx] at a3;rw[hy] at b2;rw[hx,hy]
 rcases Int.lt_or_le y x with h | h
 ·have h4:e*(y+1)≤e*x:=Int.mul_le_mul_of_nonneg_left (by omega) (by omega)
  rw[Int.mul_add] at h4;omega
 ·exact Int.mul_le_mul_of_nonneg_left h (by omega)
theorem zlG{a b:Int}{l:List zaa}{fl fl':List Int}{k:Nat}{f f':Int}(hl:∀ t∈l,t.keep≤1000000∧t.every≤1000000)(ha:0≤a)(hab:a≤b)(hf:fl[k]? =some f)(hf':fl'[k]? =some f')(hff:f≤f'):zaF a l fl k≤zaF b l fl' k:=by
 unfold zaF;rw[hf,hf']
 split
 ·rename_i x y hx hy
  have hb:=zjh (keep:=x.keep) (e:=y.every) ha (hl x (zab hx)).1 (hl y (zab hy)).2 hab;simp only;omega
 ·exact Int.le_refl _
theorem zhL(p:zal nm l=true)(hg:zbE nm l fl X c)(hfl:∀ f∈fl,0≤f∧f≤2199023255552)(p2:zal nm2 lt=true){n:Int}(hE:zhT X n=0){j:Nat}(hj:j<lt.length):
  (zaw (zaS X n) nm2 lt (srcs o l fl lt)).tabs.getD j []=za0 (zap (zaF (zaS X n).now lt (zb8 (zaS X n).now l fl (srcs o l fl lt) lt) j)) ((zaw X nm2 lt (srcs o l fl lt)).tabs.getD j []):=by
 have hg2:=hg.tick n;have hX:=zn0 hE
 have hn0:0≤n:=by unfold zhT at hE;split at hE<;>omega
 have hy:lt[j]? =some lt[j]:=q6_ hj;obtain⟨i,x,hx,hs,hd,hf,hb⟩:=zdC (o:=o) (X:=X) p hg.now hfl p2 hy;obtain⟨i2,x2,hx2,hs2,hd2,hf2,hb2⟩:=zdC (o:=o) (X:=zaS X n) p hg2.now hfl p2 hy;rw[hs] at hs2
 have hi2:i2=i:=by injection hs2 with h;omega
 subst hi2;have hi:=(List.getElem?_eq_some_iff.1 hx).1
 have hxX:X.tiers[i2]? =some x:=by rw[hg.tiers];exact hx
 have hxX2:(zaS X n).tiers[i2]? =some x:=by rw[hg2.tiers];exact hx
 have hy1:=zaY p2 (zab hy)
 have hnow:(zaS X n).now=X.now+n:=by rw[hX]
 have hle:∀ {l:List zaa} {nm:ByteArray},zal nm l=true→∀ t∈l,t.keep≤1000000∧t.every≤1000000:=fun h t ht=>by have:=zaY h ht;omega
 have hm1:=znd (a:=X.now) (b:=(zaS X n).now) (l:=l) (fl:=fl) (hle p) hg.now.1 (by omega) i2;have hbd:=zih p hg.now.1 hg.now.2 hfl i2;have hbd2:=zih p hg2.now.1 hg2.now.2 hfl i2;have hm2:=zlG (hle p2) hg.now.1 (show X.now≤(zaS X n).now by omega) hb hb2 (znC hbd.1 hm1 (by omega) hy1.1 hy1.2.1);rw[zcE hj,zcE hj];unfold zdV;rw[hs,hy];simp only[Int.toNat_natCast];rw[hxX,hxX2];simp only;rw[hg.tiers,hg.floors,hg2.tiers,hg2.floors];unfold ziO;simp only[if_pos hd,zfA]
 have ht:(zaS X n).tabs.getD i2 []=za0 (zap (zaF (X.now+n) l fl i2)) (X.tabs.getD i2 []):=by
  rw[hX]
  show (zdz (X.now+n) X).getD i2 []=_
  rw[zhF _ _ _ (by rw[hg.tiers];exact hi),hg.tiers,hg.floors]
 rw[ht];rw[hnow] at hm2 hf2 ⊢;exact (ziN hy1.1 hm2 hf2 zb5 (fun r hr=>(hg.grid i2 x hx r hr).2.1)).symm
theorem zn6(p:zal nm l=true)(hg:zbE nm l fl X c)(hfl:∀ f∈fl,0≤f∧f≤2199023255552)(p2:zal nm2 lt=true){n:Int}(hE:zhT X n=0)(done:Int):
  (List.range lt.length).map (fun j=>za0 (zap (zaF (zaS X n).now lt (zb8 (zaS X n).now l fl (srcs o l fl lt) lt) j)) ((shT lt done (zaw X nm2 lt (srcs o l fl lt)).tabs).getD j []))=shT lt done (zaw (zaS X n) nm2 lt (srcs o l fl lt)).tabs:=by
 conv=>rhs;unfold shT
 refine List.map_congr_left (fun j hj=>?_);have hj:=List.mem_range.1 hj;rw[zhX hj];unfold shL;rw[zhL p hg hfl p2 hE hj];unfold za0;rw[List.filter_filter,List.filter_filter];refine List.filter_congr fun r _=>?_;rw[Bool.and_comm]
theorem zeQ:∀ {a b:List Nat},a.length=b.length→(∀ (i:Nat) x y,a[i]? =some x→b[i]? =some y→x≤y)→a.sum≤b.sum
 | [],[],_,_=>Nat.le_refl _
 | x::a,y::b,hl,h=>by
  have h1:=h 0 x y rfl rfl;have h2:=zeQ (a:=a) (b:=b) (by simpa using hl) (fun i x y hx hy=>h (i+1) x y hx hy);simp only[List.sum_cons];omega
 | [],_::_,hl,_=>by simp at hl
 | _::_,[],hl,_=>by simp at hl
theorem zhk(M:Int)(so:zah→Bool)(m:List zah):ziX M (za0 so m)≤ziX M m:=by
 unfold ziX;refine zeQ (by simp) (fun i x y hx hy=>?_);rw[List.getElem?_map] at hx hy
 cases hr:(List.range M.toNat)[i]? with
 | none=>rw[hr] at hx;cases hx
 | some k=>
  rw[hr] at hx hy;simp only[Option.map_some,Option.some.injEq] at hx hy;subst hx;subst hy
  have h:zlQ M (za0 so m) k≤zlQ M m k:=by
   unfold zlQ za0;rw[List.filter_filter, ← List.countP_eq_length_filter, ← List.countP_eq_length_filter];exact List.countP_mono_left (fun r _ h=>by simp only[Bool.and_eq_true] at h;exact h.1)
  omega
theorem zkg.put(h:zkg nm2 l lt fl o X S)(p:zal nm l=true)(hg:zbE nm l fl X c)(hfl:∀ f∈fl,0≤f∧f≤2199023255552)(p2:zal nm2 lt=true){s:List zaN}(hE:zks X s=0):
  zkg nm2 l lt fl o (zb2 X s) {S with tabs:=zf6 (zaw (zb2 X s) nm2 lt (srcs o l fl lt)) S.done S.tabs s}:=
 ⟨h.name,h.tiers,h.src,by show zf6 _ S.done S.tabs s=_;rw[h.tabs];exact zpc p hg hfl p2 hE S.done,h.d0,h.d1⟩
theorem zkg.tick(h:zkg nm2 l lt fl o X S)(p:zal nm l=true)(hg:zbE nm l fl X c)(hfl:∀ f∈fl,0≤f∧f≤2199023255552)(p2:zal nm2 lt=true){n:Int}(hE:zhT X n=0):
  zkg nm2 l lt fl o (zaS X n) (zk6 (zaw (zaS X n) nm2 lt (srcs o l fl lt)) S):=by
 have hg2:=hg.tick n;refine⟨h.name,h.tiers,h.src,?_,h.d0,h.d1⟩;have:=zn6 (o:=o) p hg hfl p2 hE S.done
 show _=shT lt S.done (zaw (zaS X n) nm2 lt (srcs o l fl lt)).tabs
 rw[← this, ← h.tabs]
 show (List.range lt.length).map (fun j=>za0 (zap (zaF (zaS X n).now lt (zb8 (zaS X n).now (zaS X n).tiers (zaS X n).floors (srcs o l fl lt) lt) j)) (S.tabs.getD j []))=_
 rw[hg2.tiers,hg2.floors]
end
section
variable {nm nm2:ByteArray} {l lt:List zaa} {fl:List Int} {o:Int} {lo:Nat} {W:World} {t s base:Nat} {X:zae} {S:ShX} {Ft F:Nat→Prop} {cc c0:Nat}
end
structure StX where
 room:Int
 X:zae
 ch:Option ShX
def zdn:Option ShX→Int
 | none=>0
 | some S=>S.bound
def ShX.built(S:ShX)(X:zae):zae:=zaw X S.name S.tiers S.srcs
def zp7:Option ShX→zae→Bool
 | none,_=>true
 | some S,X=>decide (((zb3 (S.built X):Nat):Int)≤S.bound)
def zmz(Q:StX)(X:zae):Bool:=decide (((zb3 X:Nat):Int)+zdn Q.ch≤Q.room)&&zp7 Q.ch X
def zoY(Q:StX)(s:List zaN):Int:=if zks Q.X s=0 then (if zmz Q (zb2 Q.X s) then 0 else 20) else zks Q.X s
def ShX.noted(S:ShX)(X:zae)(s:List zaN):ShX:={S with tabs:=zf6 (S.built X) S.done S.tabs s}
def zp_(Q:StX)(s:List zaN):StX:=if zoY Q s=0 then {Q with X:=zb2 Q.X s,ch:=Q.ch.map fun S=>S.noted (zb2 Q.X s) s} else Q
def zml(Q:StX)(n:Int):StX:=if zhT Q.X n=0 then {Q with X:=zaS Q.X n,ch:=Q.ch.map fun S=>zk6 (S.built (zaS Q.X n)) S} else Q
def zdW(X:zae)(nm2:ByteArray)(lt:List zaa):ShX:=
 ⟨nm2,lt,srcs X.now X.tiers X.floors lt,2*((zb3 (zaw X nm2 lt (srcs X.now X.tiers X.floors lt)):Nat):Int)+zbn lt,0,lt.map fun _=>[]⟩
def ziD(Q:StX)(R:Int×ByteArray×List zaa):Int:=
 match Q.ch with
 | some _=>21
 | none=>if R.1=0 then (if ((zb3 Q.X:Nat):Int)+(zdW Q.X R.2.1 R.2.2).bound≤Q.room then 0 else 20) else R.1
def zhW(Q:StX)(R:Int×ByteArray×List zaa):StX:=if ziD Q R=0 then {Q with ch:=some (zdW Q.X R.2.1 R.2.2)} else Q
def zmm(Q:StX):StX:=
 match Q.ch with
 | none=>Q
 | some S=>if S.done=zb1 S.tiers-1 then {Q with X:=S.built Q.X,ch:=none} else {Q with ch:=some (S.go S.name S.tiers (S.built Q.X))}
def zmn(Q:StX):StX:={Q with ch:=none}
structure zqe(X:zae)(S:ShX):Prop where
 pol:zcl S.name S.tiers
 nm:S.name.size≤maxLen
 ok:∃ o,zkg S.name X.tiers S.tiers X.floors o X S
 done:S.done<zb1 S.tiers
 b0:0≤S.bound
 fits:((zb3 (S.built X):Nat):Int)≤S.bound
structure zaH(Q:StX)(c:Nat):Prop where
 pol:zcl Q.X.name Q.X.tiers
 nm:Q.X.name.size≤maxLen
 good:zbE Q.X.name Q.X.tiers Q.X.floors Q.X c
 fl:∀ f∈Q.X.floors,0≤f∧f≤1099511627776+1000000*(c:Int)
 flen:Q.X.floors.length≤5
 room:0≤Q.room∧Q.room≤4096
 need:((zb3 Q.X:Nat):Int)+zdn Q.ch≤Q.room
 ch:∀ S,Q.ch=some S→zqe Q.X S
section
variable {Q:StX} {c:Nat}
theorem zaH.hfl(h:zaH Q c)(hc:c≤1000000):∀ f∈Q.X.floors,0≤f∧f≤2199023255552:=fun f hf=>by
 have:=h.fl f hf;omega
theorem zaH.more(h:zaH Q c){d:Nat}(hd:c≤d):zaH Q d:=
 ⟨h.pol,h.nm,h.good.more hd,fun f hf=>by have:=h.fl f hf;omega,h.flen,h.room,h.need,h.ch⟩
theorem zlm(X:zae)(s:List zaN):(zb2 X s).name=X.name∧(zb2 X s).tiers=X.tiers∧(zb2 X s).floors=X.floors∧(zb2 X s).now=X.now:=by
 unfold zb2
 split<;>exact⟨rfl,rfl,rfl,rfl⟩
theorem zjw(X:zae)(n:Int):(zaS X n).name=X.name∧(zaS X n).tiers=X.tiers∧(zaS X n).floors=X.floors:=by
 unfold zaS
 split<;>exact⟨rfl,rfl,rfl⟩
theorem zjD{X:zae}(h:zmz Q X=true):((zb3 X:Nat):Int)+zdn Q.ch≤Q.room∧zp7 Q.ch X=true:=by
 unfold zmz at h;rw[Bool.and_eq_true,decide_eq_true_eq] at h;exact h
theorem zaH.put(h:zaH Q c)(hc:c≤1000000)(s:List zaN):zaH (zp_ Q s) (c+8):=by
 unfold zp_
 split
 ·rename_i hE
  unfold zoY at hE
  have hP:zks Q.X s=0:=by
   by_cases hp:zks Q.X s=0
   ·exact hp
   ·rw[if_neg hp] at hE;exact absurd hE hp
  rw[if_pos hP] at hE
  have hR:zmz Q (zb2 Q.X s)=true:=by
   cases hr:zmz Q (zb2 Q.X s)
   ·rw[hr] at hE;cases hE
   ·rfl
  obtain⟨r1,r2⟩:=zjD hR;obtain⟨e1,e2,e3,e4⟩:=zlm Q.X s;have hg:=h.good.put s;refine⟨?_,?_,?_,?_,?_,h.room,?_,?_⟩
  ·show zcl (zb2 Q.X s).name (zb2 Q.X s).tiers
   rw[e1,e2];exact h.pol
  ·show (zb2 Q.X s).name.size≤_
   rw[e1];exact h.nm
  ·show zbE (zb2 Q.X s).name (zb2 Q.X s).tiers (zb2 Q.X s).floors (zb2 Q.X s) (c+8)
   rw[e1,e2,e3];exact hg
  ·show ∀ f∈(zb2 Q.X s).floors,_
   rw[e3];intro f hf;have:=h.fl f hf;omega
  ·show (zb2 Q.X s).floors.length≤5
   rw[e3];exact h.flen
  ·show ((zb3 (zb2 Q.X s):Nat):Int)+zdn (Q.ch.map fun S=>S.noted (zb2 Q.X s) s)≤Q.room
   have:zdn (Q.ch.map fun S=>S.noted (zb2 Q.X s) s)=zdn Q.ch:=by cases Q.ch<;>rfl
   rw[this];exact r1
  ·intro S' hS'
   have hS0:(Q.ch.map fun S=>S.noted (zb2 Q.X s) s)=some S':=hS'
   cases hch:Q.ch with
   | none=>rw[hch] at hS0;cases hS0
   | some S=>
    rw[hch] at hS0
    injection hS0 with hS0
    have hk:=h.ch S hch;obtain⟨o,ho⟩:=hk.ok;subst hS0;have hb:(S.noted (zb2 Q.X s) s).built (zb2 Q.X s)=S.built (zb2 Q.X s):=rfl;refine⟨hk.pol,hk.nm,⟨o,?_⟩,hk.done,hk.b0,?_⟩
    ·have:=ho.put h.pol.ck h.good (h.hfl hc) hk.pol.ck hP
     show zkg S.name (zb2 Q.X s).tiers S.tiers (zb2 Q.X s).floors o (zb2 Q.X s) (S.noted (zb2 Q.X s) s)
     rw[e2,e3]
     have e5:S.noted (zb2 Q.X s) s={S with tabs:=zf6 (zaw (zb2 Q.X s) S.name S.tiers (srcs o Q.X.tiers Q.X.floors S.tiers)) S.done S.tabs s}:=by
      unfold ShX.noted ShX.built;rw[ho.src]
     rw[e5];exact this
    ·show ((zb3 (S.built (zb2 Q.X s)):Nat):Int)≤S.bound
     rw[hch] at r2;exact of_decide_eq_true r2
 ·exact h.more (by omega)
theorem zkA{Y Z:zae}(ht:Y.tiers=Z.tiers)(hl:Y.tabs.length=Z.tabs.length)(h:∀ (j:Nat) (m m':List zah),Y.tabs[j]? =some m→Z.tabs[j]? =some m'→∀ M,ziX M m≤ziX M m'):zb3 Y≤zb3 Z:=by
 unfold zb3 zmR;rw[ht];refine zeQ (by simp[hl]) (fun i x y hx hy=>?_);rw[List.getElem?_zipWith] at hx hy
 cases h1:Z.tiers[i]? with
 | none=>rw[h1] at hx;cases hx
 | some t=>
  rw[h1] at hx hy
  cases h2:Y.tabs[i]? with
  | none=>rw[h2] at hx;cases hx
  | some m=>
   cases h3:Z.tabs[i]? with
   | none=>rw[h3] at hy;cases hy
   | some m'=>
    rw[h2] at hx;rw[h3] at hy
    cases hx
    cases hy
    exact h i m m' h2 h3 _
theorem zmd{nm:ByteArray}{l:List zaa}{fl:List Int}{X:zae}(hg:zbE nm l fl X c)(n:Int):zb3 (zaS X n)≤zb3 X:=by
 unfold zaS
 split
 ·refine zkA rfl (by show (zdz _ X).length=_;unfold zdz;rw[List.length_map,List.length_range,hg.tlen,hg.tiers]) (fun j m m' h1 h2 M=>?_)
  have hj:j<X.tiers.length:=by
   have h3:j<(zdz (X.now+n) X).length:=(List.getElem?_eq_some_iff.1 h1).1;unfold zdz at h3;simpa using h3
  have h1:(zdz (X.now+n) X)[j]? =some m:=h1;unfold zdz at h1;rw[List.getElem?_map,List.getElem?_range hj] at h1;simp only[Option.map_some,Option.some.injEq] at h1;subst h1
  have e:X.tabs.getD j []=m':=by rw[List.getD_eq_getElem?_getD,h2];rfl
  rw[e];exact zhk M _ m'
 ·exact Nat.le_refl _
theorem zej{nm2:ByteArray}{lt:List zaa}{X:zae}{ss:List Int}:(zaw X nm2 lt ss).tabs.length=lt.length:=by unfold zaw;simp
theorem zk9{nm nm2:ByteArray}{l lt:List zaa}{fl:List Int}{X:zae}{o:Int}(p:zal nm l=true)(hg:zbE nm l fl X c)(hfl:∀ f∈fl,0≤f∧f≤2199023255552)(p2:zal nm2 lt=true){n:Int}(hE:zhT X n=0):
  zb3 (zaw (zaS X n) nm2 lt (srcs o l fl lt))≤zb3 (zaw X nm2 lt (srcs o l fl lt)):=by
 refine zkA rfl (by rw[zej,zej]) (fun j m m' h1 h2 M=>?_)
 have hj:j<lt.length:=by
  have:=(List.getElem?_eq_some_iff.1 h1).1;rwa[zej] at this
 have e1:(zaw (zaS X n) nm2 lt (srcs o l fl lt)).tabs.getD j []=m:=by rw[List.getD_eq_getElem?_getD,h1];rfl
 have e2:(zaw X nm2 lt (srcs o l fl lt)).tabs.getD j []=m':=by rw[List.getD_eq_getElem?_getD,h2];rfl
 have:=zhL (o:=o) p hg hfl p2 hE hj;rw[e1,e2] at this;rw[this];exact zhk M _ m'
theorem zaH.tick(h:zaH Q c)(hc:c≤1000000)(n:Int):zaH (zml Q n) c:=by
 unfold zml
 split
 ·rename_i hE
  obtain⟨e1,e2,e3⟩:=zjw Q.X n;have hg:=h.good.tick n;have hnd:=zmd h.good n;have hneed:=h.need;refine⟨?_,?_,?_,?_,?_,h.room,?_,?_⟩
  ·show zcl (zaS Q.X n).name (zaS Q.X n).tiers
   rw[e1,e2];exact h.pol
  ·show (zaS Q.X n).name.size≤_
   rw[e1];exact h.nm
  ·show zbE (zaS Q.X n).name (zaS Q.X n).tiers (zaS Q.X n).floors (zaS Q.X n) c
   rw[e1,e2,e3];exact hg
  ·show ∀ f∈(zaS Q.X n).floors,_
   rw[e3];exact h.fl
  ·show (zaS Q.X n).floors.length≤5
   rw[e3];exact h.flen
  ·show ((zb3 (zaS Q.X n):Nat):Int)+zdn (Q.ch.map fun S=>zk6 (S.built (zaS Q.X n)) S)≤Q.room
   have:zdn (Q.ch.map fun S=>zk6 (S.built (zaS Q.X n)) S)=zdn Q.ch:=by cases Q.ch<;>rfl
   rw[this];omega
  ·intro S' hS'
   have hS0:(Q.ch.map fun S=>zk6 (S.built (zaS Q.X n)) S)=some S':=hS'
   cases hch:Q.ch with
   | none=>rw[hch] at hS0;cases hS0
   | some S=>
    rw[hch] at hS0
    injection hS0 with hS0
    have hk:=h.ch S hch;obtain⟨o,ho⟩:=hk.ok;subst hS0;refine⟨hk.pol,hk.nm,⟨o,?_⟩,hk.done,hk.b0,?_⟩
    ·have:=ho.tick h.pol.ck h.good (h.hfl hc) hk.pol.ck hE
     show zkg S.name (zaS Q.X n).tiers S.tiers (zaS Q.X n).floors o (zaS Q.X n) (zk6 (S.built (zaS Q.X n)) S)
     rw[e2,e3]
     have e5:S.built (zaS Q.X n)=zaw (zaS Q.X n) S.name S.tiers (srcs o Q.X.tiers Q.X.floors S.tiers):=by
      unfold ShX.built;rw[ho.src]
     rw[e5];exact this
    ·show ((zb3 (S.built (zaS Q.X n)):Nat):Int)≤S.bound
     have h1:=zk9 (o:=o) h.pol.ck h.good (h.hfl hc) hk.pol.ck hE;have h2:=hk.fits;unfold ShX.built at h2 ⊢;rw[ho.src] at h2 ⊢;omega
 ·exact h
theorem zk_(X:zae){nm2:ByteArray}{lt:List zaa}(p2:zcl nm2 lt):((zb3 ((zdW X nm2 lt).built X):Nat):Int)≤(zdW X nm2 lt).bound∧0≤(zdW X nm2 lt).bound:=by
 have h:=(zeo p2).1;have e:(zdW X nm2 lt).bound=2*((zb3 ((zdW X nm2 lt).built X):Nat):Int)+zbn lt:=rfl;omega
theorem zoQ(X:zae){nm2:ByteArray}{lt:List zaa}(p2:zcl nm2 lt):zkg nm2 X.tiers lt X.floors X.now X (zdW X nm2 lt):=
 ⟨rfl,rfl,rfl,by show (lt.map fun _=>[])=shT lt 0 _;rw[zn5],Int.le_refl _,by have:=zeo p2;show (0:Int)≤_;omega⟩
def zkW(R:Int×ByteArray×List zaa):Prop:=R.1=0→zcl R.2.1 R.2.2∧R.2.1.size≤maxLen
theorem zaH.change(h:zaH Q c){R:Int×ByteArray×List zaa}(hR:zkW R):zaH (zhW Q R) c:=by
 unfold zhW
 split
 ·rename_i hE
  unfold ziD at hE
  cases hch:Q.ch with
  | some S=>rw[hch] at hE;cases hE
  | none=>
   rw[hch] at hE;simp only at hE
   have hR0:R.1=0:=by
    by_cases hr:R.1=0
    ·exact hr
    ·rw[if_neg hr] at hE;exact absurd hE hr
   rw[if_pos hR0] at hE
   have hroom:((zb3 Q.X:Nat):Int)+(zdW Q.X R.2.1 R.2.2).bound≤Q.room:=by
    by_cases hr:((zb3 Q.X:Nat):Int)+(zdW Q.X R.2.1 R.2.2).bound≤Q.room
    ·exact hr
    ·rw[if_neg hr] at hE;cases hE
   obtain⟨p2,hnm2⟩:=hR hR0;refine⟨h.pol,h.nm,h.good,h.fl,h.flen,h.room,hroom,?_⟩;intro S' hS'
   injection hS' with hS'
   subst hS';have hb:=zk_ Q.X p2;have hst:=zeo p2;exact⟨p2,hnm2,⟨Q.X.now,zoQ Q.X p2⟩,by show (0:Int)<zb1 R.2.2;omega,hb.2,hb.1⟩
 ·exact h
theorem zne{now:Int}{l:List zaa}{fl:List Int}{B:Int}(hl:∀ t∈l,t.keep≤1000000∧t.every≤1000000)(hn:0≤now)(hnB:now≤B)(hfl:∀ f∈fl,f≤B)(h0:∀ t∈l,0≤t.keep∧1≤t.every)(k:Nat):zaF now l fl k≤B:=by
 unfold zaF
 split
 ·rename_i a b ha hb
  have h1:zch now a.keep b.every≤now:=by
   have ha1:=hl a (zab ha);have hb1:=hl b (zab hb);have ha2:=h0 a (zab ha);have hb2:=h0 b (zab hb);unfold zch;rw[if_neg (by omega)];have:=zkM (t:=now-a.keep) (e:=b.every) hb2.2 (by omega) hb1.2;omega
  simp only
  split
  ·rename_i f hf
   have:=hfl f (zab hf);omega
  ·omega
 ·omega
theorem zaH.step(h:zaH Q c)(hc:c≤1000000):zaH (zmm Q) (c+8):=by
 unfold zmm
 cases hch:Q.ch with
 | none=>exact h.more (by omega)
 | some S=>
  simp only;have hk:=h.ch S hch;obtain⟨o,ho⟩:=hk.ok;have hneed:=h.need;rw[hch] at hneed;have hneed:((zb3 Q.X:Nat):Int)+S.bound≤Q.room:=hneed;have hfits:=hk.fits
  have eb:S.built Q.X=zaw Q.X S.name S.tiers (srcs o Q.X.tiers Q.X.floors S.tiers):=by unfold ShX.built;rw[ho.src]
  split
  ·have hg:=zgB (o:=o) h.pol.ck h.good (h.hfl hc) hk.pol.ck
   refine⟨hk.pol,hk.nm,?_,?_,?_,h.room,?_,fun _ h=>by cases h⟩
   ·show zbE S.name S.tiers (S.built Q.X).floors (S.built Q.X) (c+8)
    rw[eb];exact hg.more (by omega)
   ·show ∀ f∈(S.built Q.X).floors,_
    rw[eb];intro f hf;obtain⟨k,hkk⟩:=List.getElem?_of_mem (show f∈zb8 Q.X.now Q.X.tiers Q.X.floors (srcs o Q.X.tiers Q.X.floors S.tiers) S.tiers from hf)
    have hkl:k<S.tiers.length:=by
     have:=(List.getElem?_eq_some_iff.1 hkk).1;unfold zb8 at this;rw[List.length_zipWith] at this;omega
    obtain⟨i,x,hx,_,_,_,hb⟩:=zdC (o:=o) (X:=Q.X) h.pol.ck h.good.now (h.hfl hc) hk.pol.ck (q6_ hkl);rw[hb] at hkk
    cases hkk
    have hn:=h.good.now;have hbd:=zih h.pol.ck hn.1 hn.2 (h.hfl hc) i;have hy1:=zaY hk.pol.ck (zab (q6_ hkl));have hcl:=zfG (t:=zaF Q.X.now Q.X.tiers Q.X.floors i) (e:=S.tiers[k].every) hbd.1 (by omega) hy1.1 hy1.2.1;have hhi:=zne (l:=Q.X.tiers) (fl:=Q.X.floors) (B:=1099511627776+1000000*(c:Int)) (fun t ht=>by have:=zaY h.pol.ck ht;omega) hn.1 (by omega) (fun f hf=>(h.fl f hf).2) (fun t ht=>by have:=zaY h.pol.ck ht;omega) i;omega
   ·show (S.built Q.X).floors.length≤5
    rw[eb]
    show (zb8 Q.X.now Q.X.tiers Q.X.floors (srcs o Q.X.tiers Q.X.floors S.tiers) S.tiers).length≤5
    unfold zb8;rw[List.length_zipWith];have:=hk.pol.five;omega
   ·show ((zb3 (S.built Q.X):Nat):Int)+0≤Q.room
    omega
  ·rename_i hd
   have hdd:=hk.done;refine⟨h.pol,h.nm,h.good.more (by omega),fun f hf=>by have:=h.fl f hf;omega,h.flen,h.room,hneed,?_⟩;intro S' hS'
   injection hS' with hS'
   subst hS';refine⟨hk.pol,hk.nm,⟨o,?_⟩,by show S.done+1<zb1 S.tiers;omega,hk.b0,hfits⟩;rw[eb];exact ho.next hk.done
theorem zaH.abort(h:zaH Q c):zaH (zmn Q) c:=by
 refine⟨h.pol,h.nm,h.good,h.fl,h.flen,h.room,?_,fun _ h=>by cases h⟩
 show ((zb3 Q.X:Nat):Int)+0≤Q.room
 have hn:=h.need
 cases hch:Q.ch with
 | none=>rw[hch] at hn;exact hn
 | some S=>
  rw[hch] at hn;have:=(h.ch S hch).b0;have hn:((zb3 Q.X:Nat):Int)+S.bound≤Q.room:=hn;omega
theorem zmP(nm:ByteArray)(l:List zaa)(now:Int)(fl:List Int):zb3 (zjQ nm l now fl)=0:=by
 have hz:∀ L:List zaa,(List.zipWith (fun (x:zaa) (m:List zah)=>ziX (max x.shards 1) m) L (L.map fun _=>[])).sum=0:=by
  intro L
  induction L with
  | nil=>rfl
  | cons a L ih=>
   rw[List.map_cons,List.zipWith_cons_cons,List.sum_cons,ih]
   have hz:∀ R:List Nat,(R.map fun k=>(zlQ (max a.shards 1) [] k+2) / 3).sum=0:=by
    intro R
    induction R with
    | nil=>rfl
    | cons x R ihR=>rw[List.map_cons,List.sum_cons,ihR,show zlQ (max a.shards 1) [] x=0 from rfl]
   unfold ziX;rw[hz]
 unfold zb3 zmR zjQ;exact hz l
theorem zmQ{nm:ByteArray}{l:List zaa}(p:zcl nm l):zkz nm l 0 []=0:=by
 unfold zkz;rw[if_pos p.ck,if_neg (by simp),if_pos];unfold zng;rw[List.all_eq_true];intro k _;unfold ze1;simp
theorem zaH.new{nm:ByteArray}{l:List zaa}(p:zcl nm l)(hnm:nm.size≤maxLen){room:Int}(h0:0≤room)(h1:room≤4096):zaH ⟨room,zjQ nm l 0 [],none⟩ 0:=by
 refine⟨p,hnm,zbE.new (zmQ p),(fun _ h=>by cases h),Nat.zero_le _,⟨h0,h1⟩,?_,(fun _ h=>by cases h)⟩
 show ((zb3 (zjQ nm l 0 []):Nat):Int)+0≤room
 rw[zmP];omega
end
def zqG(Q:StX)(o:OpS):StX:=
 if o.kind=1 then zp_ Q o.sl else if o.kind=2 then zml Q o.n else if o.kind=3 then zhW Q (zaT o.text) else if o.kind=4 then zmm Q else if o.kind=5 then zmn Q else Q
theorem znz{nm:ByteArray}{l:List zaa}(h:zal nm l=true):zcl nm l∧nm.size≤maxLen:=by
 refine⟨⟨h,fun t ht=>?_⟩,?_⟩
 ·have hm:=zaY h ht
  obtain⟨i,hi⟩:=List.getElem?_of_mem ht;have hf:=zcy h hi
  have hn:zau t.name=true:=by
   cases hv:zau t.name
   ·unfold zb7 zaa.ok at hf
    simp[hv] at hf
   ·rfl
  have:=ziu hn;unfold zaa.wf i64 maxLen;omega
 ·have hn:zau nm=true:=by
   cases hv:zau nm
   ·unfold zal at h
    simp[hv] at h
   ·rfl
  have:=ziu hn;unfold maxLen;omega
theorem zh0(text:ByteArray):zkW (zaT text):=by
 unfold zkW zaT;obtain⟨e,a,nm,l⟩:=zbS text;simp only
 by_cases he:e=0
 ·rw[if_pos he]
  by_cases hc:zal nm l=true
  ·rw[if_pos hc]
   intro _;exact znz hc
  ·rw[if_neg hc]
   intro h;exact absurd h (by decide)
 ·rw[if_neg he]
  intro h;exact absurd h he
theorem zaH.op{Q:StX}{c:Nat}(h:zaH Q c)(hc:c≤1000000)(o:OpS):zaH (zqG Q o) (c+8):=by
 unfold zqG
 split
 ·exact h.put hc _
 split
 ·exact (h.tick hc _).more (by omega)
 split
 ·exact (h.change (zh0 _)).more (by omega)
 split
 ·exact h.step hc
 split
 ·exact h.abort.more (by omega)
 ·exact h.more (by omega)
theorem Blk.set12{w:World}{g:Nat}{t:TypeId}{o0 o1 o2 o3 o4 o5 o6 o7 o8 o9 o10 o11 a0 a1 a2 a3 a4 a5 a6 a7 a8 a9 a10 a11:Value}(h:Blk w g t #[o0,o1,o2,o3,o4,o5,o6,o7,o8,o9,o10,o11]):Blk ((((((((((((w.setCell ⟨g,0,none⟩ (a0)).setCell ⟨g,1,none⟩ (a1)).setCell ⟨g,2,none⟩ (a2)).setCell ⟨g,3,none⟩ (a3)).setCell ⟨g,4,none⟩ (a4)).setCell ⟨g,5,none⟩ (a5)).setCell ⟨g,6,none⟩ (a6)).setCell ⟨g,7,none⟩ (a7)).setCell ⟨g,8,none⟩ (a8)).setCell ⟨g,9,none⟩ (a9)).setCell ⟨g,10,none⟩ (a10)).setCell ⟨g,11,none⟩ (a11)) g t #[a0,a1,a2,a3,a4,a5,a6,a7,a8,a9,a10,a11]:=by
 have:=((((((((((((h.set_ 0 a0).set_ 1 a1).set_ 2 a2).set_ 3 a3).set_ 4 a4).set_ 5 a5).set_ 6 a6).set_ 7 a7).set_ 8 a8).set_ 9 a9).set_ 10 a10).set_ 11 a11)
 simpa using this
theorem Fr.set12{w1 w:World}{F:Nat→Prop}(h:Fr F w1 w){g:Nat}(hg:F g∨w1.heap.size≤g)(a0 a1 a2 a3 a4 a5 a6 a7 a8 a9 a10 a11:Value):Fr F w1 ((((((((((((w.setCell ⟨g,0,none⟩ (a0)).setCell ⟨g,1,none⟩ (a1)).setCell ⟨g,2,none⟩ (a2)).setCell ⟨g,3,none⟩ (a3)).setCell ⟨g,4,none⟩ (a4)).setCell ⟨g,5,none⟩ (a5)).setCell ⟨g,6,none⟩ (a6)).setCell ⟨g,7,none⟩ (a7)).setCell ⟨g,8,none⟩ (a8)).setCell ⟨g,9,none⟩ (a9)).setCell ⟨g,10,none⟩ (a10)).setCell ⟨g,11,none⟩ (a11)):=
 ((((((((((((h.setCell (p:=⟨g,0,none⟩) hg a0).setCell (p:=⟨g,1,none⟩) hg a1).setCell (p:=⟨g,2,none⟩) hg a2).setCell (p:=⟨g,3,none⟩) hg a3).setCell (p:=⟨g,4,none⟩) hg a4).setCell (p:=⟨g,5,none⟩) hg a5).setCell (p:=⟨g,6,none⟩) hg a6).setCell (p:=⟨g,7,none⟩) hg a7).setCell (p:=⟨g,8,none⟩) hg a8).setCell (p:=⟨g,9,none⟩) hg a9).setCell (p:=⟨g,10,none⟩) hg a10).setCell (p:=⟨g,11,none⟩) hg a11)
theorem zbb:(prog.info? 29).map (·.size)=some 12:=by kernel_rfl
theorem zdJ(w:World):(Instr.build 29 #[]).run prog w=.ok (.agg #[.int .u64 0,.int .u64 0,.int .i64 0,.string {data:=#[]},.slice none 0 0,.slice none 0 0,.string {data:=#[]},.slice none 0 0,.slice none 0 0,.int .i64 0,.int .i64 0,.slice none 0 0]) w:=by kernel_rfl
section
variable {P:Program} {w:World} {g:Nat} {t:TypeId} {cs:Array Value}
theorem zcW(h:Blk w g t cs)(vs:Array Value)(n:Nat)(hs:cs.size=n)(hv:vs.size=n)(h1:vs.all (·.oneCell')=true)(hi:(P.info? t).map (·.size)=some n):
  ∃ w',(storeCells ⟨g,0,none⟩ vs.toList 0).run P w=.ok () w'∧(Instr.storeAt t (.pointer (some ⟨g,0,none⟩)) (.agg vs)).run P w=.ok () w'∧(storeVar t ⟨g,0,none⟩ (.agg vs)).run P w=.ok () w'∧Blk w' g t vs∧Fr (fun i=>i=g) w w':=by
 have hb:w.heap[g]? =some (Obj.cells cs t (0,0)):=h;have hlt:g<w.heap.size:=(Array.getElem?_eq_some_iff.1 hb).1;have hsv:(storeVar t ⟨g,0,none⟩ (.agg vs)).run P w=.ok () (w.setRow g vs):=run_storeVar_row _ _ t t cs vs hb (by rw[hi,hv]) (by omega) h1;refine⟨w.setRow g vs,?_,?_,hsv,?_,?_⟩
 ·have:=run_storeCells_from (P:=P) g t vs.toList 0 cs w hb (by simp;omega) (fun v hv=>by rw[Array.all_eq_true_iff_forall_mem] at h1;exact h1 v (by simpa using hv))
  simpa using this
 ·simp only[Instr.storeAt,Instr.sureAddr,Sem.run_bind,Sem.run_pure,Result.andThen]
  exact hsv
 ·show (w.setRow g vs).heap[g]? =_
  unfold World.setRow;simp[Array.getElem?_modify,hb]
 ·refine⟨rfl,rfl,rfl,by simp[World.setRow],fun i hi hn=>?_⟩
  show (w.setRow g vs).heap[i]? =_
  unfold World.setRow;simp only[Array.getElem?_modify];rw[if_neg (fun e=>hn e.symm)]
theorem zb4{fs:Array Field}(h:Blk w g t cs)(n:Nat)(hs:cs.size=n)(hu:P.underlying t=some (.struct fs))(hi:(P.info? t).map (·.size)=some n):
  (loadCellsFrom ⟨g,0,none⟩ 0 n #[]).run P w=.ok cs w∧(Instr.loadAt t (.pointer (some ⟨g,0,none⟩))).run P w=.ok (.agg cs) w∧(loadVar t ⟨g,0,none⟩).run P w=.ok (.agg cs) w:=by
 have hb:w.heap[g]? =some (Obj.cells cs t (0,0)):=h
 have h0:(loadCellsFrom ⟨g,0,none⟩ 0 n #[]).run P w=.ok cs w:=by
  subst hs
  have:=run_loadCells_list (P:=P) w ⟨g,0,none⟩ cs.toList (fun j v hv=>by
   have hadd:(⟨g,0,none⟩:Addr).add j=⟨g,j,none⟩:=by unfold Addr.add;split<;>simp_all
   rw[hadd,cell_of_row _ _ j cs t (0,0) hb]
   simpa using hv)
  simpa[loadCells] using this
 have h2:(loadVar t ⟨g,0,none⟩).run P w=.ok (.agg cs) w:=by
  cases hq:P.info? t with
  | none=>simp[hq] at hi
  | some i=>
   have hz:i.size=n:=by simpa[hq] using hi
   simp[loadVar,isAgg,underlying,sizeOf,typeInfo,hq,hu,hz,loadCells,h0]
 refine⟨h0,?_,h2⟩;simp only[Instr.loadAt,Instr.sureAddr,Sem.run_bind,Sem.run_pure,Result.andThen];exact h2
end
theorem zjF{fn:Func}{p u:Tmp}{t:TypeId}(h:fn.results=#[.cell p t,.tmp u])(tmps:Array Value)(P:Program)(w:World)(g:Nat)(vs:Array Value)(hp:tmps.getD p undef=.pointer (some ⟨g,0,none⟩))(hl:(loadVar t ⟨g,0,none⟩).run P w=.ok (.agg vs) w):
  (results fn tmps).run P w=.ok (.tuple #[.agg vs,tmps.getD u undef]) w:=by
 have hp2:tmps[p]?.getD undef=.pointer (some ⟨g,0,none⟩):=by rw[← hp];simp
 simp[results,h,asAddr,hp2,hl]
theorem zbX{P:Program}{fn:Func}{R:Ending→World→Prop}{a:Act}{w:World}{p u:Tmp}{t:TypeId}(hf:fn.results=#[.cell p t,.tmp u])(g:Nat)(vs:Array Value)(x:Value)(hp:a.tmps.getD p undef=.pointer (some ⟨g,0,none⟩))(hx:a.tmps.getD u undef=x)
  (hl:(loadVar t ⟨g,0,none⟩).run P w=.ok (.agg vs) w) (hd:a.defers=[]) (hR:R (.returned (.tuple #[.agg vs,x])) w):bodyPost P fn R .ret a w:=
 bodyPost_ret (by rw[zjF hf a.tmps P w g vs hp hl,hx]) hd hR
section
variable {P:Program} {w:World} {ops:Array Oper} {rest:List Oper} {o:Oper} {a:Act} {Q:Exit→Act→World→Prop}
theorem zbj(hgd:o.guard=none)(p x:Operand)(t:TypeId)(ho:o.op=.store t p x)(g:Nat)(vs:Array Value)(w':World)(hp:a.eval p=.pointer (some ⟨g,0,none⟩))(hx:a.eval x=.agg vs)
  (hrun:(Instr.storeAt t (.pointer (some ⟨g,0,none⟩)) (.agg vs)).run P w=.ok () w') (h:wpList P ops Q rest (a.put o.dst undef) w'):wpList P ops Q (o::rest) a w:=
 wpList_plain hgd fun K hK=>by
  unfold Oper.wp execOp;simp only[ho,Sem.run_bind,hp,hx,hrun,Result.andThen_ok,Sem.run_pure];exact hK _ _ h
theorem zbF(hgd:o.guard=none)(t:TypeId)(ho:o.op=.build t #[])(v:Value)(hrun:(Instr.build t #[]).run P w=.ok v w)(h:wpList P ops Q rest (a.put o.dst v) w):wpList P ops Q (o::rest) a w:=
 wpList_plain hgd fun K hK=>by
  unfold Oper.wp execOp
  have e:(Instr.build t ((#[]:Array (Nat×Operand)).map fun (i,x)=>(i,a.eval x))).run P w=.ok v w:=by simpa using hrun
  simp only[ho,Sem.run_bind,e,Result.andThen_ok,Sem.run_pure];exact hK _ _ h
theorem zgI(hgd:o.guard=none)(p:Operand)(t:TypeId)(ho:o.op=.load t p)(g:Nat)(vs:Array Value)(hp:a.eval p=.pointer (some ⟨g,0,none⟩))
  (hrun:(Instr.loadAt t (.pointer (some ⟨g,0,none⟩))).run P w=.ok (.agg vs) w) (h:wpList P ops Q rest (a.put o.dst (.agg vs)) w):wpList P ops Q (o::rest) a w:=
 wpList_plain hgd fun K hK=>by
  unfold Oper.wp execOp;simp only[ho,Sem.run_bind,hp,hrun,Result.andThen_ok,Sem.run_pure];exact hK _ _ h
end
def ZC:Array Value:=#[.int .u64 0,.int .u64 0,.int .i64 0,.string {data:=#[]},.slice none 0 0,.slice none 0 0,.string {data:=#[]},.slice none 0 0,.slice none 0 0,.int .i64 0,.int .i64 0,.slice none 0 0]
structure GA(w W:World)(g cb:Nat)(s:RS)(cs:Array Value):Prop where
 fr:Fr (fun _=>False) w W
 glo:w.heap.size<g
 clo:w.heap.size<cb
 rb:Blk W w.heap.size 29 ZC
 cb:Blk W cb 29 cs
 u:UQ W g s
section
variable {w W W':World} {g cb:Nat} {s s':RS} {cs:Array Value}
theorem GA.gc(h:GA w W g cb s cs):g≠cb:=h.u.1.ne_ h.cb (by decide)
theorem GA.read(h:GA w W g cb s cs)(u:UQ W' g s')(f:Fr (fun i=>i=g) W W'):GA w W' g cb s' cs:=
 ⟨h.fr.trans f (fun k hk=>.inr (by have:=h.glo;omega)),h.glo,h.clo,h.rb.fr f (fun e=>by have:=h.glo;omega),h.cb.fr f (fun e=>h.gc e.symm),u⟩
theorem GA.fr0(h:GA w W g cb s cs)(f:Fr (fun _=>False) W W'):GA w W' g cb s cs:=
 ⟨h.fr.trans f q4_,h.glo,h.clo,h.rb.fr f (fun h=>h),h.cb.fr f (fun h=>h),h.u.fr0 f⟩
theorem GA.set_(h:GA w W g cb s cs)(p:Nat)(v:Value):GA w (W.setCell ⟨cb,p,none⟩ v) g cb s (cs.setIfInBounds p v):=by
 have f:Fr (fun i=>i=cb) W (W.setCell ⟨cb,p,none⟩ v):=(Fr.refl (fun i=>i=cb) W).setCell (p:=⟨cb,p,none⟩) (.inl rfl) v;exact⟨h.fr.setCell (p:=⟨cb,p,none⟩) (.inr (Nat.le_of_lt h.clo)) v,h.glo,h.clo,h.rb.fr f (fun e=>by have:=h.clo;omega),h.cb.set_ p v,h.u.fr f h.gc⟩
theorem GA.lt(h:GA w W g cb s cs):g<W.heap.size∧cb<W.heap.size∧w.heap.size<W.heap.size:=⟨h.u.1.lt,h.cb.lt,h.rb.lt⟩
theorem GA.grow{wq w6 w7:World}{t t':RS}{m p j bc c7:Nat}{B A7:Option Addr}{bl:List Int}{v:Int}{o:Obj}(h:GA w wq g cb t cs)(hr:wq.ownsRow m 3 1 (.slice B j bc) j (za6 bl))(hm:g<m∧cb<m∧w.heap.size<m)(hp:cs[p]? =some (.slice B j bc))
  (hu:UQ w6 g t') (f6:Fr (fun i=>i=g) wq w6) (h7:w7.ownsRow m 3 1 (.slice A7 (j+1) c7) (j+1) (za6 bl++[.int .i64 v])) (mv:Mv (zag (.slice B j bc)) (zag (.slice A7 (j+1) c7)) (w6.alloc o) w7):
  (w7.cell? ⟨cb,p,none⟩=some (.slice B j bc)∧w7.frozen? ⟨cb,p,none⟩=false)∧
  GA w (w7.setCell ⟨cb,p,none⟩ (.slice A7 (j+1) c7)) g cb t' (cs.setIfInBounds p (.slice A7 (j+1) c7))∧
  (w7.setCell ⟨cb,p,none⟩ (.slice A7 (j+1) c7)).ownsRow m 3 1 (.slice A7 (j+1) c7) (j+1) (za6 (bl++[v]))∧
  Fr (fun i=>(i=g∨i=cb)∨zag (.slice B j bc) i) wq (w7.setCell ⟨cb,p,none⟩ (.slice A7 (j+1) c7)):=by
 have h6:=(h.read hu f6).fr0 (Fr.none_alloc w6 o);have hrm:∀ k,zag (.slice B j bc) k→m≤k:=fun k hk=>(hr.lt k hk).1
 have h7a:GA w w7 g cb t' cs:=⟨h6.fr.trans mv.fr (fun k hk=>.inr (by have:=hrm k hk;omega)),h6.glo,h6.clo,h6.rb.fr mv.fr (fun hk=>by have:=hrm _ hk;omega),h6.cb.fr mv.fr (fun hk=>by have:=hrm _ hk;omega),h6.u.fr mv.fr (fun hk=>by have:=hrm _ hk;omega)⟩
 have hst:Fr (fun i=>i=cb) w7 (w7.setCell ⟨cb,p,none⟩ (.slice A7 (j+1) c7)):=(Fr.refl (fun i=>i=cb) w7).setCell (p:=⟨cb,p,none⟩) (.inl rfl) _;refine⟨⟨by rw[h7a.cb.cell p,hp],h7a.cb.frozen p⟩,h7a.set_ p _,?_,?_⟩
 ·have e:za6 (bl++[v])=za6 bl++[.int .i64 v]:=by unfold za6;rw[List.map_append];rfl
  rw[e];exact zad h7 hst (fun k hk e=>zac h7 h7a.cb (by decide) (by rw[← e];exact hk))
 ·exact ((((f6.mono (G:=fun i=>(i=g∨i=cb)∨zag (.slice B j bc) i) (fun k hk=>.inl (.inl (.inl hk)))).alloc o).trans mv.fr (fun k hk=>.inl (.inr hk))).trans hst (fun k hk=>.inl (.inl (.inr hk))))
end
theorem zo_(t:ByteArray):((zaT t).1=0∧zcl (zaT t).2.1 (zaT t).2.2∧(zaT t).2.1.size≤maxLen)∨((zaT t).1≠0∧(zaT t).2=(ByteArray.empty,[])):=by
 by_cases h:(zaT t).1=0
 ·exact .inl ⟨h,zh0 t h⟩
 ·refine .inr ⟨h,?_⟩
  revert h
  unfold zaT;obtain⟨e,a,nm,l⟩:=zbS t;simp only
  by_cases he:e=0
  ·rw[if_pos he]
   by_cases hc:zal nm l=true
   ·rw[if_pos hc]
    intro h;exact absurd rfl h
   ·rw[if_neg hc]
    intro _
    rfl
  ·rw[if_neg he]
   intro _
   rfl
theorem zfW{t nm:ByteArray}{e:Int}{l:List zaa}(h:zaT t=(e,nm,l)):nm.size≤maxLen∧(∀ t∈l,t.wf)∧l.length≤5:=by
 rcases zo_ t with ⟨_,p,hs⟩ | ⟨_,h2⟩
 ·rw[h] at p hs
  exact⟨hs,p.wf,p.five⟩
 ·rw[h] at h2
  dsimp only at h2
  injection h2 with h1 h2
  subst h1 h2;exact⟨Nat.zero_le _,fun t ht=>(by cases ht),Nat.zero_le _⟩
theorem zlp{t nm:ByteArray}{e1 e:Int}{l:List zaa}(h:zkv e1 t=(e,nm,l)):nm.size≤maxLen∧(∀ t∈l,t.wf)∧l.length≤5:=by
 unfold zkv at h
 split at h
 ·injection h with _ h
  injection h with h1 h2
  subst h1 h2;exact⟨Nat.zero_le _,fun t ht=>(by cases ht),Nat.zero_le _⟩
 ·exact zfW h
def zkY(W:World)(lo:Nat):Option ShX→Value→(Nat→Prop)→Prop
 | none,v,F=>v=.pointer none∧F=fun _=>False
 | some S,v,F=>∃ s base,lo≤base∧v=.pointer (some ⟨s,0,none⟩)∧zhR W s base S F
structure zhQ(W:World)(g lo:Nat)(Q:StX)(c t:Nat)(Ft Fs:Nat→Prop)(v:Value):Prop where
 blk:Blk W g 148 #[.int .i64 Q.room,.pointer (some ⟨t,0,none⟩),v]
 glo:lo≤g
 tio:Tio Q.X.name Q.X.tiers Q.X.floors lo W t Q.X Ft c
 ch:zkY W lo Q.ch v Fs
 apart:∀ j,Ft j→¬ Fs j
def stF(g:Nat)(Ft Fs:Nat→Prop):Nat→Prop:=fun j=>j=g∨Ft j∨Fs j
def zfH(W:World)(g lo:Nat)(Q:StX)(c:Nat)(F:Nat→Prop):Prop:=∃ t Ft Fs v,zhQ W g lo Q c t Ft Fs v∧F=stF g Ft Fs
def zir(W:World)(G:Nat→Prop):Prop:=∀ j,G j→(∃ es ck,W.heap[j]? =some (.map es ck))∨(∃ cs fz ty,W.heap[j]? =some (.cells cs ty fz)∧ty≠99∧ty≠3∧ty≠208∧ty≠244)
section
variable {W W':World} {g lo:Nat} {Q:StX} {c t:Nat} {Ft Fs F G:Nat→Prop} {v:Value}
theorem zkY.fr{o:Option ShX}(h:zkY W lo o v Fs)(hf:Fr G W W')(hG:zir W G)(hd:∀ j,Fs j→¬ G j):zkY W' lo o v Fs:=by
 cases o with
 | none=>exact h
 | some S=>
  obtain⟨s,base,hb,hv,hs⟩:=h;exact⟨s,base,hb,hv,hs.fr hf hG hd⟩
theorem zkY.kind2{o:Option ShX}(h:zkY W lo o v Fs):zir W Fs:=by
 cases o with
 | none=>obtain⟨_,rfl⟩:=h;exact fun _ h=>h.elim
 | some S=>
  obtain⟨s,base,hb,hv,hs⟩:=h;exact hs.kind2
theorem zkY.ge{o:Option ShX}(h:zkY W lo o v Fs):∀ j,Fs j→lo≤j∧j<W.heap.size:=by
 cases o with
 | none=>obtain⟨_,rfl⟩:=h;exact fun _ h=>h.elim
 | some S=>
  obtain⟨s,base,hb,hv,hs⟩:=h;intro j hj;have:=hs.ge j hj;omega
theorem Tio.kind2{nm:ByteArray}{l:List zaa}{fl:List Int}{X:zae}(h:Tio nm l fl lo W t X Ft c):zir W Ft:=by
 obtain⟨b,hb,ho⟩:=h.on;exact ho.kind2
theorem Tio.frK2{nm:ByteArray}{l:List zaa}{fl:List Int}{X:zae}(h:Tio nm l fl lo W t X Ft c)(hf:Fr G W W')(hG:zir W G)(hd:∀ j,Ft j→¬ G j):Tio nm l fl lo W' t X Ft c:=by
 obtain⟨b,hb,ho⟩:=h.on;exact⟨⟨b,hb,ho.frSh hf hG hd⟩,h.good⟩
theorem zhQ.fr(h:zhQ W g lo Q c t Ft Fs v)(hf:Fr G W W')(hG:zir W G)(hd:∀ j,stF g Ft Fs j→¬ G j):zhQ W' g lo Q c t Ft Fs v:=
 ⟨h.blk.fr hf (hd g (.inl rfl)),h.glo,h.tio.frK2 hf hG (fun j hj=>hd j (.inr (.inl hj))),h.ch.fr hf hG (fun j hj=>hd j (.inr (.inr hj))),h.apart⟩
theorem zhr:zir W (fun _=>False):=fun _ h=>h.elim
theorem zhQ.fr0(h:zhQ W g lo Q c t Ft Fs v)(hf:Fr (fun _=>False) W W'):zhQ W' g lo Q c t Ft Fs v:=h.fr hf zhr (fun _ _ h=>h)
theorem zhQ.kind2(h:zhQ W g lo Q c t Ft Fs v):zir W (stF g Ft Fs):=by
 rintro j (rfl | hj | hj)
 ·exact .inr ⟨_,_,_,h.blk,by decide,by decide,by decide,by decide⟩
 ·exact h.tio.kind2 j hj
 ·exact h.ch.kind2 j hj
theorem zhQ.ge(h:zhQ W g lo Q c t Ft Fs v):∀ j,stF g Ft Fs j→lo≤j∧j<W.heap.size:=by
 rintro j (rfl | hj | hj)
 ·exact⟨h.glo,h.blk.lt⟩
 ·exact h.tio.ge j hj
 ·exact h.ch.ge j hj
theorem zhQ.more(h:zhQ W g lo Q c t Ft Fs v){d:Nat}(hd:c≤d):zhQ W g lo Q d t Ft Fs v:=⟨h.blk,h.glo,h.tio.more hd,h.ch,h.apart⟩
theorem zfH.fr(h:zfH W g lo Q c F)(hf:Fr G W W')(hG:zir W G)(hd:∀ j,F j→¬ G j):zfH W' g lo Q c F:=by
 obtain⟨t,Ft,Fs,v,hi,rfl⟩:=h;exact⟨t,Ft,Fs,v,hi.fr hf hG hd,rfl⟩
theorem zfH.fr0(h:zfH W g lo Q c F)(hf:Fr (fun _=>False) W W'):zfH W' g lo Q c F:=h.fr hf zhr (fun _ _ h=>h)
theorem zfH.kind2(h:zfH W g lo Q c F):zir W F:=by
 obtain⟨t,Ft,Fs,v,hi,rfl⟩:=h;exact hi.kind2
theorem zfH.ge(h:zfH W g lo Q c F):∀ j,F j→lo≤j∧j<W.heap.size:=by
 obtain⟨t,Ft,Fs,v,hi,rfl⟩:=h;exact hi.ge
theorem zfH.more(h:zfH W g lo Q c F){d:Nat}(hd:c≤d):zfH W g lo Q d F:=by
 obtain⟨t,Ft,Fs,v,hi,rfl⟩:=h;exact⟨t,Ft,Fs,v,hi.more hd,rfl⟩
theorem zfH.apart{g2 lo2 c2:Nat}{Q2:StX}{F2:Nat→Prop}(h:zfH W g lo Q c F)(h2:zfH W g2 lo2 Q2 c2 F2)(hf:Fr F2 W W')(hd:∀ j,F j→¬ F2 j):zfH W' g lo Q c F:=h.fr hf h2.kind2 hd
def zqM(W:World)(F F':Nat→Prop):Prop:=∀ j,F' j→F j∨W.heap.size≤j
end
theorem zjA(room:Int)(w:World):Calls prog 94 #[.int .i64 room] w fun r w'=>r=.returned (.bool (decide (0≤room)&&decide (room≤4096)))∧w=w':=by
 have go:∀ b1 b2:Bool,decide (0≤room)=b1→decide (room≤4096)=b2→Calls prog 94 #[.int .i64 room] w fun r w'=>r=.returned (.bool (b1&&b2))∧w=w':=by
  intro b1 b2 e1 e2
  cases b1<;>cases b2<;>(
   go_enter func94,ntmps94;go_wp2;go_ret
   exact⟨by first | rfl | simp[*],rfl⟩)
 exact go _ _ rfl rfl
section
variable {W:World} {g lo:Nat} {Q:StX} {c t:Nat} {Ft Fs F:Nat→Prop} {v:Value}
theorem zhQ.cells(h:zhQ W g lo Q c t Ft Fs v){G:Nat→Prop}{W':World}(f:Fr G W W')(hg:¬ G g):W'.cell? ⟨g,0,none⟩=some (.int .i64 Q.room)∧W'.cell? ⟨g,1,none⟩=some (.pointer (some ⟨t,0,none⟩))∧W'.cell? ⟨g,2,none⟩=some v:=by
 have b:=h.blk.fr f hg;exact⟨b.cell 0,b.cell 1,b.cell 2⟩
theorem zhQ.cells0(h:zhQ W g lo Q c t Ft Fs v):W.cell? ⟨g,0,none⟩=some (.int .i64 Q.room)∧W.cell? ⟨g,1,none⟩=some (.pointer (some ⟨t,0,none⟩))∧W.cell? ⟨g,2,none⟩=some v:=h.cells (Fr.refl (fun _=>False) W) (fun h=>h)
theorem zkY.val{o:Option ShX}(h:zkY W lo o v Fs):(o=none→v=.pointer none)∧(∀ S,o=some S→∃ s,v=.pointer (some ⟨s,0,none⟩)):=by
 cases o with
 | none=>exact⟨fun _=>h.1,(fun _ e=>by cases e)⟩
 | some S=>
  obtain⟨s,base,_,hv,_⟩:=h;exact⟨(fun e=>by cases e),fun _ _=>⟨s,hv⟩⟩
theorem zlS(hg:zaH Q c)(h:zkY W lo Q.ch v Fs)(lo2:Nat)(hlo:lo2≤W.heap.size):Calls prog 109 #[v] W fun r w'=>(∃ v F',r=.returned v∧zkY w' lo2 Q.ch v F'∧∀ j,F' j→W.heap.size≤j)∧Below W.heap.size W w':=by
 cases hc:Q.ch with
 | none=>
  rw[hc] at h;obtain⟨rfl,_⟩:=h;refine (zmv W).mono ?_;rintro r w' ⟨rfl,rfl⟩;exact⟨⟨.pointer none,fun _=>False,rfl,⟨rfl,rfl⟩,fun _ h=>h.elim⟩,Below.refl _ _⟩
 | some S=>
  rw[hc] at h;obtain⟨s,base,_,rfl,hs⟩:=h;have hk:=hg.ch S hc;obtain⟨o,ho⟩:=hk.ok;have hst:=zeo hk.pol;refine (zmw s base S Fs W hs hk.pol.pos (by have:=hk.pol.five;omega) (by rw[ho.src];unfold srcs;rw[List.length_map];have:=hk.pol.five;omega) (fun x hx=>(zaY hk.pol.ck hx).2.2.2.2.2) (fun x hx=>(zaY hk.pol.ck hx).1) hk.b0 (by omega)).mono ?_;rintro r w' ⟨⟨o',F',rfl,h1⟩,hb⟩;exact⟨⟨_,F',rfl,⟨o',W.heap.size,hlo,rfl,h1⟩,fun j hj=>(h1.ge j hj).1⟩,hb⟩
theorem zjz(hg:zaH Q c)(h:zfH W g lo Q c F)(lo2:Nat)(hlo:lo2≤W.heap.size):Calls prog 29 #[.pointer (some ⟨g,0,none⟩)] W fun r w'=>(∃ t' F',r=.returned (.pointer (some ⟨t',0,none⟩))∧Tio Q.X.name Q.X.tiers Q.X.floors lo2 w' t' Q.X F' c∧∀ j,F' j→W.heap.size≤j)∧Below W.heap.size W w':=by
 obtain⟨t,Ft,Fs,v,hi,_⟩:=h;have HC:=q0_ (znY hg.pol hi.tio (Nat.le_trans hg.flen (by decide)) lo2 hlo);obtain⟨_,c1,_⟩:=hi.cells0;clear hi;go_enter func29,ntmps29;go_wp2_with fail;refine HC.out.mono ?_;rintro r w1 ⟨⟨t',F',rfl,h1,h2⟩,hb⟩;have H1:=q0_ h1;have H2:=q0_ h2;have HB:=q0_ hb;clear h1 h2 hb;go_wp2;go_ret;exact⟨⟨t',F',rfl,H1.out,H2.out⟩,HB.out⟩
theorem ziA(hg:zaH Q c)(h:zfH W g lo Q c F)(lo2:Nat)(hlo:lo2≤W.heap.size):Calls prog 30 #[.pointer (some ⟨g,0,none⟩)] W fun r w'=>(∃ v F',r=.returned v∧zkY w' lo2 Q.ch v F'∧∀ j,F' j→W.heap.size≤j)∧Below W.heap.size W w':=by
 obtain⟨t,Ft,Fs,v,hi,_⟩:=h;obtain⟨_,_,c2⟩:=hi.cells0;have HC:Hid (Calls prog 109 #[v] W fun r w'=>(∃ v F',r=.returned v∧zkY w' lo2 Q.ch v F'∧∀ j,F' j→W.heap.size≤j)∧Below W.heap.size W w'):=zlS hg hi.ch lo2 hlo;clear hi;go_enter func30,ntmps30;go_wp2_with fail;refine HC.out.mono ?_;rintro r w1 ⟨⟨v',F',rfl,h1,h2⟩,hb⟩;have H1:=q0_ h1;have H2:=q0_ h2;have HB:=q0_ hb;clear h1 h2 hb;go_wp2;go_ret;exact⟨⟨v',F',rfl,H1.out,H2.out⟩,HB.out⟩
end
end Go.Proofs.YteajonicnkpbbaaGreatDoor
