/- What was laid of a store is read: plain law. -/
import Derived.Test.YtjhhodndlkpmhaaGreatDoorCatO
import Derived.Test.YtjhhodndlkpmhaaGreatDoorRTSum
namespace Go.Proofs.YtjhhodndlkpmhaaGreatDoor
set_option linter.all false
open Go.RowKit
def znn(X:zaa):Prop:=∀ (k:Nat) (r:zae),r∈X.tabs.getD k []→r.start≤X.now
theorem znO{X:zaa}{s:List zas}(h:zfR X s=0):∀ a∈s,0≤a.time∧a.time≤X.now:=by
 intro a ha;unfold zfR at h
 split at h
 ·cases h
 split at h
 ·cases h
 unfold zef at h
 split at h
 ·rename_i b hb
  have h2:=List.find?_some hb;have h3:=of_decide_eq_true h2;exact absurd h h3
 ·rename_i hn
  have h2:=List.find?_eq_none.1 hn a ha
  have h3:zbP X.now X.tiers X.floors a=0:=by
   by_cases h4:zbP X.now X.tiers X.floors a=0
   ·exact h4
   ·exact absurd (qa_ h4) h2
  unfold zbP at h3
  split at h3
  ·rename_i hc
   split at h3
   ·cases h3
   ·exact⟨hc.2,by omega⟩
  ·cases h3
theorem zpr{e hi:Int}{l:List zae}(hg:za6 l)(h:∀ r∈l,r.start≤hi){r:zae}(hr:r.start≤hi):∀ y∈zb0 e l r,y.start≤hi:=by
 intro y hy;unfold zb0 at hy
 split at hy
 ·rcases (zaH mgM hg.1 y).1 hy with rfl | ⟨hy,_⟩
  ·exact hr
  ·exact h y hy
 ·exact h y hy
theorem ziR{X:zaa}{s:zas}{k:Nat}{m:List zae}(hx1:∀ x∈X.tiers,1≤x.every)(hs:0≤s.time∧s.time≤X.now)(hg:za6 m)(h:∀ r∈m,r.start≤X.now):za6 (zcd X s k m)∧∀ r∈zcd X s k m,r.start≤X.now:=by
 unfold zcd
 split
 ·rename_i x hx
  split
  ·refine⟨zdf hg _,zpr hg h ?_⟩
   have hxe:=hx1 x (zab hx);have hk:k<X.tiers.length:=(List.getElem?_eq_some_iff.1 hx).1;unfold zbW
   split
   ·simp only[Int.toNat_natCast,hx]
    rw[zf2 hs.1 hxe];have:=Int.emod_nonneg s.time (show x.every≠0 by omega);omega
   ·dsimp only
    omega
  ·exact⟨hg,h⟩
 ·exact⟨hg,h⟩
theorem zj2{X:zaa}{s:zas}{tabs:List (List zae)}(hx1:∀ x∈X.tiers,1≤x.every)(hs:0≤s.time∧s.time≤X.now)(hg:∀ k,za6 (tabs.getD k []))(h:∀ (k:Nat) (r:zae),r∈tabs.getD k []→r.start≤X.now):(∀ k,za6 ((ze1 X tabs s).getD k []))∧∀ (k:Nat) (r:zae),r∈(ze1 X tabs s).getD k []→r.start≤X.now:=by
 have hk:∀ k,(ze1 X tabs s).getD k []=if k<X.tiers.length then zcd X s k (tabs.getD k []) else[]:=fun k=>by
  unfold ze1;rw[List.getD_eq_getElem?_getD,List.getElem?_map]
  by_cases hk:k<X.tiers.length
  ·rw[List.getElem?_range hk,if_pos hk];rfl
  ·rw[List.getElem?_eq_none (by simpa using hk),if_neg hk];rfl
 refine⟨fun k=>?_,fun k r hr=>?_⟩
 ·rw[hk k]
  split
  ·exact (ziR hx1 hs (hg k) (h k)).1
  ·exact zbF
 ·rw[hk k] at hr
  split at hr
  ·exact (ziR hx1 hs (hg k) (h k)).2 r hr
  ·cases hr
theorem zhu{X:zaa}(hx1:∀ x∈X.tiers,1≤x.every):∀ {s:List zas} {tabs:List (List zae)},(∀ a∈s,0≤a.time∧a.time≤X.now)→(∀ k,za6 (tabs.getD k []))→(∀ (k:Nat) (r:zae),r∈tabs.getD k []→r.start≤X.now)→∀ (k:Nat) (r:zae),r∈(zcp X tabs s).getD k []→r.start≤X.now
 | [],_,_,_,h=>h
 | a::s,tabs,hs,hg,h=>zhu hx1 (s:=s) (tabs:=ze1 X tabs a) (fun y hy=>hs y (List.mem_cons_of_mem _ hy)) (zj2 hx1 (hs a (by simp)) hg h).1 (zj2 hx1 (hs a (by simp)) hg h).2
theorem znn.put{nm:ByteArray}{l:List za_}{fl:List Int}{X:zaa}{c:Nat}(h:znn X)(hx1:∀ x∈X.tiers,1≤x.every)(hg:zbf nm l fl X c)(s:List zas):znn (za4 X s):=by
 unfold za4
 split
 ·rename_i he
  exact zhu hx1 (znO he) hg.good h
 ·exact h
theorem zkm{n:Nat}(hn:n<4294967296)(t:List UInt8):zai 4 ⟨0,le n 4++t⟩=(⟨0,t⟩,(n:Int)):=by
 have h:=Enc.small (k:=4) (v:=(n:Int)) (zoI ⟨by omega,by omega⟩) t;rw[Int.toNat_natCast] at h;exact h
theorem zpY(b:List UInt8):zd9 ⟨0,b⟩=b:=by
 unfold zd9 zay;dsimp only;rw[if_pos rfl,if_neg (by omega)];exact List.take_length
theorem zmx{X:zaa}{k:Nat}{x:za_}{m:List zae}{rest:List UInt8}(hx:X.tiers[k]? =some x)(hk:X.tabs[k]? =some [])(hs:zav m)(hr:∀ r∈m,zaG x.every r=true∧zar X.now X.tiers X.floors k≤r.start)(hok:m.all za0=true)(hw:∀ r∈m,r.wf)(hn:m.length<4294967296):
  zih k X ⟨0,zcT m++rest⟩=some ({X with tabs:=X.tabs.set k m},⟨0,rest⟩):=by
 have e1:zai 4 ⟨0,zcT m++rest⟩=(⟨0,m.flatMap zdD++rest⟩,(m.length:Int)):=by
  unfold zcT;rw[List.append_assoc];exact zkm hn _
 have hl:(m.flatMap zdD).length=64*m.length:=zeG hok;have ht:(m.flatMap zdD++rest).take (64*m.length)=m.flatMap zdD:=List.take_left' hl;have hd:(m.flatMap zdD++rest).drop (64*m.length)=rest:=List.drop_left' hl;have hf1:m.filter (ldB X k)=m:=List.filter_eq_self.2 (fun r h=>qa_ (hr r h).2);have hf2:m.filter (zaG x.every)=m:=List.filter_eq_self.2 (fun r h=>(hr r h).1)
 have hN:zfu X k m=m.length:=by unfold zfu;rw[hx];simp only;rw[hf1,hf2]
 have hX:zea X k m={X with tabs:=X.tabs.set k m}:=by
  unfold zea;rw[hx,hk];simp only;rw[hf1,zg1 (acc:=[]) (by simpa using hs) (fun r h=>(hr r h).1)]
  rfl
 unfold zih;rw[e1];simp only[Int.toNat_natCast,zpY];rw[if_neg (by rw[q8_,hl];omega),ht,zkt hw hok,if_pos rfl,zkr hw hok,hN,if_pos rfl,hX,hd]
def zny(L:List (List zae))(k:Nat):List (List zae):=L.take k++List.replicate (L.length-k) []
theorem zpG{L:List (List zae)}{k:Nat}(hk:k<L.length):(zny L k)[k]? =some []:=by
 unfold zny;rw[List.getElem?_append_right (by rw[List.length_take];omega),List.length_take,show k-min k L.length=0 by omega,List.getElem?_replicate,if_pos (by omega)]
theorem zpF{L:List (List zae)}{k:Nat}{m:List zae}(hm:L[k]? =some m):(zny L k).set k m=zny L (k+1):=by
 have hk:k<L.length:=(List.getElem?_eq_some_iff.1 hm).1;unfold zny;rw[zan hm,List.set_append,if_neg (by rw[List.length_take];omega),List.length_take,show k-min k L.length=0 by omega]
 obtain⟨j,hj⟩:∃ j,L.length-k=j+1:=⟨L.length-k-1,by omega⟩
 rw[hj,show L.length-(k+1)=j by omega,List.replicate_succ,List.set_cons_zero,List.append_assoc]
 rfl
theorem zgx{X:zaa}{L:List (List zae)}(hlen:L.length=X.tiers.length)
  (hall:∀ (k:Nat) (m:List zae) (x:za_),L[k]? =some m→X.tiers[k]? =some x→zav m∧(∀ r∈m,zaG x.every r=true∧zar X.now X.tiers X.floors k≤r.start)∧m.all za0=true∧(∀ r∈m,r.wf)∧m.length<4294967296):
  ∀ (j k:Nat),k+j=L.length→zcM j k {X with tabs:=zny L k} ⟨0,(L.drop k).flatMap zcT⟩=some ({X with tabs:=L},⟨0,[]⟩)
 | 0,k,h=>by
  have e:zny L k=L:=by
   unfold zny;rw[show L.length-k=0 by omega,List.take_of_length_le (by omega)];simp
  rw[e,List.drop_eq_nil_of_le (by omega)]
  rfl
 | j+1,k,h=>by
  have hk:k<L.length:=by omega
  obtain⟨m,hm⟩:∃ m,L[k]? =some m:=⟨_,q6_ hk⟩
  obtain⟨x,hx⟩:∃ x,X.tiers[k]? =some x:=⟨_,q6_ (by omega)⟩
  obtain⟨h1,h2,h3,h4,h5⟩:=hall k m x hm hx
  have hd:L.drop k=m::L.drop (k+1):=by rw[List.drop_eq_getElem_cons hk,(List.getElem?_eq_some_iff.1 hm).2]
  have hb:=zmx (X:={X with tabs:=zny L k}) (k:=k) (rest:=(L.drop (k+1)).flatMap zcT) hx (zpG hk) h1 h2 h3 h4 h5;rw[hd,List.flatMap_cons,zgw (by omega) hb,Nat.add_sub_cancel];simp only;rw[zpF hm];exact zgx hlen hall j (k+1) (by omega)
theorem zmL(t:List UInt8):zc5 zbc ⟨0,zbc++t⟩=some ⟨0,t⟩:=by
 have step:∀ (x:UInt8) (u:List UInt8),zai 1 ⟨0,x::u⟩=(⟨0,u⟩,(x.toNat:Int)):=fun x u=>by
  have h:=Enc.small (k:=1) (v:=(x.toNat:Int)) (zjw ⟨by omega,by have:=x.toNat_lt;omega⟩) u;rw[Int.toNat_natCast] at h
  have e:le x.toNat (Int.toNat 1)=[x]:=by simp[le]
  rw[e] at h;exact h
 unfold zbc;simp only[List.cons_append,List.nil_append,zc5,step,if_pos]
theorem zqL{Q:StX}{c:Nat}(hg:zbf Q.X.name Q.X.tiers Q.X.floors Q.X c)(hc:c≤1000000)(hlow:zr4 Q.X)(hhigh:znn Q.X)(hw:∀ (k:Nat) (m:List zae),Q.X.tabs[k]? =some m→∀ r∈m,r.wf)
  (hcat:znq (zha (ofQ Q))=some ⟨1,1,Q.X.now,Q.X.name,Q.X.tiers,zaW Q.X.now Q.X.tiers Q.X.floors,ByteArray.empty,[],[],0,0,[]⟩) (hlen:(zha (ofQ Q)).length≤40000)
  (hnew:zfs Q.X.name Q.X.tiers Q.X.now (zaW Q.X.now Q.X.tiers Q.X.floors)=0) (hfr:∀ k,zar Q.X.now Q.X.tiers (zaW Q.X.now Q.X.tiers Q.X.floors) k≤zar Q.X.now Q.X.tiers Q.X.floors k):
  Q.X.tabs.all (fun m=>m.all za0)=true∧zb1 (zdw Q)=some {Q.X with floors:=zaW Q.X.now Q.X.tiers Q.X.floors}:=by
 have hrec:∀ (k:Nat) (m:List zae) (x:za_),Q.X.tabs[k]? =some m→Q.X.tiers[k]? =some x→zav m∧(∀ r∈m,zaG x.every r=true∧zar Q.X.now Q.X.tiers Q.X.floors k≤r.start)∧m.all za0=true∧m.length<4294967296:=fun k m x hm hx=>by
  have hmD:Q.X.tabs.getD k []=m:=by rw[List.getD_eq_getElem?_getD,hm];rfl
  have hgo:=hg.good k;rw[hmD] at hgo;have hgr:=hg.grid k x hx;rw[hmD] at hgr;have hn:=hg.now;refine⟨hgo.1,fun r hr=>⟨?_,hlow k r (by rw[hmD];exact hr)⟩,?_,?_⟩
  ·obtain⟨g1,g2,g3⟩:=hgr r hr
   unfold zaG;rw[g1,g3,qa_ g2,hgo.2 r hr]
   rfl
  ·rw[List.all_eq_true]
   intro r hr;obtain⟨g1,g2,g3⟩:=hgr r hr;have h1:=hhigh k r (by rw[hmD];exact hr);unfold za0 zf_;rw[g1,hgo.2 r hr,qa_ g2,qa_ (show r.start≤1099511627776 by omega)]
   rfl
  ·have:=hg.len m (zab hm)
   omega
 have htl:Q.X.tabs.length=Q.X.tiers.length:=hg.tlen;refine⟨?_,?_⟩
 ·rw[List.all_eq_true]
  intro m hm;obtain⟨k,hk,rfl⟩:=List.mem_iff_getElem.1 hm;exact (hrec k _ _ (q6_ hk) (q6_ (by omega))).2.2.1
 ·have ht:zco ⟨0,zb6 (zal (zha (ofQ Q)))++Q.X.tabs.flatMap zcT⟩=(⟨0,Q.X.tabs.flatMap zcT⟩,zal (zha (ofQ Q))):=Enc.text (by rw[zam];omega) _
  have hb:zcM Q.X.tiers.length 0 (zfZ Q.X.name Q.X.tiers Q.X.now (zaW Q.X.now Q.X.tiers Q.X.floors)) ⟨0,Q.X.tabs.flatMap zcT⟩=some ({Q.X with floors:=zaW Q.X.now Q.X.tiers Q.X.floors},⟨0,[]⟩):=by
   have h:=zgx (X:={Q.X with floors:=zaW Q.X.now Q.X.tiers Q.X.floors}) (L:=Q.X.tabs) htl (fun k m x hm hx=>by
    obtain⟨a1,a2,a3,a4⟩:=hrec k m x hm hx
    exact⟨a1,fun r hr=>⟨(a2 r hr).1,Int.le_trans (hfr k) (a2 r hr).2⟩,a3,hw k m hm,a4⟩) Q.X.tiers.length 0 (by omega)
   have e:zfZ Q.X.name Q.X.tiers Q.X.now (zaW Q.X.now Q.X.tiers Q.X.floors)={{Q.X with floors:=zaW Q.X.now Q.X.tiers Q.X.floors} with tabs:=zny Q.X.tabs 0}:=by
    unfold zfZ zny;rw[List.take_zero,List.nil_append,Nat.sub_zero,htl,List.map_const']
   rw[e];exact h
  unfold zb1 zdw;rw[zmL,zjS ht,zjT (by rw[za8];exact hcat)];unfold zss;simp only;rw[if_pos hnew,hb]
  rfl
end Go.Proofs.YtjhhodndlkpmhaaGreatDoor
