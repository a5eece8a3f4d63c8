/- Walks of sedimentbook.Small and (plan.Plan).fills, Steps, Bound. -/
import Derived.Test.YtjhhodndlkpmhaaGreatDoorBases
namespace Go.Proofs.YtjhhodndlkpmhaaGreatDoor
set_option linter.all false
set_option maxHeartbeats 2000000
set_option maxRecDepth 100000
open Go.RowKit Tryz
def zbp(l:List za_):Int:=(l.map fun t=>max t.shards 0).sum
theorem zhQ{l:List za_}{k:Nat}{x:za_}(h:l[k]? =some x):zbp (l.take (k+1))=zbp (l.take k)+max x.shards 0:=by
  rw[zan h];simp[zbp]
theorem zoT(nm : ByteArray)(l : List za_)(A : Option Addr)(n c : Nat)(S : Option Addr)(m d : Nat)(w : World)(hr : Rd w 4 A n (zah l))(hn : n ≤ 1099511627776)(hs : ∀ t ∈ l, t.shards ≤ 8) :
    Calls prog 171 #[zfm nm A n c S m d] w fun r w'=>r=.returned (.int .i64 (zbp l))∧Below w.heap.size w w':=by
  have Hr:=q0_ hr;have Hs:=q0_ hs;have Hlen:=q0_ hr.tiers_len;clear hr hs;have O:=q0_ ((Own.start w).skip (Fr.none_alloc w (.cells #[.string nm,.slice A n c,.slice S m d] 106)));unfold zfm;go_enter func171,ntmps171;go_wp2_with fail
  go_loopw [3,10] (fun s i wr=>∃ (k:Nat) (v:Int),k≤n∧i=.int .i64 k∧s=.int .i64 v∧0≤v∧v≤8*k∧Hid (v=zbp (l.take k))∧Own w wr (fun _=>False)) (fun _ i _=>n-(intOf i).toNat)
  case atStart=>exact⟨0,0,Nat.zero_le _,rfl,rfl,by omega,by omega,by simp[Hid,zbp],O.out⟩
  case round=>
    obtain⟨k,v,hk,rfl,rfl,v0,v1,hv,ho⟩:=hrel
    by_cases hlt:k<n
    · obtain⟨ad,x,rfl,hu,d0,d1,d2,d3⟩:=(Hr.out.below ho.bel).tier hlt
      have hx8:=Hs.out x (zab hu);have Hu:=q0_ hu;have Ho:=q0_ ho;have Hf:=q0_ (zhQ hu);clear ho hu
      by_cases h0:0≤x.shards
      · go_wp2
        all_goals (
          go_roundw
          case rel=>exact⟨k+1,v+x.shards,by omega,by go_num,by go_num,by omega,by omega,by rw[Hid,Hf.out, ← hv.out];omega,Ho.out.skip (Fr.none_alloc _ _)⟩
          case measure=>simp[intOf];omega)
      · go_wp2
        all_goals (
          go_roundw
          case rel=>exact⟨k+1,v,by omega,by go_num,by go_num,by omega,by omega,by rw[Hid,Hf.out, ← hv.out];omega,Ho.out.skip (Fr.none_alloc _ _)⟩
          case measure=>simp[intOf];omega)
    · obtain rfl:k=n:=by omega
      have Ho:=q0_ ho;have hl:=hv.out;rw[za3 (by have:=Hlen.out;omega)] at hl;have Hl:=q0_ hl;clear ho hl
      go_wp2
      go_ret;exact⟨by rw[← Hl.out];rfl,Ho.out.bel⟩
def zcz(l:List za_):Int:=if l=[] then 0 else zbp l+2
theorem zjC{l:List za_}(hs:∀ t∈l,t.shards≤8):0≤zbp l∧zbp l≤8*l.length:=by
  induction l with
  | nil=>simp[zbp]
  | cons a t ih=>
    have h1:=ih (fun x hx=>hs x (List.mem_cons_of_mem _ hx));have h2:=hs a (List.mem_cons_self ..)
    have h3:zbp (a::t)=max a.shards 0+zbp t:=by simp[zbp]
    rw[h3,List.length_cons];omega
theorem znW(nm : ByteArray)(l : List za_)(A : Option Addr)(n c : Nat)(S : Option Addr)(m d : Nat)(w : World)(hr : Rd w 4 A n (zah l))(hn : n ≤ 1099511627776)(hs : ∀ t ∈ l, t.shards ≤ 8) :
    Calls prog 142 #[zfm nm A n c S m d] w fun r w'=>r=.returned (.int .i64 (zcz l))∧Below w.heap.size w w':=by
  have hlen:=hr.tiers_len;have hin:=zjC hs;have H:=q0_ (fun w' (h:Fr (fun _=>False) w w')=>zoT nm l A n c S m d w' (hr.fr0 h) hn hs);have O:=q0_ ((Own.start w).skip (Fr.none_alloc w (.cells #[.string nm,.slice A n c,.slice S m d] 106)));clear hr hs;unfold zfm at H ⊢
  by_cases h0:n=0
  · subst h0
    obtain rfl:l=[]:=List.eq_nil_of_length_eq_zero hlen;rw[show zcz []=0 from rfl];clear hin hlen H;go_enter func142,ntmps142;go_wp2;go_ret;exact⟨rfl,O.out.bel⟩
  · have hne:l≠[]:=by rintro rfl;exact h0 hlen.symm
    rw[show zcz l=zbp l+2 by simp[zcz,hne]]
    have hnb:((n:Int)==0)=false:=by simp;omega
    obtain⟨v,hv⟩:∃ v,zbp l=v:=⟨_,rfl⟩
    rw[hv] at H hin ⊢;obtain⟨v0,v1⟩:=hin;clear hv hne h0;go_enter func142,ntmps142;go_wp2_with fail;refine (H.out _ (Fr.none_alloc _ _)).mono ?_;rintro r w1 ⟨rfl,hb⟩;have O2:=q0_ (O.out.below hb);clear hb;go_wp2;go_ret;exact⟨rfl,O2.out.bel⟩
theorem zn6(s:ByteArray)(n:Int):0≤zbR s n∧zbR s n≤4294967295:=by
  have:=zlE s.data.toList;unfold zbR
  split
  · omega
  · have h1:=Int.emod_nonneg (zeo s.data.toList) (show n≠0 by omega)
    have h2:zeo s.data.toList%n≤zeo s.data.toList:=by
      have h3:=Int.mul_ediv_add_emod (zeo s.data.toList) n;have h4:=Int.mul_nonneg (show 0≤n by omega) (Int.ediv_nonneg this.1 (show 0≤n by omega));omega
    omega
theorem zm0(nm : ByteArray)(l : List za_)(A : Option Addr)(n c : Nat)(S : Option Addr)(m d : Nat)(k : Int)(j : Nat)(t : za_)(s : ByteArray)(w : World)(hr : Rd w 4 A n (zah l))(hnc : n ≤ c)(hn : n ≤ 1099511627776)(hs : ∀ t ∈ l, t.shards ≤ 8)(hj : l[j]? = some t)(hsz : s.size ≤ maxLen) :
    Calls prog 92 #[zfm nm A n c S m d,.int .i64 k,.int .i64 j,.string s] w fun r w'=>r=.returned (.bool (decide (zbR s t.shards+zbp (l.take j)<k)))∧Below w.heap.size w w':=by
  have hlen:=hr.tiers_len
  have hjn:j<n:=by have:=(List.getElem?_eq_some_iff.1 hj).1;omega
  have hjc:(j:Int)≤(c:Int):=by omega
  have hjc':j≤c:=by omega
  have hjn':(j:Int)<(n:Int):=by omega
  have HSh:=q0_ (fun w'=>ziV s hsz t.shards w');have hsh:=zn6 s t.shards
  obtain⟨sv,hsv⟩:∃ sv,zbR s t.shards=sv:=⟨_,rfl⟩
  rw[hsv] at HSh hsh ⊢;obtain⟨sv0,sv1⟩:=hsh;obtain⟨ad,t',hA,hj',d0,d1,d2,d3⟩:=hr.tier hjn;subst hA;obtain rfl:t=t':=Option.some.inj (hj.symm.trans hj');have Hr:=q0_ hr;have Hs:=q0_ hs;have Hlen:=q0_ hlen;have d3':=fun o=>(Fr.none_alloc w o).cell d3 (fun h=>h);have O:=q0_ ((Own.start w).skip (Fr.none_alloc w (.cells #[.string nm,.slice (some ad) n c,.slice S m d] 106)));have HT:=q0_ (hr.takeT (k:=j) (by omega));clear hr hs hlen hj hj' d0 d1 d2 d3 hsv hsz;unfold zfm;go_enter func92,ntmps92;go_wp2_with fail;refine (HSh.out _).mono ?_;rintro r w1 ⟨rfl,rfl⟩;clear d3';go_wp2_with fail
  go_loopw [9,37] (fun q i wr=>∃ (k2:Nat) (v:Int),k2≤j∧i=.int .i64 k2∧q=.int .i64 v∧0≤v∧v≤4294967295+8*k2∧Hid (v=sv+zbp (l.take k2))∧Own w wr (fun _=>False)) (fun _ i _=>j-(intOf i).toNat)
  case atStart=>exact⟨0,sv,Nat.zero_le _,rfl,rfl,by omega,by omega,by simp[Hid,zbp],O.out⟩
  case round=>
    obtain⟨k2,v,hk,rfl,rfl,v0,v1,hv,ho⟩:=hrel
    by_cases hlt:k2<j
    · obtain⟨ad',x,e,hu,d0,d1,d2,d3⟩:=(HT.out.below ho.bel).tier hlt
      injection e with e
      subst e;rw[List.getElem?_take,if_pos hlt] at hu;have hx8:=Hs.out x (zab hu);have Ho:=q0_ ho;have Hf:=q0_ (zhQ hu);clear ho hu
      by_cases h0:0≤x.shards
      · go_wp2
        all_goals (
          go_roundw
          case rel=>exact⟨k2+1,v+x.shards,by omega,by go_num,by go_num,by omega,by omega,by rw[Hid,Hf.out,hv.out];omega,Ho.out.skip (Fr.none_alloc _ _)⟩
          case measure=>simp[intOf];omega)
      · go_wp2
        all_goals (
          go_roundw
          case rel=>exact⟨k2+1,v,by omega,by go_num,by go_num,by omega,by omega,by rw[Hid,Hf.out,hv.out];omega,Ho.out.skip (Fr.none_alloc _ _)⟩
          case measure=>simp[intOf];omega)
    · obtain rfl:k2=j:=by omega
      have Ho:=q0_ ho;clear ho;have E:=q0_ (show decide (sv+zbp (l.take k2)<k)=decide (v<k) by rw[← hv.out])
      go_wp2
      go_ret;exact⟨by rw[E.out];rfl,Ho.out.bel⟩
theorem zch{nm:ByteArray}{l:List za_}(h:zak nm l=true):1≤l.length∧l.length≤5:=by
  unfold zak zbn at h;simp only[Bool.and_eq_true,decide_eq_true_eq] at h;omega
theorem zdb{nm:ByteArray}{l:List za_}(h:zak nm l=true){i:Nat}{t:za_}(ht:l[i]? =some t):zdR t (l.take i)=true:=by
  unfold zak at h;simp only[Bool.and_eq_true,List.all_eq_true,List.mem_range] at h;have:=h.2 i (List.getElem?_eq_some_iff.1 ht).1;unfold zfN at this;rw[ht] at this;exact this
theorem zqv{t:za_}{l:List za_}(h:zdR t l=true):(1≤t.keep∧t.keep≤1000000)∧1≤t.shards∧t.shards≤8:=by
  unfold zdR za_.ok zbn at h;simp only[Bool.and_eq_true,decide_eq_true_eq] at h;omega
theorem znP{l:List za_}{i:Nat}{a:za_}(h:l[i]? =some a):(l.take (i+1)).getLast?=some a:=by
  rw[zan h,List.getLast?_append];rfl
theorem zeq{nm:ByteArray}{l:List za_}(h:zak nm l=true):∀ (i:Nat) (t:za_),l[i]? =some t→(i=0→t.every=1)∧1≤t.every∧t.every≤1000000:=by
  intro i
  induction i with
  | zero=>
    intro t ht;have:=zdb h ht;unfold zdR at this;simp only[List.take_zero,List.getLast?_nil,Bool.and_eq_true,beq_iff_eq] at this;omega
  | succ i ih=>
    intro t ht
    have hi:i<l.length:=by have:=(List.getElem?_eq_some_iff.1 ht).1;omega
    have ha:l[i]? =some l[i]:=q6_ hi;have:=zdb h ht;unfold zdR at this;rw[znP ha] at this;simp only[Bool.and_eq_true,decide_eq_true_eq] at this;have:=ih _ ha;omega
theorem zaN{nm:ByteArray}{l:List za_}(h:zak nm l=true){t:za_}(ht:t∈l):1≤t.every∧t.every≤1000000∧1≤t.keep∧t.keep≤1000000∧1≤t.shards∧t.shards≤8:=by
  obtain⟨i,hi,rfl⟩:=List.mem_iff_getElem.1 ht;have ha:l[i]? =some l[i]:=q6_ hi;have h1:=zeq h i _ ha;have h2:=zqv (zdb h ha);omega
theorem znY(now : Int)(l : List za_)(fl : List Int)(e : Int)(m : Nat)(hm : m ≤ l.length) :
    (zeE now l fl e m= -1∧∀ i<m,∀ t,l[i]? =some t→zau t.every e=false)∨
    (∃ (k:Nat) (t:za_),k<m∧zeE now l fl e m=k∧l[k]? =some t∧zau t.every e=true∧∀ i<m,∀ t',l[i]? =some t'→zau t'.every e=true→zar now l fl k≤zar now l fl i):=by
  induction m with
  | zero=>exact .inl ⟨rfl,fun i hi=>by omega⟩
  | succ m ih=>
    have ha:l[m]? =some l[m]:=q6_ (by omega);simp only[zeE,ha]
    rcases ih (by omega) with ⟨h1,h2⟩ | ⟨k,t,h0,h1,h2,h3,h4⟩
    · rw[h1]
      by_cases hd:zau l[m].every e=true
      · refine .inr ⟨m,l[m],by omega,by simp[hd],ha,hd,fun i hi t' ht' hd'=>?_⟩
        rcases Nat.lt_or_ge i m with hlt | hge
        · rw[h2 i hlt t' ht'] at hd';cases hd'
        · obtain rfl:i=m:=by omega
          exact Int.le_refl _
      · refine .inl ⟨by simp[hd],fun i hi t ht=>?_⟩
        rcases Nat.lt_or_ge i m with hlt | hge
        · exact h2 i hlt t ht
        · obtain rfl:i=m:=by omega
          rw[ha] at ht
          injection ht with ht
          subst ht;simpa using hd
    · rw[h1]
      have hk:decide ((k:Int)<0)=false:=q9_ (by omega);rw[hk,Int.toNat_natCast,Bool.false_or]
      by_cases hd:zau l[m].every e=true
      · by_cases hle:zar now l fl m≤zar now l fl k
        · refine .inr ⟨m,l[m],by omega,by simp[hd,hle],ha,hd,fun i hi t' ht' hd'=>?_⟩
          rcases Nat.lt_or_ge i m with hlt | hge
          · exact Int.le_trans hle (h4 i hlt t' ht' hd')
          · obtain rfl:i=m:=by omega
            exact Int.le_refl _
        · refine .inr ⟨k,t,by omega,by simp[hle],h2,h3,fun i hi t' ht' hd'=>?_⟩
          rcases Nat.lt_or_ge i m with hlt | hge
          · exact h4 i hlt t' ht' hd'
          · obtain rfl:i=m:=by omega
            omega
      · refine .inr ⟨k,t,by omega,by simp[hd],h2,h3,fun i hi t' ht' hd'=>?_⟩
        rcases Nat.lt_or_ge i m with hlt | hge
        · exact h4 i hlt t' ht' hd'
        · obtain rfl:i=m:=by omega
          rw[ha] at ht'
          injection ht' with ht'
          subst ht';exact absurd hd' hd
theorem zkZ(e:Int):zau 1 e=true:=by unfold zau;simp[Int.tmod_one]
theorem zq9{now : Int}{nm : ByteArray}{l : List za_}{fl : List Int}(e : Int)(h : zak nm l = true) :
    ∃ (k:Nat) (t:za_),k<l.length∧zeE now l fl e l.length=k∧l[k]? =some t∧e.tmod t.every=0∧∀ (i:Nat) (t':za_),l[i]? =some t'→e.tmod t'.every=0→zar now l fl k≤zar now l fl i:=by
  rcases znY now l fl e l.length (Nat.le_refl _) with ⟨_,h2⟩ | ⟨k,t,h0,h1,h2,h3,h4⟩
  · have hl:=zch h
    have ha:l[0]? =some l[0]:=q6_ (by omega);have:=h2 0 (by omega) _ ha;rw[(zeq h 0 _ ha).1 rfl,zkZ] at this
    cases this
  · refine⟨k,t,h0,h1,h2,?_,fun i t' ht' hd=>h4 i (List.getElem?_eq_some_iff.1 ht').1 t' ht' ?_⟩
    · unfold zau at h3
      simp only[Bool.and_eq_true,decide_eq_true_eq] at h3;exact h3.2
    · have:=zeq h i t' ht'
      unfold zau;simp only[Bool.and_eq_true,decide_eq_true_eq];exact⟨this.2.1,hd⟩
theorem zf5{t e:Int}(h0:0≤t)(h1:t≤4398046511104)(he:1≤e)(he2:e≤1000000):(zcK t e).tmod e=0∧t≤zcK t e∧zcK t e-t<e∧0≤zcK t e∧zcK t e≤4398047511104:=by
  have hb:=(zdG t e he)
  have h3:=hb.2.2.1 h0
  have hdvd:e∣t-t.tmod e:=⟨t.tdiv e,by have:=Int.mul_tdiv_add_tmod t e;omega⟩
  unfold zcK;rw[if_neg (by omega)]
  split
  · refine⟨?_,by omega⟩
    exact Int.tmod_eq_zero_of_dvd (Int.dvd_add hdvd (Int.dvd_refl e))
  · rename_i hn
    refine⟨Int.tmod_eq_zero_of_dvd hdvd,?_⟩
    have:t.tmod e=0:=by
      have:¬ (0<t.tmod e):=fun hh=>hn ⟨hh,by omega⟩;omega
    omega
theorem zqt{t e:Int}(he:1≤e)(h0: -1000000≤t)(he2:e≤1000000):zaq t e≤t:=by
  have hb:=(zdG t e he)
  unfold zaq;rw[if_neg (by omega)]
  split
  · omega
  · rename_i hn
    have:¬ (t.tmod e<0):=fun hh=>hn ⟨hh,by omega⟩;omega
theorem ziy{now:Int}{nm:ByteArray}{l:List za_}{fl:List Int}(h:zak nm l=true)(h0:0≤now)(h1:now≤1099511627776)(hf:∀ f∈fl,0≤f∧f≤2199023255552)(k:Nat):0≤zar now l fl k∧zar now l fl k≤2199023255552:=by
  unfold zar
  split
  · rename_i a b ha hb
    have h2:=zaN h (zab ha);have h3:=zaN h (zab hb)
    have h4:0≤zcu now a.keep b.every∧zcu now a.keep b.every≤2199023255552:=by
      unfold zcu;rw[if_neg (by omega)];have:=zqt (t:=now-a.keep) (e:=b.every) (by omega) (by omega) (by omega);omega
    split
    · rename_i f hfk
      have:=hf f (zab hfk)
      show 0≤max (zcu now a.keep b.every) f∧max (zcu now a.keep b.every) f≤_
      omega
    · exact h4
  · omega
end Go.Proofs.YtjhhodndlkpmhaaGreatDoor
