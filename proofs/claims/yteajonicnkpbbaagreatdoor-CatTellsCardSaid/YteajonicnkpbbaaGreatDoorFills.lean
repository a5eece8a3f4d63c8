/- Walks of sedimentbook.Small and (plan.Plan).fills, Steps, Bound. -/
import Derived.Test.YteajonicnkpbbaaGreatDoorBases
import Derived.Test.YteajonicnkpbbaaGreatDoorReadLaw
namespace Go.Proofs.YteajonicnkpbbaaGreatDoor
set_option linter.all false
set_option maxRecDepth 100000
open Go.RowKit Tryz
def zc_(nm:ByteArray)(n:Nat)(r:Ending):Prop:=∃ b,r=.returned (.bool b)∧(b=true→n≤10∧nm.size≤60)
theorem zc_.no{nm:ByteArray}{n:Nat}:zc_ nm n (.returned (.bool false)):=⟨false,rfl,by simp⟩
theorem zc_.yes{nm:ByteArray}{n:Nat}(h:n≤10)(h2:nm.size≤60):zc_ nm n (.returned (.bool true)):=⟨true,rfl,fun _=>⟨h,h2⟩⟩
theorem zhM(nm : ByteArray)(l : List zaa)(A : Option Addr)(n c : Nat)(w : World)(hr : Rd w 4 A n (zaf l))(hn : n ≤ 9223372036854775807)(hnm : nm.size ≤ maxLen)(hsz : ∀ t ∈ l, t.name.size ≤ maxLen) :
    Calls prog 37 #[zdw nm A n c] w fun r w'=>zc_ nm n r∧Below w.heap.size w w':=by
  have Hr:=q0_ hr;have Hsz:=q0_ hsz
  have hnm':(nm.size:Int)≤9223372036854775807:=by unfold maxLen at hnm;omega
  clear hr hsz hnm;have B0:=q0_ (Blk.new w 25 #[.string nm,.slice A n c]);have O:=q0_ ((Own.start w).skip (Fr.none_alloc w (.cells #[.string nm,.slice A n c] 25)));unfold zdw;go_enter func37,ntmps37;go_wp2_with fail
  go_loopw [3] (fun i wr=>∃ k:Nat,k≤n∧k≤12∧i=.int .i64 k∧Blk wr w.heap.size 25 #[.string nm,.slice A n c]∧Own w wr (fun _=>False)) (fun i _=>n-(intOf i).toNat)
  case atStart=>exact⟨0,Nat.zero_le _,by omega,rfl,B0.out,O.out⟩
  case round=>
    obtain⟨k,hk,hk12,rfl,hb,ho⟩:=hrel;have c0:=hb.cell 0;have c1:=hb.cell 1;simp only[q1_,q2_,q3_] at c0 c1
    by_cases hlt:k<n
    · by_cases h12:k<12
      · obtain⟨ad,x,rfl,hu,d0,d1,d2,d3⟩:=(Hr.out.below ho.bel).tier hlt
        have hxs:(x.name.size:Int)≤9223372036854775807:=by have:=Hsz.out x (zab hu);unfold maxLen at this;omega
        have Hb:=q0_ hb;have Ho:=q0_ ho;clear hb ho hu
        by_cases h60:60<x.name.size
        · have g1:(60:Int)<(x.name.size:Int):=by omega
          go_wp2
          go_ret;exact⟨by first | exact zc_.no | (simp[*];first | exact zc_.no | (rw[q9_ (show ¬ ((nm.size:Int)≤60) by omega)];exact zc_.no)),Ho.out.bel⟩
        · have g1:(x.name.size:Int)≤60:=by omega
          go_wp2
          go_roundw
          case rel=>exact⟨k+1,by omega,by omega,by go_num,Hb.out,Ho.out⟩
          case measure=>simp[intOf];omega
      · have hn10:(10:Int)<(n:Int):=by omega
        have Ho:=q0_ ho;clear ho hb
        go_wp2
        go_ret;exact⟨by first | exact zc_.no | (simp[*];first | exact zc_.no | (rw[q9_ (show ¬ ((nm.size:Int)≤60) by omega)];exact zc_.no)),Ho.out.bel⟩
    · obtain rfl:k=n:=by omega
      have Ho:=q0_ ho;clear ho hb
      by_cases h10:k≤10
      · by_cases h6:nm.size≤60
        · have g1:(k:Int)≤10:=by omega
          have g2:(nm.size:Int)≤60:=by omega
          go_wp2
          go_ret;exact⟨by first | exact zc_.yes h10 h6 | (simp[*];exact zc_.yes h10 h6),Ho.out.bel⟩
        · have g1:(k:Int)≤10:=by omega
          have g2:(60:Int)<(nm.size:Int):=by omega
          go_wp2
          go_ret;exact⟨by first | exact zc_.no | (simp[*];first | exact zc_.no | (rw[q9_ (show ¬ ((nm.size:Int)≤60) by omega)];exact zc_.no)),Ho.out.bel⟩
      · have g1:(10:Int)<(k:Int):=by omega
        go_wp2
        go_ret;exact⟨by first | exact zc_.no | (simp[*];first | exact zc_.no | (rw[q9_ (show ¬ ((nm.size:Int)≤60) by omega)];exact zc_.no)),Ho.out.bel⟩
def zbn(l:List zaa):Int:=(l.map fun t=>max t.shards 0).sum
theorem zhB{l:List zaa}{k:Nat}{x:zaa}(h:l[k]? =some x):zbn (l.take (k+1))=zbn (l.take k)+max x.shards 0:=by
  rw[zan h];simp[zbn]
theorem znl(nm : ByteArray)(l : List zaa)(A : Option Addr)(n c : Nat)(S : Option Addr)(m d : Nat)(w : World)(hr : Rd w 4 A n (zaf l))(hn : n ≤ 1099511627776)(hs : ∀ t ∈ l, t.shards ≤ 8) :
    Calls prog 194 #[zoi nm A n c S m d] w fun r w'=>r=.returned (.int .i64 (zbn l))∧Below w.heap.size w w':=by
  have Hr:=q0_ hr;have Hs:=q0_ hs;have Hlen:=q0_ hr.tiers_len;clear hr hs;have O:=q0_ ((Own.start w).skip (Fr.none_alloc w (.cells #[.string nm,.slice A n c,.slice S m d] 91)));unfold zoi;go_enter func194,ntmps194;go_wp2_with fail
  go_loopw [3,10] (fun s i wr=>∃ (k:Nat) (v:Int),k≤n∧i=.int .i64 k∧s=.int .i64 v∧0≤v∧v≤8*k∧Hid (v=zbn (l.take k))∧Own w wr (fun _=>False)) (fun _ i _=>n-(intOf i).toNat)
  case atStart=>exact⟨0,0,Nat.zero_le _,rfl,rfl,by omega,by omega,by simp[Hid,zbn],O.out⟩
  case round=>
    obtain⟨k,v,hk,rfl,rfl,v0,v1,hv,ho⟩:=hrel
    by_cases hlt:k<n
    · obtain⟨ad,x,rfl,hu,d0,d1,d2,d3⟩:=(Hr.out.below ho.bel).tier hlt
      have hx8:=Hs.out x (zab hu);have Hu:=q0_ hu;have Ho:=q0_ ho;have Hf:=q0_ (zhB hu);clear ho hu
      by_cases h0:0≤x.shards
      · go_wp2
        all_goals (
          go_roundw
          case rel=>exact⟨k+1,v+x.shards,by omega,by go_num,by go_num,by omega,by omega,by rw[Hid,Hf.out, ← hv.out];omega,Ho.out.skip (Fr.none_alloc _ _)⟩
          case measure=>simp[intOf];omega)
      · go_wp2
        all_goals (
          go_roundw
          case rel=>exact⟨k+1,v,by omega,by go_num,by go_num,by omega,by omega,by rw[Hid,Hf.out, ← hv.out];omega,Ho.out.skip (Fr.none_alloc _ _)⟩
          case measure=>simp[intOf];omega)
    · obtain rfl:k=n:=by omega
      have Ho:=q0_ ho;have hl:=hv.out;rw[zbh (by have:=Hlen.out;omega)] at hl;have Hl:=q0_ hl;clear ho hl
      go_wp2
      go_ret;exact⟨by rw[← Hl.out];rfl,Ho.out.bel⟩
def zb1(l:List zaa):Int:=if l=[] then 0 else zbn l+2
theorem zi6{l:List zaa}(hs:∀ t∈l,t.shards≤8):0≤zbn l∧zbn l≤8*l.length:=by
  induction l with
  | nil=>simp[zbn]
  | cons a t ih=>
    have h1:=ih (fun x hx=>hs x (List.mem_cons_of_mem _ hx));have h2:=hs a (List.mem_cons_self ..)
    have h3:zbn (a::t)=max a.shards 0+zbn t:=by simp[zbn]
    rw[h3,List.length_cons];omega
theorem zmj(nm : ByteArray)(l : List zaa)(A : Option Addr)(n c : Nat)(S : Option Addr)(m d : Nat)(w : World)(hr : Rd w 4 A n (zaf l))(hn : n ≤ 1099511627776)(hs : ∀ t ∈ l, t.shards ≤ 8) :
    Calls prog 193 #[zoi nm A n c S m d] w fun r w'=>r=.returned (.int .i64 (zb1 l))∧Below w.heap.size w w':=by
  have hlen:=hr.tiers_len;have hin:=zi6 hs;have H:=q0_ (fun w' (h:Fr (fun _=>False) w w')=>znl nm l A n c S m d w' (hr.fr0 h) hn hs);have O:=q0_ ((Own.start w).skip (Fr.none_alloc w (.cells #[.string nm,.slice A n c,.slice S m d] 91)));clear hr hs;unfold zoi at H ⊢
  by_cases h0:n=0
  · subst h0
    obtain rfl:l=[]:=List.eq_nil_of_length_eq_zero hlen;rw[show zb1 []=0 from rfl];clear hin hlen H;go_enter func193,ntmps193;go_wp2;go_ret;exact⟨rfl,O.out.bel⟩
  · have hne:l≠[]:=by rintro rfl;exact h0 hlen.symm
    rw[show zb1 l=zbn l+2 by simp[zb1,hne]]
    have hnb:((n:Int)==0)=false:=by simp;omega
    obtain⟨v,hv⟩:∃ v,zbn l=v:=⟨_,rfl⟩
    rw[hv] at H hin ⊢;obtain⟨v0,v1⟩:=hin;clear hv hne h0;go_enter func193,ntmps193;go_wp2_with fail;refine (H.out _ (Fr.none_alloc _ _)).mono ?_;rintro r w1 ⟨rfl,hb⟩;have O2:=q0_ (O.out.below hb);clear hb;go_wp2;go_ret;exact⟨rfl,O2.out.bel⟩
theorem zmt(s:ByteArray)(n:Int):0≤zfd s n∧zfd s n≤4294967295:=by
  have:=zoy s.data.toList;unfold zfd
  split
  · omega
  · have h1:=Int.emod_nonneg (zgN s.data.toList) (show n≠0 by omega)
    have h2:zgN s.data.toList%n≤zgN s.data.toList:=by
      have h3:=Int.mul_ediv_add_emod (zgN s.data.toList) n;have h4:=Int.mul_nonneg (show 0≤n by omega) (Int.ediv_nonneg this.1 (show 0≤n by omega));omega
    omega
theorem zhC{l:List zaa}(i j:Nat)(h:i≤j):zbn (l.take i)≤zbn (l.take j):=by
  induction j with
  | zero => obtain rfl : i = 0 := by omega
            exact Int.le_refl _
  | succ j ih=>
    rcases Nat.lt_or_ge i (j+1) with h1 | h1
    · have:=ih (by omega)
      by_cases hl:j<l.length
      · have h2:=zhB (q6_ hl)
        omega
      · rw[List.take_of_length_le (by omega:l.length≤j)] at this
        rw[List.take_of_length_le (by omega:l.length≤j+1)];exact this
    · obtain rfl:i=j+1:=by omega
      exact Int.le_refl _
theorem zcD{nm:ByteArray}{l:List zaa}(h:zal nm l=true):1≤l.length∧l.length≤5:=by
  unfold zal zaX at h;simp only[Bool.and_eq_true,decide_eq_true_eq] at h;omega
theorem zcy{nm:ByteArray}{l:List zaa}(h:zal nm l=true){i:Nat}{t:zaa}(ht:l[i]? =some t):zb7 t (l.take i)=true:=by
  unfold zal at h;simp only[Bool.and_eq_true,List.all_eq_true,List.mem_range] at h;have:=h.2 i (List.getElem?_eq_some_iff.1 ht).1;unfold zcC at this;rw[ht] at this;exact this
theorem zoI{t:zaa}{l:List zaa}(h:zb7 t l=true):(1≤t.keep∧t.keep≤1000000)∧1≤t.shards∧t.shards≤8:=by
  unfold zb7 zaa.ok zaX at h;simp only[Bool.and_eq_true,decide_eq_true_eq] at h;omega
theorem zmg{l:List zaa}{i:Nat}{a:zaa}(h:l[i]? =some a):(l.take (i+1)).getLast?=some a:=by
  rw[zan h,List.getLast?_append];rfl
theorem zei{nm:ByteArray}{l:List zaa}(h:zal nm l=true):∀ (i:Nat) (t:zaa),l[i]? =some t→(i=0→t.every=1)∧1≤t.every∧t.every≤1000000:=by
  intro i
  induction i with
  | zero=>
    intro t ht;have:=zcy h ht;unfold zb7 at this;simp only[List.take_zero,List.getLast?_nil,Bool.and_eq_true,beq_iff_eq] at this;omega
  | succ i ih=>
    intro t ht
    have hi:i<l.length:=by have:=(List.getElem?_eq_some_iff.1 ht).1;omega
    have ha:l[i]? =some l[i]:=q6_ hi;have:=zcy h ht;unfold zb7 at this;rw[zmg ha] at this;simp only[Bool.and_eq_true,decide_eq_true_eq] at this;have:=ih _ ha;omega
theorem zaY{nm:ByteArray}{l:List zaa}(h:zal nm l=true){t:zaa}(ht:t∈l):1≤t.every∧t.every≤1000000∧1≤t.keep∧t.keep≤1000000∧1≤t.shards∧t.shards≤8:=by
  obtain⟨i,hi,rfl⟩:=List.mem_iff_getElem.1 ht;have ha:l[i]? =some l[i]:=q6_ hi;have h1:=zei h i _ ha;have h2:=zoI (zcy h ha);omega
theorem zmo(now : Int)(l : List zaa)(fl : List Int)(e : Int)(m : Nat)(hm : m ≤ l.length) :
    (zep now l fl e m= -1∧∀ i<m,∀ t,l[i]? =some t→zaA t.every e=false)∨
    (∃ (k:Nat) (t:zaa),k<m∧zep now l fl e m=k∧l[k]? =some t∧zaA t.every e=true∧∀ i<m,∀ t',l[i]? =some t'→zaA t'.every e=true→zaF now l fl k≤zaF now l fl i):=by
  induction m with
  | zero=>exact .inl ⟨rfl,fun i hi=>by omega⟩
  | succ m ih=>
    have ha:l[m]? =some l[m]:=q6_ (by omega);simp only[zep,ha]
    rcases ih (by omega) with ⟨h1,h2⟩ | ⟨k,t,h0,h1,h2,h3,h4⟩
    · rw[h1]
      by_cases hd:zaA l[m].every e=true
      · refine .inr ⟨m,l[m],by omega,by simp[hd],ha,hd,fun i hi t' ht' hd'=>?_⟩
        rcases Nat.lt_or_ge i m with hlt | hge
        · rw[h2 i hlt t' ht'] at hd';cases hd'
        · obtain rfl:i=m:=by omega
          exact Int.le_refl _
      · refine .inl ⟨by simp[hd],fun i hi t ht=>?_⟩
        rcases Nat.lt_or_ge i m with hlt | hge
        · exact h2 i hlt t ht
        · obtain rfl:i=m:=by omega
          rw[ha] at ht
          injection ht with ht
          subst ht;simpa using hd
    · rw[h1]
      have hk:decide ((k:Int)<0)=false:=q9_ (by omega);rw[hk,Int.toNat_natCast,Bool.false_or]
      by_cases hd:zaA l[m].every e=true
      · by_cases hle:zaF now l fl m≤zaF now l fl k
        · refine .inr ⟨m,l[m],by omega,by simp[hd,hle],ha,hd,fun i hi t' ht' hd'=>?_⟩
          rcases Nat.lt_or_ge i m with hlt | hge
          · exact Int.le_trans hle (h4 i hlt t' ht' hd')
          · obtain rfl:i=m:=by omega
            exact Int.le_refl _
        · refine .inr ⟨k,t,by omega,by simp[hle],h2,h3,fun i hi t' ht' hd'=>?_⟩
          rcases Nat.lt_or_ge i m with hlt | hge
          · exact h4 i hlt t' ht' hd'
          · obtain rfl:i=m:=by omega
            omega
      · refine .inr ⟨k,t,by omega,by simp[hd],h2,h3,fun i hi t' ht' hd'=>?_⟩
        rcases Nat.lt_or_ge i m with hlt | hge
        · exact h4 i hlt t' ht' hd'
        · obtain rfl:i=m:=by omega
          rw[ha] at ht'
          injection ht' with ht'
          subst ht';exact absurd hd' hd
theorem zj3(e:Int):zaA 1 e=true:=by unfold zaA;simp[Int.tmod_one]
theorem zpa{now : Int}{nm : ByteArray}{l : List zaa}{fl : List Int}(e : Int)(h : zal nm l = true) :
    ∃ (k:Nat) (t:zaa),k<l.length∧zep now l fl e l.length=k∧l[k]? =some t∧e.tmod t.every=0∧∀ (i:Nat) (t':zaa),l[i]? =some t'→e.tmod t'.every=0→zaF now l fl k≤zaF now l fl i:=by
  rcases zmo now l fl e l.length (Nat.le_refl _) with ⟨_,h2⟩ | ⟨k,t,h0,h1,h2,h3,h4⟩
  · have hl:=zcD h
    have ha:l[0]? =some l[0]:=q6_ (by omega);have:=h2 0 (by omega) _ ha;rw[(zei h 0 _ ha).1 rfl,zj3] at this
    cases this
  · refine⟨k,t,h0,h1,h2,?_,fun i t' ht' hd=>h4 i (List.getElem?_eq_some_iff.1 ht').1 t' ht' ?_⟩
    · unfold zaA at h3
      simp only[Bool.and_eq_true,decide_eq_true_eq] at h3;exact h3.2
    · have:=zei h i t' ht'
      unfold zaA;simp only[Bool.and_eq_true,decide_eq_true_eq];exact⟨this.2.1,hd⟩
theorem zfG{t e:Int}(h0:0≤t)(h1:t≤4398046511104)(he:1≤e)(he2:e≤1000000):(zgx t e).tmod e=0∧t≤zgx t e∧zgx t e-t<e∧0≤zgx t e∧zgx t e≤4398047511104:=by
  have hb:=(zd1 t e he)
  have h3:=hb.2.2.1 h0
  have hdvd:e∣t-t.tmod e:=⟨t.tdiv e,by have:=Int.mul_tdiv_add_tmod t e;omega⟩
  unfold zgx;rw[if_neg (by omega)]
  split
  · refine⟨?_,by omega⟩
    exact Int.tmod_eq_zero_of_dvd (Int.dvd_add hdvd (Int.dvd_refl e))
  · rename_i hn
    refine⟨Int.tmod_eq_zero_of_dvd hdvd,?_⟩
    have:t.tmod e=0:=by
      have:¬ (0<t.tmod e):=fun hh=>hn ⟨hh,by omega⟩;omega
    omega
theorem zkM{t e:Int}(he:1≤e)(h0: -1000000≤t)(he2:e≤1000000):zav t e≤t:=by
  have hb:=(zd1 t e he)
  unfold zav;rw[if_neg (by omega)]
  split
  · omega
  · rename_i hn
    have:¬ (t.tmod e<0):=fun hh=>hn ⟨hh,by omega⟩;omega
theorem zih{now:Int}{nm:ByteArray}{l:List zaa}{fl:List Int}(h:zal nm l=true)(h0:0≤now)(h1:now≤1099511627776)(hf:∀ f∈fl,0≤f∧f≤2199023255552)(k:Nat):0≤zaF now l fl k∧zaF now l fl k≤2199023255552:=by
  unfold zaF
  split
  · rename_i a b ha hb
    have h2:=zaY h (zab ha);have h3:=zaY h (zab hb)
    have h4:0≤zch now a.keep b.every∧zch now a.keep b.every≤2199023255552:=by
      unfold zch;rw[if_neg (by omega)];have:=zkM (t:=now-a.keep) (e:=b.every) (by omega) (by omega) (by omega);omega
    split
    · rename_i f hfk
      have:=hf f (zab hfk)
      show 0≤max (zch now a.keep b.every) f∧max (zch now a.keep b.every) f≤_
      omega
    · exact h4
  · omega
def zbI:List ByteArray→List UInt8
  | []=>[]
  | [a]=>a.data.toList
  | a::b::r=>a.data.toList++32::zbI (b::r)
def zbK(n:Int):Int→List ByteArray→List zak
  | _,[]=>[]
  | col,a::r=>⟨a,n,col⟩::zbK n (col+a.size+1) r
def zdP(a:ByteArray):Prop:=1≤a.size∧(∀ c∈a.data.toList,zcc c=true)∧zfv a=false
theorem zqb{a b:ByteArray}(h:a.data.toList=b.data.toList):a=b:=by
  cases a;cases b
  congr
  exact Array.toList_inj.1 h
theorem zcP(a:ByteArray):a.data.toList.length=a.size:=by rw[Array.length_toList];rfl
theorem zdx{s:ByteArray}{n:Int}{i:Nat}{c:UInt8}(hc:s.data.toList[i]? =some c){out:List zak}{b:Int}(h:zbs s n i=some (out,b)):zbs s n (i+1)=zbi s n i c out b:=by
  show (match zbs s n i with | none=>none | some p=>match s.data.toList[i]? with | none=>some p | some c=>zbi s n i c p.1 p.2)=_
  rw[h,hc]
theorem zdm{c:UInt8}(h:zcc c=true):zeF c=false:=by
  unfold zcc at h;unfold zeF;simp only[Bool.and_eq_true,decide_eq_true_eq] at h;simp;omega
theorem zi0{s : ByteArray}{n : Int}{pre rest : List UInt8}{a : ByteArray}(hs : s.data.toList = pre ++ (a.data.toList ++ rest))(ha : zdP a){out : List zak}(h : zbs s n pre.length = some (out, -1)) :
    zbs s n (pre.length+a.size)=some (out++[⟨a,n,(pre.length:Int)+1⟩],(pre.length:Int)):=by
  obtain⟨h1,h2,_⟩:=ha
  have hget:∀ j,j<a.size→∃ c,s.data.toList[pre.length+j]? =some c∧zcc c=true:=fun j hj=>by
    have hj':j<a.data.toList.length:=by rw[zcP];exact hj
    refine⟨a.data.toList[j],?_,h2 _ (List.getElem_mem hj')⟩;rw[hs,List.getElem?_append_right (by omega),Nat.add_sub_cancel_left,List.getElem?_append_left hj',q6_ hj']
  have hext:∀ k,k≤a.size→(s.extract pre.length (pre.length+k)).data.toList=a.data.toList.take k:=fun k hk=>by
    rw[Lib.extract_data,hs,List.drop_left' rfl,Nat.add_sub_cancel_left,List.take_append_of_le_length (by rw[zcP];exact hk)]
  have key:∀ k,k<a.size→zbs s n (pre.length+(k+1))=some (out++[⟨s.extract pre.length (pre.length+(k+1)),n,(pre.length:Int)+1⟩],(pre.length:Int)):=by
    intro k
    induction k with
    | zero=>
      intro hk;obtain⟨c,hc,hl⟩:=hget 0 hk;have:=zdx (n:=n) (by simpa using hc) h;rw[Nat.zero_add,this];unfold zbi;rw[zdm hl,hl];simp
    | succ k ih=>
      intro hk;obtain⟨c,hc,hl⟩:=hget (k+1) hk;have:=zdx (n:=n) hc (ih (by omega));rw[show pre.length+(k+1+1)=pre.length+(k+1)+1 by omega,this];unfold zbi;rw[zdm hl,hl];simp only[Bool.not_true,Bool.and_false,Bool.false_eq_true,if_false];rw[if_neg (by omega),zhz];simp
  have hk:=key (a.size-1) (by omega);rw[show a.size-1+1=a.size by omega] at hk;rw[hk];have:s.extract pre.length (pre.length+a.size)=a:=zqb (by rw[hext _ (Nat.le_refl _),List.take_of_length_le (by rw[zcP];exact Nat.le_refl _)]);rw[this]
theorem zhn{s : ByteArray}{n : Int} : ∀ (ws : List ByteArray) (pre : List UInt8) (out : List zak), (∀ a ∈ ws, zdP a) → s.data.toList = pre ++ zbI ws → zbs s n pre.length = some (out, -1) →
    ∃ b,zbs s n s.size=some (out++zbK n ((pre.length:Int)+1) ws,b)
  | [],pre,out,_,hs,h=>by
    have:s.size=pre.length:=by rw[← zcP,hs];simp[zbI]
    rw[this,h];exact⟨-1,by simp[zbK]⟩
  | [a],pre,out,hw,hs,h=>by
    have hj:zbI [a]=a.data.toList++[]:=by simp[zbI]
    rw[hj] at hs;have hl:=zi0 hs (hw a (by simp)) h
    have:s.size=pre.length+a.size:=by rw[← zcP,hs];simp[zcP]
    rw[this,hl];exact⟨_,rfl⟩
  | a::b::r,pre,out,hw,hs,h=>by
    have hj:zbI (a::b::r)=a.data.toList++32::zbI (b::r):=rfl;rw[hj] at hs;have hl:=zi0 hs (hw a (by simp)) h
    have hc:s.data.toList[pre.length+a.size]? =some 32:=by
      rw[hs, ← zcP a, ← List.append_assoc, ← q8_,List.getElem?_append_right (Nat.le_refl _),Nat.sub_self]
      rfl
    have h2:=zdx hc hl
    have h3:zbi s n (pre.length+a.size) 32 (out++[⟨a,n,(pre.length:Int)+1⟩]) (pre.length:Int)=some (out++[⟨a,n,(pre.length:Int)+1⟩], -1):=by
      unfold zbi;rw[show zeF 32=true from rfl];simp
    rw[h3] at h2
    have hlen:(pre++a.data.toList++[32]).length=pre.length+a.size+1:=by simp[zcP];omega
    obtain⟨b',hb⟩:=zhn (b::r) (pre++a.data.toList++[32]) _ (fun x hx=>hw x (List.mem_cons_of_mem _ hx)) (by rw[hs];simp) (by rw[hlen];exact h2);refine⟨b',?_⟩;rw[hb,hlen]
    have e:((pre.length+a.size+1:Nat):Int)+1=(pre.length:Int)+1+a.size+1:=by omega
    rw[e];simp[zbK]
theorem zdE{n:Int}:∀ {ws:List ByteArray} {col:Int} {x:zak},x∈zbK n col ws→x.text∈ws∧x.line=n
  | a::r,col,x,h=>by
    rcases List.mem_cons.1 h with rfl | h
    · exact⟨by simp,rfl⟩
    · obtain⟨h1,h2⟩:=zdE h
      exact⟨List.mem_cons_of_mem _ h1,h2⟩
theorem zc7{n:Int}:∀ {ws:List ByteArray} {col:Int},(zbK n col ws).map zak.text=ws
  | [],_=>rfl
  | a::r,col=>by
    show a::(zbK n _ r).map zak.text=a::r
    rw[zc7]
theorem zkZ{n:Int}{ws:List ByteArray}{col:Int}:(zbK n col ws).length=ws.length:=by rw[← List.length_map (f:=zak.text),zc7]
theorem zc9{α:Type}{p:α→Bool}:∀ {l:List α},(∀ x∈l,p x=true)→l.takeWhile p=l
  | [],_=>rfl
  | a::l,h=>by
    rw[List.takeWhile_cons,if_pos (h a (by simp)),zc9 (fun x hx=>h x (List.mem_cons_of_mem _ hx))]
theorem zjT{s:ByteArray}{n:Int}{ws:List ByteArray}(hw:∀ a∈ws,zdP a)(hs:s.data.toList=zbI ws):zdO s n=some (zbK n 1 ws):=by
  obtain⟨b,hb⟩:=zhn (n:=n) ws [] [] hw (by simpa using hs) rfl;unfold zdO;rw[hb];simp only[List.nil_append,Option.map_some,Option.some.injEq];have e:(([]:List UInt8).length:Int)+1=1:=rfl;rw[e];refine zc9 (fun x hx=>?_);have:=(hw _ (zdE hx).1).2.2;rw[this];rfl
def zba:Int→List (List ByteArray)→List zak
  | _,[]=>[]
  | n,ws::r=>zbK n 1 ws++zba (n+1) r
theorem zhI:∀ (ls:List ByteArray) (wss:List (List ByteArray)) (i:Nat) (acc:List zak),ls.map (fun s=>s.data.toList)=wss.map zbI→(∀ ws∈wss,∀ a∈ws,zdP a)→zj4 ls i acc=.inl (acc++zba ((i:Int)+1) wss)
  | [],[],i,acc,_,_=>by simp[zj4,zba]
  | [],_::_,_,_,h,_=>by cases h
  | _::_,[],_,_,h,_=>by cases h
  | s::ls,ws::wss,i,acc,h,hw=>by
    simp only[List.map_cons,List.cons.injEq] at h;unfold zj4;rw[zjT (hw ws (by simp)) h.1];simp only;rw[zhI ls wss (i+1) _ h.2 (fun x hx=>hw x (List.mem_cons_of_mem _ hx))]
    have e:((i+1:Nat):Int)+1=(i:Int)+1+1:=by omega
    rw[e];simp[zba]
theorem zfc:∀ (ls:List (List UInt8)),(∀ l∈ls,(10:UInt8)∉l)→Lib.splitK [10] 0 ls.length (ls.flatMap fun l=>l++[10])=ls++[[]]
  | [],_=>rfl
  | l::ls,h=>by
    have hidx:Lib.index ((l::ls).flatMap fun l=>l++[10]) [10]=(l.length:Nat):=by
      have e:((l::ls).flatMap fun l=>l++[10])=l++10::(ls.flatMap fun l=>l++[10]):=by simp
      rw[e];refine Lib.index_first (by simp) ?_ (fun j hj=>?_)
      · unfold Lib.occAt
        rw[List.drop_left' rfl];simp
      · unfold Lib.occAt
        have h10:=h l (by simp);rw[List.drop_append_of_le_length (by omega)]
        obtain⟨c,t,hct⟩:∃ c t,l.drop j=c::t:=by
          cases hd:l.drop j with
          | nil=>have:=congrArg List.length hd;simp at this;omega
          | cons c t=>exact⟨c,t,rfl⟩
        rw[hct];have hc:c∈l:=List.mem_of_mem_drop (by rw[hct];simp);have hne:(10:UInt8)≠c:=fun e=>h10 (e▸hc);simp[List.isPrefixOf,hne]
    show Lib.splitK [10] 0 (ls.length+1) _=_
    unfold Lib.splitK;rw[hidx,if_neg (by rw[beq_iff_eq];omega)]
    have e1:((l.length:Nat):Int).toNat+0=l.length:=by omega
    have e2:((l.length:Nat):Int).toNat+[(10:UInt8)].length=l.length+1:=by simp
    rw[e1,e2]
    have e:((l::ls).flatMap fun l=>l++[10])=l++10::(ls.flatMap fun l=>l++[10]):=by simp
    rw[e,List.take_left' rfl,List.drop_length_add_append,List.drop_one]
    show l::Lib.splitK [10] 0 ls.length (ls.flatMap fun l=>l++[10])=_
    rw[zfc ls (fun x hx=>h x (List.mem_cons_of_mem _ hx))]
    rfl
theorem zgw:∀ (ls:List (List UInt8)),(∀ l∈ls,(10:UInt8)∉l)→(ls.flatMap fun l=>l++[10]).count 10=ls.length
  | [],_=>rfl
  | l::ls,h=>by
    rw[List.flatMap_cons,List.count_append,List.count_append,zgw ls (fun x hx=>h x (List.mem_cons_of_mem _ hx)),List.count_eq_zero.2 (h l (by simp))];simp;omega
theorem zjC{s:ByteArray}{ls:List (List UInt8)}(h:∀ l∈ls,(10:UInt8)∉l)(hs:s.data.toList=ls.flatMap fun l=>l++[10]):(Lib.splitB bNl 0 (Lib.countB s bNl) s).map (fun s=>s.data.toList)=ls++[[]]:=by
  rw[Lib.splitB_data];have hb:bNl.data.toList=[10]:=rfl
  have hc:Lib.countB s bNl=ls.length:=by
    show Lib.count s.data.toList bNl.data.toList=_
    rw[hb,Lib.count_one,hs,zgw ls h]
  rw[hc,hb,hs,zfc ls h]
theorem zkI:∀ {ws:List ByteArray},(∀ a∈ws,zdP a)→(10:UInt8)∉zbI ws
  | [],_,h=>by cases h
  | [a],hw,h=>by
    have:=(hw a (by simp)).2.1 10 h;exact absurd this (by decide)
  | a::b::r,hw,h=>by
    rcases List.mem_append.1 (show (10:UInt8)∈a.data.toList++32::zbI (b::r) from h) with h | h
    · have:=(hw a (by simp)).2.1 10 h
      exact absurd this (by decide)
    · rcases List.mem_cons.1 h with h | h
      · exact absurd h (by decide)
      · exact zkI (fun x hx=>hw x (List.mem_cons_of_mem _ hx)) h
theorem zns{s:ByteArray}{wss:List (List ByteArray)}(hw:∀ ws∈wss,∀ a∈ws,zdP a)(hs:s.data.toList=wss.flatMap fun ws=>zbI ws++[10])(h4:s.size≤4000):zjc s=.inl (zba 1 wss):=by
  unfold zjc;rw[if_neg (by omega)]
  have hs2:s.data.toList=(wss.map zbI).flatMap fun l=>l++[10]:=by rw[hs,List.flatMap_map]
  have h1:=zjC (s:=s) (ls:=wss.map zbI) (fun l hl=>by
    obtain⟨ws,hws,rfl⟩:=List.mem_map.1 hl
    exact zkI (hw ws hws)) hs2
  have h2:(Lib.splitB bNl 0 (Lib.countB s bNl) s).map (fun s=>s.data.toList)=(wss++[[]]).map zbI:=by rw[h1];simp[zbI]
  have h3:=zhI _ (wss++[[]]) 0 [] h2 (fun ws hws=>by
    rcases List.mem_append.1 hws with h | h
    · exact hw ws h
    · rw[List.mem_singleton] at h
      rw[h]
      exact fun _ h=>by cases h)
  rw[h3]
  have e:∀ (n:Int) (w:List (List ByteArray)),zba n (w++[[]])=zba n w:=by
    intro n w
    induction w generalizing n with
    | nil=>simp[zba,zbK]
    | cons a w ih=>simp[zba,ih]
  rw[e];simp
theorem zgb:∀ {n:Int} {wss:List (List ByteArray)} {x:zak},x∈zba n wss→n≤x.line
  | n,ws::wss,x,h=>by
    rcases List.mem_append.1 (show x∈zbK n 1 ws++zba (n+1) wss from h) with h | h
    · rw[(zdE h).2];exact Int.le_refl _
    · have:=zgb h;omega
theorem zhw{n:Int}{ws:List ByteArray}{wss:List (List ByteArray)}(hne:ws≠[]):za8 (zba n (ws::wss))=zbK n 1 ws:=by
  obtain⟨a,r,rfl⟩:∃ a r,ws=a::r:=by
    cases ws with
    | nil=>exact absurd rfl hne
    | cons a r=>exact⟨a,r,rfl⟩
  show za8 (⟨a,n,1⟩::(zbK n _ r++zba (n+1) wss))=⟨a,n,1⟩::zbK n _ r
  unfold za8;simp only
  congr 1
  have h1:∀ x∈zbK n (1+(a.size:Int)+1) r,(x.line==n)=true:=fun x hx=>by rw[(zdE hx).2];simp
  rw[List.takeWhile_append];rw[zc9 h1,if_pos rfl]
  have h2:(zba (n+1) wss).takeWhile (fun y=>y.line==n)=[]:=by
    cases hl:zba (n+1) wss with
    | nil=>rfl
    | cons y t=>
      have:=zgb (x:=y) (n:=n+1) (wss:=wss) (by rw[hl];simp);rw[List.takeWhile_cons,if_neg (by simp;omega)]
  rw[h2,List.append_nil]
def zaO(t:zaa):List ByteArray:=[ze7,t.name,zdX,zaC (Lib.itoa t.every),zgS,zaC (Lib.itoa t.keep),zcQ,zaC (Lib.itoa t.shards)]
def zh8(v:Int):Prop:= -1000000000000000000<v∧v<1000000000000000000
theorem zjO{v:Int}(h:zh8 v)(b:ByteArray):zhi b (zaC (Lib.itoa v)) b=(v,true):=by
  unfold zhi;have:(zaC (Lib.itoa v)).data.toList=Lib.itoa v:=rfl;unfold zh8 at h;rw[this,zmN,if_pos h];simp
theorem znZ{t:zaa}{acc:List zaa}(h1:zh8 t.every)(h2:zh8 t.keep)(h3:zh8 t.shards)(hl:acc.length≠5):zd3 (zaO t) acc=some (acc++[t]):=by
  unfold zd3 zaO;simp only[zjO h1,zjO h2,zjO h3,hl,decide_false,Bool.not_false,Bool.and_true,beq_self_eq_true,if_true]
theorem ziw:∀ (l:List zaa) (f:Nat) (n:Int) (acc:List zaa),(∀ t∈l,zh8 t.every∧zh8 t.keep∧zh8 t.shards)→acc.length+l.length≤5→l.length≤f→zbQ f (zba n (l.map zaO)) acc=.inl (acc++l)
  | [],f,n,acc,_,_,_=>by
    cases f<;>simp[zbQ,zba]
  | t::l,0,n,acc,_,_,h=>by simp at h
  | t::l,f+1,n,acc,hn,h5,hf=>by
    have hh:=zhw (n:=n) (ws:=zaO t) (wss:=l.map zaO) (by simp[zaO])
    obtain⟨x,R,hx⟩:∃ x R,zba n ((t::l).map zaO)=x::R:=⟨_,_,rfl⟩
    have hh:za8 (zba n ((t::l).map zaO))=zbK n 1 (zaO t):=hh;rw[hx] at hh ⊢;unfold zbQ;obtain⟨n1,n2,n3⟩:=hn t (by simp);rw[List.length_cons] at h5 hf;rw[hh,zc7,znZ n1 n2 n3 (by omega)];simp only
    have hd:(x::R).drop (zbK n 1 (zaO t)).length=zba (n+1) (l.map zaO):=by
      rw[← hx]
      show (zbK n 1 (zaO t)++zba (n+1) (l.map zaO)).drop _=_
      rw[List.drop_left' rfl]
    rw[hd,ziw l f (n+1) (acc++[t]) (fun y hy=>hn y (List.mem_cons_of_mem _ hy)) (by simp;omega) (by omega)];simp
def zbx(nm:ByteArray)(l:List zaa):List UInt8:=([zbe,nm]::l.map zaO).flatMap fun ws=>zbI ws++[10]
def zbl(nm:ByteArray)(l:List zaa):ByteArray:=zaC (zbx nm l)
theorem zlB{l:List UInt8}(h:letters l=true){c:UInt8}(hc:c∈l):zcc c=true∧c≠35:=by
  unfold letters at h;rw[List.all_eq_true] at h;have h:=h c hc;unfold zck at h;unfold zcc;simp at h ⊢;refine⟨by omega,fun e=>?_⟩;rw[e] at h;exact absurd h (by decide)
theorem zfi{s:ByteArray}(h:zau s=true):zdP s:=by
  unfold zau at h;simp only[Bool.and_eq_true,decide_eq_true_eq] at h;have hc:∀ c∈s.data.toList,zcc c=true∧c≠35:=fun c hc=>zlB h.2 hc;refine⟨h.1.1,fun c h=>(hc c h).1,?_⟩;unfold zfv
  cases hd:s.data.toList with
  | nil=>rfl
  | cons c t=>
    have:=(hc c (by rw[hd];simp)).2;simp[this]
theorem zgg{v:Int}(h:0≤v):zdP (zaC (Lib.itoa v)):=by
  have hd:∀ c∈Lib.itoa v,48≤c.toNat∧c.toNat≤57:=fun c hc=>by
    obtain⟨u,rfl⟩:=Int.eq_ofNat_of_zero_le h;rw[zia] at hc;have:=zim u;rw[List.all_eq_true] at this;have:=this c hc;unfold zgh at this;exact of_decide_eq_true this
  have hl:=List.length_pos_iff.2 (zpv v);refine⟨by rw[← zcP];exact hl,fun c hc=>?_,?_⟩
  · have:=hd c hc
    unfold zcc;simp;omega
  · unfold zfv
    show ((Lib.itoa v).head?==some 35)=false
    cases hh:Lib.itoa v with
    | nil=>rfl
    | cons c t=>
      have:=hd c (by rw[hh];simp)
      have hne:c≠35:=fun e=>by rw[e] at this;exact absurd this.1 (by decide)
      simp[hne]
theorem zg5{nm:ByteArray}{l:List zaa}(h:zal nm l=true)(h4:(zbx nm l).length≤4000):zaT (zbl nm l)=(0,nm,l):=by
  have hn:zau nm=true:=by
    cases hv:zau nm
    · unfold zal at h
      simp[hv] at h
    · rfl
  have hl5:=zcD h
  have ht:∀ t∈l,zau t.name=true∧1≤t.every∧t.every≤1000000∧1≤t.keep∧t.keep≤1000000∧1≤t.shards∧t.shards≤8:=fun t ht=>by
    have hm:=zaY h ht;obtain⟨i,hi⟩:=List.getElem?_of_mem ht;have hf:=zcy h hi;refine⟨?_,by omega,by omega,by omega,by omega,by omega,by omega⟩
    cases hv:zau t.name
    · unfold zb7 zaa.ok at hf
      simp[hv] at hf
    · rfl
  have hcon:∀ b∈[zbe,ze7,zdX,zgS,zcQ],zdP b:=fun b hb=>by
    simp only[List.mem_cons,List.not_mem_nil,or_false] at hb
    rcases hb with rfl | rfl | rfl | rfl | rfl<;>exact⟨by decide,by decide,by decide⟩
  have hws:∀ ws∈[zbe,nm]::l.map zaO,∀ a∈ws,zdP a:=by
    intro ws hws a ha
    rcases List.mem_cons.1 hws with rfl | hws
    · simp only[List.mem_cons,List.not_mem_nil,or_false] at ha
      rcases ha with rfl | rfl
      · exact hcon _ (by simp)
      · exact zfi hn
    · obtain⟨t,htl,rfl⟩:=List.mem_map.1 hws
      obtain⟨v1,v2,v3,v4,v5,v6,v7⟩:=ht t htl;unfold zaO at ha;simp only[List.mem_cons,List.not_mem_nil,or_false] at ha
      rcases ha with rfl | rfl | rfl | rfl | rfl | rfl | rfl | rfl
      · exact hcon _ (by simp)
      · exact zfi v1
      · exact hcon _ (by simp)
      · exact zgg (by omega)
      · exact hcon _ (by simp)
      · exact zgg (by omega)
      · exact hcon _ (by simp)
      · exact zgg (by omega)
  have hcut:zjc (zbl nm l)=.inl (zba 1 ([zbe,nm]::l.map zaO)):=zns hws rfl (by rw[← zcP];exact h4)
  have hparse:zcY (zba 1 ([zbe,nm]::l.map zaO))=.inl (nm,l):=by
    unfold zcY;rw[zhw (by simp),zc7]
    have:zfu [zbe,nm]=some nm:=by unfold zfu;simp
    rw[this];simp only;have hd:(zba 1 ([zbe,nm]::l.map zaO)).drop (zbK 1 1 [zbe,nm]).length=zba (1+1) (l.map zaO):=List.drop_left' rfl
    have hlen:∀ (n:Int) (l:List zaa),l.length≤(zba n (l.map zaO)).length:=by
      intro n l
      induction l generalizing n with
      | nil=>exact Nat.zero_le _
      | cons t l ih=>
        show l.length+1≤(zbK n 1 (zaO t)++zba (n+1) (l.map zaO)).length
        rw[q8_,zkZ];have:=ih (n+1);have h8:(zaO t).length=8:=rfl;omega
    have hlen2:l.length≤(zba 1 ([zbe,nm]::l.map zaO)).length:=by
      show l.length≤(zbK 1 1 [zbe,nm]++zba (1+1) (l.map zaO)).length
      rw[q8_];have:=hlen (1+1) l;omega
    rw[hd,ziw l _ (1+1) [] (fun t htl=>by
      obtain⟨v1,v2,v3,v4,v5,v6,v7⟩:=ht t htl;unfold zh8
      omega) (by simp;omega) hlen2]
    rfl
  unfold zaT zbS;rw[hcut];simp only[hparse,if_true,h]
end Go.Proofs.YteajonicnkpbbaaGreatDoor
