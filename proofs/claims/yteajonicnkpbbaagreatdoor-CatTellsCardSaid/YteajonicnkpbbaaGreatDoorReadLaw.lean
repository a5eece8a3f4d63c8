/- Policies' texts: what reading them comes to. -/
import Derived.Test.YteajonicnkpbbaaGreatDoorWordN
import Derived.Test.YteajonicnkpbbaaGreatDoorPkBack
import Derived.Test.YteajonicnkpbbaaGreatDoorPolB
namespace Go.Proofs.YteajonicnkpbbaaGreatDoor
set_option linter.all false
set_option maxHeartbeats 8000000
set_option maxRecDepth 100000
open Go.RowKit Tryz
def zbe:ByteArray:={data:=#[112,111,108,105,99,121]}
def ze7:ByteArray:={data:=#[116,105,101,114]}
def zdX:ByteArray:={data:=#[101,118,101,114,121]}
def zgS:ByteArray:={data:=#[107,101,101,112]}
def zcQ:ByteArray:={data:=#[115,104,97,114,100,115]}
def zhi(a b what:ByteArray):Int×Bool:=((zjn b.data.toList).1,(a.toList==what.toList)&&((zjn b.data.toList).2==0))
def zd3(L:List ByteArray)(acc:List zaa):Option (List zaa):=
 match L with
 | [a,nm,w1,x1,w2,x2,w3,x3]=>
  if a.toList==ze7.toList&& !decide (acc.length=5)&&(zhi w1 x1 zdX).2&&(zhi w2 x2 zgS).2&&(zhi w3 x3 zcQ).2 then
   some (acc++[⟨nm,(zhi w1 x1 zdX).1,(zhi w2 x2 zgS).1,(zhi w3 x3 zcQ).1⟩])
  else none
 | _=>none
def zfu(L:List ByteArray):Option ByteArray:=
 match L with
 | [a,b]=>if a.toList==zbe.toList then some b else none
 | _=>none
def zbQ:Nat→List zak→List zaa→List zaa ⊕ Int
 | 0,_,acc=>.inl acc
 | _+1,[],acc=>.inl acc
 | f+1,x::R,acc=>match zd3 ((za8 (x::R)).map zak.text) acc with
  | none=>.inr x.line
  | some acc'=>zbQ f ((x::R).drop (za8 (x::R)).length) acc'
def zcY(R:List zak):(ByteArray×List zaa) ⊕ Int:=
 match zfu ((za8 R).map zak.text) with
 | none=>.inr (match R with | []=>1 | x::_=>x.line)
 | some nm=>match zbQ R.length (R.drop (za8 R).length) [] with
  | .inl l=>.inl (nm,l)
  | .inr k=>.inr k
def zbS(text:ByteArray):Int×Int×ByteArray×List zaa:=
 match zjc text with
 | .inr (e,k)=>(e,k,ByteArray.empty,[])
 | .inl R=>match zcY R with
  | .inr k=>(22,k,ByteArray.empty,[])
  | .inl (nm,l)=>(0,0,nm,l)
def zaT(text:ByteArray):Int×ByteArray×List zaa:=
 match zbS text with
 | (e,_,nm,l)=>if e=0 then (if zal nm l then (0,nm,l) else (23,ByteArray.empty,[])) else (e,ByteArray.empty,[])
theorem zop(s:ByteArray)(w:World)(hs:s.size≤1099511627776):
  Calls prog 238 #[.string s] w fun r w'=>r=.returned (.tuple #[.int .i64 (zjn s.data.toList).1,.int .i64 (zjn s.data.toList).2])∧w=w':=by
 have:=zlu s.data.toList w (by rw[zcz];exact hs);rwa[← zpI] at this
theorem zeb(a b:zak)(l:List zak)(A:Option Addr)(n c:Nat)(what:ByteArray)(w:World)(hr:Rd w 3 A n (zaJ l))(ha:l[0]? =some a)(hb:l[1]? =some b)(hs:b.text.size≤1099511627776):
  Calls prog 215 #[.slice A n c,.string what] w fun r w'=>r=.returned (.tuple #[.int .i64 (zhi a.text b.text what).1,.bool (zhi a.text b.text what).2])∧w=w':=by
 have hln:=hr.words_len
 have h1:1<n:=by rw[← hln];exact (List.getElem?_eq_some_iff.1 hb).1
 have n1:(1:Int)<(n:Int):=by omega
 have n0:(0:Int)<(n:Int):=by omega
 have n2:0<n:=by omega
 obtain⟨ad,x,rfl,hx,q0,_,_⟩:=hr.word_ (k:=0) (by omega);obtain⟨ad',y,e,hy,p0,_,_⟩:=hr.word_ h1
 cases e
 rw[ha] at hx
 cases hx
 rw[hb] at hy
 cases hy
 rw[Nat.zero_mul,zb9] at q0;rw[Nat.one_mul,zbW _ _ (by decide)] at p0;have HN:=q0_ (fun W=>zop b.text W hs);unfold zhi
 obtain⟨v,hv⟩:∃ v,(zjn b.text.data.toList).1=v:=⟨_,rfl⟩
 obtain⟨ev,hev⟩:∃ v,(zjn b.text.data.toList).2=v:=⟨_,rfl⟩
 rw[hv,hev] at HN ⊢;clear hv hev hr ha hb
 cases hE:(a.text.toList==what.toList)
 ·have hE2:¬ a.text.toList=what.toList:=by simpa using hE
  have hE3:(a.text.toList != what.toList)=true:=by simpa using hE2
  go_enter func215,ntmps215;go_wp2_with fail;refine (HN.out _).mono ?_;rintro r w1 ⟨rfl,rfl⟩;go_wp2
  go_ret2
  exact⟨by first | rfl | simp[*],rfl⟩
 ·have hE2:a.text.toList=what.toList:=by simpa using hE
  have hE3:(a.text.toList != what.toList)=false:=by simpa using hE2
  go_enter func215,ntmps215;go_wp2_with fail;refine (HN.out _).mono ?_;rintro r w1 ⟨rfl,rfl⟩;go_wp2
  go_ret2
  exact⟨by first | rfl | simp[*],rfl⟩
structure zcT(w:World)(lb wb lo k:Nat)(R:List zak)(nm:ByteArray)(l:List zaa):Prop where
 ex:∃ A c,Blk w lb 238 #[.pointer (some ⟨wb,0,none⟩),.string nm,.slice A l.length c]∧w.ownsRow lo 99 4 (.slice A l.length c) l.length (zaf l)
 words:zbw w wb lo k R
 ge:lo≤lb
def znO(R:List zak):Prop:=R.length≤16012001∧∀ x∈R,x.text.size≤4000∧ -9223372036854775808≤x.line∧x.line≤9223372036854775807
def zfK(R:List zak)(k:Nat):List ByteArray:=(za8 (R.drop k)).map zak.text
def llen(R:List zak)(k:Nat):Nat:=(za8 (R.drop k)).length
theorem zie{R:List zak}{k:Nat}{x:zak}(h:x∈za8 (R.drop k)):x∈R:=by
 cases hd:R.drop k with
 | nil=>rw[hd] at h;simp[za8] at h
 | cons a t=>
  rw[hd] at h;unfold za8 at h
  have:x∈a::t:=by
   rcases List.mem_cons.1 h with h | h
   ·exact List.mem_cons.2 (.inl h)
   ·have hs:=List.takeWhile_sublist (fun y:zak=>y.line==a.line) (l:=t)
    exact List.mem_cons_of_mem _ (hs.subset h)
  rw[← hd] at this;exact List.mem_of_mem_drop this
theorem zf4(lb wb lo k:Nat)(R:List zak)(nm:ByteArray)(l:List zaa)(w:World)(h:zcT w lb wb lo k R nm l)(hR:znO R):
  Calls prog 177 #[.pointer (some ⟨lb,0,none⟩)] w fun r w'=>
   (match zfu (zfK R k) with
    | some nm'=>r=.returned (.bool true)∧zcT w' lb wb lo (k+llen R k) R nm' l
    | none=>r=.returned (.bool false))∧Fr (fun j=>j=wb∨j=lb) w w':=by
 obtain⟨⟨A,c,hb,ho⟩,hw,hge⟩:=h;have HL:=q0_ (zi2 wb lo k R w hw hR.1);have c0:=hb.cell 0;simp only[q1_,q2_,q3_] at c0;have Hb:=q0_ hb;have Ho:=q0_ ho
 obtain⟨csw,hwb⟩:∃ cs,Blk w wb 272 cs:=by
  obtain⟨A1,c1,hI⟩:=hw;exact⟨_,hI.1⟩
 have hne:lb≠wb:=hb.ne_ hwb (by decide);have Hwb:=q0_ hwb;have HS:=q0_ (fun x (hx:x∈za8 (R.drop k))=>(hR.2 x (zie hx)).1)
 obtain⟨Q,hQ⟩:∃ Q,za8 (R.drop k)=Q:=⟨_,rfl⟩
 unfold znP at HL;unfold zfK llen;rw[hQ] at HL HS ⊢;clear hb ho hw hR hwb hQ
 by_cases hq:Q.length=2
 ·obtain⟨a,b,rfl⟩:∃ a b,Q=[a,b]:=by
   match Q,hq with
   | [a,b],_=>exact⟨a,b,rfl⟩
  have HC:=q0_ (fun W=>ze6 b.text W (by have:=HS.out b (by simp);omega))
  have e3:zfu ([a,b].map zak.text)=if a.text.toList==zbe.toList then some b.text else none:=rfl
  have e4:[a,b].length=2:=rfl
  have el:zbe.toList=[112,111,108,105,99,121]:=by rw[Lib.toList_data];rfl
  rw[e3];rw[e4] at HL ⊢
  cases hE:(a.text.toList==zbe.toList)
  ·have hE2:¬ a.text.toList=zbe.toList:=by simpa using hE
   have hE3:(a.text.toList != zbe.toList)=true:=by simpa using hE2
   simp only[Bool.false_eq_true,if_false];rw[el] at hE hE2 hE3;clear e3 e4 el hq;go_enter func177,ntmps177;go_wp2_with fail;refine HL.out.mono ?_;rintro r w1 ⟨⟨A1,c1,rfl,hmc,hrd,had,hws⟩,hf⟩;have F1:=q0_ hf;obtain⟨ad,x,e,hx,q0,_,_⟩:=hrd.word_ (k:=0) (by omega)
   cases e
   cases hx
   rw[Nat.zero_mul,zb9] at q0;clear hf hws had hrd HL;go_wp2;go_ret;exact⟨rfl,F1.out.mono (fun j hj=>.inl (.inl hj))⟩
  ·have hE2:a.text.toList=zbe.toList:=by simpa using hE
   have hE3:(a.text.toList != zbe.toList)=false:=by simpa using hE2
   simp only[if_true];rw[el] at hE hE2 hE3;clear e3 e4 el hq;go_enter func177,ntmps177;go_wp2_with fail;refine HL.out.mono ?_;rintro r w1 ⟨⟨A1,c1,rfl,hmc,hrd,had,hws⟩,hf⟩;have F1:=q0_ hf;have Hws:=q0_ hws;have B1:=q0_ (Hb.out.fr hf (by omega));have O1:=q0_ (zad Ho.out hf (fun j hj e=>zac Ho.out Hwb.out (by decide) (by rw[← e];exact hj)));obtain⟨ad,x,e,hx,q0,_,_⟩:=hrd.word_ (k:=0) (by omega)
   cases e
   obtain⟨ad',y,e,hy,p0,_,_⟩:=hrd.word_ (k:=1) (by omega)
   cases e
   cases hx
   cases hy
   rw[Nat.zero_mul,zb9] at q0;rw[Nat.one_mul,zbW _ _ (by decide)] at p0;clear hf hws had hrd HL;go_wp2_with fail;refine (HC.out _).mono ?_;rintro r w2 ⟨rfl,b2⟩;have F2:=q0_ (Fr.b0 b2);have B2:=q0_ (B1.out.below b2);have d1:=B2.out.cell 1;have z1:=B2.out.frozen 1;simp only[q1_,q2_,q3_] at d1;clear b2 q0 p0;go_wp2;go_ret;have hst:Fr (fun j=>j=lb) w2 (w2.setCell ⟨lb,1,none⟩ (.string b.text)):=(Fr.refl (fun j=>j=lb) w2).setCell (p:=⟨lb,1,none⟩) (.inl rfl) _;refine⟨⟨rfl,⟨⟨A,c,B2.out.set_ 1 _,zad (za_ O1.out F2.out) hst (fun j hj e=>zac (za_ O1.out F2.out) B2.out (by decide) (by rw[← e];exact hj))⟩,?_,hge⟩⟩,?_⟩
   ·obtain⟨A2,c2,hI⟩:=Hws.out.fr0 F2.out
    exact⟨A2,c2,hI.frF hst (fun e=>hne e.symm) (fun j hj e=>zac hI.2.1 B2.out (by decide) (by rw[← e];exact hj))⟩
   ·exact ((F1.out.trans F2.out q4_).mono (G:=fun j=>j=wb∨j=lb) (fun j hj=>.inl (.inl hj))).trans hst (fun j hj=>.inl (.inr hj))
 ·have e3:zfu (Q.map zak.text)=none:=by
   match Q,hq with
   | [],_=>rfl
   | [_],_=>rfl
   | [a,b],h=>exact absurd rfl h
   | _::_::_::_,_=>rfl
  rw[e3]
  have hq2:((Q.length:Int) != 2)=true:=by simp;omega
  have hq3:¬ (Q.length:Int)=2:=by omega
  obtain⟨m,hm⟩:∃ m,Q.length=m:=⟨_,rfl⟩
  rw[hm] at HL hq2 hq3;clear hm e3 hq;go_enter func177,ntmps177;go_wp2_with fail;refine HL.out.mono ?_;rintro r w1 ⟨⟨A1,c1,rfl,hmc,hrd,had,hws⟩,hf⟩;have F1:=q0_ hf;clear hf hws had hrd HL;go_wp2;go_ret;exact⟨rfl,F1.out.mono (fun j hj=>.inl (.inl hj))⟩
open Go.Lib (decDigits itoa)
theorem zc5{u:Nat}(h:u<10):decDigits u=[UInt8.ofNat (48+u)]:=by rw[decDigits,dif_pos h]
theorem ze2{u:Nat}(h:¬ u<10):decDigits u=decDigits (u / 10)++[UInt8.ofNat (48+u%10)]:=by rw[decDigits,dif_neg h]
theorem zdA{k:Nat}(h:k<10):(UInt8.ofNat (48+k)).toNat=48+k:=by
 simp;omega
theorem zim(u:Nat):(decDigits u).all zgh=true:=by
 induction u using Nat.strongRecOn with
 | _ u ih=>
  by_cases h:u<10
  ·rw[zc5 h]
   simp only[List.all_cons,List.all_nil,Bool.and_true,zgh,zdA h];exact qa_ (by omega)
  ·rw[ze2 h,List.all_append,ih (u / 10) (by omega)]
   simp only[List.all_cons,List.all_nil,Bool.and_true,zgh,Bool.true_and];rw[zdA (Nat.mod_lt _ (by decide))];exact qa_ (by have:=Nat.mod_lt u (show 0<10 by decide);omega)
theorem zno(u:Nat):zdU (decDigits u)=u:=by
 induction u using Nat.strongRecOn with
 | _ u ih=>
  by_cases h:u<10
  ·rw[zc5 h]
   simp only[zdU,List.foldl_cons,List.foldl_nil,zdA h];omega
  ·rw[ze2 h,zgv,ih (u / 10) (by omega),zdA (Nat.mod_lt _ (by decide))]
   omega
theorem zj_(u:Nat):decDigits u≠[]:=by
 by_cases h:u<10
 ·rw[zc5 h];simp
 ·rw[ze2 h];simp
theorem zdI(k u:Nat)(hk:1≤k)(h:u<10 ^ k):(decDigits u).length≤k:=by
 induction k generalizing u with
 | zero=>omega
 | succ k ih=>
  by_cases hu:u<10
  ·rw[zc5 hu];simp
  ·rw[ze2 hu,q8_,List.length_singleton]
   have hk1:1≤k:=by
    rcases Nat.eq_zero_or_pos k with h0 | h0
    ·subst h0;simp at h;omega
    ·exact h0
   have:=ih (u / 10) hk1 (by rw[Nat.pow_succ] at h;omega);omega
theorem zhG(k u:Nat)(h:10 ^ k≤u):k+1≤(decDigits u).length:=by
 induction k generalizing u with
 | zero=>
  have:=List.length_pos_iff.2 (zj_ u);omega
 | succ k ih=>
  have hp:1≤10 ^ k:=Nat.one_le_pow _ _ (by decide);rw[Nat.pow_succ] at h
  have hu:¬ u<10:=by omega
  rw[ze2 hu,q8_,List.length_singleton];have:=ih (u / 10) (by omega);omega
theorem zoL(u:Nat):((decDigits u).headD 0).toNat=48→u=0:=by
 induction u using Nat.strongRecOn with
 | _ u ih=>
  by_cases h:u<10
  ·rw[zc5 h,List.headD_cons,zdA h];omega
  ·rw[ze2 h]
   intro h2;obtain⟨c,t,hc⟩:=List.exists_cons_of_ne_nil (zj_ (u / 10));have:=ih (u / 10) (by omega);rw[hc] at this h2;simp only[List.cons_append,List.headD_cons] at this h2;have:=this h2;omega
theorem zja(u:Nat):48≤((decDigits u).headD 0).toNat:=by
 obtain⟨c,t,hc⟩:=List.exists_cons_of_ne_nil (zj_ u);have:=zim u;rw[hc] at this ⊢;simp only[List.all_cons,Bool.and_eq_true,List.headD_cons] at this ⊢;exact (of_decide_eq_true this.1).1
theorem zhj(u:Nat)(neg:Bool)(h:neg=true→u≠0):zfg (decDigits u) neg=decide (18<(decDigits u).length):=by
 unfold zfg;rw[decide_eq_decide];have h1:=List.length_pos_iff.2 (zj_ u)
 constructor
 ·rintro (h2 | h2 | ⟨h2,h3⟩)
  ·omega
  ·exact h2
  ·have h0:=zoL u h2
   subst h0
   rcases h3 with h3 | h3
   ·rw[zc5 (by decide)] at h3;simp at h3
   ·exact absurd rfl (h h3)
 ·intro h2;exact .inr (.inl h2)
theorem zhc(l:List UInt8):Lib.hasPrefix (45::l) [45]=true∧Lib.trimPrefix (45::l) [45]=l:=by
 refine⟨by simp[Lib.hasPrefix],by simp[Lib.trimPrefix,Lib.hasPrefix]⟩
theorem zlo(l:List UInt8)(h:(l.headD 0).toNat≠45):Lib.hasPrefix l [45]=false∧Lib.trimPrefix l [45]=l:=by
 have:Lib.hasPrefix l [45]=false:=by
  cases l with
  | nil=>rfl
  | cons c t=>
   simp only[List.headD_cons] at h
   have hc:c≠45:=by rintro rfl;exact h rfl
   simp[Lib.hasPrefix,List.isPrefixOf,Ne.symm hc]
 exact⟨this,by simp[Lib.trimPrefix,this]⟩
theorem zia(u:Nat):itoa (u:Int)=decDigits u:=by unfold itoa;rw[if_neg (by omega)];simp
theorem zkJ(u:Nat)(h:1≤u):itoa (-(u:Int))=45::decDigits u:=by unfold itoa;rw[if_pos (by omega)];simp
theorem zmN(v:Int):zjn (itoa v)=if -1000000000000000000<v∧v<1000000000000000000 then (v,0) else (0,1):=by
 have e18:(10:Nat) ^ 18=1000000000000000000:=by decide
 rcases Int.lt_or_le v 0 with hv | hv
 ·obtain⟨u,rfl⟩:∃ u:Nat,v= -(u:Int):=⟨v.natAbs,by omega⟩
  have hu:1≤u:=by omega
  rw[zkJ u hu];unfold zjn zo0;rw[(zhc _).1,(zhc _).2,zhj u true (by omega),zim,zno]
  by_cases hb:u<1000000000000000000
  ·have:=zdI 18 u (by decide) (by omega)
   rw[if_neg (by simp;omega),if_pos rfl,if_pos rfl,if_pos (by omega)]
  ·have:=zhG 18 u (by omega)
   rw[if_pos (qa_ (by omega)),if_neg (by omega)]
 ·obtain⟨u,rfl⟩:=Int.eq_ofNat_of_zero_le hv
  rw[zia];unfold zjn zo0;have hp:=zlo (decDigits u) (by have:=zja u;omega);rw[hp.1,hp.2,zhj u false (by simp),zim,zno]
  by_cases hb:u<1000000000000000000
  ·have:=zdI 18 u (by decide) (by omega)
   rw[if_neg (by simp;omega),if_pos rfl,if_neg (by decide),if_pos (by omega)]
  ·have:=zhG 18 u (by omega)
   rw[if_pos (qa_ (by omega)),if_neg (by omega)]
theorem zpv(v:Int):itoa v≠[]:=by
 unfold itoa;split
 ·simp
 ·exact zj_ _
theorem zib(v:Int)(h0: -9223372036854775808≤v)(h1:v≤9223372036854775807):(itoa v).length≤20:=by
 have e19:(10:Nat) ^ 19=10000000000000000000:=by decide
 rcases Int.lt_or_le v 0 with hv | hv
 ·obtain⟨u,rfl⟩:∃ u:Nat,v= -(u:Int):=⟨v.natAbs,by omega⟩
  rw[zkJ u (by omega)];have:=zdI 19 u (by decide) (by omega);simp only[List.length_cons];omega
 ·obtain⟨u,rfl⟩:=Int.eq_ofNat_of_zero_le hv
  rw[zia];have:=zdI 19 u (by decide) (by omega);omega
end Go.Proofs.YteajonicnkpbbaaGreatDoor
