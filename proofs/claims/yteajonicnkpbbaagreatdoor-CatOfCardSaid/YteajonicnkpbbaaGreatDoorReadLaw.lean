/- Policies' texts: what reading them comes to. -/
import Derived.Test.YteajonicnkpbbaaGreatDoorWordN
import Derived.Test.YteajonicnkpbbaaGreatDoorPkBack
import Derived.Test.YteajonicnkpbbaaGreatDoorPolB
namespace Go.Proofs.YteajonicnkpbbaaGreatDoor
set_option linter.all false
set_option maxHeartbeats 8000000
set_option maxRecDepth 100000
open Go.RowKit Tryz
def zbg:ByteArray:={data:=#[112,111,108,105,99,121]}
def zfH:ByteArray:={data:=#[116,105,101,114]}
def zev:ByteArray:={data:=#[101,118,101,114,121]}
def zho:ByteArray:={data:=#[107,101,101,112]}
def zdd:ByteArray:={data:=#[115,104,97,114,100,115]}
def zhO(a b what:ByteArray):Int×Bool:=((zkq b.data.toList).1,(a.toList==what.toList)&&((zkq b.data.toList).2==0))
def zey(L:List ByteArray)(acc:List za_):Option (List za_):=
 match L with
 | [a,nm,w1,x1,w2,x2,w3,x3]=>
  if a.toList==zfH.toList&& !decide (acc.length=5)&&(zhO w1 x1 zev).2&&(zhO w2 x2 zho).2&&(zhO w3 x3 zdd).2 then
   some (acc++[⟨nm,(zhO w1 x1 zev).1,(zhO w2 x2 zho).1,(zhO w3 x3 zdd).1⟩])
  else none
 | _=>none
def zfZ(L:List ByteArray):Option ByteArray:=
 match L with
 | [a,b]=>if a.toList==zbg.toList then some b else none
 | _=>none
def zbU:Nat→List zan→List za_→List za_ ⊕ Int
 | 0,_,acc=>.inl acc
 | _+1,[],acc=>.inl acc
 | f+1,x::R,acc=>match zey ((zbc (x::R)).map zan.text) acc with
  | none=>.inr x.line
  | some acc'=>zbU f ((x::R).drop (zbc (x::R)).length) acc'
def zdl(R:List zan):(ByteArray×List za_) ⊕ Int:=
 match zfZ ((zbc R).map zan.text) with
 | none=>.inr (match R with | []=>1 | x::_=>x.line)
 | some nm=>match zbU R.length (R.drop (zbc R).length) [] with
  | .inl l=>.inl (nm,l)
  | .inr k=>.inr k
def zbV(text:ByteArray):Int×Int×ByteArray×List za_:=
 match zj5 text with
 | .inr (e,k)=>(e,k,ByteArray.empty,[])
 | .inl R=>match zdl R with
  | .inr k=>(22,k,ByteArray.empty,[])
  | .inl (nm,l)=>(0,0,nm,l)
def zaL(text:ByteArray):Int×ByteArray×List za_:=
 match zbV text with
 | (e,_,nm,l)=>if e=0 then (if zai nm l then (0,nm,l) else (23,ByteArray.empty,[])) else (e,ByteArray.empty,[])
theorem zpR(s:ByteArray)(w:World)(hs:s.size≤1099511627776):
  Calls prog 238 #[.string s] w fun r w'=>r=.returned (.tuple #[.int .i64 (zkq s.data.toList).1,.int .i64 (zkq s.data.toList).2])∧w=w':=by
 have:=zmM s.data.toList w (by rw[zcK];exact hs);rwa[← zq8] at this
theorem zeF(a b:zan)(l:List zan)(A:Option Addr)(n c:Nat)(what:ByteArray)(w:World)(hr:Rd w 3 A n (zaP l))(ha:l[0]? =some a)(hb:l[1]? =some b)(hs:b.text.size≤1099511627776):
  Calls prog 215 #[.slice A n c,.string what] w fun r w'=>r=.returned (.tuple #[.int .i64 (zhO a.text b.text what).1,.bool (zhO a.text b.text what).2])∧w=w':=by
 have hln:=hr.words_len
 have h1:1<n:=by rw[← hln];exact (List.getElem?_eq_some_iff.1 hb).1
 have n1:(1:Int)<(n:Int):=by omega
 have n0:(0:Int)<(n:Int):=by omega
 have n2:0<n:=by omega
 obtain⟨ad,x,rfl,hx,q0,_,_⟩:=hr.word_ (k:=0) (by omega);obtain⟨ad',y,e,hy,p0,_,_⟩:=hr.word_ h1
 cases e
 rw[ha] at hx
 cases hx
 rw[hb] at hy
 cases hy
 rw[Nat.zero_mul,za9] at q0;rw[Nat.one_mul,zaV _ _ (by decide)] at p0;have HN:=q0_ (fun W=>zpR b.text W hs);unfold zhO
 obtain⟨v,hv⟩:∃ v,(zkq b.text.data.toList).1=v:=⟨_,rfl⟩
 obtain⟨ev,hev⟩:∃ v,(zkq b.text.data.toList).2=v:=⟨_,rfl⟩
 rw[hv,hev] at HN ⊢;clear hv hev hr ha hb
 cases hE:(a.text.toList==what.toList)
 ·have hE2:¬ a.text.toList=what.toList:=by simpa using hE
  have hE3:(a.text.toList != what.toList)=true:=by simpa using hE2
  go_enter func215,ntmps215;go_wp2_with fail;refine (HN.out _).mono ?_;rintro r w1 ⟨rfl,rfl⟩;go_wp2
  go_ret2
  exact⟨by first | rfl | simp[*],rfl⟩
 ·have hE2:a.text.toList=what.toList:=by simpa using hE
  have hE3:(a.text.toList != what.toList)=false:=by simpa using hE2
  go_enter func215,ntmps215;go_wp2_with fail;refine (HN.out _).mono ?_;rintro r w1 ⟨rfl,rfl⟩;go_wp2
  go_ret2
  exact⟨by first | rfl | simp[*],rfl⟩
structure zdf(w:World)(lb wb lo k:Nat)(R:List zan)(nm:ByteArray)(l:List za_):Prop where
 ex:∃ A c,Blk w lb 238 #[.pointer (some ⟨wb,0,none⟩),.string nm,.slice A l.length c]∧w.ownsRow lo 99 4 (.slice A l.length c) l.length (zag l)
 words:zb1 w wb lo k R
 ge:lo≤lb
def zpb(R:List zan):Prop:=R.length≤16012001∧∀ x∈R,x.text.size≤4000∧ -9223372036854775808≤x.line∧x.line≤9223372036854775807
def zgk(R:List zan)(k:Nat):List ByteArray:=(zbc (R.drop k)).map zan.text
def ziC(R:List zan)(k:Nat):Nat:=(zbc (R.drop k)).length
theorem ziK{R:List zan}{k:Nat}{x:zan}(h:x∈zbc (R.drop k)):x∈R:=by
 cases hd:R.drop k with
 | nil=>rw[hd] at h;simp[zbc] at h
 | cons a t=>
  rw[hd] at h;unfold zbc at h
  have:x∈a::t:=by
   rcases List.mem_cons.1 h with h | h
   ·exact List.mem_cons.2 (.inl h)
   ·have hs:=List.takeWhile_sublist (fun y:zan=>y.line==a.line) (l:=t)
    exact List.mem_cons_of_mem _ (hs.subset h)
  rw[← hd] at this;exact List.mem_of_mem_drop this
theorem zgF(lb wb lo k:Nat)(R:List zan)(nm:ByteArray)(l:List za_)(w:World)(h:zdf w lb wb lo k R nm l)(hR:zpb R):
  Calls prog 177 #[.pointer (some ⟨lb,0,none⟩)] w fun r w'=>
   (match zfZ (zgk R k) with
    | some nm'=>r=.returned (.bool true)∧zdf w' lb wb lo (k+ziC R k) R nm' l
    | none=>r=.returned (.bool false))∧Fr (fun j=>j=wb∨j=lb) w w':=by
 obtain⟨⟨A,c,hb,ho⟩,hw,hge⟩:=h;have HL:=q0_ (zjQ wb lo k R w hw hR.1);have c0:=hb.cell 0;simp only[q1_,q2_,q3_] at c0;have Hb:=q0_ hb;have Ho:=q0_ ho
 obtain⟨csw,hwb⟩:∃ cs,Blk w wb 272 cs:=by
  obtain⟨A1,c1,hI⟩:=hw;exact⟨_,hI.1⟩
 have hne:lb≠wb:=hb.ne_ hwb (by decide);have Hwb:=q0_ hwb;have HS:=q0_ (fun x (hx:x∈zbc (R.drop k))=>(hR.2 x (ziK hx)).1)
 obtain⟨Q,hQ⟩:∃ Q,zbc (R.drop k)=Q:=⟨_,rfl⟩
 unfold zpd at HL;unfold zgk ziC;rw[hQ] at HL HS ⊢;clear hb ho hw hR hwb hQ
 by_cases hq:Q.length=2
 ·obtain⟨a,b,rfl⟩:∃ a b,Q=[a,b]:=by
   match Q,hq with
   | [a,b],_=>exact⟨a,b,rfl⟩
  have HC:=q0_ (fun W=>zfG b.text W (by have:=HS.out b (by simp);omega))
  have e3:zfZ ([a,b].map zan.text)=if a.text.toList==zbg.toList then some b.text else none:=rfl
  have e4:[a,b].length=2:=rfl
  have el:zbg.toList=[112,111,108,105,99,121]:=by rw[Lib.toList_data];rfl
  rw[e3];rw[e4] at HL ⊢
  cases hE:(a.text.toList==zbg.toList)
  ·have hE2:¬ a.text.toList=zbg.toList:=by simpa using hE
   have hE3:(a.text.toList != zbg.toList)=true:=by simpa using hE2
   simp only[Bool.false_eq_true,if_false];rw[el] at hE hE2 hE3;clear e3 e4 el hq;go_enter func177,ntmps177;go_wp2_with fail;refine HL.out.mono ?_;rintro r w1 ⟨⟨A1,c1,rfl,hmc,hrd,had,hws⟩,hf⟩;have F1:=q0_ hf;obtain⟨ad,x,e,hx,q0,_,_⟩:=hrd.word_ (k:=0) (by omega)
   cases e
   cases hx
   rw[Nat.zero_mul,za9] at q0;clear hf hws had hrd HL;go_wp2;go_ret;exact⟨rfl,F1.out.mono (fun j hj=>.inl (.inl hj))⟩
  ·have hE2:a.text.toList=zbg.toList:=by simpa using hE
   have hE3:(a.text.toList != zbg.toList)=false:=by simpa using hE2
   simp only[if_true];rw[el] at hE hE2 hE3;clear e3 e4 el hq;go_enter func177,ntmps177;go_wp2_with fail;refine HL.out.mono ?_;rintro r w1 ⟨⟨A1,c1,rfl,hmc,hrd,had,hws⟩,hf⟩;have F1:=q0_ hf;have Hws:=q0_ hws;have B1:=q0_ (Hb.out.fr hf (by omega));have O1:=q0_ (zah Ho.out hf (fun j hj e=>zad Ho.out Hwb.out (by decide) (by rw[← e];exact hj)));obtain⟨ad,x,e,hx,q0,_,_⟩:=hrd.word_ (k:=0) (by omega)
   cases e
   obtain⟨ad',y,e,hy,p0,_,_⟩:=hrd.word_ (k:=1) (by omega)
   cases e
   cases hx
   cases hy
   rw[Nat.zero_mul,za9] at q0;rw[Nat.one_mul,zaV _ _ (by decide)] at p0;clear hf hws had hrd HL;go_wp2_with fail;refine (HC.out _).mono ?_;rintro r w2 ⟨rfl,b2⟩;have F2:=q0_ (Fr.b0 b2);have B2:=q0_ (B1.out.below b2);have d1:=B2.out.cell 1;have z1:=B2.out.frozen 1;simp only[q1_,q2_,q3_] at d1;clear b2 q0 p0;go_wp2;go_ret;have hst:Fr (fun j=>j=lb) w2 (w2.setCell ⟨lb,1,none⟩ (.string b.text)):=(Fr.refl (fun j=>j=lb) w2).setCell (p:=⟨lb,1,none⟩) (.inl rfl) _;refine⟨⟨rfl,⟨⟨A,c,B2.out.set_ 1 _,zah (zab O1.out F2.out) hst (fun j hj e=>zad (zab O1.out F2.out) B2.out (by decide) (by rw[← e];exact hj))⟩,?_,hge⟩⟩,?_⟩
   ·obtain⟨A2,c2,hI⟩:=Hws.out.fr0 F2.out
    exact⟨A2,c2,hI.frF hst (fun e=>hne e.symm) (fun j hj e=>zad hI.2.1 B2.out (by decide) (by rw[← e];exact hj))⟩
   ·exact ((F1.out.trans F2.out q4_).mono (G:=fun j=>j=wb∨j=lb) (fun j hj=>.inl (.inl hj))).trans hst (fun j hj=>.inl (.inr hj))
 ·have e3:zfZ (Q.map zan.text)=none:=by
   match Q,hq with
   | [],_=>rfl
   | [_],_=>rfl
   | [a,b],h=>exact absurd rfl h
   | _::_::_::_,_=>rfl
  rw[e3]
  have hq2:((Q.length:Int) != 2)=true:=by simp;omega
  have hq3:¬ (Q.length:Int)=2:=by omega
  obtain⟨m,hm⟩:∃ m,Q.length=m:=⟨_,rfl⟩
  rw[hm] at HL hq2 hq3;clear hm e3 hq;go_enter func177,ntmps177;go_wp2_with fail;refine HL.out.mono ?_;rintro r w1 ⟨⟨A1,c1,rfl,hmc,hrd,had,hws⟩,hf⟩;have F1:=q0_ hf;clear hf hws had hrd HL;go_wp2;go_ret;exact⟨rfl,F1.out.mono (fun j hj=>.inl (.inl hj))⟩
open Go.Lib (decDigits itoa)
theorem zdr{u:Nat}(h:u<10):decDigits u=[UInt8.ofNat (48+u)]:=by rw[decDigits,dif_pos h]
theorem zfE{u:Nat}(h:¬ u<10):decDigits u=decDigits (u / 10)++[UInt8.ofNat (48+u%10)]:=by rw[decDigits,dif_neg h]
theorem zdX{k:Nat}(h:k<10):(UInt8.ofNat (48+k)).toNat=48+k:=by
 simp;omega
theorem ziV(u:Nat):(decDigits u).all zgV=true:=by
 induction u using Nat.strongRecOn with
 | _ u ih=>
  by_cases h:u<10
  ·rw[zdr h]
   simp only[List.all_cons,List.all_nil,Bool.and_true,zgV,zdX h];exact qa_ (by omega)
  ·rw[zfE h,List.all_append,ih (u / 10) (by omega)]
   simp only[List.all_cons,List.all_nil,Bool.and_true,zgV,Bool.true_and];rw[zdX (Nat.mod_lt _ (by decide))];exact qa_ (by have:=Nat.mod_lt u (show 0<10 by decide);omega)
theorem zoJ(u:Nat):zet (decDigits u)=u:=by
 induction u using Nat.strongRecOn with
 | _ u ih=>
  by_cases h:u<10
  ·rw[zdr h]
   simp only[zet,List.foldl_cons,List.foldl_nil,zdX h];omega
  ·rw[zfE h,zg5,ih (u / 10) (by omega),zdX (Nat.mod_lt _ (by decide))]
   omega
theorem zj3(u:Nat):decDigits u≠[]:=by
 by_cases h:u<10
 ·rw[zdr h];simp
 ·rw[zfE h];simp
theorem zej(k u:Nat)(hk:1≤k)(h:u<10 ^ k):(decDigits u).length≤k:=by
 induction k generalizing u with
 | zero=>omega
 | succ k ih=>
  by_cases hu:u<10
  ·rw[zdr hu];simp
  ·rw[zfE hu,q8_,List.length_singleton]
   have hk1:1≤k:=by
    rcases Nat.eq_zero_or_pos k with h0 | h0
    ·subst h0;simp at h;omega
    ·exact h0
   have:=ih (u / 10) hk1 (by rw[Nat.pow_succ] at h;omega);omega
theorem zi_(k u:Nat)(h:10 ^ k≤u):k+1≤(decDigits u).length:=by
 induction k generalizing u with
 | zero=>
  have:=List.length_pos_iff.2 (zj3 u);omega
 | succ k ih=>
  have hp:1≤10 ^ k:=Nat.one_le_pow _ _ (by decide);rw[Nat.pow_succ] at h
  have hu:¬ u<10:=by omega
  rw[zfE hu,q8_,List.length_singleton];have:=ih (u / 10) (by omega);omega
theorem zqd(u:Nat):((decDigits u).headD 0).toNat=48→u=0:=by
 induction u using Nat.strongRecOn with
 | _ u ih=>
  by_cases h:u<10
  ·rw[zdr h,List.headD_cons,zdX h];omega
  ·rw[zfE h]
   intro h2;obtain⟨c,t,hc⟩:=List.exists_cons_of_ne_nil (zj3 (u / 10));have:=ih (u / 10) (by omega);rw[hc] at this h2;simp only[List.cons_append,List.headD_cons] at this h2;have:=this h2;omega
theorem zj4(u:Nat):48≤((decDigits u).headD 0).toNat:=by
 obtain⟨c,t,hc⟩:=List.exists_cons_of_ne_nil (zj3 u);have:=ziV u;rw[hc] at this ⊢;simp only[List.all_cons,Bool.and_eq_true,List.headD_cons] at this ⊢;exact (of_decide_eq_true this.1).1
theorem zhP(u:Nat)(neg:Bool)(h:neg=true→u≠0):zfR (decDigits u) neg=decide (18<(decDigits u).length):=by
 unfold zfR;rw[decide_eq_decide];have h1:=List.length_pos_iff.2 (zj3 u)
 constructor
 ·rintro (h2 | h2 | ⟨h2,h3⟩)
  ·omega
  ·exact h2
  ·have h0:=zqd u h2
   subst h0
   rcases h3 with h3 | h3
   ·rw[zdr (by decide)] at h3;simp at h3
   ·exact absurd rfl (h h3)
 ·intro h2;exact .inr (.inl h2)
theorem zhK(l:List UInt8):Lib.hasPrefix (45::l) [45]=true∧Lib.trimPrefix (45::l) [45]=l:=by
 refine⟨by simp[Lib.hasPrefix],by simp[Lib.trimPrefix,Lib.hasPrefix]⟩
theorem zmG(l:List UInt8)(h:(l.headD 0).toNat≠45):Lib.hasPrefix l [45]=false∧Lib.trimPrefix l [45]=l:=by
 have:Lib.hasPrefix l [45]=false:=by
  cases l with
  | nil=>rfl
  | cons c t=>
   simp only[List.headD_cons] at h
   have hc:c≠45:=by rintro rfl;exact h rfl
   simp[Lib.hasPrefix,List.isPrefixOf,Ne.symm hc]
 exact⟨this,by simp[Lib.trimPrefix,this]⟩
theorem ziE(u:Nat):itoa (u:Int)=decDigits u:=by unfold itoa;rw[if_neg (by omega)];simp
theorem zlY(u:Nat)(h:1≤u):itoa (-(u:Int))=45::decDigits u:=by unfold itoa;rw[if_pos (by omega)];simp
theorem zoh(v:Int):zkq (itoa v)=if -1000000000000000000<v∧v<1000000000000000000 then (v,0) else (0,1):=by
 have e18:(10:Nat) ^ 18=1000000000000000000:=by decide
 rcases Int.lt_or_le v 0 with hv | hv
 ·obtain⟨u,rfl⟩:∃ u:Nat,v= -(u:Int):=⟨v.natAbs,by omega⟩
  have hu:1≤u:=by omega
  rw[zlY u hu];unfold zkq zqt;rw[(zhK _).1,(zhK _).2,zhP u true (by omega),ziV,zoJ]
  by_cases hb:u<1000000000000000000
  ·have:=zej 18 u (by decide) (by omega)
   rw[if_neg (by simp;omega),if_pos rfl,if_pos rfl,if_pos (by omega)]
  ·have:=zi_ 18 u (by omega)
   rw[if_pos (qa_ (by omega)),if_neg (by omega)]
 ·obtain⟨u,rfl⟩:=Int.eq_ofNat_of_zero_le hv
  rw[ziE];unfold zkq zqt;have hp:=zmG (decDigits u) (by have:=zj4 u;omega);rw[hp.1,hp.2,zhP u false (by simp),ziV,zoJ]
  by_cases hb:u<1000000000000000000
  ·have:=zej 18 u (by decide) (by omega)
   rw[if_neg (by simp;omega),if_pos rfl,if_neg (by decide),if_pos (by omega)]
  ·have:=zi_ 18 u (by omega)
   rw[if_pos (qa_ (by omega)),if_neg (by omega)]
theorem zqS(v:Int):itoa v≠[]:=by
 unfold itoa;split
 ·simp
 ·exact zj3 _
theorem ziF(v:Int)(h0: -9223372036854775808≤v)(h1:v≤9223372036854775807):(itoa v).length≤20:=by
 have e19:(10:Nat) ^ 19=10000000000000000000:=by decide
 rcases Int.lt_or_le v 0 with hv | hv
 ·obtain⟨u,rfl⟩:∃ u:Nat,v= -(u:Int):=⟨v.natAbs,by omega⟩
  rw[zlY u (by omega)];have:=zej 19 u (by decide) (by omega);simp only[List.length_cons];omega
 ·obtain⟨u,rfl⟩:=Int.eq_ofNat_of_zero_le hv
  rw[ziE];have:=zej 19 u (by decide) (by omega);omega
end Go.Proofs.YteajonicnkpbbaaGreatDoor
