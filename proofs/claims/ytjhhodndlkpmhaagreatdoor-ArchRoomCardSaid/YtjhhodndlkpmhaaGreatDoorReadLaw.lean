/- Policies' texts: what reading them comes to. -/
import Derived.Test.YtjhhodndlkpmhaaGreatDoorWordN
import Derived.Test.YtjhhodndlkpmhaaGreatDoorRefGrid
import Derived.Test.YtjhhodndlkpmhaaGreatDoorFills
import Derived.Test.YtjhhodndlkpmhaaGreatDoorLift
import Derived.Lib.OthersKept
import Derived.Test.YtjhhodndlkpmhaaGreatDoorReachC
import Derived.Test.YtjhhodndlkpmhaaGreatDoorTabM
import Derived.Maps.OwnSet
namespace Go.Proofs.YtjhhodndlkpmhaaGreatDoor
set_option linter.all false
set_option maxHeartbeats 8000000
set_option maxRecDepth 100000
open Go.RowKit Tryz
def zcm:ByteArray:={data:=#[112,111,108,105,99,121]}
def zfT:ByteArray:={data:=#[116,105,101,114]}
def zeZ:ByteArray:={data:=#[101,118,101,114,121]}
def ziE:ByteArray:={data:=#[107,101,101,112]}
def zdv:ByteArray:={data:=#[115,104,97,114,100,115]}
def ziJ(a b what:ByteArray):Int×Bool:=((zmH b.data.toList).1,(a.toList==what.toList)&&((zmH b.data.toList).2==0))
def zfb(L:List ByteArray)(acc:List za_):Option (List za_):=
 match L with
 | [a,nm,w1,x1,w2,x2,w3,x3]=>
  if a.toList==zfT.toList&& !decide (acc.length=5)&&(ziJ w1 x1 zeZ).2&&(ziJ w2 x2 ziE).2&&(ziJ w3 x3 zdv).2 then
   some (acc++[⟨nm,(ziJ w1 x1 zeZ).1,(ziJ w2 x2 ziE).1,(ziJ w3 x3 zdv).1⟩])
  else none
 | _=>none
def zhd(L:List ByteArray):Option ByteArray:=
 match L with
 | [a,b]=>if a.toList==zcm.toList then some b else none
 | _=>none
def zb3:Nat→List zao→List za_→List za_ ⊕ Int
 | 0,_,acc=>.inl acc
 | _+1,[],acc=>.inl acc
 | f+1,x::R,acc=>match zfb ((zbl (x::R)).map zao.text) acc with
  | none=>.inr x.line
  | some acc'=>zb3 f ((x::R).drop (zbl (x::R)).length) acc'
def zdL(R:List zao):(ByteArray×List za_) ⊕ Int:=
 match zhd ((zbl R).map zao.text) with
 | none=>.inr (match R with | []=>1 | x::_=>x.line)
 | some nm=>match zb3 R.length (R.drop (zbl R).length) [] with
  | .inl l=>.inl (nm,l)
  | .inr k=>.inr k
def zbS(text:ByteArray):Int×Int×ByteArray×List za_:=
 match zlM text with
 | .inr (e,k)=>(e,k,ByteArray.empty,[])
 | .inl R=>match zdL R with
  | .inr k=>(22,k,ByteArray.empty,[])
  | .inl (nm,l)=>(0,0,nm,l)
def zaY(text:ByteArray):Int×ByteArray×List za_:=
 match zbS text with
 | (e,_,nm,l)=>if e=0 then (if zak nm l then (0,nm,l) else (23,ByteArray.empty,[])) else (e,ByteArray.empty,[])
theorem zqc(s:ByteArray)(w:World)(hs:s.size≤1099511627776):
  Calls prog 191 #[.string s] w fun r w'=>r=.returned (.tuple #[.int .i64 (zmH s.data.toList).1,.int .i64 (zmH s.data.toList).2])∧w=w':=by
 have:=zmG s.data.toList w (by rw[zbj];exact hs);rwa[← zrU] at this
theorem zel(a b:zao)(l:List zao)(A:Option Addr)(n c:Nat)(what:ByteArray)(w:World)(hr:Rd w 3 A n (zaM l))(ha:l[0]? =some a)(hb:l[1]? =some b)(hs:b.text.size≤1099511627776):
  Calls prog 159 #[.slice A n c,.string what] w fun r w'=>r=.returned (.tuple #[.int .i64 (ziJ a.text b.text what).1,.bool (ziJ a.text b.text what).2])∧w=w':=by
 have hln:=hr.words_len
 have h1:1<n:=by rw[← hln];exact (List.getElem?_eq_some_iff.1 hb).1
 have n1:(1:Int)<(n:Int):=by omega
 have n0:(0:Int)<(n:Int):=by omega
 have n2:0<n:=by omega
 obtain⟨ad,x,rfl,hx,q0,_,_⟩:=hr.word_ (k:=0) (by omega);obtain⟨ad',y,e,hy,p0,_,_⟩:=hr.word_ h1
 cases e
 rw[ha] at hx
 cases hx
 rw[hb] at hy
 cases hy
 rw[Nat.zero_mul,zaZ] at q0;rw[Nat.one_mul,zaV _ _ (by decide)] at p0;have HN:=q0_ (fun W=>zqc b.text W hs);unfold ziJ
 obtain⟨v,hv⟩:∃ v,(zmH b.text.data.toList).1=v:=⟨_,rfl⟩
 obtain⟨ev,hev⟩:∃ v,(zmH b.text.data.toList).2=v:=⟨_,rfl⟩
 rw[hv,hev] at HN ⊢;clear hv hev hr ha hb
 cases hE:(a.text.toList==what.toList)
 ·have hE2:¬ a.text.toList=what.toList:=by simpa using hE
  have hE3:(a.text.toList != what.toList)=true:=by simpa using hE2
  go_enter func159,ntmps159;go_wp2_with fail;refine (HN.out _).mono ?_;rintro r w1 ⟨rfl,rfl⟩;go_wp2
  go_ret2
  exact⟨by first | rfl | simp[*],rfl⟩
 ·have hE2:a.text.toList=what.toList:=by simpa using hE
  have hE3:(a.text.toList != what.toList)=false:=by simpa using hE2
  go_enter func159,ntmps159;go_wp2_with fail;refine (HN.out _).mono ?_;rintro r w1 ⟨rfl,rfl⟩;go_wp2
  go_ret2
  exact⟨by first | rfl | simp[*],rfl⟩
def zdC:List ByteArray→List UInt8
 | []=>[]
 | [a]=>a.data.toList
 | a::b::r=>a.data.toList++32::zdC (b::r)
theorem zlR(a:ByteArray):a.data.toList.length=a.size:=by rw[Array.length_toList];rfl
def zdH(t:za_):List ByteArray:=[zfT,t.name,zeZ,zal (Lib.itoa t.every),ziE,zal (Lib.itoa t.keep),zdv,zal (Lib.itoa t.shards)]
def zb4(nm:ByteArray)(l:List za_):List UInt8:=([zcm,nm]::l.map zdH).flatMap fun ws=>zdC ws++[10]
def zcB(nm:ByteArray)(l:List za_):ByteArray:=zal (zb4 nm l)
structure zcW(w:World)(lb wb lo k:Nat)(R:List zao)(nm:ByteArray)(l:List za_):Prop where
 ex:∃ A c,Blk w lb 192 #[.pointer (some ⟨wb,0,none⟩),.string nm,.slice A l.length c]∧w.ownsRow lo 130 4 (.slice A l.length c) l.length (zah l)
 words:zbO w wb lo k R
 ge:lo≤lb
def zpv(R:List zao):Prop:=R.length≤16012001∧∀ x∈R,x.text.size≤4000∧ -9223372036854775808≤x.line∧x.line≤9223372036854775807
def zgi(R:List zao)(k:Nat):List ByteArray:=(zbl (R.drop k)).map zao.text
def zil(R:List zao)(k:Nat):Nat:=(zbl (R.drop k)).length
theorem zis{R:List zao}{k:Nat}{x:zao}(h:x∈zbl (R.drop k)):x∈R:=by
 cases hd:R.drop k with
 | nil=>rw[hd] at h;simp[zbl] at h
 | cons a t=>
  rw[hd] at h;unfold zbl at h
  have:x∈a::t:=by
   rcases List.mem_cons.1 h with h | h
   ·exact List.mem_cons.2 (.inl h)
   ·have hs:=List.takeWhile_sublist (fun y:zao=>y.line==a.line) (l:=t)
    exact List.mem_cons_of_mem _ (hs.subset h)
  rw[← hd] at this;exact List.mem_of_mem_drop this
theorem zgB(lb wb lo k:Nat)(R:List zao)(nm:ByteArray)(l:List za_)(w:World)(h:zcW w lb wb lo k R nm l)(hR:zpv R):
  Calls prog 123 #[.pointer (some ⟨lb,0,none⟩)] w fun r w'=>
   (match zhd (zgi R k) with
    | some nm'=>r=.returned (.bool true)∧zcW w' lb wb lo (k+zil R k) R nm' l
    | none=>r=.returned (.bool false))∧Fr (fun j=>j=wb∨j=lb) w w':=by
 obtain⟨⟨A,c,hb,ho⟩,hw,hge⟩:=h;have HL:=q0_ (zjr wb lo k R w hw hR.1);have c0:=hb.cell 0;simp only[q1_,q2_,q3_] at c0;have Hb:=q0_ hb;have Ho:=q0_ ho
 obtain⟨csw,hwb⟩:∃ cs,Blk w wb 223 cs:=by
  obtain⟨A1,c1,hI⟩:=hw;exact⟨_,hI.1⟩
 have hne:lb≠wb:=hb.ne_ hwb (by decide);have Hwb:=q0_ hwb;have HS:=q0_ (fun x (hx:x∈zbl (R.drop k))=>(hR.2 x (zis hx)).1)
 obtain⟨Q,hQ⟩:∃ Q,zbl (R.drop k)=Q:=⟨_,rfl⟩
 unfold zpx at HL;unfold zgi zil;rw[hQ] at HL HS ⊢;clear hb ho hw hR hwb hQ
 by_cases hq:Q.length=2
 ·obtain⟨a,b,rfl⟩:∃ a b,Q=[a,b]:=by
   match Q,hq with
   | [a,b],_=>exact⟨a,b,rfl⟩
  have HC:=q0_ (fun W=>zfB b.text W (by have:=HS.out b (by simp);omega))
  have e3:zhd ([a,b].map zao.text)=if a.text.toList==zcm.toList then some b.text else none:=rfl
  have e4:[a,b].length=2:=rfl
  have el:zcm.toList=[112,111,108,105,99,121]:=by rw[Lib.toList_data];rfl
  rw[e3];rw[e4] at HL ⊢
  cases hE:(a.text.toList==zcm.toList)
  ·have hE2:¬ a.text.toList=zcm.toList:=by simpa using hE
   have hE3:(a.text.toList != zcm.toList)=true:=by simpa using hE2
   simp only[Bool.false_eq_true,if_false];rw[el] at hE hE2 hE3;clear e3 e4 el hq;go_enter func123,ntmps123;go_wp2_with fail;refine HL.out.mono ?_;rintro r w1 ⟨⟨A1,c1,rfl,hmc,hrd,had,hws⟩,hf⟩;have F1:=q0_ hf;obtain⟨ad,x,e,hx,q0,_,_⟩:=hrd.word_ (k:=0) (by omega)
   cases e
   cases hx
   rw[Nat.zero_mul,zaZ] at q0;clear hf hws had hrd HL;go_wp2;go_ret;exact⟨rfl,F1.out.mono (fun j hj=>.inl (.inl hj))⟩
  ·have hE2:a.text.toList=zcm.toList:=by simpa using hE
   have hE3:(a.text.toList != zcm.toList)=false:=by simpa using hE2
   simp only[if_true];rw[el] at hE hE2 hE3;clear e3 e4 el hq;go_enter func123,ntmps123;go_wp2_with fail;refine HL.out.mono ?_;rintro r w1 ⟨⟨A1,c1,rfl,hmc,hrd,had,hws⟩,hf⟩;have F1:=q0_ hf;have Hws:=q0_ hws;have B1:=q0_ (Hb.out.fr hf (by omega));have O1:=q0_ (zaf Ho.out hf (fun j hj e=>zad Ho.out Hwb.out (by decide) (by rw[← e];exact hj)));obtain⟨ad,x,e,hx,q0,_,_⟩:=hrd.word_ (k:=0) (by omega)
   cases e
   obtain⟨ad',y,e,hy,p0,_,_⟩:=hrd.word_ (k:=1) (by omega)
   cases e
   cases hx
   cases hy
   rw[Nat.zero_mul,zaZ] at q0;rw[Nat.one_mul,zaV _ _ (by decide)] at p0;clear hf hws had hrd HL;go_wp2_with fail;refine (HC.out _).mono ?_;rintro r w2 ⟨rfl,b2⟩;have F2:=q0_ (Fr.b0 b2);have B2:=q0_ (B1.out.below b2);have d1:=B2.out.cell 1;have z1:=B2.out.frozen 1;simp only[q1_,q2_,q3_] at d1;clear b2 q0 p0;go_wp2;go_ret;have hst:Fr (fun j=>j=lb) w2 (w2.setCell ⟨lb,1,none⟩ (.string b.text)):=(Fr.refl (fun j=>j=lb) w2).setCell (p:=⟨lb,1,none⟩) (.inl rfl) _;refine⟨⟨rfl,⟨⟨A,c,B2.out.set_ 1 _,zaf (zac O1.out F2.out) hst (fun j hj e=>zad (zac O1.out F2.out) B2.out (by decide) (by rw[← e];exact hj))⟩,?_,hge⟩⟩,?_⟩
   ·obtain⟨A2,c2,hI⟩:=Hws.out.fr0 F2.out
    exact⟨A2,c2,hI.frF hst (fun e=>hne e.symm) (fun j hj e=>zad hI.2.1 B2.out (by decide) (by rw[← e];exact hj))⟩
   ·exact ((F1.out.trans F2.out q4_).mono (G:=fun j=>j=wb∨j=lb) (fun j hj=>.inl (.inl hj))).trans hst (fun j hj=>.inl (.inr hj))
 ·have e3:zhd (Q.map zao.text)=none:=by
   match Q,hq with
   | [],_=>rfl
   | [_],_=>rfl
   | [a,b],h=>exact absurd rfl h
   | _::_::_::_,_=>rfl
  rw[e3]
  have hq2:((Q.length:Int) != 2)=true:=by simp;omega
  have hq3:¬ (Q.length:Int)=2:=by omega
  obtain⟨m,hm⟩:∃ m,Q.length=m:=⟨_,rfl⟩
  rw[hm] at HL hq2 hq3;clear hm e3 hq;go_enter func123,ntmps123;go_wp2_with fail;refine HL.out.mono ?_;rintro r w1 ⟨⟨A1,c1,rfl,hmc,hrd,had,hws⟩,hf⟩;have F1:=q0_ hf;clear hf hws had hrd HL;go_wp2;go_ret;exact⟨rfl,F1.out.mono (fun j hj=>.inl (.inl hj))⟩
theorem zfU{T e:TypeId}{B b:Nat}{p:Value}{bs:List Value}{W W':World}(h:Lib.BuilderAtF T e B b p bs W)(hb:Below W.heap.size W W'):Lib.BuilderAtF T e B b p bs W':=by
 have hlt:=h.lt;obtain⟨hB,v,h1,hown,hne⟩:=h;exact⟨hB,v,(hb.block b hlt).trans h1,hown.kept (row:=none) ⟨hb.os,hb.tape,hb.output,hb.size,fun k hk _=>hb.block k hk⟩ (Classical.em _),hne⟩
def zee(nm:ByteArray):ByteArray:=⟨#[112,111,108,105,99,121,32]⟩++nm++⟨#[10]⟩
theorem zdq(nm:ByteArray):(zee nm).size=7+nm.size+1:=by
 unfold zee;rw[ByteArray.size_append,ByteArray.size_append]
 rfl
theorem zhx{nm:ByteArray}{l:List za_}(h:zak nm l=true):(zee nm).size≤100∧l.length≤5∧∀ t∈l,t.name.size≤15:=by
 have hn:zaD nm=true:=by
  cases hv:zaD nm
  ·unfold zak at h
   simp[hv] at h
  ·rfl
 refine⟨?_,(zch h).2,fun t ht=>?_⟩
 ·unfold zaD at hn
  simp only[Bool.and_eq_true,decide_eq_true_eq] at hn;unfold zee;rw[ByteArray.size_append,ByteArray.size_append];have e1:(⟨#[112,111,108,105,99,121,32]⟩:ByteArray).size=7:=rfl;have e2:(⟨#[10]⟩:ByteArray).size=1:=rfl;omega
 ·obtain⟨i,hi⟩:=List.getElem?_of_mem ht
  have hf:=zdb h hi
  cases hv:zaD t.name
  ·unfold zdR za_.ok at hf
   simp[hv] at hf
  ·unfold zaD at hv
   simp only[Bool.and_eq_true,decide_eq_true_eq] at hv;omega
theorem zkL{nm:ByteArray}{l:List za_}:[]++Lib.strCells (zee nm)=Lib.byteCells (zb4 nm (l.take 0)):=by
 have e:(zee nm).data.toList=zb4 nm (l.take 0):=by
  unfold zee zb4;rw[ByteArray.data_append,ByteArray.data_append];simp[zdC,zcm]
 rw[List.nil_append];unfold Lib.strCells;rw[e]
 rfl
theorem zhI:∀ (a:ByteArray) (r:List ByteArray),zdC (a::r)=a.data.toList++Lib.joinTail [32] (r.map (·.data.toList))
 | a,[]=>by simp[zdC,Lib.joinTail]
 | a,b::r=>by
  show a.data.toList++32::zdC (b::r)=_
  rw[zhI b r];simp[Lib.joinTail]
theorem zhJ(ws:List ByteArray):Lib.join (ws.map (·.data.toList)) [32]=zdC ws:=by
 cases ws with
 | nil=>rfl
 | cons a r=>rw[List.map_cons,Lib.join_cons,zhI]
theorem zlw(x:za_)(h:x.name.size≤15)(hw:x.wf):(zdC (zdH x)).length≤200:=by
 have e1:=zio x.every hw.1.1 hw.1.2;have e2:=zio x.keep hw.2.1.1 hw.2.1.2;have e3:=zio x.shards hw.2.2.1.1 hw.2.2.1.2;have e4:=zlR x.name;unfold zdH;simp only[zdC,q8_,List.length_cons,zlR];have f:∀ v,(zal (Lib.itoa v)).size=(Lib.itoa v).length:=fun v=>rfl;rw[f,f,f];have c1:zfT.size=4:=rfl;have c2:zeZ.size=5:=rfl;have c3:ziE.size=4:=rfl;have c4:zdv.size=6:=rfl;omega
theorem zkz(nm:ByteArray)(l:List za_)(x:za_):zb4 nm (l++[x])=zb4 nm l++(zdC (zdH x)++[10]):=by
 unfold zb4;rw[List.map_append, ← List.cons_append,List.flatMap_append];simp
theorem zjc(nm:ByteArray)(l:List za_)(h:∀ t∈l,t.name.size≤15∧t.wf):(zb4 nm l).length≤(zee nm).size+l.length*201:=by
 unfold zb4;rw[List.flatMap_cons,q8_]
 have h1:(zdC [zcm,nm]++[10]).length=(zee nm).size:=by
  rw[zdq];simp only[zdC,q8_,List.length_cons,zlR,List.length_nil];have c1:zcm.size=6:=rfl;omega
 rw[h1]
 have:∀ l:List za_,(∀ t∈l,t.name.size≤15∧t.wf)→((l.map zdH).flatMap fun ws=>zdC ws++[10]).length≤l.length*201:=by
  intro l
  induction l with
  | nil=>intro _;simp
  | cons t l ih=>
   intro h;have a:=zlw t (h t (by simp)).1 (h t (by simp)).2;have b:=ih (fun u hu=>h u (List.mem_cons_of_mem _ hu));rw[List.map_cons,List.flatMap_cons,q8_,q8_,List.length_cons];simp only[List.length_cons,List.length_nil];omega
 have:=this l h;omega
theorem zmN{nm:ByteArray}{l:List za_}{k:Nat}{x:za_}{J:ByteArray}(hu:l[k]? =some x)(hJ:J.data.toList=zdC (zdH x)):Lib.byteCells (zb4 nm (l.take (k+1)))=Lib.byteCells (zb4 nm (l.take k))++Lib.strCells (J++⟨#[10]⟩):=by
 have e:(J++⟨#[10]⟩:ByteArray).data.toList=zdC (zdH x)++[10]:=by
  rw[ByteArray.data_append,Array.toList_append,hJ]
 rw[zan hu,zkz];unfold Lib.byteCells Lib.strCells;rw[List.map_append,e]
theorem zjd(nm:ByteArray)(hnm:nm.size≤maxLen)(l:List za_)(A:Option Addr)(n c:Nat)(w:World)(hr:Rd w 4 A n (zah l))(hnc:n≤c)(hwf:∀ t∈l,t.wf)(hti:Tab w):
  Calls prog 65 #[zfS nm A n c] w fun r w'=>r=.returned (.tuple #[.string (if zak nm l=true then zcB nm l else ByteArray.empty),.int .i64 (zfw (zak nm l))])∧Below w.heap.size w w':=by
 obtain⟨W0,hW0⟩:∃ W0,W0=w.alloc (.cells #[.string nm,.slice A n c] 51):=⟨_,rfl⟩
 have F0:Hid (Fr (fun _=>False) w W0):=by show Fr _ _ _;rw[hW0];exact Fr.none_alloc _ _
 have X0:Hid (Blk W0 w.heap.size 51 #[.string nm,.slice A n c]):=by show Blk _ _ _ _;rw[hW0];exact Blk.new _ _ _
 have HK:=q0_ (zdV nm hnm l A n c W0 (hr.fr0 F0.out) hnc (fun t ht=>(hwf t ht).2.2.2))
 have HC:Hid (∀ W,Fr (fun _=>False) W0 W→W.cell? ⟨w.heap.size,0,none⟩=some (.string nm)∧W.cell? ⟨w.heap.size,1,none⟩=some (.slice A n c)):=fun W f=>by
  have b:=X0.out.fr f (fun h=>h);exact⟨b.cell 0,b.cell 1⟩
 have HD:Hid (∀ W,Fr (fun _=>False) W0 W→∀ v:Int,i64 v→Calls prog 110 #[.int .i64 v] W fun r w'=>r=.returned (.string (zal (Lib.itoa v)))∧Below W.heap.size W w'):=fun W f v hv=>by
  have f2:Fr (fun _=>False) w W:=F0.out.trans f q4_;exact zm3 v hv.1 hv.2 W (hti.below (f2.below q4_))
 have HR:=q0_ (hr.fr0 F0.out);have HWF:=q0_ hwf;have HW0:=q0_ hW0;have Hlen:=q0_ hr.tiers_len;unfold zfS zfw at HK;unfold zfS zfw;clear hr hW0 hti hnm hnc hwf;obtain⟨x0,x1⟩:=HC.out W0 (Fr.refl _ _)
 cases hc:zak nm l
 ·rw[hc] at HK
  go_enter func65,ntmps65
  go_upto_region 1 with fail
  rw[← HW0.out];go_wp2_with fail;refine HK.out.mono ?_;rintro r w2 ⟨⟨k,rfl⟩,b2⟩;have B2:=q0_ b2;clear b2 x0 x1;go_wp2
  go_ret2
  exact⟨rfl,(F0.out.trans (Fr.b0 B2.out) q4_).below q4_⟩
 ·rw[hc] at HK
  have Hsz:=q0_ (zhx hc);have Hc:=q0_ hc
  have hn5:n≤5:=by have:=Hsz.out.2.1;rw[Hlen.out] at this;exact this
  clear hc;go_enter func65,ntmps65
  go_upto_region 1 with fail
  rw[← HW0.out];go_wp2_with fail;refine HK.out.mono ?_;rintro r w2 ⟨⟨k,rfl⟩,b2⟩;have F2:=q0_ (Fr.b0 b2);clear b2 x0 x1
  go_upto_region 5 with fail
  obtain⟨W3,hW3⟩:∃ W3,W3=w2.alloc (.cells #[.pointer none,.slice none 0 0] 167):=⟨_,rfl⟩
  rw[← hW3]
  have B3:Hid (Below w2.heap.size w2 W3):=by show Below _ _ _;rw[hW3];exact (Fr.none_alloc _ _).below q4_
  have hB3:Lib.IsBuilderF 167 5 w2.heap.size w2.heap.size [] W3:=by rw[hW3];exact Lib.IsBuilderF.of (Lib.fresh_isBuilder _ _ _)
  have HW:=q0_ (zg0 w2.heap.size w2.heap.size [] (zee nm) W3 hB3 (by have:=Hsz.out.1;simp;omega) B3.out.size);obtain⟨x0,x1⟩:=HC.out W3 (F2.out.trans (Fr.b0 B3.out) q4_)
  have s1:¬ (7+nm.size>9223372036854775807):=by have:=Hsz.out.1;have e:=zdq nm;omega
  have s2:¬ (7+nm.size+1>9223372036854775807):=by have:=Hsz.out.1;have e:=zdq nm;omega
  clear hW3 hB3;go_wp2_with fail;refine (show Calls _ _ _ _ _ from HW.out).mono ?_;rintro r w4 ⟨rfl,a4,b4,_⟩
  have A4:Hid (Lib.BuilderAtF 167 5 w2.heap.size w2.heap.size (.pointer (some ⟨w2.heap.size,0,none⟩)) (Lib.byteCells (zb4 nm (l.take 0))) w4):=by show Lib.BuilderAtF _ _ _ _ _ _ _;rw[← zkL];exact a4
  have B4:Hid (Below w2.heap.size w2 w4):=B3.out.trans b4;obtain⟨y0,y1⟩:=HC.out w4 (F2.out.trans (Fr.b0 B4.out) q4_);clear a4 b4 x0 x1 s1 s2 HW;go_wp2_with fail;clear y0 y1
  go_loopw [26] (fun i wr=>∃ k:Nat,k≤n∧i=.int .i64 k∧Lib.BuilderAtF 167 5 w2.heap.size w2.heap.size (.pointer (some ⟨w2.heap.size,0,none⟩)) (Lib.byteCells (zb4 nm (l.take k))) wr∧Below w2.heap.size w2 wr) (fun i _=>n-(intOf i).toNat)
  case atStart=>exact⟨0,Nat.zero_le _,rfl,A4.out,B4.out⟩
  case round=>
   obtain⟨k,hk,rfl,ha,hb⟩:=hrel;have Fw:Hid (Fr (fun _=>False) W0 wr):=F2.out.trans (Fr.b0 hb) q4_;have Ha:=q0_ ha;have Hb:=q0_ hb;clear A4 B4
   by_cases hlt:k<n
   ·obtain⟨ad,x,rfl,hu,d0,d1,d2,d3⟩:=(HR.out.fr0 Fw.out).tier hlt
    have Hu:=q0_ hu;have Hx:=q0_ (HWF.out x (zab hu));clear ha hb hu
    go_upto_region 9 with fail
    obtain⟨W1,hW1⟩:∃ W1,W1=wr.alloc (.cells #[.string x.name,.int .i64 x.every,.int .i64 x.keep,.int .i64 x.shards] 130):=⟨_,rfl⟩
    rw[← hW1]
    have Xt:Hid (Blk W1 wr.heap.size 130 #[.string x.name,.int .i64 x.every,.int .i64 x.keep,.int .i64 x.shards]):=by show Blk _ _ _ _;rw[hW1];exact Blk.new _ _ _
    have HCt:Hid (∀ W,Fr (fun _=>False) W1 W→W.cell? ⟨wr.heap.size,0,none⟩=some (.string x.name)∧W.cell? ⟨wr.heap.size,1,none⟩=some (.int .i64 x.every)∧W.cell? ⟨wr.heap.size,2,none⟩=some (.int .i64 x.keep)∧W.cell? ⟨wr.heap.size,3,none⟩=some (.int .i64 x.shards)):=fun W f=>by
     have b:=Xt.out.fr f (fun h=>h);exact⟨b.cell 0,b.cell 1,b.cell 2,b.cell 3⟩
    have fw1:Fr (fun _=>False) wr W1:=by rw[hW1];exact Fr.none_alloc _ _
    have Fw1:=q0_ fw1;have F1:Hid (Fr (fun _=>False) W0 W1):=Fw.out.trans fw1 q4_;clear hW1 d0 d1 d2 d3 fw1;refine wp_region_held_drew (S:=fun W=>Fr (fun _=>False) W1 W) (by kernel_rfl) ((Fr.refl _ W1).drew) (fun hY_=>?_);refine tq 8 [0,1,2,3,5,6,8,9] ?_
    iterate 7 refine sf HCt.out ?_
    refine sf HCt.out ?_
    try simp only[Act.put,sA,sB,sC]
    refine sz ?_
    try simp only[Act.put,sA,sB,sC]
    refine rl 4 rfl (fun K hK=>?_);go_simp
    go_wp2_with (go_at_call 110;refine (HD.out _ (F1.out.trans hY_ q4_) x.every Hx.out.1).mono ?_;rintro r wa ⟨rfl,ba⟩)
    refine hK.out _ _ (hY_.trans (Fr.b0 ba) q4_) (fun hY_=>?_);clear hK K
    try simp only[Act.put,sA,sB,sC]
    refine rl 7 rfl (fun K hK=>?_);go_simp
    go_wp2_with (go_at_call 110;refine (HD.out _ (F1.out.trans hY_ q4_) x.keep Hx.out.2.1).mono ?_;rintro r wa ⟨rfl,ba⟩)
    refine hK.out _ _ (hY_.trans (Fr.b0 ba) q4_) (fun hY_=>?_);clear hK K
    try simp only[Act.put,sA,sB,sC]
    refine rl 10 rfl (fun K hK=>?_);go_simp
    go_wp2_with (go_at_call 110;refine (HD.out _ (F1.out.trans hY_ q4_) x.shards Hx.out.2.2.1).mono ?_;rintro r wa ⟨rfl,ba⟩)
    refine hK.out _ _ (hY_.trans (Fr.b0 ba) q4_) (fun hY_=>?_);clear hK K
    try simp only[Act.put,sA,sB,sC]
    refine rl 11 rfl (fun K hK=>?_);go_simp;refine hK.out _ _ (hY_.alloc _) (fun hY_=>?_);clear hK K;refine tl 12 ?v9 rfl ?q9 ?r9
    case q9=>intro W hSw;(try obtain⟨z0,z1,z2,z3⟩:=HCt.out W hSw);go_simp;try rfl
    try simp only[Act.put,sA,sB,sC]
    refine wpAnyH_done (by kernel_rfl) ?_ _
    obtain⟨W5,hW5⟩:∃ W5,W5=wa.alloc (.cells #[.string {data:=#[116,105,101,114]},.string x.name,.string {data:=#[101,118,101,114,121]},.string (zal (Lib.itoa x.every)),.string {data:=#[107,101,101,112]},.string (zal (Lib.itoa x.keep)),.string {data:=#[115,104,97,114,100,115]},.string (zal (Lib.itoa x.shards))] 9):=⟨_,rfl⟩
    have F5:Hid (Fr (fun _=>False) wr W5):=by show Fr _ _ _;rw[hW5];exact Fw1.out.trans hY_ q4_
    have X5:Blk W5 wa.heap.size 9 #[.string zfT,.string x.name,.string zeZ,.string (zal (Lib.itoa x.every)),.string ziE,.string (zal (Lib.itoa x.keep)),.string zdv,.string (zal (Lib.itoa x.shards))]:=by rw[hW5];exact Blk.new _ _ _
    have HL:=q0_ (zlw x (Hsz.out.2.2 x (zab Hu.out)) Hx.out)
    obtain⟨J,hJ⟩:∃ J,J=zal (zdC (zdH x)):=⟨_,rfl⟩
    have HJ:Hid (Calls prog 111 #[.slice (some ⟨wa.heap.size,0,none⟩) 8 8,.string ⟨#[32]⟩] W5 fun e w'=>e=.returned (.string J)∧Below W5.heap.size W5 w'):=by
     have:=Tryz.strings_Join wa.heap.size 0 8 (zdH x) ⟨#[32]⟩ W5 (fun j y hy=>?_) X5.lt (by show 8≤_;omega) (Nat.le_refl 8) (by rw[show (⟨#[32]⟩:ByteArray).data.toList=[32] from rfl,zhJ];have:=HL.out;omega)
     ·rw[show (⟨#[32]⟩:ByteArray).data.toList=[32] from rfl,zhJ] at this
      rw[hJ];exact this
     ·rw[Nat.zero_add,X5.cell j]
      match j,hy with
      | 0,hy | 1,hy | 2,hy | 3,hy | 4,hy | 5,hy | 6,hy | 7,hy=>cases hy;rfl
      | j+8,hy=>simp[zdH] at hy
    have HJs:Hid (J.size≤200):=by show _≤_;rw[hJ];exact HL.out
    have HJd:Hid (J.data.toList=zdC (zdH x)):=by show _=_;rw[hJ];rfl
    have HR5:Hid (Below wr.heap.size wr W5):=F5.out.below q4_
    have s1:¬ (J.size+1>9223372036854775807):=by have:=HJs.out;omega
    clear hJ X5 hY_ HCt Xt Fw1;rw[← hW5];clear hW5;go_wp2_with fail;refine (show Calls _ _ _ _ _ from HJ.out).mono ?_;rintro r w6 ⟨rfl,b6⟩;have R6:Hid (Below wr.heap.size wr w6):=((Fr.b0 HR5.out).trans (Fr.b0 b6) q4_).below q4_;have A6:Lib.BuilderAtF 167 5 w2.heap.size w2.heap.size (.pointer (some ⟨w2.heap.size,0,none⟩)) (Lib.byteCells (zb4 nm (l.take k))) w6:=zfU Ha.out R6.out
    have HW:=q0_ (zg0 w2.heap.size w2.heap.size _ (J++⟨#[10]⟩) w6 (.inr A6) (by
     have h1:=zjc nm (l.take k) (fun t ht=>⟨Hsz.out.2.2 t (List.mem_of_mem_take ht),HWF.out t (List.mem_of_mem_take ht)⟩);have h2:=Hsz.out.1;have h3:=zdq nm
     have h4:(l.take k).length≤5:=by rw[List.length_take];have:=Hsz.out.2.1;omega
     have h5:=HJs.out;rw[ByteArray.size_append,show (⟨#[10]⟩:ByteArray).size=1 from rfl];unfold Lib.byteCells;rw[List.length_map]
     omega) (Nat.le_trans Hb.out.size R6.out.size))
    clear b6 A6;go_wp2_with fail;refine (show Calls _ _ _ _ _ from HW.out).mono ?_;rintro r w7 ⟨rfl,a7,b7,_⟩
    have A7:Hid (Lib.BuilderAtF 167 5 w2.heap.size w2.heap.size (.pointer (some ⟨w2.heap.size,0,none⟩)) (Lib.byteCells (zb4 nm (l.take (k+1)))) w7):=by show Lib.BuilderAtF _ _ _ _ _ _ _;rw[zmN Hu.out HJd.out];exact a7
    have B7:Hid (Below w2.heap.size w2 w7):=Hb.out.trans (((Fr.b0 R6.out).below_of (B:=w2.heap.size) Hb.out.size q4_).trans b7);clear a7 b7 s1 HW;go_wp2
    go_roundw
    case rel=>exact⟨k+1,by omega,by go_num,A7.out,B7.out⟩
    case measure=>simp[intOf];omega
   ·obtain rfl:k=n:=by omega
    have hl:l.take k=l:=List.take_of_length_le (by rw[Hlen.out];exact Nat.le_refl _);rw[hl] at ha;have HS:=q0_ (Tryz.Builder_String_f w2.heap.size w2.heap.size (zb4 nm l) wr (.inr ha) (by unfold zb4;simp[zdC]));clear ha hb hl;go_wp2_with fail;refine (show Calls _ _ _ _ _ from HS.out).mono ?_;rintro r w8 ⟨rfl,_,b8⟩;have B8:Hid (Fr (fun _=>False) w w8):=(F0.out.trans F2.out q4_).trans (Fr.b0 (Hb.out.trans b8)) q4_;clear b8;go_wp2
    go_ret2
    exact⟨rfl,B8.out.below q4_⟩
open Go.Maps (Keyed int_keyed keyOf_int_mk)
theorem zsi:Keyed prog 3:=int_keyed underlying3
theorem zjh:Keyed prog 164:=Keyed.of_law (deep_law_gate zlA (of_decide_eq_true (by kernel_rfl)) (of_decide_eq_true (by kernel_rfl)) (by kernel_rfl) (by kernel_rfl))
def zoo(a b:Int):Value:=.agg #[.int .i64 a,.int .i64 b]
def zhb(a b:Int):Lit:=.string (keyBytes [.int .i64 a,.int .i64 b])
theorem zst{x:Int}(h:zbh x):(Lit.int .i64 x).wf=true:=by
 obtain⟨h1,h2⟩:=h;simp[Lit.wf,IntKind.min,IntKind.max,IntKind.bits,IntKind.signed];omega
theorem zin{a b:Int}(ha:zbh a)(hb:zbh b):keyOf prog 164 (zoo a b)=some (zhb a b):=by
 have hk:prog.keyType 164=true:=by kernel_rfl
 have hc:prog.cellsOf 164=2:=by kernel_rfl
 have hci:prog.cellsOf 3=1:=by kernel_rfl
 have h0:1<prog.types.size:=of_decide_eq_true (by kernel_rfl)
 obtain⟨m,hm⟩:∃ m,prog.types.size=m+1:=⟨prog.types.size-1,by omega⟩
 have hwa:=zst ha;have hwb:=zst hb
 have hf:(zoo a b).formed prog 164=true:=by simp[zoo,Value.formed,underlying164,hc]
 unfold keyOf zhb;rw[underlying164];simp only;rw[if_pos (by rw[hk,hf];rfl),hm];simp[zoo,Value.cells,Program.keyLits,underlying164,underlying3,hc,hci,hwa,hwb];refine⟨[[.int .i64 a],[.int .i64 b]],?_,rfl⟩;rw[show List.range 2=[0,1] from rfl];simp[hwa,hwb]
theorem zp8{a b c d:Int}(ha:zbh a)(hb:zbh b)(hc:zbh c)(hd:zbh d)(h:zhb a b=zhb c d):a=c∧b=d:=by
 have h2:=zin hc hd;rw[← h] at h2;have h1:=zjh.inj (zin ha hb) h2;simp[zoo] at h1;exact h1
theorem zh2:∀ (xs acc:List Lit),(xs.foldl Maps.addKey acc).length≤acc.length+xs.length
 | [],acc=>by simp
 | x::xs,acc=>by
  have h:=zh2 xs (Maps.addKey acc x)
  have h2:(Maps.addKey acc x).length≤acc.length+1:=by
   unfold Maps.addKey
   split<;>simp
  simp only[List.foldl_cons,List.length_cons];omega
theorem zrg{a b:Lit}(ha:WideAt.IsKeyLit a):a.sameKey b=true↔a=b:=by
 constructor
 ·intro h
  by_cases e:a=b
  ·exact e
  ·rw[Maps.sameKey_ne e] at h
   cases h
 ·rintro rfl
  exact WideAt.sameKey_self ha
theorem zev:∀ (xs acc:List Lit),(∀ x∈xs,WideAt.IsKeyLit x)→(∀ x∈acc,WideAt.IsKeyLit x)→acc.Nodup→((xs.foldl Maps.addKey acc).length=acc.length+xs.length↔(acc++xs).Nodup)
 | [],acc,_,_,hn=>by simp[hn]
 | x::xs,acc,hx,ha,hn=>by
  have hxx:=hx x (by simp)
  by_cases hm:x∈acc
  ·have h1:Maps.addKey acc x=acc:=by
    unfold Maps.addKey;rw[if_pos];rw[List.any_eq_true];exact⟨x,hm,WideAt.sameKey_self hxx⟩
   have h2:=zh2 xs acc;simp only[List.foldl_cons,List.length_cons,h1]
   constructor
   ·intro h;omega
   ·intro h
    exact absurd hm (fun hm=>(List.nodup_append.1 h).2.2 x hm x (by simp) rfl)
  ·have h1:Maps.addKey acc x=acc++[x]∨Maps.addKey acc x=x::acc:=by
    unfold Maps.addKey;rw[if_neg]
    ·first | exact .inl rfl | exact .inr rfl
    ·rw[List.any_eq_true]
     rintro⟨y,hy,h⟩;rw[zrg (ha y hy)] at h;exact hm (h▸hy)
   rcases h1 with h1 | h1
   ·have:=zev xs (acc++[x]) (fun y hy=>hx y (List.mem_cons_of_mem _ hy)) (fun y hy=>by
     rcases List.mem_append.1 hy with h | h
     ·exact ha y h
     ·rw[List.mem_singleton] at h;rw[h];exact hxx) (by
     rw[List.nodup_append]
     exact⟨hn,by simp,fun a ha b hb=>by rw[List.mem_singleton] at hb;rw[hb];exact fun e=>hm (e▸ha)⟩)
    simp only[List.foldl_cons,List.length_cons,h1];rw[List.append_assoc,q8_] at this;simp only[List.length_singleton,List.singleton_append] at this;rw[← this];omega
   ·have:=zev xs (x::acc) (fun y hy=>hx y (List.mem_cons_of_mem _ hy)) (fun y hy=>by
     rcases List.mem_cons.1 hy with h | h
     ·rw[h];exact hxx
     ·exact ha y h) (by rw[List.nodup_cons];exact⟨hm,hn⟩)
    simp only[List.foldl_cons,List.length_cons,h1];rw[List.length_cons] at this;have hp:(acc++x::xs).Nodup↔(x::acc++xs).Nodup:=List.Perm.nodup_iff List.perm_middle;rw[hp, ← this];omega
theorem zli(u:DataW Unit)(xs:List Lit)(h:∀ x∈xs,WideAt.IsKeyLit x):Maps.size (Maps.setOf u xs)=xs.length↔xs.Nodup:=by
 rw[Maps.size_setOf u xs h];have:=zev xs [] h (fun _ h=>by cases h) List.nodup_nil;simpa using this
def zrD(x:Int):Lit:=.int .i64 x
theorem zgF{α β:Type}{f:α→β}:∀ {l:List α},(∀ a∈l,∀ b∈l,f a=f b→a=b)→((l.map f).Nodup↔l.Nodup)
 | [],_=>by simp
 | a::l,h=>by
  rw[List.map_cons,List.nodup_cons,List.nodup_cons,zgF (fun x hx y hy=>h x (List.mem_cons_of_mem _ hx) y (List.mem_cons_of_mem _ hy))]
  have:f a∈l.map f↔a∈l:=by
   rw[List.mem_map]
   constructor
   ·rintro⟨b,hb,e⟩
    rw[h a (by simp) b (List.mem_cons_of_mem _ hb) e.symm];exact hb
   ·exact fun ha=>⟨a,ha,rfl⟩
  rw[this]
def zhg(w:World)(b:Nat)(l:List Int):Prop:=w.ownsMap prog 3 unitElem b l.length (Maps.setOf (.agg []) (l.map zrD):DataW Unit)
def zj5(w:World)(b:Nat)(l:List (Int×Int)):Prop:=w.ownsMap prog 164 unitElem b l.length (Maps.setOf (.agg []) (l.map fun p=>zhb p.1 p.2):DataW Unit)
theorem zhz{k:TypeId}{R:Value→Option (DataW Unit×List MemPlace)}{w w':World}{F:Nat→Prop}{b n:Nat}{D:DataW Unit}(h:w.ownsMap prog k R b n D)(f:Fr F w w')(hn:¬ F b):w'.ownsMap prog k R b n D:=by
 have hlt:=h.lt;obtain⟨es,clock,hb,r⟩:=h;exact⟨es,clock,(f.block b hlt hn).trans hb,r⟩
theorem zhg.made(w:World):zhg (w.alloc (.map #[] 0)) w.heap.size []:=World.ownsMap_made _ _ _ _
theorem zj5.made(w:World):zj5 (w.alloc (.map #[] 0)) w.heap.size []:=World.ownsMap_made _ _ _ _
theorem zhg.fr{w w':World}{F:Nat→Prop}{b:Nat}{l:List Int}(h:zhg w b l)(f:Fr F w w')(hn:¬ F b):zhg w' b l:=zhz h f hn
theorem zj5.fr{w w':World}{F:Nat→Prop}{b:Nat}{l:List (Int×Int)}(h:zj5 w b l)(f:Fr F w w')(hn:¬ F b):zj5 w' b l:=zhz h f hn
theorem zhg.snoc{w:World}{b:Nat}{l:List Int}{x:Int}(h:w.ownsMap prog 3 unitElem b (l.length+1) ((Maps.setOf (.agg []) (l.map zrD):DataW Unit).put (zrD x) (.agg []))):zhg w b (l++[x]):=by
 unfold zhg;rw[List.map_append,List.map_singleton,Maps.setOf_snoc,q8_];exact h
theorem zj5.snoc{w:World}{b:Nat}{l:List (Int×Int)}{x:Int×Int}(h:w.ownsMap prog 164 unitElem b (l.length+1) ((Maps.setOf (.agg []) (l.map fun p=>zhb p.1 p.2):DataW Unit).put (zhb x.1 x.2) (.agg []))):zj5 w b (l++[x]):=by
 unfold zj5;rw[List.map_append,List.map_singleton,Maps.setOf_snoc,q8_];exact h
theorem zhg.len{w:World}{b:Nat}{l:List Int}(h:zhg w b l)(hl:∀ x∈l,zbh x):∃ s:Nat,(s=l.length↔l.Nodup)∧∀ ty,(Builtin.len_ #[160] ty #[.map (some b)]).run prog w=.ok (.int .i64 s) w:=by
 refine⟨_,?_,fun ty=>World.ownsMap.len h underlying160 ty⟩
 have hk:∀ x∈l.map zrD,WideAt.IsKeyLit x:=fun x hx=>by
  obtain⟨y,hy,rfl⟩:=List.mem_map.1 hx;exact trivial
 rw[← zgF (f:=zrD) (fun a _ b _ e=>by unfold zrD at e;cases e;rfl), ← zli _ _ hk,List.length_map]
theorem zj5.len{w:World}{b:Nat}{l:List (Int×Int)}(h:zj5 w b l)(hl:∀ x∈l,zbh x.1∧zbh x.2):∃ s:Nat,(s=l.length↔l.Nodup)∧∀ ty,(Builtin.len_ #[161] ty #[.map (some b)]).run prog w=.ok (.int .i64 s) w:=by
 refine⟨_,?_,fun ty=>World.ownsMap.len h underlying161 ty⟩
 have hk:∀ x∈l.map (fun p=>zhb p.1 p.2),WideAt.IsKeyLit x:=fun x hx=>by
  obtain⟨y,hy,rfl⟩:=List.mem_map.1 hx;exact trivial
 rw[← zgF (f:=fun p:Int×Int=>zhb p.1 p.2) (fun a ha b hb e=>by
  obtain⟨h1,h2⟩:=zp8 (hl a ha).1 (hl a ha).2 (hl b hb).1 (hl b hb).2 e
  exact Prod.ext h1 h2), ← zli _ _ hk,List.length_map]
end Go.Proofs.YtjhhodndlkpmhaaGreatDoor
