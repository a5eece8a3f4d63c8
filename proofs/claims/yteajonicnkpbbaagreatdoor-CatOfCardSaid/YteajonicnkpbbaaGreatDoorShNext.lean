/- Walks of table's Shard and Clear. -/
import Derived.Test.YteajonicnkpbbaaGreatDoorTiersSame
import Derived.Test.YteajonicnkpbbaaGreatDoorPlanBuild
namespace Go.Proofs.YteajonicnkpbbaaGreatDoor
set_option linter.all false
set_option maxHeartbeats 8000000
set_option maxRecDepth 100000
open Go.RowKit Tryz
def inS(k M:Int)(r:zaf):Bool:=decide (za3 r.name M=k)
def zkr(k M:Int)(r:zaf):Bool:= !decide (za3 r.name M=k)
theorem zkM(r:zaf)(hn:r.name.size≤maxLen)(k M:Int)(p1 p2:Nat)(W:World)(h1:W.cell? ⟨p1,0,none⟩=some (.int .i64 M))(h2:W.cell? ⟨p2,0,none⟩=some (.int .i64 k)):
  Calls prog 199 #[r.val,.pointer (some ⟨p1,0,none⟩),.pointer (some ⟨p2,0,none⟩)] W fun r' w'=>r'=.returned (.bool (zkr k M r))∧Below W.heap.size W w':=by
 obtain⟨nm,st,⟨c,h,lo,m,x⟩⟩:=r;unfold zaf.val zkr;simp only at hn ⊢
 obtain⟨W0,hW0⟩:∃ W0,W0=W.alloc (.cells #[.string nm,.int .i64 st,.int .i64 c,.int .i64 h,.int .u64 lo,.int .i64 m,.int .i64 x] 198):=⟨_,rfl⟩
 have HW0:=q0_ hW0
 have FB:Hid (Fr (fun _=>False) W W0):=by show Fr _ _ _;rw[hW0];exact Fr.none_alloc _ _
 have B0:Hid (Blk W0 W.heap.size 198 #[.string nm,.int .i64 st,.int .i64 c,.int .i64 h,.int .u64 lo,.int .i64 m,.int .i64 x]):=by show Blk _ _ _ _;rw[hW0];exact Blk.new _ _ _
 have HC:Hid (∀ W1,Fr (fun _=>False) W0 W1→W1.cell? ⟨W.heap.size,0,none⟩=some (.string nm)∧W1.cell? ⟨p1,0,none⟩=some (.int .i64 M)∧W1.cell? ⟨p2,0,none⟩=some (.int .i64 k)):=fun W1 f=>
  ⟨(B0.out.fr f (fun h=>h)).cell 0,(FB.out.trans f q4_).cell h1 (fun h=>h),(FB.out.trans f q4_).cell h2 (fun h=>h)⟩
 have HSh:Hid (∀ W,Calls prog 186 #[.string nm,.int .i64 M] W fun r w'=>r=.returned (.int .i64 (za3 nm M))∧W=w'):=fun W=>zeW nm hn M W;clear h1 h2 hW0
 obtain⟨sv,hsv⟩:∃ v,za3 nm M=v:=⟨_,rfl⟩
 rw[hsv] at HSh ⊢;clear hsv
 by_cases hk:sv=k
 ·subst hk
  have hd:(sv != sv)=false:=by simp
  rw[qa_ rfl];go_enter func199,ntmps199;go_wp2_with fail;rw[← HW0.out];refine wp_region_held_drew (S:=fun W1=>Fr (fun _=>False) W0 W1) (by kernel_rfl) ((Fr.refl _ W0).drew) (fun hY_=>?_);refine tq 4 [0,1,2,4] ?_
  iterate 3 refine sf HC.out ?_
  refine sf HC.out ?_
  try simp only[Act.put,sA,sB,sC]
  refine sz ?_
  try simp only[Act.put,sA,sB,sC]
  refine rl 3 rfl (fun K hK=>?_);go_simp
  go_wp2_with (go_at_call 186;refine (HSh.out _).mono ?_;rintro r w2 ⟨rfl,rfl⟩)
  refine hK.out _ _ (hY_) (fun hY_=>?_);clear hK K;refine tq 2 [5,6] ?_;refine sf HC.out ?_;refine sf HC.out ?_
  try simp only[Act.put,sA,sB,sC]
  refine sz ?_
  try simp only[Act.put,sA,sB,sC]
  refine wpAnyH_done (by kernel_rfl) ?_ _;have Fl:=q0_ hY_;clear hY_;go_wp2;go_ret;exact⟨rfl,(FB.out.trans Fl.out q4_).below q4_⟩
 ·have hd:(sv != k)=true:=by simpa using hk
  have hd2:(sv==k)=false:=by simpa using hk
  rw[q9_ hk];go_enter func199,ntmps199;go_wp2_with fail;rw[← HW0.out];refine wp_region_held_drew (S:=fun W1=>Fr (fun _=>False) W0 W1) (by kernel_rfl) ((Fr.refl _ W0).drew) (fun hY_=>?_);refine tq 4 [0,1,2,4] ?_
  iterate 3 refine sf HC.out ?_
  refine sf HC.out ?_
  try simp only[Act.put,sA,sB,sC]
  refine sz ?_
  try simp only[Act.put,sA,sB,sC]
  refine rl 3 rfl (fun K hK=>?_);go_simp
  go_wp2_with (go_at_call 186;refine (HSh.out _).mono ?_;rintro r w2 ⟨rfl,rfl⟩)
  refine hK.out _ _ (hY_) (fun hY_=>?_);clear hK K;refine tq 2 [5,6] ?_;refine sf HC.out ?_;refine sf HC.out ?_
  try simp only[Act.put,sA,sB,sC]
  refine sz ?_
  try simp only[Act.put,sA,sB,sC]
  refine wpAnyH_done (by kernel_rfl) ?_ _;have Fl:=q0_ hY_;clear hY_;go_wp2;go_ret;exact⟨rfl,(FB.out.trans Fl.out q4_).below q4_⟩
theorem zjd(g:Nat)(every:Int)(b:Nat)(l:List zaf)(k M:Int)(w:World)(h:zar w g every b l)(hl:l.length≤1000000000)(hwf:∀ r∈l,r.wf):
  Calls prog 160 #[.pointer (some ⟨g,0,none⟩),.int .i64 k,.int .i64 M] w fun r w'=>(∃ A c,r=.returned (.slice A (zao (zkr k M) l).length c)∧w'.ownsRow w.heap.size 198 7 (.slice A (zao (zkr k M) l).length c) (zao (zkr k M) l).length (zaA (zao (zkr k M) l)))∧Below w.heap.size w w':=by
 obtain⟨W1,hW1⟩:∃ W1,W1=(w.alloc (.cells #[.int .i64 k] 3)).alloc (.cells #[.int .i64 M] 3):=⟨_,rfl⟩
 have HW1:=q0_ hW1
 have T1:zar W1 g every b l:=by rw[hW1];exact (h.fr0 (Fr.none_alloc _ _)).fr0 (Fr.none_alloc _ _)
 have B1:Blk W1 w.heap.size 3 #[.int .i64 k]:=by rw[hW1];exact (Blk.new _ _ _).alloc _
 have B2:Blk W1 (w.heap.size+1) 3 #[.int .i64 M]:=by rw[hW1];exact Blk.new' (by simp) _ _
 have O1:Hid (Own w W1 (fun _=>False)):=by show Own _ _ _;rw[hW1];exact ((Own.start w).skip (Fr.none_alloc _ _)).skip (Fr.none_alloc _ _)
 have HA:=q0_ (zcd g every b l W1 T1 hl);have HB1:=q0_ B1;have HB2:=q0_ B2;clear h hW1 T1 B1 B2;have eg:∀ args w,(callFunc 199 args).run prog w=.ok (.enter 199 args) w:=enters_of func199 (by kernel_rfl) rfl;go_enter func160,ntmps160;go_wp2_with fail;rw[← HW1.out];refine HA.out.mono ?_;rintro r w5 ⟨⟨A,c,rfl,ho5⟩,b5⟩;have HB15:=HB1.out.below b5;have HB25:=HB2.out.below b5;have hge:∀ j,zay (.slice A l.length c) j→W1.heap.size≤j:=fun j hj=>(ho5.lt j hj).1
 have n1:¬ zay (.slice A l.length c) w.heap.size:=fun hj=>by have:=hge _ hj;have:=HB1.out.lt;omega
 have n2:¬ zay (.slice A l.length c) (w.heap.size+1):=fun hj=>by have:=hge _ hj;have:=HB2.out.lt;omega
 have HD:=q0_ (zeu 199 #[.pointer (some ⟨w.heap.size+1,0,none⟩),.pointer (some ⟨w.heap.size,0,none⟩)] (zkr k M) l A l.length c W1.heap.size w5 ho5 hl eg (fun W hf x hx=>zkM x (hwf x hx).2.2 k M _ _ W ((HB25.fr hf n2).cell 0) ((HB15.fr hf n1).cell 0)));have O5:=q0_ (O1.out.below b5);have Hge:=q0_ hge;have hs1:=O1.out.bel.size;clear ho5 HB15 HB25 hge n1 n2 HB1 HB2 b5;go_wp2_with fail;refine HD.out.mono ?_;rintro r w6 ⟨⟨rfl,ho6⟩,f6⟩;have Ho6:=q0_ (zaY ho6 hs1);have O6:=q0_ ((O5.out.also (G:=zay (.slice A l.length c)) (fun j hj=>by have:=Hge.out j hj;omega)).fr f6);clear ho6 f6;go_wp2;go_ret;exact⟨⟨A,c,rfl,Ho6.out⟩,O6.out.bel⟩
theorem zlp(n:ByteArray)(hn:n.size≤maxLen)(s:Int)(k M:Int)(p1 p2:Nat)(W:World)(h1:W.cell? ⟨p1,0,none⟩=some (.int .i64 M))(h2:W.cell? ⟨p2,0,none⟩=some (.int .i64 k)):
  Calls prog 196 #[.agg #[.string n,.int .i64 s],.pointer (some ⟨p1,0,none⟩),.pointer (some ⟨p2,0,none⟩)] W fun r' w'=>r'=.returned (.bool (decide (za3 n M=k)))∧Below W.heap.size W w':=by
 obtain⟨W0,hW0⟩:∃ W0,W0=W.alloc (.cells #[.string n,.int .i64 s] 247):=⟨_,rfl⟩
 have HW0:=q0_ hW0
 have FB:Hid (Fr (fun _=>False) W W0):=by show Fr _ _ _;rw[hW0];exact Fr.none_alloc _ _
 have B0:Hid (Blk W0 W.heap.size 247 #[.string n,.int .i64 s]):=by show Blk _ _ _ _;rw[hW0];exact Blk.new _ _ _
 have HC:Hid (∀ W1,Fr (fun _=>False) W0 W1→W1.cell? ⟨W.heap.size,0,none⟩=some (.string n)∧W1.cell? ⟨p1,0,none⟩=some (.int .i64 M)∧W1.cell? ⟨p2,0,none⟩=some (.int .i64 k)):=fun W1 f=>
  ⟨(B0.out.fr f (fun h=>h)).cell 0,(FB.out.trans f q4_).cell h1 (fun h=>h),(FB.out.trans f q4_).cell h2 (fun h=>h)⟩
 have HSh:Hid (∀ W,Calls prog 186 #[.string n,.int .i64 M] W fun r w'=>r=.returned (.int .i64 (za3 n M))∧W=w'):=fun W=>zeW n hn M W;clear h1 h2 hW0
 obtain⟨sv,hsv⟩:∃ v,za3 n M=v:=⟨_,rfl⟩
 rw[hsv] at HSh ⊢;clear hsv
 by_cases hk:sv=k
 ·subst hk
  have hd:(sv==sv)=true:=by simp
  rw[qa_ rfl];go_enter func196,ntmps196;go_wp2_with fail;rw[← HW0.out];refine wp_region_held_drew (S:=fun W1=>Fr (fun _=>False) W0 W1) (by kernel_rfl) ((Fr.refl _ W0).drew) (fun hY_=>?_);refine tq 4 [0,1,2,4] ?_
  iterate 3 refine sf HC.out ?_
  refine sf HC.out ?_
  try simp only[Act.put,sA,sB,sC]
  refine sz ?_
  try simp only[Act.put,sA,sB,sC]
  refine rl 3 rfl (fun K hK=>?_);go_simp
  go_wp2_with (go_at_call 186;refine (HSh.out _).mono ?_;rintro r w2 ⟨rfl,rfl⟩)
  refine hK.out _ _ (hY_) (fun hY_=>?_);clear hK K;refine tq 2 [5,6] ?_;refine sf HC.out ?_;refine sf HC.out ?_
  try simp only[Act.put,sA,sB,sC]
  refine sz ?_
  try simp only[Act.put,sA,sB,sC]
  refine wpAnyH_done (by kernel_rfl) ?_ _;have Fl:=q0_ hY_;clear hY_;go_wp2;go_ret;exact⟨rfl,(FB.out.trans Fl.out q4_).below q4_⟩
 ·have hd:(sv==k)=false:=by simpa using hk
  have hd2:(sv==k)=false:=by simpa using hk
  rw[q9_ hk];go_enter func196,ntmps196;go_wp2_with fail;rw[← HW0.out];refine wp_region_held_drew (S:=fun W1=>Fr (fun _=>False) W0 W1) (by kernel_rfl) ((Fr.refl _ W0).drew) (fun hY_=>?_);refine tq 4 [0,1,2,4] ?_
  iterate 3 refine sf HC.out ?_
  refine sf HC.out ?_
  try simp only[Act.put,sA,sB,sC]
  refine sz ?_
  try simp only[Act.put,sA,sB,sC]
  refine rl 3 rfl (fun K hK=>?_);go_simp
  go_wp2_with (go_at_call 186;refine (HSh.out _).mono ?_;rintro r w2 ⟨rfl,rfl⟩)
  refine hK.out _ _ (hY_) (fun hY_=>?_);clear hK K;refine tq 2 [5,6] ?_;refine sf HC.out ?_;refine sf HC.out ?_
  try simp only[Act.put,sA,sB,sC]
  refine sz ?_
  try simp only[Act.put,sA,sB,sC]
  refine wpAnyH_done (by kernel_rfl) ?_ _;have Fl:=q0_ hY_;clear hY_;go_wp2;go_ret;exact⟨rfl,(FB.out.trans Fl.out q4_).below q4_⟩
theorem zkb(n:ByteArray)(s:Int)(a:zaS)(k M:Int)(p q q2:Nat)(W:World)(hp:W.cell? ⟨p,0,none⟩=some (.func (.func 196) #[] #[.pointer (some ⟨q,0,none⟩),.pointer (some ⟨q2,0,none⟩)]))(hn:n.size≤maxLen)(hc:W.cell? ⟨q,0,none⟩=some (.int .i64 M))(hc2:W.cell? ⟨q2,0,none⟩=some (.int .i64 k)):
  Calls prog 223 #[.agg #[.string n,.int .i64 s],.agg #[.int .i64 a.count,.int .i64 a.hi,.int .u64 a.lo,.int .i64 a.min,.int .i64 a.max],.pointer (some ⟨p,0,none⟩)] W fun r w'=>r=.returned (.bool (decide (za3 n M=k)))∧Below W.heap.size W w':=by
 have c1:=fun o1 o2=>(Fr.none_alloc (W.alloc o1) o2).cell ((Fr.none_alloc W o1).cell hp (fun h=>h)) (fun h=>h);have HD:Hid (∀ W',Fr (fun _=>False) W W'→Calls prog 196 #[.agg #[.string n,.int .i64 s],.pointer (some ⟨q,0,none⟩),.pointer (some ⟨q2,0,none⟩)] W' fun r w''=>r=.returned (.bool (decide (za3 n M=k)))∧Below W'.heap.size W' w''):=fun W' f=>zlp n hn s k M q q2 W' (f.cell hc (fun h=>h)) (f.cell hc2 (fun h=>h));have F2:Hid (∀ o1 o2,Fr (fun _=>False) W ((W.alloc o1).alloc o2)):=fun o1 o2=>(Fr.none_alloc W o1).trans (Fr.none_alloc _ o2) q4_;clear hp hc hc2;go_enter func223,ntmps223;go_wp2_with fail;refine (HD.out _ (F2.out _ _)).mono ?_;rintro r w5 ⟨rfl,b5⟩;have B5:=q0_ (((F2.out _ _).trans (Fr.b0 b5) q4_).below q4_);clear b5;go_wp2;go_ret;exact⟨rfl,B5.out⟩
theorem zhh(g:Nat)(every:Int)(b:Nat)(l:List zaf)(k M:Int)(q q2:Nat)(w:World)(h:zar w g every b l)(hq:w.cell? ⟨q,0,none⟩=some (.int .i64 M))(hq2:w.cell? ⟨q2,0,none⟩=some (.int .i64 k))(hwf:∀ r∈l,r.wf)(hl:l.length≤1000000000):
  Calls prog 190 #[.pointer (some ⟨g,0,none⟩),.func (.func 196) #[] #[.pointer (some ⟨q,0,none⟩),.pointer (some ⟨q2,0,none⟩)]] w fun r w'=>r=.returned (.int .i64 ((l.length:Int)-((zao (inS k M) l).length:Nat)))∧zar w' g every b (zao (inS k M) l)∧Fr (fun j=>j=b) w w':=by
 obtain⟨es,ck,hbm⟩:=h.own.isMap;have hqb:=zcT hq hbm;have hqb2:=zcT hq2 hbm
 obtain⟨W1,hW1⟩:∃ W1,W1=w.alloc (.cells #[.func (.func 196) #[] #[.pointer (some ⟨q,0,none⟩),.pointer (some ⟨q2,0,none⟩)]] 257):=⟨_,rfl⟩
 have HW1:=q0_ hW1
 have T1:Hid (zar W1 g every b l):=by rw[hW1];exact h.fr0 (Fr.none_alloc _ _)
 have P1:Hid (W1.cell? ⟨w.heap.size,0,none⟩=some (.func (.func 196) #[] #[.pointer (some ⟨q,0,none⟩),.pointer (some ⟨q2,0,none⟩)])):=by show _=_;rw[hW1];exact (Blk.new _ _ _).cell 0
 have Q1:Hid (W1.cell? ⟨q,0,none⟩=some (.int .i64 M)):=by show _=_;rw[hW1];exact (Fr.none_alloc w _).cell hq (fun h=>h)
 have Q2:Hid (W1.cell? ⟨q2,0,none⟩=some (.int .i64 k)):=by show _=_;rw[hW1];exact (Fr.none_alloc w _).cell hq2 (fun h=>h)
 have F1:Hid (Fr (fun j=>j=b) w W1):=by show Fr _ _ _;rw[hW1];exact (Fr.none_alloc w _).mono q4_
 have hwb:w.heap.size≠b:=fun e=>by have:=h.own.lt;omega
 have HN:=q0_ (zcJ g every b W1 T1.out.blk);have hgb:=h.ne;have c1:=T1.out.blk.cell 1;simp only[q1_,q2_,q3_] at c1;have hlen:=T1.out.own.len;have eg:∀ args w,(callFunc 223 args).run prog w=.ok (.enter 223 args) w:=enters_of func223 (by kernel_rfl) rfl;have HD:=q0_ (zg6 223 #[.pointer (some ⟨w.heap.size,0,none⟩)] (inS k M) (fun x y hk=>by unfold inS;rw[hk.1]) b l W1 T1.out.own eg (fun W hf x hx=>zkb x.name x.start x.agg k M w.heap.size q q2 W (hf.cell P1.out hwb) hx.2.2 (hf.cell Q1.out hqb) (hf.cell Q2.out hqb2)));clear h hq hq2 hbm hW1;go_enter func190,ntmps190;go_wp2_with fail;rw[← HW1.out];refine HN.out.mono ?_;rintro r w' ⟨rfl,rfl⟩;go_wp2_with fail;refine HD.out.mono ?_;rintro r w5 ⟨rfl,ho5,f5⟩;have T5:=q0_ (zar.mk (T1.out.blk.fr f5 hgb) ho5);have F5:=q0_ (F1.out.trans f5 (fun i hi=>.inl hi));have hle:(zao (inS k M) l).length≤l.length:=List.length_filter_le _ _
 obtain⟨m,hm⟩:∃ m,(zao (inS k M) l).length=m:=⟨_,rfl⟩
 have hlen5:=T5.out.own.len;rw[hm] at hlen5 hle
 have hw:IntKind.i64.wrap ((l.length:Int)-(m:Int))=(l.length:Int)-(m:Int):=by simp[IntKind.wrap,IntKind.signed,IntKind.bits];omega
 have c5:=T5.out.blk.cell 1;simp only[q1_,q2_,q3_] at c5;clear ho5 f5 c1 hlen;go_wp2;go_ret;rw[hm];exact⟨rfl,T5.out,F5.out⟩
theorem zjf(g:Nat)(every:Int)(b:Nat)(l:List zaf)(k M:Int)(w:World)(h:zar w g every b l)(hwf:∀ r∈l,r.wf)(hl:l.length≤1000000000):
  Calls prog 158 #[.pointer (some ⟨g,0,none⟩),.int .i64 k,.int .i64 M] w fun r w'=>r=.returned (.int .i64 ((l.length:Int)-((zao (inS k M) l).length:Nat)))∧zar w' g every b (zao (inS k M) l)∧Fr (fun j=>j=b) w w':=by
 obtain⟨W1,hW1⟩:∃ W1,W1=(w.alloc (.cells #[.int .i64 k] 3)).alloc (.cells #[.int .i64 M] 3):=⟨_,rfl⟩
 have HW1:=q0_ hW1
 have T1:Hid (zar W1 g every b l):=by rw[hW1];exact (h.fr0 (Fr.none_alloc _ _)).fr0 (Fr.none_alloc _ _)
 have Q1:W1.cell? ⟨w.heap.size,0,none⟩=some (.int .i64 k):=by rw[hW1];exact ((Blk.new _ _ _).alloc _).cell 0
 have Q2:W1.cell? ⟨w.heap.size+1,0,none⟩=some (.int .i64 M):=by rw[hW1];exact (Blk.new' (by simp) _ _).cell 0
 have F1:Hid (Fr (fun j=>j=b) w W1):=by show Fr _ _ _;rw[hW1];exact ((Fr.none_alloc w _).trans (Fr.none_alloc _ _) q4_).mono q4_
 have HD:=q0_ (zhh g every b l k M (w.heap.size+1) w.heap.size W1 T1.out Q2 Q1 hwf hl);clear h hW1 Q1 Q2;go_enter func158,ntmps158;go_wp2_with fail;rw[← HW1.out];refine HD.out.mono ?_;rintro r w5 ⟨rfl,t5,f5⟩;have T5:=q0_ t5;have F5:=q0_ (F1.out.trans f5 (fun i hi=>.inl hi));clear t5 f5;go_wp2;go_ret;exact⟨rfl,T5.out,F5.out⟩
theorem zgq(t base:Nat)(X:ShX)(q:(Int×Int×Int)×Bool)(w:World)(h:zfk w t base X)(hdone:i64 X.done)(hs8:∀ t∈X.tiers,t.shards≤8)(hn9:X.tiers.length≤1000)(hq:atV X.tiers X.done=q):
  Calls prog 157 #[.pointer (some ⟨t,0,none⟩)] w fun r w'=>r=.returned (.tuple #[zaM q.1,.bool q.2])∧Below w.heap.size w w':=by
 obtain⟨A,c,B,d,T,ct,tb,hi⟩:=h
 obtain⟨n,hn0⟩:∃ n,X.tiers.length=n:=⟨_,rfl⟩
 obtain⟨m,hm0⟩:∃ m,X.srcs.length=m:=⟨_,rfl⟩
 obtain⟨⟨k1,k2,k3⟩,kb⟩:=q
 have HAt:Hid (∀ W,Fr (fun _=>False) w W→Calls prog 195 #[.agg #[.string X.name,.slice A n c,.slice B m d],.int .i64 X.done] W fun r w'=>r=.returned (.tuple #[.agg #[.int .i64 k1,.int .i64 k2,.int .i64 k3],.bool kb])∧Below W.heap.size W w'):=fun W f=>by
  have h1:=(zal (hi.fr0 f).tiers).2.2.1;have:=zry X.name X.tiers A X.tiers.length c B X.srcs.length d X.done hdone W h1 (by omega) hs8;rw[hq,hn0,hm0] at this;exact this
 have F1:Hid (Fr (fun _=>False) w (w.alloc (.cells #[.int .i64 0,.int .i64 0,.int .i64 0] 74))):=Fr.none_alloc _ _
 obtain⟨W1,hW1⟩:∃ W1,W1=w.alloc (.cells #[.int .i64 0,.int .i64 0,.int .i64 0] 74):=⟨_,rfl⟩
 have HW1:=q0_ hW1;rw[← hW1] at F1
 have B1:Hid (Blk W1 w.heap.size 74 #[.int .i64 0,.int .i64 0,.int .i64 0]):=by show Blk _ _ _ _;rw[hW1];exact Blk.new _ _ _
 have htw:=hi.blk.lt
 have HC:Hid (∀ W,Fr (fun j=>j=w.heap.size) W1 W→W.cell? ⟨t,0,none⟩=some (.string X.name)∧W.cell? ⟨t,1,none⟩=some (.slice A n c)∧W.cell? ⟨t,2,none⟩=some (.slice B m d)∧W.cell? ⟨t,4,none⟩=some (.int .i64 X.done)):=fun W f=>by
  obtain⟨c0,c1,c2,c3,c4,c5⟩:=hi.cells (F1.out.trans f (fun i hi=>.inr (Nat.le_of_eq hi.symm))) (fun h=>h);rw[hn0] at c1;rw[hm0] at c2;exact⟨c0,c1,c2,c4⟩
 clear hi hW1 hq;go_enter func157,ntmps157;go_wp2_with fail;rw[← HW1.out];refine wp_region_held_drew (S:=fun W=>Fr (fun j=>j=w.heap.size) W1 W) (by kernel_rfl) ((Fr.refl _ W1).drew) (fun hY_=>?_);refine tq 8 [0,1,2,3,4,5,6,7] ?_
 iterate 7 refine sf HC.out ?_
 refine sf HC.out ?_
 try simp only[Act.put,sA,sB,sC]
 refine sz ?_
 try simp only[Act.put,sA,sB,sC]
 refine rl 8 rfl (fun K hK=>?_);go_simp
 go_wp2_with (go_at_call 195;refine (HAt.out _ (F1.out.trans hY_ (fun i hi=>.inr (Nat.le_of_eq hi.symm)))).mono ?_;rintro r wa ⟨rfl,ba⟩)
 have Bq:=q0_ (B1.out.drew.below ba);have z0:=Bq.out.frozen 0;have z1:=Bq.out.frozen 1;have z2:=Bq.out.frozen 2;have v0:=Bq.out.cell 0;have v1:=Bq.out.cell 1;have v2:=Bq.out.cell 2;simp only[q1_,q2_,q3_] at v0 v1 v2;refine hK.out _ _ (hY_.trans (Fr.b0 ba) q4_) (fun hY_=>?_);clear hK K;refine tq 2 [9,10] ?_;refine sf HC.out ?_;refine sf HC.out ?_
 try simp only[Act.put,sA,sB,sC]
 refine sz ?_
 try simp only[Act.put,sA,sB,sC]
 refine rl 11 rfl (fun K hK=>?_);go_simp;refine hK.out _ _ (hY_.set3 (.inl rfl) _ _ _) (fun hY_=>?_);clear hK K;refine tl 12 ?v11 rfl ?q11 ?r11
 case q11=>intro W hSw;(try obtain⟨q0,q1,q2,q3⟩:=HC.out W hSw);go_simp;try rfl
 try simp only[Act.put,sA,sB,sC]
 refine wpAnyH_done (by kernel_rfl) ?_ _;have Fl:=q0_ ((F1.out.trans hY_ (fun i hi=>.inr (Nat.le_of_eq hi.symm))).below q4_);have Be:=q0_ (Bq.out.set3 (a:=.int .i64 k1) (b:=.int .i64 k2) (c:=.int .i64 k3));have y0:=Be.out.cell 0;have y1:=Be.out.cell 1;have y2:=Be.out.cell 2;simp only[q1_,q2_,q3_] at y0 y1 y2;clear hY_ v0 v1 v2 z0 z1 z2 Bq ba;go_wp2;refine bodyPost_ret (v:=.tuple #[zaM (k1,k2,k3),.bool kb]) ?_ rfl ⟨rfl,Fl.out⟩;simp[results,results157,go_sem,zaM,y0,y1,y2]
theorem zmY(r:zaf)(fr:Int)(p:Nat)(W:World)(h1:W.cell? ⟨p,0,none⟩=some (.int .i64 fr)):
  Calls prog 225 #[r.val,.pointer (some ⟨p,0,none⟩)] W fun r' w'=>r'=.returned (.bool (zae fr r))∧Below W.heap.size W w':=by
 obtain⟨nm,st,⟨c,h,lo,m,x⟩⟩:=r;unfold zaf.val zae;simp only;have c1:=fun o=>(Fr.none_alloc W o).cell h1 (fun h=>h);clear h1;go_enter func225,ntmps225;go_wp2;go_ret;exact⟨rfl,(Fr.none_alloc _ _).below q4_⟩
theorem znV(t base:Nat)(X:ShX)(k:Nat)(fr:Int)(w:World)(h:zfk w t base X)(hk:k<X.tiers.length)(hl:∀ m∈X.tabs,m.length≤1000000000):
  Calls prog 201 #[.pointer (some ⟨t,0,none⟩),.int .i64 k,.int .i64 fr] w fun r w'=>(∃ A c,r=.returned (.slice A (zao (zae fr) (X.tabs.getD k [])).length c)∧w'.ownsRow w.heap.size 198 7 (.slice A (zao (zae fr) (X.tabs.getD k [])).length c) (zao (zae fr) (X.tabs.getD k [])).length (zaA (zao (zae fr) (X.tabs.getD k []))))∧Below w.heap.size w w':=by
 obtain⟨A0,c0,B0,d0,T,ct,tb,hi⟩:=h;obtain⟨g,b,x,l,h1,h2,h3,hT⟩:=hi.tabAt hk
 have e:X.tabs.getD k []=l:=by rw[List.getD_eq_getElem?_getD,h3];rfl
 have hll:=hl l (zaa h3);rw[e];obtain⟨ad,rfl,hc⟩:=(zal hi.row).2.2.1.2 (show 0<X.tiers.length by omega);have p0:=hc k _ (zbY h1)
 obtain⟨n,hn⟩:∃ n,X.tiers.length=n:=⟨_,rfl⟩
 have kn:0≤(k:Int)∧(k:Int)<(n:Int):=by omega
 obtain⟨_,_,_,_,_,c5⟩:=hi.cells (Fr.refl (fun _=>False) w) (fun h=>h);rw[hn] at c5
 obtain⟨W1,hW1⟩:∃ W1,W1=w.alloc (.cells #[.int .i64 fr] 3):=⟨_,rfl⟩
 have HW1:=q0_ hW1
 have T1:zar W1 g x.every b l:=by rw[hW1];exact hT.fr0 (Fr.none_alloc _ _)
 have B1:Blk W1 w.heap.size 3 #[.int .i64 fr]:=by rw[hW1];exact Blk.new _ _ _
 have O1:Hid (Own w W1 (fun _=>False)):=by show Own _ _ _;rw[hW1];exact (Own.start w).skip (Fr.none_alloc _ _)
 simp only at p0;have q5:=fun o=>(Fr.none_alloc w o).cell c5 (fun h=>h);have qp:=fun o=>(Fr.none_alloc w o).cell p0 (fun h=>h);have HA:=q0_ (zcd g x.every b l W1 T1 hll);have HB1:=q0_ B1;clear hi hT h1 h2 h3 e hl hc p0 c5 hW1 T1 B1;have eg:∀ args w,(callFunc 225 args).run prog w=.ok (.enter 225 args) w:=enters_of func225 (by kernel_rfl) rfl;go_enter func201,ntmps201;go_wp2_with fail;rw[← HW1.out];refine HA.out.mono ?_;rintro r w5 ⟨⟨A,c,rfl,ho5⟩,b5⟩;have HB15:=HB1.out.below b5;have hge:∀ j,zay (.slice A l.length c) j→W1.heap.size≤j:=fun j hj=>(ho5.lt j hj).1
 have n1:¬ zay (.slice A l.length c) w.heap.size:=fun hj=>by have:=hge _ hj;have:=HB1.out.lt;omega
 have HD:=q0_ (zeu 225 #[.pointer (some ⟨w.heap.size,0,none⟩)] (zae fr) l A l.length c W1.heap.size w5 ho5 hll eg (fun W hf x _=>zmY x fr _ W ((HB15.fr hf n1).cell 0)));have O5:=q0_ (O1.out.below b5);have Hge:=q0_ hge;have hs1:=O1.out.bel.size;clear ho5 HB15 hge n1 HB1 b5;go_wp2_with fail;refine HD.out.mono ?_;rintro r w6 ⟨⟨rfl,ho6⟩,f6⟩;have Ho6:=q0_ (zaY ho6 hs1);have O6:=q0_ ((O5.out.also (G:=zay (.slice A l.length c)) (fun j hj=>by have:=Hge.out j hj;omega)).fr f6);clear ho6 f6;go_wp2;go_ret;exact⟨⟨A,c,rfl,Ho6.out⟩,O6.out.bel⟩
def zi0(X:ShX)(Y:zac)(i:Nat):Bool:=decide (zao (zae (zat Y.now Y.tiers Y.floors i)) (X.tabs.getD i [])=Y.tabs.getD i [])
def zd2(X:ShX)(Y:zac):Bool:=(List.range X.tiers.length).all (zi0 X Y)
theorem zkO{nm2:ByteArray}{lt:List za_}{bs:List Int}(p2:zaO nm2 lt)(t base:Nat)(X:ShX)(u lo:Nat)(Y:zac)(F:Nat→Prop)(cc:Nat)(w:World)(h:zfk w t base X)(hX:X.tiers=lt)(hl:∀ m∈X.tabs,m.length≤1000000)(hY:Tio nm2 lt bs lo w u Y F cc)(hc:cc≤1000000):
  Calls prog 161 #[.pointer (some ⟨t,0,none⟩),.pointer (some ⟨u,0,none⟩)] w fun r w'=>r=.returned (.bool (zd2 X Y))∧Below w.heap.size w w':=by
 have hnow:=hY.good.now;obtain⟨tA,tc,tB,td,hR⟩:=hY.reach
 obtain⟨n,hn⟩:∃ n,lt.length=n:=⟨_,rfl⟩
 obtain⟨mf,hmf⟩:∃ n,bs.length=n:=⟨_,rfl⟩
 have hXn:X.tiers.length=n:=by rw[hX,hn]
 have h5:=p2.five
 have HFr:Hid (∀ W k,Fr (fun _=>False) w W→k<n→Calls prog 110 #[.agg #[.int .i64 Y.now,.string nm2,.slice tA n tc,.slice tB mf td],.int .i64 (k:Nat)] W fun r w'=>r=.returned (.int .i64 (zat Y.now lt bs k))∧Below W.heap.size W w'):=fun W k f hk=>by
  have:=zft p2 (hR.fr0 f) hnow k (by omega);rw[hn,hmf] at this;exact this
 have HSf:Hid (∀ W k fr,Fr (fun _=>False) w W→k<n→Calls prog 201 #[.pointer (some ⟨t,0,none⟩),.int .i64 (k:Nat),.int .i64 fr] W fun r w'=>(∃ A c,r=.returned (.slice A (zao (zae fr) (X.tabs.getD k [])).length c)∧w'.ownsRow W.heap.size 198 7 (.slice A (zao (zae fr) (X.tabs.getD k [])).length c) (zao (zae fr) (X.tabs.getD k [])).length (zaA (zao (zae fr) (X.tabs.getD k []))))∧Below W.heap.size W w'):=fun W k fr f hk=>znV t base X k fr W (h.fr0 f) (by omega) (fun m hm=>by have:=hl m hm;omega);have HRc:Hid (∀ W k,Fr (fun _=>False) w W→k<n→Calls prog 202 #[.pointer (some ⟨u,0,none⟩),.int .i64 (k:Nat)] W fun r w'=>(∃ A c,r=.returned (.slice A (Y.tabs.getD k []).length c)∧w'.ownsRow W.heap.size 198 7 (.slice A (Y.tabs.getD k []).length c) (Y.tabs.getD k []).length (zaA (Y.tabs.getD k [])))∧Below W.heap.size W w'):=fun W k f hk=>zkz (hY.fr0 f) hc k (by omega)
 have HC:Hid (∀ W,Fr (fun _=>False) w W→W.cell? ⟨u,0,none⟩=some (.int .i64 Y.now)∧W.cell? ⟨u,1,none⟩=some (.string nm2)∧W.cell? ⟨u,2,none⟩=some (.slice tA n tc)∧W.cell? ⟨u,3,none⟩=some (.slice tB mf td)):=fun W f=>by
  have h:=hR.fr0 f;have h2:=h.c2;have h3:=h.c3;rw[hn] at h2;rw[hmf] at h3;exact⟨h.c0,h.c1,h2,h3⟩
 have HXl:Hid (∀ k fr,(zao (zae fr) (X.tabs.getD k [])).length≤1000000):=fun k fr=>by
  refine Nat.le_trans (List.length_filter_le _ _) ?_
  rcases zch (L:=X.tabs) k with h3 | h3
  ·exact hl _ h3
  ·rw[h3];exact Nat.zero_le _
 have HYl:Hid (∀ k,(Y.tabs.getD k []).length≤1000000):=fun k=>by
  rcases zch (L:=Y.tabs) k with h3 | h3
  ·have:=hY.good.len _ h3;omega
  ·rw[h3];exact Nat.zero_le _
 have HA1:Hid (∀ k,zi0 X Y k=decide (zao (zae (zat Y.now lt bs k)) (X.tabs.getD k [])=Y.tabs.getD k [])):=fun k=>by unfold zi0;rw[hY.good.tiers,hY.good.floors]
 obtain⟨c5a,c5b,hT5⟩:∃ (T:Option Addr) (ct:Nat),∀ W,Fr (fun _=>False) w W→W.cell? ⟨t,5,none⟩=some (.slice T n ct):=by
  obtain⟨A0,c0,B0,d0,T,ct,tb,hi⟩:=h;refine⟨T,ct,fun W f=>?_⟩;obtain⟨_,_,_,_,_,c5⟩:=hi.cells f (fun h=>h);rw[hXn] at c5;exact c5
 have HT5:=q0_ hT5;have t5:=hT5 w (Fr.refl _ w);unfold zd2;rw[hXn]
 obtain⟨nw,hnw⟩:∃ v,Y.now=v:=⟨_,rfl⟩
 rw[hnw] at HFr HC HA1;clear h hR hY hl hX hnow hnw hT5;go_enter func161,ntmps161;go_wp2_with fail
 go_loopw [11] (fun i wr=>∃ k:Nat,k≤n∧i=.int .i64 k∧(∀ j,j<k→zi0 X Y j=true)∧Fr (fun _=>False) w wr) (fun i _=>n-(intOf i).toNat)
 case atStart=>exact⟨0,Nat.zero_le _,rfl,fun j hj=>absurd hj (Nat.not_lt_zero _),Fr.refl _ _⟩
 case round=>
  obtain⟨k,hk,rfl,hall,hf⟩:=hrel;have Hall:=q0_ hall;have HF:=q0_ hf;clear hall hf
  by_cases hlt:k<n
  ·have g0:decide ((k:Int)<(n:Int))=true:=qa_ (by omega)
   have kn:0≤(k:Int)∧(k:Int)<(n:Int):=by omega
   have hqw:IntKind.i64.wrap ((k:Int)+1)=(k:Int)+1:=by simp[IntKind.wrap,IntKind.signed,IntKind.bits];omega
   obtain⟨u0,u1,u2,u3⟩:=HC.out wr HF.out;have hA1:=HA1.out k
   obtain⟨fv,hfv⟩:∃ v,zat nw lt bs k=v:=⟨_,rfl⟩
   have HF1:=q0_ (HFr.out wr k HF.out hlt);rw[hfv] at HF1 hA1;have HXk:=HXl.out k fv;have HYk:=HYl.out k
   obtain⟨LX,hLX⟩:∃ v,zao (zae fv) (X.tabs.getD k [])=v:=⟨_,rfl⟩
   obtain⟨LY,hLY⟩:∃ v,Y.tabs.getD k []=v:=⟨_,rfl⟩
   have HS1:Hid (∀ W,Fr (fun _=>False) w W→Calls prog 201 #[.pointer (some ⟨t,0,none⟩),.int .i64 (k:Nat),.int .i64 fv] W fun r w'=>(∃ A c,r=.returned (.slice A LX.length c)∧w'.ownsRow W.heap.size 198 7 (.slice A LX.length c) LX.length (zaA LX))∧Below W.heap.size W w'):=fun W f=>by have:=HSf.out W k fv f hlt;rw[hLX] at this;exact this
   have HR1:Hid (∀ W,Fr (fun _=>False) w W→Calls prog 202 #[.pointer (some ⟨u,0,none⟩),.int .i64 (k:Nat)] W fun r w'=>(∃ A c,r=.returned (.slice A LY.length c)∧w'.ownsRow W.heap.size 198 7 (.slice A LY.length c) LY.length (zaA LY))∧Below W.heap.size W w'):=fun W f=>by have:=HRc.out W k f hlt;rw[hLY] at this;exact this
   rw[hLX,hLY] at hA1;rw[hLX] at HXk;rw[hLY] at HYk
   have HEq:Hid (∀ A n1 c B n2 d W,Rd W 7 A n1 (zaA LX)→Rd W 7 B n2 (zaA LY)→n1=LX.length→n2=LY.length→Calls prog 200 #[.slice A n1 c,.slice B n2 d] W fun r w'=>r=.returned (.bool (zi0 X Y k))∧Below W.heap.size W w'):=fun A n1 c B n2 d W ha hb h1 h2=>by
    rw[hA1];exact zm4 LX LY A n1 c B n2 d W ha hb (by omega) (by omega)
   obtain⟨ab,hab⟩:∃ b,zi0 X Y k=b:=⟨_,rfl⟩
   have Hab:=q0_ hab;rw[hab] at HEq
   obtain⟨nX,hnX⟩:∃ v,LX.length=v:=⟨_,rfl⟩
   obtain⟨nY,hnY⟩:∃ v,LY.length=v:=⟨_,rfl⟩
   rw[hnX] at HS1 HEq;rw[hnY] at HR1 HEq;clear hfv hA1 hLX hLY hab HXk HYk hnX hnY;go_wp2_with fail;refine HF1.out.mono ?_;rintro r w1 ⟨rfl,b1⟩;have G1:=q0_ (HF.out.trans (Fr.b0 b1) q4_);have HS2:=q0_ (HS1.out w1 G1.out);clear b1 u0 u1 u2 u3;go_wp2_with fail;refine HS2.out.mono ?_;rintro r w2 ⟨⟨Aa,ca,rfl,oa⟩,b2⟩;have G2:=q0_ (G1.out.trans (Fr.b0 b2) q4_);have Oa:=q0_ oa;have HR2:=q0_ (HR1.out w2 G2.out);clear b2 oa;go_wp2_with fail;refine HR2.out.mono ?_;rintro r w3 ⟨⟨Ab,cb,rfl,ob⟩,b3⟩;have G3:=q0_ (G2.out.trans (Fr.b0 b3) q4_);have HE2:=q0_ (HEq.out Aa nX ca Ab nY cb w3 (((zal Oa.out).2.2.1).below b3) (zal ob).2.2.1 rfl rfl);clear b3 ob;go_wp2_with fail;refine HE2.out.mono ?_;rintro r w4 ⟨rfl,b4⟩;have G4:=q0_ (G3.out.trans (Fr.b0 b4) q4_);have t5:=HT5.out w4 G4.out;clear b4
   cases ab with
   | false=>
    go_wp2;go_ret;refine⟨?_,G4.out.below q4_⟩
    have:(List.range n).all (zi0 X Y)=false:=by
     rw[List.all_eq_false];exact⟨k,List.mem_range.2 hlt,by rw[Hab.out];simp⟩
    rw[this]
    rfl
   | true=>
    go_wp2
    go_roundw
    case rel=>
     refine⟨k+1,by omega,by go_num,fun j hj=>?_,G4.out⟩
     by_cases e:j=k
     ·subst e;exact Hab.out
     ·exact Hall.out j (by omega)
    case measure=>simp[intOf];omega
  ·obtain rfl:k=n:=by omega
   have g0:decide ((k:Int)<(k:Int))=false:=q9_ (by omega);have ht:(List.range k).all (zi0 X Y)=true:=List.all_eq_true.2 fun j hj=>Hall.out j (List.mem_range.1 hj);have Ht:=q0_ ht;clear ht;go_wp2;go_ret;rw[Ht.out];exact⟨rfl,HF.out.below q4_⟩
end Go.Proofs.YteajonicnkpbbaaGreatDoor
