/- Walks of package table: none, New, Every, Len. -/
import Derived.Test.YtjhhodndlkpmhaaGreatDoorTabM
import Derived.Carry
namespace Go.Proofs.YtjhhodndlkpmhaaGreatDoor
set_option linter.all false
set_option maxHeartbeats 8000000
set_option maxRecDepth 100000
open Go.RowKit Tryz
open Go.Maps (Keyed)
structure zaw(w:World)(g:Nat)(every:Int)(b:Nat)(l:List zae):Prop where
 blk:Blk w g 178 #[.int .i64 every,.map (some b)]
 own:zbr w b l
theorem zaw.fr{w w':World}{F:Nat→Prop}{g b:Nat}{every:Int}{l:List zae}(h:zaw w g every b l)(hf:Fr F w w')(hg:¬ F g)(hb:¬ F b):zaw w' g every b l:=⟨h.blk.fr hf hg,h.own.fr hf hb⟩
theorem zaw.fr0{w w':World}{g b:Nat}{every:Int}{l:List zae}(h:zaw w g every b l)(hf:Fr (fun _=>False) w w'):zaw w' g every b l:=h.fr hf (fun h=>h) (fun h=>h)
theorem zaw.ne{w:World}{g b:Nat}{every:Int}{l:List zae}(h:zaw w g every b l):g≠b:=by
 rintro rfl;obtain⟨D,⟨es,clock,hb,_⟩,_⟩:=h.own;have hg:w.heap[g]? =some (.cells #[.int .i64 every,.map (some g)] 178 (0,0)):=h.blk;rw[hb] at hg
 cases hg
theorem zbr.made(w:World):zbr (w.alloc (.map #[] 0)) w.heap.size []:=zbr.of (World.ownsMap_made w _ _ _) ziH.nil
theorem zkX(b:Nat)(w:World):(binOp .eql 176 (.map (some b)) (.map none)).run prog w=.ok (.bool false) w:=by kernel_rfl
theorem zdk(g:Nat)(every:Int)(b:Nat)(w:World)(hb:Blk w g 178 #[.int .i64 every,.map (some b)]):
  Calls prog 113 #[.pointer (some ⟨g,0,none⟩)] w fun r w'=>r=.returned (.bool false)∧w=w':=by
 have c1:=hb.cell 1;simp only[q1_,q2_,q3_] at c1;have q1:=fun w=>zkX b w;go_enter func113,ntmps113;go_wp2;go_ret;exact⟨rfl,rfl⟩
theorem ziP(g:Nat)(every:Int)(b:Nat)(w:World)(hb:Blk w g 178 #[.int .i64 every,.map (some b)]):
  Calls prog 167 #[.pointer (some ⟨g,0,none⟩)] w fun r w'=>r=.returned (.int .i64 every)∧w=w':=by
 have c0:=hb.cell 0;simp only[q1_,q2_,q3_] at c0;have H:=q0_ (zdk g every b w hb);clear hb;go_enter func167,ntmps167;go_wp2_with fail;refine H.out.mono ?_;rintro r w' ⟨rfl,rfl⟩;go_wp2;go_ret;exact⟨rfl,rfl⟩
theorem zfc(e:Int)(w:World):
  Calls prog 82 #[.int .i64 e] w fun r w'=>(∃ g b,r=.returned (.pointer (some ⟨g,0,none⟩))∧zaw w' g (max e 1) b []∧w.heap.size≤g∧w.heap.size≤b)∧Below w.heap.size w w':=by
 have hb:zbr ((w.alloc (.map #[] 0)).alloc (.cells #[.int .i64 (max e 1),.map (some w.heap.size)] 178)) w.heap.size []:=(zbr.made w).fr (Fr.none_alloc _ _) (fun h=>h);have hg:Blk ((w.alloc (.map #[] 0)).alloc (.cells #[.int .i64 (max e 1),.map (some w.heap.size)] 178)) (w.heap.size+1) 178 #[.int .i64 (max e 1),.map (some w.heap.size)]:=Blk.new' (by simp) _ _;have hO:=q0_ (((Own.start w).skip (Fr.none_alloc w (.map #[] 0))).skip (Fr.none_alloc _ (.cells #[.int .i64 (max e 1),.map (some w.heap.size)] 178)));have HB:=q0_ (zaw.mk hg hb);clear hb hg
 obtain⟨m,hm⟩:∃ m,max e 1=m:=⟨_,rfl⟩
 rw[hm] at HB hO ⊢;have hmm:= @run_makeMap prog;go_enter func82,ntmps82;go_wp2;go_ret;exact⟨⟨_,_,rfl,HB.out,by omega,by omega⟩,hO.out.bel⟩
theorem zcP{w w':World}{r:Nat}(h:w.grownBy w' (some r)):Fr (fun j=>j=r) w w':=⟨h.os,h.tape,h.output,h.size,fun i hi hn=>h.block i hi (fun e=>hn (Option.some.inj e))⟩
theorem zgU{w w':World}(h:w.grownBy w' none):Fr (fun _=>False) w w':=⟨h.os,h.tape,h.output,h.size,fun i hi _=>h.block i hi (by simp)⟩
theorem zc4{w w':World}{F:Nat→Prop}{b r n cnt:Nat}{D:DataW Unit}{left:Lit→Bool}(h:w.ranges prog 180 zjX b r n D left cnt)(hf:Fr F w w')(hb:¬ F b)(hr:¬ F r):w'.ranges prog 180 zjX b r n D left cnt:=by
 obtain⟨es,clock,since,seen,c0,h1,h2,h3,h4,h5,h6⟩:=h;exact⟨es,clock,since,seen,c0,(hf.block b (Array.getElem?_eq_some_iff.1 h1).1 hb).trans h1,h2,h3,h4,(hf.block r (Array.getElem?_eq_some_iff.1 h5).1 hr).trans h5,h6⟩
theorem zlK{l:List zae}{D:DataW Unit}(h:ziH l D){x c:Value}{k:Lit}{y:DataW Unit×List MemPlace}(hx:keyOf prog 180 x=some k)(hh:Maps.has D k=true)(hc:zjX c=some y)(hat:∀ zd,D.atKey k zd=y.1):∃ r∈l,k=kl r∧x=zcC r.name r.start∧c=r.agg.val:=by
 obtain⟨r,hr,rfl⟩:=h.has k hh;obtain⟨a,rfl,rfl⟩:=zlX hc;have h1:=hat (.lit .nil);rw[h.at_ r hr] at h1;obtain rfl:a=r.agg:=(ziD h1).symm;exact⟨r,hr,rfl,zbC.inj hx (zgM (h.wf r hr)),rfl⟩
open Go.Maps (Keyed)
theorem zkA{l rs:List zae}(hl:zav l)(hn:rs.Pairwise (fun a b=>¬ zbQ a b))(h1:∀ x∈rs,x∈l)(h2:∀ x∈l,x∈rs){m:List zae}(hp:m.Perm rs)(hm:m.Pairwise (fun a b=>¬ klt b a)):m=l:=by
 have hn':m.Pairwise (fun a b=>¬ zbQ a b):=(hp.pairwise_iff (fun {a b} h k=>h ⟨k.1.symm,k.2.symm⟩)).2 hn;refine zav.ext ?_ hl (fun r=>⟨fun h=>h1 r (hp.mem_iff.1 h),fun h=>hp.mem_iff.2 (h2 r h)⟩);exact (hm.and hn').imp fun {a b} ⟨h,k⟩=>(zgL a b).elim id (fun h'=>h'.elim (fun h''=>absurd h'' k) (fun h''=>absurd h'' h))
theorem zd2(g:Nat)(every:Int)(b:Nat)(l:List zae)(w:World)(h:zaw w g every b l)(hl:l.length≤1000000000):
  Calls prog 74 #[.pointer (some ⟨g,0,none⟩)] w fun r w'=>(∃ A c,r=.returned (.slice A l.length c)∧w'.ownsRow w.heap.size 127 7 (.slice A l.length c) l.length (za1 l))∧Below w.heap.size w w':=by
 have HN:=q0_ (zdk g every b w h.blk);have c1:=h.blk.cell 1;simp only[q1_,q2_,q3_] at c1;obtain⟨D,hown,ht⟩:=h.own;have hblt:=hown.lt;clear h;have Ht:=q0_ ht;clear ht;obtain⟨i0,hi,hz0,hz1,hz2⟩:=info_parts zlC;go_enter func74,ntmps74;go_wp2_with fail;refine HN.out.mono ?_;rintro r w' ⟨rfl,rfl⟩
 go_wp2_with (first
  | (at_range;refine wpList_range_own _ rfl _ 176 rfl 180 125 zbC underlying176 zjX b l.length _ rfl hown ?_;intro w0 hrg0 hg0 hs0)
  | go_in)
 go_frame
 clear c1
 go_loopw [3] (fun o wr=>∃ (k:Nat) (R:Option Addr) (cs:Nat) (rs:List zae) (left:Lit→Bool) (cnt:Nat),o=.slice R k cs∧rs.length=k∧k+cnt≤l.length∧wr.ownsRow w.heap.size 127 7 (.slice R k cs) k (za1 rs)∧wr.ranges prog 180 zjX b w.heap.size l.length D left cnt∧
   (∀ k,left k=true→Maps.has D k=true)∧(∀ x∈rs,x∈l∧left (kl x)=false)∧(∀ x∈l,left (kl x)=false→x∈rs)∧rs.Pairwise (fun a b=>¬ zbQ a b)∧Own w wr (fun j=>j=w.heap.size∨zaE (.slice R k cs) j)) (fun _ wr=>wr.rangeLeft b w.heap.size)
 case atStart=>
  refine⟨0,none,0,[],_,_,rfl,rfl,by rw[Ht.out.size];simp,World.ownsRow_nil _ _ _ _,hrg0,fun _ h=>h,fun x hx=>(by cases hx),fun x hx hf=>?_,List.Pairwise.nil,((Own.start w).skip (zgU hg0)).also (fun j hj=>?_)⟩
  ·rw[Ht.out.hasYes hx] at hf;cases hf
  ·rcases hj with rfl | hj
   ·exact Nat.le_refl _
   ·cases hj
 case round=>
  obtain⟨k,R,cs,rs,left,cnt,rfl,hk,hkl,hrow,hrg,hhas,h1,h2,hpw,ho⟩:=hrel;have Hrow:=q0_ hrow;have Ho:=q0_ ho;have Hhas:=q0_ hhas;have H1:=q0_ h1;have H2:=q0_ h2;have Hpw:=q0_ hpw;clear hrow ho hhas h1 h2 hpw
  go_wp2_with (first
   | (at_next;refine wpList_next_ranges _ rfl _ rfl 180 zbC zjX id id (fun key _ _=>⟨key,rfl⟩) (fun v _ _=>⟨v,rfl⟩) b w.heap.size l.length _ _ _ rfl hrg ?_ ?_)
   | go_in)
  ·intro _ hl0
   have hall:∀ x∈l,x∈rs:=fun x hx=>H2.out x hx (hl0 _);have Hall:=q0_ hall
   have HS:Hid (∀ w',Fr (fun _=>False) wr w'→Calls prog 114 #[.slice R k cs,.func (.func 115) #[] #[]] w' fun r w''=>r=.returned (.tuple #[])∧w''.ownsRow w.heap.size 127 7 (.slice R k cs) k (za1 l)∧Fr (zaE (.slice R k cs)) w' w''):=fun w' hf=>by
    refine (zpQ rs R k cs w.heap.size w' (zac Hrow.out hf) (by omega)).mono ?_;rintro r w'' ⟨e,l',hp,hs,ho',hfr⟩;have e2:=zkA Ht.out.sorted Hpw.out (fun x hx=>(H1.out x hx).1) Hall.out hp hs;rw[e2] at ho';exact⟨e,ho',hfr⟩
   clear hall hl0 hrg;go_wp2_with fail;refine (HS.out wr (Fr.refl _ _)).mono ?_;rintro r w5 ⟨rfl,ho5,f5⟩;have O5:=q0_ (Ho.out.mv ⟨f5.mono (fun i hi=>.inl (.inr hi)),fun j hj=>.inl hj⟩);have Ho5:=q0_ ho5;clear ho5 f5;go_wp2;go_ret
   have hkn:l.length=k:=by
    have h:=Ho5.out.1;rw[show (za1 l).length=l.length*7 from zcY zcU l] at h;omega
   rw[hkn];exact⟨⟨R,cs,rfl,Ho5.out⟩,O5.out.bel⟩
  ·intro x c kx yd yp w1 cnt1 hkey hlx hv hat hrg1 hlt hg1 hs1 hen
   obtain⟨q,hq,rfl,rfl,rfl⟩:=zlK Ht.out hkey (Hhas.out _ hlx) hv hat;have f1:Fr (fun j=>j=w.heap.size) wr w1:=zcP hg1
   have hrow1:w1.ownsRow w.heap.size 127 7 (.slice R k cs) k (za1 rs):=zaf Hrow.out f1 (fun j hj hg=>by
    subst hg;obtain⟨cs',fz,hc⟩:=zdB Hrow.out hj;obtain⟨_,_,_,_,_,_,_,_,_,hit,_⟩:=hrg;rw[hit] at hc
    cases hc)
   have Hrow1:=q0_ hrow1;have O1:=q0_ (Ho.out.fr (f1.mono (fun i hi=>.inl (.inl hi))));have Hrg1:=q0_ hrg1;have Hg1:=q0_ hg1;clear hrow1 hrg1 f1 hg1;unfold zcC zaL.val at hen;have hw1:w.heap.size≤wr.heap.size:=Ho.out.bel.size
   go_wp2_with (at_builtin;refine zbs rfl _ _ 71 rfl 127 i0 _ 7 64 underlying71 hi hz0 hz1 hz2 rfl (by decide) (.slice R k cs) k _ rfl w.heap.size (by simp;omega) (zac (zac (zac Hrow1.out (Fr.none_alloc _ _)) (Fr.none_alloc _ _)) (Fr.none_alloc _ _)) (some ⟨wr.heap.size+1+1,0,none⟩) 1 1 [.string q.name,.int .i64 q.start,.int .i64 q.agg.count,.int .i64 q.agg.hi,.int .u64 q.agg.lo,.int .i64 q.agg.min,.int .i64 q.agg.max] rfl (Rd.newS (by simp[hs1]) _ _ _ _ rfl) (by simp[Value.oneCell']) ?q1 ?q2 ?_)
   case q1=>unfold maxLen;omega
   case q2=>omega
   intro R6 c6 w6 ho6 hm6 _
   have hb:¬ zaE (.slice R k cs) b:=fun hj=>by
    obtain⟨cs',fz,hc⟩:=zdB Hrow1.out hj;obtain⟨_,_,_,_,_,hbm,_⟩:=Hrg1.out;rw[hbm] at hc
    cases hc
   have hr:¬ zaE (.slice R k cs) w.heap.size:=fun hj=>by
    obtain⟨cs',fz,hc⟩:=zdB Hrow1.out hj;obtain⟨_,_,_,_,_,_,_,_,_,hit,_⟩:=Hrg1.out;rw[hit] at hc
    cases hc
   have Hrg6:=q0_ (zc4 (zc4 (zc4 (zc4 Hrg1.out (Fr.none_alloc _ _) (fun h=>h) (fun h=>h)) (Fr.none_alloc _ _) (fun h=>h) (fun h=>h)) (Fr.none_alloc _ _) (fun h=>h) (fun h=>h)) hm6.fr hb hr);have O6:=q0_ ((((O1.out.skip (Fr.none_alloc _ _)).skip (Fr.none_alloc _ _)).skip (Fr.none_alloc _ _)).mv (F':=fun j=>j=w.heap.size∨zaE (.slice R6 (k+1) c6) j) ⟨hm6.fr.mono (fun i hi=>.inl (.inr hi)),fun j hj=>hj.elim (fun hj=>.inl (.inl hj)) (fun hj=>(hm6.sub j hj).imp .inr id)⟩);have Ho6:=q0_ ho6;clear ho6 hm6 hb hr
   go_wp2
   go_roundw
   case rel=>
    refine⟨k+1,R6,c6,rs++[q],_,cnt1,rfl,by simp[hk],by omega,?_,Hrg6.out,fun z hz=>?_,fun x hx=>?_,fun x hx hf=>?_,?_,O6.out⟩
    ·have h:=Ho6.out
     unfold za1 at h ⊢;rw[List.flatMap_append];exact h
    ·exact Hhas.out z (by cases hl:left z<;>simp[hl] at hz ⊢)
    ·rcases List.mem_append.1 hx with hx | hx
     ·exact⟨(H1.out x hx).1,by simp[(H1.out x hx).2]⟩
     ·rw[List.mem_singleton] at hx
      subst hx;exact⟨hq,by simp[WideAt.sameKey_self (zf1 x)]⟩
    ·cases hl:left (kl x)
     ·exact List.mem_append.2 (.inl (H2.out x hx hl))
     ·simp only[hl,Bool.true_and,Bool.not_eq_false'] at hf
      have e:=zjs (Ht.out.wf x hx) (Ht.out.wf q hq) (WideAt.sameKey_eq hf);rw[Ht.out.sorted.inj hx hq e];simp
    ·refine List.pairwise_append.2 ⟨Hpw.out,List.pairwise_singleton _ _,fun a ha b hb hs=>?_⟩
     rw[List.mem_singleton] at hb;subst hb;have h:=(H1.out a ha).2;rw[zgN hs,hlx] at h
     cases h
   case measure=>rw[Hrg6.out.left_eq,hrg.left_eq];exact hlt
open Go.Maps (Keyed)
def onB(t e:Int):Bool:=decide (1≤e)&&decide (t.tmod e=0)
theorem zqZ(t e:Int)(w:World):
  Calls prog 80 #[.int .i64 t,.int .i64 e] w fun r w'=>r=.returned (.bool (onB t e))∧w=w':=by
 by_cases h1:1≤e
 ·by_cases h2:t.tmod e=0
  ·rw[show onB t e=true by simp[onB,h1,h2]]
   go_enter func80,ntmps80;go_wp2_with fail
   all_goals (go_ret<;>simp[*])
  ·rw[show onB t e=false by simp[onB,h2]]
   go_enter func80,ntmps80;go_wp2_with fail
   all_goals (go_ret<;>simp[*])
 ·rw[show onB t e=false by simp[onB,h1]]
  go_enter func80,ntmps80;go_wp2_with fail
  all_goals (go_ret<;>simp[*])
def zaG(every:Int)(r:zae):Bool:=zaD r.name&&decide (0≤r.start)&&onB r.start every&&zaC r.agg
theorem zoe(g:Nat)(every:Int)(b:Nat)(r:zae)(hr:r.wf)(w:World)(hb:Blk w g 178 #[.int .i64 every,.map (some b)]):
  Calls prog 136 #[.pointer (some ⟨g,0,none⟩),r.val] w fun r' w'=>r'=.returned (.bool (zaG every r))∧Below w.heap.size w w':=by
 obtain⟨nm,st,⟨c,h,lo,m,x⟩⟩:=r;obtain⟨_,haw,hnm⟩:=hr;unfold zae.val zaG;simp only at hnm haw ⊢;have HV:=q0_ (fun b c w hc=>zf9 nm hnm b c w hc);have HO:=q0_ (fun w=>zqZ st every w)
 obtain⟨W1,hW1⟩:∃ W1,W1=w.alloc (.cells #[.string nm,.int .i64 st,.int .i64 c,.int .i64 h,.int .u64 lo,.int .i64 m,.int .i64 x] 127):=⟨_,rfl⟩
 have HW1:=q0_ hW1
 have B1:Blk W1 w.heap.size 127 #[.string nm,.int .i64 st,.int .i64 c,.int .i64 h,.int .u64 lo,.int .i64 m,.int .i64 x]:=by rw[hW1];exact Blk.new _ _ _
 have G1:Blk W1 g 178 #[.int .i64 every,.map (some b)]:=by rw[hW1];exact hb.alloc _
 have Bw:Hid (Below w.heap.size w W1):=by show Below _ _ _;rw[hW1];exact ((Own.start w).skip (Fr.none_alloc _ _)).bel
 have HC:Hid (∀ W,Fr (fun _=>False) W1 W→W.cell? ⟨w.heap.size,0,none⟩=some (.string nm)∧W.cell? ⟨w.heap.size,1,none⟩=some (.int .i64 st)∧W.cell? ⟨w.heap.size,2,none⟩=some (.int .i64 c)∧W.cell? ⟨w.heap.size,3,none⟩=some (.int .i64 h)∧W.cell? ⟨w.heap.size,4,none⟩=some (.int .u64 lo)∧W.cell? ⟨w.heap.size,5,none⟩=some (.int .i64 m)∧W.cell? ⟨w.heap.size,6,none⟩=some (.int .i64 x)∧W.cell? ⟨g,0,none⟩=some (.int .i64 every)):=fun W f=>⟨(B1.fr f (fun h=>h)).cell 0,(B1.fr f (fun h=>h)).cell 1,(B1.fr f (fun h=>h)).cell 2,(B1.fr f (fun h=>h)).cell 3,(B1.fr f (fun h=>h)).cell 4,(B1.fr f (fun h=>h)).cell 5,(B1.fr f (fun h=>h)).cell 6,(G1.fr f (fun h=>h)).cell 0⟩
 have F2:Fr (fun _=>False) W1 W1.drew:=(Fr.refl _ W1).drew;have F3:=fun o=>F2.trans (Fr.none_alloc W1.drew o) q4_
 have HA:Hid (∀ W,Fr (fun _=>False) W1 W→Calls prog 154 #[.agg #[.int .i64 c,.int .i64 h,.int .u64 lo,.int .i64 m,.int .i64 x]] W fun r w''=>r=.returned (.bool (zaC ⟨c,h,lo,m,x⟩))∧Fr (fun _=>False) W1 w''):=fun W f=>by
  refine (zci ⟨c,h,lo,m,x⟩ W).mono ?_;rintro r w'' ⟨e,b⟩;exact⟨e,f.trans (Fr.b0 b) q4_⟩
 obtain⟨ak,hak⟩:∃ ak,zaC ⟨c,h,lo,m,x⟩=ak:=⟨_,rfl⟩
 rw[hak] at HA ⊢;clear hb B1 G1 hW1 hak haw hnm
 cases hv:zaD nm
 ·rw[hv] at HV
  clear hv;go_enter func136,ntmps136;go_wp2_with fail;rw[← HW1.out];obtain⟨r0,r1,r2,r3,r4,r5,r6,e0⟩:=HC.out W1.drew F2;refine wp_region_any (by kernel_rfl) ?_;change wpAny _ _ _ _ _ _ _ (World.drew _);refine nl 0 ?v1 rfl ?q1 ?r1
  case q1=>intro W;go_simp;try rfl
  try simp only[Act.put,sA,sB,sC]
  refine rn 1 rfl (fun K hK=>?_);go_simp;refine hK _ _ ?_;clear hK K
  try simp only[Act.put,sA,sB,sC]
  refine rn 2 rfl (fun K hK=>?_);go_simp;refine hK _ _ ?_;clear hK K
  try simp only[Act.put,sA,sB,sC]
  refine rn 3 rfl (fun K hK=>?_);go_simp
  go_wp2_with (go_at_call 125;refine (HV.out _ _ _ ((Blk.new _ _ _).cell 0)).mono ?_;rintro r w5 ⟨rfl,rfl⟩;obtain⟨r0,r1,r2,r3,r4,r5,r6,e0⟩:=HC.out _ (Fr.none_alloc W1 (.cells #[.string nm] 9)))
  refine nl 4 ?v2 rfl ?q2 ?r2
  case q2=>intro W;go_simp;try rfl
  try simp only[Act.put,sA,sB,sC]
  refine nu 5 rfl ?_
  try simp only[Act.put,sA,sB,sC]
  refine nu 6 rfl ?_
  try simp only[Act.put,sA,sB,sC]
  refine nu 7 rfl ?_;refine nl 8 ?v3 rfl ?q3 ?r3
  case q3=>intro W;go_simp;try rfl
  refine nl 9 ?v4 rfl ?q4 ?r4
  case q4=>intro W;go_simp;try rfl
  try simp only[Act.put,sA,sB,sC]
  refine nu 10 rfl ?_
  try simp only[Act.put,sA,sB,sC]
  refine nu 11 rfl ?_
  try simp only[Act.put,sA,sB,sC]
  refine nu 12 rfl ?_
  try simp only[Act.put,sA,sB,sC]
  refine nu 13 rfl ?_
  try simp only[Act.put,sA,sB,sC]
  refine nu 14 rfl ?_
  try simp only[Act.put,sA,sB,sC]
  refine nu 15 rfl ?_
  try simp only[Act.put,sA,sB,sC]
  refine nu 16 rfl ?_;refine nl 17 ?v5 rfl ?q5 ?r5
  case q5=>intro W;go_simp;try rfl
  refine nl 18 ?v6 rfl ?q6 ?r6
  case q6=>intro W;go_simp;try rfl
  try simp only[Act.put,sA,sB,sC]
  refine nu 19 rfl ?_
  try simp only[Act.put,sA,sB,sC]
  refine nu 20 rfl ?_
  try simp only[Act.put,sA,sB,sC]
  refine nu 21 rfl ?_;refine nl 22 ?v7 rfl ?q7 ?r7
  case q7=>intro W;go_simp;try rfl
  try simp only[Act.put,sA,sB,sC]
  refine rn 23 rfl (fun K hK=>?_);go_simp;refine hK _ _ ?_;clear hK K
  try simp only[Act.put,sA,sB,sC]
  refine wpAny_done (by kernel_rfl) ?_ _;clear r0 r1 r2 r3 r4 r5 r6 e0;go_wp2;go_ret;exact⟨by first | rfl | simp[*],(Fr.below (F3 _) q4_).mono Bw.out.size |>Bw.out.trans⟩
 ·rw[hv] at HV
  clear hv
  by_cases h0:0≤st
  ·have h0d:decide (0≤st)=true:=qa_ h0
   rw[h0d]
   cases ho:onB st every
   ·rw[ho] at HO
    clear ho;go_enter func136,ntmps136;go_wp2_with fail;rw[← HW1.out];obtain⟨r0,r1,r2,r3,r4,r5,r6,e0⟩:=HC.out W1.drew F2;refine wp_region_any (by kernel_rfl) ?_;change wpAny _ _ _ _ _ _ _ (World.drew _);refine nl 0 ?v8 rfl ?q8 ?r8
    case q8=>intro W;go_simp;try rfl
    try simp only[Act.put,sA,sB,sC]
    refine rn 1 rfl (fun K hK=>?_);go_simp;refine hK _ _ ?_;clear hK K
    try simp only[Act.put,sA,sB,sC]
    refine rn 2 rfl (fun K hK=>?_);go_simp;refine hK _ _ ?_;clear hK K
    try simp only[Act.put,sA,sB,sC]
    refine rn 3 rfl (fun K hK=>?_);go_simp
    go_wp2_with (go_at_call 125;refine (HV.out _ _ _ ((Blk.new _ _ _).cell 0)).mono ?_;rintro r w5 ⟨rfl,rfl⟩;obtain⟨r0,r1,r2,r3,r4,r5,r6,e0⟩:=HC.out _ (Fr.none_alloc W1 (.cells #[.string nm] 9)))
    refine nl 4 ?v9 rfl ?q9 ?r9
    case q9=>intro W;go_simp;try rfl
    try simp only[Act.put,sA,sB,sC]
    refine nl 5 ?v10 rfl ?q10 ?r10
    case q10=>intro W;go_simp;try rfl
    try simp only[Act.put,sA,sB,sC]
    refine rn 6 rfl (fun K hK=>?_);go_simp;refine hK _ _ ?_;clear hK K
    try simp only[Act.put,sA,sB,sC]
    refine nl 7 ?v11 rfl ?q11 ?r11
    case q11=>intro W;go_simp;try rfl
    refine nl 8 ?v12 rfl ?q12 ?r12
    case q12=>intro W;go_simp;try rfl
    refine nl 9 ?v13 rfl ?q13 ?r13
    case q13=>intro W;go_simp;try rfl
    try simp only[Act.put,sA,sB,sC]
    refine nl 10 ?v14 rfl ?q14 ?r14
    case q14=>intro W;go_simp;try rfl
    try simp only[Act.put,sA,sB,sC]
    refine nl 12 ?v15 rfl ?q15 ?r15
    case q15=>intro W;go_simp;try rfl
    try simp only[Act.put,sA,sB,sC]
    refine nl 13 ?v16 rfl ?q16 ?r16
    case q16=>intro W;go_simp;try rfl
    try simp only[Act.put,sA,sB,sC]
    refine nl 14 ?v17 rfl ?q17 ?r17
    case q17=>intro W;go_simp;try rfl
    try simp only[Act.put,sA,sB,sC]
    refine wpAny_ready (rs:=[11,15]) (by kernel_rfl) (by simp) ?_;refine AllReady.cons (dg rfl) (fun K hK=>?_) ?_
    ·go_simp
     refine hK _ _ ?_;clear hK K
     try simp only[Act.put,sA,sB,sC]
     refine rn 15 rfl (fun K hK=>?_);go_simp;refine hK _ _ ?_;clear hK K
     try simp only[Act.put,sA,sB,sC]
     refine rn 16 rfl (fun K hK=>?_);go_simp
     go_wp2_with (go_at_call 80;refine (HO.out _).mono ?_;rintro r w6 ⟨rfl,rfl⟩)
     refine nl 17 ?v18 rfl ?q18 ?r18
     case q18=>intro W;go_simp;try rfl
     refine nl 18 ?v19 rfl ?q19 ?r19
     case q19=>intro W;go_simp;try rfl
     try simp only[Act.put,sA,sB,sC]
     refine nu 19 rfl ?_
     try simp only[Act.put,sA,sB,sC]
     refine nu 20 rfl ?_
     try simp only[Act.put,sA,sB,sC]
     refine nu 21 rfl ?_;refine nl 22 ?v20 rfl ?q20 ?r20
     case q20=>intro W;go_simp;try rfl
     try simp only[Act.put,sA,sB,sC]
     refine rn 23 rfl (fun K hK=>?_);go_simp;refine hK _ _ ?_;clear hK K
     try simp only[Act.put,sA,sB,sC]
     refine wpAny_done (by kernel_rfl) ?_ _;clear r0 r1 r2 r3 r4 r5 r6 e0;go_wp2;go_ret;exact⟨by first | rfl | simp[*],(Fr.below (F3 _) q4_).mono Bw.out.size |>Bw.out.trans⟩
    refine AllReady.cons (dg rfl) (fun K hK=>?_) ?_
    ·go_simp
     refine hK _ _ ?_;clear hK K
     try simp only[Act.put,sA,sB,sC]
     refine rn 11 rfl (fun K hK=>?_);go_simp;refine hK _ _ ?_;clear hK K
     try simp only[Act.put,sA,sB,sC]
     refine rn 16 rfl (fun K hK=>?_);go_simp
     go_wp2_with (go_at_call 80;refine (HO.out _).mono ?_;rintro r w6 ⟨rfl,rfl⟩)
     refine nl 17 ?v21 rfl ?q21 ?r21
     case q21=>intro W;go_simp;try rfl
     refine nl 18 ?v22 rfl ?q22 ?r22
     case q22=>intro W;go_simp;try rfl
     try simp only[Act.put,sA,sB,sC]
     refine nu 19 rfl ?_
     try simp only[Act.put,sA,sB,sC]
     refine nu 20 rfl ?_
     try simp only[Act.put,sA,sB,sC]
     refine nu 21 rfl ?_;refine nl 22 ?v23 rfl ?q23 ?r23
     case q23=>intro W;go_simp;try rfl
     try simp only[Act.put,sA,sB,sC]
     refine rn 23 rfl (fun K hK=>?_);go_simp;refine hK _ _ ?_;clear hK K
     try simp only[Act.put,sA,sB,sC]
     refine wpAny_done (by kernel_rfl) ?_ _;clear r0 r1 r2 r3 r4 r5 r6 e0;go_wp2;go_ret;exact⟨by first | rfl | simp[*],(Fr.below (F3 _) q4_).mono Bw.out.size |>Bw.out.trans⟩
    exact AllReady.nil
   ·rw[ho] at HO
    clear ho;go_enter func136,ntmps136;go_wp2_with fail;rw[← HW1.out];obtain⟨r0,r1,r2,r3,r4,r5,r6,e0⟩:=HC.out W1.drew F2;refine wp_region_any (by kernel_rfl) ?_;change wpAny _ _ _ _ _ _ _ (World.drew _);refine nl 0 ?v24 rfl ?q24 ?r24
    case q24=>intro W;go_simp;try rfl
    try simp only[Act.put,sA,sB,sC]
    refine rn 1 rfl (fun K hK=>?_);go_simp;refine hK _ _ ?_;clear hK K
    try simp only[Act.put,sA,sB,sC]
    refine rn 2 rfl (fun K hK=>?_);go_simp;refine hK _ _ ?_;clear hK K
    try simp only[Act.put,sA,sB,sC]
    refine rn 3 rfl (fun K hK=>?_);go_simp
    go_wp2_with (go_at_call 125;refine (HV.out _ _ _ ((Blk.new _ _ _).cell 0)).mono ?_;rintro r w5 ⟨rfl,rfl⟩;obtain⟨r0,r1,r2,r3,r4,r5,r6,e0⟩:=HC.out _ (Fr.none_alloc W1 (.cells #[.string nm] 9)))
    refine nl 4 ?v25 rfl ?q25 ?r25
    case q25=>intro W;go_simp;try rfl
    try simp only[Act.put,sA,sB,sC]
    refine nl 5 ?v26 rfl ?q26 ?r26
    case q26=>intro W;go_simp;try rfl
    try simp only[Act.put,sA,sB,sC]
    refine rn 6 rfl (fun K hK=>?_);go_simp;refine hK _ _ ?_;clear hK K
    try simp only[Act.put,sA,sB,sC]
    refine nl 7 ?v27 rfl ?q27 ?r27
    case q27=>intro W;go_simp;try rfl
    refine nl 8 ?v28 rfl ?q28 ?r28
    case q28=>intro W;go_simp;try rfl
    refine nl 9 ?v29 rfl ?q29 ?r29
    case q29=>intro W;go_simp;try rfl
    try simp only[Act.put,sA,sB,sC]
    refine nl 10 ?v30 rfl ?q30 ?r30
    case q30=>intro W;go_simp;try rfl
    try simp only[Act.put,sA,sB,sC]
    refine nl 12 ?v31 rfl ?q31 ?r31
    case q31=>intro W;go_simp;try rfl
    try simp only[Act.put,sA,sB,sC]
    refine nl 13 ?v32 rfl ?q32 ?r32
    case q32=>intro W;go_simp;try rfl
    try simp only[Act.put,sA,sB,sC]
    refine nl 14 ?v33 rfl ?q33 ?r33
    case q33=>intro W;go_simp;try rfl
    try simp only[Act.put,sA,sB,sC]
    refine wpAny_ready (rs:=[11,15]) (by kernel_rfl) (by simp) ?_;refine AllReady.cons (dg rfl) (fun K hK=>?_) ?_
    ·go_simp
     refine hK _ _ ?_;clear hK K
     try simp only[Act.put,sA,sB,sC]
     refine rn 15 rfl (fun K hK=>?_);go_simp;refine hK _ _ ?_;clear hK K
     try simp only[Act.put,sA,sB,sC]
     refine rn 16 rfl (fun K hK=>?_);go_simp
     go_wp2_with (go_at_call 80;refine (HO.out _).mono ?_;rintro r w6 ⟨rfl,rfl⟩)
     refine nl 17 ?v34 rfl ?q34 ?r34
     case q34=>intro W;go_simp;try rfl
     refine nl 18 ?v35 rfl ?q35 ?r35
     case q35=>intro W;go_simp;try rfl
     try simp only[Act.put,sA,sB,sC]
     refine nl 19 ?v36 rfl ?q36 ?r36
     case q36=>intro W;go_simp;try rfl
     try simp only[Act.put,sA,sB,sC]
     refine rn 20 rfl (fun K hK=>?_);go_simp;refine hK _ _ ?_;clear hK K
     try simp only[Act.put,sA,sB,sC]
     refine rn 21 rfl (fun K hK=>?_);go_simp
     go_wp2_with (go_at_call 154;refine (HA.out _ (F3 _)).mono ?_;rintro r w7 ⟨rfl,f7⟩)
     refine nl 22 ?v37 rfl ?q37 ?r37
     case q37=>intro W;go_simp;try rfl
     try simp only[Act.put,sA,sB,sC]
     refine rn 23 rfl (fun K hK=>?_);go_simp;refine hK _ _ ?_;clear hK K
     try simp only[Act.put,sA,sB,sC]
     refine wpAny_done (by kernel_rfl) ?_ _;clear r0 r1 r2 r3 r4 r5 r6 e0;go_wp2;go_ret;exact⟨by first | rfl | simp[*],(Fr.below f7 q4_).mono Bw.out.size |>Bw.out.trans⟩
    refine AllReady.cons (dg rfl) (fun K hK=>?_) ?_
    ·go_simp
     refine hK _ _ ?_;clear hK K
     try simp only[Act.put,sA,sB,sC]
     refine rn 11 rfl (fun K hK=>?_);go_simp;refine hK _ _ ?_;clear hK K
     try simp only[Act.put,sA,sB,sC]
     refine rn 16 rfl (fun K hK=>?_);go_simp
     go_wp2_with (go_at_call 80;refine (HO.out _).mono ?_;rintro r w6 ⟨rfl,rfl⟩)
     refine nl 17 ?v38 rfl ?q38 ?r38
     case q38=>intro W;go_simp;try rfl
     refine nl 18 ?v39 rfl ?q39 ?r39
     case q39=>intro W;go_simp;try rfl
     try simp only[Act.put,sA,sB,sC]
     refine nl 19 ?v40 rfl ?q40 ?r40
     case q40=>intro W;go_simp;try rfl
     try simp only[Act.put,sA,sB,sC]
     refine rn 20 rfl (fun K hK=>?_);go_simp;refine hK _ _ ?_;clear hK K
     try simp only[Act.put,sA,sB,sC]
     refine rn 21 rfl (fun K hK=>?_);go_simp
     go_wp2_with (go_at_call 154;refine (HA.out _ (F3 _)).mono ?_;rintro r w7 ⟨rfl,f7⟩)
     refine nl 22 ?v41 rfl ?q41 ?r41
     case q41=>intro W;go_simp;try rfl
     try simp only[Act.put,sA,sB,sC]
     refine rn 23 rfl (fun K hK=>?_);go_simp;refine hK _ _ ?_;clear hK K
     try simp only[Act.put,sA,sB,sC]
     refine wpAny_done (by kernel_rfl) ?_ _;clear r0 r1 r2 r3 r4 r5 r6 e0;go_wp2;go_ret;exact⟨by first | rfl | simp[*],(Fr.below f7 q4_).mono Bw.out.size |>Bw.out.trans⟩
    exact AllReady.nil
  ·have h0d:decide (0≤st)=false:=q9_ h0
   rw[h0d];go_enter func136,ntmps136;go_wp2_with fail;rw[← HW1.out];obtain⟨r0,r1,r2,r3,r4,r5,r6,e0⟩:=HC.out W1.drew F2;refine wp_region_any (by kernel_rfl) ?_;change wpAny _ _ _ _ _ _ _ (World.drew _);refine nl 0 ?v42 rfl ?q42 ?r42
   case q42=>intro W;go_simp;try rfl
   try simp only[Act.put,sA,sB,sC]
   refine rn 1 rfl (fun K hK=>?_);go_simp;refine hK _ _ ?_;clear hK K
   try simp only[Act.put,sA,sB,sC]
   refine rn 2 rfl (fun K hK=>?_);go_simp;refine hK _ _ ?_;clear hK K
   try simp only[Act.put,sA,sB,sC]
   refine rn 3 rfl (fun K hK=>?_);go_simp
   go_wp2_with (go_at_call 125;refine (HV.out _ _ _ ((Blk.new _ _ _).cell 0)).mono ?_;rintro r w5 ⟨rfl,rfl⟩;obtain⟨r0,r1,r2,r3,r4,r5,r6,e0⟩:=HC.out _ (Fr.none_alloc W1 (.cells #[.string nm] 9)))
   refine nl 4 ?v43 rfl ?q43 ?r43
   case q43=>intro W;go_simp;try rfl
   try simp only[Act.put,sA,sB,sC]
   refine nl 5 ?v44 rfl ?q44 ?r44
   case q44=>intro W;go_simp;try rfl
   try simp only[Act.put,sA,sB,sC]
   refine rn 6 rfl (fun K hK=>?_);go_simp;refine hK _ _ ?_;clear hK K
   try simp only[Act.put,sA,sB,sC]
   refine nl 7 ?v45 rfl ?q45 ?r45
   case q45=>intro W;go_simp;try rfl
   refine nl 8 ?v46 rfl ?q46 ?r46
   case q46=>intro W;go_simp;try rfl
   refine nl 9 ?v47 rfl ?q47 ?r47
   case q47=>intro W;go_simp;try rfl
   try simp only[Act.put,sA,sB,sC]
   refine nu 10 rfl ?_
   try simp only[Act.put,sA,sB,sC]
   refine nu 11 rfl ?_
   try simp only[Act.put,sA,sB,sC]
   refine nu 12 rfl ?_
   try simp only[Act.put,sA,sB,sC]
   refine nu 13 rfl ?_
   try simp only[Act.put,sA,sB,sC]
   refine nu 14 rfl ?_
   try simp only[Act.put,sA,sB,sC]
   refine nu 15 rfl ?_
   try simp only[Act.put,sA,sB,sC]
   refine nu 16 rfl ?_;refine nl 17 ?v48 rfl ?q48 ?r48
   case q48=>intro W;go_simp;try rfl
   refine nl 18 ?v49 rfl ?q49 ?r49
   case q49=>intro W;go_simp;try rfl
   try simp only[Act.put,sA,sB,sC]
   refine nu 19 rfl ?_
   try simp only[Act.put,sA,sB,sC]
   refine nu 20 rfl ?_
   try simp only[Act.put,sA,sB,sC]
   refine nu 21 rfl ?_;refine nl 22 ?v50 rfl ?q50 ?r50
   case q50=>intro W;go_simp;try rfl
   try simp only[Act.put,sA,sB,sC]
   refine rn 23 rfl (fun K hK=>?_);go_simp;refine hK _ _ ?_;clear hK K
   try simp only[Act.put,sA,sB,sC]
   refine wpAny_done (by kernel_rfl) ?_ _;clear r0 r1 r2 r3 r4 r5 r6 e0;go_wp2;go_ret;exact⟨by first | rfl | simp[*],(Fr.below (F3 _) q4_).mono Bw.out.size |>Bw.out.trans⟩
open Go.Maps (Keyed)
section
variable {P:Program} {w w':World}
theorem zoq{o:Oper}{a:Act}{next:Act→World→Prop}{Q:Exit→Act→World→Prop}(t:TypeId)(m x:Operand)(ho:o.op=.lookup t m x false)(mv xv v:Value)(hm:a.eval m=mv)(hx:a.eval x=xv)
  (hrun:(Instr.lookup t mv xv false).run P w=.ok v w) (h:next (a.put o.dst v) w):Oper.wp P o a w next Q:=by
 unfold Oper.wp execOp;simp only[ho,hm,hx];simp[hrun,Result.andThen];exact h
theorem zjj{o:Oper}{a:Act}{next:Act→World→Prop}{Q:Exit→Act→World→Prop}(t:TypeId)(m x y:Operand)(ho:o.op=.mapUpdate t m x y)(mv xv yv:Value)(hm:a.eval m=mv)(hx:a.eval x=xv)(hy:a.eval y=yv)
  (hrun:(Instr.mapUpdate t mv xv yv).run P w=.ok () w') (hd:o.dst=none) (h:next a w'):Oper.wp P o a w next Q:=by
 unfold Oper.wp execOp;simp only[ho,hm,hx,hy];simp[hrun,Result.andThen]
 show next (a.put o.dst undef) w'
 rw[hd];exact h
end
theorem zpC(w:World):(zeroValue 125).run prog w=.ok zfF.val w:=by kernel_rfl
theorem zbr.lookup{w:World}{b:Nat}{l:List zae}(h:zbr w b l){r:zae}(hr:r.wf):
  (Instr.lookup 176 (.map (some b)) (zcC r.name r.start) false).run prog w=.ok ((zbq l r).getD zfF).val w:=by
 obtain⟨D,ho,ht⟩:=h;obtain⟨v,ps,hrun,hv⟩:=ho.lookup zbC underlying176 (zpC w) (zlW zfF) (zgM hr);obtain⟨a,rfl,e⟩:=zlX hv;rw[hrun];have e1:D.atKey (kl r) (zoV zfF)=zoV a:=congrArg Prod.fst e;rw[ht.find hr] at e1
 have e2:(zbq l r).getD zfF=a:=by
  cases hf:zbq l r with
  | none=>rw[hf] at e1;exact ziD e1
  | some z=>rw[hf] at e1;exact ziD e1
 rw[e2]
theorem zbr.update{w:World}{b:Nat}{l:List zae}(h:zbr w b l){r:zae}(hr:r.wf)(a:zaL)(ha:a.wf)(hn:l.length<maxLen):
  ∃ w',(Instr.mapUpdate 176 (.map (some b)) (zcC r.name r.start) a.val).run prog w=.ok () w'∧zbr w' b (zcx (fun _ _=>a) l r)∧Fr (fun j=>j=b) w w':=by
 obtain⟨D,ho,ht⟩:=h;obtain⟨w',hrun,ho',hg⟩:=ho.update zbC underlying176 hn (zgM hr) (zlW a);exact⟨w',hrun,zbr.of ho' (ht.put hr (fun _ _=>a) ⟨hr.1,ha,hr.2.2⟩),zcP hg⟩
def mgM(o:Option zaL)(a:zaL):zaL:=zb5 [o.getD zfF,a]
theorem zmR(mg:Option zaL→zaL→zaL){l:List zae}(hl:zav l)(r:zae):zcx mg l r=zcx (fun _ _=>mg (zbq l r) r.agg) l r:=by
 refine zav.ext (zaA mg hl) (zaA _ hl) (fun y=>?_);rw[zaH mg hl,zaH _ hl];exact Iff.rfl
def zb0(every:Int)(l:List zae)(r:zae):List zae:=if zaG every r then zcx mgM l r else l
def zbN(every:Int)(l:List zae)(rs:List zae):List zae:=rs.foldl (zb0 every) l
theorem zfG(every:Int)(l rs:List zae)(r:zae):zbN every l (rs++[r])=zb0 every (zbN every l rs) r:=by unfold zbN;rw[List.foldl_append];rfl
theorem zqQ{every:Int}{l:List zae}(hl:zav l)(r:zae):(zb0 every l r).length≤l.length+1:=by
 unfold zb0
 split
 ·rw[ziq mgM hl];split<;>omega
 ·omega
theorem zk9{every:Int}{l:List zae}(hl:zav l)(r:zae):zav (zb0 every l r):=by
 unfold zb0
 split
 ·exact zaA mgM hl
 ·exact hl
theorem zde{every:Int}:∀ (rs:List zae) {l:List zae},zav l→(zbN every l rs).length≤l.length+rs.length
 | [],_,_=>by simp[zbN]
 | r::rs,l,h=>by
  have h1:=zde (every:=every) rs (zk9 (every:=every) h r);have h2:=zqQ (every:=every) h r
  show (zbN every (zb0 every l r) rs).length≤_
  rw[List.length_cons];omega
theorem zoy{l:List zaL}(h:∀ a∈l,a.wf):(zb5 l).wf:=(zgH h).1
theorem zqw{l:List zae}(h:∀ r∈l,r.wf)(r:zae):((zbq l r).getD zfF).wf:=by
 cases hf:zbq l r with
 | none=>exact zjZ.1
 | some a=>
  unfold zbq at hf;rw[Option.map_eq_some_iff] at hf;obtain⟨x,hx,rfl⟩:=hf;exact (h x (List.mem_of_find?_eq_some hx)).2.1
open Go.Maps (Keyed)
theorem zdK{w:World}{size n b k:Nat}{A:Option Addr}{xs:List Value}{es:Array MapEntry}{ck:Nat}(h:Rd w size A n xs)(hs:0<size)(hb:w.heap[b]? =some (.map es ck))(hk:adF A n k):k≠b:=by
 obtain⟨hn,ad,rfl,rfl⟩:=hk;obtain⟨ad',e,hc⟩:=h.2 hn
 cases e
 have hl:0<xs.length:=by rw[h.1];exact Nat.mul_pos hn hs
 have h0:=hc 0 _ (q6_ hl);rintro rfl;rw[zaZ] at h0;unfold World.cell? at h0;rw[hb] at h0
 cases h0
theorem zbr.isMap{w:World}{b:Nat}{l:List zae}(h:zbr w b l):∃ es ck,w.heap[b]? =some (.map es ck):=by
 obtain⟨D,⟨es,ck,hb,_⟩,_⟩:=h;exact⟨es,ck,hb⟩
theorem zg2(g:Nat)(every:Int)(b:Nat)(l rs:List zae)(A:Option Addr)(n c:Nat)(w:World)(h:zaw w g every b l)(hr:Rd w 7 A n (za1 rs))(hwf:∀ r∈rs,r.wf)(hn:l.length+n≤1000000000):
  Calls prog 89 #[.pointer (some ⟨g,0,none⟩),.slice A n c] w fun r' w'=>r'=.returned (.int .i64 ((rs.filter (zaG every)).length:Nat))∧zaw w' g every b (zbN every l rs)∧Fr (fun j=>j=b) w w':=by
 have HN:=q0_ (zdk g every b w h.blk);have Hr:=q0_ hr;have Hwf:=q0_ hwf;have Hlen:=q0_ hr.recs_len
 have Hne:Hid (∀ j,adF A n j→¬ j=b):=fun j hj=>by
  obtain⟨es,ck,hb⟩:=h.own.isMap;exact zdK hr (by decide) hb hj
 have Hs:=q0_ h.own.sorted;have HT:=q0_ h;have hgb:=h.ne;clear hr hwf h;go_enter func89,ntmps89;go_wp2_with fail;refine HN.out.mono ?_;rintro r w' ⟨rfl,rfl⟩;go_wp2_with fail
 go_loopw [5,13] (fun m i wr=>∃ k:Nat,k≤n∧m=.int .i64 (((rs.take k).filter (zaG every)).length:Nat)∧i=.int .i64 k∧zaw wr g every b (zbN every l (rs.take k))∧Fr (fun j=>j=b) w wr) (fun _ i _=>n-(intOf i).toNat)
 case atStart=>exact⟨0,Nat.zero_le _,rfl,rfl,HT.out,Fr.refl _ _⟩
 case round=>
  obtain⟨k,hk,rfl,rfl,ht,hf⟩:=hrel
  by_cases hlt:k<n
  ·obtain⟨ad,q,rfl,hq,d0,d1,d2,d3,d4,d5,d6⟩:=(Hr.out.fr hf Hne.out).rec_ hlt
   have hqw:=Hwf.out q (zab hq);have Ht:=q0_ ht;have Hf:=q0_ hf;have Hq:=q0_ hq;have hcl:=zde (every:=every) (rs.take k) Hs.out;rw[List.length_take] at hcl
   obtain⟨cur,hcur⟩:∃ cur,zbN every l (rs.take k)=cur:=⟨_,rfl⟩
   have HS1:Hid (zbN every l (rs.take (k+1))=zb0 every cur q):=by show _=_;rw[zan hq,zfG,hcur]
   have hcnt:(((rs.take k).filter (zaG every)).length:Nat)≤k:=Nat.le_trans (List.length_filter_le _ _) (by rw[List.length_take];omega)
   obtain⟨cn,hcn⟩:∃ cn,((rs.take k).filter (zaG every)).length=cn:=⟨_,rfl⟩
   have HS2:Hid (((rs.take (k+1)).filter (zaG every)).length=cn+(if zaG every q then 1 else 0)):=by
    show _=_
    rw[zan hq,List.filter_append,q8_,hcn]
    cases hrq:zaG every q<;>simp[hrq]
   rw[hcur] at Ht hcl;rw[hcn] at hcnt;rw[hcn];clear ht hf hq hcur hcn;go_wp2_with fail
   obtain⟨W1,hW1⟩:∃ W1,W1=wr.alloc (.cells #[.string q.name,.int .i64 q.start,.int .i64 q.agg.count,.int .i64 q.agg.hi,.int .u64 q.agg.lo,.int .i64 q.agg.min,.int .i64 q.agg.max] 127):=⟨_,rfl⟩
   rw[← hW1];have bq:Blk W1 wr.heap.size 127 #[.string q.name,.int .i64 q.start,.int .i64 q.agg.count,.int .i64 q.agg.hi,.int .u64 q.agg.lo,.int .i64 q.agg.min,.int .i64 q.agg.max]:=hW1▸Blk.new _ _ _
   have t1:zaw W1 g every b cur:=by rw[hW1];exact Ht.out.fr0 (Fr.none_alloc _ _)
   have f1:Fr (fun j=>j=b) w W1:=by rw[hW1];exact Hf.out.trans (Fr.none_alloc _ _) q4_
   have HR:=q0_ (zoe g every b q hqw W1 t1.blk);unfold zae.val at HR;refine HR.out.mono ?_;rintro r w5 ⟨rfl,b5⟩;have B5:=q0_ (bq.below b5);have T5:=q0_ (t1.fr0 (Fr.b0 b5));have F5:=q0_ (f1.trans (Fr.b0 b5) q4_);clear bq t1 f1 hW1 b5 HR Ht Hf d0 d1 d2 d3 d4 d5 d6
   cases hrt:zaG every q
   ·go_wp2
    go_roundw
    case rel=>exact⟨k+1,by omega,by rw[HS2.out,hrt];rfl,by go_num,by rw[HS1.out];unfold zb0;rw[hrt];exact T5.out,F5.out⟩
    case measure=>simp[intOf];omega
   ·have x0:=B5.out.cell 0
    have x1:=B5.out.cell 1;simp only[q1_,q2_,q3_] at x0 x1;go_wp2_with fail
    obtain⟨W2,hW2⟩:∃ W2,W2=w5.alloc (.cells #[.string q.name,.int .i64 q.start] 180):=⟨_,rfl⟩
    rw[← hW2]
    have bq:Blk W2 wr.heap.size 127 #[.string q.name,.int .i64 q.start,.int .i64 q.agg.count,.int .i64 q.agg.hi,.int .u64 q.agg.lo,.int .i64 q.agg.min,.int .i64 q.agg.max]:=by rw[hW2];exact B5.out.alloc _
    have bk:Blk W2 w5.heap.size 180 #[.string q.name,.int .i64 q.start]:=hW2▸Blk.new _ _ _
    have t2:zaw W2 g every b cur:=by rw[hW2];exact T5.out.fr0 (Fr.none_alloc _ _)
    have f2:Fr (fun j=>j=b) w W2:=by rw[hW2];exact F5.out.trans (Fr.none_alloc _ _) q4_
    obtain⟨es,ck,hbm⟩:=t2.own.isMap
    have nq:wr.heap.size≠b:=fun e=>by
     have hb0:W2.heap[wr.heap.size]? =some (.cells _ _ (0,0)):=bq;rw[e,hbm] at hb0;cases hb0
    have nk:w5.heap.size≠b:=fun e=>by
     have hb0:W2.heap[w5.heap.size]? =some (.cells _ _ (0,0)):=bk;rw[e,hbm] at hb0;cases hb0
    have HC:Hid (∀ W,Fr (fun j=>j=b) W2 W→W.cell? ⟨g,1,none⟩=some (.map (some b))∧W.cell? ⟨wr.heap.size,2,none⟩=some (.int .i64 q.agg.count)∧W.cell? ⟨wr.heap.size,3,none⟩=some (.int .i64 q.agg.hi)∧W.cell? ⟨wr.heap.size,4,none⟩=some (.int .u64 q.agg.lo)∧W.cell? ⟨wr.heap.size,5,none⟩=some (.int .i64 q.agg.min)∧W.cell? ⟨wr.heap.size,6,none⟩=some (.int .i64 q.agg.max)∧W.cell? ⟨w5.heap.size,0,none⟩=some (.string q.name)∧W.cell? ⟨w5.heap.size,1,none⟩=some (.int .i64 q.start)):=fun W f=>⟨(t2.blk.fr f hgb).cell 1,(bq.fr f nq).cell 2,(bq.fr f nq).cell 3,(bq.fr f nq).cell 4,(bq.fr f nq).cell 5,(bq.fr f nq).cell 6,(bk.fr f nk).cell 0,(bk.fr f nk).cell 1⟩
    obtain⟨cu,hcu⟩:∃ cu,(zbq cur q).getD zfF=cu:=⟨_,rfl⟩
    have HL:Hid ((Instr.lookup 176 (.map (some b)) (zcC q.name q.start) false).run prog W2.drew=.ok cu.val W2.drew):=by
     show _=_
     rw[← hcu];exact (t2.own.fr (Fr.refl (fun _=>False) W2).drew (fun h=>h)).lookup hqw
    have hcw:cu.wf:=hcu▸zqw t2.own.wf q
    obtain⟨mg,hmg⟩:∃ mg,zb5 [cu,q.agg]=mg:=⟨_,rfl⟩
    have hmw:mg.wf:=hmg▸zoy (fun a ha=>by simp at ha;rcases ha with rfl | rfl;exact hcw;exact hqw.2.1)
    have HM:Hid (∀ W A c,Rd W 5 A 2 (zpu [cu,q.agg])→Calls prog 137 #[.slice A 2 c] W fun r w''=>r=.returned mg.val∧Below W.heap.size W w''):=fun W A c hrd=>by
     rw[← hmg];exact zox [cu,q.agg] A 2 c W hrd (fun a ha=>by simp at ha;rcases ha with rfl | rfl;exact hcw;exact hqw.2.1) (by decide)
    have HU:Hid (∀ W,Fr (fun j=>j=b) W2 W→zbr W b cur→∃ w',(Instr.mapUpdate 176 (.map (some b)) (zcC q.name q.start) mg.val).run prog W=.ok () w'∧zbr w' b (zb0 every cur q)∧Fr (fun j=>j=b) W w'):=fun W f ho=>by
     obtain⟨w',h1,h2,h3⟩:=ho.update hqw mg hmw (by unfold maxLen;omega);refine⟨w',h1,?_,h3⟩;unfold zb0;rw[hrt,if_pos rfl,zmR mgM t2.own.sorted];unfold mgM;rw[hcu,hmg];exact h2
    have HO:=q0_ t2.own;have HB2:=q0_ t2.blk;have F2:=q0_ f2;unfold zaL.val at HM;unfold zpu zaL.cells at HM;clear bq bk t2 f2 hbm nq nk hcu hmg hW2 x0 x1 B5 T5 F5 hcw hmw;refine wp_region_held_drew (S:=fun W=>Fr (fun j=>j=b) W2 W) (by kernel_rfl) ((Fr.refl _ W2).drew) (fun hY_=>?_);refine tq 12 [0,1,2,3,4,5,6,7,8,9,11,12] ?_
    iterate 11 refine sf HC.out ?_
    refine sf HC.out ?_
    try simp only[Act.put,sA,sB,sC]
    refine sz ?_
    try simp only[Act.put,sA,sB,sC]
    refine rl 10 rfl (fun K hK=>?_);rw[if_pos (by rfl)];refine zoq _ _ _ rfl (.map (some b)) (zcC q.name q.start) (.agg #[.int .i64 cu.count,.int .i64 cu.hi,.int .u64 cu.lo,.int .i64 cu.min,.int .i64 cu.max]) rfl rfl HL.out ?_;refine hK.out _ _ (hY_) (fun hY_=>?_);clear hK K
    try simp only[Act.put,sA,sB,sC]
    refine rl 13 rfl (fun K hK=>?_);go_simp;refine hK.out _ _ (((Fr.none_alloc W2 _).mono q4_).drew) (fun hY_=>?_);clear hK K
    try simp only[Act.put,sA,sB,sC]
    refine rl 14 rfl (fun K hK=>?_);go_simp
    go_wp2_with (go_at_call 137;refine (HM.out _ _ _ (Rd.newS (w:=W2) (k:=W2.heap.size) rfl _ _ 2 5 rfl).drew).mono ?_;rintro r w6 ⟨rfl,b6⟩)
    refine hK.out _ _ (hY_.trans (Fr.b0 b6) q4_) (fun hY_=>?_);clear hK K
    try simp only[Act.put,sA,sB,sC]
    refine rl 15 rfl (fun K hK=>?_);rw[if_pos (by rfl)];have hF6:zbr w6 b cur:=((HO.out.fr (Fr.refl (fun _=>False) W2).drew (fun h=>h)).fr (Fr.none_alloc _ _) (fun h=>h)).fr (Fr.b0 b6) (fun h=>h);obtain⟨w7,hrun,ho7,f7⟩:=HU.out _ hY_ hF6;refine zjj _ _ _ _ rfl (.map (some b)) (zcC q.name q.start) mg.val rfl rfl rfl hrun rfl ?_;refine hK.out _ _ (hY_.trans f7 (fun i hi=>.inl hi)) (fun hY_=>?_);clear hK K
    try simp only[Act.put,sA,sB,sC]
    refine wpAnyH_done (by kernel_rfl) ?_ _;have F7:=q0_ (F2.out.trans hY_ (fun i hi=>.inl hi));have T7:=q0_ (zaw.mk (HB2.out.fr hY_ hgb) ho7);clear hY_ ho7 f7 b6;go_wp2
    go_roundw
    case rel=>exact⟨k+1,by omega,by rw[HS2.out,hrt];rfl,by go_num,by rw[HS1.out];exact T7.out,F7.out⟩
    case measure=>simp[intOf];omega
  ·obtain rfl:k=n:=by omega
   have hl:rs.take k=rs:=za3 (by rw[Hlen.out];exact Nat.le_refl _);rw[hl] at ht ⊢;have Ht:=q0_ ht;have Hf:=q0_ hf;clear ht hf hl;go_wp2;go_ret;exact⟨rfl,Ht.out,Hf.out⟩
end Go.Proofs.YtjhhodndlkpmhaaGreatDoor
