/- Walk of tiers: New. -/
import Derived.Test.YteajonicnkpbbaaGreatDoorTiersP
namespace Go.Proofs.YteajonicnkpbbaaGreatDoor
set_option linter.all false
set_option maxHeartbeats 8000000
set_option maxRecDepth 100000
open Go.RowKit Tryz
theorem zgj:(prog.info? 208).map (fun i=>(i.zero,i.size,i.bytes))=some (some (.pointer none),1,8):=by kernel_rfl
def ze1(l:List zaa)(fl:List Int)(k:Nat):Bool:=
 match fl[k]?,l[k]? with
 | some f,some t=>decide (0≤f)&&onB f t.every
 | _,_=>true
def zng(l:List zaa)(fl:List Int):Bool:=(List.range fl.length).all (ze1 l fl)
def zkz(nm:ByteArray)(l:List zaa)(now:Int)(fl:List Int):Int:=
 if zal nm l then (if now<0∨1099511627776<now∨l.length<fl.length then 1 else if zng l fl then 0 else 1) else 23
def zjQ(nm:ByteArray)(l:List zaa)(now:Int)(fl:List Int):zae:=⟨now,nm,l,fl,l.map fun _=>[]⟩
theorem znX(nm:ByteArray)(hnm:nm.size≤maxLen)(l:List zaa)(A:Option Addr)(n c:Nat)(now:Int)(hnow:i64 now)(fl:List Int)(B:Option Addr)(m d:Nat)(w:World)(hr:Rd w 4 A n (zaf l))(hnc:n≤c)(hwf:∀ t∈l,t.wf)(hn:n≤1099511627776)(hf:Rd w 1 B m (za6 fl))(hm:m≤1099511627776):
  Calls prog 95 #[zdw nm A n c,.int .i64 now,.slice B m d] w fun r w'=>((zkz nm l now fl=0→∃ t,r=.returned (.tuple #[.pointer (some ⟨t,0,none⟩),.int .i64 0])∧zcR w' t w.heap.size (zjQ nm l now fl))∧(zkz nm l now fl≠0→r=.returned (.tuple #[.pointer none,.int .i64 (zkz nm l now fl)])))∧Below w.heap.size w w':=by
 have HCk:Hid (∀ w',Fr (fun _=>False) w w'→Calls prog 112 #[zdw nm A n c] w' fun r w''=>(∃ k:Int,r=.returned (.tuple #[.int .i64 (zeg (zal nm l)),.int .i64 k]))∧Below w'.heap.size w' w''):=
  fun w' h=>zeD nm hnm l A n c w' (hr.fr0 h) hnc (fun t ht=>(hwf t ht).2.2.2)
 have HOf:Hid (∀ w',Fr (fun _=>False) w w'→Calls prog 141 #[zdw nm A n c,.int .i64 now,.slice B m d] w' fun r w''=>(∃ A' c' B' d',r=.returned (zdi now nm A' n c' B' m d')∧w''.ownsRow w'.heap.size 99 4 (.slice A' n c') n (zaf l)∧w''.ownsRow w'.heap.size 3 1 (.slice B' m d') m (za6 fl))∧Below w'.heap.size w' w''):=
  fun w' h=>of_own nm l A n c now fl B m d w' (hr.fr0 h) hn (hf.fr0 h) hm
 have Hr:=q0_ hr;have Hf0:=q0_ hf;have Hln:=q0_ hr.tiers_len;have Hlm:=q0_ (Rd.len_map hf)
 have hnm0:((l.length<fl.length)↔((n:Int)<(m:Int))):=by rw[Hln.out,Hlm.out];omega
 have Hev:=q0_ (fun (h:zal nm l=true) (x:zaa) (hx:x∈l)=>(zaY h hx).1)
 obtain⟨E,hE⟩:∃ E,zkz nm l now fl=E:=⟨_,rfl⟩
 rw[hE];unfold zkz at hE;simp only[hnm0] at hE;clear hr hf hwf hnm0;unfold zdw at HCk HOf ⊢
 cases hck:zal nm l
 ·rw[hck,show zeg false=23 from rfl] at HCk
  rw[hck,if_neg (by simp)] at hE;subst hE;clear HOf;go_enter func95,ntmps95;go_wp2_with fail;refine (HCk.out _ (Fr.none_alloc _ _)).mono ?_;rintro r w1 ⟨⟨kk,rfl⟩,b1⟩;have BP:=q0_ ((Blk.new w 25 #[.string nm,.slice A n c]).below b1);have F1:Hid (Fr (fun _=>False) w w1):=(Fr.none_alloc w _).trans (Fr.b0 b1) q4_;have d0:=BP.out.cell 0;have d1:=BP.out.cell 1;simp only[q1_,q2_,q3_] at d0 d1;clear b1;go_wp2
  go_ret2
  exact⟨⟨fun h=>absurd h (by decide),fun _=>rfl⟩,F1.out.below q4_⟩
 rw[hck,show zeg true=0 from rfl] at HCk;rw[hck,if_pos rfl] at hE;have Hev:=q0_ (Hev.out hck);clear hck
 by_cases h1:now<0
 ·have hd1:decide (now<0)=true:=qa_ h1
  rw[if_pos (.inl h1)] at hE;subst hE;clear HOf;go_enter func95,ntmps95;go_wp2_with fail;refine (HCk.out _ (Fr.none_alloc _ _)).mono ?_;rintro r w1 ⟨⟨kk,rfl⟩,b1⟩;have BP:=q0_ ((Blk.new w 25 #[.string nm,.slice A n c]).below b1);have F1:Hid (Fr (fun _=>False) w w1):=(Fr.none_alloc w _).trans (Fr.b0 b1) q4_;have d0:=BP.out.cell 0;have d1:=BP.out.cell 1;simp only[q1_,q2_,q3_] at d0 d1;clear b1;go_wp2
  go_ret2
  exact⟨⟨fun h=>absurd h (by decide),fun _=>rfl⟩,F1.out.below q4_⟩
 have hd1:decide (now<0)=false:=q9_ h1
 by_cases h2:1099511627776<now
 ·have hd2:decide (1099511627776<now)=true:=qa_ h2
  rw[if_pos (.inr (.inl h2))] at hE;subst hE;clear HOf;go_enter func95,ntmps95;go_wp2_with fail;refine (HCk.out _ (Fr.none_alloc _ _)).mono ?_;rintro r w1 ⟨⟨kk,rfl⟩,b1⟩;have BP:=q0_ ((Blk.new w 25 #[.string nm,.slice A n c]).below b1);have F1:Hid (Fr (fun _=>False) w w1):=(Fr.none_alloc w _).trans (Fr.b0 b1) q4_;have d0:=BP.out.cell 0;have d1:=BP.out.cell 1;simp only[q1_,q2_,q3_] at d0 d1;clear b1;go_wp2
  go_ret2
  exact⟨⟨fun h=>absurd h (by decide),fun _=>rfl⟩,F1.out.below q4_⟩
 have hd2:decide (1099511627776<now)=false:=q9_ h2
 by_cases h3:(n:Int)<(m:Int)
 ·have hd3:decide ((n:Int)<(m:Int))=true:=qa_ h3
  have hd4:decide (n<m)=true:=qa_ (by omega)
  have h4:n<m:=by omega
  rw[if_pos (.inr (.inr h3))] at hE;subst hE;clear HOf;go_enter func95,ntmps95;go_wp2_with fail;refine (HCk.out _ (Fr.none_alloc _ _)).mono ?_;rintro r w1 ⟨⟨kk,rfl⟩,b1⟩;have BP:=q0_ ((Blk.new w 25 #[.string nm,.slice A n c]).below b1);have F1:Hid (Fr (fun _=>False) w w1):=(Fr.none_alloc w _).trans (Fr.b0 b1) q4_;have d0:=BP.out.cell 0;have d1:=BP.out.cell 1;simp only[q1_,q2_,q3_] at d0 d1;clear b1;go_wp2
  go_ret2
  exact⟨⟨fun h=>absurd h (by decide),fun _=>rfl⟩,F1.out.below q4_⟩
 have hd3:decide ((n:Int)<(m:Int))=false:=q9_ h3;have hd4:decide (n<m)=false:=q9_ (by omega);rw[if_neg (by omega)] at hE;have HE:=q0_ hE;clear hE;obtain⟨i0,hi,hz0,hz1,hz2⟩:=info_parts zgj;go_enter func95,ntmps95;go_wp2_with fail;refine (HCk.out _ (Fr.none_alloc _ _)).mono ?_;rintro r w1 ⟨⟨kk,rfl⟩,b1⟩;have BP:=q0_ ((Blk.new w 25 #[.string nm,.slice A n c]).below b1);have F1:Hid (Fr (fun _=>False) w w1):=(Fr.none_alloc w _).trans (Fr.b0 b1) q4_;have d0:=BP.out.cell 0;have d1:=BP.out.cell 1;simp only[q1_,q2_,q3_] at d0 d1;clear b1
 have h4:m≤n:=by omega
 clear h3;go_wp2_with fail
 go_loopw [39] (fun i wr=>∃ k:Nat,k≤m∧i=.int .i64 k∧w1=wr∧∀ j,j<k→ze1 l fl j=true) (fun i _=>m-(intOf i).toNat)
 case atStart=>exact⟨0,Nat.zero_le _,rfl,rfl,fun j hj=>absurd hj (by omega)⟩
 case round=>
  obtain⟨k,hk,rfl,rfl,hall⟩:=hrel;have Hall:=q0_ hall;clear hall
  by_cases hlt:k<m
  ·obtain⟨bd,f,rfl,hfu,hfc⟩:=(Hf0.out.fr0 F1.out).at_map hlt
   obtain⟨ad,x,rfl,hxu,e0,e1,e2,e3⟩:=(Hr.out.fr0 F1.out).tier (k:=k) (by omega)
   have hok:ze1 l fl k=(decide (0≤f)&&onB f x.every):=by unfold ze1;rw[hfu,hxu]
   have Hok:=q0_ hok;have HOn:Hid (∀ W,Calls prog 140 #[.int .i64 f,.int .i64 x.every] W fun r w'=>r=.returned (.bool (onB f x.every))∧W=w'):=fun W=>zp0 f x.every W
   have HEb:Hid (ze1 l fl k=false→E=1):=fun h=>by
    rw[← HE.out,if_neg];intro hall;have:=List.all_eq_true.1 hall k (List.mem_range.2 (by rw[Hlm.out];exact hlt));rw[h] at this
    cases this
   have kn:0≤(k:Int)∧(k:Int)<(m:Int)∧(k:Int)<(n:Int):=by omega
   have kn2:k<m∧k<n:=by omega
   clear hok hfu hxu e0 e2 e3
   by_cases h0:f<0
   ·have hd5:decide (f<0)=true:=qa_ h0
    have hE1:Hid (E=1):=HEb.out (by rw[Hok.out,q9_ (by omega)];rfl);go_wp2
    go_ret2
    rw[hE1.out];exact⟨⟨fun h=>absurd h (by decide),fun _=>rfl⟩,F1.out.below q4_⟩
   ·have hd5:decide (f<0)=false:=q9_ h0
    cases hon:onB f x.every
    ·rw[hon] at HOn
     have hE1:Hid (E=1):=HEb.out (by rw[Hok.out,hon,Bool.and_false]);go_wp2_with fail;refine (HOn.out _).mono ?_;rintro r w' ⟨rfl,rfl⟩;go_wp2
     go_ret2
     rw[hE1.out];exact⟨⟨fun h=>absurd h (by decide),fun _=>rfl⟩,F1.out.below q4_⟩
    ·rw[hon] at HOn
     go_wp2_with fail;refine (HOn.out _).mono ?_;rintro r w' ⟨rfl,rfl⟩;go_wp2
     go_roundw
     case rel=>
      refine⟨k+1,by omega,by go_num,by trivial,fun j hj=>?_⟩
      by_cases e:j=k
      ·subst e
       rw[Hok.out,hon,qa_ (by omega)];rfl
      ·exact Hall.out j (by omega)
     case measure=>simp[intOf];omega
  ·have hE0:E=0:=by
    rw[← HE.out,if_pos];exact List.all_eq_true.2 fun j hj=>Hall.out j (by have:=List.mem_range.1 hj;rw[Hlm.out] at this;omega)
   have HE0:=q0_ hE0;have HO:=q0_ (HOf.out w1 F1.out);clear hE0 HE Hall HOf HCk Hf0;go_wp2_with fail;refine HO.out.mono ?_;rintro r w2 ⟨⟨A',c',B',d',rfl,ho1,ho2⟩,b2⟩
   obtain⟨s,hs⟩:∃ s,w1.heap.size=s:=⟨_,rfl⟩
   rw[hs] at ho1 ho2
   have hs2:s≤w2.heap.size:=by rw[← hs];exact b2.size
   have hsw:w.heap.size≤s:=by rw[← hs];exact F1.out.size
   obtain⟨t,htd⟩:∃ t,w2.heap.size=t:=⟨_,rfl⟩
   have Ho1:=q0_ ho1;have Ho2:=q0_ ho2;have B2:=q0_ (BP.out.below b2);have F2:=q0_ (F1.out.trans (Fr.b0 b2) q4_);unfold zdi;clear ho1 ho2 b2 d0 d1 HO;have d1:=(B2.out.alloc (.cells #[.int .i64 now,.string nm,.slice A' n c',.slice B' m d',.slice none 0 0] 87)).cell 1;simp only[q1_,q2_,q3_] at d1;go_wp2_with fail
   obtain⟨W3,hW3⟩:∃ W3,W3=w2.alloc (.cells #[.int .i64 now,.string nm,.slice A' n c',.slice B' m d',.slice none 0 0] 87):=⟨_,rfl⟩
   rw[← hW3]
   try rw[htd]
   have F3:Hid (Fr (fun _=>False) w W3):=by show Fr _ _ _;rw[hW3];exact F2.out.trans (Fr.none_alloc _ _) q4_
   have BP3:Hid (Blk W3 w.heap.size 25 #[.string nm,.slice A n c]):=by show Blk _ _ _ _;rw[hW3];exact B2.out.alloc _
   have hP0:zci W3 t s (zjQ nm l now fl) A' c' B' d' none 0 [] 0:=by
    have hb:Blk W3 t 87 #[.int .i64 now,.string nm,.slice A' n c',.slice B' m d',.slice none 0 0]:=by rw[hW3];exact Blk.new' htd.symm _ _
    refine⟨?_,?_,?_,World.ownsRow_nil _ _ _ _,fun i p x l h=>by simp at h,fun p hp=>by simp at hp,by simp,fun p hp=>by simp at hp,by omega⟩
    ·show Blk _ _ _ #[.int .i64 now,.string nm,.slice A' l.length c',.slice B' fl.length d',_]
     rw[Hln.out,Hlm.out];exact hb
    ·show W3.ownsRow s _ 4 (.slice A' l.length c') l.length (zaf l)
     rw[Hln.out,hW3];exact za_ Ho1.out (Fr.none_alloc _ _)
    ·show W3.ownsRow s _ 1 (.slice B' fl.length d') fl.length (za6 fl)
     rw[Hlm.out,hW3];exact za_ Ho2.out (Fr.none_alloc _ _)
   have HP0:=q0_ hP0
   have hs3:s≤W3.heap.size:=by rw[hW3];simp;omega
   clear hP0 Ho1 Ho2 B2 F2 d1 BP F1 hW3
   go_loopw [67] (fun i wr=>∃ (k:Nat) (T:Option Addr) (ct:Nat) (tb:List (Nat×Nat)),k≤n∧i=.int .i64 k∧zci wr t s (zjQ nm l now fl) A' c' B' d' T ct tb k∧Fr (fun j=>s≤j) W3 wr) (fun i _=>n-(intOf i).toNat)
   case atStart=>exact⟨0,none,0,[],Nat.zero_le _,rfl,HP0.out,Fr.refl _ _⟩
   case round=>
    obtain⟨k,T,ct,tb,hk,rfl,hp,hf⟩:=hrel;have Hf:Hid (Fr (fun j=>s≤j) W3 wr):=hf;have hsr:s≤wr.heap.size:=Nat.le_trans hs3 hf.size
    by_cases hlt:k<n
    ·obtain⟨ad,x,rfl,hxu,e0,e1,e2,e3⟩:=((Hr.out.fr0 F3.out).fr hf (fun j hj=>by have:=Hr.out.adlt (by decide) j hj;omega)).tier hlt
     have hmx:max x.every 1=x.every:=by have:=Hev.out x (zab hxu);omega
     have Hx:=q0_ hxu;have HP:=q0_ hp;clear hp hf hxu;go_wp2_with fail
     obtain⟨W1,hW1⟩:∃ W1,W1=wr.alloc (.cells #[.string x.name,.int .i64 x.every,.int .i64 x.keep,.int .i64 x.shards] 99):=⟨_,rfl⟩
     rw[← hW1];have hbx:Blk W1 wr.heap.size 99 #[.string x.name,.int .i64 x.every,.int .i64 x.keep,.int .i64 x.shards]:=hW1▸Blk.new _ _ _
     have hT:zci W1 t s (zjQ nm l now fl) A' c' B' d' T ct tb k:=by rw[hW1];exact HP.out.fr0 (Fr.none_alloc _ _)
     have fF:Fr (fun j=>s≤j) W3 W1:=by rw[hW1];exact Hf.out.trans (Fr.none_alloc _ _) q4_
     have hs1:s≤W1.heap.size:=Nat.le_trans hs3 fF.size
     have HNw:Hid (Calls prog 142 #[.int .i64 x.every] W1.drew fun r w'=>(∃ g b,r=.returned (.pointer (some ⟨g,0,none⟩))∧zbp w' g x.every b []∧W1.heap.size≤g∧W1.heap.size≤b)∧Below W1.drew.heap.size W1.drew w'):=by
      have:=zgX x.every W1.drew;rw[hmx] at this;exact this
     have FD:Hid (Fr (fun _=>False) W1 W1.drew):=(Fr.refl _ W1).drew;have D1:W1.drew.cell? ⟨wr.heap.size,1,none⟩=some (.int .i64 x.every):=hbx.cell 1;have D2:W1.drew.cell? ⟨t,4,none⟩=some (.slice T k ct):=hT.blk.cell 4
     have HP5:Hid (∀ w5,Fr (fun _=>False) W1.drew w5→w5.cell? ⟨t,4,none⟩=some (.slice T k ct)∧s≤w5.heap.size):=fun w5 h=>⟨((hT.fr0 FD.out).fr0 h).blk.cell 4,Nat.le_trans hs1 h.size⟩
     have HM6:∀ w5,Fr (fun _=>False) W1.drew w5→∀ o T6 c6 w6,Mv (zag (.slice T k ct)) (zag (.slice T6 (k+1) c6)) (w5.alloc o) w6→Blk w6 t 87 _:=fun w5 h o T6 c6 w6 hm=>
      (((hT.fr0 FD.out).fr0 h).fr0 (Fr.none_alloc w5 o)).blk.fr hm.fr (fun hj=>zac (((hT.fr0 FD.out).fr0 h).fr0 (Fr.none_alloc w5 o)).row (((hT.fr0 FD.out).fr0 h).fr0 (Fr.none_alloc w5 o)).blk (by decide) hj)
     have HP6:Hid (∀ w5,Fr (fun _=>False) W1.drew w5→∀ o T6 c6 w6,Mv (zag (.slice T k ct)) (zag (.slice T6 (k+1) c6)) (w5.alloc o) w6→w6.cell? ⟨t,4,none⟩=some (.slice T k ct)):=fun w5 h o T6 c6 w6 hm=>(HM6 w5 h o T6 c6 w6 hm).cell 4;have HF6:Hid (∀ w5,Fr (fun _=>False) W1.drew w5→∀ o T6 c6 w6,Mv (zag (.slice T k ct)) (zag (.slice T6 (k+1) c6)) (w5.alloc o) w6→w6.frozen? ⟨t,4,none⟩=false):=fun w5 h o T6 c6 w6 hm=>(HM6 w5 h o T6 c6 w6 hm).frozen 4
     have HZ:Hid (∀ w5,Fr (fun _=>False) W1.drew w5→∀ o g b T6 c6 w6,zbp w5 g x.every b []→W1.heap.size≤g→W1.heap.size≤b→w6.ownsRow s 208 1 (.slice T6 (k+1) c6) (k+1) (zfC tb++[.pointer (some ⟨g,0,none⟩)])→Mv (zag (.slice T k ct)) (zag (.slice T6 (k+1) c6)) (w5.alloc o) w6→
       zci (w6.setCell ⟨t,4,none⟩ (.slice T6 (k+1) c6)) t s (zjQ nm l now fl) A' c' B' d' T6 c6 (tb++[(g,b)]) (k+1)∧Fr (fun j=>s≤j) W3 (w6.setCell ⟨t,4,none⟩ (.slice T6 (k+1) c6))):=by
      intro w5 h o g b T6 c6 w6 ht hg hb ho hm;have q:=hT.snoc (FD.out.trans h q4_) hs1 hg hb (x:=x) (l:=[]) Hx.out (by show (l.map fun _=>([]:List zah))[k]? =_;rw[List.getElem?_map,Hx.out];rfl) ht o ho hm;exact⟨q.1,fF.trans q.2 (fun _ h=>.inl h)⟩
     have Hk:Hid (k+1≤maxLen∧(k+1)*8≤140737488355328):=⟨by unfold maxLen;omega,by omega⟩
     have HT:=q0_ hT;clear hT hbx fF HM6 hW1 HP Hf e0 e1 e2 e3 hmx;go_wp2_with fail;refine wp_region_any (by kernel_rfl) ?_;change wpAny _ _ _ _ _ _ _ (World.drew _);refine nl 0 ?v1 rfl ?q1 ?r1
     case q1=>intro W;go_simp;try rfl
     refine nl 1 ?v2 rfl ?q2 ?r2
     case q2=>intro W;go_simp;try rfl
     refine nl 2 ?v3 rfl ?q3 ?r3
     case q3=>intro W;go_simp;try rfl
     refine nl 3 ?v4 rfl ?q4 ?r4
     case q4=>intro W;go_simp;try rfl
     refine nl 5 ?v5 rfl ?q5 ?r5
     case q5=>intro W;go_simp;try rfl
     try simp only[Act.put,sA,sB,sC]
     refine wpAny_ready (rs:=[4,6]) (by kernel_rfl) (by simp) ?_;refine AllReady.cons (dg rfl) (fun K hK=>?_) ?_
     ·go_simp
      refine hK _ _ ?_;clear hK K
      try simp only[Act.put,sA,sB,sC]
      refine rn 6 rfl (fun K hK=>?_);go_simp;refine hK _ _ ?_;clear hK K
      try simp only[Act.put,sA,sB,sC]
      refine rn 7 rfl (fun K hK=>?_);go_simp
      go_wp2_with (go_at_call 142;refine HNw.out.mono ?_;rintro r w5 ⟨⟨g,b,rfl,g5⟩,b5⟩;have q5:=(HP5.out w5 (Fr.b0 b5)).1;have q5a:=fun o=>(HP5.out (w5.alloc o) ((Fr.b0 b5).trans (Fr.none_alloc w5 o) q4_)).1;try dsimp only)
      refine rn 8 rfl (fun K hK=>?_);go_simp;refine hK _ _ ?_;clear hK K
      try simp only[Act.put,sA,sB,sC]
      refine rn 9 rfl (fun K hK=>?_);rw[if_pos (by rfl)];refine zaZ (.tmp 75) (.tmp 79) 85 rfl 208 i0 (.pointer none) 1 8 underlying85 hi hz0 hz1 hz2 rfl (by decide) (.slice T k ct) k _ rfl s (Nat.le_trans (HP5.out w5 (Fr.b0 b5)).2 (Fr.none_alloc w5 _).size) (za_ (za_ (za_ HT.out.row (FD.out)) (Fr.b0 b5)) (Fr.none_alloc _ _)) (some ⟨w5.heap.size,0,none⟩) 1 1 [.pointer (some ⟨g,0,none⟩)] rfl (Rd.new w5 [.pointer (some ⟨g,0,none⟩)] _ 1 rfl) (by simp[Value.oneCell']) Hk.out.1 Hk.out.2 ?_;intro T6 c6 w6 ho6 hm6 _;have q6:=HP6.out w5 (Fr.b0 b5) _ _ _ _ hm6;have f6:=HF6.out w5 (Fr.b0 b5) _ _ _ _ hm6;have Hz:=q0_ (HZ.out w5 (Fr.b0 b5) _ _ _ _ _ _ g5.1 g5.2.1 g5.2.2 ho6 hm6);clear ho6 hm6 D1 D2;refine hK _ _ ?_;clear hK K;refine nl 10 ?v6 rfl ?q6 ?r6
      case q6=>intro W;go_simp;try rfl
      refine nl 11 ?v7 rfl ?q7 ?r7
      case q7=>intro W;go_simp;try rfl
      try simp only[Act.put,sA,sB,sC]
      refine rn 12 rfl (fun K hK=>?_);go_simp;refine hK _ _ ?_;clear hK K
      try simp only[Act.put,sA,sB,sC]
      refine wpAny_done (by kernel_rfl) ?_ _;go_wp2
      go_roundw
      case rel=>exact⟨k+1,T6,c6,_,by omega,by go_num,Hz.out.1,Hz.out.2⟩
      case measure=>simp[intOf];omega
     refine AllReady.cons (dg rfl) (fun K hK=>?_) ?_
     ·go_simp
      refine hK _ _ ?_;clear hK K
      try simp only[Act.put,sA,sB,sC]
      refine wpAny_ready (rs:=[4,7]) (by kernel_rfl) (by simp) ?_;refine AllReady.cons (dg rfl) (fun K hK=>?_) ?_
      ·go_simp
       refine hK _ _ ?_;clear hK K
       try simp only[Act.put,sA,sB,sC]
       refine rn 7 rfl (fun K hK=>?_);go_simp
       go_wp2_with (go_at_call 142;refine HNw.out.mono ?_;rintro r w5 ⟨⟨g,b,rfl,g5⟩,b5⟩;have q5:=(HP5.out w5 (Fr.b0 b5)).1;have q5a:=fun o=>(HP5.out (w5.alloc o) ((Fr.b0 b5).trans (Fr.none_alloc w5 o) q4_)).1;try dsimp only)
       refine rn 8 rfl (fun K hK=>?_);go_simp;refine hK _ _ ?_;clear hK K
       try simp only[Act.put,sA,sB,sC]
       refine rn 9 rfl (fun K hK=>?_);rw[if_pos (by rfl)];refine zaZ (.tmp 75) (.tmp 79) 85 rfl 208 i0 (.pointer none) 1 8 underlying85 hi hz0 hz1 hz2 rfl (by decide) (.slice T k ct) k _ rfl s (Nat.le_trans (HP5.out w5 (Fr.b0 b5)).2 (Fr.none_alloc w5 _).size) (za_ (za_ (za_ HT.out.row (FD.out)) (Fr.b0 b5)) (Fr.none_alloc _ _)) (some ⟨w5.heap.size,0,none⟩) 1 1 [.pointer (some ⟨g,0,none⟩)] rfl (Rd.new w5 [.pointer (some ⟨g,0,none⟩)] _ 1 rfl) (by simp[Value.oneCell']) Hk.out.1 Hk.out.2 ?_;intro T6 c6 w6 ho6 hm6 _;have q6:=HP6.out w5 (Fr.b0 b5) _ _ _ _ hm6;have f6:=HF6.out w5 (Fr.b0 b5) _ _ _ _ hm6;have Hz:=q0_ (HZ.out w5 (Fr.b0 b5) _ _ _ _ _ _ g5.1 g5.2.1 g5.2.2 ho6 hm6);clear ho6 hm6 D1 D2;refine hK _ _ ?_;clear hK K;refine nl 10 ?v8 rfl ?q8 ?r8
       case q8=>intro W;go_simp;try rfl
       refine nl 11 ?v9 rfl ?q9 ?r9
       case q9=>intro W;go_simp;try rfl
       try simp only[Act.put,sA,sB,sC]
       refine rn 12 rfl (fun K hK=>?_);go_simp;refine hK _ _ ?_;clear hK K
       try simp only[Act.put,sA,sB,sC]
       refine wpAny_done (by kernel_rfl) ?_ _;go_wp2
       go_roundw
       case rel=>exact⟨k+1,T6,c6,_,by omega,by go_num,Hz.out.1,Hz.out.2⟩
       case measure=>simp[intOf];omega
      refine AllReady.cons (dg rfl) (fun K hK=>?_) ?_
      ·go_simp
       go_wp2_with (go_at_call 142;refine HNw.out.mono ?_;rintro r w5 ⟨⟨g,b,rfl,g5⟩,b5⟩;have q5:=(HP5.out w5 (Fr.b0 b5)).1;have q5a:=fun o=>(HP5.out (w5.alloc o) ((Fr.b0 b5).trans (Fr.none_alloc w5 o) q4_)).1;try dsimp only)
       try simp only[Act.put,sA,sB,sC]
       refine wpAny_ready (rs:=[4,8]) (by kernel_rfl) (by simp) ?_;refine AllReady.cons (dg rfl) (fun K hK=>?_) ?_
       ·go_simp
        refine hK _ _ ?_;clear hK K
        try simp only[Act.put,sA,sB,sC]
        refine rn 8 rfl (fun K hK=>?_);go_simp;refine hK _ _ ?_;clear hK K
        try simp only[Act.put,sA,sB,sC]
        refine rn 9 rfl (fun K hK=>?_);rw[if_pos (by rfl)];refine zaZ (.tmp 75) (.tmp 79) 85 rfl 208 i0 (.pointer none) 1 8 underlying85 hi hz0 hz1 hz2 rfl (by decide) (.slice T k ct) k _ rfl s (Nat.le_trans (HP5.out w5 (Fr.b0 b5)).2 (Fr.none_alloc w5 _).size) (za_ (za_ (za_ HT.out.row (FD.out)) (Fr.b0 b5)) (Fr.none_alloc _ _)) (some ⟨w5.heap.size,0,none⟩) 1 1 [.pointer (some ⟨g,0,none⟩)] rfl (Rd.new w5 [.pointer (some ⟨g,0,none⟩)] _ 1 rfl) (by simp[Value.oneCell']) Hk.out.1 Hk.out.2 ?_;intro T6 c6 w6 ho6 hm6 _;have q6:=HP6.out w5 (Fr.b0 b5) _ _ _ _ hm6;have f6:=HF6.out w5 (Fr.b0 b5) _ _ _ _ hm6;have Hz:=q0_ (HZ.out w5 (Fr.b0 b5) _ _ _ _ _ _ g5.1 g5.2.1 g5.2.2 ho6 hm6);clear ho6 hm6 D1 D2;refine hK _ _ ?_;clear hK K;refine nl 10 ?v10 rfl ?q10 ?r10
        case q10=>intro W;go_simp;try rfl
        refine nl 11 ?v11 rfl ?q11 ?r11
        case q11=>intro W;go_simp;try rfl
        try simp only[Act.put,sA,sB,sC]
        refine rn 12 rfl (fun K hK=>?_);go_simp;refine hK _ _ ?_;clear hK K
        try simp only[Act.put,sA,sB,sC]
        refine wpAny_done (by kernel_rfl) ?_ _;go_wp2
        go_roundw
        case rel=>exact⟨k+1,T6,c6,_,by omega,by go_num,Hz.out.1,Hz.out.2⟩
        case measure=>simp[intOf];omega
       refine AllReady.cons (dg rfl) (fun K hK=>?_) ?_
       ·go_simp
        refine hK _ _ ?_;clear hK K
        try simp only[Act.put,sA,sB,sC]
        refine rn 4 rfl (fun K hK=>?_);go_simp;refine hK _ _ ?_;clear hK K
        try simp only[Act.put,sA,sB,sC]
        refine rn 9 rfl (fun K hK=>?_);rw[if_pos (by rfl)];refine zaZ (.tmp 75) (.tmp 79) 85 rfl 208 i0 (.pointer none) 1 8 underlying85 hi hz0 hz1 hz2 rfl (by decide) (.slice T k ct) k _ rfl s (Nat.le_trans (HP5.out w5 (Fr.b0 b5)).2 (Fr.none_alloc w5 _).size) (za_ (za_ (za_ HT.out.row (FD.out)) (Fr.b0 b5)) (Fr.none_alloc _ _)) (some ⟨w5.heap.size,0,none⟩) 1 1 [.pointer (some ⟨g,0,none⟩)] rfl (Rd.new w5 [.pointer (some ⟨g,0,none⟩)] _ 1 rfl) (by simp[Value.oneCell']) Hk.out.1 Hk.out.2 ?_;intro T6 c6 w6 ho6 hm6 _;have q6:=HP6.out w5 (Fr.b0 b5) _ _ _ _ hm6;have f6:=HF6.out w5 (Fr.b0 b5) _ _ _ _ hm6;have Hz:=q0_ (HZ.out w5 (Fr.b0 b5) _ _ _ _ _ _ g5.1 g5.2.1 g5.2.2 ho6 hm6);clear ho6 hm6 D1 D2;refine hK _ _ ?_;clear hK K;refine nl 10 ?v12 rfl ?q12 ?r12
        case q12=>intro W;go_simp;try rfl
        refine nl 11 ?v13 rfl ?q13 ?r13
        case q13=>intro W;go_simp;try rfl
        try simp only[Act.put,sA,sB,sC]
        refine rn 12 rfl (fun K hK=>?_);go_simp;refine hK _ _ ?_;clear hK K
        try simp only[Act.put,sA,sB,sC]
        refine wpAny_done (by kernel_rfl) ?_ _;go_wp2
        go_roundw
        case rel=>exact⟨k+1,T6,c6,_,by omega,by go_num,Hz.out.1,Hz.out.2⟩
        case measure=>simp[intOf];omega
       exact AllReady.nil
      exact AllReady.nil
     exact AllReady.nil
    ·obtain rfl:k=n:=by omega
     have Hp:=q0_ hp;clear hp hf;go_wp2
     go_ret2
     refine⟨⟨fun _=>⟨t,rfl,?_⟩,fun h=>absurd HE0.out h⟩,(F3.out.below q4_).trans (Hf.out.below_of F3.out.size (fun _ h=>Nat.le_trans hsw h))⟩;obtain rfl:l.length=k:=Hln.out;obtain⟨A1,c1,B1,d1,T1,ct1,tb1,q1,q2,q3,q4,q5,q6,q7,q8,q9⟩:=Hp.out.done (by show (l.map _).length=l.length;simp);exact⟨A1,c1,B1,d1,T1,ct1,tb1,q1,zaL q2 hsw,zaL q3 hsw,zaL q4 hsw,q5,q6,q7,fun p hp=>⟨Nat.le_trans hsw (q8 p hp).1,Nat.le_trans hsw (q8 p hp).2⟩,Nat.le_trans hsw q9⟩
theorem zlX{w w1 w':World}(h1:Fr (fun _=>False) w w1)(h2:Fr (fun j=>w.heap.size≤j) w1 w'):Fr (fun _=>False) w w':=h1.trans h2 (fun _ h=>.inr h)
theorem zme(t base:Nat)(X:zae)(w:World)(h:zcR w t base X)(hn:X.tiers.length≤1099511627776)(hm:X.floors.length≤1099511627776):
  Calls prog 97 #[.pointer (some ⟨t,0,none⟩)] w fun r w'=>(∃ t',r=.returned (.pointer (some ⟨t',0,none⟩))∧zcR w' t' w.heap.size X)∧Below w.heap.size w w':=by
 obtain⟨A,c,B,d,T0,ct0,tb0,hin⟩:=h
 have HOf:Hid (∀ w',Fr (fun _=>False) w w'→Calls prog 141 #[.agg #[.string X.name,.slice A X.tiers.length c],.int .i64 X.now,.slice B X.floors.length d] w' fun r w''=>(∃ A' c' B' d',r=.returned (.agg #[.int .i64 X.now,.string X.name,.slice A' X.tiers.length c',.slice B' X.floors.length d'])∧w''.ownsRow w.heap.size 99 4 (.slice A' X.tiers.length c') X.tiers.length (zaf X.tiers)∧w''.ownsRow w.heap.size 3 1 (.slice B' X.floors.length d') X.floors.length (za6 X.floors)∧w.heap.size≤w''.heap.size)∧Below w'.heap.size w' w''):=
  fun w' h=>by
   refine (of_own X.name X.tiers A X.tiers.length c X.now X.floors B X.floors.length d w' ((zdb hin.tiers).2.2.1.fr0 h) hn ((zdb hin.floors).2.2.1.fr0 h) hm).mono ?_;rintro r w'' ⟨⟨A',c',B',d',e,h1,h2⟩,b⟩;exact⟨⟨A',c',B',d',e,zaL h1 h.size,zaL h2 h.size,Nat.le_trans h.size b.size⟩,b⟩
 have Hin:=q0_ hin
 have HC:Hid (∀ W,Fr (fun _=>False) w W→W.cell? ⟨t,0,none⟩=some (.int .i64 X.now)∧W.cell? ⟨t,1,none⟩=some (.string X.name)∧W.cell? ⟨t,2,none⟩=some (.slice A X.tiers.length c)∧W.cell? ⟨t,3,none⟩=some (.slice B X.floors.length d)∧W.cell? ⟨t,4,none⟩=some (.slice T0 X.tiers.length ct0)):=fun W f=>⟨(hin.blk.fr f (fun h=>h)).cell 0,(hin.blk.fr f (fun h=>h)).cell 1,(hin.blk.fr f (fun h=>h)).cell 2,(hin.blk.fr f (fun h=>h)).cell 3,(hin.blk.fr f (fun h=>h)).cell 4⟩
 clear hin;obtain⟨i0,hi,hz0,hz1,hz2⟩:=info_parts zgj;go_enter func97,ntmps97;go_wp2_with fail;refine wp_region_held_drew (S:=fun W=>Fr (fun _=>False) w W) (by kernel_rfl) ((Fr.refl _ w).drew) (fun hY_=>?_);refine tq 15 [0,1,2,3,4,5,6,7,8,9,10,11,12,13,14] ?_
 iterate 14 refine sf HC.out ?_
 refine sf HC.out ?_
 try simp only[Act.put,sA,sB,sC]
 refine sz ?_
 try simp only[Act.put,sA,sB,sC]
 refine rl 15 rfl (fun K hK=>?_);go_simp
 go_wp2_with (go_at_call 141;refine (HOf.out _ hY_).mono ?_;rintro r w2 ⟨⟨A',c',B',d',rfl,ho1,ho2,hsz⟩,b2⟩)
 have Ho1:=q0_ ho1;have Ho2:=q0_ ho2;clear ho1 ho2;refine hK.out _ _ (hY_.trans (Fr.b0 b2) q4_) (fun hY_=>?_);clear hK K;refine tl 16 ?v16 rfl ?q16 ?r16
 case q16=>intro W hSw;(try obtain⟨a0,a1,a2,a3,a4⟩:=HC.out W hSw);go_simp;try rfl
 try simp only[Act.put,sA,sB,sC]
 refine rl 17 rfl (fun K hK=>?_);go_simp;refine hK.out _ _ (hY_.trans (Fr.none_alloc _ _) q4_) (fun hY_=>?_);clear hK K;refine tl 18 ?v17 rfl ?q17 ?r17
 case q17=>intro W hSw;(try obtain⟨a0,a1,a2,a3,a4⟩:=HC.out W hSw);go_simp;try rfl
 try simp only[Act.put,sA,sB,sC]
 refine wpAnyH_done (by kernel_rfl) ?_ _
 obtain⟨t',htd⟩:∃ t',w2.heap.size=t':=⟨_,rfl⟩
 obtain⟨W3,hW3⟩:∃ W3,W3=w2.alloc (.cells #[.int .i64 X.now,.string X.name,.slice A' X.tiers.length c',.slice B' X.floors.length d',.slice none 0 0] 87):=⟨_,rfl⟩
 simp only[htd]
 try rw[← hW3] at hY_ ⊢
 have F3:=q0_ hY_;have hs3:w.heap.size≤W3.heap.size:=hY_.size
 have hP0:zci W3 t' w.heap.size X A' c' B' d' none 0 [] 0:=by
  have hb:Blk W3 t' 87 #[.int .i64 X.now,.string X.name,.slice A' X.tiers.length c',.slice B' X.floors.length d',.slice none 0 0]:=by rw[hW3];exact Blk.new' htd.symm _ _
  exact⟨hb,by rw[hW3];exact za_ Ho1.out (Fr.none_alloc _ _),by rw[hW3];exact za_ Ho2.out (Fr.none_alloc _ _),World.ownsRow_nil _ _ _ _,fun i p x l h=>by simp at h,fun p hp=>by simp at hp,by simp,fun p hp=>by simp at hp,by omega⟩
 have HP0:=q0_ hP0;obtain⟨a0,a1,a2,a3,a4⟩:=HC.out W3 F3.out
 obtain⟨s,hs⟩:∃ s,w.heap.size=s:=⟨_,rfl⟩
 rw[hs] at HP0 hs3;clear hP0 Ho1 Ho2 hY_ hW3 HOf b2 hsz htd;go_wp2_with fail
 go_loopw [31] (fun i wr=>∃ (k:Nat) (T:Option Addr) (ct:Nat) (tb:List (Nat×Nat)),k≤X.tiers.length∧i=.int .i64 k∧zci wr t' s X A' c' B' d' T ct tb k∧Fr (fun j=>s≤j) W3 wr) (fun i _=>X.tiers.length-(intOf i).toNat)
 case atStart=>exact⟨0,none,0,[],Nat.zero_le _,rfl,HP0.out,Fr.refl _ _⟩
 case round=>
  obtain⟨k,T,ct,tb,hk,rfl,hp,hf⟩:=hrel;have FW:Hid (Fr (fun _=>False) w wr):=zlX F3.out (by rw[hs];exact hf);have Hf:Hid (Fr (fun j=>s≤j) W3 wr):=hf;clear a0 a1 a2 a3 a4
  by_cases hlt:k<X.tiers.length
  ·obtain⟨g,b,x,l,h1,h2,h3,hT0⟩:=(Hin.out.fr0 FW.out).tabAt hlt
   obtain⟨ad,e,hc⟩:=(zdb (Hin.out.fr0 FW.out).row).2.2.1.2 (by omega);subst e;have p0:=hc k _ (zkt h1);have hs1:s≤wr.heap.size:=Nat.le_trans hs3 hf.size
   have kn:0≤(k:Int)∧(k:Int)<(X.tiers.length:Int):=by omega
   have HNw:Hid (Calls prog 143 #[.pointer (some ⟨g,0,none⟩)] wr.drew fun r w'=>(∃ g' b',r=.returned (.pointer (some ⟨g',0,none⟩))∧zbp w' g' x.every b' l∧wr.heap.size≤g'∧wr.heap.size≤b')∧Below wr.drew.heap.size wr.drew w'):=zfM g x.every b l wr.drew (hT0.fr0 (Fr.refl _ wr).drew);have FD:Hid (Fr (fun _=>False) wr wr.drew):=(Fr.refl _ wr).drew;have D2:wr.drew.cell? ⟨t',4,none⟩=some (.slice T k ct):=hp.blk.cell 4
   have HP5:Hid (∀ w5,Fr (fun _=>False) wr.drew w5→w5.cell? ⟨t',4,none⟩=some (.slice T k ct)∧s≤w5.heap.size):=fun w5 h=>⟨((hp.fr0 FD.out).fr0 h).blk.cell 4,Nat.le_trans hs1 h.size⟩
   have HM6:∀ w5,Fr (fun _=>False) wr.drew w5→∀ o T6 c6 w6,Mv (zag (.slice T k ct)) (zag (.slice T6 (k+1) c6)) (w5.alloc o) w6→Blk w6 t' 87 _:=fun w5 h o T6 c6 w6 hm=>
    (((hp.fr0 FD.out).fr0 h).fr0 (Fr.none_alloc w5 o)).blk.fr hm.fr (fun hj=>zac (((hp.fr0 FD.out).fr0 h).fr0 (Fr.none_alloc w5 o)).row (((hp.fr0 FD.out).fr0 h).fr0 (Fr.none_alloc w5 o)).blk (by decide) hj)
   have HP6:Hid (∀ w5,Fr (fun _=>False) wr.drew w5→∀ o T6 c6 w6,Mv (zag (.slice T k ct)) (zag (.slice T6 (k+1) c6)) (w5.alloc o) w6→w6.cell? ⟨t',4,none⟩=some (.slice T k ct)):=fun w5 h o T6 c6 w6 hm=>(HM6 w5 h o T6 c6 w6 hm).cell 4;have HF6:Hid (∀ w5,Fr (fun _=>False) wr.drew w5→∀ o T6 c6 w6,Mv (zag (.slice T k ct)) (zag (.slice T6 (k+1) c6)) (w5.alloc o) w6→w6.frozen? ⟨t',4,none⟩=false):=fun w5 h o T6 c6 w6 hm=>(HM6 w5 h o T6 c6 w6 hm).frozen 4
   have HZ:Hid (∀ w5,Fr (fun _=>False) wr.drew w5→∀ o g b T6 c6 w6,zbp w5 g x.every b l→wr.heap.size≤g→wr.heap.size≤b→w6.ownsRow s 208 1 (.slice T6 (k+1) c6) (k+1) (zfC tb++[.pointer (some ⟨g,0,none⟩)])→Mv (zag (.slice T k ct)) (zag (.slice T6 (k+1) c6)) (w5.alloc o) w6→
     zci (w6.setCell ⟨t',4,none⟩ (.slice T6 (k+1) c6)) t' s X A' c' B' d' T6 c6 (tb++[(g,b)]) (k+1)∧Fr (fun j=>s≤j) W3 (w6.setCell ⟨t',4,none⟩ (.slice T6 (k+1) c6))):=by
    intro w5 h o g b T6 c6 w6 ht hg hb ho hm;have q:=hp.snoc (FD.out.trans h q4_) hs1 hg hb (x:=x) (l:=l) h2 h3 ht o ho hm;exact⟨q.1,Hf.out.trans q.2 (fun _ h=>.inl h)⟩
   have Hk:Hid (k+1≤maxLen∧(k+1)*8≤140737488355328):=⟨by unfold maxLen;omega,by omega⟩
   have HT:=q0_ hp;clear hp hf HM6 hc hT0 h1 h2 h3;go_wp2_with fail;refine wp_region_any (by kernel_rfl) ?_;change wpAny _ _ _ _ _ _ _ (World.drew _);refine nl 0 ?v18 rfl ?q18 ?r18
   case q18=>intro W;go_simp;try rfl
   refine nl 1 ?v19 rfl ?q19 ?r19
   case q19=>intro W;go_simp;try rfl
   refine nl 2 ?v20 rfl ?q20 ?r20
   case q20=>intro W;go_simp;try rfl
   refine nl 3 ?v21 rfl ?q21 ?r21
   case q21=>intro W;go_simp;try rfl
   refine nl 5 ?v22 rfl ?q22 ?r22
   case q22=>intro W;go_simp;try rfl
   try simp only[Act.put,sA,sB,sC]
   refine wpAny_ready (rs:=[4,6]) (by kernel_rfl) (by simp) ?_;refine AllReady.cons (dg rfl) (fun K hK=>?_) ?_
   ·go_simp
    refine hK _ _ ?_;clear hK K
    try simp only[Act.put,sA,sB,sC]
    refine rn 6 rfl (fun K hK=>?_);go_simp
    go_wp2_with (go_at_call 143;refine HNw.out.mono ?_;rintro r w5 ⟨⟨g',b',rfl,g5⟩,b5⟩;have q5:=(HP5.out w5 (Fr.b0 b5)).1;have q5a:=fun o=>(HP5.out (w5.alloc o) ((Fr.b0 b5).trans (Fr.none_alloc w5 o) q4_)).1;try dsimp only)
    refine rn 7 rfl (fun K hK=>?_);go_simp;refine hK _ _ ?_;clear hK K
    try simp only[Act.put,sA,sB,sC]
    refine rn 8 rfl (fun K hK=>?_);rw[if_pos (by rfl)];refine zaZ (.tmp 39) (.tmp 42) 85 rfl 208 i0 (.pointer none) 1 8 underlying85 hi hz0 hz1 hz2 rfl (by decide) (.slice T k ct) k _ rfl s (Nat.le_trans (HP5.out w5 (Fr.b0 b5)).2 (Fr.none_alloc w5 _).size) (za_ (za_ (za_ HT.out.row (FD.out)) (Fr.b0 b5)) (Fr.none_alloc _ _)) (some ⟨w5.heap.size,0,none⟩) 1 1 [.pointer (some ⟨g',0,none⟩)] rfl (Rd.new w5 [.pointer (some ⟨g',0,none⟩)] _ 1 rfl) (by simp[Value.oneCell']) Hk.out.1 Hk.out.2 ?_;intro T6 c6 w6 ho6 hm6 _;have q6:=HP6.out w5 (Fr.b0 b5) _ _ _ _ hm6;have f6:=HF6.out w5 (Fr.b0 b5) _ _ _ _ hm6;have Hz:=q0_ (HZ.out w5 (Fr.b0 b5) _ _ _ _ _ _ g5.1 g5.2.1 g5.2.2 ho6 hm6);clear ho6 hm6 D2;refine hK _ _ ?_;clear hK K;refine nl 9 ?v23 rfl ?q23 ?r23
    case q23=>intro W;go_simp;try rfl
    refine nl 10 ?v24 rfl ?q24 ?r24
    case q24=>intro W;go_simp;try rfl
    try simp only[Act.put,sA,sB,sC]
    refine rn 11 rfl (fun K hK=>?_);go_simp;refine hK _ _ ?_;clear hK K
    try simp only[Act.put,sA,sB,sC]
    refine wpAny_done (by kernel_rfl) ?_ _;go_wp2
    go_roundw
    case rel=>exact⟨k+1,T6,c6,_,by omega,by go_num,Hz.out.1,Hz.out.2⟩
    case measure=>simp[intOf];omega
   refine AllReady.cons (dg rfl) (fun K hK=>?_) ?_
   ·go_simp
    go_wp2_with (go_at_call 143;refine HNw.out.mono ?_;rintro r w5 ⟨⟨g',b',rfl,g5⟩,b5⟩;have q5:=(HP5.out w5 (Fr.b0 b5)).1;have q5a:=fun o=>(HP5.out (w5.alloc o) ((Fr.b0 b5).trans (Fr.none_alloc w5 o) q4_)).1;try dsimp only)
    try simp only[Act.put,sA,sB,sC]
    refine wpAny_ready (rs:=[4,7]) (by kernel_rfl) (by simp) ?_;refine AllReady.cons (dg rfl) (fun K hK=>?_) ?_
    ·go_simp
     refine hK _ _ ?_;clear hK K
     try simp only[Act.put,sA,sB,sC]
     refine rn 7 rfl (fun K hK=>?_);go_simp;refine hK _ _ ?_;clear hK K
     try simp only[Act.put,sA,sB,sC]
     refine rn 8 rfl (fun K hK=>?_);rw[if_pos (by rfl)];refine zaZ (.tmp 39) (.tmp 42) 85 rfl 208 i0 (.pointer none) 1 8 underlying85 hi hz0 hz1 hz2 rfl (by decide) (.slice T k ct) k _ rfl s (Nat.le_trans (HP5.out w5 (Fr.b0 b5)).2 (Fr.none_alloc w5 _).size) (za_ (za_ (za_ HT.out.row (FD.out)) (Fr.b0 b5)) (Fr.none_alloc _ _)) (some ⟨w5.heap.size,0,none⟩) 1 1 [.pointer (some ⟨g',0,none⟩)] rfl (Rd.new w5 [.pointer (some ⟨g',0,none⟩)] _ 1 rfl) (by simp[Value.oneCell']) Hk.out.1 Hk.out.2 ?_;intro T6 c6 w6 ho6 hm6 _;have q6:=HP6.out w5 (Fr.b0 b5) _ _ _ _ hm6;have f6:=HF6.out w5 (Fr.b0 b5) _ _ _ _ hm6;have Hz:=q0_ (HZ.out w5 (Fr.b0 b5) _ _ _ _ _ _ g5.1 g5.2.1 g5.2.2 ho6 hm6);clear ho6 hm6 D2;refine hK _ _ ?_;clear hK K;refine nl 9 ?v25 rfl ?q25 ?r25
     case q25=>intro W;go_simp;try rfl
     refine nl 10 ?v26 rfl ?q26 ?r26
     case q26=>intro W;go_simp;try rfl
     try simp only[Act.put,sA,sB,sC]
     refine rn 11 rfl (fun K hK=>?_);go_simp;refine hK _ _ ?_;clear hK K
     try simp only[Act.put,sA,sB,sC]
     refine wpAny_done (by kernel_rfl) ?_ _;go_wp2
     go_roundw
     case rel=>exact⟨k+1,T6,c6,_,by omega,by go_num,Hz.out.1,Hz.out.2⟩
     case measure=>simp[intOf];omega
    refine AllReady.cons (dg rfl) (fun K hK=>?_) ?_
    ·go_simp
     refine hK _ _ ?_;clear hK K
     try simp only[Act.put,sA,sB,sC]
     refine rn 4 rfl (fun K hK=>?_);go_simp;refine hK _ _ ?_;clear hK K
     try simp only[Act.put,sA,sB,sC]
     refine rn 8 rfl (fun K hK=>?_);rw[if_pos (by rfl)];refine zaZ (.tmp 39) (.tmp 42) 85 rfl 208 i0 (.pointer none) 1 8 underlying85 hi hz0 hz1 hz2 rfl (by decide) (.slice T k ct) k _ rfl s (Nat.le_trans (HP5.out w5 (Fr.b0 b5)).2 (Fr.none_alloc w5 _).size) (za_ (za_ (za_ HT.out.row (FD.out)) (Fr.b0 b5)) (Fr.none_alloc _ _)) (some ⟨w5.heap.size,0,none⟩) 1 1 [.pointer (some ⟨g',0,none⟩)] rfl (Rd.new w5 [.pointer (some ⟨g',0,none⟩)] _ 1 rfl) (by simp[Value.oneCell']) Hk.out.1 Hk.out.2 ?_;intro T6 c6 w6 ho6 hm6 _;have q6:=HP6.out w5 (Fr.b0 b5) _ _ _ _ hm6;have f6:=HF6.out w5 (Fr.b0 b5) _ _ _ _ hm6;have Hz:=q0_ (HZ.out w5 (Fr.b0 b5) _ _ _ _ _ _ g5.1 g5.2.1 g5.2.2 ho6 hm6);clear ho6 hm6 D2;refine hK _ _ ?_;clear hK K;refine nl 9 ?v27 rfl ?q27 ?r27
     case q27=>intro W;go_simp;try rfl
     refine nl 10 ?v28 rfl ?q28 ?r28
     case q28=>intro W;go_simp;try rfl
     try simp only[Act.put,sA,sB,sC]
     refine rn 11 rfl (fun K hK=>?_);go_simp;refine hK _ _ ?_;clear hK K
     try simp only[Act.put,sA,sB,sC]
     refine wpAny_done (by kernel_rfl) ?_ _;go_wp2
     go_roundw
     case rel=>exact⟨k+1,T6,c6,_,by omega,by go_num,Hz.out.1,Hz.out.2⟩
     case measure=>simp[intOf];omega
    exact AllReady.nil
   exact AllReady.nil
  ·obtain rfl:k=X.tiers.length:=by omega
   have Hp:=q0_ hp;clear hp hf;go_wp2;go_ret;exact⟨⟨t',rfl,by rw[hs];exact Hp.out.done Hin.out.tlen⟩,FW.out.below q4_⟩
def zgr(X:zae)(l:List zaN):Int:=
 match l.find? fun s=>decide (zdR X.now X.tiers X.floors s≠0) with
 | some s=>zdR X.now X.tiers X.floors s
 | none=>0
def zks(X:zae)(l:List zaN):Int:=if l.length=0 then 1 else if 8<l.length then 2 else zgr X l
def zdN(X:zae)(s:zaN)(k:Nat)(l:List zah):List zah:=
 match X.tiers[k]? with
 | some x=>if (zkm X.now X.tiers X.floors k s.time).2 then zdg x.every l ⟨s.name,(zkm X.now X.tiers X.floors k s.time).1,zgD s.value⟩ else l
 | none=>l
def addT(X:zae)(tabs:List (List zah))(s:zaN):List (List zah):=(List.range X.tiers.length).map fun k=>zdN X s k (tabs.getD k [])
def zf0(X:zae)(tabs:List (List zah))(l:List zaN):List (List zah):=l.foldl (addT X) tabs
def zb2(X:zae)(l:List zaN):zae:=if zks X l=0 then {X with tabs:=zf0 X X.tabs l} else X
theorem zjY(mg:Option zbP→zbP→zbP)(l:List zah)(r:zah):(zcU mg l r).length≤l.length+1:=by
 induction l with
 | nil=>simp[zcU]
 | cons x l ih=>
  unfold zcU
  split
  ·simp;exact ih
  ·split<;>simp
theorem zke(every:Int)(l:List zah)(r:zah):(zdg every l r).length≤l.length+1:=by
 unfold zdg
 split
 ·exact zjY _ _ _
 ·omega
theorem zmk(X:zae)(s:zaN)(k:Nat)(l:List zah):(zdN X s k l).length≤l.length+1:=by
 unfold zdN
 split
 ·split
  ·exact zke _ _ _
  ·omega
 ·omega
theorem zoA{L:List (List zah)}{c:Nat}(h:∀ m∈L,m.length≤c)(k:Nat):(L.getD k []).length≤c:=by
 rw[List.getD_eq_getElem?_getD]
 cases hk:L[k]? with
 | none=>simp
 | some m=>exact h m (List.mem_of_getElem? hk)
theorem zj1{X:zae}{l:List zaN}(h:∀ s∈l,zdR X.now X.tiers X.floors s=0):zgr X l=0:=by
 unfold zgr;rw[List.find?_eq_none.2 (fun s hs=>by simp[h s hs])]
end Go.Proofs.YteajonicnkpbbaaGreatDoor
