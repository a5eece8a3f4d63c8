/- Walk of tiers: New. -/
import Derived.Test.YteajonicnkpbbaaGreatDoorTiersP
import Derived.Test.YteajonicnkpbbaaGreatDoorFills
namespace Go.Proofs.YteajonicnkpbbaaGreatDoor
set_option linter.all false
set_option maxHeartbeats 8000000
set_option maxRecDepth 100000
open Go.RowKit Tryz
theorem zgX:(prog.info? 208).map (fun i=>(i.zero,i.size,i.bytes))=some (some (.pointer none),1,8):=by kernel_rfl
def zeK(l:List za_)(fl:List Int)(k:Nat):Bool:=
 match fl[k]?,l[k]? with
 | some f,some t=>decide (0≤f)&&onB f t.every
 | _,_=>true
def ziN(l:List za_)(fl:List Int):Bool:=(List.range fl.length).all (zeK l fl)
def zhR(nm:ByteArray)(l:List za_)(now:Int)(fl:List Int):Int:=
 if zai nm l then (if now<0∨1099511627776<now∨l.length<fl.length then 1 else if ziN l fl then 0 else 1) else 23
def zhm(nm:ByteArray)(l:List za_)(now:Int)(fl:List Int):zac:=⟨now,nm,l,fl,l.map fun _=>[]⟩
theorem zip(nm:ByteArray)(hnm:nm.size≤maxLen)(l:List za_)(A:Option Addr)(n c:Nat)(now:Int)(hnow:i64 now)(fl:List Int)(B:Option Addr)(m d:Nat)(w:World)(hr:Rd w 4 A n (zag l))(hnc:n≤c)(hwf:∀ t∈l,t.wf)(hn:n≤1099511627776)(hf:Rd w 1 B m (zaU fl))(hm:m≤1099511627776):
  Calls prog 95 #[zcZ nm A n c,.int .i64 now,.slice B m d] w fun r w'=>((zhR nm l now fl=0→∃ t,r=.returned (.tuple #[.pointer (some ⟨t,0,none⟩),.int .i64 0])∧zbA w' t w.heap.size (zhm nm l now fl))∧(zhR nm l now fl≠0→r=.returned (.tuple #[.pointer none,.int .i64 (zhR nm l now fl)])))∧Below w.heap.size w w':=by
 have HCk:Hid (∀ w',Fr (fun _=>False) w w'→Calls prog 112 #[zcZ nm A n c] w' fun r w''=>(∃ k:Int,r=.returned (.tuple #[.int .i64 (zc3 (zai nm l)),.int .i64 k]))∧Below w'.heap.size w' w''):=
  fun w' h=>zc_ nm hnm l A n c w' (hr.fr0 h) hnc (fun t ht=>(hwf t ht).2.2.2)
 have HOf:Hid (∀ w',Fr (fun _=>False) w w'→Calls prog 141 #[zcZ nm A n c,.int .i64 now,.slice B m d] w' fun r w''=>(∃ A' c' B' d',r=.returned (zb_ now nm A' n c' B' m d')∧w''.ownsRow w'.heap.size 99 4 (.slice A' n c') n (zag l)∧w''.ownsRow w'.heap.size 3 1 (.slice B' m d') m (zaU fl))∧Below w'.heap.size w' w''):=
  fun w' h=>of_own nm l A n c now fl B m d w' (hr.fr0 h) hn (hf.fr0 h) hm
 have Hr:=q0_ hr;have Hf0:=q0_ hf;have Hln:=q0_ hr.tiers_len;have Hlm:=q0_ (Rd.len_map hf)
 have hnm0:((l.length<fl.length)↔((n:Int)<(m:Int))):=by rw[Hln.out,Hlm.out];omega
 have Hev:=q0_ (fun (h:zai nm l=true) (x:za_) (hx:x∈l)=>(zaq h hx).1)
 obtain⟨E,hE⟩:∃ E,zhR nm l now fl=E:=⟨_,rfl⟩
 rw[hE];unfold zhR at hE;simp only[hnm0] at hE;clear hr hf hwf hnm0;unfold zcZ at HCk HOf ⊢
 cases hck:zai nm l
 ·rw[hck,show zc3 false=23 from rfl] at HCk
  rw[hck,if_neg (by simp)] at hE;subst hE;clear HOf;go_enter func95,ntmps95;go_wp2_with fail;refine (HCk.out _ (Fr.none_alloc _ _)).mono ?_;rintro r w1 ⟨⟨kk,rfl⟩,b1⟩;have BP:=q0_ ((Blk.new w 25 #[.string nm,.slice A n c]).below b1);have F1:Hid (Fr (fun _=>False) w w1):=(Fr.none_alloc w _).trans (Fr.b0 b1) q4_;have d0:=BP.out.cell 0;have d1:=BP.out.cell 1;simp only[q1_,q2_,q3_] at d0 d1;clear b1;go_wp2
  go_ret2
  exact⟨⟨fun h=>absurd h (by decide),fun _=>rfl⟩,F1.out.below q4_⟩
 rw[hck,show zc3 true=0 from rfl] at HCk;rw[hck,if_pos rfl] at hE;have Hev:=q0_ (Hev.out hck);clear hck
 by_cases h1:now<0
 ·have hd1:decide (now<0)=true:=qa_ h1
  rw[if_pos (.inl h1)] at hE;subst hE;clear HOf;go_enter func95,ntmps95;go_wp2_with fail;refine (HCk.out _ (Fr.none_alloc _ _)).mono ?_;rintro r w1 ⟨⟨kk,rfl⟩,b1⟩;have BP:=q0_ ((Blk.new w 25 #[.string nm,.slice A n c]).below b1);have F1:Hid (Fr (fun _=>False) w w1):=(Fr.none_alloc w _).trans (Fr.b0 b1) q4_;have d0:=BP.out.cell 0;have d1:=BP.out.cell 1;simp only[q1_,q2_,q3_] at d0 d1;clear b1;go_wp2
  go_ret2
  exact⟨⟨fun h=>absurd h (by decide),fun _=>rfl⟩,F1.out.below q4_⟩
 have hd1:decide (now<0)=false:=q9_ h1
 by_cases h2:1099511627776<now
 ·have hd2:decide (1099511627776<now)=true:=qa_ h2
  rw[if_pos (.inr (.inl h2))] at hE;subst hE;clear HOf;go_enter func95,ntmps95;go_wp2_with fail;refine (HCk.out _ (Fr.none_alloc _ _)).mono ?_;rintro r w1 ⟨⟨kk,rfl⟩,b1⟩;have BP:=q0_ ((Blk.new w 25 #[.string nm,.slice A n c]).below b1);have F1:Hid (Fr (fun _=>False) w w1):=(Fr.none_alloc w _).trans (Fr.b0 b1) q4_;have d0:=BP.out.cell 0;have d1:=BP.out.cell 1;simp only[q1_,q2_,q3_] at d0 d1;clear b1;go_wp2
  go_ret2
  exact⟨⟨fun h=>absurd h (by decide),fun _=>rfl⟩,F1.out.below q4_⟩
 have hd2:decide (1099511627776<now)=false:=q9_ h2
 by_cases h3:(n:Int)<(m:Int)
 ·have hd3:decide ((n:Int)<(m:Int))=true:=qa_ h3
  have hd4:decide (n<m)=true:=qa_ (by omega)
  have h4:n<m:=by omega
  rw[if_pos (.inr (.inr h3))] at hE;subst hE;clear HOf;go_enter func95,ntmps95;go_wp2_with fail;refine (HCk.out _ (Fr.none_alloc _ _)).mono ?_;rintro r w1 ⟨⟨kk,rfl⟩,b1⟩;have BP:=q0_ ((Blk.new w 25 #[.string nm,.slice A n c]).below b1);have F1:Hid (Fr (fun _=>False) w w1):=(Fr.none_alloc w _).trans (Fr.b0 b1) q4_;have d0:=BP.out.cell 0;have d1:=BP.out.cell 1;simp only[q1_,q2_,q3_] at d0 d1;clear b1;go_wp2
  go_ret2
  exact⟨⟨fun h=>absurd h (by decide),fun _=>rfl⟩,F1.out.below q4_⟩
 have hd3:decide ((n:Int)<(m:Int))=false:=q9_ h3;have hd4:decide (n<m)=false:=q9_ (by omega);rw[if_neg (by omega)] at hE;have HE:=q0_ hE;clear hE;obtain⟨i0,hi,hz0,hz1,hz2⟩:=info_parts zgX;go_enter func95,ntmps95;go_wp2_with fail;refine (HCk.out _ (Fr.none_alloc _ _)).mono ?_;rintro r w1 ⟨⟨kk,rfl⟩,b1⟩;have BP:=q0_ ((Blk.new w 25 #[.string nm,.slice A n c]).below b1);have F1:Hid (Fr (fun _=>False) w w1):=(Fr.none_alloc w _).trans (Fr.b0 b1) q4_;have d0:=BP.out.cell 0;have d1:=BP.out.cell 1;simp only[q1_,q2_,q3_] at d0 d1;clear b1
 have h4:m≤n:=by omega
 clear h3;go_wp2_with fail
 go_loopw [39] (fun i wr=>∃ k:Nat,k≤m∧i=.int .i64 k∧w1=wr∧∀ j,j<k→zeK l fl j=true) (fun i _=>m-(intOf i).toNat)
 case atStart=>exact⟨0,Nat.zero_le _,rfl,rfl,fun j hj=>absurd hj (by omega)⟩
 case round=>
  obtain⟨k,hk,rfl,rfl,hall⟩:=hrel;have Hall:=q0_ hall;clear hall
  by_cases hlt:k<m
  ·obtain⟨bd,f,rfl,hfu,hfc⟩:=(Hf0.out.fr0 F1.out).at_map hlt
   obtain⟨ad,x,rfl,hxu,e0,e1,e2,e3⟩:=(Hr.out.fr0 F1.out).tier (k:=k) (by omega)
   have hok:zeK l fl k=(decide (0≤f)&&onB f x.every):=by unfold zeK;rw[hfu,hxu]
   have Hok:=q0_ hok;have HOn:Hid (∀ W,Calls prog 140 #[.int .i64 f,.int .i64 x.every] W fun r w'=>r=.returned (.bool (onB f x.every))∧W=w'):=fun W=>zqs f x.every W
   have HEb:Hid (zeK l fl k=false→E=1):=fun h=>by
    rw[← HE.out,if_neg];intro hall;have:=List.all_eq_true.1 hall k (List.mem_range.2 (by rw[Hlm.out];exact hlt));rw[h] at this
    cases this
   have kn:0≤(k:Int)∧(k:Int)<(m:Int)∧(k:Int)<(n:Int):=by omega
   have kn2:k<m∧k<n:=by omega
   clear hok hfu hxu e0 e2 e3
   by_cases h0:f<0
   ·have hd5:decide (f<0)=true:=qa_ h0
    have hE1:Hid (E=1):=HEb.out (by rw[Hok.out,q9_ (by omega)];rfl);go_wp2
    go_ret2
    rw[hE1.out];exact⟨⟨fun h=>absurd h (by decide),fun _=>rfl⟩,F1.out.below q4_⟩
   ·have hd5:decide (f<0)=false:=q9_ h0
    cases hon:onB f x.every
    ·rw[hon] at HOn
     have hE1:Hid (E=1):=HEb.out (by rw[Hok.out,hon,Bool.and_false]);go_wp2_with fail;refine (HOn.out _).mono ?_;rintro r w' ⟨rfl,rfl⟩;go_wp2
     go_ret2
     rw[hE1.out];exact⟨⟨fun h=>absurd h (by decide),fun _=>rfl⟩,F1.out.below q4_⟩
    ·rw[hon] at HOn
     go_wp2_with fail;refine (HOn.out _).mono ?_;rintro r w' ⟨rfl,rfl⟩;go_wp2
     go_roundw
     case rel=>
      refine⟨k+1,by omega,by go_num,by trivial,fun j hj=>?_⟩
      by_cases e:j=k
      ·subst e
       rw[Hok.out,hon,qa_ (by omega)];rfl
      ·exact Hall.out j (by omega)
     case measure=>simp[intOf];omega
  ·have hE0:E=0:=by
    rw[← HE.out,if_pos];exact List.all_eq_true.2 fun j hj=>Hall.out j (by have:=List.mem_range.1 hj;rw[Hlm.out] at this;omega)
   have HE0:=q0_ hE0;have HO:=q0_ (HOf.out w1 F1.out);clear hE0 HE Hall HOf HCk Hf0;go_wp2_with fail;refine HO.out.mono ?_;rintro r w2 ⟨⟨A',c',B',d',rfl,ho1,ho2⟩,b2⟩
   obtain⟨s,hs⟩:∃ s,w1.heap.size=s:=⟨_,rfl⟩
   rw[hs] at ho1 ho2
   have hs2:s≤w2.heap.size:=by rw[← hs];exact b2.size
   have hsw:w.heap.size≤s:=by rw[← hs];exact F1.out.size
   obtain⟨t,htd⟩:∃ t,w2.heap.size=t:=⟨_,rfl⟩
   have Ho1:=q0_ ho1;have Ho2:=q0_ ho2;have B2:=q0_ (BP.out.below b2);have F2:=q0_ (F1.out.trans (Fr.b0 b2) q4_);unfold zb_;clear ho1 ho2 b2 d0 d1 HO;have d1:=(B2.out.alloc (.cells #[.int .i64 now,.string nm,.slice A' n c',.slice B' m d',.slice none 0 0] 87)).cell 1;simp only[q1_,q2_,q3_] at d1;go_wp2_with fail
   obtain⟨W3,hW3⟩:∃ W3,W3=w2.alloc (.cells #[.int .i64 now,.string nm,.slice A' n c',.slice B' m d',.slice none 0 0] 87):=⟨_,rfl⟩
   rw[← hW3]
   try rw[htd]
   have F3:Hid (Fr (fun _=>False) w W3):=by show Fr _ _ _;rw[hW3];exact F2.out.trans (Fr.none_alloc _ _) q4_
   have BP3:Hid (Blk W3 w.heap.size 25 #[.string nm,.slice A n c]):=by show Blk _ _ _ _;rw[hW3];exact B2.out.alloc _
   have hP0:zcq W3 t s (zhm nm l now fl) A' c' B' d' none 0 [] 0:=by
    have hb:Blk W3 t 87 #[.int .i64 now,.string nm,.slice A' n c',.slice B' m d',.slice none 0 0]:=by rw[hW3];exact Blk.new' htd.symm _ _
    refine⟨?_,?_,?_,World.ownsRow_nil _ _ _ _,fun i p x l h=>by simp at h,fun p hp=>by simp at hp,by simp,fun p hp=>by simp at hp,by omega⟩
    ·show Blk _ _ _ #[.int .i64 now,.string nm,.slice A' l.length c',.slice B' fl.length d',_]
     rw[Hln.out,Hlm.out];exact hb
    ·show W3.ownsRow s _ 4 (.slice A' l.length c') l.length (zag l)
     rw[Hln.out,hW3];exact zab Ho1.out (Fr.none_alloc _ _)
    ·show W3.ownsRow s _ 1 (.slice B' fl.length d') fl.length (zaU fl)
     rw[Hlm.out,hW3];exact zab Ho2.out (Fr.none_alloc _ _)
   have HP0:=q0_ hP0
   have hs3:s≤W3.heap.size:=by rw[hW3];simp;omega
   clear hP0 Ho1 Ho2 B2 F2 d1 BP F1 hW3
   go_loopw [67] (fun i wr=>∃ (k:Nat) (T:Option Addr) (ct:Nat) (tb:List (Nat×Nat)),k≤n∧i=.int .i64 k∧zcq wr t s (zhm nm l now fl) A' c' B' d' T ct tb k∧Fr (fun j=>s≤j) W3 wr) (fun i _=>n-(intOf i).toNat)
   case atStart=>exact⟨0,none,0,[],Nat.zero_le _,rfl,HP0.out,Fr.refl _ _⟩
   case round=>
    obtain⟨k,T,ct,tb,hk,rfl,hp,hf⟩:=hrel;have Hf:Hid (Fr (fun j=>s≤j) W3 wr):=hf;have hsr:s≤wr.heap.size:=Nat.le_trans hs3 hf.size
    by_cases hlt:k<n
    ·obtain⟨ad,x,rfl,hxu,e0,e1,e2,e3⟩:=((Hr.out.fr0 F3.out).fr hf (fun j hj=>by have:=Hr.out.adlt (by decide) j hj;omega)).tier hlt
     have hmx:max x.every 1=x.every:=by have:=Hev.out x (zaa hxu);omega
     have Hx:=q0_ hxu;have HP:=q0_ hp;clear hp hf hxu;go_wp2_with fail
     obtain⟨W1,hW1⟩:∃ W1,W1=wr.alloc (.cells #[.string x.name,.int .i64 x.every,.int .i64 x.keep,.int .i64 x.shards] 99):=⟨_,rfl⟩
     rw[← hW1];have hbx:Blk W1 wr.heap.size 99 #[.string x.name,.int .i64 x.every,.int .i64 x.keep,.int .i64 x.shards]:=hW1▸Blk.new _ _ _
     have hT:zcq W1 t s (zhm nm l now fl) A' c' B' d' T ct tb k:=by rw[hW1];exact HP.out.fr0 (Fr.none_alloc _ _)
     have fF:Fr (fun j=>s≤j) W3 W1:=by rw[hW1];exact Hf.out.trans (Fr.none_alloc _ _) q4_
     have hs1:s≤W1.heap.size:=Nat.le_trans hs3 fF.size
     have HNw:Hid (Calls prog 142 #[.int .i64 x.every] W1.drew fun r w'=>(∃ g b,r=.returned (.pointer (some ⟨g,0,none⟩))∧zar w' g x.every b []∧W1.heap.size≤g∧W1.heap.size≤b)∧Below W1.drew.heap.size W1.drew w'):=by
      have:=zfo x.every W1.drew;rw[hmx] at this;exact this
     have FD:Hid (Fr (fun _=>False) W1 W1.drew):=(Fr.refl _ W1).drew;have D1:W1.drew.cell? ⟨wr.heap.size,1,none⟩=some (.int .i64 x.every):=hbx.cell 1;have D2:W1.drew.cell? ⟨t,4,none⟩=some (.slice T k ct):=hT.blk.cell 4
     have HP5:Hid (∀ w5,Fr (fun _=>False) W1.drew w5→w5.cell? ⟨t,4,none⟩=some (.slice T k ct)∧s≤w5.heap.size):=fun w5 h=>⟨((hT.fr0 FD.out).fr0 h).blk.cell 4,Nat.le_trans hs1 h.size⟩
     have HM6:∀ w5,Fr (fun _=>False) W1.drew w5→∀ o T6 c6 w6,Mv (zay (.slice T k ct)) (zay (.slice T6 (k+1) c6)) (w5.alloc o) w6→Blk w6 t 87 _:=fun w5 h o T6 c6 w6 hm=>
      (((hT.fr0 FD.out).fr0 h).fr0 (Fr.none_alloc w5 o)).blk.fr hm.fr (fun hj=>zad (((hT.fr0 FD.out).fr0 h).fr0 (Fr.none_alloc w5 o)).row (((hT.fr0 FD.out).fr0 h).fr0 (Fr.none_alloc w5 o)).blk (by decide) hj)
     have HP6:Hid (∀ w5,Fr (fun _=>False) W1.drew w5→∀ o T6 c6 w6,Mv (zay (.slice T k ct)) (zay (.slice T6 (k+1) c6)) (w5.alloc o) w6→w6.cell? ⟨t,4,none⟩=some (.slice T k ct)):=fun w5 h o T6 c6 w6 hm=>(HM6 w5 h o T6 c6 w6 hm).cell 4;have HF6:Hid (∀ w5,Fr (fun _=>False) W1.drew w5→∀ o T6 c6 w6,Mv (zay (.slice T k ct)) (zay (.slice T6 (k+1) c6)) (w5.alloc o) w6→w6.frozen? ⟨t,4,none⟩=false):=fun w5 h o T6 c6 w6 hm=>(HM6 w5 h o T6 c6 w6 hm).frozen 4
     have HZ:Hid (∀ w5,Fr (fun _=>False) W1.drew w5→∀ o g b T6 c6 w6,zar w5 g x.every b []→W1.heap.size≤g→W1.heap.size≤b→w6.ownsRow s 208 1 (.slice T6 (k+1) c6) (k+1) (zf7 tb++[.pointer (some ⟨g,0,none⟩)])→Mv (zay (.slice T k ct)) (zay (.slice T6 (k+1) c6)) (w5.alloc o) w6→
       zcq (w6.setCell ⟨t,4,none⟩ (.slice T6 (k+1) c6)) t s (zhm nm l now fl) A' c' B' d' T6 c6 (tb++[(g,b)]) (k+1)∧Fr (fun j=>s≤j) W3 (w6.setCell ⟨t,4,none⟩ (.slice T6 (k+1) c6))):=by
      intro w5 h o g b T6 c6 w6 ht hg hb ho hm;have q:=hT.snoc (FD.out.trans h q4_) hs1 hg hb (x:=x) (l:=[]) Hx.out (by show (l.map fun _=>([]:List zaf))[k]? =_;rw[List.getElem?_map,Hx.out];rfl) ht o ho hm;exact⟨q.1,fF.trans q.2 (fun _ h=>.inl h)⟩
     have Hk:Hid (k+1≤maxLen∧(k+1)*8≤140737488355328):=⟨by unfold maxLen;omega,by omega⟩
     have HT:=q0_ hT;clear hT hbx fF HM6 hW1 HP Hf e0 e1 e2 e3 hmx;go_wp2_with fail;refine wp_region_any (by kernel_rfl) ?_;change wpAny _ _ _ _ _ _ _ (World.drew _);refine nl 0 ?v1 rfl ?q1 ?r1
     case q1=>intro W;go_simp;try rfl
     refine nl 1 ?v2 rfl ?q2 ?r2
     case q2=>intro W;go_simp;try rfl
     refine nl 2 ?v3 rfl ?q3 ?r3
     case q3=>intro W;go_simp;try rfl
     refine nl 3 ?v4 rfl ?q4 ?r4
     case q4=>intro W;go_simp;try rfl
     refine nl 5 ?v5 rfl ?q5 ?r5
     case q5=>intro W;go_simp;try rfl
     try simp only[Act.put,sA,sB,sC]
     refine wpAny_ready (rs:=[4,6]) (by kernel_rfl) (by simp) ?_;refine AllReady.cons (dg rfl) (fun K hK=>?_) ?_
     ·go_simp
      refine hK _ _ ?_;clear hK K
      try simp only[Act.put,sA,sB,sC]
      refine rn 6 rfl (fun K hK=>?_);go_simp;refine hK _ _ ?_;clear hK K
      try simp only[Act.put,sA,sB,sC]
      refine rn 7 rfl (fun K hK=>?_);go_simp
      go_wp2_with (go_at_call 142;refine HNw.out.mono ?_;rintro r w5 ⟨⟨g,b,rfl,g5⟩,b5⟩;have q5:=(HP5.out w5 (Fr.b0 b5)).1;have q5a:=fun o=>(HP5.out (w5.alloc o) ((Fr.b0 b5).trans (Fr.none_alloc w5 o) q4_)).1;try dsimp only)
      refine rn 8 rfl (fun K hK=>?_);go_simp;refine hK _ _ ?_;clear hK K
      try simp only[Act.put,sA,sB,sC]
      refine rn 9 rfl (fun K hK=>?_);rw[if_pos (by rfl)];refine za2 (.tmp 75) (.tmp 79) 85 rfl 208 i0 (.pointer none) 1 8 underlying85 hi hz0 hz1 hz2 rfl (by decide) (.slice T k ct) k _ rfl s (Nat.le_trans (HP5.out w5 (Fr.b0 b5)).2 (Fr.none_alloc w5 _).size) (zab (zab (zab HT.out.row (FD.out)) (Fr.b0 b5)) (Fr.none_alloc _ _)) (some ⟨w5.heap.size,0,none⟩) 1 1 [.pointer (some ⟨g,0,none⟩)] rfl (Rd.new w5 [.pointer (some ⟨g,0,none⟩)] _ 1 rfl) (by simp[Value.oneCell']) Hk.out.1 Hk.out.2 ?_;intro T6 c6 w6 ho6 hm6 _;have q6:=HP6.out w5 (Fr.b0 b5) _ _ _ _ hm6;have f6:=HF6.out w5 (Fr.b0 b5) _ _ _ _ hm6;have Hz:=q0_ (HZ.out w5 (Fr.b0 b5) _ _ _ _ _ _ g5.1 g5.2.1 g5.2.2 ho6 hm6);clear ho6 hm6 D1 D2;refine hK _ _ ?_;clear hK K;refine nl 10 ?v6 rfl ?q6 ?r6
      case q6=>intro W;go_simp;try rfl
      refine nl 11 ?v7 rfl ?q7 ?r7
      case q7=>intro W;go_simp;try rfl
      try simp only[Act.put,sA,sB,sC]
      refine rn 12 rfl (fun K hK=>?_);go_simp;refine hK _ _ ?_;clear hK K
      try simp only[Act.put,sA,sB,sC]
      refine wpAny_done (by kernel_rfl) ?_ _;go_wp2
      go_roundw
      case rel=>exact⟨k+1,T6,c6,_,by omega,by go_num,Hz.out.1,Hz.out.2⟩
      case measure=>simp[intOf];omega
     refine AllReady.cons (dg rfl) (fun K hK=>?_) ?_
     ·go_simp
      refine hK _ _ ?_;clear hK K
      try simp only[Act.put,sA,sB,sC]
      refine wpAny_ready (rs:=[4,7]) (by kernel_rfl) (by simp) ?_;refine AllReady.cons (dg rfl) (fun K hK=>?_) ?_
      ·go_simp
       refine hK _ _ ?_;clear hK K
       try simp only[Act.put,sA,sB,sC]
       refine rn 7 rfl (fun K hK=>?_);go_simp
       go_wp2_with (go_at_call 142;refine HNw.out.mono ?_;rintro r w5 ⟨⟨g,b,rfl,g5⟩,b5⟩;have q5:=(HP5.out w5 (Fr.b0 b5)).1;have q5a:=fun o=>(HP5.out (w5.alloc o) ((Fr.b0 b5).trans (Fr.none_alloc w5 o) q4_)).1;try dsimp only)
       refine rn 8 rfl (fun K hK=>?_);go_simp;refine hK _ _ ?_;clear hK K
       try simp only[Act.put,sA,sB,sC]
       refine rn 9 rfl (fun K hK=>?_);rw[if_pos (by rfl)];refine za2 (.tmp 75) (.tmp 79) 85 rfl 208 i0 (.pointer none) 1 8 underlying85 hi hz0 hz1 hz2 rfl (by decide) (.slice T k ct) k _ rfl s (Nat.le_trans (HP5.out w5 (Fr.b0 b5)).2 (Fr.none_alloc w5 _).size) (zab (zab (zab HT.out.row (FD.out)) (Fr.b0 b5)) (Fr.none_alloc _ _)) (some ⟨w5.heap.size,0,none⟩) 1 1 [.pointer (some ⟨g,0,none⟩)] rfl (Rd.new w5 [.pointer (some ⟨g,0,none⟩)] _ 1 rfl) (by simp[Value.oneCell']) Hk.out.1 Hk.out.2 ?_;intro T6 c6 w6 ho6 hm6 _;have q6:=HP6.out w5 (Fr.b0 b5) _ _ _ _ hm6;have f6:=HF6.out w5 (Fr.b0 b5) _ _ _ _ hm6;have Hz:=q0_ (HZ.out w5 (Fr.b0 b5) _ _ _ _ _ _ g5.1 g5.2.1 g5.2.2 ho6 hm6);clear ho6 hm6 D1 D2;refine hK _ _ ?_;clear hK K;refine nl 10 ?v8 rfl ?q8 ?r8
       case q8=>intro W;go_simp;try rfl
       refine nl 11 ?v9 rfl ?q9 ?r9
       case q9=>intro W;go_simp;try rfl
       try simp only[Act.put,sA,sB,sC]
       refine rn 12 rfl (fun K hK=>?_);go_simp;refine hK _ _ ?_;clear hK K
       try simp only[Act.put,sA,sB,sC]
       refine wpAny_done (by kernel_rfl) ?_ _;go_wp2
       go_roundw
       case rel=>exact⟨k+1,T6,c6,_,by omega,by go_num,Hz.out.1,Hz.out.2⟩
       case measure=>simp[intOf];omega
      refine AllReady.cons (dg rfl) (fun K hK=>?_) ?_
      ·go_simp
       go_wp2_with (go_at_call 142;refine HNw.out.mono ?_;rintro r w5 ⟨⟨g,b,rfl,g5⟩,b5⟩;have q5:=(HP5.out w5 (Fr.b0 b5)).1;have q5a:=fun o=>(HP5.out (w5.alloc o) ((Fr.b0 b5).trans (Fr.none_alloc w5 o) q4_)).1;try dsimp only)
       try simp only[Act.put,sA,sB,sC]
       refine wpAny_ready (rs:=[4,8]) (by kernel_rfl) (by simp) ?_;refine AllReady.cons (dg rfl) (fun K hK=>?_) ?_
       ·go_simp
        refine hK _ _ ?_;clear hK K
        try simp only[Act.put,sA,sB,sC]
        refine rn 8 rfl (fun K hK=>?_);go_simp;refine hK _ _ ?_;clear hK K
        try simp only[Act.put,sA,sB,sC]
        refine rn 9 rfl (fun K hK=>?_);rw[if_pos (by rfl)];refine za2 (.tmp 75) (.tmp 79) 85 rfl 208 i0 (.pointer none) 1 8 underlying85 hi hz0 hz1 hz2 rfl (by decide) (.slice T k ct) k _ rfl s (Nat.le_trans (HP5.out w5 (Fr.b0 b5)).2 (Fr.none_alloc w5 _).size) (zab (zab (zab HT.out.row (FD.out)) (Fr.b0 b5)) (Fr.none_alloc _ _)) (some ⟨w5.heap.size,0,none⟩) 1 1 [.pointer (some ⟨g,0,none⟩)] rfl (Rd.new w5 [.pointer (some ⟨g,0,none⟩)] _ 1 rfl) (by simp[Value.oneCell']) Hk.out.1 Hk.out.2 ?_;intro T6 c6 w6 ho6 hm6 _;have q6:=HP6.out w5 (Fr.b0 b5) _ _ _ _ hm6;have f6:=HF6.out w5 (Fr.b0 b5) _ _ _ _ hm6;have Hz:=q0_ (HZ.out w5 (Fr.b0 b5) _ _ _ _ _ _ g5.1 g5.2.1 g5.2.2 ho6 hm6);clear ho6 hm6 D1 D2;refine hK _ _ ?_;clear hK K;refine nl 10 ?v10 rfl ?q10 ?r10
        case q10=>intro W;go_simp;try rfl
        refine nl 11 ?v11 rfl ?q11 ?r11
        case q11=>intro W;go_simp;try rfl
        try simp only[Act.put,sA,sB,sC]
        refine rn 12 rfl (fun K hK=>?_);go_simp;refine hK _ _ ?_;clear hK K
        try simp only[Act.put,sA,sB,sC]
        refine wpAny_done (by kernel_rfl) ?_ _;go_wp2
        go_roundw
        case rel=>exact⟨k+1,T6,c6,_,by omega,by go_num,Hz.out.1,Hz.out.2⟩
        case measure=>simp[intOf];omega
       refine AllReady.cons (dg rfl) (fun K hK=>?_) ?_
       ·go_simp
        refine hK _ _ ?_;clear hK K
        try simp only[Act.put,sA,sB,sC]
        refine rn 4 rfl (fun K hK=>?_);go_simp;refine hK _ _ ?_;clear hK K
        try simp only[Act.put,sA,sB,sC]
        refine rn 9 rfl (fun K hK=>?_);rw[if_pos (by rfl)];refine za2 (.tmp 75) (.tmp 79) 85 rfl 208 i0 (.pointer none) 1 8 underlying85 hi hz0 hz1 hz2 rfl (by decide) (.slice T k ct) k _ rfl s (Nat.le_trans (HP5.out w5 (Fr.b0 b5)).2 (Fr.none_alloc w5 _).size) (zab (zab (zab HT.out.row (FD.out)) (Fr.b0 b5)) (Fr.none_alloc _ _)) (some ⟨w5.heap.size,0,none⟩) 1 1 [.pointer (some ⟨g,0,none⟩)] rfl (Rd.new w5 [.pointer (some ⟨g,0,none⟩)] _ 1 rfl) (by simp[Value.oneCell']) Hk.out.1 Hk.out.2 ?_;intro T6 c6 w6 ho6 hm6 _;have q6:=HP6.out w5 (Fr.b0 b5) _ _ _ _ hm6;have f6:=HF6.out w5 (Fr.b0 b5) _ _ _ _ hm6;have Hz:=q0_ (HZ.out w5 (Fr.b0 b5) _ _ _ _ _ _ g5.1 g5.2.1 g5.2.2 ho6 hm6);clear ho6 hm6 D1 D2;refine hK _ _ ?_;clear hK K;refine nl 10 ?v12 rfl ?q12 ?r12
        case q12=>intro W;go_simp;try rfl
        refine nl 11 ?v13 rfl ?q13 ?r13
        case q13=>intro W;go_simp;try rfl
        try simp only[Act.put,sA,sB,sC]
        refine rn 12 rfl (fun K hK=>?_);go_simp;refine hK _ _ ?_;clear hK K
        try simp only[Act.put,sA,sB,sC]
        refine wpAny_done (by kernel_rfl) ?_ _;go_wp2
        go_roundw
        case rel=>exact⟨k+1,T6,c6,_,by omega,by go_num,Hz.out.1,Hz.out.2⟩
        case measure=>simp[intOf];omega
       exact AllReady.nil
      exact AllReady.nil
     exact AllReady.nil
    ·obtain rfl:k=n:=by omega
     have Hp:=q0_ hp;clear hp hf;go_wp2
     go_ret2
     refine⟨⟨fun _=>⟨t,rfl,?_⟩,fun h=>absurd HE0.out h⟩,(F3.out.below q4_).trans (Hf.out.below_of F3.out.size (fun _ h=>Nat.le_trans hsw h))⟩;obtain rfl:l.length=k:=Hln.out;obtain⟨A1,c1,B1,d1,T1,ct1,tb1,q1,q2,q3,q4,q5,q6,q7,q8,q9⟩:=Hp.out.done (by show (l.map _).length=l.length;simp);exact⟨A1,c1,B1,d1,T1,ct1,tb1,q1,zaY q2 hsw,zaY q3 hsw,zaY q4 hsw,q5,q6,q7,fun p hp=>⟨Nat.le_trans hsw (q8 p hp).1,Nat.le_trans hsw (q8 p hp).2⟩,Nat.le_trans hsw q9⟩
theorem zng{w w1 w':World}(h1:Fr (fun _=>False) w w1)(h2:Fr (fun j=>w.heap.size≤j) w1 w'):Fr (fun _=>False) w w':=h1.trans h2 (fun _ h=>.inr h)
theorem znz(t base:Nat)(X:zac)(w:World)(h:zbA w t base X)(hn:X.tiers.length≤1099511627776)(hm:X.floors.length≤1099511627776):
  Calls prog 97 #[.pointer (some ⟨t,0,none⟩)] w fun r w'=>(∃ t',r=.returned (.pointer (some ⟨t',0,none⟩))∧zbA w' t' w.heap.size X)∧Below w.heap.size w w':=by
 obtain⟨A,c,B,d,T0,ct0,tb0,hin⟩:=h
 have HOf:Hid (∀ w',Fr (fun _=>False) w w'→Calls prog 141 #[.agg #[.string X.name,.slice A X.tiers.length c],.int .i64 X.now,.slice B X.floors.length d] w' fun r w''=>(∃ A' c' B' d',r=.returned (.agg #[.int .i64 X.now,.string X.name,.slice A' X.tiers.length c',.slice B' X.floors.length d'])∧w''.ownsRow w.heap.size 99 4 (.slice A' X.tiers.length c') X.tiers.length (zag X.tiers)∧w''.ownsRow w.heap.size 3 1 (.slice B' X.floors.length d') X.floors.length (zaU X.floors)∧w.heap.size≤w''.heap.size)∧Below w'.heap.size w' w''):=
  fun w' h=>by
   refine (of_own X.name X.tiers A X.tiers.length c X.now X.floors B X.floors.length d w' ((zal hin.tiers).2.2.1.fr0 h) hn ((zal hin.floors).2.2.1.fr0 h) hm).mono ?_;rintro r w'' ⟨⟨A',c',B',d',e,h1,h2⟩,b⟩;exact⟨⟨A',c',B',d',e,zaY h1 h.size,zaY h2 h.size,Nat.le_trans h.size b.size⟩,b⟩
 have Hin:=q0_ hin
 have HC:Hid (∀ W,Fr (fun _=>False) w W→W.cell? ⟨t,0,none⟩=some (.int .i64 X.now)∧W.cell? ⟨t,1,none⟩=some (.string X.name)∧W.cell? ⟨t,2,none⟩=some (.slice A X.tiers.length c)∧W.cell? ⟨t,3,none⟩=some (.slice B X.floors.length d)∧W.cell? ⟨t,4,none⟩=some (.slice T0 X.tiers.length ct0)):=fun W f=>⟨(hin.blk.fr f (fun h=>h)).cell 0,(hin.blk.fr f (fun h=>h)).cell 1,(hin.blk.fr f (fun h=>h)).cell 2,(hin.blk.fr f (fun h=>h)).cell 3,(hin.blk.fr f (fun h=>h)).cell 4⟩
 clear hin;obtain⟨i0,hi,hz0,hz1,hz2⟩:=info_parts zgX;go_enter func97,ntmps97;go_wp2_with fail;refine wp_region_held_drew (S:=fun W=>Fr (fun _=>False) w W) (by kernel_rfl) ((Fr.refl _ w).drew) (fun hY_=>?_);refine tq 15 [0,1,2,3,4,5,6,7,8,9,10,11,12,13,14] ?_
 iterate 14 refine sf HC.out ?_
 refine sf HC.out ?_
 try simp only[Act.put,sA,sB,sC]
 refine sz ?_
 try simp only[Act.put,sA,sB,sC]
 refine rl 15 rfl (fun K hK=>?_);go_simp
 go_wp2_with (go_at_call 141;refine (HOf.out _ hY_).mono ?_;rintro r w2 ⟨⟨A',c',B',d',rfl,ho1,ho2,hsz⟩,b2⟩)
 have Ho1:=q0_ ho1;have Ho2:=q0_ ho2;clear ho1 ho2;refine hK.out _ _ (hY_.trans (Fr.b0 b2) q4_) (fun hY_=>?_);clear hK K;refine tl 16 ?v16 rfl ?q16 ?r16
 case q16=>intro W hSw;(try obtain⟨a0,a1,a2,a3,a4⟩:=HC.out W hSw);go_simp;try rfl
 try simp only[Act.put,sA,sB,sC]
 refine rl 17 rfl (fun K hK=>?_);go_simp;refine hK.out _ _ (hY_.trans (Fr.none_alloc _ _) q4_) (fun hY_=>?_);clear hK K;refine tl 18 ?v17 rfl ?q17 ?r17
 case q17=>intro W hSw;(try obtain⟨a0,a1,a2,a3,a4⟩:=HC.out W hSw);go_simp;try rfl
 try simp only[Act.put,sA,sB,sC]
 refine wpAnyH_done (by kernel_rfl) ?_ _
 obtain⟨t',htd⟩:∃ t',w2.heap.size=t':=⟨_,rfl⟩
 obtain⟨W3,hW3⟩:∃ W3,W3=w2.alloc (.cells #[.int .i64 X.now,.string X.name,.slice A' X.tiers.length c',.slice B' X.floors.length d',.slice none 0 0] 87):=⟨_,rfl⟩
 simp only[htd]
 try rw[← hW3] at hY_ ⊢
 have F3:=q0_ hY_;have hs3:w.heap.size≤W3.heap.size:=hY_.size
 have hP0:zcq W3 t' w.heap.size X A' c' B' d' none 0 [] 0:=by
  have hb:Blk W3 t' 87 #[.int .i64 X.now,.string X.name,.slice A' X.tiers.length c',.slice B' X.floors.length d',.slice none 0 0]:=by rw[hW3];exact Blk.new' htd.symm _ _
  exact⟨hb,by rw[hW3];exact zab Ho1.out (Fr.none_alloc _ _),by rw[hW3];exact zab Ho2.out (Fr.none_alloc _ _),World.ownsRow_nil _ _ _ _,fun i p x l h=>by simp at h,fun p hp=>by simp at hp,by simp,fun p hp=>by simp at hp,by omega⟩
 have HP0:=q0_ hP0;obtain⟨a0,a1,a2,a3,a4⟩:=HC.out W3 F3.out
 obtain⟨s,hs⟩:∃ s,w.heap.size=s:=⟨_,rfl⟩
 rw[hs] at HP0 hs3;clear hP0 Ho1 Ho2 hY_ hW3 HOf b2 hsz htd;go_wp2_with fail
 go_loopw [31] (fun i wr=>∃ (k:Nat) (T:Option Addr) (ct:Nat) (tb:List (Nat×Nat)),k≤X.tiers.length∧i=.int .i64 k∧zcq wr t' s X A' c' B' d' T ct tb k∧Fr (fun j=>s≤j) W3 wr) (fun i _=>X.tiers.length-(intOf i).toNat)
 case atStart=>exact⟨0,none,0,[],Nat.zero_le _,rfl,HP0.out,Fr.refl _ _⟩
 case round=>
  obtain⟨k,T,ct,tb,hk,rfl,hp,hf⟩:=hrel;have FW:Hid (Fr (fun _=>False) w wr):=zng F3.out (by rw[hs];exact hf);have Hf:Hid (Fr (fun j=>s≤j) W3 wr):=hf;clear a0 a1 a2 a3 a4
  by_cases hlt:k<X.tiers.length
  ·obtain⟨g,b,x,l,h1,h2,h3,hT0⟩:=(Hin.out.fr0 FW.out).tabAt hlt
   obtain⟨ad,e,hc⟩:=(zal (Hin.out.fr0 FW.out).row).2.2.1.2 (by omega);subst e;have p0:=hc k _ (zbY h1);have hs1:s≤wr.heap.size:=Nat.le_trans hs3 hf.size
   have kn:0≤(k:Int)∧(k:Int)<(X.tiers.length:Int):=by omega
   have HNw:Hid (Calls prog 143 #[.pointer (some ⟨g,0,none⟩)] wr.drew fun r w'=>(∃ g' b',r=.returned (.pointer (some ⟨g',0,none⟩))∧zar w' g' x.every b' l∧wr.heap.size≤g'∧wr.heap.size≤b')∧Below wr.drew.heap.size wr.drew w'):=zez g x.every b l wr.drew (hT0.fr0 (Fr.refl _ wr).drew);have FD:Hid (Fr (fun _=>False) wr wr.drew):=(Fr.refl _ wr).drew;have D2:wr.drew.cell? ⟨t',4,none⟩=some (.slice T k ct):=hp.blk.cell 4
   have HP5:Hid (∀ w5,Fr (fun _=>False) wr.drew w5→w5.cell? ⟨t',4,none⟩=some (.slice T k ct)∧s≤w5.heap.size):=fun w5 h=>⟨((hp.fr0 FD.out).fr0 h).blk.cell 4,Nat.le_trans hs1 h.size⟩
   have HM6:∀ w5,Fr (fun _=>False) wr.drew w5→∀ o T6 c6 w6,Mv (zay (.slice T k ct)) (zay (.slice T6 (k+1) c6)) (w5.alloc o) w6→Blk w6 t' 87 _:=fun w5 h o T6 c6 w6 hm=>
    (((hp.fr0 FD.out).fr0 h).fr0 (Fr.none_alloc w5 o)).blk.fr hm.fr (fun hj=>zad (((hp.fr0 FD.out).fr0 h).fr0 (Fr.none_alloc w5 o)).row (((hp.fr0 FD.out).fr0 h).fr0 (Fr.none_alloc w5 o)).blk (by decide) hj)
   have HP6:Hid (∀ w5,Fr (fun _=>False) wr.drew w5→∀ o T6 c6 w6,Mv (zay (.slice T k ct)) (zay (.slice T6 (k+1) c6)) (w5.alloc o) w6→w6.cell? ⟨t',4,none⟩=some (.slice T k ct)):=fun w5 h o T6 c6 w6 hm=>(HM6 w5 h o T6 c6 w6 hm).cell 4;have HF6:Hid (∀ w5,Fr (fun _=>False) wr.drew w5→∀ o T6 c6 w6,Mv (zay (.slice T k ct)) (zay (.slice T6 (k+1) c6)) (w5.alloc o) w6→w6.frozen? ⟨t',4,none⟩=false):=fun w5 h o T6 c6 w6 hm=>(HM6 w5 h o T6 c6 w6 hm).frozen 4
   have HZ:Hid (∀ w5,Fr (fun _=>False) wr.drew w5→∀ o g b T6 c6 w6,zar w5 g x.every b l→wr.heap.size≤g→wr.heap.size≤b→w6.ownsRow s 208 1 (.slice T6 (k+1) c6) (k+1) (zf7 tb++[.pointer (some ⟨g,0,none⟩)])→Mv (zay (.slice T k ct)) (zay (.slice T6 (k+1) c6)) (w5.alloc o) w6→
     zcq (w6.setCell ⟨t',4,none⟩ (.slice T6 (k+1) c6)) t' s X A' c' B' d' T6 c6 (tb++[(g,b)]) (k+1)∧Fr (fun j=>s≤j) W3 (w6.setCell ⟨t',4,none⟩ (.slice T6 (k+1) c6))):=by
    intro w5 h o g b T6 c6 w6 ht hg hb ho hm;have q:=hp.snoc (FD.out.trans h q4_) hs1 hg hb (x:=x) (l:=l) h2 h3 ht o ho hm;exact⟨q.1,Hf.out.trans q.2 (fun _ h=>.inl h)⟩
   have Hk:Hid (k+1≤maxLen∧(k+1)*8≤140737488355328):=⟨by unfold maxLen;omega,by omega⟩
   have HT:=q0_ hp;clear hp hf HM6 hc hT0 h1 h2 h3;go_wp2_with fail;refine wp_region_any (by kernel_rfl) ?_;change wpAny _ _ _ _ _ _ _ (World.drew _);refine nl 0 ?v18 rfl ?q18 ?r18
   case q18=>intro W;go_simp;try rfl
   refine nl 1 ?v19 rfl ?q19 ?r19
   case q19=>intro W;go_simp;try rfl
   refine nl 2 ?v20 rfl ?q20 ?r20
   case q20=>intro W;go_simp;try rfl
   refine nl 3 ?v21 rfl ?q21 ?r21
   case q21=>intro W;go_simp;try rfl
   refine nl 5 ?v22 rfl ?q22 ?r22
   case q22=>intro W;go_simp;try rfl
   try simp only[Act.put,sA,sB,sC]
   refine wpAny_ready (rs:=[4,6]) (by kernel_rfl) (by simp) ?_;refine AllReady.cons (dg rfl) (fun K hK=>?_) ?_
   ·go_simp
    refine hK _ _ ?_;clear hK K
    try simp only[Act.put,sA,sB,sC]
    refine rn 6 rfl (fun K hK=>?_);go_simp
    go_wp2_with (go_at_call 143;refine HNw.out.mono ?_;rintro r w5 ⟨⟨g',b',rfl,g5⟩,b5⟩;have q5:=(HP5.out w5 (Fr.b0 b5)).1;have q5a:=fun o=>(HP5.out (w5.alloc o) ((Fr.b0 b5).trans (Fr.none_alloc w5 o) q4_)).1;try dsimp only)
    refine rn 7 rfl (fun K hK=>?_);go_simp;refine hK _ _ ?_;clear hK K
    try simp only[Act.put,sA,sB,sC]
    refine rn 8 rfl (fun K hK=>?_);rw[if_pos (by rfl)];refine za2 (.tmp 39) (.tmp 42) 85 rfl 208 i0 (.pointer none) 1 8 underlying85 hi hz0 hz1 hz2 rfl (by decide) (.slice T k ct) k _ rfl s (Nat.le_trans (HP5.out w5 (Fr.b0 b5)).2 (Fr.none_alloc w5 _).size) (zab (zab (zab HT.out.row (FD.out)) (Fr.b0 b5)) (Fr.none_alloc _ _)) (some ⟨w5.heap.size,0,none⟩) 1 1 [.pointer (some ⟨g',0,none⟩)] rfl (Rd.new w5 [.pointer (some ⟨g',0,none⟩)] _ 1 rfl) (by simp[Value.oneCell']) Hk.out.1 Hk.out.2 ?_;intro T6 c6 w6 ho6 hm6 _;have q6:=HP6.out w5 (Fr.b0 b5) _ _ _ _ hm6;have f6:=HF6.out w5 (Fr.b0 b5) _ _ _ _ hm6;have Hz:=q0_ (HZ.out w5 (Fr.b0 b5) _ _ _ _ _ _ g5.1 g5.2.1 g5.2.2 ho6 hm6);clear ho6 hm6 D2;refine hK _ _ ?_;clear hK K;refine nl 9 ?v23 rfl ?q23 ?r23
    case q23=>intro W;go_simp;try rfl
    refine nl 10 ?v24 rfl ?q24 ?r24
    case q24=>intro W;go_simp;try rfl
    try simp only[Act.put,sA,sB,sC]
    refine rn 11 rfl (fun K hK=>?_);go_simp;refine hK _ _ ?_;clear hK K
    try simp only[Act.put,sA,sB,sC]
    refine wpAny_done (by kernel_rfl) ?_ _;go_wp2
    go_roundw
    case rel=>exact⟨k+1,T6,c6,_,by omega,by go_num,Hz.out.1,Hz.out.2⟩
    case measure=>simp[intOf];omega
   refine AllReady.cons (dg rfl) (fun K hK=>?_) ?_
   ·go_simp
    go_wp2_with (go_at_call 143;refine HNw.out.mono ?_;rintro r w5 ⟨⟨g',b',rfl,g5⟩,b5⟩;have q5:=(HP5.out w5 (Fr.b0 b5)).1;have q5a:=fun o=>(HP5.out (w5.alloc o) ((Fr.b0 b5).trans (Fr.none_alloc w5 o) q4_)).1;try dsimp only)
    try simp only[Act.put,sA,sB,sC]
    refine wpAny_ready (rs:=[4,7]) (by kernel_rfl) (by simp) ?_;refine AllReady.cons (dg rfl) (fun K hK=>?_) ?_
    ·go_simp
     refine hK _ _ ?_;clear hK K
     try simp only[Act.put,sA,sB,sC]
     refine rn 7 rfl (fun K hK=>?_);go_simp;refine hK _ _ ?_;clear hK K
     try simp only[Act.put,sA,sB,sC]
     refine rn 8 rfl (fun K hK=>?_);rw[if_pos (by rfl)];refine za2 (.tmp 39) (.tmp 42) 85 rfl 208 i0 (.pointer none) 1 8 underlying85 hi hz0 hz1 hz2 rfl (by decide) (.slice T k ct) k _ rfl s (Nat.le_trans (HP5.out w5 (Fr.b0 b5)).2 (Fr.none_alloc w5 _).size) (zab (zab (zab HT.out.row (FD.out)) (Fr.b0 b5)) (Fr.none_alloc _ _)) (some ⟨w5.heap.size,0,none⟩) 1 1 [.pointer (some ⟨g',0,none⟩)] rfl (Rd.new w5 [.pointer (some ⟨g',0,none⟩)] _ 1 rfl) (by simp[Value.oneCell']) Hk.out.1 Hk.out.2 ?_;intro T6 c6 w6 ho6 hm6 _;have q6:=HP6.out w5 (Fr.b0 b5) _ _ _ _ hm6;have f6:=HF6.out w5 (Fr.b0 b5) _ _ _ _ hm6;have Hz:=q0_ (HZ.out w5 (Fr.b0 b5) _ _ _ _ _ _ g5.1 g5.2.1 g5.2.2 ho6 hm6);clear ho6 hm6 D2;refine hK _ _ ?_;clear hK K;refine nl 9 ?v25 rfl ?q25 ?r25
     case q25=>intro W;go_simp;try rfl
     refine nl 10 ?v26 rfl ?q26 ?r26
     case q26=>intro W;go_simp;try rfl
     try simp only[Act.put,sA,sB,sC]
     refine rn 11 rfl (fun K hK=>?_);go_simp;refine hK _ _ ?_;clear hK K
     try simp only[Act.put,sA,sB,sC]
     refine wpAny_done (by kernel_rfl) ?_ _;go_wp2
     go_roundw
     case rel=>exact⟨k+1,T6,c6,_,by omega,by go_num,Hz.out.1,Hz.out.2⟩
     case measure=>simp[intOf];omega
    refine AllReady.cons (dg rfl) (fun K hK=>?_) ?_
    ·go_simp
     refine hK _ _ ?_;clear hK K
     try simp only[Act.put,sA,sB,sC]
     refine rn 4 rfl (fun K hK=>?_);go_simp;refine hK _ _ ?_;clear hK K
     try simp only[Act.put,sA,sB,sC]
     refine rn 8 rfl (fun K hK=>?_);rw[if_pos (by rfl)];refine za2 (.tmp 39) (.tmp 42) 85 rfl 208 i0 (.pointer none) 1 8 underlying85 hi hz0 hz1 hz2 rfl (by decide) (.slice T k ct) k _ rfl s (Nat.le_trans (HP5.out w5 (Fr.b0 b5)).2 (Fr.none_alloc w5 _).size) (zab (zab (zab HT.out.row (FD.out)) (Fr.b0 b5)) (Fr.none_alloc _ _)) (some ⟨w5.heap.size,0,none⟩) 1 1 [.pointer (some ⟨g',0,none⟩)] rfl (Rd.new w5 [.pointer (some ⟨g',0,none⟩)] _ 1 rfl) (by simp[Value.oneCell']) Hk.out.1 Hk.out.2 ?_;intro T6 c6 w6 ho6 hm6 _;have q6:=HP6.out w5 (Fr.b0 b5) _ _ _ _ hm6;have f6:=HF6.out w5 (Fr.b0 b5) _ _ _ _ hm6;have Hz:=q0_ (HZ.out w5 (Fr.b0 b5) _ _ _ _ _ _ g5.1 g5.2.1 g5.2.2 ho6 hm6);clear ho6 hm6 D2;refine hK _ _ ?_;clear hK K;refine nl 9 ?v27 rfl ?q27 ?r27
     case q27=>intro W;go_simp;try rfl
     refine nl 10 ?v28 rfl ?q28 ?r28
     case q28=>intro W;go_simp;try rfl
     try simp only[Act.put,sA,sB,sC]
     refine rn 11 rfl (fun K hK=>?_);go_simp;refine hK _ _ ?_;clear hK K
     try simp only[Act.put,sA,sB,sC]
     refine wpAny_done (by kernel_rfl) ?_ _;go_wp2
     go_roundw
     case rel=>exact⟨k+1,T6,c6,_,by omega,by go_num,Hz.out.1,Hz.out.2⟩
     case measure=>simp[intOf];omega
    exact AllReady.nil
   exact AllReady.nil
  ·obtain rfl:k=X.tiers.length:=by omega
   have Hp:=q0_ hp;clear hp hf;go_wp2;go_ret;exact⟨⟨t',rfl,by rw[hs];exact Hp.out.done Hin.out.tlen⟩,FW.out.below q4_⟩
def zfc(X:zac)(l:List zaz):Int:=
 match l.find? fun s=>decide (zcl X.now X.tiers X.floors s≠0) with
 | some s=>zcl X.now X.tiers X.floors s
 | none=>0
def zgD(X:zac)(l:List zaz):Int:=if l.length=0 then 1 else if 8<l.length then 2 else zfc X l
def zdJ(X:zac)(s:zaz)(k:Nat)(l:List zaf):List zaf:=
 match X.tiers[k]? with
 | some x=>if (zcm X.now X.tiers X.floors k s.time).2 then zb5 x.every l ⟨s.name,(zcm X.now X.tiers X.floors k s.time).1,zbj s.value⟩ else l
 | none=>l
def zi1(X:zac)(tabs:List (List zaf))(s:zaz):List (List zaf):=(List.range X.tiers.length).map fun k=>zdJ X s k (tabs.getD k [])
def zc2(X:zac)(tabs:List (List zaf))(l:List zaz):List (List zaf):=l.foldl (zi1 X) tabs
def zbn(X:zac)(l:List zaz):zac:=if zgD X l=0 then {X with tabs:=zc2 X X.tabs l} else X
theorem zmE(X:zac)(tabs:List (List zaf))(l:List zaz)(s:zaz):zc2 X tabs (l++[s])=zi1 X (zc2 X tabs l) s:=by unfold zc2;rw[List.foldl_append];rfl
theorem zld(mg:Option zaS→zaS→zaS)(l:List zaf)(r:zaf):(zcE mg l r).length≤l.length+1:=by
 induction l with
 | nil=>simp[zcE]
 | cons x l ih=>
  unfold zcE
  split
  ·simp;exact ih
  ·split<;>simp
theorem zhc(every:Int)(l:List zaf)(r:zaf):(zb5 every l r).length≤l.length+1:=by
 unfold zb5
 split
 ·exact zld _ _ _
 ·omega
theorem zji(X:zac)(s:zaz)(k:Nat)(l:List zaf):(zdJ X s k l).length≤l.length+1:=by
 unfold zdJ
 split
 ·split
  ·exact zhc _ _ _
  ·omega
 ·omega
theorem ze8{L:List (List zaf)}{c:Nat}(h:∀ m∈L,m.length≤c)(k:Nat):(L.getD k []).length≤c:=by
 rw[List.getD_eq_getElem?_getD]
 cases hk:L[k]? with
 | none=>simp
 | some m=>exact h m (List.mem_of_getElem? hk)
theorem zqn{X:zac}{tabs:List (List zaf)}{c:Nat}(s:zaz)(h:∀ m∈tabs,m.length≤c):∀ m∈zi1 X tabs s,m.length≤c+1:=by
 intro m hm;unfold zi1 at hm;obtain⟨k,_,rfl⟩:=List.mem_map.1 hm;have h1:=zji X s k (tabs.getD k []);have h2:=ze8 h k;omega
theorem zjA{X:zac}:∀ (l:List zaz) {tabs:List (List zaf)} {c:Nat},(∀ m∈tabs,m.length≤c)→∀ m∈zc2 X tabs l,m.length≤c+l.length
 | [],_,_,h=>by simpa[zc2] using h
 | s::l,tabs,c,h=>fun m hm=>by
  have:=zjA (X:=X) l (zqn (X:=X) s h) m hm;rw[List.length_cons];omega
theorem ziw{α:Type}{L:List α}{k:Nat}{y:α}(h:L[k]? =some y):L.set k y=L:=by
 apply List.ext_getElem?
 intro i
 by_cases e:k=i
 ·subst e
  rw[h,List.getElem?_set_self (List.getElem?_eq_some_iff.1 h).1]
 ·rw[List.getElem?_set_ne e]
theorem zg1{X:zac}{l:List zaz}(h:∀ s∈l,zcl X.now X.tiers X.floors s=0):zfc X l=0:=by
 unfold zfc;rw[List.find?_eq_none.2 (fun s hs=>by simp[h s hs])]
theorem zoF{X:zac}{l:List zaz}{k:Nat}{s:zaz}(hk:l[k]? =some s)(hz:zcl X.now X.tiers X.floors s≠0)(hb:∀ j,j<k→∀ y,l[j]? =some y→zcl X.now X.tiers X.floors y=0):zfc X l=zcl X.now X.tiers X.floors s:=by
 have:l.find? (fun s=>decide (zcl X.now X.tiers X.floors s≠0))=some s:=by
  have hkl:=(List.getElem?_eq_some_iff.1 hk)
  rw[List.find?_eq_some_iff_getElem];refine⟨by simpa using hz,k,hkl.1,hkl.2,fun j hj=>?_⟩;have:=hb j hj _ (q6_ (Nat.lt_trans hj hkl.1));simp[this]
 unfold zfc;rw[this]
theorem zki{v:Int}(hv:zbx v):(zbj v).wf:=by
 unfold zbx at hv;unfold zbj zaS.wf zbx;refine⟨by simp,?_,?_,hv,hv⟩
 ·simp only;omega
 ·simp only;omega
theorem zpo(t base:Nat)(X:zac)(F:Nat→Prop)(l:List zaz)(A1:Option Addr)(n1 c1:Nat)(w:World)(h:zaK w t base X F)(h0:0<X.tiers.length)(hn:X.tiers.length≤1000)(hl:∀ m∈X.tabs,m.length≤1000000)(hnow:0≤X.now∧X.now≤1099511627776)(hwf:∀ x∈X.tiers,x.wf)(hr:Rd w 3 A1 n1 (zdE l))(hsw:∀ s∈l,s.wf):
  Calls prog 98 #[.pointer (some ⟨t,0,none⟩),.slice A1 n1 c1] w fun r w'=>r=.returned (.int .i64 (zgD X l))∧zaK w' t base (zbn X l) F∧Fr (fun j=>F j∧∃ es ck,w.heap[j]? =some (.map es ck)) w w':=by
 have HN:=q0_ (zeS t base X w h.at_ h0);have HT:=q0_ h;obtain⟨A,c,B,d,T,ct,tb,hi,rfl⟩:=h;have c4:=hi.blk.cell 4;simp only[q1_,q2_,q3_] at c4;have Hi:=q0_ hi;have Hr:=q0_ hr;have Hln:=q0_ hr.samps_len;have Hsw:=q0_ hsw;have Hwf:=q0_ hwf;have Hl:=q0_ hl;have HM:Hid (∀ j,tM tb j→∃ es ck,w.heap[j]? =some (.map es ck)):=fun j hj=>(hi.map_ hj).2.2
 have hn64:i64 X.now:=by unfold i64;omega
 have hRV:zb_ X.now X.name A X.tiers.length c B X.floors.length d=.agg #[.int .i64 X.now,.string X.name,.slice A X.tiers.length c,.slice B X.floors.length d]:=rfl
 have HTk0:Hid (∀ (s:zaz),s∈l→∀ W,Fr (fun _=>False) w W→Calls prog 145 #[.agg #[.int .i64 X.now,.string X.name,.slice A X.tiers.length c,.slice B X.floors.length d],.agg #[.string s.name,.int .i64 s.time,.int .i64 s.value]] W fun r w'=>r=.returned (.int .i64 (zcl X.now X.tiers X.floors s))∧Below W.heap.size W w'):=fun s hs W hf=>by
  have hi':=Hi.out.fr0 hf;exact znB X.now hn64 X.name X.tiers A X.tiers.length c X.floors B X.floors.length d s (Hsw.out s hs).2.2 W (zal hi'.tiers).2.2.1 (zal hi'.floors).2.2.1 Hwf.out (by omega)
 have HSt0:Hid (∀ (s:zaz),s∈l→∀ (k:Nat) (W:World) (tabs:List (List zaf)),zaQ W t base {X with tabs:=tabs} A c B d T ct tb→Calls prog 146 #[.agg #[.int .i64 X.now,.string X.name,.slice A X.tiers.length c,.slice B X.floors.length d],.int .i64 k,.int .i64 s.time] W fun r w'=>r=.returned (.tuple #[.int .i64 (zcm X.now X.tiers X.floors k s.time).1,.bool (zcm X.now X.tiers X.floors k s.time).2])∧Below W.heap.size W w'):=fun s hs k W tabs hi'=>by
  exact znJ X.now hn64 X.name X.tiers A X.tiers.length c X.floors B X.floors.length d k s.time (Hsw.out s hs).1 W (zal hi'.tiers).2.2.1 (zal hi'.floors).2.2.1 Hwf.out (by omega)
 clear hi hr hsw hwf hl hRV
 obtain⟨E,hE⟩:∃ E,zgD X l=E:=⟨_,rfl⟩
 obtain⟨Z,hZ⟩:∃ Z,zbn X l=Z:=⟨_,rfl⟩
 have HE:=q0_ hE
 have HZ:Hid (Z=if E=0 then {X with tabs:=zc2 X X.tabs l} else X):=by show _=_;rw[← hZ, ← hE];rfl
 rw[hE,hZ];clear hE hZ
 by_cases hz0:n1=0
 ·subst hz0
  have hE1:E=1:=by rw[← HE.out];unfold zgD;rw[Hln.out,if_pos rfl]
  subst hE1;have HZ2:Hid (Z=X):=HZ.out;go_enter func98,ntmps98;go_wp2_with fail;refine HN.out.mono ?_;rintro r w' ⟨rfl,rfl⟩;go_wp2;go_ret;exact⟨rfl,by rw[HZ2.out];exact HT.out,Fr.refl _ _⟩
 have hz1:((n1:Int)==0)=false:=by simp;omega
 have hz2:(n1==0)=false:=by simp;omega
 by_cases hb8:8<n1
 ·have hd1:decide ((8:Int)<(n1:Int))=true:=qa_ (by omega)
  have hd2:decide (8<n1)=true:=qa_ hb8
  have hE1:E=2:=by rw[← HE.out];unfold zgD;rw[Hln.out,if_neg hz0,if_pos hb8]
  subst hE1;have HZ2:Hid (Z=X):=HZ.out;go_enter func98,ntmps98;go_wp2_with fail;refine HN.out.mono ?_;rintro r w' ⟨rfl,rfl⟩;go_wp2;go_ret;exact⟨rfl,by rw[HZ2.out];exact HT.out,Fr.refl _ _⟩
 have hd1:decide ((8:Int)<(n1:Int))=false:=q9_ (by omega);have hd2:decide (8<n1)=false:=q9_ hb8
 have HE2:Hid (zfc X l=E):=by show _=_;rw[← HE.out];unfold zgD;rw[Hln.out,if_neg hz0,if_neg hb8]
 go_enter func98,ntmps98;go_wp2_with fail;refine HN.out.mono ?_;rintro r w' ⟨rfl,rfl⟩;go_wp2_with fail;clear c4
 go_loopw [28] (fun i wr=>∃ k:Nat,k≤n1∧i=.int .i64 k∧Fr (fun _=>False) w wr∧∀ j,j<k→∀ y,l[j]? =some y→zcl X.now X.tiers X.floors y=0) (fun i _=>n1-(intOf i).toNat)
 case atStart=>exact⟨0,Nat.zero_le _,rfl,Fr.refl _ _,fun j hj=>absurd hj (by omega)⟩
 case round=>
  obtain⟨k,hk,rfl,hf,hall⟩:=hrel;have Hf:=q0_ hf;have Hall:=q0_ hall;clear hf hall
  by_cases hlt:k<n1
  ·obtain⟨ad,s,rfl,hs,d0,d1,d2⟩:=(Hr.out.fr0 Hf.out).samp_ hlt
   have Hs:=q0_ hs
   have kn:0≤(k:Int)∧(k:Int)<(n1:Int):=by omega
   clear hs;go_wp2_with fail
   obtain⟨W1,hW1⟩:∃ W1,W1=wr.alloc (.cells #[.string s.name,.int .i64 s.time,.int .i64 s.value] 201):=⟨_,rfl⟩
   rw[← hW1];have hbx:Blk W1 wr.heap.size 201 #[.string s.name,.int .i64 s.time,.int .i64 s.value]:=hW1▸Blk.new _ _ _
   have F1:Hid (Fr (fun _=>False) w W1):=by show Fr _ _ _;rw[hW1];exact Hf.out.trans (Fr.none_alloc _ _) q4_
   have hbt:=(Hi.out.fr0 F1.out).blk
   have HC:Hid (∀ W,Fr (fun _=>False) W1 W→W.cell? ⟨t,0,none⟩=some (.int .i64 X.now)∧W.cell? ⟨t,1,none⟩=some (.string X.name)∧W.cell? ⟨t,2,none⟩=some (.slice A X.tiers.length c)∧W.cell? ⟨t,3,none⟩=some (.slice B X.floors.length d)∧W.cell? ⟨wr.heap.size,0,none⟩=some (.string s.name)∧W.cell? ⟨wr.heap.size,1,none⟩=some (.int .i64 s.time)∧W.cell? ⟨wr.heap.size,2,none⟩=some (.int .i64 s.value)):=fun W f=>⟨(hbt.fr f (fun h=>h)).cell 0,(hbt.fr f (fun h=>h)).cell 1,(hbt.fr f (fun h=>h)).cell 2,(hbt.fr f (fun h=>h)).cell 3,(hbx.fr f (fun h=>h)).cell 0,(hbx.fr f (fun h=>h)).cell 1,(hbx.fr f (fun h=>h)).cell 2⟩
   have HTk:Hid (∀ W,Fr (fun _=>False) W1 W→Calls prog 145 #[.agg #[.int .i64 X.now,.string X.name,.slice A X.tiers.length c,.slice B X.floors.length d],.agg #[.string s.name,.int .i64 s.time,.int .i64 s.value]] W fun r w'=>r=.returned (.int .i64 (zcl X.now X.tiers X.floors s))∧Below W.heap.size W w'):=fun W f=>HTk0.out s (zaa Hs.out) W (F1.out.trans f q4_)
   obtain⟨tv,htv⟩:∃ tv,zcl X.now X.tiers X.floors s=tv:=⟨_,rfl⟩
   have Htv:=q0_ htv;rw[htv] at HTk;clear hbx hbt hW1 htv d0 d1 d2;refine wp_region_held_drew (S:=fun W=>Fr (fun _=>False) W1 W) (by kernel_rfl) ((Fr.refl _ W1).drew) (fun hY_=>?_);refine tq 5 [0,1,2,3,4] ?_
   iterate 4 refine sf HC.out ?_
   refine sf HC.out ?_
   try simp only[Act.put,sA,sB,sC]
   refine sz ?_
   try simp only[Act.put,sA,sB,sC]
   refine rl 5 rfl (fun K hK=>?_);go_simp
   go_wp2_with (go_at_call 145;refine (HTk.out _ hY_).mono ?_;rintro r w5 ⟨rfl,b5⟩)
   refine hK.out _ _ (hY_.trans (Fr.b0 b5) q4_) (fun hY_=>?_);clear hK K;refine tl 6 ?v6 rfl ?q6 ?r6
   case q6=>intro W hSw;(try obtain⟨a0,a1,a2,a3,s0,s1,s2⟩:=HC.out W hSw);go_simp;try rfl
   try simp only[Act.put,sA,sB,sC]
   refine wpAnyH_done (by kernel_rfl) ?_ _;have F5:=q0_ (F1.out.trans hY_ q4_);clear hY_ b5
   by_cases hz:tv=0
   ·subst hz
    go_wp2
    go_roundw
    case rel=>
     refine⟨k+1,by omega,by go_num,F5.out,fun j hj y hy=>?_⟩
     by_cases e:j=k
     ·subst e
      rw[Hs.out] at hy
      cases hy
      exact Htv.out
     ·exact Hall.out j (by omega) y hy
    case measure=>simp[intOf];omega
   ·have hzb:(tv==0)=false:=by simp[hz]
    have HEt:Hid (E=tv):=by show _=_;rw[← HE2.out, ← Htv.out];exact zoF Hs.out (by rw[Htv.out];exact hz) Hall.out
    have HZ2:Hid (Z=X):=by show _=_;rw[HZ.out,if_neg (by rw[HEt.out];exact hz)]
    go_wp2;go_ret;exact⟨by rw[HEt.out];rfl,by rw[HZ2.out];exact HT.out.fr0 F5.out,F5.out.mono q4_⟩
  ·have hE0:E=0:=by
    rw[← HE2.out];refine zg1 (fun s hs=>?_);obtain⟨j,hj⟩:=List.getElem?_of_mem hs;exact Hall.out j (by have:=(List.getElem?_eq_some_iff.1 hj).1;rw[Hln.out] at this;omega) s hj
   have HE0:=q0_ hE0
   have HZ2:Hid (Z={X with tabs:=zc2 X X.tabs l}):=by show _=_;rw[HZ.out,if_pos HE0.out]
   have Hi1:=q0_ (Hi.out.fr0 Hf.out);have Hf1:Hid (Fr (tM tb) w wr):=Hf.out.mono q4_;clear hE0 HTk0 Hall;go_wp2_with fail
   go_loopw [44] (fun i wr=>∃ k:Nat,k≤n1∧i=.int .i64 k∧zaQ wr t base {X with tabs:=zc2 X X.tabs (l.take k)} A c B d T ct tb∧Fr (tM tb) w wr) (fun i _=>n1-(intOf i).toNat)
   case atStart=>exact⟨0,Nat.zero_le _,rfl,Hi1.out,Hf1.out⟩
   case round=>
    clear Hi1 Hf1 Hf;obtain⟨q,hq,rfl,hiq,hfq⟩:=hrel;have Hiq:=q0_ hiq;have Hfq:=q0_ hfq;clear hiq hfq
    by_cases hlq:q<n1
    ·obtain⟨ad,s,rfl,hs,d0,d1,d2⟩:=(Hr.out.fr Hfq.out (fun j hj hm=>by obtain⟨es,ck,hb⟩:=HM.out j hm;exact zdS Hr.out (by decide) hb hj rfl)).samp_ hlq
     have Hs:=q0_ hs
     have kn:0≤(q:Int)∧(q:Int)<(n1:Int):=by omega
     have HL:Hid (∀ m∈zc2 X X.tabs (l.take q),m.length≤1000008):=fun m hm=>by
      have:=zjA (X:=X) (l.take q) Hl.out m hm;rw[List.length_take] at this;omega
     obtain⟨tabs,htabs⟩:∃ tabs,zc2 X X.tabs (l.take q)=tabs:=⟨_,rfl⟩
     have HN1:Hid (zc2 X X.tabs (l.take (q+1))=zi1 X tabs s):=by show _=_;rw[zak Hs.out,zmE,htabs]
     rw[htabs] at HL Hiq;have Hlt:=q0_ Hiq.out.tlen
     obtain⟨DL,hDL⟩:∃ DL,zi1 X tabs s=DL:=⟨_,rfl⟩
     have HDg:Hid (∀ j,j<X.tiers.length→DL[j]? =some (zdJ X s j (tabs.getD j []))):=fun j hj=>by
      rw[← hDL];unfold zi1;rw[List.getElem?_map,List.getElem?_range hj];rfl
     have HDl:Hid (DL.length=X.tiers.length):=by show _=_;rw[← hDL];unfold zi1;simp
     rw[hDL] at HN1;have hsw:=Hsw.out s (zaa Hs.out);have HSt1:=q0_ (HSt0.out s (zaa Hs.out));have c4:=(Hiq.out.blk.alloc (.cells #[.string s.name,.int .i64 s.time,.int .i64 s.value] 201)).cell 4;simp only[q1_,q2_,q3_] at c4
     obtain⟨sb,hsb⟩:∃ sb,wr.heap.size=sb:=⟨_,rfl⟩
     clear hs htabs hDL;go_wp2_with fail
     obtain⟨W1,hW1⟩:∃ W1,W1=wr.alloc (.cells #[.string s.name,.int .i64 s.time,.int .i64 s.value] 201):=⟨_,rfl⟩
     rw[← hW1]
     try rw[hsb]
     have hbx:Hid (Blk W1 sb 201 #[.string s.name,.int .i64 s.time,.int .i64 s.value]):=by show Blk _ _ _ _;rw[hW1];exact Blk.new' hsb.symm _ _
     have F1:Hid (Fr (tM tb) w W1):=by show Fr _ _ _;rw[hW1];exact Hfq.out.trans (Fr.none_alloc _ _) q4_
     have Hi1:Hid (zaQ W1 t base {X with tabs:=DL.take 0++tabs.drop 0} A c B d T ct tb):=by
      show zaQ _ _ _ _ _ _ _ _ _ _ _
      rw[hW1];exact Hiq.out.fr0 (Fr.none_alloc _ _)
     have hsbM:Hid (∀ j,tM tb j→sb≠j):=fun j hj e=>by
      obtain⟨_,_,es,ck,hb⟩:=Hi1.out.map_ hj;have hb0:W1.heap[sb]? =some (Obj.cells _ _ (0,0)):=hbx.out;rw[e,hb] at hb0
      cases hb0
     clear hW1 d0 d1 d2 c4 Hiq Hfq
     go_loopw [53] (fun i wr=>∃ j:Nat,j≤X.tiers.length∧i=.int .i64 j∧zaQ wr t base {X with tabs:=DL.take j++tabs.drop j} A c B d T ct tb∧Fr (tM tb) W1 wr) (fun i _=>X.tiers.length-(intOf i).toNat)
     case atStart=>exact⟨0,Nat.zero_le _,rfl,Hi1.out,Fr.refl _ _⟩
     case round=>
      obtain⟨j,hj,rfl,hij,hfj⟩:=hrel;have Hij:=q0_ hij;have Hfj:=q0_ hfj;have Hbx:=q0_ (hbx.out.fr hfj (fun hm=>hsbM.out sb hm rfl));clear hij hfj
      by_cases hlj:j<X.tiers.length
      ·obtain⟨g,b,x,m,h1,h2,h3,hTb⟩:=Hij.out.tabAt (k:=j) hlj
       obtain⟨ad,e,hc⟩:=(zal Hij.out.row).2.2.1.2 (show 0<X.tiers.length by omega);subst e;have p0:=hc j _ (zbY h1)
       have kj:0≤(j:Int)∧(j:Int)<(X.tiers.length:Int):=by omega
       have h2':X.tiers[j]? =some x:=h2
       have h3':tabs[j]? =some m:=by
        have h3'':(DL.take j++tabs.drop j)[j]? =some m:=h3;rw[List.getElem?_append_right (by rw[List.length_take];omega),List.length_take,Nat.min_eq_left (by rw[HDl.out];omega),Nat.sub_self,List.getElem?_drop] at h3'';simpa using h3''
       have hml:=HL.out m (zaa h3');have hget:=HDg.out j hlj;rw[show tabs.getD j []=m by rw[List.getD_eq_getElem?_getD,h3'];rfl] at hget;have hbt:=Hij.out.blk
       have HC:Hid (∀ W,Fr (fun _=>False) wr W→W.cell? ⟨t,0,none⟩=some (.int .i64 X.now)∧W.cell? ⟨t,1,none⟩=some (.string X.name)∧W.cell? ⟨t,2,none⟩=some (.slice A X.tiers.length c)∧W.cell? ⟨t,3,none⟩=some (.slice B X.floors.length d)∧W.cell? ⟨sb,0,none⟩=some (.string s.name)∧W.cell? ⟨sb,1,none⟩=some (.int .i64 s.time)∧W.cell? ⟨sb,2,none⟩=some (.int .i64 s.value)):=fun W f=>⟨(hbt.fr f (fun h=>h)).cell 0,(hbt.fr f (fun h=>h)).cell 1,(hbt.fr f (fun h=>h)).cell 2,(hbt.fr f (fun h=>h)).cell 3,(Hbx.out.fr f (fun h=>h)).cell 0,(Hbx.out.fr f (fun h=>h)).cell 1,(Hbx.out.fr f (fun h=>h)).cell 2⟩
       have HSt:Hid (∀ W,Fr (fun _=>False) wr W→Calls prog 146 #[.agg #[.int .i64 X.now,.string X.name,.slice A X.tiers.length c,.slice B X.floors.length d],.int .i64 j,.int .i64 s.time] W fun r w'=>r=.returned (.tuple #[.int .i64 (zcm X.now X.tiers X.floors j s.time).1,.bool (zcm X.now X.tiers X.floors j s.time).2])∧Below W.heap.size W w'):=fun W f=>HSt1.out j W _ (Hij.out.fr0 f)
       have hsti:zbx (zcm X.now X.tiers X.floors j s.time).1:=by
        unfold zcm
        split
        ·split
         ·exact zga hsw.1.1 hsw.1.2
         ·simp[zbx]
        ·simp[zbx]
       have hgs:zdJ X s j m=if (zcm X.now X.tiers X.floors j s.time).2 then zb5 x.every m ⟨s.name,(zcm X.now X.tiers X.floors j s.time).1,zbj s.value⟩ else m:=by unfold zdJ;rw[h2']
       rw[hgs] at hget
       obtain⟨sv,hsv⟩:∃ sv,(zcm X.now X.tiers X.floors j s.time).1=sv:=⟨_,rfl⟩
       obtain⟨bv,hbv⟩:∃ bv,(zcm X.now X.tiers X.floors j s.time).2=bv:=⟨_,rfl⟩
       rw[hsv,hbv] at HSt hget;rw[hsv] at hsti;have Hget:=q0_ hget;have H1:=q0_ h1;have H2:=q0_ h2';have H3:=q0_ h3;have HT1:=q0_ hTb;clear hc h1 h2 h3 h2' h3' hTb hbt hget hgs hsv hbv;go_wp2_with fail;refine wp_region_held_drew (S:=fun W=>Fr (fun _=>False) wr W) (by kernel_rfl) ((Fr.refl _ wr).drew) (fun hY_=>?_);refine tq 7 [0,1,2,3,4,5,6] ?_
       iterate 6 refine sf HC.out ?_
       refine sf HC.out ?_
       try simp only[Act.put,sA,sB,sC]
       refine sz ?_
       try simp only[Act.put,sA,sB,sC]
       refine rl 7 rfl (fun K hK=>?_);go_simp
       go_wp2_with (go_at_call 146;refine (HSt.out _ hY_).mono ?_;rintro r w5 ⟨rfl,b5⟩)
       refine hK.out _ _ (hY_.trans (Fr.b0 b5) q4_) (fun hY_=>?_);clear hK K;refine tq 5 [8,9,10,11,12] ?_
       iterate 4 refine sf HC.out ?_
       refine sf HC.out ?_
       try simp only[Act.put,sA,sB,sC]
       refine sz ?_
       try simp only[Act.put,sA,sB,sC]
       refine wpAnyH_done (by kernel_rfl) ?_ _;have F5:=q0_ hY_;clear hY_ b5 p0
       cases hbv:bv
       ·rw[hbv] at Hget
        go_wp2
        go_roundw
        case rel=>
         refine⟨j+1,by omega,by go_num,?_,Hfj.out.trans F5.out q4_⟩;have e:=zf8 (D:=DL) (L:=tabs) (k:=j) (by rw[Hlt.out];exact hlj) Hget.out (by rw[HDl.out];omega);rw[if_neg (by simp),ziw H3.out] at e;rw[← e];exact Hij.out.fr0 F5.out
        case measure=>simp[intOf];omega
       ·rw[hbv,if_pos rfl] at Hget
        have HTb:=q0_ (HT1.out.fr0 F5.out);have Hbx5:=q0_ (Hbx.out.fr F5.out (fun h=>h));have hsb5:=hsbM.out b ⟨_,List.mem_of_getElem? H1.out,rfl⟩
        have HC5:Hid (∀ W,Fr (fun i=>i=b) w5 W→W.cell? ⟨sb,0,none⟩=some (.string s.name)∧W.cell? ⟨sb,1,none⟩=some (.int .i64 s.time)∧W.cell? ⟨sb,2,none⟩=some (.int .i64 s.value)):=fun W f=>⟨(Hbx5.out.fr f hsb5).cell 0,(Hbx5.out.fr f hsb5).cell 1,(Hbx5.out.fr f hsb5).cell 2⟩
        have hagw:=zki hsw.2.1;have HOf:Hid (∀ W A c,Rd W 1 A 1 [.int .i64 s.value]→Calls prog 148 #[.slice A 1 c] W fun r w'=>r=.returned (zbj s.value).val∧Below W.heap.size W w'):=fun W A c hrd=>zjM s.value hsw.2.1 A c W hrd
        obtain⟨ag,hag⟩:∃ ag,zbj s.value=ag:=⟨_,rfl⟩
        rw[hag] at hagw HOf Hget
        have HAd:Hid (∀ W A c,zar W g x.every b m→Rd W 7 A 1 [.string s.name,.int .i64 sv,.int .i64 ag.count,.int .i64 ag.hi,.int .u64 ag.lo,.int .i64 ag.min,.int .i64 ag.max]→Calls prog 147 #[.pointer (some ⟨g,0,none⟩),.slice A 1 c] W fun r' w'=>r'=.returned (.int .i64 (([⟨s.name,sv,ag⟩].filter (zaJ x.every)).length:Nat))∧zar w' g x.every b (zb5 x.every m ⟨s.name,sv,ag⟩)∧Fr (fun j=>j=b) W w'):=fun W A c ht hrd=>
         zfJ g x.every b m [⟨s.name,sv,ag⟩] A 1 c W ht hrd (fun a ha=>by rw[List.mem_singleton] at ha;rw[ha];exact⟨hsti,hagw,hsw.2.2⟩) (by omega)
        unfold zaS.val at HOf;clear hagw hag hsti hbv;go_wp2_with fail;refine wp_region_held_drew (S:=fun W=>Fr (fun i=>i=b) w5 W) (by kernel_rfl) ((Fr.refl _ w5).drew) (fun hY_=>?_);refine tq 6 [0,1,2,3,4,5] ?_
        iterate 5 refine sf HC5.out ?_
        refine sf HC5.out ?_
        try simp only[Act.put,sA,sB,sC]
        refine sz ?_
        try simp only[Act.put,sA,sB,sC]
        refine rl 6 rfl (fun K hK=>?_);go_simp;refine hK.out _ _ (((Fr.none_alloc w5 _).mono q4_).drew) (fun hY_=>?_);clear hK K
        try simp only[Act.put,sA,sB,sC]
        refine rl 7 rfl (fun K hK=>?_);go_simp
        go_wp2_with (go_at_call 148;refine (HOf.out _ _ _ (Rd.newS (w:=w5) (k:=w5.heap.size) rfl _ _ 1 1 rfl).drew).mono ?_;rintro r w6 ⟨rfl,b6⟩)
        refine hK.out _ _ (hY_.trans (Fr.b0 b6) q4_) (fun hY_=>?_);clear hK K;refine tl 8 ?v25 rfl ?q25 ?r25
        case q25=>intro W hSw;(try obtain⟨s0,s1,s2⟩:=HC5.out W hSw);go_simp;try rfl
        try simp only[Act.put,sA,sB,sC]
        refine rl 9 rfl (fun K hK=>?_);go_simp;refine hK.out _ _ (hY_.trans (Fr.none_alloc _ _) q4_) (fun hY_=>?_);clear hK K
        try simp only[Act.put,sA,sB,sC]
        refine rl 10 rfl (fun K hK=>?_);go_simp
        go_wp2_with (go_at_call 147;refine (HAd.out _ _ _ ((((HTb.out.fr0 (Fr.refl _ w5).drew).fr0 (Fr.none_alloc _ _)).fr0 (Fr.b0 b6)).fr0 (Fr.none_alloc _ _)) (Rd.newS (w:=w6) (k:=w6.heap.size) rfl _ _ 1 7 rfl)).mono ?_;rintro r w7 ⟨rfl,t7,f7⟩)
        refine hK.out _ _ (hY_.trans f7 (fun i hi=>.inl hi)) (fun hY_=>?_);clear hK K
        try simp only[Act.put,sA,sB,sC]
        refine wpAnyH_done (by kernel_rfl) ?_ _;have F7:=q0_ (hY_);have T7:=q0_ t7;clear hY_ t7 f7 b6;go_wp2
        go_roundw
        case rel=>
         have h:=(Hij.out.fr0 F5.out).set (k:=j) H1.out H2.out T7.out F7.out;refine⟨j+1,by omega,by go_num,?_,(Hfj.out.trans F5.out q4_).trans F7.out (fun i hi=>.inl ⟨_,List.mem_of_getElem? H1.out,hi⟩)⟩;have e:=zf8 (D:=DL) (L:=tabs) (k:=j) (by rw[Hlt.out];exact hlj) Hget.out (by rw[HDl.out];omega);rw[← e];exact h
        case measure=>simp[intOf];omega
      ·have hjl:j=X.tiers.length:=by omega
       have h:=Hij.out;rw[hjl,List.take_of_length_le (by rw[HDl.out];exact Nat.le_refl _),List.drop_eq_nil_of_le (by rw[Hlt.out];exact Nat.le_refl _),List.append_nil] at h;have Hfin:=q0_ h;clear h;go_wp2
       go_roundw
       case rel=>exact⟨q+1,by omega,by go_num,by rw[HN1.out];exact Hfin.out,F1.out.trans Hfj.out (fun _ h=>.inl h)⟩
       case measure=>simp[intOf];omega
    ·have hql:l.take q=l:=zaN (by rw[Hln.out];omega)
     rw[hql] at Hiq;go_wp2;go_ret;refine⟨by rw[HE0.out];rfl,by rw[HZ2.out];exact⟨A,c,B,d,T,ct,tb,Hiq.out,rfl⟩,Hfq.out.mono (fun j hj=>.inl ⟨.inr hj,HM.out j hj⟩)⟩
end Go.Proofs.YteajonicnkpbbaaGreatDoor
