/- Walks of package table: Len, Copy, Drop. -/
import Derived.Test.YtjhhodndlkpmhaaGreatDoorTabAddL
import Derived.Maps.OwnSet
import Derived.Test.YtjhhodndlkpmhaaGreatDoorReachC
import Derived.Test.YtjhhodndlkpmhaaGreatDoorFills
namespace Go.Proofs.YtjhhodndlkpmhaaGreatDoor
set_option linter.all false
set_option maxHeartbeats 8000000
set_option maxRecDepth 100000
open Go.RowKit Tryz
open Go.Maps (Keyed)
theorem zei(g:Nat)(every:Int)(b:Nat)(l:List zae)(w:World)(h:zaw w g every b l):
  Calls prog 86 #[.pointer (some ⟨g,0,none⟩)] w fun r w'=>(∃ g' b',r=.returned (.pointer (some ⟨g',0,none⟩))∧zaw w' g' every b' l∧w.heap.size≤g'∧w.heap.size≤b')∧Below w.heap.size w w':=by
 have HC:Hid (∀ W,Fr (fun _=>False) w W→W.cell? ⟨g,0,none⟩=some (.int .i64 every)∧W.cell? ⟨g,1,none⟩=some (.map (some b))):=fun W f=>⟨(h.blk.fr f (fun h=>h)).cell 0,(h.blk.fr f (fun h=>h)).cell 1⟩
 have HCl:Hid (∀ W,Fr (fun _=>False) w W→Calls prog 135 #[.map (some b)] W fun r w''=>r=.returned (.map (some W.heap.size))∧zbr w'' W.heap.size l∧Fr (fun _=>False) w w''):=fun W f=>by
  obtain⟨D,⟨es,ck,hb,hfit,hs,hD⟩,ht⟩:=(h.own.fr f (fun h=>h))
  refine (show Calls prog 135 _ _ _ from AnyW.maps_Clone Tryz.cloneM b es ck W hb).mono ?_;rintro r w'' ⟨e,rfl⟩;exact⟨e,⟨D,⟨es,ck,(MapKept.heap_alloc W _).1,hfit,hs,hD⟩,ht⟩,f.trans (Fr.none_alloc _ _) q4_⟩
 clear h;go_enter func86,ntmps86;go_wp2_with fail;refine wp_region_held_drew (S:=fun W=>Fr (fun _=>False) w W) (by kernel_rfl) ((Fr.refl _ w).drew) (fun hY_=>?_);refine tq 8 [0,1,2,3,4,5,6,7] ?_
 iterate 7 refine sf HC.out ?_
 refine sf HC.out ?_
 try simp only[Act.put,sA,sB,sC]
 refine sz ?_
 try simp only[Act.put,sA,sB,sC]
 refine rl 8 rfl (fun K hK=>?_);go_simp
 go_wp2_with (go_at_call 135;refine (HCl.out _ hY_).mono ?_;rintro r w5 ⟨rfl,ho5,f5⟩)
 refine hK.out _ _ (f5) (fun hY_=>?_);clear hK K;refine tl 9 ?v9 rfl ?q9 ?r9
 case q9=>intro W hSw;(try obtain⟨c0,c1⟩:=HC.out W hSw);go_simp;try rfl
 try simp only[Act.put,sA,sB,sC]
 refine rl 10 rfl (fun K hK=>?_);go_simp;refine hK.out _ _ (hY_.trans (Fr.none_alloc _ _) q4_) (fun hY_=>?_);clear hK K;refine tl 11 ?v10 rfl ?q10 ?r10
 case q10=>intro W hSw;(try obtain⟨c0,c1⟩:=HC.out W hSw);go_simp;try rfl
 try simp only[Act.put,sA,sB,sC]
 refine wpAnyH_done (by kernel_rfl) ?_ _;go_wp2;go_ret;refine⟨⟨w5.heap.size,w.heap.size,rfl,⟨Blk.new _ _ _,ho5.fr (Fr.none_alloc _ _) (fun h=>h)⟩,f5.size,Nat.le_refl _⟩,hY_.below q4_⟩
theorem zm2(n:ByteArray)(s below:Int)(q:Nat)(W:World)(hc:W.cell? ⟨q,0,none⟩=some (.int .i64 below)):
  Calls prog 129 #[.agg #[.string n,.int .i64 s],.pointer (some ⟨q,0,none⟩)] W fun r w'=>r=.returned (.bool (decide (s<below)))∧Below W.heap.size W w':=by
 have c1:=fun o=>(Fr.none_alloc W o).cell hc (fun h=>h);clear hc;go_enter func129,ntmps129;go_wp2;go_ret;exact⟨rfl,(Fr.none_alloc _ _).below q4_⟩
theorem zkY(n:ByteArray)(s:Int)(a:zaL)(below:Int)(p q:Nat)(W:World)(hp:W.cell? ⟨p,0,none⟩=some (.func (.func 129) #[] #[.pointer (some ⟨q,0,none⟩)]))(hc:W.cell? ⟨q,0,none⟩=some (.int .i64 below)):
  Calls prog 165 #[.agg #[.string n,.int .i64 s],.agg #[.int .i64 a.count,.int .i64 a.hi,.int .u64 a.lo,.int .i64 a.min,.int .i64 a.max],.pointer (some ⟨p,0,none⟩)] W fun r w'=>r=.returned (.bool (decide (s<below)))∧Below W.heap.size W w':=by
 have c1:=fun o1 o2=>(Fr.none_alloc (W.alloc o1) o2).cell ((Fr.none_alloc W o1).cell hp (fun h=>h)) (fun h=>h);have HD:Hid (∀ W',Fr (fun _=>False) W W'→Calls prog 129 #[.agg #[.string n,.int .i64 s],.pointer (some ⟨q,0,none⟩)] W' fun r w''=>r=.returned (.bool (decide (s<below)))∧Below W'.heap.size W' w''):=fun W' f=>zm2 n s below q W' (f.cell hc (fun h=>h));have F2:Hid (∀ o1 o2,Fr (fun _=>False) W ((W.alloc o1).alloc o2)):=fun o1 o2=>(Fr.none_alloc W o1).trans (Fr.none_alloc _ o2) q4_;clear hp hc;go_enter func165,ntmps165;go_wp2_with fail;refine (HD.out _ (F2.out _ _)).mono ?_;rintro r w5 ⟨rfl,b5⟩;have B5:=q0_ (((F2.out _ _).trans (Fr.b0 b5) q4_).below q4_);clear b5;go_wp2;go_ret;exact⟨rfl,B5.out⟩
def zaK(so:zae→Bool)(l:List zae):List zae:=l.filter fun r=> !so r
theorem zk1(f:Nat)(caps:Array Value)(so:zae→Bool)(hso:∀ x y,zbQ x y→so x=so y)(b:Nat)(l:List zae)(w:World)(h:zbr w b l)(eg:∀ args w,(callFunc f args).run prog w=.ok (.enter f args) w)
  (hdel:∀ W,Fr (fun j=>j=b) w W→∀ x:zae,x.wf→Calls prog f (#[.agg #[.string x.name,.int .i64 x.start],.agg #[.int .i64 x.agg.count,.int .i64 x.agg.hi,.int .u64 x.agg.lo,.int .i64 x.agg.min,.int .i64 x.agg.max]]++caps) W fun r w'=>r=.returned (.bool (so x))∧Below W.heap.size W w'):
  Calls prog 164 #[.map (some b),.func (.func f) #[] caps] w fun r w'=>r=.returned (.tuple #[])∧zbr w' b (zaK so l)∧Fr (fun j=>j=b) w w':=by
 obtain⟨D,hown,ht⟩:=h;have hblt:=hown.lt;have Hd:=q0_ hdel;have Hso:=q0_ hso;have Ht:=q0_ ht;clear ht hdel hso;go_enter func164,ntmps164
 go_wp2_with (first
  | (at_range;refine wpList_range_own _ rfl _ 176 rfl 180 125 zbC underlying176 zjX b l.length _ rfl hown ?_;intro w0 hrg0 hg0 hs0)
  | go_in)
 go_frame
 go_loopw [8] (fun _ wr=>∃ (cur:List zae) (E:DataW Unit) (left:Lit→Bool) (cnt:Nat),wr.ranges prog 180 zjX b w.heap.size l.length E left cnt∧ziH cur E∧(∀ k,left k=true→Maps.has E k=true)∧(∀ x∈cur,x∈l)∧(∀ x∈l,so x=false→x∈cur)∧(∀ x∈cur,so x=true→left (kl x)=true)∧Fr (fun j=>j=b) w wr)
  (fun _ wr=>wr.rangeLeft b w.heap.size)
 case atStart=>exact⟨l,D,_,_,hrg0,Ht.out,fun _ h=>h,fun _ h=>h,fun _ h _=>h,fun x hx _=>Ht.out.hasYes hx,(zgU hg0).mono q4_⟩
 case round=>
  obtain⟨cur,E,left,cnt,hrg,hE,hhas,h1,h2,h3,hf⟩:=hrel;have HE:=q0_ hE;have Hhas:=q0_ hhas;have H1:=q0_ h1;have H2:=q0_ h2;have H3:=q0_ h3;have HF:=q0_ hf;clear hE hhas h1 h2 h3 hf
  go_wp2_with (first
   | (at_next;refine wpList_next_ranges _ rfl _ rfl 180 zbC zjX id id (fun key _ _=>⟨key,rfl⟩) (fun v _ _=>⟨v,rfl⟩) b w.heap.size l.length _ _ _ rfl hrg ?_ ?_)
   | go_in)
  ·intro _ hl0
   have e:cur=zaK so l:=by
    refine zav.ext HE.out.sorted (Ht.out.sorted.filter _) (fun r=>?_);unfold zaK;rw[List.mem_filter]
    constructor
    ·intro hr
     refine⟨H1.out r hr,?_⟩
     cases hs:so r
     ·rfl
     ·have h:=H3.out r hr hs
      rw[hl0] at h;cases h
    ·rintro⟨hr,hs⟩
     exact H2.out r hr (by simpa using hs)
   have HO:=q0_ (zbr.of hrg.owns HE.out);rw[e] at HO;clear hl0 e;go_wp2
   go_end0
   exact⟨rfl,HO.out,HF.out⟩
  ·intro x c kx yd yp w1 cnt1 hkey hlx hv hat hrg1 hlt hg1 hs1 hen
   obtain⟨q,hq,rfl,rfl,rfl⟩:=zlK HE.out hkey (Hhas.out _ hlx) hv hat;have hql:=H1.out q hq;have hqw:=HE.out.wf q hq;have F1:=q0_ (HF.out.trans (zcP hg1) (fun i hi=>.inr (by rw[hi];exact Nat.le_refl _)));have Hrg1:=q0_ hrg1;have hinj:∀ x∈cur,(kl x).sameKey (kl q)=true→x=q:=fun x hx hk=>HE.out.sorted.inj hx hq (zjs (HE.out.wf x hx) hqw (WideAt.sameKey_eq hk));have Hinj:=q0_ hinj;have HD:Hid (∀ W,Fr (fun _=>False) w1 W→Calls prog f (#[.agg #[.string q.name,.int .i64 q.start],.agg #[.int .i64 q.agg.count,.int .i64 q.agg.hi,.int .u64 q.agg.lo,.int .i64 q.agg.min,.int .i64 q.agg.max]]++caps) W fun r w'=>r=.returned (.bool (so q))∧Below W.heap.size W w'):=fun W hW=>Hd.out W (F1.out.trans hW q4_) q hqw;have F3:Hid (∀ o1 o2,Fr (fun _=>False) w1 ((w1.alloc o1).alloc o2)):=fun o1 o2=>(Fr.none_alloc w1 o1).trans (Fr.none_alloc _ o2) q4_;have KB:Hid (∀ o2,Blk ((w1.alloc (.cells #[.string q.name,.int .i64 q.start] 180)).alloc o2) wr.heap.size 180 #[.string q.name,.int .i64 q.start]):=fun o2=>(Blk.new' hs1.symm _ _).alloc o2;unfold zcC zaL.val at hen;clear hrg1 hg1 hinj
   cases hs:so q
   ·rw[hs] at HD
    go_wp2_with (first
     | (go_at_fn f;refine (HD.out _ (F3.out _ _)).mono ?_;rintro e w2 ⟨rfl,b2⟩)
     | go_in)
    have F2:=q0_ ((F3.out _ _).trans (Fr.b0 b2) q4_);have Hrg2:=q0_ (zc4 Hrg1.out F2.out (fun h=>h) (fun h=>h));clear b2
    go_roundw
    case rel=>
     refine⟨cur,E,_,cnt1,Hrg2.out,HE.out,fun k hk=>Hhas.out k (by cases hl:left k<;>simp[hl] at hk ⊢),H1.out,H2.out,fun x hx hsx=>?_,F1.out.trans F2.out q4_⟩;rw[H3.out x hx hsx,Bool.true_and]
     cases hk:(kl x).sameKey (kl q)
     ·rfl
     ·rw[Hinj.out x hx hk,hs] at hsx;cases hsx
    case measure=>rw[Hrg2.out.left_eq,hrg.left_eq];exact hlt
   ·rw[hs] at HD
    go_wp2_with (first
     | (go_at_fn f;refine (HD.out _ (F3.out _ _)).mono ?_;rintro e w2 ⟨rfl,b2⟩;have F2:=q0_ ((F3.out _ _).trans (Fr.b0 b2) q4_);have hrg2:=zc4 Hrg1.out F2.out (fun h=>h) (fun h=>h);have k0:=((KB.out _).below b2).cell 0;have k1:=((KB.out _).below b2).cell 1;simp only[q1_,q2_,q3_] at k0 k1)
     | (at_delete;refine wpList_delete_ranges _ rfl _ _ 176 180 rfl 125 zbC underlying176 zjX b w.heap.size l.length _ _ _ rfl hrg2 _ _ rfl hkey ?_;intro w3 cnt3 hrg3 hle hturn;go_frame)
     | go_in)
    rw[Maps.strike_twice] at hrg3;have F4:=q0_ ((F1.out.trans F2.out q4_).trans (zcP hturn.grown) (fun i hi=>.inl hi));have hE3:=q0_ (HE.out.strike hq);clear b2 k0 k1 hrg2;go_wp2
    go_roundw
    case rel=>
     refine⟨_,_,_,cnt3,hrg3,hE3.out,fun k hk=>?_,fun x hx=>H1.out x (List.mem_filter.1 hx).1,fun x hx hsx=>?_,fun x hx hsx=>?_,F4.out⟩
     ·have h1:left k=true:=by cases hl:left k<;>simp[hl] at hk ⊢
      have h2:k≠kl q:=fun e=>by rw[e,WideAt.sameKey_self (zf1 q)] at hk;simp at hk
      rw[Maps.has_del_other h2];exact Hhas.out k h1
     ·refine List.mem_filter.2 ⟨H2.out x hx hsx,?_⟩
      have hne:¬ zbQ x q:=fun k=>by rw[Hso.out x q k,hs] at hsx;cases hsx
      simpa using hne
     ·obtain⟨hx,hne⟩:=List.mem_filter.1 hx
      have hne:¬ zbQ x q:=by simpa using hne
      rw[H3.out x hx hsx,Bool.true_and]
      cases hk:(kl x).sameKey (kl q)
      ·rfl
      ·rw[Hinj.out x hx hk] at hne;exact absurd ⟨rfl,rfl⟩ hne
    case measure=>rw[hrg3.left_eq,hrg.left_eq];omega
def zag(below:Int)(r:zae):Bool:=decide (r.start<below)
theorem zbr.len{w:World}{b:Nat}{l:List zae}(h:zbr w b l)(ty:TypeId):(Builtin.len_ #[176] ty #[.map (some b)]).run prog w=.ok (.int .i64 (l.length:Nat)) w:=by
 obtain⟨D,ho,ht⟩:=h;have hl:=ho.len underlying176 ty;rwa[ht.size] at hl
theorem zer{w:World}{q b:Nat}{v:Value}{es:Array MapEntry}{ck:Nat}(hc:w.cell? ⟨q,0,none⟩=some v)(hb:w.heap[b]? =some (.map es ck)):q≠b:=by
 rintro rfl;unfold World.cell? at hc;rw[hb] at hc
 cases hc
theorem zic(g:Nat)(every:Int)(b:Nat)(l:List zae)(below:Int)(q:Nat)(w:World)(h:zaw w g every b l)(hq:w.cell? ⟨q,0,none⟩=some (.int .i64 below))(hl:l.length≤1000000000):
  Calls prog 128 #[.pointer (some ⟨g,0,none⟩),.func (.func 129) #[] #[.pointer (some ⟨q,0,none⟩)]] w fun r w'=>r=.returned (.int .i64 ((l.length:Int)-((zaK (zag below) l).length:Nat)))∧zaw w' g every b (zaK (zag below) l)∧Fr (fun j=>j=b) w w':=by
 obtain⟨es,ck,hbm⟩:=h.own.isMap;have hqb:=zer hq hbm
 obtain⟨W1,hW1⟩:∃ W1,W1=w.alloc (.cells #[.func (.func 129) #[] #[.pointer (some ⟨q,0,none⟩)]] 200):=⟨_,rfl⟩
 have HW1:=q0_ hW1
 have T1:Hid (zaw W1 g every b l):=by rw[hW1];exact h.fr0 (Fr.none_alloc _ _)
 have P1:Hid (W1.cell? ⟨w.heap.size,0,none⟩=some (.func (.func 129) #[] #[.pointer (some ⟨q,0,none⟩)])):=by show _=_;rw[hW1];exact (Blk.new _ _ _).cell 0
 have Q1:Hid (W1.cell? ⟨q,0,none⟩=some (.int .i64 below)):=by show _=_;rw[hW1];exact (Fr.none_alloc w _).cell hq (fun h=>h)
 have F1:Hid (Fr (fun j=>j=b) w W1):=by show Fr _ _ _;rw[hW1];exact (Fr.none_alloc w _).mono q4_
 have hwb:w.heap.size≠b:=fun e=>by have:=h.own.lt;omega
 have HN:=q0_ (zdk g every b W1 T1.out.blk);have hgb:=h.ne;have c1:=T1.out.blk.cell 1;simp only[q1_,q2_,q3_] at c1;have hlen:=T1.out.own.len;have eg:∀ args w,(callFunc 165 args).run prog w=.ok (.enter 165 args) w:=enters_of func165 (by kernel_rfl) rfl;have HD:=q0_ (zk1 165 #[.pointer (some ⟨w.heap.size,0,none⟩)] (zag below) (fun x y hk=>by unfold zag;rw[hk.2]) b l W1 T1.out.own eg (fun W hf x _=>zkY x.name x.start x.agg below w.heap.size q W (hf.cell P1.out hwb) (hf.cell Q1.out hqb)));clear h hq hbm hW1;go_enter func128,ntmps128;go_wp2_with fail;rw[← HW1.out];refine HN.out.mono ?_;rintro r w' ⟨rfl,rfl⟩;go_wp2_with fail;refine HD.out.mono ?_;rintro r w5 ⟨rfl,ho5,f5⟩;have T5:=q0_ (zaw.mk (T1.out.blk.fr f5 hgb) ho5);have F5:=q0_ (F1.out.trans f5 (fun i hi=>.inl hi));have hle:(zaK (zag below) l).length≤l.length:=List.length_filter_le _ _
 obtain⟨m,hm⟩:∃ m,(zaK (zag below) l).length=m:=⟨_,rfl⟩
 have hlen5:=T5.out.own.len;rw[hm] at hlen5 hle
 have hw:IntKind.i64.wrap ((l.length:Int)-(m:Int))=(l.length:Int)-(m:Int):=by simp[IntKind.wrap,IntKind.signed,IntKind.bits];omega
 have c5:=T5.out.blk.cell 1;simp only[q1_,q2_,q3_] at c5;clear ho5 f5 c1 hlen;go_wp2;go_ret;rw[hm];exact⟨rfl,T5.out,F5.out⟩
theorem zgj(g:Nat)(every:Int)(b:Nat)(l:List zae)(below:Int)(w:World)(h:zaw w g every b l)(hl:l.length≤1000000000):
  Calls prog 83 #[.pointer (some ⟨g,0,none⟩),.int .i64 below] w fun r w'=>r=.returned (.int .i64 ((l.length:Int)-((zaK (zag below) l).length:Nat)))∧zaw w' g every b (zaK (zag below) l)∧Fr (fun j=>j=b) w w':=by
 obtain⟨W1,hW1⟩:∃ W1,W1=w.alloc (.cells #[.int .i64 below] 3):=⟨_,rfl⟩
 have HW1:=q0_ hW1
 have T1:Hid (zaw W1 g every b l):=by rw[hW1];exact h.fr0 (Fr.none_alloc _ _)
 have Q1:W1.cell? ⟨w.heap.size,0,none⟩=some (.int .i64 below):=by rw[hW1];exact (Blk.new _ _ _).cell 0
 have F1:Hid (Fr (fun j=>j=b) w W1):=by show Fr _ _ _;rw[hW1];exact (Fr.none_alloc w _).mono q4_
 have HD:=q0_ (zic g every b l below w.heap.size W1 T1.out Q1 hl);clear h hW1 Q1;go_enter func83,ntmps83;go_wp2_with fail;rw[← HW1.out];refine HD.out.mono ?_;rintro r w5 ⟨rfl,t5,f5⟩;have T5:=q0_ t5;have F5:=q0_ (F1.out.trans f5 (fun i hi=>.inl hi));clear t5 f5;go_wp2;go_ret;exact⟨rfl,T5.out,F5.out⟩
def zeF(e fr:Int)(l:List zae):List zae:=(l.map fun r=>(⟨r.name,zaq r.start e,r.agg⟩:zae)).filter fun r=>decide (fr≤r.start)
def zcH(every e fr:Int)(l:List zae):List zae:=if zau every e then zbN e [] (zeF e fr l) else[]
theorem zmp(e fr:Int)(l:List zae)(x:zae):zeF e fr (l++[x])=zeF e fr l++(if decide (fr≤zaq x.start e) then[⟨x.name,zaq x.start e,x.agg⟩] else[]):=by
 unfold zeF;rw[List.map_append,List.filter_append]
 congr 1
 simp only[List.map_cons,List.map_nil]
 cases h:decide (fr≤zaq x.start e)<;>simp[h]
theorem zi5(e fr:Int)(l:List zae):(zeF e fr l).length≤l.length:=by
 unfold zeF;refine Nat.le_trans (List.length_filter_le _ _) (by simp)
theorem zkh(g:Nat)(every:Int)(b:Nat)(l:List zae)(e fr:Int)(he:zbh e)(w:World)(h:zaw w g every b l)(hl:l.length≤100000000):
  Calls prog 134 #[.pointer (some ⟨g,0,none⟩),.int .i64 e,.int .i64 fr] w fun r w'=>(∃ g' b',r=.returned (.pointer (some ⟨g',0,none⟩))∧zaw w' g' (max e 1) b' (zcH every (max e 1) fr l)∧w.heap.size≤g'∧w.heap.size≤b')∧Below w.heap.size w w':=by
 have HNw:=q0_ (zfc e w);have Hwf:=q0_ h.own.wf;have HT:=q0_ h
 have hem:zbh (max e 1):=by unfold zbh at*;omega
 have hem1:1≤max e 1:=by omega
 obtain⟨m,hm⟩:∃ m,max e 1=m:=⟨_,rfl⟩
 rw[hm] at HNw hem hem1 ⊢;unfold zcH
 obtain⟨RV,hRV⟩:∃ RV,(if zau every m=true then zbN m [] (zeF m fr l) else[])=RV:=⟨_,rfl⟩
 rw[hRV];have HRV:=q0_ hRV;clear h hm he hRV;go_enter func134,ntmps134;go_wp2_with fail;refine HNw.out.mono ?_;rintro r w1 ⟨⟨g',b',rfl,ht',hg',hb'⟩,b1⟩;have T1:=q0_ (HT.out.fr0 (Fr.b0 b1));have N1:=q0_ ht';have O1:=q0_ b1;have HE:Hid (∀ W,Fr (fun _=>False) w1 W→Calls prog 167 #[.pointer (some ⟨g,0,none⟩)] W fun r w'=>r=.returned (.int .i64 every)∧W=w'):=fun W f=>ziP g every b W (T1.out.blk.fr f (fun h=>h));have HD:Hid (∀ W,Calls prog 163 #[.int .i64 every,.int .i64 m] W fun r w'=>r=.returned (.bool (zau every m))∧W=w'):=fun W=>zcF every m W;have HC:Hid (∀ W,Fr (fun _=>False) w1 W→W.cell? ⟨g',0,none⟩=some (.int .i64 m)):=fun W f=>(N1.out.blk.fr f (fun h=>h)).cell 0;clear ht' b1 HNw
 cases hdv:zau every m
 ·rw[hdv] at HD
  go_wp2_with fail;refine wp_region_held_drew (S:=fun W=>Fr (fun _=>False) w1 W) (by kernel_rfl) ((Fr.refl _ w1).drew) (fun hY_=>?_);refine tq 5 [0,2,3,4,5] ?_
  iterate 4 refine sk ?_
  refine sf HC.out ?_
  try simp only[Act.put,sA,sB,sC]
  refine sz ?_
  try simp only[Act.put,sA,sB,sC]
  refine rl 1 rfl (fun K hK=>?_);go_simp
  go_wp2_with (go_at_call 167;refine (HE.out _ hY_).mono ?_;rintro r w5 ⟨rfl,rfl⟩)
  refine hK.out _ _ (hY_) (fun hY_=>?_);clear hK K
  try simp only[Act.put,sA,sB,sC]
  refine rl 6 rfl (fun K hK=>?_);go_simp
  go_wp2_with (go_at_call 163;refine (HD.out _).mono ?_;rintro r w6 ⟨rfl,rfl⟩)
  refine hK.out _ _ (hY_) (fun hY_=>?_);clear hK K;refine tl 7 ?v6 rfl ?q6 ?r6
  case q6=>intro W hSw;go_simp;try rfl
  try simp only[Act.put,sA,sB,sC]
  refine wpAnyH_done (by kernel_rfl) ?_ _;go_wp2;go_ret;have hr:=HRV.out;rw[hdv,if_neg (by simp)] at hr;rw[← hr];exact⟨⟨g',b',rfl,N1.out.fr0 hY_,hg',hb'⟩,O1.out.trans ((hY_.below q4_).mono O1.out.size)⟩
 ·rw[hdv] at HD
  go_wp2_with fail;refine wp_region_held_drew (S:=fun W=>Fr (fun _=>False) w1 W) (by kernel_rfl) ((Fr.refl _ w1).drew) (fun hY_=>?_);refine tq 5 [0,2,3,4,5] ?_
  iterate 4 refine sk ?_
  refine sf HC.out ?_
  try simp only[Act.put,sA,sB,sC]
  refine sz ?_
  try simp only[Act.put,sA,sB,sC]
  refine rl 1 rfl (fun K hK=>?_);go_simp
  go_wp2_with (go_at_call 167;refine (HE.out _ hY_).mono ?_;rintro r w5 ⟨rfl,rfl⟩)
  refine hK.out _ _ (hY_) (fun hY_=>?_);clear hK K
  try simp only[Act.put,sA,sB,sC]
  refine rl 6 rfl (fun K hK=>?_);go_simp
  go_wp2_with (go_at_call 163;refine (HD.out _).mono ?_;rintro r w6 ⟨rfl,rfl⟩)
  refine hK.out _ _ (hY_) (fun hY_=>?_);clear hK K;refine tl 7 ?v12 rfl ?q12 ?r12
  case q12=>intro W hSw;go_simp;try rfl
  try simp only[Act.put,sA,sB,sC]
  refine wpAnyH_done (by kernel_rfl) ?_ _;have HA:=q0_ (zd2 g every b l w1.drew (T1.out.fr0 hY_) (by omega));have N2:=q0_ (N1.out.fr0 hY_);have O2:Hid (Below w.heap.size w w1.drew):=O1.out.trans ((hY_.below q4_).mono O1.out.size);clear hY_ HE HD HC N1 O1 T1;go_wp2_with fail;refine HA.out.mono ?_;rintro r w5 ⟨⟨A,c,rfl,ho5⟩,b5⟩;have N5:=q0_ (N2.out.fr0 (Fr.b0 b5));have O5:=q0_ (O2.out.trans (b5.mono O2.out.size));have Ho5:=q0_ ho5
  have hdisj:∀ j,zaE (.slice A l.length c) j→¬ j=b':=fun j hj e=>by
   obtain⟨cs',fz,hc⟩:=zdB ho5 hj;obtain⟨es,ck,hbm⟩:=N5.out.own.isMap;rw[e,hbm] at hc
   cases hc
  have Hdj:=q0_ hdisj;have hgb':=N5.out.ne;clear ho5 b5 HA N2 O2 hdisj;go_wp2_with fail
  go_loopw [26] (fun i wr=>∃ k:Nat,k≤l.length∧i=.int .i64 k∧zaw wr g' m b' (zbN m [] (zeF m fr (l.take k)))∧Fr (fun j=>j=b') w5 wr) (fun i _=>l.length-(intOf i).toNat)
  case atStart=>exact⟨0,Nat.zero_le _,rfl,N5.out,Fr.refl _ _⟩
  case round=>
   obtain⟨k,hk,rfl,ht,hf⟩:=hrel
   by_cases hlt:k<l.length
   ·obtain⟨ad,q,rfl,hq,d0,d1,d2,d3,d4,d5,d6⟩:=(zat (zaf Ho5.out hf Hdj.out)).2.2.1.rec_ hlt
    have hqw:=Hwf.out q (zab hq);have Ht:=q0_ ht;have Hf:=q0_ hf;have Hq:=q0_ hq;have hcl:=zde (every:=m) (zeF m fr (l.take k)) zav.nil;have hrl:=zi5 m fr (l.take k);rw[List.length_take] at hrl
    obtain⟨cur,hcur⟩:∃ cur,zbN m [] (zeF m fr (l.take k))=cur:=⟨_,rfl⟩
    have HS1:Hid (zbN m [] (zeF m fr (l.take (k+1)))=if decide (fr≤zaq q.start m) then zb0 m cur ⟨q.name,zaq q.start m,q.agg⟩ else cur):=by
     show _=_
     rw[zan hq,zmp]
     cases decide (fr≤zaq q.start m)
     ·simp[hcur]
     ·rw[if_pos rfl,if_pos rfl,zfG,hcur]
    rw[hcur] at Ht hcl;have hfin:=zf3 (e:=m) hqw.1.1 hqw.1.2
    obtain⟨fv,hfv⟩:∃ fv,zaq q.start m=fv:=⟨_,rfl⟩
    have HFl:Hid (∀ W,Calls prog 91 #[.int .i64 q.start,.int .i64 m] W fun r w'=>r=.returned (.int .i64 fv)∧W=w'):=fun W=>by rw[← hfv];exact zeU q.start m hqw.1.1 hqw.1.2 hem.1 hem.2 W
    rw[hfv] at HS1 hfin
    have hqw2:(⟨q.name,fv,q.agg⟩:zae).wf:=⟨hfin,hqw.2⟩
    have kn:0≤(k:Int)∧(k:Int)<(l.length:Int):=by omega
    clear ht hf hq hcur hfv hqw;go_wp2_with fail
    obtain⟨W1,hW1⟩:∃ W1,W1=wr.alloc (.cells #[.string q.name,.int .i64 q.start,.int .i64 q.agg.count,.int .i64 q.agg.hi,.int .u64 q.agg.lo,.int .i64 q.agg.min,.int .i64 q.agg.max] 127):=⟨_,rfl⟩
    rw[← hW1];have bq:Blk W1 wr.heap.size 127 #[.string q.name,.int .i64 q.start,.int .i64 q.agg.count,.int .i64 q.agg.hi,.int .u64 q.agg.lo,.int .i64 q.agg.min,.int .i64 q.agg.max]:=hW1▸Blk.new _ _ _
    have t1:zaw W1 g' m b' cur:=by rw[hW1];exact Ht.out.fr0 (Fr.none_alloc _ _)
    have f1:Fr (fun j=>j=b') w5 W1:=by rw[hW1];exact Hf.out.trans (Fr.none_alloc _ _) q4_
    have hwq:w5.heap.size≤wr.heap.size:=Hf.out.size;have x1:W1.drew.cell? ⟨wr.heap.size,1,none⟩=some (.int .i64 q.start):=bq.cell 1;have e0:W1.drew.cell? ⟨g',0,none⟩=some (.int .i64 m):=t1.blk.cell 0;have z1:=bq.frozen 1;have Bq:=q0_ bq;have T1:=q0_ t1;have F1:=q0_ f1;clear bq t1 f1 hW1 Ht Hf d0 d1 d2 d3 d4 d5 d6;refine wp_region_any (by kernel_rfl) ?_;change wpAny _ _ _ _ _ _ _ (World.drew _);refine nl 0 ?v13 rfl ?q13 ?r13
    case q13=>intro W;go_simp;try rfl
    refine nl 2 ?v14 rfl ?q14 ?r14
    case q14=>intro W;go_simp;try rfl
    refine nl 3 ?v15 rfl ?q15 ?r15
    case q15=>intro W;go_simp;try rfl
    refine nl 4 ?v16 rfl ?q16 ?r16
    case q16=>intro W;go_simp;try rfl
    try simp only[Act.put,sA,sB,sC]
    refine wpAny_ready (rs:=[1,5]) (by kernel_rfl) (by simp) ?_;refine AllReady.cons (dg rfl) (fun K hK=>?_) ?_
    ·go_simp
     refine hK _ _ ?_;clear hK K
     try simp only[Act.put,sA,sB,sC]
     refine rn 5 rfl (fun K hK=>?_);go_simp;refine hK _ _ ?_;clear hK K
     try simp only[Act.put,sA,sB,sC]
     refine rn 6 rfl (fun K hK=>?_);go_simp
     go_wp2_with (go_at_call 91;refine (HFl.out _).mono ?_;rintro r w6 ⟨rfl,rfl⟩)
     refine nl 7 ?v17 rfl ?q17 ?r17
     case q17=>intro W;go_simp;try rfl
     try simp only[Act.put,sA,sB,sC]
     refine rn 8 rfl (fun K hK=>?_);go_simp;refine hK _ _ ?_;clear hK K
     try simp only[Act.put,sA,sB,sC]
     refine wpAny_done (by kernel_rfl) ?_ _;clear x1 e0 z1
     obtain⟨W2,hW2⟩:∃ W2,W2=(W1.setCell ⟨wr.heap.size,1,none⟩ (.int .i64 fv)).drew:=⟨_,rfl⟩
     rw[← hW2]
     have f12:Fr (fun j=>j=wr.heap.size) W1 W2:=by rw[hW2];exact ((Fr.refl (fun j=>j=wr.heap.size) W1).setCell (p:=⟨wr.heap.size,1,none⟩) (.inl rfl) _).drew
     have B2:Hid (Blk W2 wr.heap.size 127 #[.string q.name,.int .i64 fv,.int .i64 q.agg.count,.int .i64 q.agg.hi,.int .u64 q.agg.lo,.int .i64 q.agg.min,.int .i64 q.agg.max]):=hW2▸Bq.out.set_ 1 _;have T2:Hid (zaw W2 g' m b' cur):=T1.out.fr f12 (by have:=N5.out.blk.lt;omega) (by have:=N5.out.own.lt;omega);have F2:Hid (Fr (fun j=>j=b') w5 W2):=F1.out.trans f12 (fun i hi=>.inr (by rw[hi];exact hwq));have x0:=B2.out.cell 0;have x1:=B2.out.cell 1;have x2:=B2.out.cell 2;have x3:=B2.out.cell 3;have x4:=B2.out.cell 4;have x5:=B2.out.cell 5;have x6:=B2.out.cell 6;simp only[q1_,q2_,q3_] at x0 x1 x2 x3 x4 x5 x6;clear hW2 f12 Bq T1 F1
     by_cases hff:fr≤fv
     ·have hfd:decide (fr≤fv)=true:=qa_ hff
      have HAdd:=q0_ (zg2 g' m b' cur [⟨q.name,fv,q.agg⟩] (some ⟨W2.heap.size,0,none⟩) 1 1 (W2.alloc (.cells #[.string q.name,.int .i64 fv,.int .i64 q.agg.count,.int .i64 q.agg.hi,.int .u64 q.agg.lo,.int .i64 q.agg.min,.int .i64 q.agg.max] 127)) (T2.out.fr0 (Fr.none_alloc _ _)) (Rd.newS rfl _ _ 1 7 rfl) (fun a ha=>by rw[List.mem_singleton] at ha;rw[ha];exact hqw2) (by simp at hcl;omega));go_wp2_with fail;refine HAdd.out.mono ?_;rintro r w7 ⟨rfl,t7,f7⟩;have T7:=q0_ t7;have F7:=q0_ ((F2.out.trans (Fr.none_alloc _ _) q4_).trans f7 (fun i hi=>.inl hi));clear t7 f7 x0 x1 x2 x3 x4 x5 x6
      go_wp2
      go_roundw
      case rel=>exact⟨k+1,by omega,by go_num,by rw[HS1.out,hfd,if_pos rfl];exact T7.out,F7.out⟩
      case measure=>simp[intOf];omega
     ·have hfd:decide (fr≤fv)=false:=q9_ hff
      go_wp2
      go_roundw
      case rel=>exact⟨k+1,by omega,by go_num,by rw[HS1.out,hfd,if_neg (by simp)];exact T2.out,F2.out⟩
      case measure=>simp[intOf];omega
    refine AllReady.cons (dg rfl) (fun K hK=>?_) ?_
    ·go_simp
     refine hK _ _ ?_;clear hK K
     try simp only[Act.put,sA,sB,sC]
     refine rn 1 rfl (fun K hK=>?_);go_simp;refine hK _ _ ?_;clear hK K
     try simp only[Act.put,sA,sB,sC]
     refine rn 6 rfl (fun K hK=>?_);go_simp
     go_wp2_with (go_at_call 91;refine (HFl.out _).mono ?_;rintro r w6 ⟨rfl,rfl⟩)
     refine nl 7 ?v18 rfl ?q18 ?r18
     case q18=>intro W;go_simp;try rfl
     try simp only[Act.put,sA,sB,sC]
     refine rn 8 rfl (fun K hK=>?_);go_simp;refine hK _ _ ?_;clear hK K
     try simp only[Act.put,sA,sB,sC]
     refine wpAny_done (by kernel_rfl) ?_ _;clear x1 e0 z1
     obtain⟨W2,hW2⟩:∃ W2,W2=(W1.setCell ⟨wr.heap.size,1,none⟩ (.int .i64 fv)).drew:=⟨_,rfl⟩
     rw[← hW2]
     have f12:Fr (fun j=>j=wr.heap.size) W1 W2:=by rw[hW2];exact ((Fr.refl (fun j=>j=wr.heap.size) W1).setCell (p:=⟨wr.heap.size,1,none⟩) (.inl rfl) _).drew
     have B2:Hid (Blk W2 wr.heap.size 127 #[.string q.name,.int .i64 fv,.int .i64 q.agg.count,.int .i64 q.agg.hi,.int .u64 q.agg.lo,.int .i64 q.agg.min,.int .i64 q.agg.max]):=hW2▸Bq.out.set_ 1 _;have T2:Hid (zaw W2 g' m b' cur):=T1.out.fr f12 (by have:=N5.out.blk.lt;omega) (by have:=N5.out.own.lt;omega);have F2:Hid (Fr (fun j=>j=b') w5 W2):=F1.out.trans f12 (fun i hi=>.inr (by rw[hi];exact hwq));have x0:=B2.out.cell 0;have x1:=B2.out.cell 1;have x2:=B2.out.cell 2;have x3:=B2.out.cell 3;have x4:=B2.out.cell 4;have x5:=B2.out.cell 5;have x6:=B2.out.cell 6;simp only[q1_,q2_,q3_] at x0 x1 x2 x3 x4 x5 x6;clear hW2 f12 Bq T1 F1
     by_cases hff:fr≤fv
     ·have hfd:decide (fr≤fv)=true:=qa_ hff
      have HAdd:=q0_ (zg2 g' m b' cur [⟨q.name,fv,q.agg⟩] (some ⟨W2.heap.size,0,none⟩) 1 1 (W2.alloc (.cells #[.string q.name,.int .i64 fv,.int .i64 q.agg.count,.int .i64 q.agg.hi,.int .u64 q.agg.lo,.int .i64 q.agg.min,.int .i64 q.agg.max] 127)) (T2.out.fr0 (Fr.none_alloc _ _)) (Rd.newS rfl _ _ 1 7 rfl) (fun a ha=>by rw[List.mem_singleton] at ha;rw[ha];exact hqw2) (by simp at hcl;omega));go_wp2_with fail;refine HAdd.out.mono ?_;rintro r w7 ⟨rfl,t7,f7⟩;have T7:=q0_ t7;have F7:=q0_ ((F2.out.trans (Fr.none_alloc _ _) q4_).trans f7 (fun i hi=>.inl hi));clear t7 f7 x0 x1 x2 x3 x4 x5 x6
      go_wp2
      go_roundw
      case rel=>exact⟨k+1,by omega,by go_num,by rw[HS1.out,hfd,if_pos rfl];exact T7.out,F7.out⟩
      case measure=>simp[intOf];omega
     ·have hfd:decide (fr≤fv)=false:=q9_ hff
      go_wp2
      go_roundw
      case rel=>exact⟨k+1,by omega,by go_num,by rw[HS1.out,hfd,if_neg (by simp)];exact T2.out,F2.out⟩
      case measure=>simp[intOf];omega
    exact AllReady.nil
   ·have hkl:k=l.length:=by omega
    subst hkl;rw[List.take_length] at ht;have hr:=HRV.out;rw[hdv,if_pos rfl] at hr;rw[hr] at ht;have Ht:=q0_ ht;have Hf:=q0_ (hf.below_of (B:=w.heap.size) O5.out.size (fun i hi=>by rw[hi];exact hb'));clear ht hf hr;go_wp2;go_ret;exact⟨⟨g',b',rfl,Ht.out,hg',hb'⟩,O5.out.trans Hf.out⟩
open Go.Maps (Keyed int_keyed keyOf_int_mk)
def zg6(M:Int)(l:List zae)(k:Nat):Nat:=(l.filter fun r=>decide (zbR r.name M=(k:Int))).length
def zeJ(M:Int)(l:List zae):Nat:=((List.range M.toNat).map fun k=>(zg6 M l k+2) / 3).sum
theorem zdU(M:Int)(l:List zae)(r:zae)(k:Nat):zg6 M (l++[r]) k=zg6 M l k+(if zbR r.name M=(k:Int) then 1 else 0):=by
 unfold zg6;rw[List.filter_append,q8_]
 congr 1
 by_cases h:zbR r.name M=(k:Int)<;>simp[h]
theorem zk3(M:Int)(l:List zae)(k:Nat):zg6 M l k≤l.length:=List.length_filter_le _ _
structure zq2(M:Int)(l:List zae)(D:DataW Unit):Prop where
 isMap:Maps.IsMap D
 key:∀ z,Maps.has D z=true→∃ j:Nat,(j:Int)<M∧z=.int .i64 j∧0<zg6 M l j
 at_:∀ j:Nat,D.atKey (.int .i64 j) (.lit (.int .i64 0))=.lit (.int .i64 (zg6 M l j:Nat))
 pos:∀ j:Nat,0<zg6 M l j→Maps.has D (.int .i64 j)=true
theorem zq2.nil(M:Int):zq2 M [] (.map []):=⟨Maps.isMap_empty,fun z h=>(by simp[Maps.has_eq] at h),fun j=>rfl,fun j h=>absurd h (Nat.lt_irrefl 0)⟩
theorem zq2.step{M:Int}{l:List zae}{D:DataW Unit}(h:zq2 M l D)(r:zae){j:Nat}(hj:zbR r.name M=(j:Int))(hjM:(j:Int)<M):zq2 M (l++[r]) (D.put (.int .i64 j) (.lit (.int .i64 ((zg6 M l j:Nat)+1)))):=by
 have hk:WideAt.IsKeyLit (.int .i64 (j:Int)):=trivial;refine⟨h.isMap.put _ _,fun z hz=>?_,fun i=>?_,fun i hi=>?_⟩
 ·by_cases e:z=.int .i64 (j:Int)
  ·exact⟨j,hjM,e,by rw[zdU,if_pos hj];omega⟩
  ·rw[Maps.has_put_other e] at hz
   obtain⟨i,h1,h2,h3⟩:=h.key z hz;exact⟨i,h1,h2,by rw[zdU];omega⟩
 ·by_cases e:i=j
  ·subst e
   rw[Maps.atKey_put_same h.isMap hk,zdU,if_pos hj]
   rfl
  ·rw[Maps.atKey_put_other (by simp;omega),h.at_ i,zdU,if_neg (by rw[hj];omega)]
   rfl
 ·by_cases e:i=j
  ·subst e;exact Maps.has_put_same h.isMap hk _
  ·rw[Maps.has_put_other (by simp;omega)]
   rw[zdU,if_neg (by rw[hj];omega)] at hi;exact h.pos i hi
def zgC(M:Int)(l:List zae)(left:Lit→Bool):Nat:=((List.range M.toNat).map fun (k:Nat)=>if left (.int .i64 (k:Int))=true then 0 else (zg6 M l k+2) / 3).sum
theorem znR:∀ (n:Nat) (f g:Nat→Nat) (x d:Nat),x<n→f x=g x+d→(∀ k,k≠x→f k=g k)→((List.range n).map f).sum=((List.range n).map g).sum+d
 | 0,_,_,_,_,h,_,_=>by omega
 | n+1,f,g,x,d,h,h1,h2=>by
  rw[List.range_succ,List.map_append,List.map_append,List.sum_append,List.sum_append];simp only[List.map_cons,List.map_nil,List.sum_cons,List.sum_nil]
  by_cases e:x=n
  ·subst e
   have:(List.range x).map f=(List.range x).map g:=List.map_congr_left (fun k hk=>h2 k (by have:=List.mem_range.1 hk;omega));rw[this];omega
  ·have:=znR n f g x d (by omega) h1 h2
   rw[this,h2 n (fun h=>e h.symm)];omega
theorem zqX:∀ (n:Nat) (f:Nat→Nat) (c:Nat),(∀ k,f k≤c)→((List.range n).map f).sum≤n*c
 | 0,_,_,_=>by simp
 | n+1,f,c,h=>by
  rw[List.range_succ,List.map_append,List.sum_append];simp only[List.map_cons,List.map_nil,List.sum_cons,List.sum_nil];have h1:=zqX n f c h;have h2:=h n;rw[Nat.add_mul];omega
theorem zii(M:Int)(hM:M≤8)(l:List zae)(left:Lit→Bool):zgC M l left≤8*(l.length+2):=by
 unfold zgC;refine Nat.le_trans (zqX M.toNat _ (l.length+2) (fun k=>?_)) (Nat.mul_le_mul_right _ (show M.toNat≤8 by omega))
 split
 ·omega
 ·have:=zk3 M l k;omega
theorem zmC{M:Int}{l:List zae}{left:Lit→Bool}{j:Nat}(hj:(j:Int)<M)(hl:left (.int .i64 (j:Int))=true):zgC M l (fun z=>left z&& !z.sameKey (.int .i64 (j:Int)))=zgC M l left+(zg6 M l j+2) / 3:=by
 unfold zgC;refine znR M.toNat _ _ j _ (by omega) ?_ (fun k hk=>?_)
 ·have hs:(Lit.int .i64 (j:Int)).sameKey (.int .i64 (j:Int))=true:=WideAt.sameKey_self trivial
  simp[hl,hs]
 ·have hs:(Lit.int .i64 (k:Int)).sameKey (.int .i64 (j:Int))=false:=Maps.sameKey_ne (by simp;omega)
  simp[hs]
theorem zkB{M:Int}{l:List zae}{D:DataW Unit}(h:zq2 M l D):zgC M l (Maps.has D)=0:=by
 unfold zgC
 have:((List.range M.toNat).map fun (k:Nat)=>if Maps.has D (.int .i64 (k:Int))=true then 0 else (zg6 M l k+2) / 3)=(List.range M.toNat).map fun (_:Nat)=>0:=by
  refine List.map_congr_left (fun k _=>?_)
  split
  ·rfl
  ·rename_i hh
   have:zg6 M l k=0:=by
    rcases Nat.eq_zero_or_pos (zg6 M l k) with h0 | h0
    ·exact h0
    ·exact absurd (h.pos k h0) hh
   rw[this]
 rw[this]
 induction M.toNat with
 | zero=>rfl
 | succ n ih=>rw[List.range_succ,List.map_append,List.sum_append,ih];rfl
theorem zjg{M:Int}{l:List zae}{left:Lit→Bool}(h:∀ z,left z=false):zgC M l left=zeJ M l:=by
 unfold zgC zeJ
 congr 1
 exact List.map_congr_left (fun k _=>by rw[h];rfl)
theorem zmn(s:ByteArray)(M:Int)(h:1≤M):∃ j:Nat,zbR s M=(j:Int)∧(j:Int)<M:=by
 have h1:0≤zbR s M∧zbR s M<M:=by
  unfold zbR;rw[if_neg (by omega)];exact⟨Int.emod_nonneg _ (by omega),Int.emod_lt_of_pos _ (by omega)⟩
 obtain⟨j,hj⟩:=Int.eq_ofNat_of_zero_le h1.1;exact⟨j,hj,by omega⟩
theorem zmE{w w':World}{F:Nat→Prop}{b n:Nat}{D:DataW Unit}(h:w.ownsMap prog 3 (plainElem prog 3) b n D)(hf:Fr F w w')(hn:¬ F b):w'.ownsMap prog 3 (plainElem prog 3) b n D:=by
 have hlt:=h.lt;obtain⟨es,clock,hb,hfit,hs,hD⟩:=h;exact⟨es,clock,(hf.block b hlt hn).trans hb,hfit,hs,hD⟩
theorem zlz:Keyed prog 3:=int_keyed underlying3
theorem zq4(w:World):(zeroValue 3).run prog w=.ok (.int .i64 0) w:=by kernel_rfl
theorem zoz{a b:Int}(h:(DataW.lit (.int .i64 a):DataW Unit)=.lit (.int .i64 b)):b=a:=by
 simp at h;exact h.symm
theorem zqW{x:Int}(h:zbh x):(Lit.int .i64 x).wf=true:=by
 obtain⟨h1,h2⟩:=h;simp[Lit.wf,IntKind.min,IntKind.max,IntKind.bits,IntKind.signed];omega
theorem zki(g:Nat)(every:Int)(b:Nat)(l:List zae)(sh:Int)(hsh:sh≤8)(w:World)(h:zaw w g every b l)(hl:l.length≤100000000):
  Calls prog 77 #[.pointer (some ⟨g,0,none⟩),.int .i64 sh] w fun r w'=>r=.returned (.int .i64 (zeJ (max sh 1) l:Nat))∧Below w.heap.size w w':=by
 have Hwf:=q0_ h.own.wf
 obtain⟨W1,hW1⟩:∃ W1,W1=w.alloc (.map #[] 0):=⟨_,rfl⟩
 have HW1:=q0_ hW1
 have T1:zaw W1 g every b l:=by rw[hW1];exact h.fr0 (Fr.none_alloc _ _)
 have M1:Hid (W1.ownsMap prog 3 (plainElem prog 3) w.heap.size 0 (.map []:DataW Unit)):=by show World.ownsMap _ _ _ _ _ _ _;rw[hW1];exact World.ownsMap_made _ _ _ _
 have O1:Hid (Own w W1 (fun j=>j=w.heap.size)):=by show Own _ _ _;rw[hW1];exact ((Own.start w).skip (Fr.none_alloc _ _)).also (fun k hk=>by rw[hk];exact Nat.le_refl _)
 have HA:=q0_ (zd2 g every b l W1 T1 (by omega));have hs1:w.heap.size<W1.heap.size:=M1.out.lt;have hmm:= @run_makeMap prog
 have hM8:max sh 1≤8:=by omega
 have hM1:1≤max sh 1:=by omega
 obtain⟨M,hM⟩:∃ M,max sh 1=M:=⟨_,rfl⟩
 rw[hM] at hM8 hM1 ⊢;clear h hW1 T1;go_enter func77,ntmps77;go_wp2_with fail;rw[← HW1.out];refine HA.out.mono ?_;rintro r w5 ⟨⟨A,c,rfl,ho5⟩,b5⟩;have O5:=q0_ (O1.out.skip (Fr.b0 b5));have M5:=q0_ (zmE M1.out (Fr.b0 b5) (fun h=>h));have Ho5:=q0_ ho5
 have Hdj:Hid (∀ j,zaE (.slice A l.length c) j→¬ j=w.heap.size):=fun j hj e=>by have:=(Ho5.out.lt j hj).1;omega
 clear ho5 b5 HA M1 O1 hs1;go_wp2_with fail
 go_loopw [15] (fun i wr=>∃ (k:Nat) (D:DataW Unit),k≤l.length∧i=.int .i64 k∧wr.ownsMap prog 3 (plainElem prog 3) w.heap.size k D∧zq2 M (l.take k) D∧Fr (fun j=>j=w.heap.size) w5 wr) (fun i _=>l.length-(intOf i).toNat)
 case atStart=>exact⟨0,_,Nat.zero_le _,rfl,M5.out,zq2.nil M,Fr.refl _ _⟩
 case round=>
  obtain⟨k,D,hk,rfl,hown,hcd,hf⟩:=hrel
  by_cases hlt:k<l.length
  ·obtain⟨ad,q,rfl,hq,d0,d1,d2,d3,d4,d5,d6⟩:=(zat (zaf Ho5.out hf Hdj.out)).2.2.1.rec_ hlt
   have hqw:=Hwf.out q (zab hq);obtain⟨j,hj,hjM⟩:=zmn q.name M hM1
   have HSh:Hid (∀ W,Calls prog 119 #[.string q.name,.int .i64 M] W fun r w'=>r=.returned (.int .i64 j)∧W=w'):=fun W=>by rw[← hj];exact ziV q.name hqw.2.2 M W
   have hkey:keyOf prog 3 (.int .i64 (j:Int))=some (.int .i64 (j:Int)):=keyOf_int_mk underlying3 (zqW (by unfold zbh;omega));have hcl:=zk3 M (l.take k) j;rw[List.length_take] at hcl;have hat0:=hcd.at_ j
   obtain⟨cn,hcn⟩:∃ cn,zg6 M (l.take k) j=cn:=⟨_,rfl⟩
   have Hstep:=q0_ (hcd.step q hj hjM);rw[hcn] at hat0 hcl Hstep;have Hat:=q0_ hat0
   have hw1:IntKind.i64.wrap ((cn:Int)+1)=(cn:Int)+1:=by simp[IntKind.wrap,IntKind.signed,IntKind.bits];omega
   have hwcn:=q0_ (show (Lit.int .i64 ((cn:Int)+1)).wf=true from zqW (by unfold zbh;omega));have Hq:=q0_ hq;have Hj:=q0_ hj;have Hf:=q0_ hf
   have kn:0≤(k:Int)∧(k:Int)<(l.length:Int):=by omega
   have Hown:=q0_ hown;clear hcd hq hj hf hqw hown hat0 hcn
   go_wp2_with (first
    | (go_at_call 119;refine (HSh.out _).mono ?_;rintro r w6 ⟨rfl,rfl⟩)
    | (at_lookup;refine wpList_lookup_own_int _ rfl _ _ 185 rfl 3 3 .i64 zlz underlying185 underlying3 (zq4 _) w.heap.size k _ rfl (Hown.out.alloc _) _ _ rfl hkey ?_;intro cv hat hwc;rw[Hat.out] at hat;obtain rfl:cv=(cn:Int):=zoz hat;clear hat hwc)
    | (at_mapUpdate;refine wpList_mapUpdate_own _ rfl _ _ _ 185 rfl 3 3 zlz underlying185 _ w.heap.size k _ rfl (Hown.out.alloc _) (by unfold maxLen;omega) _ _ _ rfl rfl hkey _ [] (plainElem_int underlying3 (a:=(cn:Int)+1) hwcn.out) ?_;intro w7 hown7 hgrow7)
    | go_in)
   have F7:=q0_ ((Hf.out.trans (Fr.none_alloc _ _) q4_).trans (zcP hgrow7) (fun i hi=>.inl hi));have Hown7:=q0_ hown7;clear hown7 hgrow7
   go_roundw
   case rel=>exact⟨k+1,_,by omega,by go_num,Hown7.out,by rw[zan Hq.out];exact Hstep.out,F7.out⟩
   case measure=>simp[intOf];omega
  ·have hkl:k=l.length:=by omega
   subst hkl;rw[List.take_length] at hcd;have Hcd:=q0_ hcd;have O6:=q0_ (O5.out.fr hf);clear hcd hf Ho5 Hdj O5 M5
   go_wp2_with (first
    | (at_range;refine wpList_range_own _ rfl _ 185 rfl 3 3 zlz underlying185 (plainElem prog 3) w.heap.size l.length _ rfl hown ?_;intro w8 hrg8 hg8 hs8)
    | go_in)
   go_frame
   have hr0:w.heap.size<wr.heap.size:=hown.lt;clear hown
   obtain⟨rb,hrb⟩:∃ rb,wr.heap.size=rb:=⟨_,rfl⟩
   rw[hrb] at hrg8 hr0;have hst:Hid (Below w.heap.size w w8):=(O6.out.fr ((zgU hg8).mono q4_)).bel;rw[hrb];clear hrb hg8 hs8
   go_loopw [8] (fun t wq=>∃ (left:Lit→Bool) (cnt:Nat),t=.int .i64 (zgC M l left:Nat)∧wq.ranges prog 3 (plainElem prog 3) w.heap.size rb l.length D left cnt∧(∀ z,left z=true→Maps.has D z=true)∧Below w.heap.size w wq) (fun _ wq=>wq.rangeLeft w.heap.size rb)
   case atStart=>exact⟨_,_,by rw[zkB Hcd.out];rfl,hrg8,fun _ h=>h,hst.out⟩
   case round=>
    obtain⟨left,cnt,rfl,hrg,hhas,hbel⟩:=hrel;have Hhas:=q0_ hhas;have Hbel:=q0_ hbel;have hps:=zii M hM8 l left
    obtain⟨pv,hpv⟩:∃ pv,zgC M l left=pv:=⟨_,rfl⟩
    have Hpv:=q0_ hpv;rw[hpv] at hps ⊢;clear hhas hbel hpv
    go_wp2_with (first
     | (at_next;refine wpList_next_ranges_ii _ rfl _ rfl 3 3 .i64 .i64 zlz underlying3 underlying3 w.heap.size rb l.length _ _ _ rfl hrg ?_ ?_)
     | go_in)
    ·intro _ hl0
     rw[zjg hl0] at Hpv;clear hl0 hrg;go_wp2;go_ret;rw[Hpv.out];exact⟨rfl,Hbel.out⟩
    ·intro x cv w9 cnt9 hwx hwc hlx hat hrg9 hlt9 hg9 hs9 hen
     obtain⟨j,hjM,hx,hpos⟩:=Hcd.out.key _ (Hhas.out _ hlx)
     obtain rfl:x=(j:Int):=by simpa using hx
     have hat1:=hat (.lit (.int .i64 0));rw[Hcd.out.at_ j] at hat1;obtain rfl:cv=(zg6 M l j:Nat):=zoz hat1;have Hst:=q0_ (zmC (l:=l) hjM hlx);rw[Hpv.out] at Hst;have Hps2:=q0_ (zii M hM8 l (fun z=>left z&& !z.sameKey (.int .i64 (j:Int))));have hcl:=zk3 M l j
     obtain⟨cn,hcn⟩:∃ cn,zg6 M l j=cn:=⟨_,rfl⟩
     rw[hcn] at hen Hst hcl;have Hrg9:=q0_ hrg9;have Hb9:=q0_ (Hbel.out.trans (((zcP hg9).below_of (B:=w.heap.size) Hbel.out.size (fun i hi=>by rw[hi];omega))))
     have hd:((cn:Int)+3-1).tdiv 3=((cn+2) / 3:Nat):=by rw[Int.tdiv_eq_ediv_of_nonneg (by omega)];omega
     have hw1:IntKind.i64.wrap ((cn:Int)+3)=(cn:Int)+3:=by simp[IntKind.wrap,IntKind.signed,IntKind.bits];omega
     have hw2:IntKind.i64.wrap ((cn:Int)+3-1)=(cn:Int)+3-1:=by simp[IntKind.wrap,IntKind.signed,IntKind.bits];omega
     rw[hcn];clear hat hat1 hx hpos hwx hwc hcn hrg9 hg9;go_wp2
     go_roundw
     case rel=>exact⟨_,cnt9,by rw[Hst.out];push_cast;rfl,Hrg9.out,fun z hz=>Hhas.out z (by cases hz2:left z<;>simp[hz2] at hz ⊢),Hb9.out⟩
     case measure=>rw[Hrg9.out.left_eq,hrg.left_eq];exact hlt9
structure zaa where
 now:Int
 name:ByteArray
 tiers:List za_
 floors:List Int
 tabs:List (List zae)
def zfY(tb:List (Nat×Nat)):List Value:=tb.map fun p=>.pointer (some ⟨p.1,0,none⟩)
theorem zcq{tb:List (Nat×Nat)}{k:Nat}{p:Nat×Nat}(h:tb[k]? =some p):(zfY tb)[k]? =some (.pointer (some ⟨p.1,0,none⟩)):=by
 unfold zfY;rw[List.getElem?_map,h];rfl
structure zaO(w:World)(t base:Nat)(X:zaa)(A:Option Addr)(c:Nat)(B:Option Addr)(d:Nat)(T:Option Addr)(ct:Nat)(tb:List (Nat×Nat)):Prop where
 blk:Blk w t 69 #[.int .i64 X.now,.string X.name,.slice A X.tiers.length c,.slice B X.floors.length d,.slice T X.tiers.length ct]
 tiers:w.ownsRow base 130 4 (.slice A X.tiers.length c) X.tiers.length (zah X.tiers)
 floors:w.ownsRow base 3 1 (.slice B X.floors.length d) X.floors.length (zbg X.floors)
 row:w.ownsRow base 121 1 (.slice T X.tiers.length ct) X.tiers.length (zfY tb)
 tlen:X.tabs.length=X.tiers.length
 tab:∀ (i:Nat) (p:Nat×Nat) (x:za_) (l:List zae),tb[i]? =some p→X.tiers[i]? =some x→X.tabs[i]? =some l→zaw w p.1 x.every p.2 l
 nodup:(tb.map Prod.snd).Nodup
 ge:∀ p∈tb,base≤p.1∧base≤p.2
 tge:base≤t
def zbw(w:World)(t base:Nat)(X:zaa):Prop:=∃ A c B d T ct tb,zaO w t base X A c B d T ct tb
theorem zaO.len{w:World}{t base:Nat}{X:zaa}{A B T:Option Addr}{c d ct:Nat}{tb:List (Nat×Nat)}(h:zaO w t base X A c B d T ct tb):tb.length=X.tiers.length:=by
 have:=h.row.1;unfold zfY at this;rw[List.length_map] at this;omega
theorem zaO.tabAt{w:World}{t base:Nat}{X:zaa}{A B T:Option Addr}{c d ct:Nat}{tb:List (Nat×Nat)}(h:zaO w t base X A c B d T ct tb){k:Nat}(hk:k<X.tiers.length):
  ∃ g b x l,tb[k]? =some (g,b)∧X.tiers[k]? =some x∧X.tabs[k]? =some l∧zaw w g x.every b l:=by
 have h1:k<tb.length:=by rw[h.len];exact hk
 have h2:k<X.tabs.length:=by rw[h.tlen];exact hk
 exact⟨tb[k].1,tb[k].2,X.tiers[k],X.tabs[k],q6_ h1,q6_ hk,q6_ h2,h.tab k _ _ _ (q6_ h1) (q6_ hk) (q6_ h2)⟩
theorem zaO.fr0{w w':World}{t base:Nat}{X:zaa}{A B T:Option Addr}{c d ct:Nat}{tb:List (Nat×Nat)}(h:zaO w t base X A c B d T ct tb)(hf:Fr (fun _=>False) w w'):zaO w' t base X A c B d T ct tb:=
 ⟨h.blk.fr hf (fun h=>h),zac h.tiers hf,zac h.floors hf,zac h.row hf,h.tlen,fun i p x l h1 h2 h3=>(h.tab i p x l h1 h2 h3).fr0 hf,h.nodup,h.ge,h.tge⟩
theorem zaO.set{w w':World}{t base:Nat}{X:zaa}{A B T:Option Addr}{c d ct:Nat}{tb:List (Nat×Nat)}(h:zaO w t base X A c B d T ct tb){k g b:Nat}{x:za_}{l':List zae}(hk:tb[k]? =some (g,b))(hx:X.tiers[k]? =some x)
  (ht:zaw w' g x.every b l') (hf:Fr (fun j=>j=b) w w'):zaO w' t base {X with tabs:=X.tabs.set k l'} A c B d T ct tb:=by
 have hkl:k<X.tiers.length:=(List.getElem?_eq_some_iff.1 hx).1
 obtain⟨l,hl⟩:∃ l,X.tabs[k]? =some l:=⟨_,q6_ (by rw[h.tlen];exact hkl)⟩
 obtain⟨es,ck,hbm⟩:=(h.tab k (g,b) x l hk hx hl).own.isMap;simp only at hbm
 have hrow:∀ {e:TypeId} {size n base':Nat} {v:Value} {xs:List Value},w.ownsRow base' e size v n xs→∀ j,zaE v j→¬ j=b:=fun ho j hj e=>by
  obtain⟨cs',fz,hc⟩:=zdB ho hj;rw[e,hbm] at hc
  cases hc
 have hblk:∀ {g':Nat} {ty:TypeId} {cs:Array Value},Blk w g' ty cs→g'≠b:=fun {g' ty cs} hb e=>by
  have hb0:w.heap[g']? =some (Obj.cells cs ty (0,0)):=hb;rw[e,hbm] at hb0
  cases hb0
 refine⟨h.blk.fr hf (hblk h.blk),zaf h.tiers hf (hrow h.tiers),zaf h.floors hf (hrow h.floors),zaf h.row hf (hrow h.row),by simp[h.tlen],fun i p y l1 h1 h2 h3=>?_,h.nodup,h.ge,h.tge⟩
 by_cases e:i=k
 ·subst e
  rw[hk] at h1
  cases h1
  rw[hx] at h2
  cases h2
  rw[List.getElem?_set_self (by rw[h.tlen];exact hkl)] at h3
  cases h3
  exact ht
 ·rw[List.getElem?_set_ne (fun e'=>e e'.symm)] at h3
  have hT:=h.tab i p y l1 h1 h2 h3;refine hT.fr hf (hblk hT.blk) (fun e'=>?_)
  have hi:(tb.map Prod.snd)[i]? =some b:=by rw[List.getElem?_map,h1];simp[e']
  have hk2:(tb.map Prod.snd)[k]? =some b:=by rw[List.getElem?_map,hk];rfl
  have hil:=(List.getElem?_eq_some_iff.1 hi).1;exact e ((List.getElem?_inj hil h.nodup).1 (hi.trans hk2.symm))
theorem zeA(t base:Nat)(X:zaa)(w:World)(h:zbw w t base X)(hn:0<X.tiers.length):
  Calls prog 76 #[.pointer (some ⟨t,0,none⟩)] w fun r w'=>r=.returned (.bool false)∧w=w':=by
 obtain⟨A,c,B,d,T,ct,tb,hi⟩:=h;have c4:=hi.blk.cell 4;simp only[q1_,q2_,q3_] at c4
 have hne:((X.tiers.length:Int)==0)=false:=by simp;intro e;rw[e] at hn;cases hn
 have hne2:¬ X.tiers.length=0:=by omega
 obtain⟨n,hn2⟩:∃ n,X.tiers.length=n:=⟨_,rfl⟩
 rw[hn2] at c4 hne hne2;have hnd:decide ((n:Int)=0)=false:=q9_ (by omega);clear hi hn2;go_enter func76,ntmps76;go_wp2;go_ret;exact⟨by first | rfl | simp[*],rfl⟩
theorem zf7{x:Int}(h: -9223372036854775808≤x∧x≤9223372036854775807):IntKind.i64.wrap x=x:=by simp[IntKind.wrap,IntKind.signed,IntKind.bits];omega
theorem zeD{L:List Nat}{k x:Nat}(h:L[k]? =some x):(L.take (k+1)).sum=(L.take k).sum+x:=by
 rw[zan h,List.sum_append];simp
theorem zkj{L:List Nat}{c:Nat}(h:∀ x∈L,x≤c)(k:Nat):(L.take k).sum≤k*c:=by
 induction k with
 | zero=>simp
 | succ k ih=>
  by_cases hk:k<L.length
  ·rw[zeD (q6_ hk),Nat.add_mul]
   have:=h _ (List.getElem_mem hk);omega
  ·rw[List.take_of_length_le (by omega)]
   rw[List.take_of_length_le (by omega)] at ih;rw[Nat.add_mul];omega
def zce(X:zaa):List Nat:=List.zipWith (fun x l=>zeJ (max x.shards 1) l) X.tiers X.tabs
def zaB(X:zaa):Nat:=(zce X).sum
theorem zlv(M:Int)(hM:M≤8)(l:List zae):zeJ M l≤8*(l.length+2):=by
 have:=zii M hM l (fun _=>false);rwa[zjg (fun _=>rfl)] at this
theorem znD(t base:Nat)(X:zaa)(w:World)(h:zbw w t base X)(h0:0<X.tiers.length)(hn:X.tiers.length≤1000)(hl:∀ l∈X.tabs,l.length≤1000000)(hsh:∀ x∈X.tiers,x.shards≤8):
  Calls prog 35 #[.pointer (some ⟨t,0,none⟩)] w fun r w'=>r=.returned (.int .i64 (zaB X:Nat))∧Below w.heap.size w w':=by
 have HN:=q0_ (zeA t base X w h h0);obtain⟨A,c,B,d,T,ct,tb,hi⟩:=h;have c2:=hi.blk.cell 2;have c4:=hi.blk.cell 4;simp only[q1_,q2_,q3_] at c2 c4;have Hi:=q0_ hi;have Hrow:=q0_ (zat hi.row).2.2.1;have Hti:=q0_ (zat hi.tiers).2.2.1
 have Hle:=q0_ (fun k=>zkj (L:=zce X) (c:=9000000) (fun x hx=>by
  unfold zce at hx;obtain⟨i,hi1,rfl⟩:=List.mem_iff_getElem.1 hx
  have hi2:i<X.tiers.length∧i<X.tabs.length:=by rw[List.length_zipWith] at hi1;omega
  rw[List.getElem_zipWith];have h0':=hsh _ (List.getElem_mem hi2.1);have h1:=zlv (max (X.tiers[i]'hi2.1).shards 1) (by omega) (X.tabs[i]'hi2.2);have h2:=hl _ (List.getElem_mem hi2.2)
  omega) k)
 have Htl:=q0_ hi.tlen;have Hl:=q0_ hl;have Hsh:=q0_ hsh;clear hi hl hsh;go_enter func35,ntmps35;go_wp2_with fail;refine HN.out.mono ?_;rintro r w' ⟨rfl,rfl⟩;go_wp2_with fail;clear c2 c4
 go_loopw [3,13] (fun s i wr=>∃ k:Nat,k≤X.tiers.length∧i=.int .i64 k∧s=.int .i64 (((zce X).take k).sum:Nat)∧Fr (fun _=>False) w wr) (fun _ i _=>X.tiers.length-(intOf i).toNat)
 case atStart=>exact⟨0,Nat.zero_le _,rfl,rfl,Fr.refl _ _⟩
 case round=>
  obtain⟨k,hk,rfl,rfl,hf⟩:=hrel;have c2:=(Hi.out.blk.fr hf (fun h=>h)).cell 2;simp only[q1_,q2_,q3_] at c2
  by_cases hlt:k<X.tiers.length
  ·obtain⟨g,b,x,l,h1,h2,h3,hT⟩:=(Hi.out.fr0 hf).tabAt hlt
   obtain⟨ad,e,hc⟩:=(Hrow.out.fr0 hf).2 (by omega);subst e;have p0:=hc k _ (zcq h1);obtain⟨td,y,e,hy,e0,e1,e2,e3⟩:=(Hti.out.fr0 hf).tier hlt;subst e;rw[h2] at hy
   cases hy
   have hxs:=Hsh.out x (zab h2);have hll:=Hl.out l (zab h3);have HL:=q0_ (zki g x.every b l x.shards hxs wr hT (by omega));have hs:=zeD (L:=zce X) (k:=k) (x:=zeJ (max x.shards 1) l) (by unfold zce;rw[List.getElem?_zipWith,h2,h3]);have hs2:=Hle.out (k+1);rw[hs] at hs2
   obtain⟨sv,hsv⟩:∃ sv,((zce X).take k).sum=sv:=⟨_,rfl⟩
   obtain⟨nv,hnv⟩:∃ nv,zeJ (max x.shards 1) l=nv:=⟨_,rfl⟩
   rw[hsv,hnv] at hs hs2;rw[hnv] at HL;rw[hsv];have Hs:=q0_ hs;have hw:=zf7 (x:=(sv:Int)+(nv:Int)) (by omega)
   have kn:0≤(k:Int)∧(k:Int)<(X.tiers.length:Int):=by omega
   have Hf:=q0_ hf;clear hc hT h1 h2 h3 hs hsv hnv hf e0 e1 e2;go_wp2_with fail;refine HL.out.mono ?_;rintro r w' ⟨rfl,b5⟩;have F5:=q0_ (Hf.out.trans (Fr.b0 b5) q4_);clear b5 c2 e3 p0;go_wp2
   go_roundw
   case rel=>exact⟨k+1,by omega,by go_num,by rw[Hs.out];push_cast;rfl,F5.out⟩
   case measure=>simp[intOf];omega
  ·have hkl:k=X.tiers.length:=by omega
   have hfin:((zce X).take k).sum=zaB X:=by
    unfold zaB;rw[List.take_of_length_le (by unfold zce;rw[List.length_zipWith];omega)]
   rw[hfin];have Hf:=q0_ hf;clear hfin hf;go_wp2;go_ret;exact⟨rfl,Hf.out.below q4_⟩
theorem zdd{w:World}{g g':Nat}{ty ty':TypeId}{cs cs':Array Value}(h:Blk w g ty cs)(h':Blk w g' ty' cs')(hne:ty≠ty'):g≠g':=fun e=>by
 have h1:w.heap[g]? =some (Obj.cells cs ty (0,0)):=h;have h2:w.heap[g']? =some (Obj.cells cs' ty' (0,0)):=h';rw[e,h2] at h1
 injection h1 with h1
 injection h1 with _ h1 _
 exact hne h1.symm
def tM(tb:List (Nat×Nat)):Nat→Prop:=fun j=>∃ p∈tb,j=p.2
def tF(t:Nat)(tb:List (Nat×Nat)):Nat→Prop:=fun j=>j=t∨tM tb j
def zaJ(w:World)(t base:Nat)(X:zaa)(F:Nat→Prop):Prop:=∃ A c B d T ct tb,zaO w t base X A c B d T ct tb∧F=tF t tb
theorem zaJ.at_{w:World}{t base:Nat}{X:zaa}{F:Nat→Prop}(h:zaJ w t base X F):zbw w t base X:=by
 obtain⟨A,c,B,d,T,ct,tb,hi,_⟩:=h;exact⟨A,c,B,d,T,ct,tb,hi⟩
theorem zbw.on{w:World}{t base:Nat}{X:zaa}(h:zbw w t base X):∃ F,zaJ w t base X F:=by
 obtain⟨A,c,B,d,T,ct,tb,hi⟩:=h;exact⟨_,A,c,B,d,T,ct,tb,hi,rfl⟩
theorem zaJ.fr0{w w':World}{t base:Nat}{X:zaa}{F:Nat→Prop}(h:zaJ w t base X F)(hf:Fr (fun _=>False) w w'):zaJ w' t base X F:=by
 obtain⟨A,c,B,d,T,ct,tb,hi,e⟩:=h;exact⟨A,c,B,d,T,ct,tb,hi.fr0 hf,e⟩
theorem zbw.fr0{w w':World}{t base:Nat}{X:zaa}(h:zbw w t base X)(hf:Fr (fun _=>False) w w'):zbw w' t base X:=by
 obtain⟨F,h⟩:=h.on;exact (h.fr0 hf).at_
theorem zaO.map_{w:World}{t base:Nat}{X:zaa}{A B T:Option Addr}{c d ct:Nat}{tb:List (Nat×Nat)}(h:zaO w t base X A c B d T ct tb){j:Nat}(hj:tM tb j):base≤j∧j<w.heap.size∧∃ es ck,w.heap[j]? =some (.map es ck):=by
 obtain⟨p,hp,rfl⟩:=hj;obtain⟨k,hk⟩:=List.getElem?_of_mem hp
 have hkl:k<X.tiers.length:=by have:=(List.getElem?_eq_some_iff.1 hk).1;rw[h.len] at this;exact this
 obtain⟨g,b,x,l,h1,h2,h3,hT⟩:=h.tabAt hkl;rw[hk] at h1
 cases h1
 exact⟨(h.ge _ hp).2,hT.own.lt,hT.own.isMap⟩
theorem zaJ.ge{w:World}{t base:Nat}{X:zaa}{F:Nat→Prop}(h:zaJ w t base X F):∀ j,F j→base≤j∧j<w.heap.size:=by
 obtain⟨A,c,B,d,T,ct,tb,hi,rfl⟩:=h;rintro j (rfl | hj)
 ·exact⟨hi.tge,hi.blk.lt⟩
 ·exact⟨(hi.map_ hj).1,(hi.map_ hj).2.1⟩
theorem zaJ.kind{w:World}{t base:Nat}{X:zaa}{F:Nat→Prop}(h:zaJ w t base X F):∀ j,F j→(∃ es ck,w.heap[j]? =some (.map es ck))∨(∃ cs fz,w.heap[j]? =some (.cells cs 69 fz)):=by
 obtain⟨A,c,B,d,T,ct,tb,hi,rfl⟩:=h;rintro j (rfl | hj)
 ·exact .inr ⟨_,_,hi.blk⟩
 ·exact .inl (hi.map_ hj).2.2
theorem zaO.tick{w:World}{t base:Nat}{X:zaa}{A B T:Option Addr}{c d ct:Nat}{tb:List (Nat×Nat)}(h:zaO w t base X A c B d T ct tb)(N:Int):
  zaO (w.setCell ⟨t,0,none⟩ (.int .i64 N)) t base {X with now:=N} A c B d T ct tb:=by
 have hf:Fr (fun j=>j=t) w (w.setCell ⟨t,0,none⟩ (.int .i64 N)):=(Fr.refl (fun j=>j=t) w).setCell (p:=⟨t,0,none⟩) (.inl rfl) _;refine⟨h.blk.set_ 0 _,zaf h.tiers hf (fun j hj e=>zad h.tiers h.blk (by decide) (by rw[← e];exact hj)),zaf h.floors hf (fun j hj e=>zad h.floors h.blk (by decide) (by rw[← e];exact hj)),zaf h.row hf (fun j hj e=>zad h.row h.blk (by decide) (by rw[← e];exact hj)),h.tlen,fun i p x l h1 h2 h3=>?_,h.nodup,h.ge,h.tge⟩;have hT:=h.tab i p x l h1 h2 h3;obtain⟨es,ck,hbm⟩:=hT.own.isMap;refine hT.fr hf (zdd hT.blk h.blk (by decide)) (fun e=>?_);have hb0:w.heap[t]? =some (Obj.cells _ _ (0,0)):=h.blk;rw[← e,hbm] at hb0
 cases hb0
def zda(N:Int)(X:zaa):List (List zae):=(List.range X.tiers.length).map fun k=>zaK (zag (zar N X.tiers X.floors k)) (X.tabs.getD k [])
def zdj(X:zaa)(n:Int):Int:=if n<0 then 1 else if 1099511627776-X.now<n then 26 else 0
def zaz(X:zaa)(n:Int):zaa:=if zdj X n=0 then {X with now:=X.now+n,tabs:=zda (X.now+n) X} else X
theorem zf0{α:Type}{D L:List α}{k:Nat}{y:α}(hk:k<L.length)(hy:D[k]? =some y)(hkd:k≤D.length):(D.take k++L.drop k).set k y=D.take (k+1)++L.drop (k+1):=by
 have h1:(D.take k).length=k:=by rw[List.length_take];omega
 rw[List.set_append_right _ _ (by omega),h1,Nat.sub_self,List.drop_eq_getElem_cons hk,List.set_cons_zero,zan hy,List.append_assoc]
 rfl
theorem znB(t base:Nat)(X:zaa)(F:Nat→Prop)(n:Int)(hn64:i64 n)(w:World)(h:zaJ w t base X F)(h0:0<X.tiers.length)(hn:X.tiers.length≤1000)(hl:∀ l∈X.tabs,l.length≤1000000)(hnow:0≤X.now∧X.now≤1099511627776)(hwf:∀ x∈X.tiers,x.wf):
  Calls prog 40 #[.pointer (some ⟨t,0,none⟩),.int .i64 n] w fun r w'=>r=.returned (.int .i64 (zdj X n))∧zaJ w' t base (zaz X n) F∧Fr F w w':=by
 have HN:=q0_ (zeA t base X w h.at_ h0);have HT:=q0_ h;obtain⟨A,c,B,d,T,ct,tb,hi,rfl⟩:=h;have c0:=hi.blk.cell 0;have z0:=hi.blk.frozen 0;simp only[q1_,q2_,q3_] at c0;have Hi:=q0_ hi;clear hi;unfold i64 at hn64;unfold zaz zdj;have hw1:=zf7 (x:=1099511627776-X.now) (by omega)
 by_cases hneg:n<0
 ·have hnd:decide (n<0)=true:=qa_ hneg
  rw[if_pos hneg,if_neg (by omega)];go_enter func40,ntmps40;go_wp2_with fail;refine HN.out.mono ?_;rintro r w' ⟨rfl,rfl⟩;go_wp2;go_ret;exact⟨rfl,HT.out,Fr.refl _ _⟩
 have hnd:decide (n<0)=false:=q9_ hneg;rw[if_neg hneg]
 by_cases hbig:1099511627776-X.now<n
 ·have hbd:decide (1099511627776-X.now<n)=true:=qa_ hbig
  rw[if_pos hbig,if_neg (by omega)];go_enter func40,ntmps40;go_wp2_with fail;refine HN.out.mono ?_;rintro r w' ⟨rfl,rfl⟩;go_wp2;go_ret;exact⟨rfl,HT.out,Fr.refl _ _⟩
 have hbd:decide (1099511627776-X.now<n)=false:=q9_ hbig;rw[if_neg hbig,if_pos rfl];have hw2:=zf7 (x:=X.now+n) (by omega)
 obtain⟨N,hN⟩:∃ N,X.now+n=N:=⟨_,rfl⟩
 have hN64:i64 N:=by unfold i64;omega
 rw[hN] at hw2 ⊢
 obtain⟨DL,hDL⟩:∃ DL,zda N X=DL:=⟨_,rfl⟩
 have HDg:Hid (∀ k,k<X.tiers.length→DL[k]? =some (zaK (zag (zar N X.tiers X.floors k)) (X.tabs.getD k []))):=fun k hk=>by
  rw[← hDL];unfold zda;rw[List.getElem?_map,List.getElem?_range hk];rfl
 have HDl:Hid (DL.length=X.tiers.length):=by show _=_;rw[← hDL];unfold zda;simp
 rw[hDL];have Hi2:=q0_ (Hi.out.tick N);have Hwf:=q0_ hwf;have Hl:=q0_ hl;have Htl:=q0_ Hi.out.tlen;have htb:=Hi.out.tge;clear hDL hwf hl;go_enter func40,ntmps40;go_wp2_with fail;refine HN.out.mono ?_;rintro r w' ⟨rfl,rfl⟩;have c4:=Hi2.out.blk.cell 4;simp only[q1_,q2_,q3_] at c4;go_wp2_with fail
 obtain⟨W1,hW1⟩:∃ W1,W1=w.setCell ⟨t,0,none⟩ (.int .i64 N):=⟨_,rfl⟩
 have F1:Hid (Fr (tF t tb) w W1):=by show Fr _ _ _;rw[hW1];exact (Fr.refl (tF t tb) w).setCell (p:=⟨t,0,none⟩) (.inl (.inl rfl)) _
 rw[← hW1] at Hi2 ⊢;clear c0 z0 c4 hW1
 go_loopw [38] (fun i wr=>∃ k:Nat,k≤X.tiers.length∧i=.int .i64 k∧zaO wr t base {X with now:=N,tabs:=DL.take k++X.tabs.drop k} A c B d T ct tb∧Fr (tF t tb) w wr) (fun i _=>X.tiers.length-(intOf i).toNat)
 case atStart=>exact⟨0,Nat.zero_le _,rfl,Hi2.out,F1.out⟩
 case round=>
  obtain⟨k,hk,rfl,hik,hf⟩:=hrel;have Hik:=q0_ hik;have Hf:=q0_ hf;clear hik hf
  by_cases hlt:k<X.tiers.length
  ·obtain⟨g,b,x,l,h1,h2,h3,hT⟩:=Hik.out.tabAt (k:=k) hlt
   obtain⟨ad,e,hc⟩:=(zat Hik.out.row).2.2.1.2 (show 0<X.tiers.length by omega);subst e;have p0:=hc k _ (zcq h1);have a0:=Hik.out.blk.cell 0;have a1:=Hik.out.blk.cell 1;have a2:=Hik.out.blk.cell 2;have a3:=Hik.out.blk.cell 3;simp only[q1_,q2_,q3_] at a0 a1 a2 a3;have h2':X.tiers[k]? =some x:=h2
   have h3':X.tabs[k]? =some l:=by
    have h3'':(DL.take k++X.tabs.drop k)[k]? =some l:=h3;rw[List.getElem?_append_right (by rw[List.length_take];omega),List.length_take,Nat.min_eq_left (by rw[HDl.out];omega),Nat.sub_self,List.getElem?_drop] at h3'';simpa using h3''
   have hll:=Hl.out l (zab h3');have HF:=q0_ (zgr N hN64 X.name X.tiers A X.tiers.length c X.floors B X.floors.length d k wr (zat Hik.out.tiers).2.2.1 (zat Hik.out.floors).2.2.1 Hwf.out hlt (by omega))
   obtain⟨fv,hfv⟩:∃ fv,zar N X.tiers X.floors k=fv:=⟨_,rfl⟩
   have hget:=HDg.out k hlt;rw[hfv] at HF hget;rw[show X.tabs.getD k []=l by rw[List.getD_eq_getElem?_getD,h3'];rfl] at hget;have Hget:=q0_ hget;have H1:=q0_ h1;have H2:=q0_ h2';have H3:=q0_ h3';have HTk:=q0_ hT
   have kn:0≤(k:Int)∧(k:Int)<(X.tiers.length:Int):=by omega
   unfold zbL at HF;clear hc hT h1 h2 h3 h2' h3' hfv hget;go_wp2_with fail;refine HF.out.mono ?_;rintro r w5 ⟨rfl,b5⟩;have F5:=q0_ (Fr.b0 b5);have Hi5:=q0_ (Hik.out.fr0 F5.out);have HD:=q0_ (zgj g x.every b l fv w5 (HTk.out.fr0 F5.out) (by omega));clear b5 a0 a1 a2 a3 p0;go_wp2_with fail;refine HD.out.mono ?_;rintro r w6 ⟨rfl,t6,f6⟩;have Hi6:=q0_ (Hi5.out.set (k:=k) H1.out H2.out t6 f6);have F6:=q0_ ((Hf.out.trans F5.out q4_).trans f6 (fun i hi=>.inl (.inr ⟨_,List.mem_of_getElem? H1.out,hi⟩)));clear t6 f6;go_wp2
   go_roundw
   case rel=>
    refine⟨k+1,by omega,by go_num,?_,F6.out⟩;have h:=Hi6.out;have e:=zf0 (D:=DL) (L:=X.tabs) (k:=k) (by rw[Htl.out];exact hlt) Hget.out (by rw[HDl.out];omega)
    replace h:zaO w6 t base {X with now:=N,tabs:=(DL.take k++X.tabs.drop k).set k _} A c B d (some ad) ct tb:=h
    rw[e] at h;exact h
   case measure=>simp[intOf];omega
  ·have hkl:k=X.tiers.length:=by omega
   have h:=Hik.out;rw[hkl,List.take_of_length_le (by rw[HDl.out];exact Nat.le_refl _),List.drop_eq_nil_of_le (by rw[Htl.out];exact Nat.le_refl _),List.append_nil] at h;have Hfin:=q0_ h;clear h;go_wp2;go_ret;exact⟨rfl,⟨A,c,B,d,T,ct,tb,Hfin.out,rfl⟩,Hf.out⟩
theorem znE(t base:Nat)(X:zaa)(i:Int)(w:World)(h:zbw w t base X)(h0:0<X.tiers.length):
  Calls prog 103 #[.pointer (some ⟨t,0,none⟩),.int .i64 i] w fun r w'=>r=.returned (.bool (decide (0≤i)&&decide (i<(X.tiers.length:Int))))∧w=w':=by
 have HN:=q0_ (zeA t base X w h h0);obtain⟨A,c,B,d,T,ct,tb,hi⟩:=h;have c4:=hi.blk.cell 4;simp only[q1_,q2_,q3_] at c4;clear hi
 by_cases hi0:0≤i
 ·have hd:decide (0≤i)=true:=qa_ hi0
  go_enter func103,ntmps103;go_wp2_with fail;refine HN.out.mono ?_;rintro r w' ⟨rfl,rfl⟩;go_wp2;go_ret;exact⟨by first | rfl | simp[hd],rfl⟩
 ·have hd:decide (0≤i)=false:=q9_ hi0
  go_enter func103,ntmps103;go_wp2_with fail;refine HN.out.mono ?_;rintro r w' ⟨rfl,rfl⟩;go_wp2;go_ret;exact⟨by first | rfl | simp[hd],rfl⟩
theorem ziN(t base:Nat)(X:zaa)(k:Nat)(x:za_)(l:List zae)(w:World)(h:zbw w t base X)(hx:X.tiers[k]? =some x)(hl:X.tabs[k]? =some l):
  Calls prog 73 #[.pointer (some ⟨t,0,none⟩),.int .i64 k] w fun r w'=>(∃ g' b',r=.returned (.pointer (some ⟨g',0,none⟩))∧zaw w' g' x.every b' l∧w.heap.size≤g'∧w.heap.size≤b')∧Below w.heap.size w w':=by
 have hk:k<X.tiers.length:=(List.getElem?_eq_some_iff.1 hx).1;have H:=q0_ (znE t base X k w h (by omega))
 have hib:(decide (0≤(k:Int))&&decide ((k:Int)<(X.tiers.length:Int)))=true:=by simp;omega
 rw[hib] at H;obtain⟨A,c,B,d,T,ct,tb,hi⟩:=h;obtain⟨g,b,y,l',h1,h2,h3,hT⟩:=hi.tabAt hk;rw[hx] at h2
 cases h2
 rw[hl] at h3
 cases h3
 obtain⟨ad,e,hc⟩:=(zat hi.row).2.2.1.2 (show 0<X.tiers.length by omega);subst e;have p0:=hc k _ (zcq h1);have c4:=hi.blk.cell 4;simp only[q1_,q2_,q3_] at c4;have HC:=q0_ (zei g x.every b l w hT)
 have kn:0≤(k:Int)∧(k:Int)<(X.tiers.length:Int):=by omega
 clear hc hi hT h1;go_enter func73,ntmps73;go_wp2_with fail;refine H.out.mono ?_;rintro r w' ⟨rfl,rfl⟩;go_wp2_with fail;refine HC.out.mono ?_;rintro r w5 ⟨⟨g',b',rfl,hr⟩,b5⟩;have Hr:=q0_ hr;have B5:=q0_ b5;clear hr b5;go_wp2;go_ret;exact⟨⟨g',b',rfl,Hr.out⟩,B5.out⟩
theorem zkd(t base:Nat)(X:zaa)(k:Nat)(x:za_)(l:List zae)(w:World)(h:zbw w t base X)(hx:X.tiers[k]? =some x)(hl:X.tabs[k]? =some l)(hll:l.length≤1000000000):
  Calls prog 28 #[.pointer (some ⟨t,0,none⟩),.int .i64 k] w fun r w'=>(∃ A c,r=.returned (.slice A l.length c)∧w'.ownsRow w.heap.size 127 7 (.slice A l.length c) l.length (za1 l))∧Below w.heap.size w w':=by
 have H:=q0_ (ziN t base X k x l w h hx hl);go_enter func28,ntmps28;go_wp2_with fail;refine H.out.mono ?_;rintro r w5 ⟨⟨g',b',rfl,hT,_,_⟩,b5⟩;have HA:=q0_ (zd2 g' x.every b' l w5 hT hll);have B5:=q0_ b5;have hs:=b5.size;clear hT b5;go_wp2_with fail;refine HA.out.mono ?_;rintro r w6 ⟨⟨A,c,rfl,ho⟩,b6⟩;have Ho:=q0_ (zaT ho hs);have B6:=q0_ (B5.out.trans (b6.mono hs));clear ho b6;go_wp2;go_ret;exact⟨⟨A,c,rfl,Ho.out⟩,B6.out⟩
section
variable {P:Program} {w:World}
theorem zaU{o:Oper}{a:Act}{next:Act→World→Prop}{Q:Exit→Act→World→Prop}(s x:Operand)(t:TypeId)
  (ho:o.op=.call {callee:=.builtin .append,args:=#[s,x],argTypes:=#[t,t]})
  (e:TypeId) (i:TypeInfo) (z:Value) (size bytes:Nat) (ht:P.underlying t=some (.slice e)) (hi:P.info? e=some i) (hz:i.zero=some z)
  (hsize:i.size=size) (hby:i.bytes=bytes) (hzs:z.cells.size=size) (hsz:0<size)
  (v:Value) (n:Nat) (xs:List Value) (hs:a.eval s=v) (base:Nat) (hbase:base≤w.heap.size) (hown:w.ownsRow base e size v n xs)
  (A:Option Addr) (m c:Nat) (news:List Value) (hx:a.eval x=.slice A m c) (hr:Rd w size A m news) (h1:∀ u∈news,u.oneCell'=true)
  (h63:n+m≤maxLen) (hbytes:(n+m)*bytes≤140737488355328)
  (h:∀ A' c' w',w'.ownsRow base e size (.slice A' (n+m) c') (n+m) (xs++news)→Mv (zaE v) (zaE (.slice A' (n+m) c')) w w'→(∀ A0 c0,v=.slice A0 n c0→Rd w' size A0 n xs)→next (a.put o.dst (.slice A' (n+m) c')) w'):Oper.wp P o a w next Q:=by
 obtain⟨v',w',hrun,h2,h3,h4⟩:=zll (P:=P) t o.type e i z size bytes ht hi hz hsize hby hzs hsz v n xs base hbase hown A m c news hr h1 h63 hbytes;obtain⟨A',c',rfl,_⟩:=za5 h2;unfold Oper.wp execOp;simp only[ho,resolve,invoke,builtin,Sem.run_bind,Sem.run_pure,Result.andThen_ok,List.map_toArray,List.map_cons,List.map_nil,hs,hx,hrun];exact h A' c' w' h2 h3 h4
end
theorem zc6{w:World}{base base' n n' size size':Nat}{e e':TypeId}{v v':Value}{xs xs':List Value}(h:w.ownsRow base e size v n xs)(h':w.ownsRow base' e' size' v' n' xs')(hne:e≠e'):∀ j,zaE v j→¬ zaE v' j:=fun j hj hj'=>by
 obtain⟨cs,fz,h1⟩:=zdB h hj;obtain⟨cs',fz',h2⟩:=zdB h' hj';rw[h1] at h2
 injection h2 with h2
 injection h2 with _ h2 _
 exact hne h2
structure zcj(w:World)(t base:Nat)(X:zaa)(A:Option Addr)(c:Nat)(B:Option Addr)(d:Nat)(T:Option Addr)(ct:Nat)(tb:List (Nat×Nat))(k:Nat):Prop where
 blk:Blk w t 69 #[.int .i64 X.now,.string X.name,.slice A X.tiers.length c,.slice B X.floors.length d,.slice T k ct]
 tiers:w.ownsRow base 130 4 (.slice A X.tiers.length c) X.tiers.length (zah X.tiers)
 floors:w.ownsRow base 3 1 (.slice B X.floors.length d) X.floors.length (zbg X.floors)
 row:w.ownsRow base 121 1 (.slice T k ct) k (zfY tb)
 tab:∀ (i:Nat) (p:Nat×Nat) (x:za_) (l:List zae),tb[i]? =some p→X.tiers[i]? =some x→X.tabs[i]? =some l→zaw w p.1 x.every p.2 l
 lt:∀ p∈tb,p.1<w.heap.size∧p.2<w.heap.size
 nodup:(tb.map Prod.snd).Nodup
 ge:∀ p∈tb,base≤p.1∧base≤p.2
 tge:base≤t
theorem zcj.len{w:World}{t base k:Nat}{X:zaa}{A B T:Option Addr}{c d ct:Nat}{tb:List (Nat×Nat)}(h:zcj w t base X A c B d T ct tb k):tb.length=k:=by
 have:=h.row.1;unfold zfY at this;rw[List.length_map] at this;omega
theorem zcj.fr0{w w':World}{t base k:Nat}{X:zaa}{A B T:Option Addr}{c d ct:Nat}{tb:List (Nat×Nat)}(h:zcj w t base X A c B d T ct tb k)(hf:Fr (fun _=>False) w w'):zcj w' t base X A c B d T ct tb k:=
 ⟨h.blk.fr hf (fun h=>h),zac h.tiers hf,zac h.floors hf,zac h.row hf,fun i p x l h1 h2 h3=>(h.tab i p x l h1 h2 h3).fr0 hf,fun p hp=>⟨Nat.lt_of_lt_of_le (h.lt p hp).1 hf.size,Nat.lt_of_lt_of_le (h.lt p hp).2 hf.size⟩,h.nodup,h.ge,h.tge⟩
theorem zcj.done{w:World}{t base:Nat}{X:zaa}{A B T:Option Addr}{c d ct:Nat}{tb:List (Nat×Nat)}(h:zcj w t base X A c B d T ct tb X.tiers.length)(hl:X.tabs.length=X.tiers.length):zbw w t base X:=
 ⟨A,c,B,d,T,ct,tb,h.blk,h.tiers,h.floors,h.row,hl,h.tab,h.nodup,h.ge,h.tge⟩
theorem zcj.snoc{w w5 w6:World}{t base k g b:Nat}{X:zaa}{A B T T':Option Addr}{c d ct ct':Nat}{tb:List (Nat×Nat)}{x:za_}{l:List zae}(h:zcj w t base X A c B d T ct tb k)
  (hf:Fr (fun _=>False) w w5) (hbs:base≤w.heap.size) (hg:w.heap.size≤g) (hb:w.heap.size≤b) (hx:X.tiers[k]? =some x) (hl:X.tabs[k]? =some l) (ht:zaw w5 g x.every b l) (o:Obj)
  (ho:w6.ownsRow base 121 1 (.slice T' (k+1) ct') (k+1) (zfY tb++[.pointer (some ⟨g,0,none⟩)])) (hm:Mv (zaE (.slice T k ct)) (zaE (.slice T' (k+1) ct')) (w5.alloc o) w6):
  zcj (w6.setCell ⟨t,4,none⟩ (.slice T' (k+1) ct')) t base X A c B d T' ct' (tb++[(g,b)]) (k+1)∧Fr (fun j=>base≤j) w (w6.setCell ⟨t,4,none⟩ (.slice T' (k+1) ct')):=by
 have h5:=h.fr0 (hf.trans (Fr.none_alloc w5 o) q4_);have ht5:zaw (w5.alloc o) g x.every b l:=ht.fr0 (Fr.none_alloc _ _);have hblk:∀ {g':Nat} {ty:TypeId} {cs:Array Value},Blk (w5.alloc o) g' ty cs→ty≠121→¬ zaE (.slice T k ct) g':=fun {g' ty cs} hB hne hj=>zad h5.row hB (fun e=>hne e.symm) hj
 have hmap:∀ {b':Nat} {m:List zae},zbr (w5.alloc o) b' m→¬ zaE (.slice T k ct) b':=fun {b' m} hB hj=>by
  obtain⟨es,ck,hbm⟩:=hB.isMap;obtain⟨cs',fz,hc⟩:=zdB h5.row hj;rw[hbm] at hc
  cases hc
 have b6:Blk w6 t 69 #[.int .i64 X.now,.string X.name,.slice A X.tiers.length c,.slice B X.floors.length d,.slice T k ct]:=h5.blk.fr hm.fr (hblk h5.blk (by decide));have t6:w6.ownsRow base 130 4 (.slice A X.tiers.length c) X.tiers.length (zah X.tiers):=zaf h5.tiers hm.fr (zc6 h5.tiers h5.row (by decide));have f6:w6.ownsRow base 3 1 (.slice B X.floors.length d) X.floors.length (zbg X.floors):=zaf h5.floors hm.fr (zc6 h5.floors h5.row (by decide));have hs:Fr (fun j=>j=t) w6 (w6.setCell ⟨t,4,none⟩ (.slice T' (k+1) ct')):=(Fr.refl (fun j=>j=t) w6).setCell (p:=⟨t,4,none⟩) (.inl rfl) _;have hlen:=h.len;have hkl:k<X.tiers.length:=(List.getElem?_eq_some_iff.1 hx).1
 have tab6:∀ {g' b':Nat} {e:Int} {m:List zae},zaw (w5.alloc o) g' e b' m→zaw (w6.setCell ⟨t,4,none⟩ (.slice T' (k+1) ct')) g' e b' m:=fun {g' b' e m} hT=>by
  have hT6:zaw w6 g' e b' m:=hT.fr hm.fr (hblk hT.blk (by decide)) (hmap hT.own);refine hT6.fr hs (zdd hT6.blk b6 (by decide)) (fun e'=>?_);obtain⟨es,ck,hbm⟩:=hT6.own.isMap;have hb0:w6.heap[t]? =some (Obj.cells _ _ (0,0)):=b6;rw[← e',hbm] at hb0
  cases hb0
 have hsz:w.heap.size≤(w6.setCell ⟨t,4,none⟩ (.slice T' (k+1) ct')).heap.size:=Nat.le_trans (Nat.le_trans (hf.trans (Fr.none_alloc w5 o) q4_).size hm.fr.size) hs.size;refine⟨⟨b6.set_ 4 _,zaf t6 hs (fun j hj e=>zad t6 b6 (by decide) (by rw[← e];exact hj)),zaf f6 hs (fun j hj e=>zad f6 b6 (by decide) (by rw[← e];exact hj)),?_,fun i p y m h1 h2 h3=>?_,fun p hp=>?_,?_,fun p hp=>?_,h.tge⟩,?_⟩
 ·have:zfY (tb++[(g,b)])=zfY tb++[.pointer (some ⟨g,0,none⟩)]:=by unfold zfY;rw[List.map_append];rfl
  rw[this];exact zaf ho hs (fun j hj e=>zad ho b6 (by decide) (by rw[← e];exact hj))
 ·by_cases hi:i<tb.length
  ·rw[List.getElem?_append_left hi] at h1
   exact tab6 (h5.tab i p y m h1 h2 h3)
  ·rw[List.getElem?_append_right (by omega)] at h1
   have hik:i=k:=by
    have:=(List.getElem?_eq_some_iff.1 h1).1;simp at this;omega
   subst hik;rw[hlen,Nat.sub_self] at h1
   cases h1
   rw[hx] at h2
   cases h2
   rw[hl] at h3
   cases h3
   exact tab6 ht5
 ·rcases List.mem_append.1 hp with hp | hp
  ·exact⟨Nat.lt_of_lt_of_le (h.lt p hp).1 hsz,Nat.lt_of_lt_of_le (h.lt p hp).2 hsz⟩
  ·rw[List.mem_singleton] at hp
   subst hp;exact⟨(tab6 ht5).blk.lt,(tab6 ht5).own.lt⟩
 ·rw[List.map_append,List.nodup_append]
  refine⟨h.nodup,by simp,fun a ha b' hb'=>?_⟩;obtain⟨p,hp,rfl⟩:=List.mem_map.1 ha;simp at hb';subst hb';have:=(h.lt p hp).2;omega
 ·rcases List.mem_append.1 hp with hp | hp
  ·exact h.ge p hp
  ·rw[List.mem_singleton] at hp
   subst hp;exact⟨by omega,by omega⟩
 ·have q1:Fr (fun j=>base≤j) w (w5.alloc o):=(hf.trans (Fr.none_alloc w5 o) q4_).mono q4_
  have q2:Fr (fun j=>base≤j) w w6:=q1.trans hm.fr (fun j hj=>.inl (h5.row.lt j hj).1);exact q2.trans hs (fun j hj=>.inl (by rw[hj];exact h.tge))
theorem zgR:(prog.info? 121).map (fun i=>(i.zero,i.size,i.bytes))=some (some (.pointer none),1,8):=by kernel_rfl
def zep(l:List za_)(fl:List Int)(k:Nat):Bool:=
 match fl[k]?,l[k]? with
 | some f,some t=>decide (0≤f)&&onB f t.every
 | _,_=>true
def ziz(l:List za_)(fl:List Int):Bool:=(List.range fl.length).all (zep l fl)
def zfs(nm:ByteArray)(l:List za_)(now:Int)(fl:List Int):Int:=
 if zak nm l then (if now<0∨1099511627776<now∨l.length<fl.length then 1 else if ziz l fl then 0 else 1) else 23
def zfZ(nm:ByteArray)(l:List za_)(now:Int)(fl:List Int):zaa:=⟨now,nm,l,fl,l.map fun _=>[]⟩
theorem zh6(nm:ByteArray)(hnm:nm.size≤maxLen)(l:List za_)(A:Option Addr)(n c:Nat)(now:Int)(hnow:i64 now)(fl:List Int)(B:Option Addr)(m d:Nat)(w:World)(hr:Rd w 4 A n (zah l))(hnc:n≤c)(hwf:∀ t∈l,t.wf)(hn:n≤1099511627776)(hf:Rd w 1 B m (zbg fl))(hm:m≤1099511627776):
  Calls prog 39 #[zfS nm A n c,.int .i64 now,.slice B m d] w fun r w'=>((zfs nm l now fl=0→∃ t,r=.returned (.tuple #[.pointer (some ⟨t,0,none⟩),.int .i64 0])∧zbw w' t w.heap.size (zfZ nm l now fl))∧(zfs nm l now fl≠0→r=.returned (.tuple #[.pointer none,.int .i64 (zfs nm l now fl)])))∧Below w.heap.size w w':=by
 have HCk:Hid (∀ w',Fr (fun _=>False) w w'→Calls prog 79 #[zfS nm A n c] w' fun r w''=>(∃ k:Int,r=.returned (.tuple #[.int .i64 (zfw (zak nm l)),.int .i64 k]))∧Below w'.heap.size w' w''):=
  fun w' h=>zdV nm hnm l A n c w' (hr.fr0 h) hnc (fun t ht=>(hwf t ht).2.2.2)
 have HOf:Hid (∀ w',Fr (fun _=>False) w w'→Calls prog 81 #[zfS nm A n c,.int .i64 now,.slice B m d] w' fun r w''=>(∃ A' c' B' d',r=.returned (zbL now nm A' n c' B' m d')∧w''.ownsRow w'.heap.size 130 4 (.slice A' n c') n (zah l)∧w''.ownsRow w'.heap.size 3 1 (.slice B' m d') m (zbg fl))∧Below w'.heap.size w' w''):=
  fun w' h=>of_own nm l A n c now fl B m d w' (hr.fr0 h) hn (hf.fr0 h) hm
 have Hr:=q0_ hr;have Hf0:=q0_ hf;have Hln:=q0_ hr.tiers_len;have Hlm:=q0_ (Rd.len_map hf)
 have hnm0:((l.length<fl.length)↔((n:Int)<(m:Int))):=by rw[Hln.out,Hlm.out];omega
 have Hev:=q0_ (fun (h:zak nm l=true) (x:za_) (hx:x∈l)=>(zaN h hx).1)
 obtain⟨E,hE⟩:∃ E,zfs nm l now fl=E:=⟨_,rfl⟩
 rw[hE];unfold zfs at hE;simp only[hnm0] at hE;clear hr hf hwf hnm0;unfold zfS at HCk HOf ⊢
 cases hck:zak nm l
 ·rw[hck,show zfw false=23 from rfl] at HCk
  rw[hck,if_neg (by simp)] at hE;subst hE;clear HOf;go_enter func39,ntmps39;go_wp2_with fail;refine (HCk.out _ (Fr.none_alloc _ _)).mono ?_;rintro r w1 ⟨⟨kk,rfl⟩,b1⟩;have BP:=q0_ ((Blk.new w 51 #[.string nm,.slice A n c]).below b1);have F1:Hid (Fr (fun _=>False) w w1):=(Fr.none_alloc w _).trans (Fr.b0 b1) q4_;have d0:=BP.out.cell 0;have d1:=BP.out.cell 1;simp only[q1_,q2_,q3_] at d0 d1;clear b1;go_wp2
  go_ret2
  exact⟨⟨fun h=>absurd h (by decide),fun _=>rfl⟩,F1.out.below q4_⟩
 rw[hck,show zfw true=0 from rfl] at HCk;rw[hck,if_pos rfl] at hE;have Hev:=q0_ (Hev.out hck);clear hck
 by_cases h1:now<0
 ·have hd1:decide (now<0)=true:=qa_ h1
  rw[if_pos (.inl h1)] at hE;subst hE;clear HOf;go_enter func39,ntmps39;go_wp2_with fail;refine (HCk.out _ (Fr.none_alloc _ _)).mono ?_;rintro r w1 ⟨⟨kk,rfl⟩,b1⟩;have BP:=q0_ ((Blk.new w 51 #[.string nm,.slice A n c]).below b1);have F1:Hid (Fr (fun _=>False) w w1):=(Fr.none_alloc w _).trans (Fr.b0 b1) q4_;have d0:=BP.out.cell 0;have d1:=BP.out.cell 1;simp only[q1_,q2_,q3_] at d0 d1;clear b1;go_wp2
  go_ret2
  exact⟨⟨fun h=>absurd h (by decide),fun _=>rfl⟩,F1.out.below q4_⟩
 have hd1:decide (now<0)=false:=q9_ h1
 by_cases h2:1099511627776<now
 ·have hd2:decide (1099511627776<now)=true:=qa_ h2
  rw[if_pos (.inr (.inl h2))] at hE;subst hE;clear HOf;go_enter func39,ntmps39;go_wp2_with fail;refine (HCk.out _ (Fr.none_alloc _ _)).mono ?_;rintro r w1 ⟨⟨kk,rfl⟩,b1⟩;have BP:=q0_ ((Blk.new w 51 #[.string nm,.slice A n c]).below b1);have F1:Hid (Fr (fun _=>False) w w1):=(Fr.none_alloc w _).trans (Fr.b0 b1) q4_;have d0:=BP.out.cell 0;have d1:=BP.out.cell 1;simp only[q1_,q2_,q3_] at d0 d1;clear b1;go_wp2
  go_ret2
  exact⟨⟨fun h=>absurd h (by decide),fun _=>rfl⟩,F1.out.below q4_⟩
 have hd2:decide (1099511627776<now)=false:=q9_ h2
 by_cases h3:(n:Int)<(m:Int)
 ·have hd3:decide ((n:Int)<(m:Int))=true:=qa_ h3
  have hd4:decide (n<m)=true:=qa_ (by omega)
  have h4:n<m:=by omega
  rw[if_pos (.inr (.inr h3))] at hE;subst hE;clear HOf;go_enter func39,ntmps39;go_wp2_with fail;refine (HCk.out _ (Fr.none_alloc _ _)).mono ?_;rintro r w1 ⟨⟨kk,rfl⟩,b1⟩;have BP:=q0_ ((Blk.new w 51 #[.string nm,.slice A n c]).below b1);have F1:Hid (Fr (fun _=>False) w w1):=(Fr.none_alloc w _).trans (Fr.b0 b1) q4_;have d0:=BP.out.cell 0;have d1:=BP.out.cell 1;simp only[q1_,q2_,q3_] at d0 d1;clear b1;go_wp2
  go_ret2
  exact⟨⟨fun h=>absurd h (by decide),fun _=>rfl⟩,F1.out.below q4_⟩
 have hd3:decide ((n:Int)<(m:Int))=false:=q9_ h3;have hd4:decide (n<m)=false:=q9_ (by omega);rw[if_neg (by omega)] at hE;have HE:=q0_ hE;clear hE;obtain⟨i0,hi,hz0,hz1,hz2⟩:=info_parts zgR;go_enter func39,ntmps39;go_wp2_with fail;refine (HCk.out _ (Fr.none_alloc _ _)).mono ?_;rintro r w1 ⟨⟨kk,rfl⟩,b1⟩;have BP:=q0_ ((Blk.new w 51 #[.string nm,.slice A n c]).below b1);have F1:Hid (Fr (fun _=>False) w w1):=(Fr.none_alloc w _).trans (Fr.b0 b1) q4_;have d0:=BP.out.cell 0;have d1:=BP.out.cell 1;simp only[q1_,q2_,q3_] at d0 d1;clear b1
 have h4:m≤n:=by omega
 clear h3;go_wp2_with fail
 go_loopw [39] (fun i wr=>∃ k:Nat,k≤m∧i=.int .i64 k∧w1=wr∧∀ j,j<k→zep l fl j=true) (fun i _=>m-(intOf i).toNat)
 case atStart=>exact⟨0,Nat.zero_le _,rfl,rfl,fun j hj=>absurd hj (by omega)⟩
 case round=>
  obtain⟨k,hk,rfl,rfl,hall⟩:=hrel;have Hall:=q0_ hall;clear hall
  by_cases hlt:k<m
  ·obtain⟨bd,f,rfl,hfu,hfc⟩:=(Hf0.out.fr0 F1.out).at_map hlt
   obtain⟨ad,x,rfl,hxu,e0,e1,e2,e3⟩:=(Hr.out.fr0 F1.out).tier (k:=k) (by omega)
   have hok:zep l fl k=(decide (0≤f)&&onB f x.every):=by unfold zep;rw[hfu,hxu]
   have Hok:=q0_ hok;have HOn:Hid (∀ W,Calls prog 80 #[.int .i64 f,.int .i64 x.every] W fun r w'=>r=.returned (.bool (onB f x.every))∧W=w'):=fun W=>zqZ f x.every W
   have HEb:Hid (zep l fl k=false→E=1):=fun h=>by
    rw[← HE.out,if_neg];intro hall;have:=List.all_eq_true.1 hall k (List.mem_range.2 (by rw[Hlm.out];exact hlt));rw[h] at this
    cases this
   have kn:0≤(k:Int)∧(k:Int)<(m:Int)∧(k:Int)<(n:Int):=by omega
   have kn2:k<m∧k<n:=by omega
   clear hok hfu hxu e0 e2 e3
   by_cases h0:f<0
   ·have hd5:decide (f<0)=true:=qa_ h0
    have hE1:Hid (E=1):=HEb.out (by rw[Hok.out,q9_ (by omega)];rfl);go_wp2
    go_ret2
    rw[hE1.out];exact⟨⟨fun h=>absurd h (by decide),fun _=>rfl⟩,F1.out.below q4_⟩
   ·have hd5:decide (f<0)=false:=q9_ h0
    cases hon:onB f x.every
    ·rw[hon] at HOn
     have hE1:Hid (E=1):=HEb.out (by rw[Hok.out,hon,Bool.and_false]);go_wp2_with fail;refine (HOn.out _).mono ?_;rintro r w' ⟨rfl,rfl⟩;go_wp2
     go_ret2
     rw[hE1.out];exact⟨⟨fun h=>absurd h (by decide),fun _=>rfl⟩,F1.out.below q4_⟩
    ·rw[hon] at HOn
     go_wp2_with fail;refine (HOn.out _).mono ?_;rintro r w' ⟨rfl,rfl⟩;go_wp2
     go_roundw
     case rel=>
      refine⟨k+1,by omega,by go_num,by trivial,fun j hj=>?_⟩
      by_cases e:j=k
      ·subst e
       rw[Hok.out,hon,qa_ (by omega)];rfl
      ·exact Hall.out j (by omega)
     case measure=>simp[intOf];omega
  ·have hE0:E=0:=by
    rw[← HE.out,if_pos];exact List.all_eq_true.2 fun j hj=>Hall.out j (by have:=List.mem_range.1 hj;rw[Hlm.out] at this;omega)
   have HE0:=q0_ hE0;have HO:=q0_ (HOf.out w1 F1.out);clear hE0 HE Hall HOf HCk Hf0;go_wp2_with fail;refine HO.out.mono ?_;rintro r w2 ⟨⟨A',c',B',d',rfl,ho1,ho2⟩,b2⟩
   obtain⟨s,hs⟩:∃ s,w1.heap.size=s:=⟨_,rfl⟩
   rw[hs] at ho1 ho2
   have hs2:s≤w2.heap.size:=by rw[← hs];exact b2.size
   have hsw:w.heap.size≤s:=by rw[← hs];exact F1.out.size
   obtain⟨t,htd⟩:∃ t,w2.heap.size=t:=⟨_,rfl⟩
   have Ho1:=q0_ ho1;have Ho2:=q0_ ho2;have B2:=q0_ (BP.out.below b2);have F2:=q0_ (F1.out.trans (Fr.b0 b2) q4_);unfold zbL;clear ho1 ho2 b2 d0 d1 HO;have d1:=(B2.out.alloc (.cells #[.int .i64 now,.string nm,.slice A' n c',.slice B' m d',.slice none 0 0] 69)).cell 1;simp only[q1_,q2_,q3_] at d1;go_wp2_with fail
   obtain⟨W3,hW3⟩:∃ W3,W3=w2.alloc (.cells #[.int .i64 now,.string nm,.slice A' n c',.slice B' m d',.slice none 0 0] 69):=⟨_,rfl⟩
   rw[← hW3]
   try rw[htd]
   have F3:Hid (Fr (fun _=>False) w W3):=by show Fr _ _ _;rw[hW3];exact F2.out.trans (Fr.none_alloc _ _) q4_
   have BP3:Hid (Blk W3 w.heap.size 51 #[.string nm,.slice A n c]):=by show Blk _ _ _ _;rw[hW3];exact B2.out.alloc _
   have hP0:zcj W3 t s (zfZ nm l now fl) A' c' B' d' none 0 [] 0:=by
    have hb:Blk W3 t 69 #[.int .i64 now,.string nm,.slice A' n c',.slice B' m d',.slice none 0 0]:=by rw[hW3];exact Blk.new' htd.symm _ _
    refine⟨?_,?_,?_,World.ownsRow_nil _ _ _ _,fun i p x l h=>by simp at h,fun p hp=>by simp at hp,by simp,fun p hp=>by simp at hp,by omega⟩
    ·show Blk _ _ _ #[.int .i64 now,.string nm,.slice A' l.length c',.slice B' fl.length d',_]
     rw[Hln.out,Hlm.out];exact hb
    ·show W3.ownsRow s _ 4 (.slice A' l.length c') l.length (zah l)
     rw[Hln.out,hW3];exact zac Ho1.out (Fr.none_alloc _ _)
    ·show W3.ownsRow s _ 1 (.slice B' fl.length d') fl.length (zbg fl)
     rw[Hlm.out,hW3];exact zac Ho2.out (Fr.none_alloc _ _)
   have HP0:=q0_ hP0
   have hs3:s≤W3.heap.size:=by rw[hW3];simp;omega
   clear hP0 Ho1 Ho2 B2 F2 d1 BP F1 hW3
   go_loopw [67] (fun i wr=>∃ (k:Nat) (T:Option Addr) (ct:Nat) (tb:List (Nat×Nat)),k≤n∧i=.int .i64 k∧zcj wr t s (zfZ nm l now fl) A' c' B' d' T ct tb k∧Fr (fun j=>s≤j) W3 wr) (fun i _=>n-(intOf i).toNat)
   case atStart=>exact⟨0,none,0,[],Nat.zero_le _,rfl,HP0.out,Fr.refl _ _⟩
   case round=>
    obtain⟨k,T,ct,tb,hk,rfl,hp,hf⟩:=hrel;have Hf:Hid (Fr (fun j=>s≤j) W3 wr):=hf;have hsr:s≤wr.heap.size:=Nat.le_trans hs3 hf.size
    by_cases hlt:k<n
    ·obtain⟨ad,x,rfl,hxu,e0,e1,e2,e3⟩:=((Hr.out.fr0 F3.out).fr hf (fun j hj=>by have:=Hr.out.adlt (by decide) j hj;omega)).tier hlt
     have hmx:max x.every 1=x.every:=by have:=Hev.out x (zab hxu);omega
     have Hx:=q0_ hxu;have HP:=q0_ hp;clear hp hf hxu;go_wp2_with fail
     obtain⟨W1,hW1⟩:∃ W1,W1=wr.alloc (.cells #[.string x.name,.int .i64 x.every,.int .i64 x.keep,.int .i64 x.shards] 130):=⟨_,rfl⟩
     rw[← hW1];have hbx:Blk W1 wr.heap.size 130 #[.string x.name,.int .i64 x.every,.int .i64 x.keep,.int .i64 x.shards]:=hW1▸Blk.new _ _ _
     have hT:zcj W1 t s (zfZ nm l now fl) A' c' B' d' T ct tb k:=by rw[hW1];exact HP.out.fr0 (Fr.none_alloc _ _)
     have fF:Fr (fun j=>s≤j) W3 W1:=by rw[hW1];exact Hf.out.trans (Fr.none_alloc _ _) q4_
     have hs1:s≤W1.heap.size:=Nat.le_trans hs3 fF.size
     have HNw:Hid (Calls prog 82 #[.int .i64 x.every] W1.drew fun r w'=>(∃ g b,r=.returned (.pointer (some ⟨g,0,none⟩))∧zaw w' g x.every b []∧W1.heap.size≤g∧W1.heap.size≤b)∧Below W1.drew.heap.size W1.drew w'):=by
      have:=zfc x.every W1.drew;rw[hmx] at this;exact this
     have FD:Hid (Fr (fun _=>False) W1 W1.drew):=(Fr.refl _ W1).drew;have D1:W1.drew.cell? ⟨wr.heap.size,1,none⟩=some (.int .i64 x.every):=hbx.cell 1;have D2:W1.drew.cell? ⟨t,4,none⟩=some (.slice T k ct):=hT.blk.cell 4
     have HP5:Hid (∀ w5,Fr (fun _=>False) W1.drew w5→w5.cell? ⟨t,4,none⟩=some (.slice T k ct)∧s≤w5.heap.size):=fun w5 h=>⟨((hT.fr0 FD.out).fr0 h).blk.cell 4,Nat.le_trans hs1 h.size⟩
     have HM6:∀ w5,Fr (fun _=>False) W1.drew w5→∀ o T6 c6 w6,Mv (zaE (.slice T k ct)) (zaE (.slice T6 (k+1) c6)) (w5.alloc o) w6→Blk w6 t 69 _:=fun w5 h o T6 c6 w6 hm=>
      (((hT.fr0 FD.out).fr0 h).fr0 (Fr.none_alloc w5 o)).blk.fr hm.fr (fun hj=>zad (((hT.fr0 FD.out).fr0 h).fr0 (Fr.none_alloc w5 o)).row (((hT.fr0 FD.out).fr0 h).fr0 (Fr.none_alloc w5 o)).blk (by decide) hj)
     have HP6:Hid (∀ w5,Fr (fun _=>False) W1.drew w5→∀ o T6 c6 w6,Mv (zaE (.slice T k ct)) (zaE (.slice T6 (k+1) c6)) (w5.alloc o) w6→w6.cell? ⟨t,4,none⟩=some (.slice T k ct)):=fun w5 h o T6 c6 w6 hm=>(HM6 w5 h o T6 c6 w6 hm).cell 4;have HF6:Hid (∀ w5,Fr (fun _=>False) W1.drew w5→∀ o T6 c6 w6,Mv (zaE (.slice T k ct)) (zaE (.slice T6 (k+1) c6)) (w5.alloc o) w6→w6.frozen? ⟨t,4,none⟩=false):=fun w5 h o T6 c6 w6 hm=>(HM6 w5 h o T6 c6 w6 hm).frozen 4
     have HZ:Hid (∀ w5,Fr (fun _=>False) W1.drew w5→∀ o g b T6 c6 w6,zaw w5 g x.every b []→W1.heap.size≤g→W1.heap.size≤b→w6.ownsRow s 121 1 (.slice T6 (k+1) c6) (k+1) (zfY tb++[.pointer (some ⟨g,0,none⟩)])→Mv (zaE (.slice T k ct)) (zaE (.slice T6 (k+1) c6)) (w5.alloc o) w6→
       zcj (w6.setCell ⟨t,4,none⟩ (.slice T6 (k+1) c6)) t s (zfZ nm l now fl) A' c' B' d' T6 c6 (tb++[(g,b)]) (k+1)∧Fr (fun j=>s≤j) W3 (w6.setCell ⟨t,4,none⟩ (.slice T6 (k+1) c6))):=by
      intro w5 h o g b T6 c6 w6 ht hg hb ho hm;have q:=hT.snoc (FD.out.trans h q4_) hs1 hg hb (x:=x) (l:=[]) Hx.out (by show (l.map fun _=>([]:List zae))[k]? =_;rw[List.getElem?_map,Hx.out];rfl) ht o ho hm;exact⟨q.1,fF.trans q.2 (fun _ h=>.inl h)⟩
     have Hk:Hid (k+1≤maxLen∧(k+1)*8≤140737488355328):=⟨by unfold maxLen;omega,by omega⟩
     have HT:=q0_ hT;clear hT hbx fF HM6 hW1 HP Hf e0 e1 e2 e3 hmx;go_wp2_with fail;refine wp_region_any (by kernel_rfl) ?_;change wpAny _ _ _ _ _ _ _ (World.drew _);refine nl 0 ?v1 rfl ?q1 ?r1
     case q1=>intro W;go_simp;try rfl
     refine nl 1 ?v2 rfl ?q2 ?r2
     case q2=>intro W;go_simp;try rfl
     refine nl 2 ?v3 rfl ?q3 ?r3
     case q3=>intro W;go_simp;try rfl
     refine nl 3 ?v4 rfl ?q4 ?r4
     case q4=>intro W;go_simp;try rfl
     refine nl 5 ?v5 rfl ?q5 ?r5
     case q5=>intro W;go_simp;try rfl
     try simp only[Act.put,sA,sB,sC]
     refine wpAny_ready (rs:=[4,6]) (by kernel_rfl) (by simp) ?_;refine AllReady.cons (dg rfl) (fun K hK=>?_) ?_
     ·go_simp
      refine hK _ _ ?_;clear hK K
      try simp only[Act.put,sA,sB,sC]
      refine rn 6 rfl (fun K hK=>?_);go_simp;refine hK _ _ ?_;clear hK K
      try simp only[Act.put,sA,sB,sC]
      refine rn 7 rfl (fun K hK=>?_);go_simp
      go_wp2_with (go_at_call 82;refine HNw.out.mono ?_;rintro r w5 ⟨⟨g,b,rfl,g5⟩,b5⟩;have q5:=(HP5.out w5 (Fr.b0 b5)).1;have q5a:=fun o=>(HP5.out (w5.alloc o) ((Fr.b0 b5).trans (Fr.none_alloc w5 o) q4_)).1;try dsimp only)
      refine rn 8 rfl (fun K hK=>?_);go_simp;refine hK _ _ ?_;clear hK K
      try simp only[Act.put,sA,sB,sC]
      refine rn 9 rfl (fun K hK=>?_);rw[if_pos (by rfl)];refine zaU (.tmp 75) (.tmp 79) 67 rfl 121 i0 (.pointer none) 1 8 underlying67 hi hz0 hz1 hz2 rfl (by decide) (.slice T k ct) k _ rfl s (Nat.le_trans (HP5.out w5 (Fr.b0 b5)).2 (Fr.none_alloc w5 _).size) (zac (zac (zac HT.out.row (FD.out)) (Fr.b0 b5)) (Fr.none_alloc _ _)) (some ⟨w5.heap.size,0,none⟩) 1 1 [.pointer (some ⟨g,0,none⟩)] rfl (Rd.new w5 [.pointer (some ⟨g,0,none⟩)] _ 1 rfl) (by simp[Value.oneCell']) Hk.out.1 Hk.out.2 ?_;intro T6 c6 w6 ho6 hm6 _;have q6:=HP6.out w5 (Fr.b0 b5) _ _ _ _ hm6;have f6:=HF6.out w5 (Fr.b0 b5) _ _ _ _ hm6;have Hz:=q0_ (HZ.out w5 (Fr.b0 b5) _ _ _ _ _ _ g5.1 g5.2.1 g5.2.2 ho6 hm6);clear ho6 hm6 D1 D2;refine hK _ _ ?_;clear hK K;refine nl 10 ?v6 rfl ?q6 ?r6
      case q6=>intro W;go_simp;try rfl
      refine nl 11 ?v7 rfl ?q7 ?r7
      case q7=>intro W;go_simp;try rfl
      try simp only[Act.put,sA,sB,sC]
      refine rn 12 rfl (fun K hK=>?_);go_simp;refine hK _ _ ?_;clear hK K
      try simp only[Act.put,sA,sB,sC]
      refine wpAny_done (by kernel_rfl) ?_ _;go_wp2
      go_roundw
      case rel=>exact⟨k+1,T6,c6,_,by omega,by go_num,Hz.out.1,Hz.out.2⟩
      case measure=>simp[intOf];omega
     refine AllReady.cons (dg rfl) (fun K hK=>?_) ?_
     ·go_simp
      refine hK _ _ ?_;clear hK K
      try simp only[Act.put,sA,sB,sC]
      refine wpAny_ready (rs:=[4,7]) (by kernel_rfl) (by simp) ?_;refine AllReady.cons (dg rfl) (fun K hK=>?_) ?_
      ·go_simp
       refine hK _ _ ?_;clear hK K
       try simp only[Act.put,sA,sB,sC]
       refine rn 7 rfl (fun K hK=>?_);go_simp
       go_wp2_with (go_at_call 82;refine HNw.out.mono ?_;rintro r w5 ⟨⟨g,b,rfl,g5⟩,b5⟩;have q5:=(HP5.out w5 (Fr.b0 b5)).1;have q5a:=fun o=>(HP5.out (w5.alloc o) ((Fr.b0 b5).trans (Fr.none_alloc w5 o) q4_)).1;try dsimp only)
       refine rn 8 rfl (fun K hK=>?_);go_simp;refine hK _ _ ?_;clear hK K
       try simp only[Act.put,sA,sB,sC]
       refine rn 9 rfl (fun K hK=>?_);rw[if_pos (by rfl)];refine zaU (.tmp 75) (.tmp 79) 67 rfl 121 i0 (.pointer none) 1 8 underlying67 hi hz0 hz1 hz2 rfl (by decide) (.slice T k ct) k _ rfl s (Nat.le_trans (HP5.out w5 (Fr.b0 b5)).2 (Fr.none_alloc w5 _).size) (zac (zac (zac HT.out.row (FD.out)) (Fr.b0 b5)) (Fr.none_alloc _ _)) (some ⟨w5.heap.size,0,none⟩) 1 1 [.pointer (some ⟨g,0,none⟩)] rfl (Rd.new w5 [.pointer (some ⟨g,0,none⟩)] _ 1 rfl) (by simp[Value.oneCell']) Hk.out.1 Hk.out.2 ?_;intro T6 c6 w6 ho6 hm6 _;have q6:=HP6.out w5 (Fr.b0 b5) _ _ _ _ hm6;have f6:=HF6.out w5 (Fr.b0 b5) _ _ _ _ hm6;have Hz:=q0_ (HZ.out w5 (Fr.b0 b5) _ _ _ _ _ _ g5.1 g5.2.1 g5.2.2 ho6 hm6);clear ho6 hm6 D1 D2;refine hK _ _ ?_;clear hK K;refine nl 10 ?v8 rfl ?q8 ?r8
       case q8=>intro W;go_simp;try rfl
       refine nl 11 ?v9 rfl ?q9 ?r9
       case q9=>intro W;go_simp;try rfl
       try simp only[Act.put,sA,sB,sC]
       refine rn 12 rfl (fun K hK=>?_);go_simp;refine hK _ _ ?_;clear hK K
       try simp only[Act.put,sA,sB,sC]
       refine wpAny_done (by kernel_rfl) ?_ _;go_wp2
       go_roundw
       case rel=>exact⟨k+1,T6,c6,_,by omega,by go_num,Hz.out.1,Hz.out.2⟩
       case measure=>simp[intOf];omega
      refine AllReady.cons (dg rfl) (fun K hK=>?_) ?_
      ·go_simp
       go_wp2_with (go_at_call 82;refine HNw.out.mono ?_;rintro r w5 ⟨⟨g,b,rfl,g5⟩,b5⟩;have q5:=(HP5.out w5 (Fr.b0 b5)).1;have q5a:=fun o=>(HP5.out (w5.alloc o) ((Fr.b0 b5).trans (Fr.none_alloc w5 o) q4_)).1;try dsimp only)
       try simp only[Act.put,sA,sB,sC]
       refine wpAny_ready (rs:=[4,8]) (by kernel_rfl) (by simp) ?_;refine AllReady.cons (dg rfl) (fun K hK=>?_) ?_
       ·go_simp
        refine hK _ _ ?_;clear hK K
        try simp only[Act.put,sA,sB,sC]
        refine rn 8 rfl (fun K hK=>?_);go_simp;refine hK _ _ ?_;clear hK K
        try simp only[Act.put,sA,sB,sC]
        refine rn 9 rfl (fun K hK=>?_);rw[if_pos (by rfl)];refine zaU (.tmp 75) (.tmp 79) 67 rfl 121 i0 (.pointer none) 1 8 underlying67 hi hz0 hz1 hz2 rfl (by decide) (.slice T k ct) k _ rfl s (Nat.le_trans (HP5.out w5 (Fr.b0 b5)).2 (Fr.none_alloc w5 _).size) (zac (zac (zac HT.out.row (FD.out)) (Fr.b0 b5)) (Fr.none_alloc _ _)) (some ⟨w5.heap.size,0,none⟩) 1 1 [.pointer (some ⟨g,0,none⟩)] rfl (Rd.new w5 [.pointer (some ⟨g,0,none⟩)] _ 1 rfl) (by simp[Value.oneCell']) Hk.out.1 Hk.out.2 ?_;intro T6 c6 w6 ho6 hm6 _;have q6:=HP6.out w5 (Fr.b0 b5) _ _ _ _ hm6;have f6:=HF6.out w5 (Fr.b0 b5) _ _ _ _ hm6;have Hz:=q0_ (HZ.out w5 (Fr.b0 b5) _ _ _ _ _ _ g5.1 g5.2.1 g5.2.2 ho6 hm6);clear ho6 hm6 D1 D2;refine hK _ _ ?_;clear hK K;refine nl 10 ?v10 rfl ?q10 ?r10
        case q10=>intro W;go_simp;try rfl
        refine nl 11 ?v11 rfl ?q11 ?r11
        case q11=>intro W;go_simp;try rfl
        try simp only[Act.put,sA,sB,sC]
        refine rn 12 rfl (fun K hK=>?_);go_simp;refine hK _ _ ?_;clear hK K
        try simp only[Act.put,sA,sB,sC]
        refine wpAny_done (by kernel_rfl) ?_ _;go_wp2
        go_roundw
        case rel=>exact⟨k+1,T6,c6,_,by omega,by go_num,Hz.out.1,Hz.out.2⟩
        case measure=>simp[intOf];omega
       refine AllReady.cons (dg rfl) (fun K hK=>?_) ?_
       ·go_simp
        refine hK _ _ ?_;clear hK K
        try simp only[Act.put,sA,sB,sC]
        refine rn 4 rfl (fun K hK=>?_);go_simp;refine hK _ _ ?_;clear hK K
        try simp only[Act.put,sA,sB,sC]
        refine rn 9 rfl (fun K hK=>?_);rw[if_pos (by rfl)];refine zaU (.tmp 75) (.tmp 79) 67 rfl 121 i0 (.pointer none) 1 8 underlying67 hi hz0 hz1 hz2 rfl (by decide) (.slice T k ct) k _ rfl s (Nat.le_trans (HP5.out w5 (Fr.b0 b5)).2 (Fr.none_alloc w5 _).size) (zac (zac (zac HT.out.row (FD.out)) (Fr.b0 b5)) (Fr.none_alloc _ _)) (some ⟨w5.heap.size,0,none⟩) 1 1 [.pointer (some ⟨g,0,none⟩)] rfl (Rd.new w5 [.pointer (some ⟨g,0,none⟩)] _ 1 rfl) (by simp[Value.oneCell']) Hk.out.1 Hk.out.2 ?_;intro T6 c6 w6 ho6 hm6 _;have q6:=HP6.out w5 (Fr.b0 b5) _ _ _ _ hm6;have f6:=HF6.out w5 (Fr.b0 b5) _ _ _ _ hm6;have Hz:=q0_ (HZ.out w5 (Fr.b0 b5) _ _ _ _ _ _ g5.1 g5.2.1 g5.2.2 ho6 hm6);clear ho6 hm6 D1 D2;refine hK _ _ ?_;clear hK K;refine nl 10 ?v12 rfl ?q12 ?r12
        case q12=>intro W;go_simp;try rfl
        refine nl 11 ?v13 rfl ?q13 ?r13
        case q13=>intro W;go_simp;try rfl
        try simp only[Act.put,sA,sB,sC]
        refine rn 12 rfl (fun K hK=>?_);go_simp;refine hK _ _ ?_;clear hK K
        try simp only[Act.put,sA,sB,sC]
        refine wpAny_done (by kernel_rfl) ?_ _;go_wp2
        go_roundw
        case rel=>exact⟨k+1,T6,c6,_,by omega,by go_num,Hz.out.1,Hz.out.2⟩
        case measure=>simp[intOf];omega
       exact AllReady.nil
      exact AllReady.nil
     exact AllReady.nil
    ·obtain rfl:k=n:=by omega
     have Hp:=q0_ hp;clear hp hf;go_wp2
     go_ret2
     refine⟨⟨fun _=>⟨t,rfl,?_⟩,fun h=>absurd HE0.out h⟩,(F3.out.below q4_).trans (Hf.out.below_of F3.out.size (fun _ h=>Nat.le_trans hsw h))⟩;obtain rfl:l.length=k:=Hln.out;obtain⟨A1,c1,B1,d1,T1,ct1,tb1,q1,q2,q3,q4,q5,q6,q7,q8,q9⟩:=Hp.out.done (by show (l.map _).length=l.length;simp);exact⟨A1,c1,B1,d1,T1,ct1,tb1,q1,zaT q2 hsw,zaT q3 hsw,zaT q4 hsw,q5,q6,q7,fun p hp=>⟨Nat.le_trans hsw (q8 p hp).1,Nat.le_trans hsw (q8 p hp).2⟩,Nat.le_trans hsw q9⟩
theorem znf{w w1 w':World}(h1:Fr (fun _=>False) w w1)(h2:Fr (fun j=>w.heap.size≤j) w1 w'):Fr (fun _=>False) w w':=h1.trans h2 (fun _ h=>.inr h)
theorem znL(t base:Nat)(X:zaa)(w:World)(h:zbw w t base X)(hn:X.tiers.length≤1099511627776)(hm:X.floors.length≤1099511627776):
  Calls prog 42 #[.pointer (some ⟨t,0,none⟩)] w fun r w'=>(∃ t',r=.returned (.pointer (some ⟨t',0,none⟩))∧zbw w' t' w.heap.size X)∧Below w.heap.size w w':=by
 obtain⟨A,c,B,d,T0,ct0,tb0,hin⟩:=h
 have HOf:Hid (∀ w',Fr (fun _=>False) w w'→Calls prog 81 #[.agg #[.string X.name,.slice A X.tiers.length c],.int .i64 X.now,.slice B X.floors.length d] w' fun r w''=>(∃ A' c' B' d',r=.returned (.agg #[.int .i64 X.now,.string X.name,.slice A' X.tiers.length c',.slice B' X.floors.length d'])∧w''.ownsRow w.heap.size 130 4 (.slice A' X.tiers.length c') X.tiers.length (zah X.tiers)∧w''.ownsRow w.heap.size 3 1 (.slice B' X.floors.length d') X.floors.length (zbg X.floors)∧w.heap.size≤w''.heap.size)∧Below w'.heap.size w' w''):=
  fun w' h=>by
   refine (of_own X.name X.tiers A X.tiers.length c X.now X.floors B X.floors.length d w' ((zat hin.tiers).2.2.1.fr0 h) hn ((zat hin.floors).2.2.1.fr0 h) hm).mono ?_;rintro r w'' ⟨⟨A',c',B',d',e,h1,h2⟩,b⟩;exact⟨⟨A',c',B',d',e,zaT h1 h.size,zaT h2 h.size,Nat.le_trans h.size b.size⟩,b⟩
 have Hin:=q0_ hin
 have HC:Hid (∀ W,Fr (fun _=>False) w W→W.cell? ⟨t,0,none⟩=some (.int .i64 X.now)∧W.cell? ⟨t,1,none⟩=some (.string X.name)∧W.cell? ⟨t,2,none⟩=some (.slice A X.tiers.length c)∧W.cell? ⟨t,3,none⟩=some (.slice B X.floors.length d)∧W.cell? ⟨t,4,none⟩=some (.slice T0 X.tiers.length ct0)):=fun W f=>⟨(hin.blk.fr f (fun h=>h)).cell 0,(hin.blk.fr f (fun h=>h)).cell 1,(hin.blk.fr f (fun h=>h)).cell 2,(hin.blk.fr f (fun h=>h)).cell 3,(hin.blk.fr f (fun h=>h)).cell 4⟩
 clear hin;obtain⟨i0,hi,hz0,hz1,hz2⟩:=info_parts zgR;go_enter func42,ntmps42;go_wp2_with fail;refine wp_region_held_drew (S:=fun W=>Fr (fun _=>False) w W) (by kernel_rfl) ((Fr.refl _ w).drew) (fun hY_=>?_);refine tq 15 [0,1,2,3,4,5,6,7,8,9,10,11,12,13,14] ?_
 iterate 14 refine sf HC.out ?_
 refine sf HC.out ?_
 try simp only[Act.put,sA,sB,sC]
 refine sz ?_
 try simp only[Act.put,sA,sB,sC]
 refine rl 15 rfl (fun K hK=>?_);go_simp
 go_wp2_with (go_at_call 81;refine (HOf.out _ hY_).mono ?_;rintro r w2 ⟨⟨A',c',B',d',rfl,ho1,ho2,hsz⟩,b2⟩)
 have Ho1:=q0_ ho1;have Ho2:=q0_ ho2;clear ho1 ho2;refine hK.out _ _ (hY_.trans (Fr.b0 b2) q4_) (fun hY_=>?_);clear hK K;refine tl 16 ?v16 rfl ?q16 ?r16
 case q16=>intro W hSw;(try obtain⟨a0,a1,a2,a3,a4⟩:=HC.out W hSw);go_simp;try rfl
 try simp only[Act.put,sA,sB,sC]
 refine rl 17 rfl (fun K hK=>?_);go_simp;refine hK.out _ _ (hY_.trans (Fr.none_alloc _ _) q4_) (fun hY_=>?_);clear hK K;refine tl 18 ?v17 rfl ?q17 ?r17
 case q17=>intro W hSw;(try obtain⟨a0,a1,a2,a3,a4⟩:=HC.out W hSw);go_simp;try rfl
 try simp only[Act.put,sA,sB,sC]
 refine wpAnyH_done (by kernel_rfl) ?_ _
 obtain⟨t',htd⟩:∃ t',w2.heap.size=t':=⟨_,rfl⟩
 obtain⟨W3,hW3⟩:∃ W3,W3=w2.alloc (.cells #[.int .i64 X.now,.string X.name,.slice A' X.tiers.length c',.slice B' X.floors.length d',.slice none 0 0] 69):=⟨_,rfl⟩
 simp only[htd]
 try rw[← hW3] at hY_ ⊢
 have F3:=q0_ hY_;have hs3:w.heap.size≤W3.heap.size:=hY_.size
 have hP0:zcj W3 t' w.heap.size X A' c' B' d' none 0 [] 0:=by
  have hb:Blk W3 t' 69 #[.int .i64 X.now,.string X.name,.slice A' X.tiers.length c',.slice B' X.floors.length d',.slice none 0 0]:=by rw[hW3];exact Blk.new' htd.symm _ _
  exact⟨hb,by rw[hW3];exact zac Ho1.out (Fr.none_alloc _ _),by rw[hW3];exact zac Ho2.out (Fr.none_alloc _ _),World.ownsRow_nil _ _ _ _,fun i p x l h=>by simp at h,fun p hp=>by simp at hp,by simp,fun p hp=>by simp at hp,by omega⟩
 have HP0:=q0_ hP0;obtain⟨a0,a1,a2,a3,a4⟩:=HC.out W3 F3.out
 obtain⟨s,hs⟩:∃ s,w.heap.size=s:=⟨_,rfl⟩
 rw[hs] at HP0 hs3;clear hP0 Ho1 Ho2 hY_ hW3 HOf b2 hsz htd;go_wp2_with fail
 go_loopw [31] (fun i wr=>∃ (k:Nat) (T:Option Addr) (ct:Nat) (tb:List (Nat×Nat)),k≤X.tiers.length∧i=.int .i64 k∧zcj wr t' s X A' c' B' d' T ct tb k∧Fr (fun j=>s≤j) W3 wr) (fun i _=>X.tiers.length-(intOf i).toNat)
 case atStart=>exact⟨0,none,0,[],Nat.zero_le _,rfl,HP0.out,Fr.refl _ _⟩
 case round=>
  obtain⟨k,T,ct,tb,hk,rfl,hp,hf⟩:=hrel;have FW:Hid (Fr (fun _=>False) w wr):=znf F3.out (by rw[hs];exact hf);have Hf:Hid (Fr (fun j=>s≤j) W3 wr):=hf;clear a0 a1 a2 a3 a4
  by_cases hlt:k<X.tiers.length
  ·obtain⟨g,b,x,l,h1,h2,h3,hT0⟩:=(Hin.out.fr0 FW.out).tabAt hlt
   obtain⟨ad,e,hc⟩:=(zat (Hin.out.fr0 FW.out).row).2.2.1.2 (by omega);subst e;have p0:=hc k _ (zcq h1);have hs1:s≤wr.heap.size:=Nat.le_trans hs3 hf.size
   have kn:0≤(k:Int)∧(k:Int)<(X.tiers.length:Int):=by omega
   have HNw:Hid (Calls prog 86 #[.pointer (some ⟨g,0,none⟩)] wr.drew fun r w'=>(∃ g' b',r=.returned (.pointer (some ⟨g',0,none⟩))∧zaw w' g' x.every b' l∧wr.heap.size≤g'∧wr.heap.size≤b')∧Below wr.drew.heap.size wr.drew w'):=zei g x.every b l wr.drew (hT0.fr0 (Fr.refl _ wr).drew);have FD:Hid (Fr (fun _=>False) wr wr.drew):=(Fr.refl _ wr).drew;have D2:wr.drew.cell? ⟨t',4,none⟩=some (.slice T k ct):=hp.blk.cell 4
   have HP5:Hid (∀ w5,Fr (fun _=>False) wr.drew w5→w5.cell? ⟨t',4,none⟩=some (.slice T k ct)∧s≤w5.heap.size):=fun w5 h=>⟨((hp.fr0 FD.out).fr0 h).blk.cell 4,Nat.le_trans hs1 h.size⟩
   have HM6:∀ w5,Fr (fun _=>False) wr.drew w5→∀ o T6 c6 w6,Mv (zaE (.slice T k ct)) (zaE (.slice T6 (k+1) c6)) (w5.alloc o) w6→Blk w6 t' 69 _:=fun w5 h o T6 c6 w6 hm=>
    (((hp.fr0 FD.out).fr0 h).fr0 (Fr.none_alloc w5 o)).blk.fr hm.fr (fun hj=>zad (((hp.fr0 FD.out).fr0 h).fr0 (Fr.none_alloc w5 o)).row (((hp.fr0 FD.out).fr0 h).fr0 (Fr.none_alloc w5 o)).blk (by decide) hj)
   have HP6:Hid (∀ w5,Fr (fun _=>False) wr.drew w5→∀ o T6 c6 w6,Mv (zaE (.slice T k ct)) (zaE (.slice T6 (k+1) c6)) (w5.alloc o) w6→w6.cell? ⟨t',4,none⟩=some (.slice T k ct)):=fun w5 h o T6 c6 w6 hm=>(HM6 w5 h o T6 c6 w6 hm).cell 4;have HF6:Hid (∀ w5,Fr (fun _=>False) wr.drew w5→∀ o T6 c6 w6,Mv (zaE (.slice T k ct)) (zaE (.slice T6 (k+1) c6)) (w5.alloc o) w6→w6.frozen? ⟨t',4,none⟩=false):=fun w5 h o T6 c6 w6 hm=>(HM6 w5 h o T6 c6 w6 hm).frozen 4
   have HZ:Hid (∀ w5,Fr (fun _=>False) wr.drew w5→∀ o g b T6 c6 w6,zaw w5 g x.every b l→wr.heap.size≤g→wr.heap.size≤b→w6.ownsRow s 121 1 (.slice T6 (k+1) c6) (k+1) (zfY tb++[.pointer (some ⟨g,0,none⟩)])→Mv (zaE (.slice T k ct)) (zaE (.slice T6 (k+1) c6)) (w5.alloc o) w6→
     zcj (w6.setCell ⟨t',4,none⟩ (.slice T6 (k+1) c6)) t' s X A' c' B' d' T6 c6 (tb++[(g,b)]) (k+1)∧Fr (fun j=>s≤j) W3 (w6.setCell ⟨t',4,none⟩ (.slice T6 (k+1) c6))):=by
    intro w5 h o g b T6 c6 w6 ht hg hb ho hm;have q:=hp.snoc (FD.out.trans h q4_) hs1 hg hb (x:=x) (l:=l) h2 h3 ht o ho hm;exact⟨q.1,Hf.out.trans q.2 (fun _ h=>.inl h)⟩
   have Hk:Hid (k+1≤maxLen∧(k+1)*8≤140737488355328):=⟨by unfold maxLen;omega,by omega⟩
   have HT:=q0_ hp;clear hp hf HM6 hc hT0 h1 h2 h3;go_wp2_with fail;refine wp_region_any (by kernel_rfl) ?_;change wpAny _ _ _ _ _ _ _ (World.drew _);refine nl 0 ?v18 rfl ?q18 ?r18
   case q18=>intro W;go_simp;try rfl
   refine nl 1 ?v19 rfl ?q19 ?r19
   case q19=>intro W;go_simp;try rfl
   refine nl 2 ?v20 rfl ?q20 ?r20
   case q20=>intro W;go_simp;try rfl
   refine nl 3 ?v21 rfl ?q21 ?r21
   case q21=>intro W;go_simp;try rfl
   refine nl 5 ?v22 rfl ?q22 ?r22
   case q22=>intro W;go_simp;try rfl
   try simp only[Act.put,sA,sB,sC]
   refine wpAny_ready (rs:=[4,6]) (by kernel_rfl) (by simp) ?_;refine AllReady.cons (dg rfl) (fun K hK=>?_) ?_
   ·go_simp
    refine hK _ _ ?_;clear hK K
    try simp only[Act.put,sA,sB,sC]
    refine rn 6 rfl (fun K hK=>?_);go_simp
    go_wp2_with (go_at_call 86;refine HNw.out.mono ?_;rintro r w5 ⟨⟨g',b',rfl,g5⟩,b5⟩;have q5:=(HP5.out w5 (Fr.b0 b5)).1;have q5a:=fun o=>(HP5.out (w5.alloc o) ((Fr.b0 b5).trans (Fr.none_alloc w5 o) q4_)).1;try dsimp only)
    refine rn 7 rfl (fun K hK=>?_);go_simp;refine hK _ _ ?_;clear hK K
    try simp only[Act.put,sA,sB,sC]
    refine rn 8 rfl (fun K hK=>?_);rw[if_pos (by rfl)];refine zaU (.tmp 39) (.tmp 42) 67 rfl 121 i0 (.pointer none) 1 8 underlying67 hi hz0 hz1 hz2 rfl (by decide) (.slice T k ct) k _ rfl s (Nat.le_trans (HP5.out w5 (Fr.b0 b5)).2 (Fr.none_alloc w5 _).size) (zac (zac (zac HT.out.row (FD.out)) (Fr.b0 b5)) (Fr.none_alloc _ _)) (some ⟨w5.heap.size,0,none⟩) 1 1 [.pointer (some ⟨g',0,none⟩)] rfl (Rd.new w5 [.pointer (some ⟨g',0,none⟩)] _ 1 rfl) (by simp[Value.oneCell']) Hk.out.1 Hk.out.2 ?_;intro T6 c6 w6 ho6 hm6 _;have q6:=HP6.out w5 (Fr.b0 b5) _ _ _ _ hm6;have f6:=HF6.out w5 (Fr.b0 b5) _ _ _ _ hm6;have Hz:=q0_ (HZ.out w5 (Fr.b0 b5) _ _ _ _ _ _ g5.1 g5.2.1 g5.2.2 ho6 hm6);clear ho6 hm6 D2;refine hK _ _ ?_;clear hK K;refine nl 9 ?v23 rfl ?q23 ?r23
    case q23=>intro W;go_simp;try rfl
    refine nl 10 ?v24 rfl ?q24 ?r24
    case q24=>intro W;go_simp;try rfl
    try simp only[Act.put,sA,sB,sC]
    refine rn 11 rfl (fun K hK=>?_);go_simp;refine hK _ _ ?_;clear hK K
    try simp only[Act.put,sA,sB,sC]
    refine wpAny_done (by kernel_rfl) ?_ _;go_wp2
    go_roundw
    case rel=>exact⟨k+1,T6,c6,_,by omega,by go_num,Hz.out.1,Hz.out.2⟩
    case measure=>simp[intOf];omega
   refine AllReady.cons (dg rfl) (fun K hK=>?_) ?_
   ·go_simp
    go_wp2_with (go_at_call 86;refine HNw.out.mono ?_;rintro r w5 ⟨⟨g',b',rfl,g5⟩,b5⟩;have q5:=(HP5.out w5 (Fr.b0 b5)).1;have q5a:=fun o=>(HP5.out (w5.alloc o) ((Fr.b0 b5).trans (Fr.none_alloc w5 o) q4_)).1;try dsimp only)
    try simp only[Act.put,sA,sB,sC]
    refine wpAny_ready (rs:=[4,7]) (by kernel_rfl) (by simp) ?_;refine AllReady.cons (dg rfl) (fun K hK=>?_) ?_
    ·go_simp
     refine hK _ _ ?_;clear hK K
     try simp only[Act.put,sA,sB,sC]
     refine rn 7 rfl (fun K hK=>?_);go_simp;refine hK _ _ ?_;clear hK K
     try simp only[Act.put,sA,sB,sC]
     refine rn 8 rfl (fun K hK=>?_);rw[if_pos (by rfl)];refine zaU (.tmp 39) (.tmp 42) 67 rfl 121 i0 (.pointer none) 1 8 underlying67 hi hz0 hz1 hz2 rfl (by decide) (.slice T k ct) k _ rfl s (Nat.le_trans (HP5.out w5 (Fr.b0 b5)).2 (Fr.none_alloc w5 _).size) (zac (zac (zac HT.out.row (FD.out)) (Fr.b0 b5)) (Fr.none_alloc _ _)) (some ⟨w5.heap.size,0,none⟩) 1 1 [.pointer (some ⟨g',0,none⟩)] rfl (Rd.new w5 [.pointer (some ⟨g',0,none⟩)] _ 1 rfl) (by simp[Value.oneCell']) Hk.out.1 Hk.out.2 ?_;intro T6 c6 w6 ho6 hm6 _;have q6:=HP6.out w5 (Fr.b0 b5) _ _ _ _ hm6;have f6:=HF6.out w5 (Fr.b0 b5) _ _ _ _ hm6;have Hz:=q0_ (HZ.out w5 (Fr.b0 b5) _ _ _ _ _ _ g5.1 g5.2.1 g5.2.2 ho6 hm6);clear ho6 hm6 D2;refine hK _ _ ?_;clear hK K;refine nl 9 ?v25 rfl ?q25 ?r25
     case q25=>intro W;go_simp;try rfl
     refine nl 10 ?v26 rfl ?q26 ?r26
     case q26=>intro W;go_simp;try rfl
     try simp only[Act.put,sA,sB,sC]
     refine rn 11 rfl (fun K hK=>?_);go_simp;refine hK _ _ ?_;clear hK K
     try simp only[Act.put,sA,sB,sC]
     refine wpAny_done (by kernel_rfl) ?_ _;go_wp2
     go_roundw
     case rel=>exact⟨k+1,T6,c6,_,by omega,by go_num,Hz.out.1,Hz.out.2⟩
     case measure=>simp[intOf];omega
    refine AllReady.cons (dg rfl) (fun K hK=>?_) ?_
    ·go_simp
     refine hK _ _ ?_;clear hK K
     try simp only[Act.put,sA,sB,sC]
     refine rn 4 rfl (fun K hK=>?_);go_simp;refine hK _ _ ?_;clear hK K
     try simp only[Act.put,sA,sB,sC]
     refine rn 8 rfl (fun K hK=>?_);rw[if_pos (by rfl)];refine zaU (.tmp 39) (.tmp 42) 67 rfl 121 i0 (.pointer none) 1 8 underlying67 hi hz0 hz1 hz2 rfl (by decide) (.slice T k ct) k _ rfl s (Nat.le_trans (HP5.out w5 (Fr.b0 b5)).2 (Fr.none_alloc w5 _).size) (zac (zac (zac HT.out.row (FD.out)) (Fr.b0 b5)) (Fr.none_alloc _ _)) (some ⟨w5.heap.size,0,none⟩) 1 1 [.pointer (some ⟨g',0,none⟩)] rfl (Rd.new w5 [.pointer (some ⟨g',0,none⟩)] _ 1 rfl) (by simp[Value.oneCell']) Hk.out.1 Hk.out.2 ?_;intro T6 c6 w6 ho6 hm6 _;have q6:=HP6.out w5 (Fr.b0 b5) _ _ _ _ hm6;have f6:=HF6.out w5 (Fr.b0 b5) _ _ _ _ hm6;have Hz:=q0_ (HZ.out w5 (Fr.b0 b5) _ _ _ _ _ _ g5.1 g5.2.1 g5.2.2 ho6 hm6);clear ho6 hm6 D2;refine hK _ _ ?_;clear hK K;refine nl 9 ?v27 rfl ?q27 ?r27
     case q27=>intro W;go_simp;try rfl
     refine nl 10 ?v28 rfl ?q28 ?r28
     case q28=>intro W;go_simp;try rfl
     try simp only[Act.put,sA,sB,sC]
     refine rn 11 rfl (fun K hK=>?_);go_simp;refine hK _ _ ?_;clear hK K
     try simp only[Act.put,sA,sB,sC]
     refine wpAny_done (by kernel_rfl) ?_ _;go_wp2
     go_roundw
     case rel=>exact⟨k+1,T6,c6,_,by omega,by go_num,Hz.out.1,Hz.out.2⟩
     case measure=>simp[intOf];omega
    exact AllReady.nil
   exact AllReady.nil
  ·obtain rfl:k=X.tiers.length:=by omega
   have Hp:=q0_ hp;clear hp hf;go_wp2;go_ret;exact⟨⟨t',rfl,by rw[hs];exact Hp.out.done Hin.out.tlen⟩,FW.out.below q4_⟩
def zef(X:zaa)(l:List zas):Int:=
 match l.find? fun s=>decide (zbP X.now X.tiers X.floors s≠0) with
 | some s=>zbP X.now X.tiers X.floors s
 | none=>0
def zfR(X:zaa)(l:List zas):Int:=if l.length=0 then 1 else if 8<l.length then 2 else zef X l
def zcd(X:zaa)(s:zas)(k:Nat)(l:List zae):List zae:=
 match X.tiers[k]? with
 | some x=>if (zbW X.now X.tiers X.floors k s.time).2 then zb0 x.every l ⟨s.name,(zbW X.now X.tiers X.floors k s.time).1,zbd s.value⟩ else l
 | none=>l
def ze1(X:zaa)(tabs:List (List zae))(s:zas):List (List zae):=(List.range X.tiers.length).map fun k=>zcd X s k (tabs.getD k [])
def zcp(X:zaa)(tabs:List (List zae))(l:List zas):List (List zae):=l.foldl (ze1 X) tabs
def za4(X:zaa)(l:List zas):zaa:=if zfR X l=0 then {X with tabs:=zcp X X.tabs l} else X
theorem zmy(X:zaa)(tabs:List (List zae))(l:List zas)(s:zas):zcp X tabs (l++[s])=ze1 X (zcp X tabs l) s:=by unfold zcp;rw[List.foldl_append];rfl
theorem zkS(mg:Option zaL→zaL→zaL)(l:List zae)(r:zae):(zcx mg l r).length≤l.length+1:=by
 induction l with
 | nil=>simp[zcx]
 | cons x l ih=>
  unfold zcx
  split
  ·simp;exact ih
  ·split<;>simp
theorem zg3(every:Int)(l:List zae)(r:zae):(zb0 every l r).length≤l.length+1:=by
 unfold zb0
 split
 ·exact zkS _ _ _
 ·omega
theorem ziS(X:zaa)(s:zas)(k:Nat)(l:List zae):(zcd X s k l).length≤l.length+1:=by
 unfold zcd
 split
 ·split
  ·exact zg3 _ _ _
  ·omega
 ·omega
theorem zeR{L:List (List zae)}{c:Nat}(h:∀ m∈L,m.length≤c)(k:Nat):(L.getD k []).length≤c:=by
 rw[List.getD_eq_getElem?_getD]
 cases hk:L[k]? with
 | none=>simp
 | some m=>exact h m (List.mem_of_getElem? hk)
theorem zqR{X:zaa}{tabs:List (List zae)}{c:Nat}(s:zas)(h:∀ m∈tabs,m.length≤c):∀ m∈ze1 X tabs s,m.length≤c+1:=by
 intro m hm;unfold ze1 at hm;obtain⟨k,_,rfl⟩:=List.mem_map.1 hm;have h1:=ziS X s k (tabs.getD k []);have h2:=zeR h k;omega
theorem zja{X:zaa}:∀ (l:List zas) {tabs:List (List zae)} {c:Nat},(∀ m∈tabs,m.length≤c)→∀ m∈zcp X tabs l,m.length≤c+l.length
 | [],_,_,h=>by simpa[zcp] using h
 | s::l,tabs,c,h=>fun m hm=>by
  have:=zja (X:=X) l (zqR (X:=X) s h) m hm;rw[List.length_cons];omega
theorem zif{α:Type}{L:List α}{k:Nat}{y:α}(h:L[k]? =some y):L.set k y=L:=by
 apply List.ext_getElem?
 intro i
 by_cases e:k=i
 ·subst e
  rw[h,List.getElem?_set_self (List.getElem?_eq_some_iff.1 h).1]
 ·rw[List.getElem?_set_ne e]
theorem zgW{X:zaa}{l:List zas}(h:∀ s∈l,zbP X.now X.tiers X.floors s=0):zef X l=0:=by
 unfold zef;rw[List.find?_eq_none.2 (fun s hs=>by simp[h s hs])]
theorem zoS{X:zaa}{l:List zas}{k:Nat}{s:zas}(hk:l[k]? =some s)(hz:zbP X.now X.tiers X.floors s≠0)(hb:∀ j,j<k→∀ y,l[j]? =some y→zbP X.now X.tiers X.floors y=0):zef X l=zbP X.now X.tiers X.floors s:=by
 have:l.find? (fun s=>decide (zbP X.now X.tiers X.floors s≠0))=some s:=by
  have hkl:=(List.getElem?_eq_some_iff.1 hk)
  rw[List.find?_eq_some_iff_getElem];refine⟨by simpa using hz,k,hkl.1,hkl.2,fun j hj=>?_⟩;have:=hb j hj _ (q6_ (Nat.lt_trans hj hkl.1));simp[this]
 unfold zef;rw[this]
theorem zjY{v:Int}(hv:zbh v):(zbd v).wf:=by
 unfold zbh at hv;unfold zbd zaL.wf zbh;refine⟨by simp,?_,?_,hv,hv⟩
 ·simp only;omega
 ·simp only;omega
theorem zpI(t base:Nat)(X:zaa)(F:Nat→Prop)(l:List zas)(A1:Option Addr)(n1 c1:Nat)(w:World)(h:zaJ w t base X F)(h0:0<X.tiers.length)(hn:X.tiers.length≤1000)(hl:∀ m∈X.tabs,m.length≤1000000)(hnow:0≤X.now∧X.now≤1099511627776)(hwf:∀ x∈X.tiers,x.wf)(hr:Rd w 3 A1 n1 (zdz l))(hsw:∀ s∈l,s.wf):
  Calls prog 43 #[.pointer (some ⟨t,0,none⟩),.slice A1 n1 c1] w fun r w'=>r=.returned (.int .i64 (zfR X l))∧zaJ w' t base (za4 X l) F∧Fr (fun j=>F j∧∃ es ck,w.heap[j]? =some (.map es ck)) w w':=by
 have HN:=q0_ (zeA t base X w h.at_ h0);have HT:=q0_ h;obtain⟨A,c,B,d,T,ct,tb,hi,rfl⟩:=h;have c4:=hi.blk.cell 4;simp only[q1_,q2_,q3_] at c4;have Hi:=q0_ hi;have Hr:=q0_ hr;have Hln:=q0_ hr.samps_len;have Hsw:=q0_ hsw;have Hwf:=q0_ hwf;have Hl:=q0_ hl;have HM:Hid (∀ j,tM tb j→∃ es ck,w.heap[j]? =some (.map es ck)):=fun j hj=>(hi.map_ hj).2.2
 have hn64:i64 X.now:=by unfold i64;omega
 have hRV:zbL X.now X.name A X.tiers.length c B X.floors.length d=.agg #[.int .i64 X.now,.string X.name,.slice A X.tiers.length c,.slice B X.floors.length d]:=rfl
 have HTk0:Hid (∀ (s:zas),s∈l→∀ W,Fr (fun _=>False) w W→Calls prog 87 #[.agg #[.int .i64 X.now,.string X.name,.slice A X.tiers.length c,.slice B X.floors.length d],.agg #[.string s.name,.int .i64 s.time,.int .i64 s.value]] W fun r w'=>r=.returned (.int .i64 (zbP X.now X.tiers X.floors s))∧Below W.heap.size W w'):=fun s hs W hf=>by
  have hi':=Hi.out.fr0 hf;exact znN X.now hn64 X.name X.tiers A X.tiers.length c X.floors B X.floors.length d s (Hsw.out s hs).2.2 W (zat hi'.tiers).2.2.1 (zat hi'.floors).2.2.1 Hwf.out (by omega)
 have HSt0:Hid (∀ (s:zas),s∈l→∀ (k:Nat) (W:World) (tabs:List (List zae)),zaO W t base {X with tabs:=tabs} A c B d T ct tb→Calls prog 88 #[.agg #[.int .i64 X.now,.string X.name,.slice A X.tiers.length c,.slice B X.floors.length d],.int .i64 k,.int .i64 s.time] W fun r w'=>r=.returned (.tuple #[.int .i64 (zbW X.now X.tiers X.floors k s.time).1,.bool (zbW X.now X.tiers X.floors k s.time).2])∧Below W.heap.size W w'):=fun s hs k W tabs hi'=>by
  exact znX X.now hn64 X.name X.tiers A X.tiers.length c X.floors B X.floors.length d k s.time (Hsw.out s hs).1 W (zat hi'.tiers).2.2.1 (zat hi'.floors).2.2.1 Hwf.out (by omega)
 clear hi hr hsw hwf hl hRV
 obtain⟨E,hE⟩:∃ E,zfR X l=E:=⟨_,rfl⟩
 obtain⟨Z,hZ⟩:∃ Z,za4 X l=Z:=⟨_,rfl⟩
 have HE:=q0_ hE
 have HZ:Hid (Z=if E=0 then {X with tabs:=zcp X X.tabs l} else X):=by show _=_;rw[← hZ, ← hE];rfl
 rw[hE,hZ];clear hE hZ
 by_cases hz0:n1=0
 ·subst hz0
  have hE1:E=1:=by rw[← HE.out];unfold zfR;rw[Hln.out,if_pos rfl]
  subst hE1;have HZ2:Hid (Z=X):=HZ.out;go_enter func43,ntmps43;go_wp2_with fail;refine HN.out.mono ?_;rintro r w' ⟨rfl,rfl⟩;go_wp2;go_ret;exact⟨rfl,by rw[HZ2.out];exact HT.out,Fr.refl _ _⟩
 have hz1:((n1:Int)==0)=false:=by simp;omega
 have hz2:(n1==0)=false:=by simp;omega
 by_cases hb8:8<n1
 ·have hd1:decide ((8:Int)<(n1:Int))=true:=qa_ (by omega)
  have hd2:decide (8<n1)=true:=qa_ hb8
  have hE1:E=2:=by rw[← HE.out];unfold zfR;rw[Hln.out,if_neg hz0,if_pos hb8]
  subst hE1;have HZ2:Hid (Z=X):=HZ.out;go_enter func43,ntmps43;go_wp2_with fail;refine HN.out.mono ?_;rintro r w' ⟨rfl,rfl⟩;go_wp2;go_ret;exact⟨rfl,by rw[HZ2.out];exact HT.out,Fr.refl _ _⟩
 have hd1:decide ((8:Int)<(n1:Int))=false:=q9_ (by omega);have hd2:decide (8<n1)=false:=q9_ hb8
 have HE2:Hid (zef X l=E):=by show _=_;rw[← HE.out];unfold zfR;rw[Hln.out,if_neg hz0,if_neg hb8]
 go_enter func43,ntmps43;go_wp2_with fail;refine HN.out.mono ?_;rintro r w' ⟨rfl,rfl⟩;go_wp2_with fail;clear c4
 go_loopw [28] (fun i wr=>∃ k:Nat,k≤n1∧i=.int .i64 k∧Fr (fun _=>False) w wr∧∀ j,j<k→∀ y,l[j]? =some y→zbP X.now X.tiers X.floors y=0) (fun i _=>n1-(intOf i).toNat)
 case atStart=>exact⟨0,Nat.zero_le _,rfl,Fr.refl _ _,fun j hj=>absurd hj (by omega)⟩
 case round=>
  obtain⟨k,hk,rfl,hf,hall⟩:=hrel;have Hf:=q0_ hf;have Hall:=q0_ hall;clear hf hall
  by_cases hlt:k<n1
  ·obtain⟨ad,s,rfl,hs,d0,d1,d2⟩:=(Hr.out.fr0 Hf.out).samp_ hlt
   have Hs:=q0_ hs
   have kn:0≤(k:Int)∧(k:Int)<(n1:Int):=by omega
   clear hs;go_wp2_with fail
   obtain⟨W1,hW1⟩:∃ W1,W1=wr.alloc (.cells #[.string s.name,.int .i64 s.time,.int .i64 s.value] 84):=⟨_,rfl⟩
   rw[← hW1];have hbx:Blk W1 wr.heap.size 84 #[.string s.name,.int .i64 s.time,.int .i64 s.value]:=hW1▸Blk.new _ _ _
   have F1:Hid (Fr (fun _=>False) w W1):=by show Fr _ _ _;rw[hW1];exact Hf.out.trans (Fr.none_alloc _ _) q4_
   have hbt:=(Hi.out.fr0 F1.out).blk
   have HC:Hid (∀ W,Fr (fun _=>False) W1 W→W.cell? ⟨t,0,none⟩=some (.int .i64 X.now)∧W.cell? ⟨t,1,none⟩=some (.string X.name)∧W.cell? ⟨t,2,none⟩=some (.slice A X.tiers.length c)∧W.cell? ⟨t,3,none⟩=some (.slice B X.floors.length d)∧W.cell? ⟨wr.heap.size,0,none⟩=some (.string s.name)∧W.cell? ⟨wr.heap.size,1,none⟩=some (.int .i64 s.time)∧W.cell? ⟨wr.heap.size,2,none⟩=some (.int .i64 s.value)):=fun W f=>⟨(hbt.fr f (fun h=>h)).cell 0,(hbt.fr f (fun h=>h)).cell 1,(hbt.fr f (fun h=>h)).cell 2,(hbt.fr f (fun h=>h)).cell 3,(hbx.fr f (fun h=>h)).cell 0,(hbx.fr f (fun h=>h)).cell 1,(hbx.fr f (fun h=>h)).cell 2⟩
   have HTk:Hid (∀ W,Fr (fun _=>False) W1 W→Calls prog 87 #[.agg #[.int .i64 X.now,.string X.name,.slice A X.tiers.length c,.slice B X.floors.length d],.agg #[.string s.name,.int .i64 s.time,.int .i64 s.value]] W fun r w'=>r=.returned (.int .i64 (zbP X.now X.tiers X.floors s))∧Below W.heap.size W w'):=fun W f=>HTk0.out s (zab Hs.out) W (F1.out.trans f q4_)
   obtain⟨tv,htv⟩:∃ tv,zbP X.now X.tiers X.floors s=tv:=⟨_,rfl⟩
   have Htv:=q0_ htv;rw[htv] at HTk;clear hbx hbt hW1 htv d0 d1 d2;refine wp_region_held_drew (S:=fun W=>Fr (fun _=>False) W1 W) (by kernel_rfl) ((Fr.refl _ W1).drew) (fun hY_=>?_);refine tq 5 [0,1,2,3,4] ?_
   iterate 4 refine sf HC.out ?_
   refine sf HC.out ?_
   try simp only[Act.put,sA,sB,sC]
   refine sz ?_
   try simp only[Act.put,sA,sB,sC]
   refine rl 5 rfl (fun K hK=>?_);go_simp
   go_wp2_with (go_at_call 87;refine (HTk.out _ hY_).mono ?_;rintro r w5 ⟨rfl,b5⟩)
   refine hK.out _ _ (hY_.trans (Fr.b0 b5) q4_) (fun hY_=>?_);clear hK K;refine tl 6 ?v6 rfl ?q6 ?r6
   case q6=>intro W hSw;(try obtain⟨a0,a1,a2,a3,s0,s1,s2⟩:=HC.out W hSw);go_simp;try rfl
   try simp only[Act.put,sA,sB,sC]
   refine wpAnyH_done (by kernel_rfl) ?_ _;have F5:=q0_ (F1.out.trans hY_ q4_);clear hY_ b5
   by_cases hz:tv=0
   ·subst hz
    go_wp2
    go_roundw
    case rel=>
     refine⟨k+1,by omega,by go_num,F5.out,fun j hj y hy=>?_⟩
     by_cases e:j=k
     ·subst e
      rw[Hs.out] at hy
      cases hy
      exact Htv.out
     ·exact Hall.out j (by omega) y hy
    case measure=>simp[intOf];omega
   ·have hzb:(tv==0)=false:=by simp[hz]
    have HEt:Hid (E=tv):=by show _=_;rw[← HE2.out, ← Htv.out];exact zoS Hs.out (by rw[Htv.out];exact hz) Hall.out
    have HZ2:Hid (Z=X):=by show _=_;rw[HZ.out,if_neg (by rw[HEt.out];exact hz)]
    go_wp2;go_ret;exact⟨by rw[HEt.out];rfl,by rw[HZ2.out];exact HT.out.fr0 F5.out,F5.out.mono q4_⟩
  ·have hE0:E=0:=by
    rw[← HE2.out];refine zgW (fun s hs=>?_);obtain⟨j,hj⟩:=List.getElem?_of_mem hs;exact Hall.out j (by have:=(List.getElem?_eq_some_iff.1 hj).1;rw[Hln.out] at this;omega) s hj
   have HE0:=q0_ hE0
   have HZ2:Hid (Z={X with tabs:=zcp X X.tabs l}):=by show _=_;rw[HZ.out,if_pos HE0.out]
   have Hi1:=q0_ (Hi.out.fr0 Hf.out);have Hf1:Hid (Fr (tM tb) w wr):=Hf.out.mono q4_;clear hE0 HTk0 Hall;go_wp2_with fail
   go_loopw [44] (fun i wr=>∃ k:Nat,k≤n1∧i=.int .i64 k∧zaO wr t base {X with tabs:=zcp X X.tabs (l.take k)} A c B d T ct tb∧Fr (tM tb) w wr) (fun i _=>n1-(intOf i).toNat)
   case atStart=>exact⟨0,Nat.zero_le _,rfl,Hi1.out,Hf1.out⟩
   case round=>
    clear Hi1 Hf1 Hf;obtain⟨q,hq,rfl,hiq,hfq⟩:=hrel;have Hiq:=q0_ hiq;have Hfq:=q0_ hfq;clear hiq hfq
    by_cases hlq:q<n1
    ·obtain⟨ad,s,rfl,hs,d0,d1,d2⟩:=(Hr.out.fr Hfq.out (fun j hj hm=>by obtain⟨es,ck,hb⟩:=HM.out j hm;exact zdK Hr.out (by decide) hb hj rfl)).samp_ hlq
     have Hs:=q0_ hs
     have kn:0≤(q:Int)∧(q:Int)<(n1:Int):=by omega
     have HL:Hid (∀ m∈zcp X X.tabs (l.take q),m.length≤1000008):=fun m hm=>by
      have:=zja (X:=X) (l.take q) Hl.out m hm;rw[List.length_take] at this;omega
     obtain⟨tabs,htabs⟩:∃ tabs,zcp X X.tabs (l.take q)=tabs:=⟨_,rfl⟩
     have HN1:Hid (zcp X X.tabs (l.take (q+1))=ze1 X tabs s):=by show _=_;rw[zan Hs.out,zmy,htabs]
     rw[htabs] at HL Hiq;have Hlt:=q0_ Hiq.out.tlen
     obtain⟨DL,hDL⟩:∃ DL,ze1 X tabs s=DL:=⟨_,rfl⟩
     have HDg:Hid (∀ j,j<X.tiers.length→DL[j]? =some (zcd X s j (tabs.getD j []))):=fun j hj=>by
      rw[← hDL];unfold ze1;rw[List.getElem?_map,List.getElem?_range hj];rfl
     have HDl:Hid (DL.length=X.tiers.length):=by show _=_;rw[← hDL];unfold ze1;simp
     rw[hDL] at HN1;have hsw:=Hsw.out s (zab Hs.out);have HSt1:=q0_ (HSt0.out s (zab Hs.out));have c4:=(Hiq.out.blk.alloc (.cells #[.string s.name,.int .i64 s.time,.int .i64 s.value] 84)).cell 4;simp only[q1_,q2_,q3_] at c4
     obtain⟨sb,hsb⟩:∃ sb,wr.heap.size=sb:=⟨_,rfl⟩
     clear hs htabs hDL;go_wp2_with fail
     obtain⟨W1,hW1⟩:∃ W1,W1=wr.alloc (.cells #[.string s.name,.int .i64 s.time,.int .i64 s.value] 84):=⟨_,rfl⟩
     rw[← hW1]
     try rw[hsb]
     have hbx:Hid (Blk W1 sb 84 #[.string s.name,.int .i64 s.time,.int .i64 s.value]):=by show Blk _ _ _ _;rw[hW1];exact Blk.new' hsb.symm _ _
     have F1:Hid (Fr (tM tb) w W1):=by show Fr _ _ _;rw[hW1];exact Hfq.out.trans (Fr.none_alloc _ _) q4_
     have Hi1:Hid (zaO W1 t base {X with tabs:=DL.take 0++tabs.drop 0} A c B d T ct tb):=by
      show zaO _ _ _ _ _ _ _ _ _ _ _
      rw[hW1];exact Hiq.out.fr0 (Fr.none_alloc _ _)
     have hsbM:Hid (∀ j,tM tb j→sb≠j):=fun j hj e=>by
      obtain⟨_,_,es,ck,hb⟩:=Hi1.out.map_ hj;have hb0:W1.heap[sb]? =some (Obj.cells _ _ (0,0)):=hbx.out;rw[e,hb] at hb0
      cases hb0
     clear hW1 d0 d1 d2 c4 Hiq Hfq
     go_loopw [53] (fun i wr=>∃ j:Nat,j≤X.tiers.length∧i=.int .i64 j∧zaO wr t base {X with tabs:=DL.take j++tabs.drop j} A c B d T ct tb∧Fr (tM tb) W1 wr) (fun i _=>X.tiers.length-(intOf i).toNat)
     case atStart=>exact⟨0,Nat.zero_le _,rfl,Hi1.out,Fr.refl _ _⟩
     case round=>
      obtain⟨j,hj,rfl,hij,hfj⟩:=hrel;have Hij:=q0_ hij;have Hfj:=q0_ hfj;have Hbx:=q0_ (hbx.out.fr hfj (fun hm=>hsbM.out sb hm rfl));clear hij hfj
      by_cases hlj:j<X.tiers.length
      ·obtain⟨g,b,x,m,h1,h2,h3,hTb⟩:=Hij.out.tabAt (k:=j) hlj
       obtain⟨ad,e,hc⟩:=(zat Hij.out.row).2.2.1.2 (show 0<X.tiers.length by omega);subst e;have p0:=hc j _ (zcq h1)
       have kj:0≤(j:Int)∧(j:Int)<(X.tiers.length:Int):=by omega
       have h2':X.tiers[j]? =some x:=h2
       have h3':tabs[j]? =some m:=by
        have h3'':(DL.take j++tabs.drop j)[j]? =some m:=h3;rw[List.getElem?_append_right (by rw[List.length_take];omega),List.length_take,Nat.min_eq_left (by rw[HDl.out];omega),Nat.sub_self,List.getElem?_drop] at h3'';simpa using h3''
       have hml:=HL.out m (zab h3');have hget:=HDg.out j hlj;rw[show tabs.getD j []=m by rw[List.getD_eq_getElem?_getD,h3'];rfl] at hget;have hbt:=Hij.out.blk
       have HC:Hid (∀ W,Fr (fun _=>False) wr W→W.cell? ⟨t,0,none⟩=some (.int .i64 X.now)∧W.cell? ⟨t,1,none⟩=some (.string X.name)∧W.cell? ⟨t,2,none⟩=some (.slice A X.tiers.length c)∧W.cell? ⟨t,3,none⟩=some (.slice B X.floors.length d)∧W.cell? ⟨sb,0,none⟩=some (.string s.name)∧W.cell? ⟨sb,1,none⟩=some (.int .i64 s.time)∧W.cell? ⟨sb,2,none⟩=some (.int .i64 s.value)):=fun W f=>⟨(hbt.fr f (fun h=>h)).cell 0,(hbt.fr f (fun h=>h)).cell 1,(hbt.fr f (fun h=>h)).cell 2,(hbt.fr f (fun h=>h)).cell 3,(Hbx.out.fr f (fun h=>h)).cell 0,(Hbx.out.fr f (fun h=>h)).cell 1,(Hbx.out.fr f (fun h=>h)).cell 2⟩
       have HSt:Hid (∀ W,Fr (fun _=>False) wr W→Calls prog 88 #[.agg #[.int .i64 X.now,.string X.name,.slice A X.tiers.length c,.slice B X.floors.length d],.int .i64 j,.int .i64 s.time] W fun r w'=>r=.returned (.tuple #[.int .i64 (zbW X.now X.tiers X.floors j s.time).1,.bool (zbW X.now X.tiers X.floors j s.time).2])∧Below W.heap.size W w'):=fun W f=>HSt1.out j W _ (Hij.out.fr0 f)
       have hsti:zbh (zbW X.now X.tiers X.floors j s.time).1:=by
        unfold zbW
        split
        ·split
         ·exact zf3 hsw.1.1 hsw.1.2
         ·simp[zbh]
        ·simp[zbh]
       have hgs:zcd X s j m=if (zbW X.now X.tiers X.floors j s.time).2 then zb0 x.every m ⟨s.name,(zbW X.now X.tiers X.floors j s.time).1,zbd s.value⟩ else m:=by unfold zcd;rw[h2']
       rw[hgs] at hget
       obtain⟨sv,hsv⟩:∃ sv,(zbW X.now X.tiers X.floors j s.time).1=sv:=⟨_,rfl⟩
       obtain⟨bv,hbv⟩:∃ bv,(zbW X.now X.tiers X.floors j s.time).2=bv:=⟨_,rfl⟩
       rw[hsv,hbv] at HSt hget;rw[hsv] at hsti;have Hget:=q0_ hget;have H1:=q0_ h1;have H2:=q0_ h2';have H3:=q0_ h3;have HT1:=q0_ hTb;clear hc h1 h2 h3 h2' h3' hTb hbt hget hgs hsv hbv;go_wp2_with fail;refine wp_region_held_drew (S:=fun W=>Fr (fun _=>False) wr W) (by kernel_rfl) ((Fr.refl _ wr).drew) (fun hY_=>?_);refine tq 7 [0,1,2,3,4,5,6] ?_
       iterate 6 refine sf HC.out ?_
       refine sf HC.out ?_
       try simp only[Act.put,sA,sB,sC]
       refine sz ?_
       try simp only[Act.put,sA,sB,sC]
       refine rl 7 rfl (fun K hK=>?_);go_simp
       go_wp2_with (go_at_call 88;refine (HSt.out _ hY_).mono ?_;rintro r w5 ⟨rfl,b5⟩)
       refine hK.out _ _ (hY_.trans (Fr.b0 b5) q4_) (fun hY_=>?_);clear hK K;refine tq 5 [8,9,10,11,12] ?_
       iterate 4 refine sf HC.out ?_
       refine sf HC.out ?_
       try simp only[Act.put,sA,sB,sC]
       refine sz ?_
       try simp only[Act.put,sA,sB,sC]
       refine wpAnyH_done (by kernel_rfl) ?_ _;have F5:=q0_ hY_;clear hY_ b5 p0
       cases hbv:bv
       ·rw[hbv] at Hget
        go_wp2
        go_roundw
        case rel=>
         refine⟨j+1,by omega,by go_num,?_,Hfj.out.trans F5.out q4_⟩;have e:=zf0 (D:=DL) (L:=tabs) (k:=j) (by rw[Hlt.out];exact hlj) Hget.out (by rw[HDl.out];omega);rw[if_neg (by simp),zif H3.out] at e;rw[← e];exact Hij.out.fr0 F5.out
        case measure=>simp[intOf];omega
       ·rw[hbv,if_pos rfl] at Hget
        have HTb:=q0_ (HT1.out.fr0 F5.out);have Hbx5:=q0_ (Hbx.out.fr F5.out (fun h=>h));have hsb5:=hsbM.out b ⟨_,List.mem_of_getElem? H1.out,rfl⟩
        have HC5:Hid (∀ W,Fr (fun i=>i=b) w5 W→W.cell? ⟨sb,0,none⟩=some (.string s.name)∧W.cell? ⟨sb,1,none⟩=some (.int .i64 s.time)∧W.cell? ⟨sb,2,none⟩=some (.int .i64 s.value)):=fun W f=>⟨(Hbx5.out.fr f hsb5).cell 0,(Hbx5.out.fr f hsb5).cell 1,(Hbx5.out.fr f hsb5).cell 2⟩
        have hagw:=zjY hsw.2.1;have HOf:Hid (∀ W A c,Rd W 1 A 1 [.int .i64 s.value]→Calls prog 90 #[.slice A 1 c] W fun r w'=>r=.returned (zbd s.value).val∧Below W.heap.size W w'):=fun W A c hrd=>zjk s.value hsw.2.1 A c W hrd
        obtain⟨ag,hag⟩:∃ ag,zbd s.value=ag:=⟨_,rfl⟩
        rw[hag] at hagw HOf Hget
        have HAd:Hid (∀ W A c,zaw W g x.every b m→Rd W 7 A 1 [.string s.name,.int .i64 sv,.int .i64 ag.count,.int .i64 ag.hi,.int .u64 ag.lo,.int .i64 ag.min,.int .i64 ag.max]→Calls prog 89 #[.pointer (some ⟨g,0,none⟩),.slice A 1 c] W fun r' w'=>r'=.returned (.int .i64 (([⟨s.name,sv,ag⟩].filter (zaG x.every)).length:Nat))∧zaw w' g x.every b (zb0 x.every m ⟨s.name,sv,ag⟩)∧Fr (fun j=>j=b) W w'):=fun W A c ht hrd=>
         zg2 g x.every b m [⟨s.name,sv,ag⟩] A 1 c W ht hrd (fun a ha=>by rw[List.mem_singleton] at ha;rw[ha];exact⟨hsti,hagw,hsw.2.2⟩) (by omega)
        unfold zaL.val at HOf;clear hagw hag hsti hbv;go_wp2_with fail;refine wp_region_held_drew (S:=fun W=>Fr (fun i=>i=b) w5 W) (by kernel_rfl) ((Fr.refl _ w5).drew) (fun hY_=>?_);refine tq 6 [0,1,2,3,4,5] ?_
        iterate 5 refine sf HC5.out ?_
        refine sf HC5.out ?_
        try simp only[Act.put,sA,sB,sC]
        refine sz ?_
        try simp only[Act.put,sA,sB,sC]
        refine rl 6 rfl (fun K hK=>?_);go_simp;refine hK.out _ _ (((Fr.none_alloc w5 _).mono q4_).drew) (fun hY_=>?_);clear hK K
        try simp only[Act.put,sA,sB,sC]
        refine rl 7 rfl (fun K hK=>?_);go_simp
        go_wp2_with (go_at_call 90;refine (HOf.out _ _ _ (Rd.newS (w:=w5) (k:=w5.heap.size) rfl _ _ 1 1 rfl).drew).mono ?_;rintro r w6 ⟨rfl,b6⟩)
        refine hK.out _ _ (hY_.trans (Fr.b0 b6) q4_) (fun hY_=>?_);clear hK K;refine tl 8 ?v25 rfl ?q25 ?r25
        case q25=>intro W hSw;(try obtain⟨s0,s1,s2⟩:=HC5.out W hSw);go_simp;try rfl
        try simp only[Act.put,sA,sB,sC]
        refine rl 9 rfl (fun K hK=>?_);go_simp;refine hK.out _ _ (hY_.trans (Fr.none_alloc _ _) q4_) (fun hY_=>?_);clear hK K
        try simp only[Act.put,sA,sB,sC]
        refine rl 10 rfl (fun K hK=>?_);go_simp
        go_wp2_with (go_at_call 89;refine (HAd.out _ _ _ ((((HTb.out.fr0 (Fr.refl _ w5).drew).fr0 (Fr.none_alloc _ _)).fr0 (Fr.b0 b6)).fr0 (Fr.none_alloc _ _)) (Rd.newS (w:=w6) (k:=w6.heap.size) rfl _ _ 1 7 rfl)).mono ?_;rintro r w7 ⟨rfl,t7,f7⟩)
        refine hK.out _ _ (hY_.trans f7 (fun i hi=>.inl hi)) (fun hY_=>?_);clear hK K
        try simp only[Act.put,sA,sB,sC]
        refine wpAnyH_done (by kernel_rfl) ?_ _;have F7:=q0_ (hY_);have T7:=q0_ t7;clear hY_ t7 f7 b6;go_wp2
        go_roundw
        case rel=>
         have h:=(Hij.out.fr0 F5.out).set (k:=j) H1.out H2.out T7.out F7.out;refine⟨j+1,by omega,by go_num,?_,(Hfj.out.trans F5.out q4_).trans F7.out (fun i hi=>.inl ⟨_,List.mem_of_getElem? H1.out,hi⟩)⟩;have e:=zf0 (D:=DL) (L:=tabs) (k:=j) (by rw[Hlt.out];exact hlj) Hget.out (by rw[HDl.out];omega);rw[← e];exact h
        case measure=>simp[intOf];omega
      ·have hjl:j=X.tiers.length:=by omega
       have h:=Hij.out;rw[hjl,List.take_of_length_le (by rw[HDl.out];exact Nat.le_refl _),List.drop_eq_nil_of_le (by rw[Hlt.out];exact Nat.le_refl _),List.append_nil] at h;have Hfin:=q0_ h;clear h;go_wp2
       go_roundw
       case rel=>exact⟨q+1,by omega,by go_num,by rw[HN1.out];exact Hfin.out,F1.out.trans Hfj.out (fun _ h=>.inl h)⟩
       case measure=>simp[intOf];omega
    ·have hql:l.take q=l:=za3 (by rw[Hln.out];omega)
     rw[hql] at Hiq;go_wp2;go_ret;refine⟨by rw[HE0.out];rfl,by rw[HZ2.out];exact⟨A,c,B,d,T,ct,tb,Hiq.out,rfl⟩,Hfq.out.mono (fun j hj=>.inl ⟨.inr hj,HM.out j hj⟩)⟩
end Go.Proofs.YtjhhodndlkpmhaaGreatDoor
