/- Walks of package table: Len, Copy, Drop. -/
import Derived.Test.YteajonicnkpbbaaGreatDoorTabAddL
import Derived.Maps.OwnSet
import Derived.Test.YteajonicnkpbbaaGreatDoorFrom
namespace Go.Proofs.YteajonicnkpbbaaGreatDoor
set_option linter.all false
set_option maxHeartbeats 8000000
set_option maxRecDepth 100000
open Go.RowKit Tryz
open Go.Maps (Keyed)
theorem zez(g:Nat)(every:Int)(b:Nat)(l:List zaf)(w:World)(h:zar w g every b l):
  Calls prog 143 #[.pointer (some ⟨g,0,none⟩)] w fun r w'=>(∃ g' b',r=.returned (.pointer (some ⟨g',0,none⟩))∧zar w' g' every b' l∧w.heap.size≤g'∧w.heap.size≤b')∧Below w.heap.size w w':=by
 have HC:Hid (∀ W,Fr (fun _=>False) w W→W.cell? ⟨g,0,none⟩=some (.int .i64 every)∧W.cell? ⟨g,1,none⟩=some (.map (some b))):=fun W f=>⟨(h.blk.fr f (fun h=>h)).cell 0,(h.blk.fr f (fun h=>h)).cell 1⟩
 have HCl:Hid (∀ W,Fr (fun _=>False) w W→Calls prog 180 #[.map (some b)] W fun r w''=>r=.returned (.map (some W.heap.size))∧zbE w'' W.heap.size l∧Fr (fun _=>False) w w''):=fun W f=>by
  obtain⟨D,⟨es,ck,hb,hfit,hs,hD⟩,ht⟩:=(h.own.fr f (fun h=>h))
  refine (show Calls prog 180 _ _ _ from AnyW.maps_Clone Tryz.cloneM b es ck W hb).mono ?_;rintro r w'' ⟨e,rfl⟩;exact⟨e,⟨D,⟨es,ck,(MapKept.heap_alloc W _).1,hfit,hs,hD⟩,ht⟩,f.trans (Fr.none_alloc _ _) q4_⟩
 clear h;go_enter func143,ntmps143;go_wp2_with fail;refine wp_region_held_drew (S:=fun W=>Fr (fun _=>False) w W) (by kernel_rfl) ((Fr.refl _ w).drew) (fun hY_=>?_);refine tq 8 [0,1,2,3,4,5,6,7] ?_
 iterate 7 refine sf HC.out ?_
 refine sf HC.out ?_
 try simp only[Act.put,sA,sB,sC]
 refine sz ?_
 try simp only[Act.put,sA,sB,sC]
 refine rl 8 rfl (fun K hK=>?_);go_simp
 go_wp2_with (go_at_call 180;refine (HCl.out _ hY_).mono ?_;rintro r w5 ⟨rfl,ho5,f5⟩)
 refine hK.out _ _ (f5) (fun hY_=>?_);clear hK K;refine tl 9 ?v9 rfl ?q9 ?r9
 case q9=>intro W hSw;(try obtain⟨c0,c1⟩:=HC.out W hSw);go_simp;try rfl
 try simp only[Act.put,sA,sB,sC]
 refine rl 10 rfl (fun K hK=>?_);go_simp;refine hK.out _ _ (hY_.trans (Fr.none_alloc _ _) q4_) (fun hY_=>?_);clear hK K;refine tl 11 ?v10 rfl ?q10 ?r10
 case q10=>intro W hSw;(try obtain⟨c0,c1⟩:=HC.out W hSw);go_simp;try rfl
 try simp only[Act.put,sA,sB,sC]
 refine wpAnyH_done (by kernel_rfl) ?_ _;go_wp2;go_ret;refine⟨⟨w5.heap.size,w.heap.size,rfl,⟨Blk.new _ _ _,ho5.fr (Fr.none_alloc _ _) (fun h=>h)⟩,f5.size,Nat.le_refl _⟩,hY_.below q4_⟩
theorem zm6(n:ByteArray)(s below:Int)(q:Nat)(W:World)(hc:W.cell? ⟨q,0,none⟩=some (.int .i64 below)):
  Calls prog 191 #[.agg #[.string n,.int .i64 s],.pointer (some ⟨q,0,none⟩)] W fun r w'=>r=.returned (.bool (decide (s<below)))∧Below W.heap.size W w':=by
 have c1:=fun o=>(Fr.none_alloc W o).cell hc (fun h=>h);clear hc;go_enter func191,ntmps191;go_wp2;go_ret;exact⟨rfl,(Fr.none_alloc _ _).below q4_⟩
theorem zlj(n:ByteArray)(s:Int)(a:zaS)(below:Int)(p q:Nat)(W:World)(hp:W.cell? ⟨p,0,none⟩=some (.func (.func 191) #[] #[.pointer (some ⟨q,0,none⟩)]))(hc:W.cell? ⟨q,0,none⟩=some (.int .i64 below)):
  Calls prog 223 #[.agg #[.string n,.int .i64 s],.agg #[.int .i64 a.count,.int .i64 a.hi,.int .u64 a.lo,.int .i64 a.min,.int .i64 a.max],.pointer (some ⟨p,0,none⟩)] W fun r w'=>r=.returned (.bool (decide (s<below)))∧Below W.heap.size W w':=by
 have c1:=fun o1 o2=>(Fr.none_alloc (W.alloc o1) o2).cell ((Fr.none_alloc W o1).cell hp (fun h=>h)) (fun h=>h);have HD:Hid (∀ W',Fr (fun _=>False) W W'→Calls prog 191 #[.agg #[.string n,.int .i64 s],.pointer (some ⟨q,0,none⟩)] W' fun r w''=>r=.returned (.bool (decide (s<below)))∧Below W'.heap.size W' w''):=fun W' f=>zm6 n s below q W' (f.cell hc (fun h=>h));have F2:Hid (∀ o1 o2,Fr (fun _=>False) W ((W.alloc o1).alloc o2)):=fun o1 o2=>(Fr.none_alloc W o1).trans (Fr.none_alloc _ o2) q4_;clear hp hc;go_enter func223,ntmps223;go_wp2_with fail;refine (HD.out _ (F2.out _ _)).mono ?_;rintro r w5 ⟨rfl,b5⟩;have B5:=q0_ (((F2.out _ _).trans (Fr.b0 b5) q4_).below q4_);clear b5;go_wp2;go_ret;exact⟨rfl,B5.out⟩
def zao(so:zaf→Bool)(l:List zaf):List zaf:=l.filter fun r=> !so r
theorem zg6(f:Nat)(caps:Array Value)(so:zaf→Bool)(hso:∀ x y,zbZ x y→so x=so y)(b:Nat)(l:List zaf)(w:World)(h:zbE w b l)(eg:∀ args w,(callFunc f args).run prog w=.ok (.enter f args) w)
  (hdel:∀ W,Fr (fun j=>j=b) w W→∀ x:zaf,x.wf→Calls prog f (#[.agg #[.string x.name,.int .i64 x.start],.agg #[.int .i64 x.agg.count,.int .i64 x.agg.hi,.int .u64 x.agg.lo,.int .i64 x.agg.min,.int .i64 x.agg.max]]++caps) W fun r w'=>r=.returned (.bool (so x))∧Below W.heap.size W w'):
  Calls prog 222 #[.map (some b),.func (.func f) #[] caps] w fun r w'=>r=.returned (.tuple #[])∧zbE w' b (zao so l)∧Fr (fun j=>j=b) w w':=by
 obtain⟨D,hown,ht⟩:=h;have hblt:=hown.lt;have Hd:=q0_ hdel;have Hso:=q0_ hso;have Ht:=q0_ ht;clear ht hdel hso;go_enter func222,ntmps222
 go_wp2_with (first
  | (at_range;refine wpList_range_own _ rfl _ 242 rfl 247 196 zbO underlying242 zkh b l.length _ rfl hown ?_;intro w0 hrg0 hg0 hs0)
  | go_in)
 go_frame
 go_loopw [8] (fun _ wr=>∃ (cur:List zaf) (E:DataW Unit) (left:Lit→Bool) (cnt:Nat),wr.ranges prog 247 zkh b w.heap.size l.length E left cnt∧zi3 cur E∧(∀ k,left k=true→Maps.has E k=true)∧(∀ x∈cur,x∈l)∧(∀ x∈l,so x=false→x∈cur)∧(∀ x∈cur,so x=true→left (kl x)=true)∧Fr (fun j=>j=b) w wr)
  (fun _ wr=>wr.rangeLeft b w.heap.size)
 case atStart=>exact⟨l,D,_,_,hrg0,Ht.out,fun _ h=>h,fun _ h=>h,fun _ h _=>h,fun x hx _=>Ht.out.hasYes hx,(zg0 hg0).mono q4_⟩
 case round=>
  obtain⟨cur,E,left,cnt,hrg,hE,hhas,h1,h2,h3,hf⟩:=hrel;have HE:=q0_ hE;have Hhas:=q0_ hhas;have H1:=q0_ h1;have H2:=q0_ h2;have H3:=q0_ h3;have HF:=q0_ hf;clear hE hhas h1 h2 h3 hf
  go_wp2_with (first
   | (at_next;refine wpList_next_ranges _ rfl _ rfl 247 zbO zkh id id (fun key _ _=>⟨key,rfl⟩) (fun v _ _=>⟨v,rfl⟩) b w.heap.size l.length _ _ _ rfl hrg ?_ ?_)
   | go_in)
  ·intro _ hl0
   have e:cur=zao so l:=by
    refine zav.ext HE.out.sorted (Ht.out.sorted.filter _) (fun r=>?_);unfold zao;rw[List.mem_filter]
    constructor
    ·intro hr
     refine⟨H1.out r hr,?_⟩
     cases hs:so r
     ·rfl
     ·have h:=H3.out r hr hs
      rw[hl0] at h;cases h
    ·rintro⟨hr,hs⟩
     exact H2.out r hr (by simpa using hs)
   have HO:=q0_ (zbE.of hrg.owns HE.out);rw[e] at HO;clear hl0 e;go_wp2
   go_end0
   exact⟨rfl,HO.out,HF.out⟩
  ·intro x c kx yd yp w1 cnt1 hkey hlx hv hat hrg1 hlt hg1 hs1 hen
   obtain⟨q,hq,rfl,rfl,rfl⟩:=zl6 HE.out hkey (Hhas.out _ hlx) hv hat;have hql:=H1.out q hq;have hqw:=HE.out.wf q hq;have F1:=q0_ (HF.out.trans (zd_ hg1) (fun i hi=>.inr (by rw[hi];exact Nat.le_refl _)));have Hrg1:=q0_ hrg1;have hinj:∀ x∈cur,(kl x).sameKey (kl q)=true→x=q:=fun x hx hk=>HE.out.sorted.inj hx hq (zjR (HE.out.wf x hx) hqw (WideAt.sameKey_eq hk));have Hinj:=q0_ hinj;have HD:Hid (∀ W,Fr (fun _=>False) w1 W→Calls prog f (#[.agg #[.string q.name,.int .i64 q.start],.agg #[.int .i64 q.agg.count,.int .i64 q.agg.hi,.int .u64 q.agg.lo,.int .i64 q.agg.min,.int .i64 q.agg.max]]++caps) W fun r w'=>r=.returned (.bool (so q))∧Below W.heap.size W w'):=fun W hW=>Hd.out W (F1.out.trans hW q4_) q hqw;have F3:Hid (∀ o1 o2,Fr (fun _=>False) w1 ((w1.alloc o1).alloc o2)):=fun o1 o2=>(Fr.none_alloc w1 o1).trans (Fr.none_alloc _ o2) q4_;have KB:Hid (∀ o2,Blk ((w1.alloc (.cells #[.string q.name,.int .i64 q.start] 247)).alloc o2) wr.heap.size 247 #[.string q.name,.int .i64 q.start]):=fun o2=>(Blk.new' hs1.symm _ _).alloc o2;unfold zcQ zaS.val at hen;clear hrg1 hg1 hinj
   cases hs:so q
   ·rw[hs] at HD
    go_wp2_with (first
     | (go_at_fn f;refine (HD.out _ (F3.out _ _)).mono ?_;rintro e w2 ⟨rfl,b2⟩)
     | go_in)
    have F2:=q0_ ((F3.out _ _).trans (Fr.b0 b2) q4_);have Hrg2:=q0_ (zdk Hrg1.out F2.out (fun h=>h) (fun h=>h));clear b2
    go_roundw
    case rel=>
     refine⟨cur,E,_,cnt1,Hrg2.out,HE.out,fun k hk=>Hhas.out k (by cases hl:left k<;>simp[hl] at hk ⊢),H1.out,H2.out,fun x hx hsx=>?_,F1.out.trans F2.out q4_⟩;rw[H3.out x hx hsx,Bool.true_and]
     cases hk:(kl x).sameKey (kl q)
     ·rfl
     ·rw[Hinj.out x hx hk,hs] at hsx;cases hsx
    case measure=>rw[Hrg2.out.left_eq,hrg.left_eq];exact hlt
   ·rw[hs] at HD
    go_wp2_with (first
     | (go_at_fn f;refine (HD.out _ (F3.out _ _)).mono ?_;rintro e w2 ⟨rfl,b2⟩;have F2:=q0_ ((F3.out _ _).trans (Fr.b0 b2) q4_);have hrg2:=zdk Hrg1.out F2.out (fun h=>h) (fun h=>h);have k0:=((KB.out _).below b2).cell 0;have k1:=((KB.out _).below b2).cell 1;simp only[q1_,q2_,q3_] at k0 k1)
     | (at_delete;refine wpList_delete_ranges _ rfl _ _ 242 247 rfl 196 zbO underlying242 zkh b w.heap.size l.length _ _ _ rfl hrg2 _ _ rfl hkey ?_;intro w3 cnt3 hrg3 hle hturn;go_frame)
     | go_in)
    rw[Maps.strike_twice] at hrg3;have F4:=q0_ ((F1.out.trans F2.out q4_).trans (zd_ hturn.grown) (fun i hi=>.inl hi));have hE3:=q0_ (HE.out.strike hq);clear b2 k0 k1 hrg2;go_wp2
    go_roundw
    case rel=>
     refine⟨_,_,_,cnt3,hrg3,hE3.out,fun k hk=>?_,fun x hx=>H1.out x (List.mem_filter.1 hx).1,fun x hx hsx=>?_,fun x hx hsx=>?_,F4.out⟩
     ·have h1:left k=true:=by cases hl:left k<;>simp[hl] at hk ⊢
      have h2:k≠kl q:=fun e=>by rw[e,WideAt.sameKey_self (zf9 q)] at hk;simp at hk
      rw[Maps.has_del_other h2];exact Hhas.out k h1
     ·refine List.mem_filter.2 ⟨H2.out x hx hsx,?_⟩
      have hne:¬ zbZ x q:=fun k=>by rw[Hso.out x q k,hs] at hsx;cases hsx
      simpa using hne
     ·obtain⟨hx,hne⟩:=List.mem_filter.1 hx
      have hne:¬ zbZ x q:=by simpa using hne
      rw[H3.out x hx hsx,Bool.true_and]
      cases hk:(kl x).sameKey (kl q)
      ·rfl
      ·rw[Hinj.out x hx hk] at hne;exact absurd ⟨rfl,rfl⟩ hne
    case measure=>rw[hrg3.left_eq,hrg.left_eq];omega
def zae(below:Int)(r:zaf):Bool:=decide (r.start<below)
theorem zbE.len{w:World}{b:Nat}{l:List zaf}(h:zbE w b l)(ty:TypeId):(Builtin.len_ #[242] ty #[.map (some b)]).run prog w=.ok (.int .i64 (l.length:Nat)) w:=by
 obtain⟨D,ho,ht⟩:=h;have hl:=ho.len underlying242 ty;rwa[ht.size] at hl
theorem zcT{w:World}{q b:Nat}{v:Value}{es:Array MapEntry}{ck:Nat}(hc:w.cell? ⟨q,0,none⟩=some v)(hb:w.heap[b]? =some (.map es ck)):q≠b:=by
 rintro rfl;unfold World.cell? at hc;rw[hb] at hc
 cases hc
theorem zis(g:Nat)(every:Int)(b:Nat)(l:List zaf)(below:Int)(q:Nat)(w:World)(h:zar w g every b l)(hq:w.cell? ⟨q,0,none⟩=some (.int .i64 below))(hl:l.length≤1000000000):
  Calls prog 190 #[.pointer (some ⟨g,0,none⟩),.func (.func 191) #[] #[.pointer (some ⟨q,0,none⟩)]] w fun r w'=>r=.returned (.int .i64 ((l.length:Int)-((zao (zae below) l).length:Nat)))∧zar w' g every b (zao (zae below) l)∧Fr (fun j=>j=b) w w':=by
 obtain⟨es,ck,hbm⟩:=h.own.isMap;have hqb:=zcT hq hbm
 obtain⟨W1,hW1⟩:∃ W1,W1=w.alloc (.cells #[.func (.func 191) #[] #[.pointer (some ⟨q,0,none⟩)]] 257):=⟨_,rfl⟩
 have HW1:=q0_ hW1
 have T1:Hid (zar W1 g every b l):=by rw[hW1];exact h.fr0 (Fr.none_alloc _ _)
 have P1:Hid (W1.cell? ⟨w.heap.size,0,none⟩=some (.func (.func 191) #[] #[.pointer (some ⟨q,0,none⟩)])):=by show _=_;rw[hW1];exact (Blk.new _ _ _).cell 0
 have Q1:Hid (W1.cell? ⟨q,0,none⟩=some (.int .i64 below)):=by show _=_;rw[hW1];exact (Fr.none_alloc w _).cell hq (fun h=>h)
 have F1:Hid (Fr (fun j=>j=b) w W1):=by show Fr _ _ _;rw[hW1];exact (Fr.none_alloc w _).mono q4_
 have hwb:w.heap.size≠b:=fun e=>by have:=h.own.lt;omega
 have HN:=q0_ (zcJ g every b W1 T1.out.blk);have hgb:=h.ne;have c1:=T1.out.blk.cell 1;simp only[q1_,q2_,q3_] at c1;have hlen:=T1.out.own.len;have eg:∀ args w,(callFunc 223 args).run prog w=.ok (.enter 223 args) w:=enters_of func223 (by kernel_rfl) rfl;have HD:=q0_ (zg6 223 #[.pointer (some ⟨w.heap.size,0,none⟩)] (zae below) (fun x y hk=>by unfold zae;rw[hk.2]) b l W1 T1.out.own eg (fun W hf x _=>zlj x.name x.start x.agg below w.heap.size q W (hf.cell P1.out hwb) (hf.cell Q1.out hqb)));clear h hq hbm hW1;go_enter func190,ntmps190;go_wp2_with fail;rw[← HW1.out];refine HN.out.mono ?_;rintro r w' ⟨rfl,rfl⟩;go_wp2_with fail;refine HD.out.mono ?_;rintro r w5 ⟨rfl,ho5,f5⟩;have T5:=q0_ (zar.mk (T1.out.blk.fr f5 hgb) ho5);have F5:=q0_ (F1.out.trans f5 (fun i hi=>.inl hi));have hle:(zao (zae below) l).length≤l.length:=List.length_filter_le _ _
 obtain⟨m,hm⟩:∃ m,(zao (zae below) l).length=m:=⟨_,rfl⟩
 have hlen5:=T5.out.own.len;rw[hm] at hlen5 hle
 have hw:IntKind.i64.wrap ((l.length:Int)-(m:Int))=(l.length:Int)-(m:Int):=by simp[IntKind.wrap,IntKind.signed,IntKind.bits];omega
 have c5:=T5.out.blk.cell 1;simp only[q1_,q2_,q3_] at c5;clear ho5 f5 c1 hlen;go_wp2;go_ret;rw[hm];exact⟨rfl,T5.out,F5.out⟩
theorem zgl(g:Nat)(every:Int)(b:Nat)(l:List zaf)(below:Int)(w:World)(h:zar w g every b l)(hl:l.length≤1000000000):
  Calls prog 153 #[.pointer (some ⟨g,0,none⟩),.int .i64 below] w fun r w'=>r=.returned (.int .i64 ((l.length:Int)-((zao (zae below) l).length:Nat)))∧zar w' g every b (zao (zae below) l)∧Fr (fun j=>j=b) w w':=by
 obtain⟨W1,hW1⟩:∃ W1,W1=w.alloc (.cells #[.int .i64 below] 3):=⟨_,rfl⟩
 have HW1:=q0_ hW1
 have T1:Hid (zar W1 g every b l):=by rw[hW1];exact h.fr0 (Fr.none_alloc _ _)
 have Q1:W1.cell? ⟨w.heap.size,0,none⟩=some (.int .i64 below):=by rw[hW1];exact (Blk.new _ _ _).cell 0
 have F1:Hid (Fr (fun j=>j=b) w W1):=by show Fr _ _ _;rw[hW1];exact (Fr.none_alloc w _).mono q4_
 have HD:=q0_ (zis g every b l below w.heap.size W1 T1.out Q1 hl);clear h hW1 Q1;go_enter func153,ntmps153;go_wp2_with fail;rw[← HW1.out];refine HD.out.mono ?_;rintro r w5 ⟨rfl,t5,f5⟩;have T5:=q0_ t5;have F5:=q0_ (F1.out.trans f5 (fun i hi=>.inl hi));clear t5 f5;go_wp2;go_ret;exact⟨rfl,T5.out,F5.out⟩
theorem ziI(f:Nat)(caps:Array Value)(so:zaf→Bool)(l:List zaf)(A:Option Addr)(n c:Nat)(w:World)(hr:Rd w 7 A n (zaA l))(hn:n≤1000000000)(eg:∀ args w,(callFunc f args).run prog w=.ok (.enter f args) w)
  (hdel:∀ W,Fr (fun _=>False) w W→∀ x∈l,Calls prog f (#[x.val]++caps) W fun r w'=>r=.returned (.bool (so x))∧Below W.heap.size W w'):
  Calls prog 224 #[.slice A n c,.func (.func f) #[] caps] w fun r w'=>((r=.returned (.int .i64 (-1))∧∀ x∈l,so x=false)∨∃ (i:Nat) (x:zaf),l[i]? =some x∧so x=true∧(∀ y∈l.take i,so y=false)∧r=.returned (.int .i64 i))∧Below w.heap.size w w':=by
 have Hr:=q0_ hr;have Hd:=q0_ hdel;have Hlen:=q0_ hr.recs_len;clear hr hdel;go_enter func224,ntmps224;go_wp2_with fail
 go_loopw [8] (fun i wr=>∃ k:Nat,k≤n∧i=.int .i64 k∧(∀ y∈l.take k,so y=false)∧Fr (fun _=>False) w wr) (fun i _=>n-(intOf i).toNat)
 case atStart=>exact⟨0,Nat.zero_le _,rfl,fun y hy=>(by simp at hy),Fr.refl _ _⟩
 case round=>
  obtain⟨k,hk,rfl,hall,hf⟩:=hrel
  by_cases hlt:k<n
  ·obtain⟨ad,q,rfl,hq,d0,d1,d2,d3,d4,d5,d6⟩:=(Hr.out.fr0 hf).rec_ hlt
   have HD:Hid (Calls prog f (#[q.val]++caps) wr fun r w'=>r=.returned (.bool (so q))∧Below wr.heap.size wr w'):=Hd.out wr hf q (zaa hq);unfold zaf.val at HD;have Hf:=q0_ hf;have Hq:=q0_ hq;have Hall:=q0_ hall
   have kn:0≤(k:Int)∧(k:Int)<(n:Int):=by omega
   clear hf hq hall
   cases hs:so q
   ·rw[hs] at HD
    go_wp2_with (first
     | (go_at_fn f;refine HD.out.mono ?_;rintro e w2 ⟨rfl,b2⟩)
     | go_in)
    have F2:=q0_ (Hf.out.trans (Fr.b0 b2) q4_);clear b2
    go_roundw
    case rel=>
     refine⟨k+1,by omega,by go_num,fun y hy=>?_,F2.out⟩;rw[zak Hq.out] at hy
     rcases List.mem_append.1 hy with hy | hy
     ·exact Hall.out y hy
     ·rw[List.mem_singleton] at hy;rw[hy];exact hs
    case measure=>simp[intOf];omega
   ·rw[hs] at HD
    go_wp2_with (first
     | (go_at_fn f;refine HD.out.mono ?_;rintro e w2 ⟨rfl,b2⟩)
     | go_in)
    have F2:=q0_ (Hf.out.trans (Fr.b0 b2) q4_);clear b2;go_ret;exact⟨.inr ⟨k,q,Hq.out,hs,Hall.out,rfl⟩,F2.out.below q4_⟩
  ·obtain rfl:k=n:=by omega
   have hl:l.take k=l:=zaN (by rw[Hlen.out];exact Nat.le_refl _);rw[hl] at hall;have Hall:=q0_ hall;have Hf:=q0_ hf;clear hall hf hl;go_wp2;go_ret;exact⟨.inl ⟨rfl,Hall.out⟩,Hf.out.below q4_⟩
theorem zod{w:World}{base n i size c:Nat}{e:TypeId}{A:Option Addr}{xs:List Value}(h:w.ownsRow base e size (.slice A n c) n xs)(hi:i≤n)(hn:0<n):w.ownsRow base e size (.slice A i c) i (xs.take (i*size)):=by
 obtain⟨h1,h2⟩:=h;refine⟨by rw[List.length_take,h1];exact Nat.min_eq_left (Nat.mul_le_mul_right _ hi),?_⟩
 rcases h2 with ⟨_,h2⟩ | ⟨g,cap,cur,hv,hb,hg,h3,h4,h5,h6⟩
 ·omega
 ·injection hv with e1 _ e3
  subst e1 e3;exact .inr ⟨g,c,cur,rfl,hb,hg,Nat.le_trans hi h3,h4,h5,by rw[← h6,List.take_take,Nat.min_eq_left (Nat.mul_le_mul_right _ hi)]⟩
theorem zgI{w:World}{base n size c g o:Nat}{e:TypeId}{xs:List Value}{v:Value}(h:w.ownsRow base e size (.slice (some ⟨g,0,none⟩) n c) n xs)(ho:n*size≤o):(w.setCell ⟨g,o,none⟩ v).ownsRow base e size (.slice (some ⟨g,0,none⟩) n c) n xs:=by
 obtain⟨h1,h2⟩:=h;refine⟨h1,?_⟩
 rcases h2 with ⟨h2,_⟩ | ⟨g',cap,cur,hv,hb,hg,h3,h4,h5,h6⟩
 ·cases h2
 ·injection hv with e1 _ e3
  injection e1 with e1
  injection e1 with e1
  subst e1 e3;refine .inr ⟨g,c,cur.setIfInBounds o v,rfl,hb,?_,h3,h4,by simp[h5],?_⟩
  ·rw[Sort.setCell_eq]
   unfold Sort.mapBlock;rw[Array.getElem?_modify,if_pos rfl,hg]
   rfl
  ·rw[← h6]
   apply List.ext_getElem?
   intro t
   by_cases ht:t<n*size
   ·rw[List.getElem?_take_of_lt ht,List.getElem?_take_of_lt ht,Array.getElem?_toList,Array.getElem?_toList,Array.getElem?_setIfInBounds_ne (by omega)]
   ·rw[List.getElem?_eq_none (by rw[List.length_take];omega),List.getElem?_eq_none (by rw[List.length_take];omega)]
theorem zdG{base n size c g:Nat}{e:TypeId}{xs:List Value}:∀ (vs:List Value) (o:Nat) (w:World),w.ownsRow base e size (.slice (some ⟨g,0,none⟩) n c) n xs→n*size≤o→(w.setCells g o vs).ownsRow base e size (.slice (some ⟨g,0,none⟩) n c) n xs
 | [],_,_,h,_=>h
 | v::vs,o,w,h,ho=>zdG vs (o+1) _ (zgI h ho) (by omega)
theorem zgt{g:Nat}:∀ (vs:List Value) (o:Nat) (w:World),Fr (fun j=>j=g) w (w.setCells g o vs)
 | [],_,w=>Fr.refl _ w
 | v::vs,o,w=>((Fr.refl (fun k=>k=g) w).setCell (p:=⟨g,o,none⟩) (.inl rfl) v).trans (zgt vs (o+1) _) (fun _ h=>.inl h)
theorem zpi(w:World):(zeroValue 198).run prog w=.ok (.agg #[.string ByteArray.empty,.int .i64 0,.int .i64 0,.int .i64 0,.int .u64 0,.int .i64 0,.int .i64 0]) w:=by kernel_rfl
theorem zhi(w:World)(g o n c:Nat)(hn:0<n)(hc:∀ j,j<n*7→(w.cell? ⟨g,o+j,none⟩).isSome=true)(hf:∀ j,j<n*7→w.frozen? ⟨g,o+j,none⟩=false):
  ∃ vs,∀ ty,(Builtin.clear_ #[181] ty #[.slice (some ⟨g,o,none⟩) n c]).run prog w=.ok (.tuple #[]) (w.setCells g o vs):=by
 obtain⟨m,rfl⟩:∃ m,n=m+1:=⟨n-1,by omega⟩
 obtain⟨L,hL⟩:∃ L,(Builtin.zeroCells (Value.agg #[.string ByteArray.empty,.int .i64 0,.int .i64 0,.int .i64 0,.int .u64 0,.int .i64 0,.int .i64 0]).cells (m+1)).toList=L:=⟨_,rfl⟩
 have hlen:L.length=(m+1)*7:=by rw[← hL];simp[Builtin.zeroCells,Value.cells]
 have h1:∀ v∈L,v.oneCell'=true:=by
  intro v hv;rw[← hL] at hv;simp only[Builtin.zeroCells,Value.cells,Array.toList_map,List.mem_map] at hv;obtain⟨i,_,rfl⟩:=hv
  have hi:i%7=0∨i%7=1∨i%7=2∨i%7=3∨i%7=4∨i%7=5∨i%7=6:=by omega
  rcases hi with hi | hi | hi | hi | hi | hi | hi<;>simp[hi,Value.oneCell']
 have hst:=run_storeCells_cells (P:=prog) g o L 0 w (fun j hj=>by rw[Nat.add_zero];exact hc j (by omega)) (fun j hj=>by rw[Nat.add_zero];exact hf j (by omega)) h1;simp only[Nat.add_zero] at hst;refine⟨L,fun ty=>?_⟩;have hz:=zpi
 generalize Value.agg #[.string ByteArray.empty,.int .i64 0,.int .i64 0,.int .i64 0,.int .u64 0,.int .i64 0,.int .i64 0]=z at hz hL
 simp[Builtin.clear_,run_underlying underlying181,hz,hL,hst]
theorem znY(m:List zaf){i:Nat}{x:zaf}(y:zaf)(hx:m[i]? =some x):zgs (zaA m) (i*7) y.cells=zaA (m.set i y):=by
 have hi:i<m.length:=(List.getElem?_eq_some_iff.1 hx).1;have h:=zp9 zb7 (m.set i y) m (j:=i) (x:=x) (y:=y) (by rw[List.getElem?_set_self hi]) hx
 have e1:(m.set i y).take i++m.drop i=m:=by rw[List.take_set_of_le (Nat.le_refl _),List.take_append_drop]
 have e2:(m.set i y).take (i+1)++m.drop (i+1)=m.set i y:=by
  have:m.drop (i+1)=(m.set i y).drop (i+1):=by rw[List.drop_set_of_lt (by omega)]
  rw[this,List.take_append_drop]
 rw[e1,e2] at h;exact h
theorem zfB(so:zaf→Bool)(l:List zaf)(x:zaf):zao so (l++[x])=zao so l++(if so x then[] else[x]):=by
 unfold zao;rw[List.filter_append]
 cases h:so x<;>simp[h]
theorem zjS{so:zaf→Bool}{l:List zaf}(h:∀ x∈l,so x=false):zao so l=l:=by
 unfold zao;exact List.filter_eq_self.2 (fun x hx=>by simp[h x hx])
theorem zoc{w:World}{base n cap g k:Nat}{e:TypeId}{m:List zaf}{q:zaf}(h:w.ownsRow base e 7 (.slice (some ⟨g,0,none⟩) n cap) n (zaA m))(hq:m[k]? =some q)(hk:k<n):
  w.cell? ⟨g,k*7,none⟩=some (.string q.name)∧w.cell? ⟨g,k*7+1,none⟩=some (.int .i64 q.start)∧w.cell? ⟨g,k*7+2,none⟩=some (.int .i64 q.agg.count)∧w.cell? ⟨g,k*7+3,none⟩=some (.int .i64 q.agg.hi)∧w.cell? ⟨g,k*7+4,none⟩=some (.int .u64 q.agg.lo)∧w.cell? ⟨g,k*7+5,none⟩=some (.int .i64 q.agg.min)∧w.cell? ⟨g,k*7+6,none⟩=some (.int .i64 q.agg.max):=by
 have hx:∀ j,j<7→w.cell? ⟨g,k*7+j,none⟩=q.cells[j]? :=fun j hj=>by
  rw[h.cellAt (k*7+j) (by omega)];exact zgd zb7 hq j hj
 exact⟨hx 0 (by omega),hx 1 (by omega),hx 2 (by omega),hx 3 (by omega),hx 4 (by omega),hx 5 (by omega),hx 6 (by omega)⟩
theorem zeu(f:Nat)(caps:Array Value)(so:zaf→Bool)(l:List zaf)(A:Option Addr)(n c base:Nat)(w:World)(ho:w.ownsRow base 198 7 (.slice A n c) n (zaA l))(hn:n≤1000000000)(eg:∀ args w,(callFunc f args).run prog w=.ok (.enter f args) w)
  (hdel:∀ W,Fr (zay (.slice A n c)) w W→∀ x∈l,Calls prog f (#[x.val]++caps) W fun r w'=>r=.returned (.bool (so x))∧Below W.heap.size W w'):
  Calls prog 198 #[.slice A n c,.func (.func f) #[] caps] w fun r w'=>(r=.returned (.slice A (zao so l).length c)∧w'.ownsRow base 198 7 (.slice A (zao so l).length c) (zao so l).length (zaA (zao so l)))∧Fr (zay (.slice A n c)) w w':=by
 have hrd:=(zal ho).2.2.1;have hlen:=hrd.recs_len;have HI:=q0_ (ziI f caps so l A n c w hrd hn eg (fun W hW x hx=>hdel W (hW.mono q4_) x hx));have Ho:=q0_ ho;have Hd:=q0_ hdel;clear ho hdel hrd;go_enter func198,ntmps198;go_wp2_with fail;refine HI.out.mono ?_;rintro r w1 ⟨⟨rfl,hall⟩ | ⟨i,x,hx,hsx,hall,rfl⟩,b1⟩
 ·have F1:=q0_ (Fr.b0 b1)
  have Hall:=q0_ hall;clear hall b1;go_wp2;go_ret;rw[zjS Hall.out,hlen];exact⟨⟨rfl,zab Ho.out F1.out⟩,F1.out.mono q4_⟩
 ·have hin:i<n:=by have:=(List.getElem?_eq_some_iff.1 hx).1;omega
  obtain⟨g,cap,hv⟩:∃ g cap,(Value.slice A n c)=.slice (some ⟨g,0,none⟩) n cap:=by
   rcases Ho.out.2 with ⟨_,h⟩ | ⟨g,cap,_,h,_⟩
   ·omega
   ·exact⟨g,cap,h⟩
  injection hv with e1 _ e3
  subst e1 e3
  have hrow:∀ j,zay (.slice (some ⟨g,0,none⟩) n c) j↔j=g:=fun j=>⟨fun h=>(Option.some.inj h).symm,fun h=>by subst h;rfl⟩
  have Hrow:=q0_ hrow;have F1:=q0_ (Fr.b0 b1);have Ho1:=q0_ (zab Ho.out F1.out)
  have Hst:Hid (l.take i=zao so (l.take (i+1))):=by
   show _=_
   rw[zak hx,zfB,hsx,zjS hall];simp
  have hi1:IntKind.i64.wrap ((i:Int)+1)=(i:Int)+1:=by simp[IntKind.wrap,IntKind.signed,IntKind.bits];omega
  have hine:((i:Int)== -1)=false:=by simp
  have hcn:n≤c:=(zal Ho.out).1;clear hx hsx hall b1 hrow HI;go_wp2_with fail
  go_loopw [5,6] (fun i' j' wr=>∃ (ki kj:Nat) (m:List zaf),ki<kj∧kj≤n∧i'=.int .i64 ki∧j'=.int .i64 kj∧m.length=n∧m.take ki=zao so (l.take kj)∧m.drop kj=l.drop kj∧wr.ownsRow base 198 7 (.slice (some ⟨g,0,none⟩) n c) n (zaA m)∧Fr (fun j=>j=g) w wr) (fun _ j' _=>n-(intOf j').toNat)
  case atStart=>exact⟨i,i+1,l,by omega,by omega,rfl,by go_num,hlen,Hst.out,rfl,Ho1.out,F1.out.mono q4_⟩
  case round=>
   obtain⟨ki,kj,m,hij,hk,rfl,rfl,hml,hmt,hmd,hown,hf⟩:=hrel;have Hmt:=q0_ hmt;have Hmd:=q0_ hmd;have Hown:=q0_ hown;have Hf:=q0_ hf;clear hmt hmd hf
   by_cases hlt:kj<n
   ·obtain⟨q,hq⟩:∃ q,m[kj]? =some q:=⟨_,q6_ (by omega)⟩
    obtain⟨d0,d1,d2,d3,d4,d5,d6⟩:=zoc hown hq hlt
    have hql:l[kj]? =some q:=by
     have h1:(m.drop kj)[0]? =(l.drop kj)[0]? :=by rw[Hmd.out]
     simpa[List.getElem?_drop,hq] using h1.symm
    have HD:Hid (∀ o,Calls prog f (#[q.val]++caps) (wr.alloc o) fun r w'=>r=.returned (.bool (so q))∧Below (wr.alloc o).heap.size (wr.alloc o) w'):=fun o=>Hd.out _ ((Hf.out.trans (Fr.none_alloc _ _) q4_).mono (fun j hj=>.inl ((Hrow.out j).2 hj))) q (zaa hql);unfold zaf.val at HD;have Hql:=q0_ hql
    have kn:0≤(kj:Int)∧(kj:Int)<(n:Int):=by omega
    have ki2:0≤(ki:Int)∧(ki:Int)<(n:Int):=by omega
    clear hown hql hq
    cases hs:so q
    ·rw[hs] at HD
     obtain⟨z,hz⟩:∃ z,m[ki]? =some z:=⟨_,q6_ (by omega)⟩
     have HB:Hid (Blk (wr.alloc (.cells #[.string q.name,.int .i64 q.start,.int .i64 q.agg.count,.int .i64 q.agg.hi,.int .u64 q.agg.lo,.int .i64 q.agg.min,.int .i64 q.agg.max] 198)) wr.heap.size 198 #[.string q.name,.int .i64 q.start,.int .i64 q.agg.count,.int .i64 q.agg.hi,.int .u64 q.agg.lo,.int .i64 q.agg.min,.int .i64 q.agg.max]):=Blk.new _ _ _;have Hz:=q0_ hz;clear hz
     go_wp2_with (first
      | (go_at_fn f;refine (HD.out _).mono ?_;rintro e w2 ⟨rfl,b2⟩;have B2:=q0_ (HB.out.below b2);have F2:=q0_ ((Fr.none_alloc wr _).trans (Fr.b0 b2) q4_);clear b2;clear d0 d1 d2 d3 d4 d5 d6;have y0:=B2.out.cell 0;have y1:=B2.out.cell 1;have y2:=B2.out.cell 2;have y3:=B2.out.cell 3;have y4:=B2.out.cell 4;have y5:=B2.out.cell 5;have y6:=B2.out.cell 6;simp only[q1_,q2_,q3_] at y0 y1 y2 y3 y4 y5 y6;have Hown2:=q0_ (zab Hown.out F2.out);obtain⟨z0,z1,z2,z3,z4,z5,z6⟩:=zoc Hown2.out Hz.out (by omega);have g0:=Hown2.out.frozenAt (ki*7);have g1:=Hown2.out.frozenAt (ki*7+1);have g2:=Hown2.out.frozenAt (ki*7+2);have g3:=Hown2.out.frozenAt (ki*7+3);have g4:=Hown2.out.frozenAt (ki*7+4);have g5:=Hown2.out.frozenAt (ki*7+5);have g6:=Hown2.out.frozenAt (ki*7+6))
      | go_in)
     go_roundw
     case rel=>
      have hr:=zhz [.string q.name,.int .i64 q.start,.int .i64 q.agg.count,.int .i64 q.agg.hi,.int .u64 q.agg.lo,.int .i64 q.agg.min,.int .i64 q.agg.max] (ki*7) w2 _ Hown2.out;have hfr:=zjp (g:=g) [.string q.name,.int .i64 q.start,.int .i64 q.agg.count,.int .i64 q.agg.hi,.int .u64 q.agg.lo,.int .i64 q.agg.min,.int .i64 q.agg.max] (ki*7) w2;rw[show zgs (zaA m) (ki*7) [.string q.name,.int .i64 q.start,.int .i64 q.agg.count,.int .i64 q.agg.hi,.int .u64 q.agg.lo,.int .i64 q.agg.min,.int .i64 q.agg.max]=zaA (m.set ki q) from znY m q Hz.out] at hr;refine⟨ki+1,kj+1,m.set ki q,by omega,by omega,by go_num,by go_num,by simp[hml],?_,?_,hr,(Hf.out.trans F2.out q4_).trans hfr (fun i hi=>.inl hi)⟩
      ·rw[zak Hql.out,zfB,hs, ← Hmt.out]
       have h1:(m.set ki q)[ki]? =some q:=List.getElem?_set_self (by omega);rw[zak h1,List.take_set_of_le (Nat.le_refl _)];simp
      ·rw[List.drop_set_of_lt (by omega), ← List.drop_drop, ← List.drop_drop,Hmd.out]
     case measure=>simp[intOf];omega
    ·rw[hs] at HD
     go_wp2_with (first
      | (go_at_fn f;refine (HD.out _).mono ?_;rintro e w2 ⟨rfl,b2⟩)
      | go_in)
     have F2:=q0_ ((Fr.none_alloc wr _).trans (Fr.b0 b2) q4_);clear b2
     go_roundw
     case rel=>
      refine⟨ki,kj+1,m,by omega,by omega,rfl,by go_num,hml,?_,?_,zab Hown.out F2.out,Hf.out.trans F2.out q4_⟩
      ·rw[zak Hql.out,zfB,hs,Hmt.out];simp
      ·rw[← List.drop_drop, ← List.drop_drop,Hmd.out]
     case measure=>simp[intOf];omega
   ·obtain rfl:kj=n:=by omega
    have hl:l.take kj=l:=zaN (by rw[hlen];exact Nat.le_refl _);rw[hl] at Hmt;obtain⟨vs,hvs⟩:=zhi wr g (ki*7) (kj-ki) (c-ki) (by omega) (fun j hj=>by rw[hown.cellAt (ki*7+j) (by omega),q6_ (by rw[show (zaA m).length=m.length*7 from zb6 zb7 m];omega)];rfl) (fun j hj=>hown.frozenAt _)
    have hki:(zao so l).length=ki:=by rw[← Hmt.out,List.length_take];omega
    have ho2:=zod hown (show ki≤kj by omega) (by omega)
    rw[show (zaA m).take (ki*7)=zaA (zao so l) by
     rw[← Hmt.out];unfold zaA
     conv=>lhs;rw[← List.take_append_drop ki m,List.flatMap_append]
     rw[List.take_left' (by rw[zb6 zb7,List.length_take];rw[Nat.min_eq_left (by omega)])]] at ho2
    have Ho3:=q0_ (zdG vs (ki*7) wr ho2 (Nat.le_refl _));have F3:=q0_ (Hf.out.trans (zgt (g:=g) vs (ki*7) wr) (fun i hi=>.inl hi));clear hl ho2 hown
    have kc:0≤(ki:Int)∧(ki:Int)≤(kj:Int)∧(ki:Int)≤(c:Int)∧(kj:Int)≤(c:Int):=by omega
    go_wp2;go_ret;rw[hki];exact⟨⟨rfl,Ho3.out⟩,F3.out.mono (fun j hj=>.inl ((Hrow.out j).2 hj))⟩
def zeX(e fr:Int)(l:List zaf):List zaf:=(l.map fun r=>(⟨r.name,zas r.start e,r.agg⟩:zaf)).filter fun r=>decide (fr≤r.start)
def zc1(every e fr:Int)(l:List zaf):List zaf:=if zau every e then zbf e [] (zeX e fr l) else[]
theorem zmB(e fr:Int)(l:List zaf)(x:zaf):zeX e fr (l++[x])=zeX e fr l++(if decide (fr≤zas x.start e) then[⟨x.name,zas x.start e,x.agg⟩] else[]):=by
 unfold zeX;rw[List.map_append,List.filter_append]
 congr 1
 simp only[List.map_cons,List.map_nil]
 cases h:decide (fr≤zas x.start e)<;>simp[h]
theorem zjy(e fr:Int)(l:List zaf):(zeX e fr l).length≤l.length:=by
 unfold zeX;refine Nat.le_trans (List.length_filter_le _ _) (by simp)
theorem zkD(g:Nat)(every:Int)(b:Nat)(l:List zaf)(e fr:Int)(he:zbx e)(w:World)(h:zar w g every b l)(hl:l.length≤100000000):
  Calls prog 189 #[.pointer (some ⟨g,0,none⟩),.int .i64 e,.int .i64 fr] w fun r w'=>(∃ g' b',r=.returned (.pointer (some ⟨g',0,none⟩))∧zar w' g' (max e 1) b' (zc1 every (max e 1) fr l)∧w.heap.size≤g'∧w.heap.size≤b')∧Below w.heap.size w w':=by
 have HNw:=q0_ (zfo e w);have Hwf:=q0_ h.own.wf;have HT:=q0_ h
 have hem:zbx (max e 1):=by unfold zbx at*;omega
 have hem1:1≤max e 1:=by omega
 obtain⟨m,hm⟩:∃ m,max e 1=m:=⟨_,rfl⟩
 rw[hm] at HNw hem hem1 ⊢;unfold zc1
 obtain⟨RV,hRV⟩:∃ RV,(if zau every m=true then zbf m [] (zeX m fr l) else[])=RV:=⟨_,rfl⟩
 rw[hRV];have HRV:=q0_ hRV;clear h hm he hRV;go_enter func189,ntmps189;go_wp2_with fail;refine HNw.out.mono ?_;rintro r w1 ⟨⟨g',b',rfl,ht',hg',hb'⟩,b1⟩;have T1:=q0_ (HT.out.fr0 (Fr.b0 b1));have N1:=q0_ ht';have O1:=q0_ b1;have HE:Hid (∀ W,Fr (fun _=>False) w1 W→Calls prog 221 #[.pointer (some ⟨g,0,none⟩)] W fun r w'=>r=.returned (.int .i64 every)∧W=w'):=fun W f=>zje g every b W (T1.out.blk.fr f (fun h=>h));have HD:Hid (∀ W,Calls prog 208 #[.int .i64 every,.int .i64 m] W fun r w'=>r=.returned (.bool (zau every m))∧W=w'):=fun W=>zb0 every m W;have HC:Hid (∀ W,Fr (fun _=>False) w1 W→W.cell? ⟨g',0,none⟩=some (.int .i64 m)):=fun W f=>(N1.out.blk.fr f (fun h=>h)).cell 0;clear ht' b1 HNw
 cases hdv:zau every m
 ·rw[hdv] at HD
  go_wp2_with fail;refine wp_region_held_drew (S:=fun W=>Fr (fun _=>False) w1 W) (by kernel_rfl) ((Fr.refl _ w1).drew) (fun hY_=>?_);refine tq 5 [0,2,3,4,5] ?_
  iterate 4 refine sk ?_
  refine sf HC.out ?_
  try simp only[Act.put,sA,sB,sC]
  refine sz ?_
  try simp only[Act.put,sA,sB,sC]
  refine rl 1 rfl (fun K hK=>?_);go_simp
  go_wp2_with (go_at_call 221;refine (HE.out _ hY_).mono ?_;rintro r w5 ⟨rfl,rfl⟩)
  refine hK.out _ _ (hY_) (fun hY_=>?_);clear hK K
  try simp only[Act.put,sA,sB,sC]
  refine rl 6 rfl (fun K hK=>?_);go_simp
  go_wp2_with (go_at_call 208;refine (HD.out _).mono ?_;rintro r w6 ⟨rfl,rfl⟩)
  refine hK.out _ _ (hY_) (fun hY_=>?_);clear hK K;refine tl 7 ?v6 rfl ?q6 ?r6
  case q6=>intro W hSw;go_simp;try rfl
  try simp only[Act.put,sA,sB,sC]
  refine wpAnyH_done (by kernel_rfl) ?_ _;go_wp2;go_ret;have hr:=HRV.out;rw[hdv,if_neg (by simp)] at hr;rw[← hr];exact⟨⟨g',b',rfl,N1.out.fr0 hY_,hg',hb'⟩,O1.out.trans ((hY_.below q4_).mono O1.out.size)⟩
 ·rw[hdv] at HD
  go_wp2_with fail;refine wp_region_held_drew (S:=fun W=>Fr (fun _=>False) w1 W) (by kernel_rfl) ((Fr.refl _ w1).drew) (fun hY_=>?_);refine tq 5 [0,2,3,4,5] ?_
  iterate 4 refine sk ?_
  refine sf HC.out ?_
  try simp only[Act.put,sA,sB,sC]
  refine sz ?_
  try simp only[Act.put,sA,sB,sC]
  refine rl 1 rfl (fun K hK=>?_);go_simp
  go_wp2_with (go_at_call 221;refine (HE.out _ hY_).mono ?_;rintro r w5 ⟨rfl,rfl⟩)
  refine hK.out _ _ (hY_) (fun hY_=>?_);clear hK K
  try simp only[Act.put,sA,sB,sC]
  refine rl 6 rfl (fun K hK=>?_);go_simp
  go_wp2_with (go_at_call 208;refine (HD.out _).mono ?_;rintro r w6 ⟨rfl,rfl⟩)
  refine hK.out _ _ (hY_) (fun hY_=>?_);clear hK K;refine tl 7 ?v12 rfl ?q12 ?r12
  case q12=>intro W hSw;go_simp;try rfl
  try simp only[Act.put,sA,sB,sC]
  refine wpAnyH_done (by kernel_rfl) ?_ _;have HA:=q0_ (zcd g every b l w1.drew (T1.out.fr0 hY_) (by omega));have N2:=q0_ (N1.out.fr0 hY_);have O2:Hid (Below w.heap.size w w1.drew):=O1.out.trans ((hY_.below q4_).mono O1.out.size);clear hY_ HE HD HC N1 O1 T1;go_wp2_with fail;refine HA.out.mono ?_;rintro r w5 ⟨⟨A,c,rfl,ho5⟩,b5⟩;have N5:=q0_ (N2.out.fr0 (Fr.b0 b5));have O5:=q0_ (O2.out.trans (b5.mono O2.out.size));have Ho5:=q0_ ho5
  have hdisj:∀ j,zay (.slice A l.length c) j→¬ j=b':=fun j hj e=>by
   obtain⟨cs',fz,hc⟩:=zdF ho5 hj;obtain⟨es,ck,hbm⟩:=N5.out.own.isMap;rw[e,hbm] at hc
   cases hc
  have Hdj:=q0_ hdisj;have hgb':=N5.out.ne;clear ho5 b5 HA N2 O2 hdisj;go_wp2_with fail
  go_loopw [26] (fun i wr=>∃ k:Nat,k≤l.length∧i=.int .i64 k∧zar wr g' m b' (zbf m [] (zeX m fr (l.take k)))∧Fr (fun j=>j=b') w5 wr) (fun i _=>l.length-(intOf i).toNat)
  case atStart=>exact⟨0,Nat.zero_le _,rfl,N5.out,Fr.refl _ _⟩
  case round=>
   obtain⟨k,hk,rfl,ht,hf⟩:=hrel
   by_cases hlt:k<l.length
   ·obtain⟨ad,q,rfl,hq,d0,d1,d2,d3,d4,d5,d6⟩:=(zal (zah Ho5.out hf Hdj.out)).2.2.1.rec_ hlt
    have hqw:=Hwf.out q (zaa hq);have Ht:=q0_ ht;have Hf:=q0_ hf;have Hq:=q0_ hq;have hcl:=zdu (every:=m) (zeX m fr (l.take k)) zav.nil;have hrl:=zjy m fr (l.take k);rw[List.length_take] at hrl
    obtain⟨cur,hcur⟩:∃ cur,zbf m [] (zeX m fr (l.take k))=cur:=⟨_,rfl⟩
    have HS1:Hid (zbf m [] (zeX m fr (l.take (k+1)))=if decide (fr≤zas q.start m) then zb5 m cur ⟨q.name,zas q.start m,q.agg⟩ else cur):=by
     show _=_
     rw[zak hq,zmB]
     cases decide (fr≤zas q.start m)
     ·simp[hcur]
     ·rw[if_pos rfl,if_pos rfl,zfI,hcur]
    rw[hcur] at Ht hcl;have hfin:=zga (e:=m) hqw.1.1 hqw.1.2
    obtain⟨fv,hfv⟩:∃ fv,zas q.start m=fv:=⟨_,rfl⟩
    have HFl:Hid (∀ W,Calls prog 151 #[.int .i64 q.start,.int .i64 m] W fun r w'=>r=.returned (.int .i64 fv)∧W=w'):=fun W=>by rw[← hfv];exact zf_ q.start m hqw.1.1 hqw.1.2 hem.1 hem.2 W
    rw[hfv] at HS1 hfin
    have hqw2:(⟨q.name,fv,q.agg⟩:zaf).wf:=⟨hfin,hqw.2⟩
    have kn:0≤(k:Int)∧(k:Int)<(l.length:Int):=by omega
    clear ht hf hq hcur hfv hqw;go_wp2_with fail
    obtain⟨W1,hW1⟩:∃ W1,W1=wr.alloc (.cells #[.string q.name,.int .i64 q.start,.int .i64 q.agg.count,.int .i64 q.agg.hi,.int .u64 q.agg.lo,.int .i64 q.agg.min,.int .i64 q.agg.max] 198):=⟨_,rfl⟩
    rw[← hW1];have bq:Blk W1 wr.heap.size 198 #[.string q.name,.int .i64 q.start,.int .i64 q.agg.count,.int .i64 q.agg.hi,.int .u64 q.agg.lo,.int .i64 q.agg.min,.int .i64 q.agg.max]:=hW1▸Blk.new _ _ _
    have t1:zar W1 g' m b' cur:=by rw[hW1];exact Ht.out.fr0 (Fr.none_alloc _ _)
    have f1:Fr (fun j=>j=b') w5 W1:=by rw[hW1];exact Hf.out.trans (Fr.none_alloc _ _) q4_
    have hwq:w5.heap.size≤wr.heap.size:=Hf.out.size;have x1:W1.drew.cell? ⟨wr.heap.size,1,none⟩=some (.int .i64 q.start):=bq.cell 1;have e0:W1.drew.cell? ⟨g',0,none⟩=some (.int .i64 m):=t1.blk.cell 0;have z1:=bq.frozen 1;have Bq:=q0_ bq;have T1:=q0_ t1;have F1:=q0_ f1;clear bq t1 f1 hW1 Ht Hf d0 d1 d2 d3 d4 d5 d6;refine wp_region_any (by kernel_rfl) ?_;change wpAny _ _ _ _ _ _ _ (World.drew _);refine nl 0 ?v13 rfl ?q13 ?r13
    case q13=>intro W;go_simp;try rfl
    refine nl 2 ?v14 rfl ?q14 ?r14
    case q14=>intro W;go_simp;try rfl
    refine nl 3 ?v15 rfl ?q15 ?r15
    case q15=>intro W;go_simp;try rfl
    refine nl 4 ?v16 rfl ?q16 ?r16
    case q16=>intro W;go_simp;try rfl
    try simp only[Act.put,sA,sB,sC]
    refine wpAny_ready (rs:=[1,5]) (by kernel_rfl) (by simp) ?_;refine AllReady.cons (dg rfl) (fun K hK=>?_) ?_
    ·go_simp
     refine hK _ _ ?_;clear hK K
     try simp only[Act.put,sA,sB,sC]
     refine rn 5 rfl (fun K hK=>?_);go_simp;refine hK _ _ ?_;clear hK K
     try simp only[Act.put,sA,sB,sC]
     refine rn 6 rfl (fun K hK=>?_);go_simp
     go_wp2_with (go_at_call 151;refine (HFl.out _).mono ?_;rintro r w6 ⟨rfl,rfl⟩)
     refine nl 7 ?v17 rfl ?q17 ?r17
     case q17=>intro W;go_simp;try rfl
     try simp only[Act.put,sA,sB,sC]
     refine rn 8 rfl (fun K hK=>?_);go_simp;refine hK _ _ ?_;clear hK K
     try simp only[Act.put,sA,sB,sC]
     refine wpAny_done (by kernel_rfl) ?_ _;clear x1 e0 z1
     obtain⟨W2,hW2⟩:∃ W2,W2=(W1.setCell ⟨wr.heap.size,1,none⟩ (.int .i64 fv)).drew:=⟨_,rfl⟩
     rw[← hW2]
     have f12:Fr (fun j=>j=wr.heap.size) W1 W2:=by rw[hW2];exact ((Fr.refl (fun j=>j=wr.heap.size) W1).setCell (p:=⟨wr.heap.size,1,none⟩) (.inl rfl) _).drew
     have B2:Hid (Blk W2 wr.heap.size 198 #[.string q.name,.int .i64 fv,.int .i64 q.agg.count,.int .i64 q.agg.hi,.int .u64 q.agg.lo,.int .i64 q.agg.min,.int .i64 q.agg.max]):=hW2▸Bq.out.set_ 1 _;have T2:Hid (zar W2 g' m b' cur):=T1.out.fr f12 (by have:=N5.out.blk.lt;omega) (by have:=N5.out.own.lt;omega);have F2:Hid (Fr (fun j=>j=b') w5 W2):=F1.out.trans f12 (fun i hi=>.inr (by rw[hi];exact hwq));have x0:=B2.out.cell 0;have x1:=B2.out.cell 1;have x2:=B2.out.cell 2;have x3:=B2.out.cell 3;have x4:=B2.out.cell 4;have x5:=B2.out.cell 5;have x6:=B2.out.cell 6;simp only[q1_,q2_,q3_] at x0 x1 x2 x3 x4 x5 x6;clear hW2 f12 Bq T1 F1
     by_cases hff:fr≤fv
     ·have hfd:decide (fr≤fv)=true:=qa_ hff
      have HAdd:=q0_ (zfJ g' m b' cur [⟨q.name,fv,q.agg⟩] (some ⟨W2.heap.size,0,none⟩) 1 1 (W2.alloc (.cells #[.string q.name,.int .i64 fv,.int .i64 q.agg.count,.int .i64 q.agg.hi,.int .u64 q.agg.lo,.int .i64 q.agg.min,.int .i64 q.agg.max] 198)) (T2.out.fr0 (Fr.none_alloc _ _)) (Rd.newS rfl _ _ 1 7 rfl) (fun a ha=>by rw[List.mem_singleton] at ha;rw[ha];exact hqw2) (by simp at hcl;omega));go_wp2_with fail;refine HAdd.out.mono ?_;rintro r w7 ⟨rfl,t7,f7⟩;have T7:=q0_ t7;have F7:=q0_ ((F2.out.trans (Fr.none_alloc _ _) q4_).trans f7 (fun i hi=>.inl hi));clear t7 f7 x0 x1 x2 x3 x4 x5 x6
      go_wp2
      go_roundw
      case rel=>exact⟨k+1,by omega,by go_num,by rw[HS1.out,hfd,if_pos rfl];exact T7.out,F7.out⟩
      case measure=>simp[intOf];omega
     ·have hfd:decide (fr≤fv)=false:=q9_ hff
      go_wp2
      go_roundw
      case rel=>exact⟨k+1,by omega,by go_num,by rw[HS1.out,hfd,if_neg (by simp)];exact T2.out,F2.out⟩
      case measure=>simp[intOf];omega
    refine AllReady.cons (dg rfl) (fun K hK=>?_) ?_
    ·go_simp
     refine hK _ _ ?_;clear hK K
     try simp only[Act.put,sA,sB,sC]
     refine rn 1 rfl (fun K hK=>?_);go_simp;refine hK _ _ ?_;clear hK K
     try simp only[Act.put,sA,sB,sC]
     refine rn 6 rfl (fun K hK=>?_);go_simp
     go_wp2_with (go_at_call 151;refine (HFl.out _).mono ?_;rintro r w6 ⟨rfl,rfl⟩)
     refine nl 7 ?v18 rfl ?q18 ?r18
     case q18=>intro W;go_simp;try rfl
     try simp only[Act.put,sA,sB,sC]
     refine rn 8 rfl (fun K hK=>?_);go_simp;refine hK _ _ ?_;clear hK K
     try simp only[Act.put,sA,sB,sC]
     refine wpAny_done (by kernel_rfl) ?_ _;clear x1 e0 z1
     obtain⟨W2,hW2⟩:∃ W2,W2=(W1.setCell ⟨wr.heap.size,1,none⟩ (.int .i64 fv)).drew:=⟨_,rfl⟩
     rw[← hW2]
     have f12:Fr (fun j=>j=wr.heap.size) W1 W2:=by rw[hW2];exact ((Fr.refl (fun j=>j=wr.heap.size) W1).setCell (p:=⟨wr.heap.size,1,none⟩) (.inl rfl) _).drew
     have B2:Hid (Blk W2 wr.heap.size 198 #[.string q.name,.int .i64 fv,.int .i64 q.agg.count,.int .i64 q.agg.hi,.int .u64 q.agg.lo,.int .i64 q.agg.min,.int .i64 q.agg.max]):=hW2▸Bq.out.set_ 1 _;have T2:Hid (zar W2 g' m b' cur):=T1.out.fr f12 (by have:=N5.out.blk.lt;omega) (by have:=N5.out.own.lt;omega);have F2:Hid (Fr (fun j=>j=b') w5 W2):=F1.out.trans f12 (fun i hi=>.inr (by rw[hi];exact hwq));have x0:=B2.out.cell 0;have x1:=B2.out.cell 1;have x2:=B2.out.cell 2;have x3:=B2.out.cell 3;have x4:=B2.out.cell 4;have x5:=B2.out.cell 5;have x6:=B2.out.cell 6;simp only[q1_,q2_,q3_] at x0 x1 x2 x3 x4 x5 x6;clear hW2 f12 Bq T1 F1
     by_cases hff:fr≤fv
     ·have hfd:decide (fr≤fv)=true:=qa_ hff
      have HAdd:=q0_ (zfJ g' m b' cur [⟨q.name,fv,q.agg⟩] (some ⟨W2.heap.size,0,none⟩) 1 1 (W2.alloc (.cells #[.string q.name,.int .i64 fv,.int .i64 q.agg.count,.int .i64 q.agg.hi,.int .u64 q.agg.lo,.int .i64 q.agg.min,.int .i64 q.agg.max] 198)) (T2.out.fr0 (Fr.none_alloc _ _)) (Rd.newS rfl _ _ 1 7 rfl) (fun a ha=>by rw[List.mem_singleton] at ha;rw[ha];exact hqw2) (by simp at hcl;omega));go_wp2_with fail;refine HAdd.out.mono ?_;rintro r w7 ⟨rfl,t7,f7⟩;have T7:=q0_ t7;have F7:=q0_ ((F2.out.trans (Fr.none_alloc _ _) q4_).trans f7 (fun i hi=>.inl hi));clear t7 f7 x0 x1 x2 x3 x4 x5 x6
      go_wp2
      go_roundw
      case rel=>exact⟨k+1,by omega,by go_num,by rw[HS1.out,hfd,if_pos rfl];exact T7.out,F7.out⟩
      case measure=>simp[intOf];omega
     ·have hfd:decide (fr≤fv)=false:=q9_ hff
      go_wp2
      go_roundw
      case rel=>exact⟨k+1,by omega,by go_num,by rw[HS1.out,hfd,if_neg (by simp)];exact T2.out,F2.out⟩
      case measure=>simp[intOf];omega
    exact AllReady.nil
   ·have hkl:k=l.length:=by omega
    subst hkl;rw[List.take_length] at ht;have hr:=HRV.out;rw[hdv,if_pos rfl] at hr;rw[hr] at ht;have Ht:=q0_ ht;have Hf:=q0_ (hf.below_of (B:=w.heap.size) O5.out.size (fun i hi=>by rw[hi];exact hb'));clear ht hf hr;go_wp2;go_ret;exact⟨⟨g',b',rfl,Ht.out,hg',hb'⟩,O5.out.trans Hf.out⟩
open Go.Maps (Keyed int_keyed keyOf_int_mk)
def zhe(M:Int)(l:List zaf)(k:Nat):Nat:=(l.filter fun r=>decide (za3 r.name M=(k:Int))).length
def ze6(M:Int)(l:List zaf):Nat:=((List.range M.toNat).map fun k=>(zhe M l k+2) / 3).sum
theorem zdY(M:Int)(l:List zaf)(r:zaf)(k:Nat):zhe M (l++[r]) k=zhe M l k+(if za3 r.name M=(k:Int) then 1 else 0):=by
 unfold zhe;rw[List.filter_append,q8_]
 congr 1
 by_cases h:za3 r.name M=(k:Int)<;>simp[h]
theorem zlo(M:Int)(l:List zaf)(k:Nat):zhe M l k≤l.length:=List.length_filter_le _ _
structure zqv(M:Int)(l:List zaf)(D:DataW Unit):Prop where
 isMap:Maps.IsMap D
 key:∀ z,Maps.has D z=true→∃ j:Nat,(j:Int)<M∧z=.int .i64 j∧0<zhe M l j
 at_:∀ j:Nat,D.atKey (.int .i64 j) (.lit (.int .i64 0))=.lit (.int .i64 (zhe M l j:Nat))
 pos:∀ j:Nat,0<zhe M l j→Maps.has D (.int .i64 j)=true
theorem zqv.nil(M:Int):zqv M [] (.map []):=⟨Maps.isMap_empty,fun z h=>(by simp[Maps.has_eq] at h),fun j=>rfl,fun j h=>absurd h (Nat.lt_irrefl 0)⟩
theorem zqv.step{M:Int}{l:List zaf}{D:DataW Unit}(h:zqv M l D)(r:zaf){j:Nat}(hj:za3 r.name M=(j:Int))(hjM:(j:Int)<M):zqv M (l++[r]) (D.put (.int .i64 j) (.lit (.int .i64 ((zhe M l j:Nat)+1)))):=by
 have hk:WideAt.IsKeyLit (.int .i64 (j:Int)):=trivial;refine⟨h.isMap.put _ _,fun z hz=>?_,fun i=>?_,fun i hi=>?_⟩
 ·by_cases e:z=.int .i64 (j:Int)
  ·exact⟨j,hjM,e,by rw[zdY,if_pos hj];omega⟩
  ·rw[Maps.has_put_other e] at hz
   obtain⟨i,h1,h2,h3⟩:=h.key z hz;exact⟨i,h1,h2,by rw[zdY];omega⟩
 ·by_cases e:i=j
  ·subst e
   rw[Maps.atKey_put_same h.isMap hk,zdY,if_pos hj]
   rfl
  ·rw[Maps.atKey_put_other (by simp;omega),h.at_ i,zdY,if_neg (by rw[hj];omega)]
   rfl
 ·by_cases e:i=j
  ·subst e;exact Maps.has_put_same h.isMap hk _
  ·rw[Maps.has_put_other (by simp;omega)]
   rw[zdY,if_neg (by rw[hj];omega)] at hi;exact h.pos i hi
def zgG(M:Int)(l:List zaf)(left:Lit→Bool):Nat:=((List.range M.toNat).map fun (k:Nat)=>if left (.int .i64 (k:Int))=true then 0 else (zhe M l k+2) / 3).sum
theorem znE:∀ (n:Nat) (f g:Nat→Nat) (x d:Nat),x<n→f x=g x+d→(∀ k,k≠x→f k=g k)→((List.range n).map f).sum=((List.range n).map g).sum+d
 | 0,_,_,_,_,h,_,_=>by omega
 | n+1,f,g,x,d,h,h1,h2=>by
  rw[List.range_succ,List.map_append,List.map_append,List.sum_append,List.sum_append];simp only[List.map_cons,List.map_nil,List.sum_cons,List.sum_nil]
  by_cases e:x=n
  ·subst e
   have:(List.range x).map f=(List.range x).map g:=List.map_congr_left (fun k hk=>h2 k (by have:=List.mem_range.1 hk;omega));rw[this];omega
  ·have:=znE n f g x d (by omega) h1 h2
   rw[this,h2 n (fun h=>e h.symm)];omega
theorem zqp:∀ (n:Nat) (f:Nat→Nat) (c:Nat),(∀ k,f k≤c)→((List.range n).map f).sum≤n*c
 | 0,_,_,_=>by simp
 | n+1,f,c,h=>by
  rw[List.range_succ,List.map_append,List.sum_append];simp only[List.map_cons,List.map_nil,List.sum_cons,List.sum_nil];have h1:=zqp n f c h;have h2:=h n;rw[Nat.add_mul];omega
theorem ziz(M:Int)(hM:M≤8)(l:List zaf)(left:Lit→Bool):zgG M l left≤8*(l.length+2):=by
 unfold zgG;refine Nat.le_trans (zqp M.toNat _ (l.length+2) (fun k=>?_)) (Nat.mul_le_mul_right _ (show M.toNat≤8 by omega))
 split
 ·omega
 ·have:=zlo M l k;omega
theorem zmJ{M:Int}{l:List zaf}{left:Lit→Bool}{j:Nat}(hj:(j:Int)<M)(hl:left (.int .i64 (j:Int))=true):zgG M l (fun z=>left z&& !z.sameKey (.int .i64 (j:Int)))=zgG M l left+(zhe M l j+2) / 3:=by
 unfold zgG;refine znE M.toNat _ _ j _ (by omega) ?_ (fun k hk=>?_)
 ·have hs:(Lit.int .i64 (j:Int)).sameKey (.int .i64 (j:Int))=true:=WideAt.sameKey_self trivial
  simp[hl,hs]
 ·have hs:(Lit.int .i64 (k:Int)).sameKey (.int .i64 (j:Int))=false:=Maps.sameKey_ne (by simp;omega)
  simp[hs]
theorem zkW{M:Int}{l:List zaf}{D:DataW Unit}(h:zqv M l D):zgG M l (Maps.has D)=0:=by
 unfold zgG
 have:((List.range M.toNat).map fun (k:Nat)=>if Maps.has D (.int .i64 (k:Int))=true then 0 else (zhe M l k+2) / 3)=(List.range M.toNat).map fun (_:Nat)=>0:=by
  refine List.map_congr_left (fun k _=>?_)
  split
  ·rfl
  ·rename_i hh
   have:zhe M l k=0:=by
    rcases Nat.eq_zero_or_pos (zhe M l k) with h0 | h0
    ·exact h0
    ·exact absurd (h.pos k h0) hh
   rw[this]
 rw[this]
 induction M.toNat with
 | zero=>rfl
 | succ n ih=>rw[List.range_succ,List.map_append,List.sum_append,ih];rfl
theorem zjH{M:Int}{l:List zaf}{left:Lit→Bool}(h:∀ z,left z=false):zgG M l left=ze6 M l:=by
 unfold zgG ze6
 congr 1
 exact List.map_congr_left (fun k _=>by rw[h];rfl)
theorem zhx(s:ByteArray)(M:Int)(h:1≤M):∃ j:Nat,za3 s M=(j:Int)∧(j:Int)<M:=by
 have h1:0≤za3 s M∧za3 s M<M:=by
  unfold za3;rw[if_neg (by omega)];exact⟨Int.emod_nonneg _ (by omega),Int.emod_lt_of_pos _ (by omega)⟩
 obtain⟨j,hj⟩:=Int.eq_ofNat_of_zero_le h1.1;exact⟨j,hj,by omega⟩
theorem zmK{w w':World}{F:Nat→Prop}{b n:Nat}{D:DataW Unit}(h:w.ownsMap prog 3 (plainElem prog 3) b n D)(hf:Fr F w w')(hn:¬ F b):w'.ownsMap prog 3 (plainElem prog 3) b n D:=by
 have hlt:=h.lt;obtain⟨es,clock,hb,hfit,hs,hD⟩:=h;exact⟨es,clock,(hf.block b hlt hn).trans hb,hfit,hs,hD⟩
theorem zlV:Keyed prog 3:=int_keyed underlying3
theorem zqw(w:World):(zeroValue 3).run prog w=.ok (.int .i64 0) w:=by kernel_rfl
theorem zop{a b:Int}(h:(DataW.lit (.int .i64 a):DataW Unit)=.lit (.int .i64 b)):b=a:=by
 simp at h;exact h.symm
theorem zqo{x:Int}(h:zbx x):(Lit.int .i64 x).wf=true:=by
 obtain⟨h1,h2⟩:=h;simp[Lit.wf,IntKind.min,IntKind.max,IntKind.bits,IntKind.signed];omega
theorem zkE(g:Nat)(every:Int)(b:Nat)(l:List zaf)(sh:Int)(hsh:sh≤8)(w:World)(h:zar w g every b l)(hl:l.length≤100000000):
  Calls prog 149 #[.pointer (some ⟨g,0,none⟩),.int .i64 sh] w fun r w'=>r=.returned (.int .i64 (ze6 (max sh 1) l:Nat))∧Below w.heap.size w w':=by
 have Hwf:=q0_ h.own.wf
 obtain⟨W1,hW1⟩:∃ W1,W1=w.alloc (.map #[] 0):=⟨_,rfl⟩
 have HW1:=q0_ hW1
 have T1:zar W1 g every b l:=by rw[hW1];exact h.fr0 (Fr.none_alloc _ _)
 have M1:Hid (W1.ownsMap prog 3 (plainElem prog 3) w.heap.size 0 (.map []:DataW Unit)):=by show World.ownsMap _ _ _ _ _ _ _;rw[hW1];exact World.ownsMap_made _ _ _ _
 have O1:Hid (Own w W1 (fun j=>j=w.heap.size)):=by show Own _ _ _;rw[hW1];exact ((Own.start w).skip (Fr.none_alloc _ _)).also (fun k hk=>by rw[hk];exact Nat.le_refl _)
 have HA:=q0_ (zcd g every b l W1 T1 (by omega));have hs1:w.heap.size<W1.heap.size:=M1.out.lt;have hmm:= @run_makeMap prog
 have hM8:max sh 1≤8:=by omega
 have hM1:1≤max sh 1:=by omega
 obtain⟨M,hM⟩:∃ M,max sh 1=M:=⟨_,rfl⟩
 rw[hM] at hM8 hM1 ⊢;clear h hW1 T1;go_enter func149,ntmps149;go_wp2_with fail;rw[← HW1.out];refine HA.out.mono ?_;rintro r w5 ⟨⟨A,c,rfl,ho5⟩,b5⟩;have O5:=q0_ (O1.out.skip (Fr.b0 b5));have M5:=q0_ (zmK M1.out (Fr.b0 b5) (fun h=>h));have Ho5:=q0_ ho5
 have Hdj:Hid (∀ j,zay (.slice A l.length c) j→¬ j=w.heap.size):=fun j hj e=>by have:=(Ho5.out.lt j hj).1;omega
 clear ho5 b5 HA M1 O1 hs1;go_wp2_with fail
 go_loopw [15] (fun i wr=>∃ (k:Nat) (D:DataW Unit),k≤l.length∧i=.int .i64 k∧wr.ownsMap prog 3 (plainElem prog 3) w.heap.size k D∧zqv M (l.take k) D∧Fr (fun j=>j=w.heap.size) w5 wr) (fun i _=>l.length-(intOf i).toNat)
 case atStart=>exact⟨0,_,Nat.zero_le _,rfl,M5.out,zqv.nil M,Fr.refl _ _⟩
 case round=>
  obtain⟨k,D,hk,rfl,hown,hcd,hf⟩:=hrel
  by_cases hlt:k<l.length
  ·obtain⟨ad,q,rfl,hq,d0,d1,d2,d3,d4,d5,d6⟩:=(zal (zah Ho5.out hf Hdj.out)).2.2.1.rec_ hlt
   have hqw:=Hwf.out q (zaa hq);obtain⟨j,hj,hjM⟩:=zhx q.name M hM1
   have HSh:Hid (∀ W,Calls prog 186 #[.string q.name,.int .i64 M] W fun r w'=>r=.returned (.int .i64 j)∧W=w'):=fun W=>by rw[← hj];exact zeW q.name hqw.2.2 M W
   have hkey:keyOf prog 3 (.int .i64 (j:Int))=some (.int .i64 (j:Int)):=keyOf_int_mk underlying3 (zqo (by unfold zbx;omega));have hcl:=zlo M (l.take k) j;rw[List.length_take] at hcl;have hat0:=hcd.at_ j
   obtain⟨cn,hcn⟩:∃ cn,zhe M (l.take k) j=cn:=⟨_,rfl⟩
   have Hstep:=q0_ (hcd.step q hj hjM);rw[hcn] at hat0 hcl Hstep;have Hat:=q0_ hat0
   have hw1:IntKind.i64.wrap ((cn:Int)+1)=(cn:Int)+1:=by simp[IntKind.wrap,IntKind.signed,IntKind.bits];omega
   have hwcn:=q0_ (show (Lit.int .i64 ((cn:Int)+1)).wf=true from zqo (by unfold zbx;omega));have Hq:=q0_ hq;have Hj:=q0_ hj;have Hf:=q0_ hf
   have kn:0≤(k:Int)∧(k:Int)<(l.length:Int):=by omega
   have Hown:=q0_ hown;clear hcd hq hj hf hqw hown hat0 hcn
   go_wp2_with (first
    | (go_at_call 186;refine (HSh.out _).mono ?_;rintro r w6 ⟨rfl,rfl⟩)
    | (at_lookup;refine wpList_lookup_own_int _ rfl _ _ 252 rfl 3 3 .i64 zlV underlying252 underlying3 (zqw _) w.heap.size k _ rfl (Hown.out.alloc _) _ _ rfl hkey ?_;intro cv hat hwc;rw[Hat.out] at hat;obtain rfl:cv=(cn:Int):=zop hat;clear hat hwc)
    | (at_mapUpdate;refine wpList_mapUpdate_own _ rfl _ _ _ 252 rfl 3 3 zlV underlying252 _ w.heap.size k _ rfl (Hown.out.alloc _) (by unfold maxLen;omega) _ _ _ rfl rfl hkey _ [] (plainElem_int underlying3 (a:=(cn:Int)+1) hwcn.out) ?_;intro w7 hown7 hgrow7)
    | go_in)
   have F7:=q0_ ((Hf.out.trans (Fr.none_alloc _ _) q4_).trans (zd_ hgrow7) (fun i hi=>.inl hi));have Hown7:=q0_ hown7;clear hown7 hgrow7
   go_roundw
   case rel=>exact⟨k+1,_,by omega,by go_num,Hown7.out,by rw[zak Hq.out];exact Hstep.out,F7.out⟩
   case measure=>simp[intOf];omega
  ·have hkl:k=l.length:=by omega
   subst hkl;rw[List.take_length] at hcd;have Hcd:=q0_ hcd;have O6:=q0_ (O5.out.fr hf);clear hcd hf Ho5 Hdj O5 M5
   go_wp2_with (first
    | (at_range;refine wpList_range_own _ rfl _ 252 rfl 3 3 zlV underlying252 (plainElem prog 3) w.heap.size l.length _ rfl hown ?_;intro w8 hrg8 hg8 hs8)
    | go_in)
   go_frame
   have hr0:w.heap.size<wr.heap.size:=hown.lt;clear hown
   obtain⟨rb,hrb⟩:∃ rb,wr.heap.size=rb:=⟨_,rfl⟩
   rw[hrb] at hrg8 hr0;have hst:Hid (Below w.heap.size w w8):=(O6.out.fr ((zg0 hg8).mono q4_)).bel;rw[hrb];clear hrb hg8 hs8
   go_loopw [8] (fun t wq=>∃ (left:Lit→Bool) (cnt:Nat),t=.int .i64 (zgG M l left:Nat)∧wq.ranges prog 3 (plainElem prog 3) w.heap.size rb l.length D left cnt∧(∀ z,left z=true→Maps.has D z=true)∧Below w.heap.size w wq) (fun _ wq=>wq.rangeLeft w.heap.size rb)
   case atStart=>exact⟨_,_,by rw[zkW Hcd.out];rfl,hrg8,fun _ h=>h,hst.out⟩
   case round=>
    obtain⟨left,cnt,rfl,hrg,hhas,hbel⟩:=hrel;have Hhas:=q0_ hhas;have Hbel:=q0_ hbel;have hps:=ziz M hM8 l left
    obtain⟨pv,hpv⟩:∃ pv,zgG M l left=pv:=⟨_,rfl⟩
    have Hpv:=q0_ hpv;rw[hpv] at hps ⊢;clear hhas hbel hpv
    go_wp2_with (first
     | (at_next;refine wpList_next_ranges_ii _ rfl _ rfl 3 3 .i64 .i64 zlV underlying3 underlying3 w.heap.size rb l.length _ _ _ rfl hrg ?_ ?_)
     | go_in)
    ·intro _ hl0
     rw[zjH hl0] at Hpv;clear hl0 hrg;go_wp2;go_ret;rw[Hpv.out];exact⟨rfl,Hbel.out⟩
    ·intro x cv w9 cnt9 hwx hwc hlx hat hrg9 hlt9 hg9 hs9 hen
     obtain⟨j,hjM,hx,hpos⟩:=Hcd.out.key _ (Hhas.out _ hlx)
     obtain rfl:x=(j:Int):=by simpa using hx
     have hat1:=hat (.lit (.int .i64 0));rw[Hcd.out.at_ j] at hat1;obtain rfl:cv=(zhe M l j:Nat):=zop hat1;have Hst:=q0_ (zmJ (l:=l) hjM hlx);rw[Hpv.out] at Hst;have Hps2:=q0_ (ziz M hM8 l (fun z=>left z&& !z.sameKey (.int .i64 (j:Int))));have hcl:=zlo M l j
     obtain⟨cn,hcn⟩:∃ cn,zhe M l j=cn:=⟨_,rfl⟩
     rw[hcn] at hen Hst hcl;have Hrg9:=q0_ hrg9;have Hb9:=q0_ (Hbel.out.trans (((zd_ hg9).below_of (B:=w.heap.size) Hbel.out.size (fun i hi=>by rw[hi];omega))))
     have hd:((cn:Int)+3-1).tdiv 3=((cn+2) / 3:Nat):=by rw[Int.tdiv_eq_ediv_of_nonneg (by omega)];omega
     have hw1:IntKind.i64.wrap ((cn:Int)+3)=(cn:Int)+3:=by simp[IntKind.wrap,IntKind.signed,IntKind.bits];omega
     have hw2:IntKind.i64.wrap ((cn:Int)+3-1)=(cn:Int)+3-1:=by simp[IntKind.wrap,IntKind.signed,IntKind.bits];omega
     rw[hcn];clear hat hat1 hx hpos hwx hwc hcn hrg9 hg9;go_wp2
     go_roundw
     case rel=>exact⟨_,cnt9,by rw[Hst.out];push_cast;rfl,Hrg9.out,fun z hz=>Hhas.out z (by cases hz2:left z<;>simp[hz2] at hz ⊢),Hb9.out⟩
     case measure=>rw[Hrg9.out.left_eq,hrg.left_eq];exact hlt9
end Go.Proofs.YteajonicnkpbbaaGreatDoor
