/- Walk of sedimentlaw23.CatTells. -/
import Derived.Test.YteajonicnkpbbaaGreatDoorCatDV
import Derived.Test.YteajonicnkpbbaaGreatDoorCatSame
import Derived.Test.YteajonicnkpbbaaGreatDoorCatO
import Derived.Test.YteajonicnkpbbaaGreatDoorBookITP
namespace Go.Proofs.YteajonicnkpbbaaGreatDoor
set_option linter.all false
set_option maxHeartbeats 16000000
set_option maxRecDepth 100000
open Go.RowKit Tryz
section
variable {P:Program} {w:World} {ops:Array Oper} {rest:List Oper} {o:Oper} {a:Act} {Q:Exit→Act→World→Prop}
theorem zaI(hw:Region.wanted o (yielded ops a.tmps)=true)(p:Operand)(t:TypeId)(ho:o.op=.load t p)(g:Nat)(vs:Array Value)(hp:a.eval p=.pointer (some ⟨g,0,none⟩))
  (hrun:(Instr.loadAt t (.pointer (some ⟨g,0,none⟩))).run P w=.ok (.agg vs) w) (h:wpList P ops Q rest (a.put o.dst (.agg vs)) w):wpList P ops Q (o::rest) a w:=
 wpList_step fun K hK=>by
  rw[if_pos hw];unfold Oper.wp execOp;simp only[ho,Sem.run_bind,hp,hrun,Result.andThen_ok,Sem.run_pure];exact hK _ _ h
end
def zgH(w:World)(g mI mT:Nat):Prop:=∃ (nI nT:Nat) (LI LT:Nat→Prop),zb_ w g g nI LI nT LT∧nI≤mI∧nT≤mT∧(∀ j,LI j∨LT j→j<w.heap.size)
theorem zgH.fr{w w':World}{g mI mT:Nat}(h:zgH w g mI mT)(hb:Below w.heap.size w w'):zgH w' g mI mT:=by
 obtain⟨nI,nT,LI,LT,b,h1,h2,h3⟩:=h;exact⟨nI,nT,LI,LT,b.fr hb,h1,h2,fun j hj=>Nat.lt_of_lt_of_le (h3 j hj) hb.size⟩
theorem zgH.lt{w:World}{g mI mT:Nat}(h:zgH w g mI mT):g<w.heap.size:=by
 obtain⟨_,_,_,_,b,_⟩:=h;exact b.lt
theorem zjy(l:List zaa):(zaf l).length=l.length*4:=by
 unfold zaf
 induction l with
 | nil=>rfl
 | cons x t ih=>rw[List.flatMap_cons,q8_,ih,zem,List.length_cons,Nat.succ_mul];omega
theorem zkE{w:World}{lo n d:Nat}{B:Option Addr}{l:List Int}(h:w.ownsRow lo 3 1 (.slice B (n+1) d) (n+1) (zft l))(hl:l.length=n):Rd w 1 B n (za6 l):=by
 have:=(Rd.of_own h).take (k:=n) (by omega);unfold zft at this;rwa[List.take_left' (by unfold za6;rw[List.length_map,hl,Nat.mul_one])] at this
theorem zkD{w:World}{lo n d:Nat}{B:Option Addr}{l:List zaa}(h:w.ownsRow lo 99 4 (.slice B (n+1) d) (n+1) (zfs l))(hl:l.length=n):Rd w 4 B n (zaf l):=by
 have:=(Rd.of_own h).take (k:=n) (by omega);unfold zfs at this;rwa[List.take_left' (by rw[zjy,hl])] at this
theorem zmy{w:World}{base n size:Nat}{e:TypeId}{v:Value}{xs:List Value}{F:Nat→Prop}{ts:List TypeId}(h:w.ownsRow base e size v n xs)(o:Off w F ts)(he:e∈ts):∀ k,zag v k→¬ F k:=fun k hk hF=>by
 obtain⟨cs,fz,hg⟩:=zc0 h hk;exact o k hF _ _ _ hg he
theorem ze9.off{w w':World}{lo:Nat}{c:zbf}{a:zfI}{F:Nat→Prop}(h:ze9 w lo c a)(f:Fr F w w')(o:Off w F [3,99,56,29]):ze9 w' lo c a:=
 {h with
  op:=o.own h.op (by decide) f
  ot:=o.own h.ot (by decide) f
  of_:=o.own h.of_ (by decide) f
  os:=o.own h.os (by decide) f
  ents:=h.ents.fr f (zmy h.ents.row o (by decide)) (fun x hx=>zmy (h.ents.own x hx) o (by decide))}
structure zgG(W1 W:World)(gb xb mI mT:Nat)(c:zbf)(a:zfI):Prop where
 bk:zgH W gb mI mT
 fr:Fr (fun _=>False) W1 W
 x:Blk W xb 29 (zbU c a)
 i1:∃ lo,W.ownsRow lo 3 1 (.slice a.fA (a.fn+1) a.fc) (a.fn+1) (zft c.fl)
 i2:∃ lo,W.ownsRow lo 3 1 (.slice a.sA (a.sn+1) a.sc) (a.sn+1) (zft c.src)
 t1:∃ lo,W.ownsRow lo 99 4 (.slice a.pA (a.pn+1) a.pc) (a.pn+1) (zfs c.pl)
 t2:∃ lo,W.ownsRow lo 99 4 (.slice a.tA (a.tn+1) a.tc) (a.tn+1) (zfs c.pl2)
theorem zgG.fr0{W1 W W':World}{gb xb mI mT:Nat}{c:zbf}{a:zfI}(h:zgG W1 W gb xb mI mT c a)(f:Fr (fun _=>False) W W'):zgG W1 W' gb xb mI mT c a:=by
 obtain⟨l1,i1⟩:=h.i1;obtain⟨l2,i2⟩:=h.i2;obtain⟨l3,i3⟩:=h.t1;obtain⟨l4,i4⟩:=h.t2;exact⟨h.bk.fr (f.below q4_),h.fr.trans f q4_,h.x.fr f (fun h=>h),⟨l1,za_ i1 f⟩,⟨l2,za_ i2 f⟩,⟨l3,za_ i3 f⟩,⟨l4,za_ i4 f⟩⟩
structure zeI(W1 W:World)(gb xb db lo nI:Nat)(LI:Nat→Prop)(nT:Nat)(LT:Nat→Prop)(c:zbf)(a:zfI)(d:zbf)(da:zfI):Prop where
 bk:zb_ W gb gb nI LI nT LT
 lt:∀ j,LI j∨LT j→j<W.heap.size
 fr:Fr (fun _=>False) W1 W
 x:Blk W xb 29 (zbU c a)
 i1:∃ lo,W.ownsRow lo 3 1 (.slice a.fA (a.fn+1) a.fc) (a.fn+1) (zft c.fl)
 i2:∃ lo,W.ownsRow lo 3 1 (.slice a.sA (a.sn+1) a.sc) (a.sn+1) (zft c.src)
 t1:∃ lo,W.ownsRow lo 99 4 (.slice a.pA (a.pn+1) a.pc) (a.pn+1) (zfs c.pl)
 t2:∃ lo,W.ownsRow lo 99 4 (.slice a.tA (a.tn+1) a.tc) (a.tn+1) (zfs c.pl2)
 dB:Blk W db 29 (zbU d da)
 g:ze9 W lo d da
 w1:W1.heap.size≤gb
 gl:gb≤lo
section
variable {W1 W W':World} {gb xb db lo nI nT:Nat} {LI LT:Nat→Prop} {c d:zbf} {a da:zfI}
theorem zeI.fr0(h:zeI W1 W gb xb db lo nI LI nT LT c a d da)(f:Fr (fun _=>False) W W'):zeI W1 W' gb xb db lo nI LI nT LT c a d da:=by
 obtain⟨l1,i1⟩:=h.i1;obtain⟨l2,i2⟩:=h.i2;obtain⟨l3,i3⟩:=h.t1;obtain⟨l4,i4⟩:=h.t2;exact⟨h.bk.fr (f.below q4_),fun j hj=>Nat.lt_of_lt_of_le (h.lt j hj) f.size,h.fr.trans f q4_,h.x.fr f (fun h=>h),⟨l1,za_ i1 f⟩,⟨l2,za_ i2 f⟩,⟨l3,za_ i3 f⟩,⟨l4,za_ i4 f⟩,h.dB.fr f (fun h=>h),h.g.fr f (fun _ _ h=>h),h.w1,h.gl⟩
theorem zeI.out(h:zeI W1 W gb xb db lo nI LI nT LT c a d da){mI mT:Nat}(hI:nI≤mI)(hT:nT≤mT):zgG W1 W gb xb mI mT c a:=
 ⟨⟨nI,nT,LI,LT,h.bk,hI,hT,h.lt⟩,h.fr,h.x,h.i1,h.i2,h.t1,h.t2⟩
theorem zeI.addI(h:zeI W1 W gb xb db lo nI LI nT LT c a d da)(hk:nI<200)(l:List Int)(A:Option Addr)(n cc:Nat)(ho:W.ownsRow lo 3 1 (.slice A n cc) n (za6 l))(hL:∀ i,LI i→¬ zag (.slice A n cc) i)(hn:n≤100000):
  Calls prog 15 #[.pointer (some ⟨gb,0,none⟩),.slice A n cc] W fun r w'=>r=.returned (.tuple #[])∧zeI W1 w' gb xb db lo (nI+1) (fun i=>LI i∨zag (.slice A n cc) i) nT LT c a d da:=by
 refine (h.bk.addI hk l A n cc lo (by rw[zbr];exact ho) h.gl hL hn).mono ?_;rintro r w' ⟨e,b,F,f,hF,hO⟩;have o:=hO [3,99,56,29] (by decide) (by decide);obtain⟨l1,i1⟩:=h.i1;obtain⟨l2,i2⟩:=h.i2;obtain⟨l3,i3⟩:=h.t1;obtain⟨l4,i4⟩:=h.t2;refine⟨e,⟨b,fun j hj=>?_,h.fr.trans f (fun k hk=>.inr (Nat.le_trans h.w1 (hF k hk))),o.blkf h.x (by decide) f,⟨l1,o.own i1 (by decide) f⟩,⟨l2,o.own i2 (by decide) f⟩,⟨l3,o.own i3 (by decide) f⟩,⟨l4,o.own i4 (by decide) f⟩,o.blkf h.dB (by decide) f,h.g.off f o,h.w1,h.gl⟩⟩
 rcases hj with (hj | hj) | hj
 ·exact Nat.lt_of_lt_of_le (h.lt j (.inl hj)) f.size
 ·exact Nat.lt_of_lt_of_le (ho.lt j hj).2 f.size
 ·exact Nat.lt_of_lt_of_le (h.lt j (.inr hj)) f.size
theorem zeI.addT(h:zeI W1 W gb xb db lo nI LI nT LT c a d da)(hk:nT<200)(l:List zaa)(A:Option Addr)(n cc:Nat)(ho:W.ownsRow lo 99 4 (.slice A n cc) n (zaf l))(hL:∀ i,LT i→¬ zag (.slice A n cc) i)(hn:n≤100000):
  Calls prog 16 #[.pointer (some ⟨gb,0,none⟩),.slice A n cc] W fun r w'=>r=.returned (.tuple #[])∧zeI W1 w' gb xb db lo nI LI (nT+1) (fun i=>LT i∨zag (.slice A n cc) i) c a d da:=by
 refine (h.bk.addT hk l A n cc lo ho h.gl hL hn).mono ?_;rintro r w' ⟨e,b,F,f,hF,hO⟩;have o:=hO [3,99,56,29] (by decide) (by decide);obtain⟨l1,i1⟩:=h.i1;obtain⟨l2,i2⟩:=h.i2;obtain⟨l3,i3⟩:=h.t1;obtain⟨l4,i4⟩:=h.t2;refine⟨e,⟨b,fun j hj=>?_,h.fr.trans f (fun k hk=>.inr (Nat.le_trans h.w1 (hF k hk))),o.blkf h.x (by decide) f,⟨l1,o.own i1 (by decide) f⟩,⟨l2,o.own i2 (by decide) f⟩,⟨l3,o.own i3 (by decide) f⟩,⟨l4,o.own i4 (by decide) f⟩,o.blkf h.dB (by decide) f,h.g.off f o,h.w1,h.gl⟩⟩
 rcases hj with hj | (hj | hj)
 ·exact Nat.lt_of_lt_of_le (h.lt j (.inl hj)) f.size
 ·exact Nat.lt_of_lt_of_le (h.lt j (.inr hj)) f.size
 ·exact Nat.lt_of_lt_of_le (ho.lt j hj).2 f.size
end
theorem zgG.up{W1 W:World}{gb xb mI mT mI' mT':Nat}{c:zbf}{a:zfI}(h:zgG W1 W gb xb mI mT c a)(h1:mI≤mI')(h2:mT≤mT'):zgG W1 W gb xb mI' mT' c a:=by
 obtain⟨nI,nT,LI,LT,b,k1,k2,k3⟩:=h.bk;exact {h with bk:=⟨nI,nT,LI,LT,b,Nat.le_trans k1 h1,Nat.le_trans k2 h2,k3⟩}
theorem zgH.off{w w':World}{g mI mT:Nat}{F:Nat→Prop}(h:zgH w g mI mT)(f:Fr F w w')(o:Off w F [42,26,3,23,99]):zgH w' g mI mT:=by
 obtain⟨nI,nT,LI,LT,b,h1,h2,h3⟩:=h;exact⟨nI,nT,LI,LT,b.off f o,h1,h2,fun j hj=>Nat.lt_of_lt_of_le (h3 j hj) f.size⟩
theorem zkS{c:zbf}{x:za5}(h:zbd c=true)(hl:x.bl.length=x.bn)(hx:x∈c.es):x.bn≤4096:=by
 have k:=zbB (List.all_eq_true.1 (zat h).2.2.2.1 x hx);have h1:=k.of_;have h2:=k.hi;omega
theorem zmJ{l:List za5}{R:za5→za5→Prop}(h:l.Pairwise R){j:Nat}{x y:za5}(hx:l[j]? =some x)(hy:y∈l.take j):R y x:=by
 obtain⟨p,hp,e⟩:=List.mem_take_iff_getElem.1 hy;obtain⟨hj,e2⟩:=List.getElem?_eq_some_iff.1 hx;have:=List.pairwise_iff_getElem.1 h p j (by omega) hj (by omega);rwa[e,e2] at this
theorem zla{l:List UInt8}{m:Nat}(h:m+1=l.length):∃ z,l=l.take m++[z]:=by
 refine⟨l[m],?_⟩;have h1:l=l.take m++l.drop m:=(List.take_append_drop m l).symm
 have h2:l.drop m=[l[m]]:=by
  rw[List.drop_eq_getElem_cons (by omega),List.drop_eq_nil_of_le (by omega)]
 rw[← h2];exact h1
theorem zoO{c:zbf}(h:zbd c=true):c.pl.length≤5∧c.pl2.length≤5:=by
 have h1:=zgz h;have h2:=(zcB (zat h).1).2.2;refine⟨by omega,?_⟩
 by_cases hp:zbV c=true
 ·have h3:=(zbv (zat h).2.1 hp).len
  omega
 ·have:¬ 0<c.pl2.length:=fun h0=>hp (by unfold zbV;rw[qa_ h0,Bool.or_true])
  omega
theorem ziR{c:zbf}(h:zdo c)(hw:c.rng)(hb:zbd c=true):0<(zea c).length∧(zea c).length≤40000:=by
 have hes:(c.es.flatMap zi8).length≤12*c.es.length+2*(zai c.es).length:=by
  unfold zai
  generalize c.es=l
  induction l with
  | nil=>simp
  | cons x l ih=>
   rw[List.flatMap_cons,List.flatMap_cons,q8_,q8_,List.length_cons]
   have:(zi8 x).length=12+2*x.bl.length:=by
    unfold zi8;simp only[q8_,zcb,List.length_cons,List.length_nil];omega
   omega
 unfold zdo at h;have hp1:(zbl c.nm c.pl).size≤1150:=zd_ (zkx (zat hb).1) hw.pl
 have hp2:(if zbV c=true then zbl c.nm2 c.pl2 else ByteArray.empty).size≤1150:=by
  by_cases hp:zbV c=true
  ·rw[if_pos hp];exact zd_ (zbv (zat hb).2.1 hp).ck hw.pl2
  ·rw[if_neg hp];decide
 unfold zea zm7 zb0;simp only[q8_,zcb,zgd,zfL,List.length_cons,List.length_nil];omega
theorem zkq{c:zbf}(h:zdo c)(hw:c.rng)(hb:zbd c=true):zh3 c=(zaC (zea c),0):=by
 unfold zh3;rw[if_pos hb,if_neg (by have:=(ziR h hw hb).2;omega)]
theorem zpk{c:zbf}(hb:zbd c=false):zh3 c=(ByteArray.empty,1):=by
 unfold zh3;rw[if_neg (by rw[hb];decide)]
theorem zkr{b:List UInt8}{y:zbf}(h:zfk b y.p):zbd y=true∧zh3 y=(zaC b,0):=by
 have hb:zbd y=true:=by rw[zfn];exact h.2.2.1
 have hl:zea y=b:=by rw[zeq];exact h.2.2.2.2
 have h2:=h.2.2.2.1;rw[← zeq] at h2;refine⟨hb,?_⟩;unfold zh3;rw[if_pos hb,if_neg (by omega),hl]
section
variable {w:World} {c:zbf} {a:zfI}
theorem ctells_walk(h:zcn w c a)(s:ByteArray)(hbs:s.size≤maxLen)(hmx:MaxL w)(htab:Tab w):Calls prog 3 #[.agg #[.int .u64 c.gen,.int .u64 c.id,.int .i64 c.now,.string c.nm,.slice a.pA a.pn a.pc,.slice a.fA a.fn a.fc,.string c.nm2,.slice a.tA a.tn a.tc,.slice a.sA a.sn a.sc,.int .i64 c.bound,.int .i64 c.done,.slice a.eA a.en a.ec],.string s] w fun r w'=>r=.returned (.bool true)∧Below w.heap.size w w':=by
 obtain⟨W1,hW1⟩:∃ W1,W1=w.alloc (.cells #[.int .u64 c.gen,.int .u64 c.id,.int .i64 c.now,.string c.nm,.slice a.pA a.pn a.pc,.slice a.fA a.fn a.fc,.string c.nm2,.slice a.tA a.tn a.tc,.slice a.sA a.sn a.sc,.int .i64 c.bound,.int .i64 c.done,.slice a.eA a.en a.ec] 29):=⟨_,rfl⟩
 have HW1:=q0_ hW1
 have F1:Hid (Fr (fun _=>False) w W1):=by show Fr _ _ _;rw[hW1];exact Fr.none_alloc _ _
 have X1:Hid (Blk W1 w.heap.size 29 #[.int .u64 c.gen,.int .u64 c.id,.int .i64 c.now,.string c.nm,.slice a.pA a.pn a.pc,.slice a.fA a.fn a.fc,.string c.nm2,.slice a.tA a.tn a.tc,.slice a.sA a.sn a.sc,.int .i64 c.bound,.int .i64 c.done,.slice a.eA a.en a.ec]):=by show Blk _ _ _ _;rw[hW1];exact Blk.new _ _ _
 have HC:Hid (∀ W,Fr (fun _=>False) W1 W→W.cell? ⟨w.heap.size,0,none⟩=some (.int .u64 c.gen)∧W.cell? ⟨w.heap.size,1,none⟩=some (.int .u64 c.id)∧W.cell? ⟨w.heap.size,2,none⟩=some (.int .i64 c.now)∧W.cell? ⟨w.heap.size,3,none⟩=some (.string c.nm)∧W.cell? ⟨w.heap.size,4,none⟩=some (.slice a.pA a.pn a.pc)∧W.cell? ⟨w.heap.size,5,none⟩=some (.slice a.fA a.fn a.fc)∧W.cell? ⟨w.heap.size,6,none⟩=some (.string c.nm2)∧W.cell? ⟨w.heap.size,7,none⟩=some (.slice a.tA a.tn a.tc)∧W.cell? ⟨w.heap.size,8,none⟩=some (.slice a.sA a.sn a.sc)∧W.cell? ⟨w.heap.size,9,none⟩=some (.int .i64 c.bound)∧W.cell? ⟨w.heap.size,10,none⟩=some (.int .i64 c.done)∧W.cell? ⟨w.heap.size,11,none⟩=some (.slice a.eA a.en a.ec)):=fun W f=>by
  have b:=X1.out.fr f (fun h=>h);exact⟨b.cell 0,b.cell 1,b.cell 2,b.cell 3,b.cell 4,b.cell 5,b.cell 6,b.cell 7,b.cell 8,b.cell 9,b.cell 10,b.cell 11⟩
 have Hle:=q0_ h.le;have HLf:=q0_ h.lf;have HLp:=q0_ h.lp;have HLs:=q0_ h.ls;have HLt:=q0_ h.lt;have HIn:=q0_ (fun (W:World) (f:Fr (fun _=>False) W1 W)=>(h.fr0 F1.out).fr0 f);have HSm:=q0_ (fun (W:World) (f:Fr (fun _=>False) W1 W)=>zlO ((h.fr0 F1.out).fr0 f));have HTB:=q0_ (fun (W:World) (f:Fr (fun _=>False) W1 W)=>htab.below ((F1.out.trans f q4_).below q4_));have HMX:=q0_ (fun (W:World) (f:Fr (fun _=>False) W1 W)=>(hmx.fr F1.out (fun h=>h)).fr f (fun h=>h));have HAl:=q0_ (fun (W:World) (f:Fr (fun _=>False) W1 W)=>zkc W (HMX.out W f) (HTB.out W f));have HLc:=q0_ (fun (W:World) (f:Fr (fun _=>False) W1 W)=>(zb4 (P:=prog) (X1.out.fr f (fun h=>h)) 12 rfl underlying29 zbb).2.1);have HGet:Hid (∀ W,Fr (fun _=>False) W1 W→∀ l:List UInt8,l.length≤50000→Calls prog 14 #[.string (zaC l)] W fun r w'=>zqj l (W.heap.size+1) r w'∧Below W.heap.size W w'):=fun W f l hl=>zkP l (by omega) W (HMX.out W f) (HTB.out W f);have Hbs:=q0_ hbs;have hw1:w.heap.size<W1.heap.size:=X1.out.lt;clear h hW1 hmx htab hbs;go_enter func3,ntmps3
 go_upto_region 1 with fail
 rw[← HW1.out];have FW1:Fr (fun _=>False) W1 W1:=Fr.refl _ _
 go_wp2_with (first | (with_reducible refine zaI (by kernel_rfl) (.tmp 2) 29 rfl w.heap.size #[.int .u64 c.gen,.int .u64 c.id,.int .i64 c.now,.string c.nm,.slice a.pA a.pn a.pc,.slice a.fA a.fn a.fc,.string c.nm2,.slice a.tA a.tn a.tc,.slice a.sA a.sn a.sc,.int .i64 c.bound,.int .i64 c.done,.slice a.eA a.en a.ec] (by kernel_rfl) (HLc.out _ (by assumption)) ?_))
 refine (HSm.out _ FW1).mono ?_;rintro r w2 ⟨⟨b1,rfl,hs1⟩,bb⟩;have FW2:Fr (fun _=>False) W1 w2:=FW1.trans (Fr.b0 bb) q4_;clear FW1 bb;have Hs1:=q0_ hs1;clear hs1
 cases b1
 ·go_wp2_with fail
  refine (HAl.out _ (by assumption)).mono ?_;rintro r u9 ⟨rfl,bb⟩;have Fu9:Fr (fun _=>False) W1 u9:=Fr.trans (by assumption) (Fr.b0 bb) q4_;clear bb;go_wp2;go_ret;exact⟨rfl,(F1.out.trans Fu9 q4_).below q4_⟩
 have HsA:=q0_ (Hs1.out rfl);clear Hs1
 by_cases h3:(3000:Int)<(s.size:Int)
 ·go_wp2_with fail
  refine (HAl.out _ (by assumption)).mono ?_;rintro r u9 ⟨rfl,bb⟩;have Fu9:Fr (fun _=>False) W1 u9:=Fr.trans (by assumption) (Fr.b0 bb) q4_;clear bb;go_wp2;go_ret;exact⟨rfl,(F1.out.trans Fu9 q4_).below q4_⟩
 have hs3:(s.size:Int)≤3000:=by omega
 have hfn:a.fn≤20:=by have:=HsA.out;have h2:=HLf.out;unfold zdo at this;omega
 have hsn:a.sn≤20:=by have:=HsA.out;have h2:=HLs.out;unfold zdo at this;omega
 have hpn:a.pn≤10:=by have:=HsA.out;have h2:=HLp.out;unfold zdo at this;omega
 have htn:a.tn≤10:=by have:=HsA.out;have h2:=HLt.out;unfold zdo at this;omega
 have hen:a.en≤95:=by have:=HsA.out;have h2:=Hle.out;unfold zdo at this;omega
 clear h3
 go_upto_region 4 with fail
 obtain⟨W3,hW3⟩:∃ W,W=w2.alloc (.cells #[.slice none 0 0,.slice none 0 0,.slice none 0 0,.slice none 0 0,.slice none 0 0,.slice none 0 0,.slice none 0 0,.slice none 0 0,.slice none 0 0,.slice none 0 0,.slice none 0 0,.slice none 0 0,.slice none 0 0,.slice none 0 0,.slice none 0 0,.slice none 0 0] 42):=⟨_,rfl⟩
 rw[← hW3]
 obtain⟨gb,hgb⟩:∃ x,x=w2.heap.size:=⟨_,rfl⟩
 rw[← hgb]
 have BK0:zb_ W3 gb gb 0 (fun _=>False) 0 (fun _=>False):=by rw[hW3,hgb];exact zb_.new w2
 have FW3:Fr (fun _=>False) W1 W3:=by rw[hW3];exact FW2.alloc _
 have hgb1:W1.heap.size≤gb:=by rw[hgb];exact FW2.size
 have BK3:=q0_ BK0;clear hW3 hgb BK0 FW2
 obtain⟨vb,hvb⟩:∃ b,zbd c=b:=⟨_,rfl⟩
 obtain⟨pt,pe,hpv⟩:∃ x y,zh3 c=(x,y):=⟨_,_,rfl⟩
 have HVb:=q0_ hvb;have HPv:=q0_ hpv
 have HVd:Hid (∀ W,Fr (fun _=>False) W1 W→Calls prog 11 #[.agg #[.int .u64 c.gen,.int .u64 c.id,.int .i64 c.now,.string c.nm,.slice a.pA a.pn a.pc,.slice a.fA a.fn a.fc,.string c.nm2,.slice a.tA a.tn a.tc,.slice a.sA a.sn a.sc,.int .i64 c.bound,.int .i64 c.done,.slice a.eA a.en a.ec]] W fun r w'=>r=.returned (.bool vb)∧Below W.heap.size W w'):=fun W f=>by
  have:=zgy (HIn.out W f) (by omega) (by omega);rw[HVb.out] at this;exact this
 clear hvb hpv;go_wp2_with fail
 go_loopw [6] (fun i wr=>∃ k0:Nat,k0≤2∧i=.int .i64 k0∧Hid (zgH wr gb (92*k0) (2*k0))∧Hid (Fr (fun _=>False) W1 wr)) (fun i _=>2-(intOf i).toNat)
 case atStart=>exact⟨0,by omega,rfl,⟨0,0,_,_,BK3.out,Nat.le_refl _,Nat.le_refl _,fun _ h=>h.elim (fun h=>h.elim) (fun h=>h.elim)⟩,FW3⟩
 case round=>
  obtain⟨k0,hk0,rfl,hbk,hfr⟩:=hrel;have HBK:=q0_ hbk.out;have FWr:Fr (fun _=>False) W1 wr:=hfr.out;clear hbk hfr FW3
  by_cases hlt0:k0<2
  rotate_left
  ·obtain rfl:k0=2:=by omega
   obtain⟨nI,nT,LI,LT,hb,h1,h2,_⟩:=HBK.out;have HB:=q0_ hb;clear hb;go_wp2_with fail;refine (HAl.out _ FWr).mono ?_;rintro r u1 ⟨rfl,bb⟩;have FWu:Fr (fun _=>False) W1 u1:=FWr.trans (Fr.b0 bb) q4_;have HB1:=q0_ (HB.out.fr bb);clear bb;go_wp2_with fail;refine (HB1.out.apart (by omega) (by omega)).mono ?_;rintro r u2 ⟨rfl,ff⟩;have FWu2:Fr (fun _=>False) W1 u2:=FWu.trans ff (fun k hk=>.inr (Nat.le_trans hgb1 hk));clear ff;go_wp2;go_ret;exact⟨rfl,(F1.out.trans FWu2 q4_).below q4_⟩
  have hk0I:(k0:Int)<2:=by omega
  have hk0w:IntKind.i64.wrap ((k0:Int)+1)=(k0:Int)+1:=by simp[IntKind.wrap,IntKind.signed,IntKind.bits];omega
  go_upto_region 8 with (first | (with_reducible refine zaI (by kernel_rfl) (.tmp 2) 29 rfl w.heap.size #[.int .u64 c.gen,.int .u64 c.id,.int .i64 c.now,.string c.nm,.slice a.pA a.pn a.pc,.slice a.fA a.fn a.fc,.string c.nm2,.slice a.tA a.tn a.tc,.slice a.sA a.sn a.sc,.int .i64 c.bound,.int .i64 c.done,.slice a.eA a.en a.ec] (by kernel_rfl) (HLc.out _ (by assumption)) ?_))
  obtain⟨W4,hW_⟩:∃ W,W=wr.alloc (.cells #[.int .u64 c.gen,.int .u64 c.id,.int .i64 c.now,.string c.nm,.slice a.pA a.pn a.pc,.slice a.fA a.fn a.fc,.string c.nm2,.slice a.tA a.tn a.tc,.slice a.sA a.sn a.sc,.int .i64 c.bound,.int .i64 c.done,.slice a.eA a.en a.ec] 29):=⟨_,rfl⟩
  rw[← hW_]
  obtain⟨xb,hx_⟩:∃ x,x=wr.heap.size:=⟨_,rfl⟩
  rw[← hx_]
  have X4:Hid (Blk W4 xb 29 #[.int .u64 c.gen,.int .u64 c.id,.int .i64 c.now,.string c.nm,.slice a.pA a.pn a.pc,.slice a.fA a.fn a.fc,.string c.nm2,.slice a.tA a.tn a.tc,.slice a.sA a.sn a.sc,.int .i64 c.bound,.int .i64 c.done,.slice a.eA a.en a.ec]):=by show Blk _ _ _ _;rw[hW_,hx_];exact Blk.new _ _ _
  have FW4:Fr (fun _=>False) W1 W4:=by rw[hW_];exact FWr.alloc _
  have fpW4:Fr (fun _=>False) wr W4:=by rw[hW_];exact Fr.none_alloc _ _
  have hbxb:W1.heap.size≤xb:=by rw[hx_];exact FWr.size
  have hnxb:wr.heap.size≤xb:=by rw[hx_];exact Nat.le_refl _
  clear hW_ hx_;have HB4:Hid (zgH W4 gb (92*k0) (2*k0)):=HBK.out.fr (fpW4.below q4_);have hgx:gb<xb:=Nat.lt_of_lt_of_le HBK.out.lt hnxb;clear HBK fpW4 FWr
  have HLi1:Hid (∀ W,Fr (fun _=>False) W1 W→Calls prog 9 #[.slice a.fA a.fn a.fc] W fun r w'=>(∃ B d,r=.returned (.slice B a.fn d)∧a.fn+1≤d∧d≤maxLen∧w'.ownsRow W.heap.size 3 1 (.slice B (a.fn+1) d) (a.fn+1) (zft c.fl))∧Below W.heap.size W w'):=fun W f=>by
   refine (zhq c.fl a.fA a.fn a.fc W (HIn.out W f).rf (by omega)).mono ?_;rintro r w' ⟨B,d,e,h1,h2,h3,h4⟩;exact⟨⟨B,d,e,h1,h2,h3⟩,h4⟩
  have HLi2:Hid (∀ W,Fr (fun _=>False) W1 W→Calls prog 9 #[.slice a.sA a.sn a.sc] W fun r w'=>(∃ B d,r=.returned (.slice B a.sn d)∧a.sn+1≤d∧d≤maxLen∧w'.ownsRow W.heap.size 3 1 (.slice B (a.sn+1) d) (a.sn+1) (zft c.src))∧Below W.heap.size W w'):=fun W f=>by
   refine (zhq c.src a.sA a.sn a.sc W (HIn.out W f).rs (by omega)).mono ?_;rintro r w' ⟨B,d,e,h1,h2,h3,h4⟩;exact⟨⟨B,d,e,h1,h2,h3⟩,h4⟩
  have HLt1:Hid (∀ W,Fr (fun _=>False) W1 W→Calls prog 10 #[.slice a.pA a.pn a.pc] W fun r w'=>(∃ B d,r=.returned (.slice B a.pn d)∧a.pn+1≤d∧d≤maxLen∧w'.ownsRow W.heap.size 99 4 (.slice B (a.pn+1) d) (a.pn+1) (zfs c.pl))∧Below W.heap.size W w'):=fun W f=>by
   refine (zhp c.pl a.pA a.pn a.pc W (HIn.out W f).rp (by omega)).mono ?_;rintro r w' ⟨B,d,e,h1,h2,h3,h4⟩;exact⟨⟨B,d,e,h1,h2,h3⟩,h4⟩
  have HLt2:Hid (∀ W,Fr (fun _=>False) W1 W→Calls prog 10 #[.slice a.tA a.tn a.tc] W fun r w'=>(∃ B d,r=.returned (.slice B a.tn d)∧a.tn+1≤d∧d≤maxLen∧w'.ownsRow W.heap.size 99 4 (.slice B (a.tn+1) d) (a.tn+1) (zfs c.pl2))∧Below W.heap.size W w'):=fun W f=>by
   refine (zhp c.pl2 a.tA a.tn a.tc W (HIn.out W f).rt (by omega)).mono ?_;rintro r w' ⟨B,d,e,h1,h2,h3,h4⟩;exact⟨⟨B,d,e,h1,h2,h3⟩,h4⟩
  go_wp2_with fail
  have HCwb:Hid (∀ W,Fr (fun j=>j=xb) W4 W→W.cell? ⟨w.heap.size,5,none⟩=some (.slice a.fA a.fn a.fc)∧W.cell? ⟨w.heap.size,8,none⟩=some (.slice a.sA a.sn a.sc)):=fun W f=>⟨(X1.out.fr (FW4.trans f (fun k hk=>.inr (by omega))) (fun h=>h)).cell 5,(X1.out.fr (FW4.trans f (fun k hk=>.inr (by omega))) (fun h=>h)).cell 8⟩
  refine wp_region_held_drew (S:=fun W=>Fr (fun j=>j=xb) W4 W) (by kernel_rfl) ((Fr.refl _ W4).drew) (fun hY_=>?_)
  refine wpAnyH_take (i:=0) (oi:={dst:=some 38,op:=Op.fieldAddr 29 (Operand.tmp 2) 4,type:=0,pos:= "law.go:105",after:=#[],guard:=none}) (v:= ?vq1) rfl (by kernel_rfl) (by kernel_rfl) (by kernel_rfl) (fun _ _ _ h=>h) (Or.inl ⟨by rfl, ?hq1⟩) (by assumption) ?rq1
  case hq1=>intro W hSw;(try obtain⟨y1,y2⟩:=HCwb.out W hSw);go_simp;(try with_reducible rfl)
  try simp only[Act.put,q7_,List.set_cons_zero,List.set_cons_succ]
  refine wpAnyH_take (i:=1) (oi:={dst:=some 39,op:=Op.load 26 (Operand.tmp 38),type:=26,pos:= "law.go:105",after:=#[{on:=0,ground:=Ground.data}],guard:=none}) (v:= ?vq2) rfl (by kernel_rfl) (by kernel_rfl) (by kernel_rfl) (fun _ _ _ h=>h) (Or.inl ⟨by rfl, ?hq2⟩) (by assumption) ?rq2
  case hq2=>intro W hSw;(try obtain⟨y1,y2⟩:=HCwb.out W hSw);go_simp;(try with_reducible rfl)
  try simp only[Act.put,q7_,List.set_cons_zero,List.set_cons_succ]
  refine wpAnyH_take (i:=3) (oi:={dst:=some 41,op:=Op.fieldAddr 29 (Operand.tmp 2) 6,type:=0,pos:= "law.go:105",after:=#[],guard:=none}) (v:= ?vq3) rfl (by kernel_rfl) (by kernel_rfl) (by kernel_rfl) (fun _ _ _ h=>h) (Or.inl ⟨by rfl, ?hq3⟩) (by assumption) ?rq3
  case hq3=>intro W hSw;(try obtain⟨y1,y2⟩:=HCwb.out W hSw);go_simp;(try with_reducible rfl)
  try simp only[Act.put,q7_,List.set_cons_zero,List.set_cons_succ]
  refine wpAnyH_take (i:=4) (oi:={dst:=some 42,op:=Op.load 26 (Operand.tmp 41),type:=26,pos:= "law.go:105",after:=#[{on:=3,ground:=Ground.data}],guard:=none}) (v:= ?vq4) rfl (by kernel_rfl) (by kernel_rfl) (by kernel_rfl) (fun _ _ _ h=>h) (Or.inl ⟨by rfl, ?hq4⟩) (by assumption) ?rq4
  case hq4=>intro W hSw;(try obtain⟨y1,y2⟩:=HCwb.out W hSw);go_simp;(try with_reducible rfl)
  try simp only[Act.put,q7_,List.set_cons_zero,List.set_cons_succ]
  refine wpAnyH_ready (rs:=[2]) (by kernel_rfl) (by simp) ?_
  refine AllReadyH.cons (o:={dst:=some 40,op:=Op.call {callee:=Callee.value (Operand.func 9),args:=#[Operand.tmp 39],argTypes:=#[26]},type:=26,pos:= "law.go:105",after:=#[{on:=1,ground:=Ground.data}],guard:=none}) rfl (fun K hK=>?_) AllReadyH.nil
  go_simp
  go_wp2_with (go_at_call 9;refine (HLi1.out _ (FW4.trans hY_ (fun k hk=>.inr (by omega)))).mono ?_;rintro r wa ⟨⟨B1,d1,rfl,hdB1,hmB1,hoB1⟩,bwa⟩)
  refine hK.out _ _ (hY_.trans (Fr.b0 bwa) q4_) (fun hY_=>?_);clear hK K
  try simp only[Act.put,q7_,List.set_cons_zero,List.set_cons_succ]
  refine wpAnyH_take (i:=6) (oi:={dst:=some 44,op:=Op.fieldAddr 29 (Operand.tmp 7) 4,type:=0,pos:= "law.go:105",after:=#[{on:=0,ground:=Ground.phase},{on:=1,ground:=Ground.phase},{on:=2,ground:=Ground.phase},{on:=3,ground:=Ground.textOnly Departure.lateStores},{on:=4,ground:=Ground.textOnly Departure.lateStores},{on:=5,ground:=Ground.textOnly Departure.lateStoresUnsure}],guard:=none}) (v:= ?vq5) rfl (by kernel_rfl) (by kernel_rfl) (by kernel_rfl) (fun _ _ _ h=>h) (Or.inl ⟨by rfl, ?hq5⟩) (by assumption) ?rq5
  case hq5=>intro W hSw;(try obtain⟨y1,y2⟩:=HCwb.out W hSw);go_simp;(try with_reducible rfl)
  try simp only[Act.put,q7_,List.set_cons_zero,List.set_cons_succ]
  refine wpAnyH_ready (rs:=[5]) (by kernel_rfl) (by simp) ?_
  refine AllReadyH.cons (o:={dst:=some 43,op:=Op.call {callee:=Callee.value (Operand.func 9),args:=#[Operand.tmp 42],argTypes:=#[26]},type:=26,pos:= "law.go:105",after:=#[{on:=4,ground:=Ground.data},{on:=2,ground:=Ground.chain}],guard:=none}) rfl (fun K hK=>?_) AllReadyH.nil
  go_simp
  go_wp2_with (go_at_call 9;refine (HLi2.out _ (FW4.trans hY_ (fun k hk=>.inr (by omega)))).mono ?_;rintro r wb ⟨⟨B2,d2,rfl,hdB2,hmB2,hoB2⟩,bwb⟩)
  have fawb:Fr (fun _=>False) W4 wa:=((Fr.refl (fun _=>False) W4).drew).trans (Fr.b0 bwa) q4_;have fbwb:Fr (fun _=>False) W4 wb:=fawb.trans (Fr.b0 bwb) q4_;have st1:wb.cell? ⟨xb,5,none⟩=some (.slice a.fA a.fn a.fc):=(X4.out.fr fbwb (fun h=>h)).cell 5;have st2:wb.cell? ⟨xb,8,none⟩=some (.slice a.sA a.sn a.sc):=(X4.out.fr fbwb (fun h=>h)).cell 8;have fz1:=(X4.out.fr fbwb (fun h=>h)).frozen 5;have fz2:=(X4.out.fr fbwb (fun h=>h)).frozen 8;refine hK.out _ _ (hY_.trans (Fr.b0 bwb) q4_) (fun hY_=>?_);clear hK K
  try simp only[Act.put,q7_,List.set_cons_zero,List.set_cons_succ]
  refine wpAnyH_ready (rs:=[7]) (by kernel_rfl) (by simp) ?_
  refine AllReadyH.cons (o:={dst:=none,op:=Op.store 26 (Operand.tmp 44) (Operand.tmp 40),type:=0,pos:= "law.go:105",after:=#[{on:=6,ground:=Ground.data},{on:=2,ground:=Ground.data},{on:=5,ground:=Ground.chain},{on:=0,ground:=Ground.phase},{on:=1,ground:=Ground.phase},{on:=2,ground:=Ground.phase},{on:=3,ground:=Ground.textOnly Departure.lateStores},{on:=4,ground:=Ground.textOnly Departure.lateStores},{on:=5,ground:=Ground.textOnly Departure.lateStoresUnsure}],guard:=none}) rfl (fun K hK=>?_) AllReadyH.nil
  go_simp;refine hK.out _ _ (hY_.setCell (p:=⟨xb,5,none⟩) (.inl rfl) _) (fun hY_=>?_);clear hK K
  try simp only[Act.put,q7_,List.set_cons_zero,List.set_cons_succ]
  refine wpAnyH_take (i:=8) (oi:={dst:=some 45,op:=Op.fieldAddr 29 (Operand.tmp 7) 6,type:=0,pos:= "law.go:105",after:=#[{on:=0,ground:=Ground.phase},{on:=1,ground:=Ground.phase},{on:=2,ground:=Ground.phase},{on:=3,ground:=Ground.phase},{on:=4,ground:=Ground.phase},{on:=5,ground:=Ground.phase},{on:=6,ground:=Ground.phase},{on:=7,ground:=Ground.phase}],guard:=none}) (v:= ?vq6) rfl (by kernel_rfl) (by kernel_rfl) (by kernel_rfl) (fun _ _ _ h=>h) (Or.inl ⟨by rfl, ?hq6⟩) (by assumption) ?rq6
  case hq6=>intro W hSw;(try obtain⟨y1,y2⟩:=HCwb.out W hSw);go_simp;(try with_reducible rfl)
  try simp only[Act.put,q7_,List.set_cons_zero,List.set_cons_succ]
  refine wpAnyH_ready (rs:=[9]) (by kernel_rfl) (by simp) ?_
  refine AllReadyH.cons (o:={dst:=none,op:=Op.store 26 (Operand.tmp 45) (Operand.tmp 43),type:=0,pos:= "law.go:105",after:=#[{on:=8,ground:=Ground.data},{on:=5,ground:=Ground.data},{on:=7,ground:=Ground.chain},{on:=0,ground:=Ground.phase},{on:=1,ground:=Ground.phase},{on:=2,ground:=Ground.phase},{on:=3,ground:=Ground.phase},{on:=4,ground:=Ground.phase},{on:=5,ground:=Ground.phase},{on:=6,ground:=Ground.phase},{on:=7,ground:=Ground.phase}],guard:=none}) rfl (fun K hK=>?_) AllReadyH.nil
  go_simp;refine hK.out _ _ (hY_.setCell (p:=⟨xb,8,none⟩) (.inl rfl) _) (fun hY_=>?_);clear hK K
  try simp only[Act.put,q7_,List.set_cons_zero,List.set_cons_succ]
  refine wpAnyH_done (by kernel_rfl) ?_ _;clear hY_
  obtain⟨W9,hW_⟩:∃ W,W=((wb.setCell ⟨xb,5,none⟩ (.slice B1 a.fn d1)).setCell ⟨xb,8,none⟩ (.slice B2 a.sn d2)):=⟨_,rfl⟩
  rw[← hW_]
  have fsW9:Fr (fun i=>i=xb) wb W9:=by rw[hW_];exact ((Fr.refl (fun i=>i=xb) wb).setCell (p:=⟨xb,5,none⟩) (.inl rfl) _).setCell (p:=⟨xb,8,none⟩) (.inl rfl) _
  have X9:Hid (Blk W9 xb 29 #[.int .u64 c.gen,.int .u64 c.id,.int .i64 c.now,.string c.nm,.slice a.pA a.pn a.pc,.slice B1 a.fn d1,.string c.nm2,.slice a.tA a.tn a.tc,.slice B2 a.sn d2,.int .i64 c.bound,.int .i64 c.done,.slice a.eA a.en a.ec]):=by
   show Blk _ _ _ _
   rw[hW_];have:=((X4.out.fr fbwb (fun h=>h)).set_ 5 (.slice B1 a.fn d1)).set_ 8 (.slice B2 a.sn d2);simpa using this
  have FW9:Fr (fun _=>False) W1 W9:=(FW4.trans fbwb q4_).trans fsW9 (fun k hk=>.inr (by omega));have FKW9:Fr (fun j=>j=xb) W4 W9:=(fbwb.mono q4_).trans fsW9 (fun k hk=>.inl hk);have Xowb:=X4.out.fr fbwb (fun h=>h);have HOB1:=q0_ (zad (za_ hoB1 (Fr.b0 bwb)) fsW9 (fun k hk e=>zac (za_ hoB1 (Fr.b0 bwb)) Xowb (by decide) (by rw[← e];exact hk)));have HOB2:=q0_ (zad hoB2 fsW9 (fun k hk e=>zac hoB2 Xowb (by decide) (by rw[← e];exact hk)));clear hW_ hoB1 hoB2 bwa bwb fawb fbwb fsW9 Xowb st1 st2 fz1 fz2 HCwb
  go_upto_region 9 with fail
  have HCwd:Hid (∀ W,Fr (fun j=>j=xb) W9 W→W.cell? ⟨w.heap.size,4,none⟩=some (.slice a.pA a.pn a.pc)∧W.cell? ⟨w.heap.size,7,none⟩=some (.slice a.tA a.tn a.tc)):=fun W f=>⟨(X1.out.fr (FW9.trans f (fun k hk=>.inr (by omega))) (fun h=>h)).cell 4,(X1.out.fr (FW9.trans f (fun k hk=>.inr (by omega))) (fun h=>h)).cell 7⟩
  refine wp_region_held_drew (S:=fun W=>Fr (fun j=>j=xb) W9 W) (by kernel_rfl) ((Fr.refl _ W9).drew) (fun hY_=>?_)
  refine wpAnyH_take (i:=0) (oi:={dst:=some 46,op:=Op.fieldAddr 29 (Operand.tmp 2) 3,type:=0,pos:= "law.go:106",after:=#[],guard:=none}) (v:= ?vq7) rfl (by kernel_rfl) (by kernel_rfl) (by kernel_rfl) (fun _ _ _ h=>h) (Or.inl ⟨by rfl, ?hq7⟩) (by assumption) ?rq7
  case hq7=>intro W hSw;(try obtain⟨y1,y2⟩:=HCwd.out W hSw);go_simp;(try with_reducible rfl)
  try simp only[Act.put,q7_,List.set_cons_zero,List.set_cons_succ]
  refine wpAnyH_take (i:=1) (oi:={dst:=some 47,op:=Op.fieldAddr 25 (Operand.tmp 46) 1,type:=0,pos:= "law.go:106",after:=#[{on:=0,ground:=Ground.data}],guard:=none}) (v:= ?vq8) rfl (by kernel_rfl) (by kernel_rfl) (by kernel_rfl) (fun _ _ _ h=>h) (Or.inl ⟨by rfl, ?hq8⟩) (by assumption) ?rq8
  case hq8=>intro W hSw;(try obtain⟨y1,y2⟩:=HCwd.out W hSw);go_simp;(try with_reducible rfl)
  try simp only[Act.put,q7_,List.set_cons_zero,List.set_cons_succ]
  refine wpAnyH_take (i:=2) (oi:={dst:=some 48,op:=Op.load 23 (Operand.tmp 47),type:=23,pos:= "law.go:106",after:=#[{on:=1,ground:=Ground.data}],guard:=none}) (v:= ?vq9) rfl (by kernel_rfl) (by kernel_rfl) (by kernel_rfl) (fun _ _ _ h=>h) (Or.inl ⟨by rfl, ?hq9⟩) (by assumption) ?rq9
  case hq9=>intro W hSw;(try obtain⟨y1,y2⟩:=HCwd.out W hSw);go_simp;(try with_reducible rfl)
  try simp only[Act.put,q7_,List.set_cons_zero,List.set_cons_succ]
  refine wpAnyH_take (i:=4) (oi:={dst:=some 50,op:=Op.fieldAddr 29 (Operand.tmp 2) 5,type:=0,pos:= "law.go:106",after:=#[],guard:=none}) (v:= ?vq10) rfl (by kernel_rfl) (by kernel_rfl) (by kernel_rfl) (fun _ _ _ h=>h) (Or.inl ⟨by rfl, ?hq10⟩) (by assumption) ?rq10
  case hq10=>intro W hSw;(try obtain⟨y1,y2⟩:=HCwd.out W hSw);go_simp;(try with_reducible rfl)
  try simp only[Act.put,q7_,List.set_cons_zero,List.set_cons_succ]
  refine wpAnyH_take (i:=5) (oi:={dst:=some 51,op:=Op.fieldAddr 25 (Operand.tmp 50) 1,type:=0,pos:= "law.go:106",after:=#[{on:=4,ground:=Ground.data}],guard:=none}) (v:= ?vq11) rfl (by kernel_rfl) (by kernel_rfl) (by kernel_rfl) (fun _ _ _ h=>h) (Or.inl ⟨by rfl, ?hq11⟩) (by assumption) ?rq11
  case hq11=>intro W hSw;(try obtain⟨y1,y2⟩:=HCwd.out W hSw);go_simp;(try with_reducible rfl)
  try simp only[Act.put,q7_,List.set_cons_zero,List.set_cons_succ]
  refine wpAnyH_take (i:=6) (oi:={dst:=some 52,op:=Op.load 23 (Operand.tmp 51),type:=23,pos:= "law.go:106",after:=#[{on:=5,ground:=Ground.data}],guard:=none}) (v:= ?vq12) rfl (by kernel_rfl) (by kernel_rfl) (by kernel_rfl) (fun _ _ _ h=>h) (Or.inl ⟨by rfl, ?hq12⟩) (by assumption) ?rq12
  case hq12=>intro W hSw;(try obtain⟨y1,y2⟩:=HCwd.out W hSw);go_simp;(try with_reducible rfl)
  try simp only[Act.put,q7_,List.set_cons_zero,List.set_cons_succ]
  refine wpAnyH_ready (rs:=[3]) (by kernel_rfl) (by simp) ?_
  refine AllReadyH.cons (o:={dst:=some 49,op:=Op.call {callee:=Callee.value (Operand.func 10),args:=#[Operand.tmp 48],argTypes:=#[23]},type:=23,pos:= "law.go:106",after:=#[{on:=2,ground:=Ground.data}],guard:=none}) rfl (fun K hK=>?_) AllReadyH.nil
  go_simp
  go_wp2_with (go_at_call 10;refine (HLt1.out _ (FW9.trans hY_ (fun k hk=>.inr (by omega)))).mono ?_;rintro r wc ⟨⟨B3,d3,rfl,hdB3,hmB3,hoB3⟩,bwc⟩)
  refine hK.out _ _ (hY_.trans (Fr.b0 bwc) q4_) (fun hY_=>?_);clear hK K
  try simp only[Act.put,q7_,List.set_cons_zero,List.set_cons_succ]
  refine wpAnyH_take (i:=8) (oi:={dst:=some 54,op:=Op.fieldAddr 29 (Operand.tmp 7) 3,type:=0,pos:= "law.go:106",after:=#[{on:=0,ground:=Ground.phase},{on:=1,ground:=Ground.phase},{on:=2,ground:=Ground.phase},{on:=3,ground:=Ground.phase},{on:=4,ground:=Ground.textOnly Departure.lateStores},{on:=5,ground:=Ground.textOnly Departure.lateStores},{on:=6,ground:=Ground.textOnly Departure.lateStores},{on:=7,ground:=Ground.textOnly Departure.lateStoresUnsure}],guard:=none}) (v:= ?vq13) rfl (by kernel_rfl) (by kernel_rfl) (by kernel_rfl) (fun _ _ _ h=>h) (Or.inl ⟨by rfl, ?hq13⟩) (by assumption) ?rq13
  case hq13=>intro W hSw;(try obtain⟨y1,y2⟩:=HCwd.out W hSw);go_simp;(try with_reducible rfl)
  try simp only[Act.put,q7_,List.set_cons_zero,List.set_cons_succ]
  refine wpAnyH_take (i:=9) (oi:={dst:=some 55,op:=Op.fieldAddr 25 (Operand.tmp 54) 1,type:=0,pos:= "law.go:106",after:=#[{on:=8,ground:=Ground.data},{on:=0,ground:=Ground.phase},{on:=1,ground:=Ground.phase},{on:=2,ground:=Ground.phase},{on:=3,ground:=Ground.phase},{on:=4,ground:=Ground.textOnly Departure.lateStores},{on:=5,ground:=Ground.textOnly Departure.lateStores},{on:=6,ground:=Ground.textOnly Departure.lateStores},{on:=7,ground:=Ground.textOnly Departure.lateStoresUnsure}],guard:=none}) (v:= ?vq14) rfl (by kernel_rfl) (by kernel_rfl) (by kernel_rfl) (fun _ _ _ h=>h) (Or.inl ⟨by rfl, ?hq14⟩) (by assumption) ?rq14
  case hq14=>intro W hSw;(try obtain⟨y1,y2⟩:=HCwd.out W hSw);go_simp;(try with_reducible rfl)
  try simp only[Act.put,q7_,List.set_cons_zero,List.set_cons_succ]
  refine wpAnyH_ready (rs:=[7]) (by kernel_rfl) (by simp) ?_
  refine AllReadyH.cons (o:={dst:=some 53,op:=Op.call {callee:=Callee.value (Operand.func 10),args:=#[Operand.tmp 52],argTypes:=#[23]},type:=23,pos:= "law.go:106",after:=#[{on:=6,ground:=Ground.data},{on:=3,ground:=Ground.chain}],guard:=none}) rfl (fun K hK=>?_) AllReadyH.nil
  go_simp
  go_wp2_with (go_at_call 10;refine (HLt2.out _ (FW9.trans hY_ (fun k hk=>.inr (by omega)))).mono ?_;rintro r wd ⟨⟨B4,d4,rfl,hdB4,hmB4,hoB4⟩,bwd⟩)
  have fawd:Fr (fun _=>False) W9 wc:=((Fr.refl (fun _=>False) W9).drew).trans (Fr.b0 bwc) q4_;have fbwd:Fr (fun _=>False) W9 wd:=fawd.trans (Fr.b0 bwd) q4_;have st1:wd.cell? ⟨xb,4,none⟩=some (.slice a.pA a.pn a.pc):=(X9.out.fr fbwd (fun h=>h)).cell 4;have st2:wd.cell? ⟨xb,7,none⟩=some (.slice a.tA a.tn a.tc):=(X9.out.fr fbwd (fun h=>h)).cell 7;have fz1:=(X9.out.fr fbwd (fun h=>h)).frozen 4;have fz2:=(X9.out.fr fbwd (fun h=>h)).frozen 7;refine hK.out _ _ (hY_.trans (Fr.b0 bwd) q4_) (fun hY_=>?_);clear hK K
  try simp only[Act.put,q7_,List.set_cons_zero,List.set_cons_succ]
  refine wpAnyH_ready (rs:=[10]) (by kernel_rfl) (by simp) ?_
  refine AllReadyH.cons (o:={dst:=none,op:=Op.store 23 (Operand.tmp 55) (Operand.tmp 49),type:=0,pos:= "law.go:106",after:=#[{on:=9,ground:=Ground.data},{on:=3,ground:=Ground.data},{on:=7,ground:=Ground.chain},{on:=0,ground:=Ground.phase},{on:=1,ground:=Ground.phase},{on:=2,ground:=Ground.phase},{on:=3,ground:=Ground.phase},{on:=4,ground:=Ground.textOnly Departure.lateStores},{on:=5,ground:=Ground.textOnly Departure.lateStores},{on:=6,ground:=Ground.textOnly Departure.lateStores},{on:=7,ground:=Ground.textOnly Departure.lateStoresUnsure}],guard:=none}) rfl (fun K hK=>?_) AllReadyH.nil
  go_simp;refine hK.out _ _ (hY_.setCell (p:=⟨xb,4,none⟩) (.inl rfl) _) (fun hY_=>?_);clear hK K
  try simp only[Act.put,q7_,List.set_cons_zero,List.set_cons_succ]
  refine wpAnyH_take (i:=11) (oi:={dst:=some 56,op:=Op.fieldAddr 29 (Operand.tmp 7) 5,type:=0,pos:= "law.go:106",after:=#[{on:=0,ground:=Ground.phase},{on:=1,ground:=Ground.phase},{on:=2,ground:=Ground.phase},{on:=3,ground:=Ground.phase},{on:=4,ground:=Ground.phase},{on:=5,ground:=Ground.phase},{on:=6,ground:=Ground.phase},{on:=7,ground:=Ground.phase},{on:=8,ground:=Ground.phase},{on:=9,ground:=Ground.phase},{on:=10,ground:=Ground.phase}],guard:=none}) (v:= ?vq15) rfl (by kernel_rfl) (by kernel_rfl) (by kernel_rfl) (fun _ _ _ h=>h) (Or.inl ⟨by rfl, ?hq15⟩) (by assumption) ?rq15
  case hq15=>intro W hSw;(try obtain⟨y1,y2⟩:=HCwd.out W hSw);go_simp;(try with_reducible rfl)
  try simp only[Act.put,q7_,List.set_cons_zero,List.set_cons_succ]
  refine wpAnyH_take (i:=12) (oi:={dst:=some 57,op:=Op.fieldAddr 25 (Operand.tmp 56) 1,type:=0,pos:= "law.go:106",after:=#[{on:=11,ground:=Ground.data},{on:=0,ground:=Ground.phase},{on:=1,ground:=Ground.phase},{on:=2,ground:=Ground.phase},{on:=3,ground:=Ground.phase},{on:=4,ground:=Ground.phase},{on:=5,ground:=Ground.phase},{on:=6,ground:=Ground.phase},{on:=7,ground:=Ground.phase},{on:=8,ground:=Ground.phase},{on:=9,ground:=Ground.phase},{on:=10,ground:=Ground.phase}],guard:=none}) (v:= ?vq16) rfl (by kernel_rfl) (by kernel_rfl) (by kernel_rfl) (fun _ _ _ h=>h) (Or.inl ⟨by rfl, ?hq16⟩) (by assumption) ?rq16
  case hq16=>intro W hSw;(try obtain⟨y1,y2⟩:=HCwd.out W hSw);go_simp;(try with_reducible rfl)
  try simp only[Act.put,q7_,List.set_cons_zero,List.set_cons_succ]
  refine wpAnyH_ready (rs:=[13]) (by kernel_rfl) (by simp) ?_
  refine AllReadyH.cons (o:={dst:=none,op:=Op.store 23 (Operand.tmp 57) (Operand.tmp 53),type:=0,pos:= "law.go:106",after:=#[{on:=12,ground:=Ground.data},{on:=7,ground:=Ground.data},{on:=10,ground:=Ground.chain},{on:=0,ground:=Ground.phase},{on:=1,ground:=Ground.phase},{on:=2,ground:=Ground.phase},{on:=3,ground:=Ground.phase},{on:=4,ground:=Ground.phase},{on:=5,ground:=Ground.phase},{on:=6,ground:=Ground.phase},{on:=7,ground:=Ground.phase},{on:=8,ground:=Ground.phase},{on:=9,ground:=Ground.phase},{on:=10,ground:=Ground.phase}],guard:=none}) rfl (fun K hK=>?_) AllReadyH.nil
  go_simp;refine hK.out _ _ (hY_.setCell (p:=⟨xb,7,none⟩) (.inl rfl) _) (fun hY_=>?_);clear hK K
  try simp only[Act.put,q7_,List.set_cons_zero,List.set_cons_succ]
  refine wpAnyH_done (by kernel_rfl) ?_ _;clear hY_
  obtain⟨W10,hW_⟩:∃ W,W=((wd.setCell ⟨xb,4,none⟩ (.slice B3 a.pn d3)).setCell ⟨xb,7,none⟩ (.slice B4 a.tn d4)):=⟨_,rfl⟩
  rw[← hW_]
  have fsW10:Fr (fun i=>i=xb) wd W10:=by rw[hW_];exact ((Fr.refl (fun i=>i=xb) wd).setCell (p:=⟨xb,4,none⟩) (.inl rfl) _).setCell (p:=⟨xb,7,none⟩) (.inl rfl) _
  have X10:Hid (Blk W10 xb 29 #[.int .u64 c.gen,.int .u64 c.id,.int .i64 c.now,.string c.nm,.slice B3 a.pn d3,.slice B1 a.fn d1,.string c.nm2,.slice B4 a.tn d4,.slice B2 a.sn d2,.int .i64 c.bound,.int .i64 c.done,.slice a.eA a.en a.ec]):=by
   show Blk _ _ _ _
   rw[hW_];have:=((X9.out.fr fbwd (fun h=>h)).set_ 4 (.slice B3 a.pn d3)).set_ 7 (.slice B4 a.tn d4);simpa using this
  have FW10:Fr (fun _=>False) W1 W10:=(FW9.trans fbwd q4_).trans fsW10 (fun k hk=>.inr (by omega));have FKW10:Fr (fun j=>j=xb) W9 W10:=(fbwd.mono q4_).trans fsW10 (fun k hk=>.inl hk);have Xowd:=X9.out.fr fbwd (fun h=>h);have HOB3:=q0_ (zad (za_ hoB3 (Fr.b0 bwd)) fsW10 (fun k hk e=>zac (za_ hoB3 (Fr.b0 bwd)) Xowd (by decide) (by rw[← e];exact hk)));have HOB4:=q0_ (zad hoB4 fsW10 (fun k hk e=>zac hoB4 Xowd (by decide) (by rw[← e];exact hk)));have HHOB1:=q0_ (zad (za_ HOB1.out fbwd) fsW10 (fun k hk e=>zac (za_ HOB1.out fbwd) Xowd (by decide) (by rw[← e];exact hk)));have HHOB2:=q0_ (zad (za_ HOB2.out fbwd) fsW10 (fun k hk e=>zac (za_ HOB2.out fbwd) Xowd (by decide) (by rw[← e];exact hk)));clear hW_ hoB3 hoB4 bwc bwd fawd fbwd fsW10 Xowd st1 st2 fz1 fz2 HCwd
  have HX10:Hid (zgG W1 W10 gb xb (92*k0) (2*k0) c {a with fA:=B1,fc:=d1,sA:=B2,sc:=d2,pA:=B3,pc:=d3,tA:=B4,tc:=d4}):=⟨HB4.out.off (FKW9.trans FKW10 (fun k hk=>.inl hk)) (Off.blk X4.out (by decide)),FW10,X10.out,⟨_,HHOB1.out⟩,⟨_,HHOB2.out⟩,⟨_,HOB3.out⟩,⟨_,HOB4.out⟩⟩
  have HInx:Hid (∀ W,Fr (fun _=>False) W10 W→zcn W c {a with fA:=B1,fc:=d1,sA:=B2,sc:=d2,pA:=B3,pc:=d3,tA:=B4,tc:=d4}):=fun W f=>by
   have k:=HX10.out.fr0 f;obtain⟨l1,i1⟩:=k.i1;obtain⟨l2,i2⟩:=k.i2;obtain⟨l3,i3⟩:=k.t1;obtain⟨l4,i4⟩:=k.t2
   exact {HIn.out W k.fr with
    rf:=zkE i1 HLf.out
    rs:=zkE i2 HLs.out
    rp:=zkD i3 HLp.out
    rt:=zkD i4 HLt.out
    cf:=⟨by show a.fn≤d1;omega,hmB1⟩
    cs:=⟨by show a.sn≤d2;omega,hmB2⟩
    cp:=⟨by show a.pn≤d3;omega,hmB3⟩
    ct:=⟨by show a.tn≤d4;omega,hmB4⟩}
  have HPut:Hid (∀ W,Fr (fun _=>False) W10 W→Calls prog 12 #[.agg #[.int .u64 c.gen,.int .u64 c.id,.int .i64 c.now,.string c.nm,.slice B3 a.pn d3,.slice B1 a.fn d1,.string c.nm2,.slice B4 a.tn d4,.slice B2 a.sn d2,.int .i64 c.bound,.int .i64 c.done,.slice a.eA a.en a.ec]] W fun r w'=>r=.returned (.tuple #[.string pt,.int .i64 pe])∧Below W.heap.size W w'):=fun W f=>by
   have:=zfF (HInx.out W f) (HTB.out W (HX10.out.fr0 f).fr);rw[show zh3 c=(pt,pe) from HPv.out] at this;exact this
  have HVal:Hid (∀ W,Fr (fun _=>False) W10 W→Calls prog 13 #[.agg #[.int .u64 c.gen,.int .u64 c.id,.int .i64 c.now,.string c.nm,.slice B3 a.pn d3,.slice B1 a.fn d1,.string c.nm2,.slice B4 a.tn d4,.slice B2 a.sn d2,.int .i64 c.bound,.int .i64 c.done,.slice a.eA a.en a.ec]] W fun r w'=>r=.returned (.bool vb)∧Below W.heap.size W w'):=fun W f=>by
   have:=ze4 (HInx.out W f);rw[HVb.out] at this;exact this
  have HLx:=q0_ (fun (W:World) (f:Fr (fun _=>False) W10 W)=>(zb4 (P:=prog) (X10.out.fr f (fun h=>h)) 12 rfl underlying29 zbb).2.1);have G10:Fr (fun _=>False) W10 W10:=Fr.refl _ _;clear HB4 X4 X9 FKW9 FKW10 HHOB1 HHOB2 HOB3 HOB4 HOB1 HOB2 FW4 FW9 HLi1 HLi2 HLt1 HLt2 hnxb
  go_wp2_with (first | (with_reducible refine zaI (by kernel_rfl) (.tmp 2) 29 rfl w.heap.size #[.int .u64 c.gen,.int .u64 c.id,.int .i64 c.now,.string c.nm,.slice a.pA a.pn a.pc,.slice a.fA a.fn a.fc,.string c.nm2,.slice a.tA a.tn a.tc,.slice a.sA a.sn a.sc,.int .i64 c.bound,.int .i64 c.done,.slice a.eA a.en a.ec] (by kernel_rfl) (HLc.out _ (by assumption)) ?_))
  refine (HVd.out _ FW10).mono ?_;rintro r w11 ⟨rfl,bb⟩;have FW11:Fr (fun _=>False) W1 w11:=FW10.trans (Fr.b0 bb) q4_;have G11:Fr (fun _=>False) W10 w11:=G10.trans (Fr.b0 bb) q4_;clear bb
  go_wp2_with (first | (with_reducible refine zaI (by kernel_rfl) (.tmp 7) 29 rfl xb #[.int .u64 c.gen,.int .u64 c.id,.int .i64 c.now,.string c.nm,.slice B3 a.pn d3,.slice B1 a.fn d1,.string c.nm2,.slice B4 a.tn d4,.slice B2 a.sn d2,.int .i64 c.bound,.int .i64 c.done,.slice a.eA a.en a.ec] (by kernel_rfl) (HLx.out _ (by assumption)) ?_))
  refine (HPut.out _ G11).mono ?_;rintro r w12 ⟨rfl,bb⟩;have FW12:Fr (fun _=>False) W1 w12:=FW11.trans (Fr.b0 bb) q4_;have G12:Fr (fun _=>False) W10 w12:=G11.trans (Fr.b0 bb) q4_;clear bb FW11 G11
  go_upto_region 12 with fail
  go_cut [86] (fun sx wx=>∃ W,W=wx∧sx=.bool false∧Fr (fun _=>False) w12 wx)
  case first=>
   as_aux_lemma=>
    go_wp2_with (first | (with_reducible refine zaI (by kernel_rfl) (.tmp 7) 29 rfl xb #[.int .u64 c.gen,.int .u64 c.id,.int .i64 c.now,.string c.nm,.slice B3 a.pn d3,.slice B1 a.fn d1,.string c.nm2,.slice B4 a.tn d4,.slice B2 a.sn d2,.int .i64 c.bound,.int .i64 c.done,.slice a.eA a.en a.ec] (by kernel_rfl) (HLx.out _ (by assumption)) ?_))
    refine (HVal.out _ G12).mono ?_;rintro r w13 ⟨rfl,bb⟩;have F13:Fr (fun _=>False) w12 w13:=Fr.b0 bb;clear bb
    cases vb
    ·have hq:(pt,pe)=(ByteArray.empty,1):=HPv.out.symm.trans (zpk HVb.out)
     obtain⟨rfl,rfl⟩:=Prod.mk.inj hq;clear hq;go_wp2
     try go_meet
     exact⟨_,rfl,rfl,F13⟩
    ·have hq:(pt,pe)=(zaC (zea c),0):=HPv.out.symm.trans (zkq HsA.out (HIn.out W10 FW10).rng HVb.out)
     obtain⟨rfl,rfl⟩:=Prod.mk.inj hq;clear hq;go_wp2
     try go_meet
     exact⟨_,rfl,rfl,F13⟩
  case rest=>
  obtain⟨W13,rfl,rfl,f13⟩:=hcut;have FW13:Fr (fun _=>False) W1 W13:=FW12.trans f13 q4_;have G13:Fr (fun _=>False) W10 W13:=G12.trans f13 q4_;clear f13 FW12 G12 G10
  go_upto_if 87 with fail
  go_cut [] (fun wx=>∃ W,W=wx∧Hid (zgG W1 W gb xb (92*(k0+1)) (2*(k0+1)) c {a with fA:=B1,fc:=d1,sA:=B2,sc:=d2,pA:=B3,pc:=d3,tA:=B4,tc:=d4}))
  case first=>
   as_aux_lemma=>
    cases vb
    ·go_wp2
     try go_meet
     exact⟨_,rfl,(HX10.out.fr0 G13).up (by omega) (by omega)⟩
    have hsm:=ziR HsA.out (HIn.out W13 FW13).rng HVb.out;have hrng:=(HIn.out W13 FW13).rng
    obtain⟨L,hL⟩:∃ L,zea c=L:=⟨_,rfl⟩
    have hq:(pt,pe)=(zaC L,0):=HPv.out.symm.trans (by rw[← hL];exact zkq HsA.out hrng HVb.out);obtain⟨rfl,rfl⟩:=Prod.mk.inj hq;have HLq:=q0_ hL;rw[hL] at hsm;obtain⟨hl0,hl4⟩:=hsm
    have HgL:Hid (zfk L c.p):=by
     show zfk _ _
     rw[← hL];exact zfk.of hrng HVb.out (by rw[hL];exact hl4)
    have Hrng:=q0_ hrng;clear hL hq hrng;go_wp2_with fail;refine (HGet.out _ FW13 L (by omega)).mono ?_;rintro r w15 ⟨hr,bb⟩;have FW15:Fr (fun _=>False) W1 w15:=FW13.trans (Fr.b0 bb) q4_;have G15:Fr (fun _=>False) W13 w15:=Fr.b0 bb;clear bb
    rcases hr with ⟨d,da,rfl,hG,hqd⟩ | ⟨e,he,rfl,hno⟩
    rotate_left
    ·exact absurd HgL.out (hno _)
    have hdp:d.p=c.p:=zna hqd HgL.out;unfold zbU;have HG:=q0_ hG;have Hdp:=q0_ hdp
    have hdf:da.fn≤20:=by
     have h1:d.fl.length=da.fn:=hG.lf;rw[show d.fl=c.fl from congrArg zdL.fl hdp,HLf.out] at h1;omega
    have hds:da.sn≤20:=by
     have h1:d.src.length=da.sn:=hG.ls;rw[show d.src=c.src from congrArg zdL.src hdp,HLs.out] at h1;omega
    have hdpn:da.pn≤20:=by
     have h1:d.pl.length=da.pn:=hG.lp;rw[show d.pl=c.pl from congrArg zdL.pl hdp,HLp.out] at h1;omega
    have hdtn:da.tn≤20:=by
     have h1:d.pl2.length=da.tn:=hG.lt;rw[show d.pl2=c.pl2 from congrArg zdL.pl2 hdp,HLt.out] at h1;omega
    have hdb:zbd d=true:=by rw[zfn,hdp, ← zfn];exact HVb.out
    have hde:da.en≤90:=by
     have h1:d.es.length=da.en:=hG.le;have h2:=(zat hdb).2.2.1;omega
    have Hdb:=q0_ hdb;have hbl:Hid (∀ x∈d.es,x.bn≤4096):=fun x hx=>zkS hdb (hG.ents.ok x hx).blen hx;clear hG hqd hdp hdb
    go_upto_region 16 with fail
    obtain⟨W16,hW_⟩:∃ W,W=w15.alloc (.cells #[.int .u64 d.gen,.int .u64 d.id,.int .i64 d.now,.string d.nm,.slice da.pA da.pn da.pc,.slice da.fA da.fn da.fc,.string d.nm2,.slice da.tA da.tn da.tc,.slice da.sA da.sn da.sc,.int .i64 d.bound,.int .i64 d.done,.slice da.eA da.en da.ec] 29):=⟨_,rfl⟩
    rw[← hW_]
    obtain⟨db,hx_⟩:∃ x,x=w15.heap.size:=⟨_,rfl⟩
    rw[← hx_]
    have D16:Hid (Blk W16 db 29 #[.int .u64 d.gen,.int .u64 d.id,.int .i64 d.now,.string d.nm,.slice da.pA da.pn da.pc,.slice da.fA da.fn da.fc,.string d.nm2,.slice da.tA da.tn da.tc,.slice da.sA da.sn da.sc,.int .i64 d.bound,.int .i64 d.done,.slice da.eA da.en da.ec]):=by show Blk _ _ _ _;rw[hW_,hx_];exact Blk.new _ _ _
    have FW16:Fr (fun _=>False) W1 W16:=by rw[hW_];exact FW15.alloc _
    have fpW16:Fr (fun _=>False) w15 W16:=by rw[hW_];exact Fr.none_alloc _ _
    have hbdb:W1.heap.size≤db:=by rw[hx_];exact FW15.size
    have hndb:w15.heap.size≤db:=by rw[hx_];exact Nat.le_refl _
    clear hW_ hx_;obtain⟨nI,nT,LI,LT,hbk,hnI,hnT,hlt⟩:=(HX10.out.fr0 G13).bk;have HLI:=q0_ (fun i (h:LI i)=>hlt i (.inl h));have HLT:=q0_ (fun i (h:LT i)=>hlt i (.inr h))
    have HT16:Hid (zeI W1 W16 gb xb db (W13.heap.size+1) nI LI nT LT c {a with fA:=B1,fc:=d1,sA:=B2,sc:=d2,pA:=B3,pc:=d3,tA:=B4,tc:=d4} d da):=by
     have f:=G15.trans fpW16 q4_;have k:=(HX10.out.fr0 G13).fr0 f;exact⟨hbk.fr (f.below q4_),fun j hj=>Nat.lt_of_lt_of_le (hlt j hj) f.size,k.fr,k.x,k.i1,k.i2,k.t1,k.t2,D16.out,HG.out.fr fpW16 (fun _ _ h=>h),hgb1,by have:=hbk.lt;omega⟩
    clear hbk hlt D16 HG fpW16 FW15 G15 FW16 hbdb hndb;have y5:W16.cell? ⟨db,5,none⟩=some (.slice da.fA da.fn da.fc):=HT16.out.dB.cell 5;go_wp2_with fail;refine (HT16.out.addI (by omega) d.fl da.fA da.fn da.fc HT16.out.g.of_ (fun i hi hr=>by have:=HLI.out i hi;have:=(HT16.out.g.of_.lt i hr).1;omega) (by omega)).mono ?_;rintro r w17 ⟨rfl,t17⟩;have HT17:=q0_ t17;clear t17 y5 HT16;have y8:w17.cell? ⟨db,8,none⟩=some (.slice da.sA da.sn da.sc):=HT17.out.dB.cell 8;go_wp2_with fail;refine (HT17.out.addI (by omega) d.src da.sA da.sn da.sc HT17.out.g.os (fun i hi hr=>hi.elim (fun h=>by have:=HLI.out i h;have:=(HT17.out.g.os.lt i hr).1;omega) (fun h=>HT17.out.g.fs i h hr)) (by omega)).mono ?_;rintro r w18 ⟨rfl,t18⟩;have HT18:=q0_ t18;clear t18 y8 HT17;have y4:w18.cell? ⟨db,4,none⟩=some (.slice da.pA da.pn da.pc):=HT18.out.dB.cell 4;go_wp2_with fail;refine (HT18.out.addT (by omega) d.pl da.pA da.pn da.pc HT18.out.g.op (fun i hi hr=>by have:=HLT.out i hi;have:=(HT18.out.g.op.lt i hr).1;omega) (by omega)).mono ?_;rintro r w19 ⟨rfl,t19⟩;have HT19:=q0_ t19;clear t19 y4 HT18;have y7:w19.cell? ⟨db,7,none⟩=some (.slice da.tA da.tn da.tc):=HT19.out.dB.cell 7;go_wp2_with fail;refine (HT19.out.addT (by omega) d.pl2 da.tA da.tn da.tc HT19.out.g.ot (fun i hi hr=>hi.elim (fun h=>by have:=HLT.out i h;have:=(HT19.out.g.ot.lt i hr).1;omega) (fun h=>HT19.out.g.pt i h hr)) (by omega)).mono ?_;rintro r w20 ⟨rfl,t20⟩
    obtain⟨L2,LT2,ht20,hL2⟩:∃ L2 LT2,zeI W1 w20 gb xb db (W13.heap.size+1) (nI+2) L2 (nT+2) LT2 c {a with fA:=B1,fc:=d1,sA:=B2,sc:=d2,pA:=B3,pc:=d3,tA:=B4,tc:=d4} d da∧(∀ i,L2 i→i<W13.heap.size∨zag (.slice da.fA da.fn da.fc) i∨zag (.slice da.sA da.sn da.sc) i):=⟨_,_,t20,fun i hi=>hi.elim (fun h=>h.elim (fun h=>.inl (HLI.out i h)) (fun h=>.inr (.inl h))) (fun h=>.inr (.inr h))⟩
    have HT20:=q0_ ht20;have HL2:=q0_ hL2;clear t20 ht20 hL2 y7 HT19 HLI HLT;have FW20:Fr (fun _=>False) W1 w20:=HT20.out.fr;have Q20:Fr (fun _=>False) w20 w20:=Fr.refl _ _;have HLd:Hid (∀ W,Fr (fun _=>False) w20 W→(Instr.loadAt 29 (.pointer (some ⟨db,0,none⟩))).run prog W=.ok (.agg #[.int .u64 d.gen,.int .u64 d.id,.int .i64 d.now,.string d.nm,.slice da.pA da.pn da.pc,.slice da.fA da.fn da.fc,.string d.nm2,.slice da.tA da.tn da.tc,.slice da.sA da.sn da.sc,.int .i64 d.bound,.int .i64 d.done,.slice da.eA da.en da.ec]) W):=fun W f=>(zb4 (P:=prog) (HT20.out.dB.fr f (fun h=>h)) 12 rfl underlying29 zbb).2.1;have HSa:=q0_ (znt (HIn.out w20 FW20) HT20.out.g.cin ⟨⟨by omega,by omega,by omega,by omega,fun x hx=>by have:=zkS HVb.out ((HIn.out w20 FW20).we x hx).blen hx;omega⟩,⟨by omega,by omega,by omega,by omega,fun x hx=>by have:=hbl.out x hx;omega⟩⟩)
    go_wp2_with (first | (with_reducible refine zaI (by kernel_rfl) (.tmp 2) 29 rfl w.heap.size #[.int .u64 c.gen,.int .u64 c.id,.int .i64 c.now,.string c.nm,.slice a.pA a.pn a.pc,.slice a.fA a.fn a.fc,.string c.nm2,.slice a.tA a.tn a.tc,.slice a.sA a.sn a.sc,.int .i64 c.bound,.int .i64 c.done,.slice a.eA a.en a.ec] (by kernel_rfl) (HLc.out _ (by assumption)) ?_) | (with_reducible refine zaI (by kernel_rfl) (.tmp 11) 29 rfl db #[.int .u64 d.gen,.int .u64 d.id,.int .i64 d.now,.string d.nm,.slice da.pA da.pn da.pc,.slice da.fA da.fn da.fc,.string d.nm2,.slice da.tA da.tn da.tc,.slice da.sA da.sn da.sc,.int .i64 d.bound,.int .i64 d.done,.slice da.eA da.en da.ec] (by kernel_rfl) (HLd.out _ (by assumption)) ?_))
    refine (show Calls _ _ _ _ _ from HSa.out).mono ?_;rintro r w21 ⟨⟨sb,rfl,hsb⟩,bb⟩;obtain rfl:sb=true:=hsb.2 Hdp.out.symm;have HT21:=q0_ (HT20.out.fr0 (Fr.b0 bb));clear bb hsb HSa HLd Q20 FW20 HT20;go_wp2_with fail
    go_loopw [13] (fun i wr2=>∃ (j:Nat) (LJ:Nat→Prop),j≤da.en∧i=.int .i64 j∧Hid (zeI W1 wr2 gb xb db (W13.heap.size+1) (nI+2+j) LJ (nT+2) LT2 c {a with fA:=B1,fc:=d1,sA:=B2,sc:=d2,pA:=B3,pc:=d3,tA:=B4,tc:=d4} d da)∧Hid (∀ i,LJ i→L2 i∨∃ x∈d.es.take j,zag x.row i)) (fun i _=>da.en-(intOf i).toNat)
    case atStart=>exact⟨0,L2,Nat.zero_le _,rfl,HT21.out,fun i h=>.inl h⟩
    case round=>
     obtain⟨j,LJ,hj,rfl,htj,hlj⟩:=hrel;have HTj:=q0_ htj.out;have HLj:=q0_ hlj.out;clear htj hlj
     by_cases hjl:j<da.en
     ·have hjw:IntKind.i64.wrap ((j:Int)+1)=(j:Int)+1:=by simp[IntKind.wrap,IntKind.signed,IntKind.bits];omega
      obtain⟨ad,⟨id,tier,shard,place,of_,ba,bn,bc,bl⟩,hea,hu,_,_,_,_,_,z5⟩:=(Rd.of_own HTj.out.g.ents.row).ent hjl;dsimp only at z5;have y11:wr.cell? ⟨db,11,none⟩=some (.slice da.eA da.en da.ec):=HTj.out.dB.cell 11;rw[hea] at y11
      have hjI:0≤(j:Int)∧(j:Int)<(da.en:Int):=by omega
      have hxm:=zab hu;have hbn:=hbl.out _ hxm;dsimp only at hbn
      have HAd:=q0_ (HTj.out.addI (by omega) bl ba bn bc (HTj.out.g.ents.own _ hxm) (fun i hi hr=>by
       rcases HLj.out i hi with h | ⟨y,hy,h⟩
       ·rcases HL2.out i h with h | h | h
        ·have:=((HTj.out.g.ents.own _ hxm).lt i hr).1
         omega
        ·exact HTj.out.g.fe _ hxm i h hr
        ·exact HTj.out.g.se _ hxm i h hr
       ·exact zmJ HTj.out.g.ents.apart hu hy i h hr) (by omega))
      have Hu:=q0_ hu;clear hu hxm hea;go_wp2_with fail;refine HAd.out.mono ?_;rintro r wn ⟨rfl,tn⟩;have HTn:=q0_ tn;clear tn z5 y11;go_wp2
      go_roundw
      case rel=>exact⟨j+1,_,by omega,by go_num,HTn.out,fun i hi=>by
       rcases hi with hi | hi
       ·rcases HLj.out i hi with h | ⟨y,hy,h⟩
        ·exact .inl h
        ·exact .inr ⟨y,by rw[zan Hu.out];exact List.mem_append_left _ hy,h⟩
       ·exact .inr ⟨⟨id,tier,shard,place,of_,ba,bn,bc,bl⟩,by rw[zan Hu.out];exact List.mem_append_right _ (List.mem_singleton.2 rfl),hi⟩⟩
      case measure=>simp[intOf];omega
     ·have y11:wr.cell? ⟨db,11,none⟩=some (.slice da.eA da.en da.ec):=HTj.out.dB.cell 11
      obtain rfl:j=da.en:=by omega
      have HXj:=q0_ (HTj.out.out (mI:=92*(k0+1)) (mT:=2*(k0+1)) (by omega) (by omega));have hz:(zaC L).size=L.length:=zbC L;have HZ:=q0_ hz
      have hlI:(0:Int)<((zaC L).size:Int):=by omega
      obtain⟨m,hm⟩:∃ m,m+1=L.length:=⟨L.length-1,by omega⟩
      have hmw:IntKind.i64.wrap (((zaC L).size:Int)-1)=(m:Int):=by rw[hz];simp[IntKind.wrap,IntKind.signed,IntKind.bits];omega
      have hmI:0≤(m:Int)∧(m:Int)≤((zaC L).size:Int):=by omega
      obtain⟨zz,hLz⟩:∃ z,L=L.take m++[z]:=zla hm;have HLz:=q0_ hLz;have Hm:=q0_ hm;have FWj:Fr (fun _=>False) W1 wr:=HXj.out.fr
      have hex:(zaC L).extract 0 m=zaC (L.take m):=by rw[zcN,List.drop_zero]
      have HEx:=q0_ hex
      have HG1:Hid (∀ W,Fr (fun _=>False) W1 W→Calls prog 14 #[.string ((zaC L).extract 0 m)] W fun r w'=>(∃ e,e≠0∧r=.returned (.tuple #[zdY,.int .i64 e]))∧Below W.heap.size W w'):=fun W f=>by
       rw[HEx.out];refine (HGet.out W f (L.take m) (by rw[List.length_take];omega)).mono ?_;rintro r w' ⟨hr,b⟩;refine⟨?_,b⟩
       rcases hr with ⟨d,da,rfl,_,hqd⟩ | ⟨e,he,rfl,_⟩
       ·exact absurd hqd (zfk.not_cut Hrng.out HVb.out (HLq.out.trans HLz.out) _)
       ·exact⟨e,he,rfl⟩
      have HG2:Hid (∀ W,Fr (fun _=>False) W1 W→Calls prog 14 #[.string (zaC L++{data:=#[120]})] W fun r w'=>(∃ e,e≠0∧r=.returned (.tuple #[zdY,.int .i64 e]))∧Below W.heap.size W w'):=fun W f=>by
       have he:zaC L++{data:=#[120]}=zaC (L++[120]):=zj8 L [120];rw[he];refine (HGet.out W f (L++[120]) (by rw[q8_];simp;omega)).mono ?_;rintro r w' ⟨hr,b⟩;refine⟨?_,b⟩
       rcases hr with ⟨d,da,rfl,_,hqd⟩ | ⟨e,he,rfl,_⟩
       ·rw[← HLq.out] at hqd
        exact absurd hqd (zfk.not_more Hrng.out HVb.out (by simp) _)
       ·exact⟨e,he,rfl⟩
      clear hz hLz hm hex;go_wp2_with fail;refine (HG1.out _ FWj).mono ?_;rintro r w27 ⟨⟨e1,he1,rfl⟩,bb⟩;unfold zdY;have F27:Fr (fun _=>False) wr w27:=Fr.b0 bb;clear bb
      go_upto_region 28 with fail
      obtain⟨W27,hW27⟩:∃ W,W=w27.alloc (.cells #[.int .u64 0,.int .u64 0,.int .i64 0,.string ByteArray.empty,.slice none 0 0,.slice none 0 0,.string ByteArray.empty,.slice none 0 0,.slice none 0 0,.int .i64 0,.int .i64 0,.slice none 0 0] 29):=⟨_,rfl⟩
      rw[← hW27]
      have F27b:Fr (fun _=>False) wr W27:=by rw[hW27];exact F27.alloc _
      have FW27:Fr (fun _=>False) W1 W27:=FWj.trans F27b q4_
      have hsz4:(zaC L).size≤40000:=by have:=HZ.out;omega
      clear hW27 F27;go_wp2_with fail;refine (HG2.out _ FW27).mono ?_;rintro r w28 ⟨⟨e2,he2,rfl⟩,bb⟩;unfold zdY;have F28:Fr (fun _=>False) wr w28:=F27b.trans (Fr.b0 bb) q4_;clear bb
      have g1:(e1==0)=false:=by simpa using he1
      have g2:(e2==0)=false:=by simpa using he2
      go_upto_region 29 with fail
      obtain⟨W28,hW28⟩:∃ W,W=w28.alloc (.cells #[.int .u64 0,.int .u64 0,.int .i64 0,.string ByteArray.empty,.slice none 0 0,.slice none 0 0,.string ByteArray.empty,.slice none 0 0,.slice none 0 0,.int .i64 0,.int .i64 0,.slice none 0 0] 29):=⟨_,rfl⟩
      rw[← hW28];have HXe:Hid (zgG W1 W28 gb xb (92*(k0+1)) (2*(k0+1)) c {a with fA:=B1,fc:=d1,sA:=B2,sc:=d2,pA:=B3,pc:=d3,tA:=B4,tc:=d4}):=HXj.out.fr0 (by rw[hW28];exact F28.alloc _);clear hW28;go_wp2
      try go_meet
      exact⟨_,rfl,HXe.out⟩
  case rest=>
  obtain⟨W30,rfl,hx30⟩:=hcut;have HX30:=q0_ hx30.out;have FW30:Fr (fun _=>False) W1 W30:=HX30.out.fr;clear hx30 HX10 FW13 G13 HPut HVal HLx
  as_aux_lemma=>
   have HS1:Hid (∀ W,Fr (fun _=>False) W30 W→Calls prog 18 #[.slice B1 a.fn d1,.slice a.fA a.fn a.fc] W fun r w'=>r=.returned (.bool true)∧Below W.heap.size W w'):=fun W f=>by
    have k:=HX30.out.fr0 f;obtain⟨l1,i1⟩:=k.i1;exact zg0 c.fl B1 a.fn d1 a.fA a.fc W (Rd.of_own i1) (HIn.out W k.fr).rf hdB1 hmB1 (by omega)
   have HS2:Hid (∀ W,Fr (fun _=>False) W30 W→Calls prog 18 #[.slice B2 a.sn d2,.slice a.sA a.sn a.sc] W fun r w'=>r=.returned (.bool true)∧Below W.heap.size W w'):=fun W f=>by
    have k:=HX30.out.fr0 f;obtain⟨l1,i1⟩:=k.i2;exact zg0 c.src B2 a.sn d2 a.sA a.sc W (Rd.of_own i1) (HIn.out W k.fr).rs hdB2 hmB2 (by omega)
   have HS3:Hid (∀ W,Fr (fun _=>False) W30 W→Calls prog 19 #[.slice B3 a.pn d3,.slice a.pA a.pn a.pc] W fun r w'=>r=.returned (.bool true)∧Below W.heap.size W w'):=fun W f=>by
    have k:=HX30.out.fr0 f;obtain⟨l1,i1⟩:=k.t1;exact zgZ c.pl B3 a.pn d3 a.pA a.pc W (Rd.of_own i1) (HIn.out W k.fr).rp hdB3 hmB3 (by omega)
   have HS4:Hid (∀ W,Fr (fun _=>False) W30 W→Calls prog 19 #[.slice B4 a.tn d4,.slice a.tA a.tn a.tc] W fun r w'=>r=.returned (.bool true)∧Below W.heap.size W w'):=fun W f=>by
    have k:=HX30.out.fr0 f;obtain⟨l1,i1⟩:=k.t2;exact zgZ c.pl2 B4 a.tn d4 a.tA a.tc W (Rd.of_own i1) (HIn.out W k.fr).rt hdB4 hmB4 (by omega)
   have HC30:Hid (∀ W,Fr (fun _=>False) W30 W→W.cell? ⟨xb,5,none⟩=some (.slice B1 a.fn d1)∧W.cell? ⟨xb,8,none⟩=some (.slice B2 a.sn d2)∧W.cell? ⟨xb,4,none⟩=some (.slice B3 a.pn d3)∧W.cell? ⟨xb,7,none⟩=some (.slice B4 a.tn d4)∧W.cell? ⟨w.heap.size,5,none⟩=some (.slice a.fA a.fn a.fc)∧W.cell? ⟨w.heap.size,8,none⟩=some (.slice a.sA a.sn a.sc)∧W.cell? ⟨w.heap.size,4,none⟩=some (.slice a.pA a.pn a.pc)∧W.cell? ⟨w.heap.size,7,none⟩=some (.slice a.tA a.tn a.tc)):=fun W f=>by
    have b:=HX30.out.x.fr f (fun h=>h);have k:=X1.out.fr (FW30.trans f q4_) (fun h=>h);exact⟨b.cell 5,b.cell 8,b.cell 4,b.cell 7,k.cell 5,k.cell 8,k.cell 4,k.cell 7⟩
   have Q30:Fr (fun _=>False) W30 W30:=Fr.refl _ _;obtain⟨c5,c8,c4,c7,d5,d8,d4,d7⟩:=HC30.out _ Q30;go_wp2_with fail;refine (HS1.out _ Q30).mono ?_;rintro r w31 ⟨rfl,bb⟩;have Q31:Fr (fun _=>False) W30 w31:=Q30.trans (Fr.b0 bb) q4_;clear bb Q30 c5 c8 c4 c7 d5 d8 d4 d7;obtain⟨c5,c8,c4,c7,d5,d8,d4,d7⟩:=HC30.out _ Q31;go_wp2_with fail;refine (HS2.out _ Q31).mono ?_;rintro r w32 ⟨rfl,bb⟩;have Q32:Fr (fun _=>False) W30 w32:=Q31.trans (Fr.b0 bb) q4_;clear bb Q31 c5 c8 c4 c7 d5 d8 d4 d7;obtain⟨c5,c8,c4,c7,d5,d8,d4,d7⟩:=HC30.out _ Q32;go_wp2_with fail;refine (HS3.out _ Q32).mono ?_;rintro r w33 ⟨rfl,bb⟩;have Q33:Fr (fun _=>False) W30 w33:=Q32.trans (Fr.b0 bb) q4_;clear bb Q32 c5 c8 c4 c7 d5 d8 d4 d7;obtain⟨c5,c8,c4,c7,d5,d8,d4,d7⟩:=HC30.out _ Q33;go_wp2_with fail;refine (HS4.out _ Q33).mono ?_;rintro r w34 ⟨rfl,bb⟩;have Q34:Fr (fun _=>False) W30 w34:=Q33.trans (Fr.b0 bb) q4_;clear bb Q33 c5 c8 c4 c7 d5 d8 d4 d7;have HX34:=q0_ (HX30.out.fr0 Q34);have FW34:Fr (fun _=>False) W1 w34:=FW30.trans Q34 q4_;clear HX30 FW30 Q34 HC30 HS1 HS2 HS3 HS4
   have HGs:Hid (∀ W,Fr (fun _=>False) W1 W→Calls prog 14 #[.string s] W fun r w'=>zqj s.data.toList (W.heap.size+1) r w'∧Below W.heap.size W w'):=fun W f=>by
    have:=HGet.out W f s.data.toList (by rw[Array.length_toList];have:s.size=s.data.size:=rfl;omega);rwa[zgC] at this
   go_wp2_with fail;refine (HGs.out _ FW34).mono ?_;rintro r w35 ⟨hr,bb⟩;have F35:Fr (fun _=>False) w34 w35:=Fr.b0 bb;have FW35:Fr (fun _=>False) W1 w35:=FW34.trans F35 q4_;clear bb
   rcases hr with ⟨y,ya,rfl,hG,hqy⟩ | ⟨e,he,rfl,_⟩
   ·have HG:=q0_ hG
    have Hqy:=q0_ hqy;unfold zbU;clear hG hqy
    go_upto_region 34 with fail
    obtain⟨W35,hW_⟩:∃ W,W=w35.alloc (.cells #[.int .u64 y.gen,.int .u64 y.id,.int .i64 y.now,.string y.nm,.slice ya.pA ya.pn ya.pc,.slice ya.fA ya.fn ya.fc,.string y.nm2,.slice ya.tA ya.tn ya.tc,.slice ya.sA ya.sn ya.sc,.int .i64 y.bound,.int .i64 y.done,.slice ya.eA ya.en ya.ec] 29):=⟨_,rfl⟩
    rw[← hW_]
    obtain⟨yb,hx_⟩:∃ x,x=w35.heap.size:=⟨_,rfl⟩
    rw[← hx_]
    have Y35:Hid (Blk W35 yb 29 #[.int .u64 y.gen,.int .u64 y.id,.int .i64 y.now,.string y.nm,.slice ya.pA ya.pn ya.pc,.slice ya.fA ya.fn ya.fc,.string y.nm2,.slice ya.tA ya.tn ya.tc,.slice ya.sA ya.sn ya.sc,.int .i64 y.bound,.int .i64 y.done,.slice ya.eA ya.en ya.ec]):=by show Blk _ _ _ _;rw[hW_,hx_];exact Blk.new _ _ _
    have FW36:Fr (fun _=>False) W1 W35:=by rw[hW_];exact FW35.alloc _
    have fpW35:Fr (fun _=>False) w35 W35:=by rw[hW_];exact Fr.none_alloc _ _
    have hbyb:W1.heap.size≤yb:=by rw[hx_];exact FW35.size
    have hnyb:w35.heap.size≤yb:=by rw[hx_];exact Nat.le_refl _
    clear hW_ hx_;have HGi:Hid (∀ W,Fr (fun _=>False) W35 W→zcn W y ya):=fun W f=>(HG.out.cin.fr0 fpW35).fr0 f;have F36:Fr (fun _=>False) w34 W35:=F35.trans fpW35 q4_;have HLy:=q0_ (fun (W:World) (f:Fr (fun _=>False) W35 W)=>(zb4 (P:=prog) (Y35.out.fr f (fun h=>h)) 12 rfl underlying29 zbb).2.1);have R35:Fr (fun _=>False) W35 W35:=Fr.refl _ _
    have HPy:Hid (∀ W,Fr (fun _=>False) W35 W→Fr (fun _=>False) W1 W→Calls prog 12 #[.agg #[.int .u64 y.gen,.int .u64 y.id,.int .i64 y.now,.string y.nm,.slice ya.pA ya.pn ya.pc,.slice ya.fA ya.fn ya.fc,.string y.nm2,.slice ya.tA ya.tn ya.tc,.slice ya.sA ya.sn ya.sc,.int .i64 y.bound,.int .i64 y.done,.slice ya.eA ya.en ya.ec]] W fun r w'=>r=.returned (.tuple #[.string s,.int .i64 0])∧Below W.heap.size W w'):=fun W f g=>by
     have:=zfF (HGi.out W f) (HTB.out W g);rw[(zkr Hqy.out).2,zgC] at this;exact this
    have hyb:=(zkr Hqy.out).1
    have HVy:Hid (∀ W,Fr (fun _=>False) W35 W→Calls prog 11 #[.agg #[.int .u64 y.gen,.int .u64 y.id,.int .i64 y.now,.string y.nm,.slice ya.pA ya.pn ya.pc,.slice ya.fA ya.fn ya.fc,.string y.nm2,.slice ya.tA ya.tn ya.tc,.slice ya.sA ya.sn ya.sc,.int .i64 y.bound,.int .i64 y.done,.slice ya.eA ya.en ya.ec]] W fun r w'=>r=.returned (.bool true)∧Below W.heap.size W w'):=fun W f=>by
     have h5:=zoO hyb;have h1:=(HGi.out W f).lp;have h2:=(HGi.out W f).lt;have:=zgy (HGi.out W f) (by omega) (by omega);rw[hyb] at this;exact this
    clear fpW35 hbyb hnyb HG Y35 hyb
    go_wp2_with (first | (with_reducible refine zaI (by kernel_rfl) (.tmp 18) 29 rfl yb #[.int .u64 y.gen,.int .u64 y.id,.int .i64 y.now,.string y.nm,.slice ya.pA ya.pn ya.pc,.slice ya.fA ya.fn ya.fc,.string y.nm2,.slice ya.tA ya.tn ya.tc,.slice ya.sA ya.sn ya.sc,.int .i64 y.bound,.int .i64 y.done,.slice ya.eA ya.en ya.ec] (by kernel_rfl) (HLy.out _ (by assumption)) ?_))
    refine (HPy.out _ R35 FW36).mono ?_;rintro r w36 ⟨rfl,bb⟩;have R36:Fr (fun _=>False) W35 w36:=Fr.b0 bb;clear bb R35
    have hss:(s.toList != s.toList)=false:=by simp
    go_wp2_with (first | (with_reducible refine zaI (by kernel_rfl) (.tmp 18) 29 rfl yb #[.int .u64 y.gen,.int .u64 y.id,.int .i64 y.now,.string y.nm,.slice ya.pA ya.pn ya.pc,.slice ya.fA ya.fn ya.fc,.string y.nm2,.slice ya.tA ya.tn ya.tc,.slice ya.sA ya.sn ya.sc,.int .i64 y.bound,.int .i64 y.done,.slice ya.eA ya.en ya.ec] (by kernel_rfl) (HLy.out _ (by assumption)) ?_))
    refine (HVy.out _ R36).mono ?_;rintro r w37 ⟨rfl,bb⟩;have R37:Fr (fun _=>False) w34 w37:=(F36.trans R36 q4_).trans (Fr.b0 bb) q4_;have HX37:=q0_ (HX34.out.fr0 R37);clear bb R36;go_wp2
    go_roundw
    case rel=>exact⟨k0+1,by omega,by go_num,HX37.out.bk,HX37.out.fr⟩
    case measure=>simp[intOf];omega
   ·have g1:(e==0)=false:=by simpa using he
    unfold zdY
    go_upto_region 34 with fail
    obtain⟨W36,hW36⟩:∃ W,W=w35.alloc (.cells #[.int .u64 0,.int .u64 0,.int .i64 0,.string ByteArray.empty,.slice none 0 0,.slice none 0 0,.string ByteArray.empty,.slice none 0 0,.slice none 0 0,.int .i64 0,.int .i64 0,.slice none 0 0] 29):=⟨_,rfl⟩
    rw[← hW36]
    have X36:Blk W36 w35.heap.size 29 #[.int .u64 0,.int .u64 0,.int .i64 0,.string ByteArray.empty,.slice none 0 0,.slice none 0 0,.string ByteArray.empty,.slice none 0 0,.slice none 0 0,.int .i64 0,.int .i64 0,.slice none 0 0]:=by rw[hW36];exact Blk.new _ _ _
    have HX36:Hid (zgG W1 W36 gb xb (92*(k0+1)) (2*(k0+1)) c {a with fA:=B1,fc:=d1,sA:=B2,sc:=d2,pA:=B3,pc:=d3,tA:=B4,tc:=d4}):=HX34.out.fr0 (by rw[hW36];exact F35.alloc _);have c0:W36.cell? ⟨w35.heap.size,0,none⟩=some (.int .u64 0):=X36.cell 0;have c5:W36.cell? ⟨w35.heap.size,5,none⟩=some (.slice none 0 0):=X36.cell 5;have c11:W36.cell? ⟨w35.heap.size,11,none⟩=some (.slice none 0 0):=X36.cell 11;clear hW36 X36;go_wp2
    go_roundw
    case rel=>exact⟨k0+1,by omega,by go_num,HX36.out.bk,HX36.out.fr⟩
    case measure=>simp[intOf];omega
end
end Go.Proofs.YteajonicnkpbbaaGreatDoor
