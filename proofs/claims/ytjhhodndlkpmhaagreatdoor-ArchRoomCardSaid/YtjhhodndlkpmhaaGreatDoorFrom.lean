/- Walks of slices.Clone, policy.Copy and package reach. -/
import Derived.Test.YtjhhodndlkpmhaaGreatDoorPolB
namespace Go.Proofs.YtjhhodndlkpmhaaGreatDoor
set_option linter.all false
set_option maxRecDepth 100000
open Go.RowKit Tryz
theorem zeN:(prog.info? 3).map (fun i=>(i.zero,i.size,i.bytes))=some (some (.int .i64 0),1,8):=by kernel_rfl
theorem zju:(prog.info? 130).map (fun i=>(i.zero,i.size,i.bytes))=some (some (.agg #[.string ByteArray.empty,.int .i64 0,.int .i64 0,.int .i64 0]),4,40):=by kernel_rfl
theorem zma(l:List za_):∀ u∈zah l,u.oneCell'=true:=by
 intro u hu;simp only[zah,List.mem_flatMap] at hu;obtain⟨t,_,hu⟩:=hu;simp only[za_.cells,List.mem_cons,List.not_mem_nil,or_false] at hu
 rcases hu with rfl | rfl | rfl | rfl<;>rfl
theorem zr2{A:Option Addr}{n c:Nat}:∀ k,adF A n k→zaE (.slice A n c) k:=by
 rintro k ⟨_,ad,rfl,rfl⟩
 rfl
theorem zgE{w:World}{base b n size:Nat}{e:TypeId}{v:Value}{xs:List Value}(h:w.ownsRow base e size v n xs)(hb:∀ k,zaE v k→b≤k):w.ownsRow b e size v n xs:=by
 obtain⟨h1,h2⟩:=h;refine⟨h1,?_⟩
 rcases h2 with h2 | ⟨g,cap,cur,rfl,_,h3⟩
 ·exact .inl h2
 ·exact .inr ⟨g,cap,cur,rfl,hb g rfl,h3⟩
theorem zat{w:World}{base n c size:Nat}{e:TypeId}{A:Option Addr}{xs:List Value}(h:w.ownsRow base e size (.slice A n c) n xs):n≤c∧c≤maxLen∧Rd w size A n xs∧∀ k,adF A n k→base≤k:=by
 obtain⟨A2,c2,e,hc1,hc2,hrd⟩:=za5 h
 injection e with e1 _ e2
 subst e1 e2;exact⟨hc1,hc2,hrd,fun k hk=>(h.lt k (zr2 k hk)).1⟩
theorem zm8(xs:List Value)(h1:∀ u∈xs,u.oneCell'=true)(A:Option Addr)(n c:Nat)(w:World)(hr:Rd w 4 A n xs)(hn:n≤1099511627776):
  Calls prog 105 #[.slice A n c] w fun r w'=>(∃ A' c',r=.returned (.slice A' n c')∧w'.ownsRow w.heap.size 130 4 (.slice A' n c') n xs)∧Below w.heap.size w w':=by
 have q22:∀ (w:World) (a:Option Addr) (n c n' c':Nat),(binOp .eql 49 (.slice a n c) (.slice none n' c')).run prog w=.ok (.bool a.isNone) w:=fun w a n c n' c'=>Lib.run_eql_slice_nil w _ _ a n c n' c' underlying49
 cases A with
 | none=>
  have h0:n=0:=by
   rcases Nat.eq_zero_or_pos n with h0 | h0
   ·exact h0
   ·obtain⟨ad,h,_⟩:=hr.2 h0
    cases h
  subst h0;go_enter func105,ntmps105;go_wp2;go_ret;have hx:xs=[]:=List.eq_nil_of_length_eq_zero (by rw[hr.1]);subst hx;exact⟨⟨none,0,rfl,World.ownsRow_nil _ _ _ _⟩,Below.refl _ _⟩
 | some ad=>
  have Hr:=q0_ hr;have H1:=q0_ h1;clear hr h1;obtain⟨i0,hi,hz0,hz1,hz2⟩:=info_parts zju;go_enter func105,ntmps105
  go_wp2_with (at_builtin;refine zcX rfl _ _ 49 rfl 130 i0 (.agg #[.string ByteArray.empty,.int .i64 0,.int .i64 0,.int .i64 0]) 4 40 underlying49 hi hz0 hz1 hz2 rfl (by decide) (.slice (some ⟨w.heap.size,0,none⟩) 0 0) 0 [] rfl (World.ownsRow_made w #[] 0 (Nat.zero_le _) (Nat.zero_le _) (by simp)) (some ad) n c xs rfl (Hr.out.alloc _) H1.out ?q1 ?q2 ?_)
  case q1=>unfold maxLen;omega
  case q2=>omega
  intro A' c' w1 ho hm;have Ho:=q0_ ho;have Hm:=q0_ hm;clear ho hm
  go_wp2
  go_ret;have ho:=Ho.out
  try simp only[List.nil_append,Nat.zero_add] at ho
  have hm:=Hm.out
  try simp only[Nat.zero_add] at hm
  have om:=(((Own.start w).skip (Fr.none_alloc w (.cells #[] 130))).also (G:=zaE (.slice (some ⟨w.heap.size,0,none⟩) 0 0)) (fun k hk=>by have:some w.heap.size=some k:=hk;injection this;omega)).mv hm;exact⟨⟨A',c',rfl,zgE ho om.new⟩,om.bel⟩
theorem zfA(xs:List Value)(h1:∀ u∈xs,u.oneCell'=true)(A:Option Addr)(n c:Nat)(w:World)(hr:Rd w 1 A n xs)(hn:n≤1099511627776):
  Calls prog 62 #[.slice A n c] w fun r w'=>(∃ A' c',r=.returned (.slice A' n c')∧w'.ownsRow w.heap.size 3 1 (.slice A' n c') n xs)∧Below w.heap.size w w':=by
 have q22:∀ (w:World) (a:Option Addr) (n c n' c':Nat),(binOp .eql 52 (.slice a n c) (.slice none n' c')).run prog w=.ok (.bool a.isNone) w:=fun w a n c n' c'=>Lib.run_eql_slice_nil w _ _ a n c n' c' underlying52
 cases A with
 | none=>
  have h0:n=0:=by
   rcases Nat.eq_zero_or_pos n with h0 | h0
   ·exact h0
   ·obtain⟨ad,h,_⟩:=hr.2 h0
    cases h
  subst h0;go_enter func62,ntmps62;go_wp2;go_ret;have hx:xs=[]:=List.eq_nil_of_length_eq_zero (by rw[hr.1]);subst hx;exact⟨⟨none,0,rfl,World.ownsRow_nil _ _ _ _⟩,Below.refl _ _⟩
 | some ad=>
  have Hr:=q0_ hr;have H1:=q0_ h1;clear hr h1;obtain⟨i0,hi,hz0,hz1,hz2⟩:=info_parts zeN;go_enter func62,ntmps62
  go_wp2_with (at_builtin;refine zcX rfl _ _ 52 rfl 3 i0 (.int .i64 0) 1 8 underlying52 hi hz0 hz1 hz2 rfl (by decide) (.slice (some ⟨w.heap.size,0,none⟩) 0 0) 0 [] rfl (World.ownsRow_made w #[] 0 (Nat.zero_le _) (Nat.zero_le _) (by simp)) (some ad) n c xs rfl (Hr.out.alloc _) H1.out ?q1 ?q2 ?_)
  case q1=>unfold maxLen;omega
  case q2=>omega
  intro A' c' w1 ho hm;have Ho:=q0_ ho;have Hm:=q0_ hm;clear ho hm
  go_wp2
  go_ret;have ho:=Ho.out
  try simp only[List.nil_append,Nat.zero_add] at ho
  have hm:=Hm.out
  try simp only[Nat.zero_add] at hm
  have om:=(((Own.start w).skip (Fr.none_alloc w (.cells #[] 3))).also (G:=zaE (.slice (some ⟨w.heap.size,0,none⟩) 0 0)) (fun k hk=>by have:some w.heap.size=some k:=hk;injection this;omega)).mv hm;exact⟨⟨A',c',rfl,zgE ho om.new⟩,om.bel⟩
theorem zdn(nm:ByteArray)(l:List za_)(A:Option Addr)(n c:Nat)(w:World)(hr:Rd w 4 A n (zah l))(hn:n≤1099511627776):
  Calls prog 59 #[zfS nm A n c] w fun r w'=>(∃ A' c',r=.returned (zfS nm A' n c')∧w'.ownsRow w.heap.size 130 4 (.slice A' n c') n (zah l))∧Below w.heap.size w w':=by
 unfold zfS;have Hr:=q0_ hr;clear hr;go_enter func59,ntmps59;go_wp2_with fail;have B0:=q0_ ((Blk.new w 51 #[.string nm,.slice A n c]).alloc (.cells #[.string ByteArray.empty,.slice none 0 0] 51));have B1:=q0_ (Blk.new' (w:=w.alloc (.cells #[.string nm,.slice A n c] 51)) (k:=w.heap.size+1) (by simp) 51 #[.string ByteArray.empty,.slice none 0 0]);have O:=q0_ (((Own.start w).skip (Fr.none_alloc w (.cells #[.string nm,.slice A n c] 51))).skip (Fr.none_alloc _ (.cells #[.string ByteArray.empty,.slice none 0 0] 51)));have R2:=q0_ ((Hr.out.alloc (.cells #[.string nm,.slice A n c] 51)).alloc (.cells #[.string ByteArray.empty,.slice none 0 0] 51));refine (zm8 (zah l) (zma l) A n c _ R2.out hn).mono ?_;rintro r w1 ⟨⟨A',c',rfl,hrd⟩,hb⟩
 have hnew:∀ k,zaE (.slice A' n c') k→w.heap.size+2≤k:=fun k hk=>by have:=(hrd.lt k hk).1;simpa using this
 have b0:=B0.out.below hb;have b1:=B1.out.below hb;have c0:=b0.cell 0;have c1:=b0.cell 1;have e0:=b1.cell 0;have e1:=b1.cell 1;have f1:=b0.frozen 1;have g0:=b1.frozen 0;have g1:=b1.frozen 1;simp only[q1_,q2_,q3_] at c0 c1 e0 e1;have Hrd:=q0_ hrd;have Hnew:=q0_ hnew;have O2:=q0_ (O.out.below hb);clear hb b0 b1 hrd hnew B0 B1 R2;go_wp2_with fail
 have oF:Own w (((w1.setCell ⟨w.heap.size,1,none⟩ (.slice A' n c')).setCell ⟨w.heap.size+1,0,none⟩ (.string nm)).setCell ⟨w.heap.size+1,1,none⟩ (.slice A' n c')) (fun k=>k=w.heap.size∨k=w.heap.size+1):=by
  refine (O2.out.also (G:=fun k=>k=w.heap.size∨k=w.heap.size+1) (fun k hk=>by omega)).fr ?_;exact (((Fr.refl (fun k=>k=w.heap.size∨k=w.heap.size+1) w1).setCell (p:=⟨w.heap.size,1,none⟩) (.inl (.inl rfl)) _).setCell (p:=⟨w.heap.size+1,0,none⟩) (.inl (.inr rfl)) _).setCell (p:=⟨w.heap.size+1,1,none⟩) (.inl (.inr rfl)) _
 have fF:Fr (fun k=>k=w.heap.size∨k=w.heap.size+1) w1 (((w1.setCell ⟨w.heap.size,1,none⟩ (.slice A' n c')).setCell ⟨w.heap.size+1,0,none⟩ (.string nm)).setCell ⟨w.heap.size+1,1,none⟩ (.slice A' n c')):=
  (((Fr.refl (fun k=>k=w.heap.size∨k=w.heap.size+1) w1).setCell (p:=⟨w.heap.size,1,none⟩) (.inl (.inl rfl)) _).setCell (p:=⟨w.heap.size+1,0,none⟩) (.inl (.inr rfl)) _).setCell (p:=⟨w.heap.size+1,1,none⟩) (.inl (.inr rfl)) _
 refine bodyPost_ret (v:=.agg #[.string nm,.slice A' n c']) ?_ rfl ⟨⟨A',c',rfl,zgE (zaf Hrd.out fF (fun k hk hF=>by have:=Hnew.out k hk;omega)) (fun k hk=>by have:=Hnew.out k hk;omega)⟩,oF.bel⟩;simp[results,results59,go_sem, *]
def zbg(l:List Int):List Value:=l.map (Value.int .i64)
theorem zip(l:List Int):∀ u∈zbg l,u.oneCell'=true:=by
 intro u hu;obtain⟨x,_,rfl⟩:=List.mem_map.1 hu
 rfl
def zbL(now:Int)(nm:ByteArray)(A:Option Addr)(n c:Nat)(B:Option Addr)(m d:Nat):Value:=.agg #[.int .i64 now,.string nm,.slice A n c,.slice B m d]
theorem of_own(nm:ByteArray)(l:List za_)(A:Option Addr)(n c:Nat)(now:Int)(fl:List Int)(B:Option Addr)(m d:Nat)(w:World)(hr:Rd w 4 A n (zah l))(hn:n≤1099511627776)(hf:Rd w 1 B m (zbg fl))(hm:m≤1099511627776):
  Calls prog 81 #[zfS nm A n c,.int .i64 now,.slice B m d] w fun r w'=>(∃ A' c' B' d',r=.returned (zbL now nm A' n c' B' m d')∧w'.ownsRow w.heap.size 130 4 (.slice A' n c') n (zah l)∧w'.ownsRow w.heap.size 3 1 (.slice B' m d') m (zbg fl))∧Below w.heap.size w w':=by
 unfold zfS;have Hr:=q0_ hr;have Hf:=q0_ hf;clear hr hf;go_enter func81,ntmps81;go_wp2_with fail;have B1:=q0_ (Blk.new' (w:=w.alloc (.cells #[.string nm,.slice A n c] 51)) (k:=w.heap.size+1) (by simp) 66 #[.int .i64 0,.string ByteArray.empty,.slice none 0 0,.slice none 0 0]);have O:=q0_ (((Own.start w).skip (Fr.none_alloc w (.cells #[.string nm,.slice A n c] 51))).skip (Fr.none_alloc _ (.cells #[.int .i64 0,.string ByteArray.empty,.slice none 0 0,.slice none 0 0] 66)));have R2:=q0_ ((Hr.out.alloc (.cells #[.string nm,.slice A n c] 51)).alloc (.cells #[.int .i64 0,.string ByteArray.empty,.slice none 0 0,.slice none 0 0] 66));have F2:=q0_ ((Hf.out.alloc (.cells #[.string nm,.slice A n c] 51)).alloc (.cells #[.int .i64 0,.string ByteArray.empty,.slice none 0 0,.slice none 0 0] 66));refine (zdn nm l A n c _ R2.out hn).mono ?_;rintro r w1 ⟨⟨A',c',rfl,hrd⟩,hb⟩
 have hnew:∀ k,zaE (.slice A' n c') k→w.heap.size+2≤k:=fun k hk=>by have:=(hrd.lt k hk).1;simpa using this
 have B1':=q0_ (B1.out.below hb);have F2':=q0_ (F2.out.below hb);have O2:=q0_ (O.out.below hb);have Hrd:=q0_ hrd;have Hnew:=q0_ hnew;clear hb hrd hnew B1 F2 R2 O;unfold zfS;go_wp2_with fail;refine (zfA (zbg fl) (zip fl) B m d _ F2'.out hm).mono ?_;rintro r w2 ⟨⟨B',d',rfl,hfd⟩,hb2⟩;have hfnew:=fun k hk=>(hfd.lt k hk).1;have O3:=q0_ (O2.out.below hb2);have Hrd2:=q0_ (zac Hrd.out (Fr.b0 hb2));have hs1:w.heap.size+2≤w1.heap.size:=B1'.out.lt |>fun h=>h;have b1:=B1'.out.below hb2;have e0:=b1.cell 0;have e1:=b1.cell 1;have e2:=b1.cell 2;have e3:=b1.cell 3;have g0:=b1.frozen 0;have g1:=b1.frozen 1;have g2:=b1.frozen 2;have g3:=b1.frozen 3;simp only[q1_,q2_,q3_] at e0 e1 e2 e3;have Hfd:=q0_ hfd;have Hfnew:=q0_ hfnew;have Hs1:=q0_ hs1;clear hb2 b1 hfd hfnew hs1 B1' O2 F2' Hrd;go_wp2_with fail
 have fF:Fr (fun k=>k=w.heap.size+1) w2 ((((w2.setCell ⟨w.heap.size+1,0,none⟩ (.int .i64 now)).setCell ⟨w.heap.size+1,1,none⟩ (.string nm)).setCell ⟨w.heap.size+1,2,none⟩ (.slice A' n c')).setCell ⟨w.heap.size+1,3,none⟩ (.slice B' m d')):=
  ((((Fr.refl (fun k=>k=w.heap.size+1) w2).setCell (p:=⟨w.heap.size+1,0,none⟩) (.inl rfl) _).setCell (p:=⟨w.heap.size+1,1,none⟩) (.inl rfl) _).setCell (p:=⟨w.heap.size+1,2,none⟩) (.inl rfl) _).setCell (p:=⟨w.heap.size+1,3,none⟩) (.inl rfl) _
 have oF:=(O3.out.also (G:=fun k=>k=w.heap.size+1) (fun k hk=>by omega)).fr fF;refine bodyPost_ret (v:=.agg #[.int .i64 now,.string nm,.slice A' n c',.slice B' m d']) ?_ rfl ⟨⟨A',c',B',d',rfl,zgE (zaf Hrd2.out fF (fun k hk hF=>by have:=Hnew.out k hk;omega)) (fun k hk=>by have:=Hnew.out k hk;omega),zgE (zaf Hfd.out fF (fun k hk hF=>by have:=Hfnew.out k hk;have:=Hs1.out;omega)) (fun k hk=>by have:=Hfnew.out k hk;have:=Hs1.out;omega)⟩,oF.bel⟩;simp[results,results81,go_sem, *]
def zar(now:Int)(l:List za_)(fl:List Int)(k:Nat):Int:=
 match l[k]?,l[min (k+1) (l.length-1)]? with
 | some a,some b=>let x:=zcu now a.keep b.every
  match fl[k]? with
  | some f=>max x f
  | none=>x
 | _,_=>0
theorem zjt(now:Int)(nm:ByteArray)(A:Option Addr)(n c:Nat)(B:Option Addr)(m d:Nat)(i:Int)(w:World):
  Calls prog 130 #[zbL now nm A n c B m d,.int .i64 i] w fun r w'=>r=.returned (.bool (decide (0≤i)&&decide (i<n)))∧Below w.heap.size w w':=by
 unfold zbL;have O:=q0_ ((Own.start w).skip (Fr.none_alloc w (.cells #[.int .i64 now,.string nm,.slice A n c,.slice B m d] 66)))
 by_cases h0:0≤i
 ·by_cases h1:i<n
  ·rw[show (decide (0≤i)&&decide (i<(n:Int)))=true by simp[h0,h1]]
   go_enter func130,ntmps130;go_wp2;go_ret;exact⟨by simp[*],O.out.bel⟩
  ·rw[show (decide (0≤i)&&decide (i<(n:Int)))=false by simp[h1]]
   go_enter func130,ntmps130;go_wp2;go_ret;exact⟨by simp[*],O.out.bel⟩
 ·rw[show (decide (0≤i)&&decide (i<(n:Int)))=false by simp[h0]]
  go_enter func130,ntmps130;go_wp2;go_ret;exact⟨by simp[*],O.out.bel⟩
def i64(x:Int):Prop:= -9223372036854775808≤x∧x≤9223372036854775807
def za_.wf(t:za_):Prop:=i64 t.every∧i64 t.keep∧i64 t.shards∧t.name.size≤maxLen
theorem zqr(now:Int)(nm:ByteArray)(A:Option Addr)(n c:Nat)(B:Option Addr)(m d:Nat)(i:Int)(w:World)(hi:(decide (0≤i)&&decide (i<(n:Int)))=false):
  Calls prog 84 #[zbL now nm A n c B m d,.int .i64 i] w fun r w'=>r=.returned (.int .i64 0)∧Below w.heap.size w w':=by
 have H:=q0_ (zjt now nm A n c B m d i);rw[hi] at H;unfold zbL at H ⊢;have O:=q0_ ((Own.start w).skip (Fr.none_alloc w (.cells #[.int .i64 now,.string nm,.slice A n c,.slice B m d] 66)));go_enter func84,ntmps84;go_wp2_with fail;refine (H.out _).mono ?_;rintro r w1 ⟨rfl,hb⟩;have O2:=q0_ (O.out.below hb);clear hb;go_wp2;go_ret;exact⟨by simp[*],O2.out.bel⟩
theorem zgr(now:Int)(hnow:i64 now)(nm:ByteArray)(l:List za_)(A:Option Addr)(n c:Nat)(fl:List Int)(B:Option Addr)(m d k:Nat)(w:World)(hr:Rd w 4 A n (zah l))(hf:Rd w 1 B m (zbg fl))(hwf:∀ t∈l,t.wf)(hk:k<n)(hn:n≤1099511627776):
  Calls prog 84 #[zbL now nm A n c B m d,.int .i64 k] w fun r w'=>r=.returned (.int .i64 (zar now l fl k))∧Below w.heap.size w w':=by
 have H:=q0_ (zjt now nm A n c B m d k);rw[show (decide (0≤(k:Int))&&decide ((k:Int)<(n:Int)))=true by simp;omega] at H;unfold zbL at H ⊢;have O:=q0_ ((Own.start w).skip (Fr.none_alloc w (.cells #[.int .i64 now,.string nm,.slice A n c,.slice B m d] 66)));have B0:=q0_ (Blk.new w 66 #[.int .i64 now,.string nm,.slice A n c,.slice B m d]);have Hr:=q0_ hr;have Hf:=q0_ hf;have Hwf:=q0_ hwf;have Hnow:=q0_ hnow;clear hr hf hwf hnow;go_enter func84,ntmps84;go_wp2_with fail;refine (H.out _).mono ?_;rintro r w1 ⟨rfl,hb⟩;have O2:=q0_ (O.out.below hb);have b1:=B0.out.below hb;have c0:=b1.cell 0;have c1:=b1.cell 1;have c2:=b1.cell 2;have c3:=b1.cell 3;simp only[q1_,q2_,q3_] at c0 c1 c2 c3
 have r1:=(Hr.out.below O2.out.bel)
 obtain⟨j,hj⟩:∃ j:Nat,(if (n:Int)-1<(k:Int)+1 then (n:Int)-1 else (k:Int)+1)=j∧j<n∧j=min (k+1) (n-1):=⟨min (k+1) (n-1),by split<;>omega,by omega,rfl⟩
 obtain⟨hj,hjn,hjk⟩:=hj;obtain⟨ad,x,rfl,hu,d0,d1,d2,d3⟩:=r1.tier hk;obtain⟨ad',y,e,hv,e0,e1,e2,e3⟩:=r1.tier hjn
 injection e with e
 subst e;have Hu:=q0_ hu;have Hv:=q0_ hv;have Hjk:=q0_ hjk;have wx:=q0_ (Hwf.out x (zab hu));have wy:=q0_ (Hwf.out y (zab hv));clear b1 hb r1 B0 hu hv hjk d0 d1 d3 e0 e2 e3;have w1':IntKind.i64.wrap ((k:Int)+1)=(k:Int)+1:=IntWalk.i64_in _ (by omega);have w2':IntKind.i64.wrap ((n:Int)-1)=(n:Int)-1:=IntWalk.i64_in _ (by omega);go_wp2_with fail
 go_quiet ((first | (go_at_call 131;exact zbk (zoM now x.keep y.every Hnow.out.1 Hnow.out.2 wx.out.2.1.1 wx.out.2.1.2 wy.out.1.1 wy.out.1.2 _))))
 have c3':(w1.drewN nq).cell? ⟨w.heap.size,3,none⟩=some (.slice B m d):=c3;have O4:=q0_ (O2.out.skip (Fr.none_drewN w1 nq));have f1:=(Hf.out.below O2.out.bel).drewN nq;have hlen:=(Hr.out).tiers_len;have hfl:fl.length=m:=(Hf.out).len_map
 have hmin:l[min (k+1) (l.length-1)]? =some y:=by rw[hlen, ← Hjk.out];exact Hv.out
 obtain⟨v,hv⟩:∃ v,zcu now x.keep y.every=v:=⟨_,rfl⟩
 rw[hv];clear w1' w2' hj c0 c1 c2 c3 d2 e1 hlen
 by_cases hkm:k<m
 ·obtain⟨bd,z,rfl,hz,hc⟩:=f1.at_map hkm
  have E:=q0_ (show zar now l fl k=max v z by unfold zar;rw[Hu.out,hmin];simp only[hv,hz]);clear hmin hfl hv f1 hz
  by_cases hvz:v≤z
  ·go_wp2_with fail
   all_goals (go_ret<;>exact⟨by rw[E.out];simp[*]<;>omega,O4.out.bel⟩)
  ·go_wp2_with fail
   all_goals (go_ret<;>exact⟨by rw[E.out];simp[*]<;>omega,O4.out.bel⟩)
 ·have E:=q0_ (show zar now l fl k=v by unfold zar;rw[Hu.out,hmin];simp only[hv,List.getElem?_eq_none (show fl.length≤k by omega)])
  clear hmin hfl hv f1;go_wp2_with fail
  all_goals (go_ret<;>exact⟨by rw[E.out];rfl,O4.out.bel⟩)
end Go.Proofs.YtjhhodndlkpmhaaGreatDoor
