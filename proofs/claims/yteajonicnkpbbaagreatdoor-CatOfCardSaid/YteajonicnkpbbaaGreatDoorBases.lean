/- Walk of plan.source. -/
import Derived.Test.YteajonicnkpbbaaGreatDoorFrom
namespace Go.Proofs.YteajonicnkpbbaaGreatDoor
set_option linter.all false
set_option maxHeartbeats 16000000
set_option maxRecDepth 100000
open Go.RowKit Tryz
def zce(now:Int)(l:List za_)(fl:List Int)(every:Int):Nat→Int
  | 0=> -1
  | k+1=>match l[k]? with
    | some t=>if zau t.every every&&(decide (zce now l fl every k<0)||decide (zat now l fl k≤zat now l fl (zce now l fl every k).toNat)) then (k:Int) else zce now l fl every k
    | none=>zce now l fl every k
theorem zit(now:Int)(l:List za_)(fl:List Int)(every:Int)(k:Nat): -1≤zce now l fl every k∧zce now l fl every k<k:=by
  induction k with
  | zero=>simp[zce]
  | succ k ih=>
    simp only[zce]
    split
    · split<;>omega
    · omega
theorem zmy(now : Int)(hnow : i64 now)(nm : ByteArray)(l : List za_)(A : Option Addr)(n c : Nat)(fl : List Int)(B : Option Addr)(m d : Nat)(A2 : Option Addr)(c2 : Nat)(every : Int)(w : World)
    (hr:Rd w 4 A n (zag l)) (hf:Rd w 1 B m (zaU fl)) (hr2:Rd w 4 A2 n (zag l)) (hwf:∀ t∈l,t.wf) (hn:n≤1099511627776):
    Calls prog 192 #[zb_ now nm A n c B m d,.slice A2 n c2,.int .i64 every] w fun r w'=>r=.returned (.int .i64 (zce now l fl every n))∧Below w.heap.size w w':=by
  have Hfrom:Hid (∀ (k:Nat) (w':World),Fr (fun _=>False) w w'→k<n→Calls prog 110 #[zb_ now nm A n c B m d,.int .i64 k] w' fun r w''=>r=.returned (.int .i64 (zat now l fl k))∧Below w'.heap.size w' w''):=
    fun k w' h hk=>zeY now hnow nm l A n c fl B m d k w' (hr.fr0 h) (hf.fr0 h) hwf hk hn
  have O:=q0_ ((Own.start w).skip (Fr.none_alloc w (.cells #[.int .i64 now,.string nm,.slice A n c,.slice B m d] 84)));have B0:=q0_ (Blk.new w 84 #[.int .i64 now,.string nm,.slice A n c,.slice B m d]);have Hr2:=q0_ hr2;have Hlen:=q0_ hr.tiers_len;clear hr hf hr2 hwf hnow;unfold zb_ at Hfrom ⊢;go_enter func192,ntmps192;go_wp2_with fail
  go_loopw [7,12] (fun o i wr=>∃ (k:Nat) (out:Int),k≤n∧i=.int .i64 k∧o=.int .i64 out∧Hid (out=zce now l fl every k)∧Blk wr w.heap.size 84 #[.int .i64 now,.string nm,.slice A n c,.slice B m d]∧Own w wr (fun _=>False)) (fun _ i _=>n-(intOf i).toNat)
  case atStart=>exact⟨0, -1,Nat.zero_le _,rfl,rfl,rfl,B0.out,O.out⟩
  case round=>
    obtain⟨k,out,hk,rfl,rfl,hout,hb,ho⟩:=hrel
    by_cases hlt:k<n
    · obtain⟨ad,x,rfl,hu,d0,d1,d2,d3⟩:=(Hr2.out.below ho.bel).tier hlt
      have Hu:=q0_ hu;have Ho:=q0_ ho;have Hb:=q0_ hb;clear hu ho hb
      go_wp2
      obtain⟨W1,hW1⟩:∃ W1,W1=wr.alloc (.cells #[.string x.name,.int .i64 x.every,.int .i64 x.keep,.int .i64 x.shards] 99):=⟨_,rfl⟩
      rw[← hW1];have hbx:Blk W1 wr.heap.size 99 #[.string x.name,.int .i64 x.every,.int .i64 x.keep,.int .i64 x.shards]:=hW1▸Blk.new _ _ _;have hb1:Blk W1 w.heap.size 84 #[.int .i64 now,.string nm,.slice A n c,.slice B m d]:=hW1▸Hb.out.alloc _;have ho1:Own w W1 (fun _=>False):=hW1▸Ho.out.skip (Fr.none_alloc _ _);have e1:=hbx.cell 1;have c0:=hb1.cell 0;have c1:=hb1.cell 1;have c2:=hb1.cell 2;have c3:=hb1.cell 3;simp only[q1_,q2_,q3_] at c0 c1 c2 c3 e1
      have HS:Hid (∀ w',Fr (fun _=>False) W1 w'→w'.cell? ⟨wr.heap.size,1,none⟩=some (.int .i64 x.every)∧w'.cell? ⟨w.heap.size,0,none⟩=some (.int .i64 now)∧w'.cell? ⟨w.heap.size,1,none⟩=some (.string nm)∧w'.cell? ⟨w.heap.size,2,none⟩=some (.slice A n c)∧w'.cell? ⟨w.heap.size,3,none⟩=some (.slice B m d)∧Fr (fun _=>False) W1 w'):=
        fun w' h=>⟨h.cell e1 (fun h=>h),h.cell c0 (fun h=>h),h.cell c1 (fun h=>h),h.cell c2 (fun h=>h),h.cell c3 (fun h=>h),h⟩
      have HF : Hid (∀ (j : Nat) (w' : World), j < n → (w'.cell? ⟨wr.heap.size, 1, none⟩ = some (.int .i64 x.every) ∧ w'.cell? ⟨w.heap.size, 0, none⟩ = some (.int .i64 now) ∧ w'.cell? ⟨w.heap.size, 1, none⟩ = some (.string nm) ∧ w'.cell? ⟨w.heap.size, 2, none⟩ = some (.slice A n c) ∧ w'.cell? ⟨w.heap.size, 3, none⟩ = some (.slice B m d) ∧ Fr (fun _ => False) W1 w') →
          Calls prog 110 #[.agg #[.int .i64 now,.string nm,.slice A n c,.slice B m d],.int .i64 j] w' fun r w''=>r=.returned (.int .i64 (zat now l fl j))∧(w''.cell? ⟨wr.heap.size,1,none⟩=some (.int .i64 x.every)∧w''.cell? ⟨w.heap.size,0,none⟩=some (.int .i64 now)∧w''.cell? ⟨w.heap.size,1,none⟩=some (.string nm)∧w''.cell? ⟨w.heap.size,2,none⟩=some (.slice A n c)∧w''.cell? ⟨w.heap.size,3,none⟩=some (.slice B m d)∧Fr (fun _=>False) W1 w'')):=
        fun j w' hj h=>(Hfrom.out j w' ((Fr.b0 ho1.bel).trans h.2.2.2.2.2 q4_) hj).mono fun r w'' ⟨h1,h2⟩=>⟨h1,HS.out w'' (h.2.2.2.2.2.trans (Fr.b0 h2) q4_)⟩
      have S0:=q0_ (HS.out W1.drew ((Fr.refl _ W1).drew));have Ho1:=q0_ ho1;have Hb1:=q0_ hb1;have hin:=zit now l fl every k;rw[← hout.out] at hin;obtain⟨i1,i2⟩:=hin;clear hW1 hbx hb1 ho1 d0 d1 d2 d3
      cases hd:zau x.every every
      · have HE:=q0_ (show zce now l fl every (k+1)=out by simp only[zce,Hu.out,hd,Bool.false_and,Bool.false_eq_true,if_false];exact hout.out.symm)
        have HD:Hid (∀ w',Calls prog 208 #[.int .i64 x.every,.int .i64 every] w' fun r w''=>r=.returned (.bool false)∧w'=w''):=fun w'=>by have h:=zb0 x.every every w';rw[hd] at h;exact h
        clear hd S0 HF HS
        go_quiet ((first | (go_at_call 208;exact za5 (HD.out _))))
        have hO:=q0_ (Ho1.out.skip (Fr.none_drewN W1 nq));have hB:=q0_ (Hb1.out.drewN nq);clear c0 c1 c2 c3 e1
        go_wp2
        go_roundw
        case rel=>exact⟨k+1,out,by omega,by go_num,rfl,HE.out.symm,hB.out,hO.out⟩
        case measure=>simp[intOf];omega
      · have HD:Hid (∀ w',Calls prog 208 #[.int .i64 x.every,.int .i64 every] w' fun r w''=>r=.returned (.bool true)∧w'=w''):=fun w'=>by have h:=zb0 x.every every w';rw[hd] at h;exact h
        have Hd:=q0_ hd;clear hd
        by_cases hneg:out<0
        · clear S0 HF HS
          go_quiet ((first | (go_at_call 208;exact za5 (HD.out _))))
          have hO:=q0_ (Ho1.out.skip (Fr.none_drewN W1 nq));have hB:=q0_ (Hb1.out.drewN nq);have HE:=q0_ (show zce now l fl every (k+1)=(k:Int) by simp only[zce,Hu.out,Hd.out, ← hout.out,qa_ hneg,Bool.true_or,Bool.true_and,if_true]);clear c0 c1 c2 c3 e1
          go_wp2
          go_roundw
          case rel=>exact⟨k+1,k,by omega,by go_num,rfl,HE.out.symm,hB.out,hO.out⟩
          case measure=>simp[intOf];omega
        · obtain⟨o,rfl⟩:=Int.eq_ofNat_of_zero_le (show 0≤out by omega)
          have hon:o<n:=by omega
          clear c0 c1 c2 c3 e1
          go_region_held3 (fun w'=>w'.cell? ⟨wr.heap.size,1,none⟩=some (.int .i64 x.every)∧w'.cell? ⟨w.heap.size,0,none⟩=some (.int .i64 now)∧w'.cell? ⟨w.heap.size,1,none⟩=some (.string nm)∧w'.cell? ⟨w.heap.size,2,none⟩=some (.slice A n c)∧w'.cell? ⟨w.heap.size,3,none⟩=some (.slice B m d)∧Fr (fun _=>False) W1 w') (first | exact S0.out | assumption) (first | (go_at_call 208;refine (HD.out _).mono ?_;rintro r w5 ⟨rfl,rfl⟩) | (go_at_call_of 110 (Value.int IntKind.i64 (k:Int));refine (HF.out k _ hlt (by first | exact S0.out | assumption)).mono ?_;rintro r w5 ⟨rfl,hS5⟩) | (go_at_call 110;refine (HF.out o _ hon (by first | exact S0.out | assumption)).mono ?_;rintro r w5 ⟨rfl,hS5⟩))
          have hO:=q0_ (Ho1.out.skip hS5.2.2.2.2.2);have hB:=q0_ (Hb1.out.fr hS5.2.2.2.2.2 (fun h=>h));have hng:decide ((o:Int)<0)=false:=q9_ (by omega)
          have HE:=q0_ (show zce now l fl every (k+1)=if zat now l fl k≤zat now l fl o then (k:Int) else (o:Int) by
            simp only[zce,Hu.out,Hd.out, ← hout.out,hng,Bool.false_or,Bool.true_and,Int.toNat_natCast,decide_eq_true_eq])
          by_cases hle:zat now l fl k≤zat now l fl o
          · rw[if_pos hle] at HE
            go_wp2
            go_roundw
            case rel=>exact⟨k+1,k,by omega,by go_num,rfl,HE.out.symm,hB.out,hO.out⟩
            case measure=>simp[intOf];omega
          · rw[if_neg hle] at HE
            go_wp2
            go_roundw
            case rel=>exact⟨k+1,o,by omega,by go_num,rfl,HE.out.symm,hB.out,hO.out⟩
            case measure=>simp[intOf];omega
    · obtain rfl:k=n:=by omega
      have Ho:=q0_ ho;clear hb ho
      go_wp2
      go_ret;exact⟨by rw[← hout.out];rfl,Ho.out.bel⟩
def zcP(nm:ByteArray)(A:Option Addr)(n c:Nat)(B:Option Addr)(m d:Nat):Value:=.agg #[.string nm,.slice A n c,.slice B m d]
def srcs(now:Int)(lf:List za_)(fl:List Int)(lt:List za_):List Int:=lt.map fun t=>zce now lf fl t.every lf.length
theorem zpv{P : Program}{w : World}{ops : Array Oper}{o : Oper}{a : Act}{K : Act → World → Prop}{Q : Exit → Act → World → Prop}{E : Prop}(hgd : o.guard = none)(s x : Operand)(t : TypeId)
    (ho:o.op=.call {callee:=.builtin .append,args:=#[s,x],argTypes:=#[t,t]})
    (e:TypeId) (i:TypeInfo) (z:Value) (size bytes:Nat) (ht:P.underlying t=some (.slice e)) (hi:P.info? e=some i) (hz:i.zero=some z)
    (hsize:i.size=size) (hby:i.bytes=bytes) (hzs:z.cells.size=size) (hsz:0<size)
    (v:Value) (n:Nat) (xs:List Value) (hs:a.eval s=v) (hown:w.ownsRow 0 e size v n xs)
    (A:Option Addr) (m c:Nat) (news:List Value) (hx:a.eval x=.slice A m c) (hr:Rd w size A m news) (h1:∀ u∈news,u.oneCell'=true)
    (h63:n+m≤maxLen) (hbytes:(n+m)*bytes≤140737488355328)
    (h:∀ A' c' w',w'.ownsRow 0 e size (.slice A' (n+m) c') (n+m) (xs++news)→Mv (zay v) (zay (.slice A' (n+m) c')) w w'→K (a.put o.dst (.slice A' (n+m) c')) w'):
    if Region.wanted o (yielded ops a.tmps)=true then Oper.wp P o a w K Q else E:=by
  have hw:Region.wanted o (yielded ops a.tmps)=true:=by simp[Region.wanted,hgd]
  rw[if_pos hw];obtain⟨v',w',hrun,h2,h3⟩:=zn3 (P:=P) t o.type e i z size bytes ht hi hz hsize hby hzs hsz v n xs hown A m c news hr h1 h63 hbytes;obtain⟨A',c',rfl,_⟩:=zbd h2;unfold Oper.wp execOp;simp only[ho,resolve,invoke,builtin,Sem.run_bind,Sem.run_pure,Result.andThen_ok,List.map_toArray,List.map_cons,List.map_nil,hs,hx,hrun];exact h A' c' w' h2 h3
theorem zrR(w : World)(nmf : ByteArray)(Af : Option Addr)(nf cf : Nat)(now : Int)(nmr : ByteArray)(Ar : Option Addr)(nr cr : Nat)(B : Option Addr)(m d : Nat)(nmt : ByteArray)(At : Option Addr)(nt ct : Nat) :
    ∃ WA,WA=(((w.alloc (.cells #[.string nmf,.slice Af nf cf] 25)).alloc (.cells #[.int .i64 now,.string nmr,.slice Ar nr cr,.slice B m d] 84)).alloc (.cells #[.string nmt,.slice At nt ct] 25)).alloc (.cells #[.string {data:=#[]},.slice none 0 0,.slice none 0 0] 91)∧Own w WA (fun _=>False)∧w.heap.size+4=WA.heap.size∧Blk WA w.heap.size 25 #[.string nmf,.slice Af nf cf]∧Blk WA (w.heap.size+1) 84 #[.int .i64 now,.string nmr,.slice Ar nr cr,.slice B m d]∧Blk WA (w.heap.size+1+1) 25 #[.string nmt,.slice At nt ct]∧Blk WA (w.heap.size+1+1+1) 91 #[.string {data:=#[]},.slice none 0 0,.slice none 0 0]:=by
  refine⟨_,rfl,((((Own.start w).skip (Fr.none_alloc _ _)).skip (Fr.none_alloc _ _)).skip (Fr.none_alloc _ _)).skip (Fr.none_alloc _ _),by simp,?_,?_,?_,?_⟩
  · exact (((Blk.new w _ _).alloc _).alloc _).alloc _
  · exact ((Blk.new' (by simp) _ _).alloc _).alloc _
  · exact (Blk.new' (by simp) _ _).alloc _
  · exact Blk.new' (by simp) _ _
theorem zpW(nmf : ByteArray)(lf : List za_)(Af : Option Addr)(nf cf : Nat)(now : Int)(nmr : ByteArray)(Ar : Option Addr)(nr cr : Nat)(B : Option Addr)(m d : Nat)(nmt : ByteArray)(lt : List za_)(At : Option Addr)(nt ct : Nat)(w : World)
    (hf:Rd w 4 Af nf (zag lf)) (hfc:nf≤cf) (ht:Rd w 4 At nt (zag lt)) (htc:nt≤ct) (hwf:∀ t∈lf,t.wf) (hwt:∀ t∈lt,t.wf) (hnf:nmf.size≤maxLen) (hnt:nmt.size≤maxLen)
    (hbad:(zai nmf lf&&zai nmt lt)=false):
    Calls prog 154 #[zcZ nmf Af nf cf,zb_ now nmr Ar nr cr B m d,zcZ nmt At nt ct] w fun r w'=>r=.returned (.tuple #[zcP {data:=#[]} none 0 0 none 0 0,.int .i64 23])∧Below w.heap.size w w':=by
  have HA:Hid (∀ w',Fr (fun _=>False) w w'→Calls prog 112 #[zcZ nmf Af nf cf] w' fun r w''=>(∃ k:Int,r=.returned (.tuple #[.int .i64 (zc3 (zai nmf lf)),.int .i64 k]))∧Below w'.heap.size w' w''):=
    fun w' h=>zc_ nmf hnf lf Af nf cf w' (hf.fr0 h) hfc (fun t ht=>(hwf t ht).2.2.2)
  have HB:Hid (∀ w',Fr (fun _=>False) w w'→Calls prog 112 #[zcZ nmt At nt ct] w' fun r w''=>(∃ k:Int,r=.returned (.tuple #[.int .i64 (zc3 (zai nmt lt)),.int .i64 k]))∧Below w'.heap.size w' w''):=
    fun w' h=>zc_ nmt hnt lt At nt ct w' (ht.fr0 h) htc (fun t ht=>(hwt t ht).2.2.2)
  clear hf ht hwf hwt;obtain⟨WA,hWA,oA,hsA,b3,b4,b5,b6⟩:=zrR w nmf Af nf cf now nmr Ar nr cr B m d nmt At nt ct;have OA:=q0_ oA;have HWA:=q0_ hWA;have B5:=q0_ b5;have B6:=q0_ b6;clear oA hWA b3 b4 b5 b6 hsA;unfold zcZ at HA HB ⊢;unfold zb_ zcP
  cases ha:zai nmf lf
  · rw[ha] at HA
    clear ha hbad HB B5;go_enter func154,ntmps154;go_wp2_with fail;rw[← HWA.out];refine (HA.out WA (Fr.b0 OA.out.bel)).mono ?_;rintro r w1 ⟨⟨k,rfl⟩,hb⟩;have O1:=q0_ (OA.out.below hb);have b6:=B6.out.below hb;have e0:=b6.cell 0;have e1:=b6.cell 1;have e2:=b6.cell 2;have g0:=b6.frozen 0;have g1:=b6.frozen 1;have g2:=b6.frozen 2;simp only[q1_,q2_,q3_] at e0 e1 e2;rw[show zc3 false=23 from rfl];clear hb b6 B6 HWA;go_wp2_with fail
    have fF:Fr (fun k=>k=w.heap.size+1+1+1) w1 (((w1.setCell ⟨w.heap.size+1+1+1,0,none⟩ (.string {data:=#[]})).setCell ⟨w.heap.size+1+1+1,1,none⟩ (.slice none 0 0)).setCell ⟨w.heap.size+1+1+1,2,none⟩ (.slice none 0 0)):=
      (((Fr.refl (fun k=>k=w.heap.size+1+1+1) w1).setCell (p:=⟨w.heap.size+1+1+1,0,none⟩) (.inl rfl) _).setCell (p:=⟨w.heap.size+1+1+1,1,none⟩) (.inl rfl) _).setCell (p:=⟨w.heap.size+1+1+1,2,none⟩) (.inl rfl) _
    have oF:=(O1.out.also (G:=fun k=>k=w.heap.size+1+1+1) (fun k hk=>by omega)).fr fF;refine bodyPost_ret (v:=.tuple #[.agg #[.string {data:=#[]},.slice none 0 0,.slice none 0 0],.int .i64 23]) ?_ rfl ⟨rfl,oF.bel⟩;simp[results,results154,go_sem, *]
  · have hb':zai nmt lt=false:=by rw[ha] at hbad;simpa using hbad
    rw[ha] at HA;rw[hb'] at HB;clear ha hbad hb';go_enter func154,ntmps154;go_wp2_with fail;rw[← HWA.out];refine (HA.out WA (Fr.b0 OA.out.bel)).mono ?_;rintro r w1 ⟨⟨k,rfl⟩,hb⟩;have O1:=q0_ (OA.out.below hb);have B6':=q0_ (B6.out.below hb);have b5:=B5.out.below hb;have d0:=b5.cell 0;have d1:=b5.cell 1;simp only[q1_,q2_,q3_] at d0 d1;rw[show zc3 true=0 from rfl];clear hb b5 B6 HWA B5;go_wp2_with fail;refine (HB.out w1 (Fr.b0 O1.out.bel)).mono ?_;rintro r w2 ⟨⟨k2,rfl⟩,hb⟩;have O2:=q0_ (O1.out.below hb);have b6:=B6'.out.below hb;have e0:=b6.cell 0;have e1:=b6.cell 1;have e2:=b6.cell 2;have g0:=b6.frozen 0;have g1:=b6.frozen 1;have g2:=b6.frozen 2;simp only[q1_,q2_,q3_] at e0 e1 e2;rw[show zc3 false=23 from rfl];clear hb b6 B6' d0 d1;go_wp2_with fail
    have fF:Fr (fun k=>k=w.heap.size+1+1+1) w2 (((w2.setCell ⟨w.heap.size+1+1+1,0,none⟩ (.string {data:=#[]})).setCell ⟨w.heap.size+1+1+1,1,none⟩ (.slice none 0 0)).setCell ⟨w.heap.size+1+1+1,2,none⟩ (.slice none 0 0)):=
      (((Fr.refl (fun k=>k=w.heap.size+1+1+1) w2).setCell (p:=⟨w.heap.size+1+1+1,0,none⟩) (.inl rfl) _).setCell (p:=⟨w.heap.size+1+1+1,1,none⟩) (.inl rfl) _).setCell (p:=⟨w.heap.size+1+1+1,2,none⟩) (.inl rfl) _
    have oF:=(O2.out.also (G:=fun k=>k=w.heap.size+1+1+1) (fun k hk=>by omega)).fr fF;refine bodyPost_ret (v:=.tuple #[.agg #[.string {data:=#[]},.slice none 0 0,.slice none 0 0],.int .i64 23]) ?_ rfl ⟨rfl,oF.bel⟩;simp[results,results154,go_sem, *]
theorem zpV(nmf : ByteArray)(lf : List za_)(Af : Option Addr)(nf cf : Nat)(now : Int)(hnow : i64 now)(nmr : ByteArray)(Ar : Option Addr)(cr : Nat)(fl : List Int)(B : Option Addr)(m d : Nat)(nmt : ByteArray)(lt : List za_)(At : Option Addr)(nt ct : Nat)(w : World)
    (hf:Rd w 4 Af nf (zag lf)) (hfc:nf≤cf) (hr:Rd w 4 Ar nf (zag lf)) (hfl:Rd w 1 B m (zaU fl)) (ht:Rd w 4 At nt (zag lt)) (htc:nt≤ct) (hwf:∀ t∈lf,t.wf) (hwt:∀ t∈lt,t.wf) (hnf:nmf.size≤maxLen) (hnt:nmt.size≤maxLen)
    (hn:nf≤1099511627776) (hn2:nt≤1099511627776) (ha:zai nmf lf=true) (hb':zai nmt lt=true):
    Calls prog 154 #[zcZ nmf Af nf cf,zb_ now nmr Ar nf cr B m d,zcZ nmt At nt ct] w
      fun r w'=>(∃ A' c' S cs,r=.returned (.tuple #[zcP nmt A' nt c' S nt cs,.int .i64 0])∧w'.ownsRow w.heap.size 99 4 (.slice A' nt c') nt (zag lt)∧w'.ownsRow w.heap.size 3 1 (.slice S nt cs) nt (zaU (srcs now lf fl lt)))∧Below w.heap.size w w':=by
  have HA:Hid (∀ w',Fr (fun _=>False) w w'→Calls prog 112 #[zcZ nmf Af nf cf] w' fun r w''=>(∃ k:Int,r=.returned (.tuple #[.int .i64 (zc3 (zai nmf lf)),.int .i64 k]))∧Below w'.heap.size w' w''):=
    fun w' h=>zc_ nmf hnf lf Af nf cf w' (hf.fr0 h) hfc (fun t ht=>(hwf t ht).2.2.2)
  have HB:Hid (∀ w',Fr (fun _=>False) w w'→Calls prog 112 #[zcZ nmt At nt ct] w' fun r w''=>(∃ k:Int,r=.returned (.tuple #[.int .i64 (zc3 (zai nmt lt)),.int .i64 k]))∧Below w'.heap.size w' w''):=
    fun w' h=>zc_ nmt hnt lt At nt ct w' (ht.fr0 h) htc (fun t ht=>(hwt t ht).2.2.2)
  have HC:Hid (∀ w',Fr (fun _=>False) w w'→Calls prog 107 #[zcZ nmt At nt ct] w' fun r w''=>(∃ A' c',r=.returned (zcZ nmt A' nt c')∧w''.ownsRow w'.heap.size 99 4 (.slice A' nt c') nt (zag lt))∧Below w'.heap.size w' w''):=
    fun w' h=>zcO nmt lt At nt ct w' (ht.fr0 h) hn2
  have HS:Hid (∀ (e:Int) w',Fr (fun _=>False) w w'→Calls prog 192 #[zb_ now nmr Ar nf cr B m d,.slice Af nf cf,.int .i64 e] w' fun r w''=>r=.returned (.int .i64 (zce now lf fl e nf))∧Below w'.heap.size w' w''):=
    fun e w' h=>zmy now hnow nmr lf Ar nf cr fl B m d Af cf e w' (hr.fr0 h) (hfl.fr0 h) (hf.fr0 h) hwf hn
  have Ht:=q0_ ht;have Hlf:=q0_ hf.tiers_len;have Hlt:=q0_ ht.tiers_len;clear hf hr hfl ht hwf hwt hnow;rw[ha] at HA;rw[hb'] at HB;obtain⟨WA,hWA,oA,hsA,b3,b4,b5,b6⟩:=zrR w nmf Af nf cf now nmr Ar nf cr B m d nmt At nt ct;have OA:=q0_ oA;have HWA:=q0_ hWA;have B3:=q0_ b3;have B4:=q0_ b4;have B5:=q0_ b5;have B6:=q0_ b6;have HsA:=q0_ hsA;clear oA hWA b3 b4 b5 b6 hsA ha hb';unfold zcZ at HA HB HC ⊢;unfold zb_ at HS ⊢;unfold zcP;obtain⟨i0,hi,hz0,hz1,hz2⟩:=info_parts zeh;go_enter func154,ntmps154;go_wp2_with fail;rw[← HWA.out];refine (HA.out WA (Fr.b0 OA.out.bel)).mono ?_;rintro r w1 ⟨⟨k,rfl⟩,hb⟩;have O1:=q0_ (OA.out.below hb);have B3':=q0_ (B3.out.below hb);have B4':=q0_ (B4.out.below hb);have B5':=q0_ (B5.out.below hb);have B6':=q0_ (B6.out.below hb);have Hs1:=q0_ (Nat.le_trans (Nat.le_of_eq HsA.out) hb.size);have d0:=B5'.out.cell 0;have d1:=B5'.out.cell 1;simp only[q1_,q2_,q3_] at d0 d1;rw[show zc3 true=0 from rfl];clear hb B3 B4 B5 B6 HWA;go_wp2_with fail;refine (HB.out w1 (Fr.b0 O1.out.bel)).mono ?_;rintro r w2 ⟨⟨k2,rfl⟩,hb⟩;have O2:=q0_ (O1.out.below hb);have B3:=q0_ (B3'.out.below hb);have B4:=q0_ (B4'.out.below hb);have B5:=q0_ (B5'.out.below hb);have B6:=q0_ (B6'.out.below hb);have Hs2:=q0_ (Nat.le_trans Hs1.out hb.size);clear d0 d1;have d0:=B5.out.cell 0;have d1:=B5.out.cell 1;simp only[q1_,q2_,q3_] at d0 d1;rw[show zc3 true=0 from rfl];clear hb B3' B4' B5' B6' O1;go_wp2_with fail;refine (HC.out w2 (Fr.b0 O2.out.bel)).mono ?_;rintro r w3 ⟨⟨A',c',rfl,hrd⟩,hb⟩;have hnew:=fun k hk=>(hrd.lt k hk).1;have O3:=q0_ (O2.out.below hb);have B3':=q0_ (B3.out.below hb);have B4':=q0_ (B4.out.below hb);have B5':=q0_ (B5.out.below hb);have B6':=q0_ (B6.out.below hb);have Hs3:=q0_ (Nat.le_trans Hs2.out hb.size);have Hrd:=q0_ hrd;have Hnew:=q0_ (show ∀ k,zay (.slice A' nt c') k→w.heap.size+4≤k from fun k hk=>Nat.le_trans Hs2.out (hnew k hk));clear d0 d1;have d0:=B5'.out.cell 0;have d1:=B5'.out.cell 1;simp only[q1_,q2_,q3_] at d0 d1;have c1:=fun o=>(Fr.none_alloc w3 o).cell d1 (fun h=>h);have BP:=q0_ (Blk.new w3 91 #[.string nmt,.slice A' nt c',.slice none 0 0])
  have OP:=q0_ (((Own.start w3).skip (Fr.none_alloc w3 (.cells #[.string nmt,.slice A' nt c',.slice none 0 0] 91))).also (G:=fun j=>j=w3.heap.size∨zay (.slice none 0 0) j) (fun k hk=>by
    rcases hk with rfl | hk
    · exact Nat.le_refl _
    · cases hk))
  clear hb B3 B4 B5 B6 O2 hrd hnew d0 d1;go_wp2_with fail;clear c1
  go_loopw [39] (fun i wr=>∃ (k:Nat) (S:Option Addr) (cs:Nat),k≤nt∧i=.int .i64 k∧Blk wr w3.heap.size 91 #[.string nmt,.slice A' nt c',.slice S k cs]∧wr.ownsRow 0 3 1 (.slice S k cs) k (zaU ((srcs now lf fl lt).take k))∧Own w3 wr (fun j=>j=w3.heap.size∨zay (.slice S k cs) j)) (fun i _=>nt-(intOf i).toNat)
  case atStart=>exact⟨0,none,0,Nat.zero_le _,rfl,BP.out,World.ownsRow_nil _ _ _ _,OP.out⟩
  case round=>
    obtain⟨k,S,cs,hk,rfl,hbp,hrow,ho⟩:=hrel
    by_cases hlt:k<nt
    · have Ow:=q0_ (O3.out.below ho.bel)
      obtain⟨ad,x,rfl,hu,d0,d1,d2,d3⟩:=(Ht.out.fr0 (Fr.b0 Ow.out.bel)).tier hlt;have Hu:=q0_ hu;have Ho:=q0_ ho;have Hbp:=q0_ hbp;have Hrow:=q0_ hrow;clear hu ho hbp hrow
      go_wp2
      obtain⟨W1,hW1⟩:∃ W1,W1=wr.alloc (.cells #[.string x.name,.int .i64 x.every,.int .i64 x.keep,.int .i64 x.shards] 99):=⟨_,rfl⟩
      rw[← hW1];have hbx:Blk W1 wr.heap.size 99 #[.string x.name,.int .i64 x.every,.int .i64 x.keep,.int .i64 x.shards]:=hW1▸Blk.new _ _ _;have hp1:Blk W1 w3.heap.size 91 #[.string nmt,.slice A' nt c',.slice S k cs]:=hW1▸Hbp.out.alloc _;have ho1:Own w3 W1 (fun j=>j=w3.heap.size∨zay (.slice S k cs) j):=hW1▸Ho.out.skip (Fr.none_alloc _ _)
      have hr1:W1.ownsRow 0 3 1 (.slice S k cs) k (zaU ((srcs now lf fl lt).take k)):=by rw[hW1];exact zab Hrow.out (Fr.none_alloc _ _)
      have b3:=B3'.out.below ho1.bel;have b4:=B4'.out.below ho1.bel;have c31:=b3.cell 1;have c40:=b4.cell 0;have c41:=b4.cell 1;have c42:=b4.cell 2;have c43:=b4.cell 3;have e1:=hbx.cell 1;have p2:=hp1.cell 2;simp only[q1_,q2_,q3_] at c31 c40 c41 c42 c43 e1 p2;have Hp1:=q0_ hp1;have Ho1:=q0_ ho1;have Hr1:=q0_ hr1;clear hW1 hbx hp1 ho1 hr1 b3 b4 d0 d1 d2 d3 Ho Hbp Hrow;have Ow1:=q0_ (O3.out.below Ho1.out.bel);have D1:W1.drew.cell? ⟨wr.heap.size,1,none⟩=some (.int .i64 x.every):=e1;have D2:W1.drew.cell? ⟨w3.heap.size,2,none⟩=some (.slice S k cs):=p2;have D3:W1.drew.cell? ⟨w.heap.size,1,none⟩=some (.slice Af nf cf):=c31;have D4:W1.drew.cell? ⟨w.heap.size+1,0,none⟩=some (.int .i64 now):=c40;have D5:W1.drew.cell? ⟨w.heap.size+1,1,none⟩=some (.string nmr):=c41;have D6:W1.drew.cell? ⟨w.heap.size+1,2,none⟩=some (.slice Ar nf cr):=c42;have D7:W1.drew.cell? ⟨w.heap.size+1,3,none⟩=some (.slice B m d):=c43;have HSx:=q0_ (HS.out x.every W1.drew ((Fr.b0 Ow1.out.bel).trans (G:=fun _=>False) ((Fr.refl _ W1).drew) q4_))
      have hkn:k+1≤maxLen:=by unfold maxLen;omega
      have hkb:(k+1)*8≤140737488355328:=by omega
      have Hk:=q0_ (And.intro hkn hkb);have hpd:Blk W1.drew w3.heap.size 91 #[.string nmt,.slice A' nt c',.slice S k cs]:=Hp1.out;have hnr:¬ zay (.slice S k cs) w3.heap.size:=zad Hr1.out Hp1.out (by decide);have HP5:Hid (∀ w5,Below W1.drew.heap.size W1.drew w5→w5.cell? ⟨w3.heap.size,2,none⟩=some (.slice S k cs)):=fun w5 h=>(hpd.below h).cell 2;have HP5':Hid (∀ w5,Below W1.drew.heap.size W1.drew w5→∀ o,(w5.alloc o).cell? ⟨w3.heap.size,2,none⟩=some (.slice S k cs)):=fun w5 h o=>((hpd.below h).alloc o).cell 2;have HB6:Hid (∀ w5,Below W1.drew.heap.size W1.drew w5→∀ o A6 c6 w6,Mv (zay (.slice S k cs)) (zay (.slice A6 (k+1) c6)) (w5.alloc o) w6→Blk w6 w3.heap.size 91 #[.string nmt,.slice A' nt c',.slice S k cs]):=fun w5 h o A6 c6 w6 hm=>((hpd.below h).alloc o).fr hm.fr hnr;have HP6:Hid (∀ w5,Below W1.drew.heap.size W1.drew w5→∀ o A6 c6 w6,Mv (zay (.slice S k cs)) (zay (.slice A6 (k+1) c6)) (w5.alloc o) w6→w6.cell? ⟨w3.heap.size,2,none⟩=some (.slice S k cs)):=fun w5 h o A6 c6 w6 hm=>(HB6.out w5 h o A6 c6 w6 hm).cell 2;have HF6:Hid (∀ w5,Below W1.drew.heap.size W1.drew w5→∀ o A6 c6 w6,Mv (zay (.slice S k cs)) (zay (.slice A6 (k+1) c6)) (w5.alloc o) w6→w6.frozen? ⟨w3.heap.size,2,none⟩=false):=fun w5 h o A6 c6 w6 hm=>(HB6.out w5 h o A6 c6 w6 hm).frozen 2
      have HZ : Hid (∀ w5, Below W1.drew.heap.size W1.drew w5 → ∀ o A6 c6 w6, w6.ownsRow 0 3 1 (.slice A6 (k + 1) c6) (k + 1) (zaU ((srcs now lf fl lt).take k) ++ [.int .i64 (zce now lf fl x.every nf)]) → Mv (zay (.slice S k cs)) (zay (.slice A6 (k + 1) c6)) (w5.alloc o) w6 →
          Blk (w6.setCell ⟨w3.heap.size,2,none⟩ (.slice A6 (k+1) c6)) w3.heap.size 91 #[.string nmt,.slice A' nt c',.slice A6 (k+1) c6]∧(w6.setCell ⟨w3.heap.size,2,none⟩ (.slice A6 (k+1) c6)).ownsRow 0 3 1 (.slice A6 (k+1) c6) (k+1) (zaU ((srcs now lf fl lt).take (k+1)))∧
          Own w3 (w6.setCell ⟨w3.heap.size,2,none⟩ (.slice A6 (k+1) c6)) (fun j=>j=w3.heap.size∨zay (.slice A6 (k+1) c6) j)):=by
        intro w5 h o A6 c6 w6 hown hm;have hb6:=HB6.out w5 h o A6 c6 w6 hm;have hne:¬ zay (.slice A6 (k+1) c6) w3.heap.size:=zad hown hb6 (by decide);have hs:Fr (fun j=>j=w3.heap.size) w6 (w6.setCell ⟨w3.heap.size,2,none⟩ (.slice A6 (k+1) c6)):=(Fr.refl (fun j=>j=w3.heap.size) w6).setCell (p:=⟨w3.heap.size,2,none⟩) (.inl rfl) _
        have hget:(srcs now lf fl lt)[k]? =some (zce now lf fl x.every nf):=by
          unfold srcs;rw[List.getElem?_map,Hu.out,Hlf.out];rfl
        refine⟨hb6.set_ 2 _,?_,?_⟩
        · rw[zak hget]
          unfold zaU at hown ⊢;rw[List.map_append];exact zah hown hs (fun j hj hg=>hne (hg▸hj))
        · refine (((Ho1.out.skip ((Fr.refl _ W1).drew)).below h).skip (Fr.none_alloc _ o)).mv ⟨?_,?_⟩
          · exact (hm.fr.mono (fun i hi=>.inl (.inr hi))).trans hs (fun i hi=>.inl (.inl hi))
          · rintro j (hj | hj)
            · exact .inl (.inl hj)
            · exact (hm.sub j hj).imp .inr id
      clear c31 c40 c41 c42 c43 e1 p2 hkn hkb hpd hnr HB6
      go_region_law (first
        | (refine zpv rfl (.tmp 44) (.tmp 51) 26 rfl 3 i0 (.int .i64 0) 1 8 underlying26 hi hz0 hz1 hz2 rfl (by decide) (.slice S k cs) k _ rfl
            (zab (zab (zab Hr1.out ((Fr.refl (fun _=>False) W1).drew)) (Fr.b0 hb5)) (Fr.none_alloc _ _)) (some ⟨w5.heap.size,0,none⟩) 1 1 [.int .i64 (zce now lf fl x.every nf)] rfl (Rd.new w5 [.int .i64 (zce now lf fl x.every nf)] _ 1 rfl) (by simp[Value.oneCell']) Hk.out.1 Hk.out.2 ?_;intro A6 c6 w6 ho6 hm6;have q6:=HP6.out w5 hb5 _ _ _ _ hm6;have f6:=HF6.out w5 hb5 _ _ _ _ hm6)
        | (go_simp;go_at_call 192;refine HSx.out.mono ?_;rintro r w5 ⟨rfl,hb5⟩;have q5:=HP5.out w5 hb5;have q5':=HP5'.out w5 hb5;try dsimp only))
      all_goals (
        have hz:=q0_ (HZ.out w5 hb5 _ _ _ _ ho6 hm6);clear D1 D2 D3 D4 D5 D6 D7 q5 q5' q6 f6 ho6 hm6 hb5
        go_wp2
        go_roundw
        case rel=>exact⟨k+1,A6,c6,by omega,by go_num,hz.out.1,hz.out.2.1,hz.out.2.2⟩
        case measure=>simp[intOf];omega)
    · obtain rfl:k=nt:=by omega
      have b6:=B6'.out.below ho.bel;have c0:=hbp.cell 0;have c1:=hbp.cell 1;have c2:=hbp.cell 2;have e0:=b6.cell 0;have e1:=b6.cell 1;have e2:=b6.cell 2;have g0:=b6.frozen 0;have g1:=b6.frozen 1;have g2:=b6.frozen 2;simp only[q1_,q2_,q3_] at c0 c1 c2 e0 e1 e2;have hl:(srcs now lf fl lt).take k=srcs now lf fl lt:=zaN (by unfold srcs;rw[List.length_map,Hlt.out];exact Nat.le_refl _);rw[hl] at hrow;have Hrow:=q0_ hrow;have Ho:=q0_ ho;have Hrd2:=q0_ (zab Hrd.out (Fr.b0 ho.bel));have Ow:=q0_ (O3.out.below ho.bel);clear b6 hrow ho hbp hl;go_wp2_with fail
      have fF:Fr (fun j=>j=w.heap.size+1+1+1) wr (((wr.setCell ⟨w.heap.size+1+1+1,0,none⟩ (.string nmt)).setCell ⟨w.heap.size+1+1+1,1,none⟩ (.slice A' k c')).setCell ⟨w.heap.size+1+1+1,2,none⟩ (.slice S k cs)):=
        (((Fr.refl (fun j=>j=w.heap.size+1+1+1) wr).setCell (p:=⟨w.heap.size+1+1+1,0,none⟩) (.inl rfl) _).setCell (p:=⟨w.heap.size+1+1+1,1,none⟩) (.inl rfl) _).setCell (p:=⟨w.heap.size+1+1+1,2,none⟩) (.inl rfl) _
      have oF:=(Ow.out.also (G:=fun j=>j=w.heap.size+1+1+1) (fun j hj=>by omega)).fr fF;have hS:∀ j,zay (.slice S k cs) j→w.heap.size+4≤j:=fun j hj=>Nat.le_trans Hs3.out (Ho.out.new j (.inr hj));refine bodyPost_ret (v:=.tuple #[.agg #[.string nmt,.slice A' k c',.slice S k cs],.int .i64 0]) ?_ rfl ⟨⟨A',c',S,cs,rfl,ze3 (zah Hrd2.out fF (fun j hj hF=>by have:=Hnew.out j hj;omega)) (fun j hj=>by have:=Hnew.out j hj;omega),ze3 (zah Hrow.out fF (fun j hj hF=>by have:=hS j hj;omega)) (fun j hj=>by have:=hS j hj;omega)⟩,oF.bel⟩;simp[results,results154,go_sem, *]
theorem zoo(nmf : ByteArray)(lf : List za_)(Af : Option Addr)(nf cf : Nat)(now : Int)(hnow : i64 now)(nmr : ByteArray)(Ar : Option Addr)(cr : Nat)(fl : List Int)(B : Option Addr)(m d : Nat)(nmt : ByteArray)(lt : List za_)(At : Option Addr)(nt ct : Nat)(w : World)
    (hf:Rd w 4 Af nf (zag lf)) (hfc:nf≤cf) (hr:Rd w 4 Ar nf (zag lf)) (hfl:Rd w 1 B m (zaU fl)) (ht:Rd w 4 At nt (zag lt)) (htc:nt≤ct) (hwf:∀ t∈lf,t.wf) (hwt:∀ t∈lt,t.wf) (hnf:nmf.size≤maxLen) (hnt:nmt.size≤maxLen)
    (hn:nf≤1099511627776) (hn2:nt≤1099511627776) (ha:zai nmf lf=true) (hb':zai nmt lt=true):
    Calls prog 154 #[zcZ nmf Af nf cf,zb_ now nmr Ar nf cr B m d,zcZ nmt At nt ct] w
      fun r w'=>(∃ A' c' S cs,r=.returned (.tuple #[zcP nmt A' nt c' S nt cs,.int .i64 0])∧nt≤c'∧nt≤cs∧Rd w' 4 A' nt (zag lt)∧Rd w' 1 S nt (zaU (srcs now lf fl lt))∧(∀ k,adF A' nt k→w.heap.size≤k)∧(∀ k,adF S nt k→w.heap.size≤k))∧Below w.heap.size w w':=by
  refine (zpV nmf lf Af nf cf now hnow nmr Ar cr fl B m d nmt lt At nt ct w hf hfc hr hfl ht htc hwf hwt hnf hnt hn hn2 ha hb').mono ?_;rintro r w' ⟨⟨A',c',S,cs,e,h1,h2⟩,hb⟩;obtain⟨a1,_,a3,a4⟩:=zal h1;obtain⟨b1,_,b3,b4⟩:=zal h2;exact⟨⟨A',c',S,cs,e,a1,b1,a3,b3,a4,b4⟩,hb⟩
def zco(now:Int)(l:List za_)(fl:List Int)(i:Int):Int:=if 0≤i∧i<l.length then zat now l fl i.toNat else 0
theorem zl2{now:Int}{l:List za_}{fl:List Int}(hnow:i64 now)(hl:∀ t∈l,t.wf)(hf:∀ f∈fl,i64 f)(k:Nat):i64 (zat now l fl k):=by
  unfold zat
  split
  · rename_i a b ha hb
    have wa:=hl a (zaa ha);have hb2:=zr_ (now:=now) (keep:=a.keep) (every:=b.every) hnow.2 wa.2.1.2
    split
    · rename_i f hfk
      have:=hf f (zaa hfk)
      show i64 (max (zcp now a.keep b.every) f)
      unfold i64 at this ⊢;omega
    · show i64 (zcp now a.keep b.every)
      unfold i64;omega
  · unfold i64;omega
theorem zp8{now:Int}{l:List za_}{fl:List Int}(hnow:i64 now)(hl:∀ t∈l,t.wf)(hf:∀ f∈fl,i64 f)(i:Int):i64 (zco now l fl i):=by
  unfold zco
  split
  · exact zl2 hnow hl hf _
  · unfold i64;omega
theorem zcR(now : Int)(hnow : i64 now)(nm : ByteArray)(l : List za_)(A : Option Addr)(n c : Nat)(fl : List Int)(B : Option Addr)(m d : Nat)(i : Int)(w : World)(hr : Rd w 4 A n (zag l))(hf : Rd w 1 B m (zaU fl))(hwf : ∀ t ∈ l, t.wf)(hn : n ≤ 1099511627776) :
    Calls prog 110 #[zb_ now nm A n c B m d,.int .i64 i] w fun r w'=>r=.returned (.int .i64 (zco now l fl i))∧Below w.heap.size w w':=by
  have hl:=hr.tiers_len;unfold zco;rw[hl]
  by_cases h:0≤i∧i<(n:Int)
  · rw[if_pos h]
    obtain⟨k,rfl⟩:=Int.eq_ofNat_of_zero_le h.1;exact zeY now hnow nm l A n c fl B m d k w hr hf hwf (by omega) hn
  · rw[if_neg h]
    exact zp6 now nm A n c B m d i w (by simp;omega)
def zaw(now:Int)(lf:List za_)(fl:List Int)(ss:List Int)(lt:List za_):List Int:=List.zipWith (fun s t=>zc4 (zco now lf fl s) t.every) ss lt
theorem zoZ(nm : ByteArray)(lt : List za_)(A : Option Addr)(n c : Nat)(ss : List Int)(S : Option Addr)(d : Nat)(now : Int)(hnow : i64 now)(nmr : ByteArray)(lf : List za_)(Ar : Option Addr)(nr cr : Nat)(fl : List Int)(B : Option Addr)(mf df : Nat)(w : World)
    (ht:Rd w 4 A n (zag lt)) (hs:Rd w 1 S n (zaU ss)) (hr:Rd w 4 Ar nr (zag lf)) (hf:Rd w 1 B mf (zaU fl)) (hwt:∀ t∈lt,t.wf) (hwf:∀ t∈lf,t.wf) (hwl:∀ f∈fl,i64 f) (hn:n≤1099511627776) (hnr:nr≤1099511627776):
    Calls prog 188 #[zcP nm A n c S n d,zb_ now nmr Ar nr cr B mf df] w
      fun r w'=>(∃ A' c',r=.returned (.slice A' n c')∧w'.ownsRow w.heap.size 3 1 (.slice A' n c') n (zaU (zaw now lf fl ss lt)))∧Below w.heap.size w w':=by
  have HF:Hid (∀ (i:Int) w',Fr (fun _=>False) w w'→Calls prog 110 #[zb_ now nmr Ar nr cr B mf df,.int .i64 i] w' fun r w''=>r=.returned (.int .i64 (zco now lf fl i))∧Below w'.heap.size w' w''):=
    fun i w' h=>zcR now hnow nmr lf Ar nr cr fl B mf df i w' (hr.fr0 h) (hf.fr0 h) hwf hnr
  have HI:Hid (∀ i,i64 (zco now lf fl i)):=fun i=>zp8 hnow hwf hwl i;have Ht:=q0_ ht;have Hs:=q0_ hs;have Hwt:=q0_ hwt;have Hlt:=q0_ ht.tiers_len;have Hls:=q0_ (show ss.length=n from hs.len_map);clear ht hs hr hf hwt hwf hwl hnow;have B0:=q0_ ((Blk.new w 91 #[.string nm,.slice A n c,.slice S n d]).alloc (.cells #[.int .i64 now,.string nmr,.slice Ar nr cr,.slice B mf df] 84));have B1:=q0_ (Blk.new' (w:=w.alloc (.cells #[.string nm,.slice A n c,.slice S n d] 91)) (k:=w.heap.size+1) (by simp) 84 #[.int .i64 now,.string nmr,.slice Ar nr cr,.slice B mf df]);have O:=q0_ (((Own.start w).skip (Fr.none_alloc w (.cells #[.string nm,.slice A n c,.slice S n d] 91))).skip (Fr.none_alloc _ (.cells #[.int .i64 now,.string nmr,.slice Ar nr cr,.slice B mf df] 84)));unfold zb_ at HF ⊢;unfold zcP;obtain⟨i0,hi,hz0,hz1,hz2⟩:=info_parts zeh;go_enter func188,ntmps188;go_wp2_with fail
  go_loopw [5,13] (fun o i wr=>∃ (k:Nat) (R:Option Addr) (cs:Nat),k≤n∧i=.int .i64 k∧o=.slice R k cs∧Blk wr w.heap.size 91 #[.string nm,.slice A n c,.slice S n d]∧Blk wr (w.heap.size+1) 84 #[.int .i64 now,.string nmr,.slice Ar nr cr,.slice B mf df]∧wr.ownsRow 0 3 1 (.slice R k cs) k (zaU ((zaw now lf fl ss lt).take k))∧Own w wr (zay (.slice R k cs))) (fun _ i _=>n-(intOf i).toNat)
  case atStart=>exact⟨0,none,0,Nat.zero_le _,rfl,rfl,B0.out,B1.out,World.ownsRow_nil _ _ _ _,O.out.also (fun k hk=>by cases hk)⟩
  case round=>
    obtain⟨k,R,cs,hk,rfl,rfl,hb0,hb1,hrow,ho⟩:=hrel
    by_cases hlt:k<n
    · obtain⟨ad,x,rfl,hu,d0,d1,d2,d3⟩:=(Ht.out.fr0 (Fr.b0 ho.bel)).tier hlt
      obtain⟨sd,s,rfl,hsu,hsc⟩:=(Hs.out.fr0 (Fr.b0 ho.bel)).at_map hlt;have Hu:=q0_ hu;have Hsu:=q0_ hsu;have Ho:=q0_ ho;have Hb0:=q0_ hb0;have Hb1:=q0_ hb1;have Hrow:=q0_ hrow;have p2:=hb0.cell 2;simp only[q1_,q2_,q3_] at p2;have p2':=fun o=>(Fr.none_alloc wr o).cell p2 (fun h=>h);clear hu hsu ho hb0 hb1 hrow p2
      go_wp2
      obtain⟨W1,hW1⟩:∃ W1,W1=wr.alloc (.cells #[.string x.name,.int .i64 x.every,.int .i64 x.keep,.int .i64 x.shards] 99):=⟨_,rfl⟩
      rw[← hW1];have hbx:Blk W1 wr.heap.size 99 #[.string x.name,.int .i64 x.every,.int .i64 x.keep,.int .i64 x.shards]:=hW1▸Blk.new _ _ _;have hp0:Blk W1 w.heap.size 91 #[.string nm,.slice (some ad) n c,.slice (some sd) n d]:=hW1▸Hb0.out.alloc _;have hp1:Blk W1 (w.heap.size+1) 84 #[.int .i64 now,.string nmr,.slice Ar nr cr,.slice B mf df]:=hW1▸Hb1.out.alloc _;have ho1:Own w W1 (zay (.slice R k cs)):=hW1▸Ho.out.skip (Fr.none_alloc _ _)
      have hr1:W1.ownsRow 0 3 1 (.slice R k cs) k (zaU ((zaw now lf fl ss lt).take k)):=by rw[hW1];exact zab Hrow.out (Fr.none_alloc _ _)
      have s1:W1.cell? (sd.add k)=some (.int .i64 s):=by rw[hW1];exact (Fr.none_alloc _ _).cell hsc (fun h=>h)
      have p2:=hp0.cell 2;have c40:=hp1.cell 0;have c41:=hp1.cell 1;have c42:=hp1.cell 2;have c43:=hp1.cell 3;simp only[q1_,q2_,q3_] at c40 c41 c42 c43 p2;have Hbx:=q0_ hbx;have Hp0:=q0_ hp0;have Hp1:=q0_ hp1;have Ho1:=q0_ ho1;have Hr1:=q0_ hr1;clear hW1 hbx hp0 hp1 ho1 hr1 hsc p2' d0 d1 d2 d3 Hb0 Hb1 Ho Hrow
      have hkn:(k:Int)<(n:Int):=by omega
      go_still_tail 6,(by kernel_rfl)
      repeat still_step
      try refine wpStill_nil ?_
      change wpList _ _ _ _ _ W1.drew;clear c40 c41 c42 c43 s1 p2;have o1d:=q0_ (Ho1.out.skip ((Fr.refl _ W1).drew));go_wp2_with fail;refine (HF.out s W1.drew (Fr.b0 o1d.out.bel)).mono ?_;rintro r w5 ⟨rfl,hb5⟩;have bx5:=(show Blk W1.drew wr.heap.size 99 #[.string x.name,.int .i64 x.every,.int .i64 x.keep,.int .i64 x.shards] from Hbx.out).below hb5;have e1:=bx5.cell 1;simp only[q1_,q2_,q3_] at e1;have hp05:=(show Blk W1.drew w.heap.size 91 #[.string nm,.slice (some ad) n c,.slice (some sd) n d] from Hp0.out).below hb5;have hp15:=(show Blk W1.drew (w.heap.size+1) 84 #[.int .i64 now,.string nmr,.slice Ar nr cr,.slice B mf df] from Hp1.out).below hb5;have hr5:w5.ownsRow 0 3 1 (.slice R k cs) k (zaU ((zaw now lf fl ss lt).take k)):=zab (zab Hr1.out ((Fr.refl (fun _=>False) W1).drew)) (Fr.b0 hb5);have Hp05:=q0_ hp05;have Hp15:=q0_ hp15;have Hr5:=q0_ hr5;have O5:=q0_ (o1d.out.below hb5);have wx:=q0_ (Hwt.out x (zaa Hu.out));have HC:=q0_ (fun w'=>zqh (zco now lf fl s) x.every (HI.out s).1 (HI.out s).2 wx.out.1.1 wx.out.1.2 w');have Hv:=q0_ (show (zaw now lf fl ss lt)[k]? =some (zc4 (zco now lf fl s) x.every) by unfold zaw;rw[List.getElem?_zipWith,Hsu.out,Hu.out])
      obtain⟨cv,hcv⟩:∃ cv,zc4 (zco now lf fl s) x.every=cv:=⟨_,rfl⟩
      rw[hcv] at HC Hv;clear bx5 hp05 hp15 hr5 hb5 Hbx Hp0 Hp1 Hr1 Ho1 hcv;go_wp2_with fail;refine (HC.out _).mono ?_;rintro r w6 ⟨rfl,rfl⟩;clear e1
      go_wp2_with (at_builtin;refine zd7 rfl _ _ 26 rfl 3 i0 (.int .i64 0) 1 8 underlying26 hi hz0 hz1 hz2 rfl (by decide) (.slice R k cs) k _ rfl (zab Hr5.out (Fr.none_alloc _ _)) (some ⟨w5.heap.size,0,none⟩) 1 1 [.int .i64 cv] rfl (Rd.new w5 [.int .i64 cv] _ 1 rfl) (by simp[Value.oneCell']) ?q1 ?q2 ?_)
      case q1=>unfold maxLen;omega
      case q2=>omega
      intro R6 c6 w6 ho6 hm6;have Ho6:=q0_ ho6;have Hm6:=q0_ hm6;clear ho6 hm6
      go_wp2
      go_roundw
      case rel=>
        refine⟨k+1,R6,c6,by omega,by go_num,by go_num,(Hp05.out.alloc _).fr Hm6.out.fr (zad Hr5.out Hp05.out (by decide)),(Hp15.out.alloc _).fr Hm6.out.fr (zad Hr5.out Hp15.out (by decide)),?_,(O5.out.skip (Fr.none_alloc _ _)).mv Hm6.out⟩;have h:=Ho6.out;rw[zak Hv.out];unfold zaU at h ⊢;rw[List.map_append];exact h
      case measure=>simp[intOf];omega
    · obtain rfl:k=n:=by omega
      have hl:(zaw now lf fl ss lt).take k=zaw now lf fl ss lt:=zaN (by unfold zaw;rw[List.length_zipWith,Hls.out,Hlt.out];omega);rw[hl] at hrow;have Hrow:=q0_ hrow;have Ho:=q0_ ho;clear hb0 hb1 hrow ho hl;go_wp2;go_ret;exact⟨⟨R,cs,rfl,ze3 Hrow.out Ho.out.new⟩,Ho.out.bel⟩
end Go.Proofs.YteajonicnkpbbaaGreatDoor
