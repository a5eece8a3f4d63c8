/- Walk of plan.source. -/
import Derived.Test.YtjhhodndlkpmhaaGreatDoorFrom
namespace Go.Proofs.YtjhhodndlkpmhaaGreatDoor
set_option linter.all false
set_option maxHeartbeats 4000000
set_option maxRecDepth 100000
open Go.RowKit Tryz
def zeE(now:Int)(l:List za_)(fl:List Int)(every:Int):Nat→Int
 | 0=> -1
 | k+1=>match l[k]? with
  | some t=>if zau t.every every&&(decide (zeE now l fl every k<0)||decide (zar now l fl k≤zar now l fl (zeE now l fl every k).toNat)) then (k:Int) else zeE now l fl every k
  | none=>zeE now l fl every k
theorem zlf(now:Int)(l:List za_)(fl:List Int)(every:Int)(k:Nat): -1≤zeE now l fl every k∧zeE now l fl every k<k:=by
 induction k with
 | zero=>simp[zeE]
 | succ k ih=>
  simp only[zeE]
  split
  ·split<;>omega
  ·omega
def zfm(nm:ByteArray)(A:Option Addr)(n c:Nat)(B:Option Addr)(m d:Nat):Value:=.agg #[.string nm,.slice A n c,.slice B m d]
def srcs(now:Int)(lf:List za_)(fl:List Int)(lt:List za_):List Int:=lt.map fun t=>zeE now lf fl t.every lf.length
theorem zsM(w:World)(nmf:ByteArray)(Af:Option Addr)(nf cf:Nat)(now:Int)(nmr:ByteArray)(Ar:Option Addr)(nr cr:Nat)(B:Option Addr)(m d:Nat)(nmt:ByteArray)(At:Option Addr)(nt ct:Nat):
  ∃ WA,WA=(((w.alloc (.cells #[.string nmf,.slice Af nf cf] 51)).alloc (.cells #[.int .i64 now,.string nmr,.slice Ar nr cr,.slice B m d] 66)).alloc (.cells #[.string nmt,.slice At nt ct] 51)).alloc (.cells #[.string {data:=#[]},.slice none 0 0,.slice none 0 0] 106)∧Own w WA (fun _=>False)∧w.heap.size+4=WA.heap.size∧Blk WA w.heap.size 51 #[.string nmf,.slice Af nf cf]∧Blk WA (w.heap.size+1) 66 #[.int .i64 now,.string nmr,.slice Ar nr cr,.slice B m d]∧Blk WA (w.heap.size+1+1) 51 #[.string nmt,.slice At nt ct]∧Blk WA (w.heap.size+1+1+1) 106 #[.string {data:=#[]},.slice none 0 0,.slice none 0 0]:=by
 refine⟨_,rfl,((((Own.start w).skip (Fr.none_alloc _ _)).skip (Fr.none_alloc _ _)).skip (Fr.none_alloc _ _)).skip (Fr.none_alloc _ _),by simp,?_,?_,?_,?_⟩
 ·exact (((Blk.new w _ _).alloc _).alloc _).alloc _
 ·exact ((Blk.new' (by simp) _ _).alloc _).alloc _
 ·exact (Blk.new' (by simp) _ _).alloc _
 ·exact Blk.new' (by simp) _ _
def zcg(now:Int)(l:List za_)(fl:List Int)(i:Int):Int:=if 0≤i∧i<l.length then zar now l fl i.toNat else 0
theorem zlG{now:Int}{l:List za_}{fl:List Int}(hnow:i64 now)(hl:∀ t∈l,t.wf)(hf:∀ f∈fl,i64 f)(k:Nat):i64 (zar now l fl k):=by
 unfold zar
 split
 ·rename_i a b ha hb
  have wa:=hl a (zab ha);have hb2:=zrW (now:=now) (keep:=a.keep) (every:=b.every) hnow.2 wa.2.1.2
  split
  ·rename_i f hfk
   have:=hf f (zab hfk)
   show i64 (max (zcu now a.keep b.every) f)
   unfold i64 at this ⊢;omega
  ·show i64 (zcu now a.keep b.every)
   unfold i64;omega
 ·unfold i64;omega
theorem zqs{now:Int}{l:List za_}{fl:List Int}(hnow:i64 now)(hl:∀ t∈l,t.wf)(hf:∀ f∈fl,i64 f)(i:Int):i64 (zcg now l fl i):=by
 unfold zcg
 split
 ·exact zlG hnow hl hf _
 ·unfold i64;omega
theorem zcE(now:Int)(hnow:i64 now)(nm:ByteArray)(l:List za_)(A:Option Addr)(n c:Nat)(fl:List Int)(B:Option Addr)(m d:Nat)(i:Int)(w:World)(hr:Rd w 4 A n (zah l))(hf:Rd w 1 B m (zbg fl))(hwf:∀ t∈l,t.wf)(hn:n≤1099511627776):
  Calls prog 84 #[zbL now nm A n c B m d,.int .i64 i] w fun r w'=>r=.returned (.int .i64 (zcg now l fl i))∧Below w.heap.size w w':=by
 have hl:=hr.tiers_len;unfold zcg;rw[hl]
 by_cases h:0≤i∧i<(n:Int)
 ·rw[if_pos h]
  obtain⟨k,rfl⟩:=Int.eq_ofNat_of_zero_le h.1;exact zgr now hnow nm l A n c fl B m d k w hr hf hwf (by omega) hn
 ·rw[if_neg h]
  exact zqr now nm A n c B m d i w (by simp;omega)
def zaR(now:Int)(lf:List za_)(fl:List Int)(ss:List Int)(lt:List za_):List Int:=List.zipWith (fun s t=>zcK (zcg now lf fl s) t.every) ss lt
theorem zpe(nm:ByteArray)(lt:List za_)(A:Option Addr)(n c:Nat)(ss:List Int)(S:Option Addr)(d:Nat)(now:Int)(hnow:i64 now)(nmr:ByteArray)(lf:List za_)(Ar:Option Addr)(nr cr:Nat)(fl:List Int)(B:Option Addr)(mf df:Nat)(w:World)
  (ht:Rd w 4 A n (zah lt)) (hs:Rd w 1 S n (zbg ss)) (hr:Rd w 4 Ar nr (zah lf)) (hf:Rd w 1 B mf (zbg fl)) (hwt:∀ t∈lt,t.wf) (hwf:∀ t∈lf,t.wf) (hwl:∀ f∈fl,i64 f) (hn:n≤1099511627776) (hnr:nr≤1099511627776):
  Calls prog 133 #[zfm nm A n c S n d,zbL now nmr Ar nr cr B mf df] w
   fun r w'=>(∃ A' c',r=.returned (.slice A' n c')∧w'.ownsRow w.heap.size 3 1 (.slice A' n c') n (zbg (zaR now lf fl ss lt)))∧Below w.heap.size w w':=by
 have HF:Hid (∀ (i:Int) w',Fr (fun _=>False) w w'→Calls prog 84 #[zbL now nmr Ar nr cr B mf df,.int .i64 i] w' fun r w''=>r=.returned (.int .i64 (zcg now lf fl i))∧Below w'.heap.size w' w''):=
  fun i w' h=>zcE now hnow nmr lf Ar nr cr fl B mf df i w' (hr.fr0 h) (hf.fr0 h) hwf hnr
 have HI:Hid (∀ i,i64 (zcg now lf fl i)):=fun i=>zqs hnow hwf hwl i;have Ht:=q0_ ht;have Hs:=q0_ hs;have Hwt:=q0_ hwt;have Hlt:=q0_ ht.tiers_len;have Hls:=q0_ (show ss.length=n from hs.len_map);clear ht hs hr hf hwt hwf hwl hnow;have B0:=q0_ ((Blk.new w 106 #[.string nm,.slice A n c,.slice S n d]).alloc (.cells #[.int .i64 now,.string nmr,.slice Ar nr cr,.slice B mf df] 66));have B1:=q0_ (Blk.new' (w:=w.alloc (.cells #[.string nm,.slice A n c,.slice S n d] 106)) (k:=w.heap.size+1) (by simp) 66 #[.int .i64 now,.string nmr,.slice Ar nr cr,.slice B mf df]);have O:=q0_ (((Own.start w).skip (Fr.none_alloc w (.cells #[.string nm,.slice A n c,.slice S n d] 106))).skip (Fr.none_alloc _ (.cells #[.int .i64 now,.string nmr,.slice Ar nr cr,.slice B mf df] 66)));unfold zbL at HF ⊢;unfold zfm;obtain⟨i0,hi,hz0,hz1,hz2⟩:=info_parts zeN;go_enter func133,ntmps133;go_wp2_with fail
 go_loopw [5,13] (fun o i wr=>∃ (k:Nat) (R:Option Addr) (cs:Nat),k≤n∧i=.int .i64 k∧o=.slice R k cs∧Blk wr w.heap.size 106 #[.string nm,.slice A n c,.slice S n d]∧Blk wr (w.heap.size+1) 66 #[.int .i64 now,.string nmr,.slice Ar nr cr,.slice B mf df]∧wr.ownsRow 0 3 1 (.slice R k cs) k (zbg ((zaR now lf fl ss lt).take k))∧Own w wr (zaE (.slice R k cs))) (fun _ i _=>n-(intOf i).toNat)
 case atStart=>exact⟨0,none,0,Nat.zero_le _,rfl,rfl,B0.out,B1.out,World.ownsRow_nil _ _ _ _,O.out.also (fun k hk=>by cases hk)⟩
 case round=>
  obtain⟨k,R,cs,hk,rfl,rfl,hb0,hb1,hrow,ho⟩:=hrel
  by_cases hlt:k<n
  ·obtain⟨ad,x,rfl,hu,d0,d1,d2,d3⟩:=(Ht.out.fr0 (Fr.b0 ho.bel)).tier hlt
   obtain⟨sd,s,rfl,hsu,hsc⟩:=(Hs.out.fr0 (Fr.b0 ho.bel)).at_map hlt;have Hu:=q0_ hu;have Hsu:=q0_ hsu;have Ho:=q0_ ho;have Hb0:=q0_ hb0;have Hb1:=q0_ hb1;have Hrow:=q0_ hrow;have p2:=hb0.cell 2;simp only[q1_,q2_,q3_] at p2;have p2':=fun o=>(Fr.none_alloc wr o).cell p2 (fun h=>h);clear hu hsu ho hb0 hb1 hrow p2
   go_wp2
   obtain⟨W1,hW1⟩:∃ W1,W1=wr.alloc (.cells #[.string x.name,.int .i64 x.every,.int .i64 x.keep,.int .i64 x.shards] 130):=⟨_,rfl⟩
   rw[← hW1];have hbx:Blk W1 wr.heap.size 130 #[.string x.name,.int .i64 x.every,.int .i64 x.keep,.int .i64 x.shards]:=hW1▸Blk.new _ _ _;have hp0:Blk W1 w.heap.size 106 #[.string nm,.slice (some ad) n c,.slice (some sd) n d]:=hW1▸Hb0.out.alloc _;have hp1:Blk W1 (w.heap.size+1) 66 #[.int .i64 now,.string nmr,.slice Ar nr cr,.slice B mf df]:=hW1▸Hb1.out.alloc _;have ho1:Own w W1 (zaE (.slice R k cs)):=hW1▸Ho.out.skip (Fr.none_alloc _ _)
   have hr1:W1.ownsRow 0 3 1 (.slice R k cs) k (zbg ((zaR now lf fl ss lt).take k)):=by rw[hW1];exact zac Hrow.out (Fr.none_alloc _ _)
   have s1:W1.cell? (sd.add k)=some (.int .i64 s):=by rw[hW1];exact (Fr.none_alloc _ _).cell hsc (fun h=>h)
   have p2:=hp0.cell 2;have c40:=hp1.cell 0;have c41:=hp1.cell 1;have c42:=hp1.cell 2;have c43:=hp1.cell 3;simp only[q1_,q2_,q3_] at c40 c41 c42 c43 p2;have Hbx:=q0_ hbx;have Hp0:=q0_ hp0;have Hp1:=q0_ hp1;have Ho1:=q0_ ho1;have Hr1:=q0_ hr1;clear hW1 hbx hp0 hp1 ho1 hr1 hsc p2' d0 d1 d2 d3 Hb0 Hb1 Ho Hrow
   have hkn:(k:Int)<(n:Int):=by omega
   go_still_tail 6,(by kernel_rfl)
   repeat still_step
   try refine wpStill_nil ?_
   change wpList _ _ _ _ _ W1.drew;clear c40 c41 c42 c43 s1 p2;have o1d:=q0_ (Ho1.out.skip ((Fr.refl _ W1).drew));go_wp2_with fail;refine (HF.out s W1.drew (Fr.b0 o1d.out.bel)).mono ?_;rintro r w5 ⟨rfl,hb5⟩;have bx5:=(show Blk W1.drew wr.heap.size 130 #[.string x.name,.int .i64 x.every,.int .i64 x.keep,.int .i64 x.shards] from Hbx.out).below hb5;have e1:=bx5.cell 1;simp only[q1_,q2_,q3_] at e1;have hp05:=(show Blk W1.drew w.heap.size 106 #[.string nm,.slice (some ad) n c,.slice (some sd) n d] from Hp0.out).below hb5;have hp15:=(show Blk W1.drew (w.heap.size+1) 66 #[.int .i64 now,.string nmr,.slice Ar nr cr,.slice B mf df] from Hp1.out).below hb5;have hr5:w5.ownsRow 0 3 1 (.slice R k cs) k (zbg ((zaR now lf fl ss lt).take k)):=zac (zac Hr1.out ((Fr.refl (fun _=>False) W1).drew)) (Fr.b0 hb5);have Hp05:=q0_ hp05;have Hp15:=q0_ hp15;have Hr5:=q0_ hr5;have O5:=q0_ (o1d.out.below hb5);have wx:=q0_ (Hwt.out x (zab Hu.out));have HC:=q0_ (fun w'=>zqF (zcg now lf fl s) x.every (HI.out s).1 (HI.out s).2 wx.out.1.1 wx.out.1.2 w');have Hv:=q0_ (show (zaR now lf fl ss lt)[k]? =some (zcK (zcg now lf fl s) x.every) by unfold zaR;rw[List.getElem?_zipWith,Hsu.out,Hu.out])
   obtain⟨cv,hcv⟩:∃ cv,zcK (zcg now lf fl s) x.every=cv:=⟨_,rfl⟩
   rw[hcv] at HC Hv;clear bx5 hp05 hp15 hr5 hb5 Hbx Hp0 Hp1 Hr1 Ho1 hcv;go_wp2_with fail;refine (HC.out _).mono ?_;rintro r w6 ⟨rfl,rfl⟩;clear e1
   go_wp2_with (at_builtin;refine zcX rfl _ _ 52 rfl 3 i0 (.int .i64 0) 1 8 underlying52 hi hz0 hz1 hz2 rfl (by decide) (.slice R k cs) k _ rfl (zac Hr5.out (Fr.none_alloc _ _)) (some ⟨w5.heap.size,0,none⟩) 1 1 [.int .i64 cv] rfl (Rd.new w5 [.int .i64 cv] _ 1 rfl) (by simp[Value.oneCell']) ?q1 ?q2 ?_)
   case q1=>unfold maxLen;omega
   case q2=>omega
   intro R6 c6 w6 ho6 hm6;have Ho6:=q0_ ho6;have Hm6:=q0_ hm6;clear ho6 hm6
   go_wp2
   go_roundw
   case rel=>
    refine⟨k+1,R6,c6,by omega,by go_num,by go_num,(Hp05.out.alloc _).fr Hm6.out.fr (zad Hr5.out Hp05.out (by decide)),(Hp15.out.alloc _).fr Hm6.out.fr (zad Hr5.out Hp15.out (by decide)),?_,(O5.out.skip (Fr.none_alloc _ _)).mv Hm6.out⟩;have h:=Ho6.out;rw[zan Hv.out];unfold zbg at h ⊢;rw[List.map_append];exact h
   case measure=>simp[intOf];omega
  ·obtain rfl:k=n:=by omega
   have hl:(zaR now lf fl ss lt).take k=zaR now lf fl ss lt:=za3 (by unfold zaR;rw[List.length_zipWith,Hls.out,Hlt.out];omega);rw[hl] at hrow;have Hrow:=q0_ hrow;have Ho:=q0_ ho;clear hb0 hb1 hrow ho hl;go_wp2;go_ret;exact⟨⟨R,cs,rfl,zgE Hrow.out Ho.out.new⟩,Ho.out.bel⟩
end Go.Proofs.YtjhhodndlkpmhaaGreatDoor
