/- Walks of sedimentbook's LentInts, StaysInts. -/
import Derived.Test.YteajonicnkpbbaaGreatDoorPolSame
namespace Go.Proofs.YteajonicnkpbbaaGreatDoor
set_option linter.all false
set_option maxHeartbeats 4000000
set_option maxRecDepth 100000
open Go.RowKit Tryz
theorem zbr(l:List Int):zaU l=za6 l:=by
 unfold zaU za6 zbm
 induction l with
 | nil=>rfl
 | cons x t ih=>simp only[List.flatMap_cons,List.map_cons,ih,List.singleton_append]
def zft(l:List Int):List Value:=za6 l++[.int .i64 (-77)]
theorem zg0(l:List Int)(B:Option Addr)(n d:Nat)(A:Option Addr)(c:Nat)(w:World)(hb:Rd w 1 B (n+1) (zft l))(ha:Rd w 1 A n (za6 l))(hd:n+1≤d)(hd2:d≤maxLen)(hn:n≤1000000):
  Calls prog 18 #[.slice B n d,.slice A n c] w fun r w'=>r=.returned (.bool true)∧Below w.heap.size w w':=by
 have hl:(za6 l).length=n*1:=ha.1
 have hbn:Rd w 1 B n (za6 l):=by
  have:=hb.take (k:=n) (by omega);unfold zft at this;rwa[List.take_left' hl] at this
 obtain⟨bd,rfl,hcell⟩:=hb.2 (by omega)
 have hm1:w.cell? (bd.add n)=some (.int .i64 (-77)):=by
  refine hcell n _ ?_;unfold zft;rw[Nat.mul_one] at hl;rw[List.getElem?_append_right (by rw[hl];omega),hl,Nat.sub_self]
  rfl
 have HM:=q0_ hm1;have HS:=q0_ (zd5 l _ _ _ _ _ w (by rw[zbr];exact hbn) (by rw[zbr];exact ha) (by omega):Calls prog 32 #[.slice (some bd) n d,.slice A n c] w fun r w'=>r=.returned (.bool true)∧Below w.heap.size w w');unfold maxLen at hd2
 have hdi:(n:Int)+1≤(d:Int):=by omega
 have hto:((n:Int)+1).toNat=n+1:=by omega
 clear hb ha hl hbn hcell hm1;go_enter func18,ntmps18;go_wp2_with fail;refine HS.out.mono ?_;rintro r w1 ⟨rfl,b1⟩;have B1:=q0_ b1;have m1:w1.cell? _=_:=(Fr.b0 b1).cell HM.out (fun h=>h);clear b1;go_wp2;go_ret;exact⟨rfl,B1.out⟩
def zfs(l:List zaa):List Value:=zaf l++[.string {data:=#[]},.int .i64 0,.int .i64 (-77),.int .i64 0]
theorem zhp(l:List zaa)(A:Option Addr)(n c:Nat)(w:World)(hr:Rd w 4 A n (zaf l))(hn:n≤1000000):
  Calls prog 10 #[.slice A n c] w fun r w'=>∃ B d,r=.returned (.slice B n d)∧n+1≤d∧d≤maxLen∧w'.ownsRow w.heap.size 99 4 (.slice B (n+1) d) (n+1) (zfs l)∧Below w.heap.size w w':=by
 obtain⟨i0,hi0,hz0,hz1,hz2⟩:=info_parts zc4;have Hr:=q0_ hr;clear hr;go_enter func10,ntmps10
 go_wp2_with (at_builtin;refine zaq rfl _ (.tmp 3) 23 rfl 99 i0 _ 4 40 underlying23 hi0 hz0 hz1 hz2 rfl (by decide) (.slice none 0 0) 0 [] rfl w.heap.size (Nat.le_refl _) (World.ownsRow_nil _ _ _ _) A n c (zaf l) rfl Hr.out (zcV l) ?q1 ?q2 ?_)
 case q1=>unfold maxLen;omega
 case q2=>omega
 intro R1 c1 w1 ho1 hm1 _
 (try simp only[Nat.zero_add,List.nil_append] at ho1)
 (try simp only[Nat.zero_add] at hm1)
 (try rw[Nat.zero_add])
 have HO1:=q0_ ho1;have O1:=q0_ (((Own.start w).also (G:=zag (.slice none 0 0)) (fun k hk=>by cases hk)).mv hm1);have hs1:=q0_ hm1.size;clear ho1 hm1
 go_wp2_with (at_builtin;refine zaq rfl (.tmp 4) (.tmp 6) 23 rfl 99 i0 _ 4 40 underlying23 hi0 hz0 hz1 hz2 rfl (by decide) (.slice R1 n c1) n _ rfl w.heap.size (by have:=hs1.out;simp;omega) (za_ HO1.out (Fr.none_alloc _ _)) (some ⟨w1.heap.size,0,none⟩) 1 1 [.string {data:=#[]},.int .i64 0,.int .i64 (-77),.int .i64 0] rfl (Rd.newS (by simp) _ _ _ _ rfl) (by simp[Value.oneCell']) ?q1 ?q2 ?_)
 case q1=>unfold maxLen;omega
 case q2=>omega
 intro R2 c2 w2 ho2 hm2 _;have HO2:=q0_ ho2;have O2:=q0_ ((O1.out.skip (Fr.none_alloc _ _)).mv hm2);obtain⟨R3,c3,e3,hc3,hc4,hr3⟩:=zam ho2
 injection e3 with e1 e2 e3
 subst e1;subst e3
 have hcn:n≤c2:=by omega
 have hcn2:(n:Int)≤(c2:Int):=by omega
 have hcm:c2≤9223372036854775807:=by unfold maxLen at hc4;omega
 have HC4:=q0_ hc4;have HR3:=q0_ hr3;clear ho2 hm2 hc4 hr3;go_wp2;go_ret;exact⟨R2,c2,rfl,hc3,HC4.out,HO2.out,O2.out.bel⟩
theorem zhq(l:List Int)(A:Option Addr)(n c:Nat)(w:World)(hr:Rd w 1 A n (za6 l))(hn:n≤1000000):
  Calls prog 9 #[.slice A n c] w fun r w'=>∃ B d,r=.returned (.slice B n d)∧n+1≤d∧d≤maxLen∧w'.ownsRow w.heap.size 3 1 (.slice B (n+1) d) (n+1) (zft l)∧Below w.heap.size w w':=by
 obtain⟨i0,hi0,hz0,hz1,hz2⟩:=info_parts zcL;have Hr:=q0_ hr;clear hr;go_enter func9,ntmps9
 go_wp2_with (at_builtin;refine zaq rfl _ (.tmp 3) 26 rfl 3 i0 _ 1 8 underlying26 hi0 hz0 hz1 hz2 rfl (by decide) (.slice none 0 0) 0 [] rfl w.heap.size (Nat.le_refl _) (World.ownsRow_nil _ _ _ _) A n c (za6 l) rfl Hr.out (zfD l) ?q1 ?q2 ?_)
 case q1=>unfold maxLen;omega
 case q2=>omega
 intro R1 c1 w1 ho1 hm1 _
 (try simp only[Nat.zero_add,List.nil_append] at ho1)
 (try simp only[Nat.zero_add] at hm1)
 (try rw[Nat.zero_add])
 have HO1:=q0_ ho1;have O1:=q0_ (((Own.start w).also (G:=zag (.slice none 0 0)) (fun k hk=>by cases hk)).mv hm1);have hs1:=q0_ hm1.size;clear ho1 hm1
 go_wp2_with (at_builtin;refine zaq rfl (.tmp 4) (.tmp 5) 26 rfl 3 i0 _ 1 8 underlying26 hi0 hz0 hz1 hz2 rfl (by decide) (.slice R1 n c1) n _ rfl w.heap.size (by have:=hs1.out;simp;omega) (za_ HO1.out (Fr.none_alloc _ _)) (some ⟨w1.heap.size,0,none⟩) 1 1 [.int .i64 (-77)] rfl (Rd.newS (by simp) _ _ _ _ rfl) (by simp[Value.oneCell']) ?q1 ?q2 ?_)
 case q1=>unfold maxLen;omega
 case q2=>omega
 intro R2 c2 w2 ho2 hm2 _;have HO2:=q0_ ho2;have O2:=q0_ ((O1.out.skip (Fr.none_alloc _ _)).mv hm2);obtain⟨R3,c3,e3,hc3,hc4,hr3⟩:=zam ho2
 injection e3 with e1 e2 e3
 subst e1;subst e3
 have hcn:n≤c2:=by omega
 have hcn2:(n:Int)≤(c2:Int):=by omega
 have hcm:c2≤9223372036854775807:=by unfold maxLen at hc4;omega
 have HC4:=q0_ hc4;have HR3:=q0_ hr3;clear ho2 hm2 hc4 hr3;go_wp2;go_ret;exact⟨R2,c2,rfl,hc3,HC4.out,HO2.out,O2.out.bel⟩
theorem zgZ(l:List zaa)(B:Option Addr)(n d:Nat)(A:Option Addr)(c:Nat)(w:World)(hb:Rd w 4 B (n+1) (zfs l))(ha:Rd w 4 A n (zaf l))(hd:n+1≤d)(hd2:d≤maxLen)(hn:n≤1000000):
  Calls prog 19 #[.slice B n d,.slice A n c] w fun r w'=>r=.returned (.bool true)∧Below w.heap.size w w':=by
 have hl:(zaf l).length=n*4:=ha.1
 have hbn:Rd w 4 B n (zaf l):=by
  have:=hb.take (k:=n) (by omega);unfold zfs at this;rwa[List.take_left' hl] at this
 obtain⟨bd,rfl,hcell⟩:=hb.2 (by omega)
 have hm1:w.cell? ((bd.add (n*4)).add 2)=some (.int .i64 (-77)):=by
  rw[zce];refine hcell (n*4+2) _ ?_;unfold zfs;rw[List.getElem?_append_right (by rw[hl];omega),hl,Nat.add_sub_cancel_left]
  rfl
 rw[zbW _ _ (by decide)] at hm1;have HM:=q0_ hm1;have HS:=q0_ (zdu l _ _ _ _ _ w hbn ha (by omega):Calls prog 60 #[.slice (some bd) n d,.slice A n c] w fun r w'=>r=.returned (.bool true)∧Below w.heap.size w w');unfold maxLen at hd2
 have hdi:(n:Int)+1≤(d:Int):=by omega
 have hto:((n:Int)+1).toNat=n+1:=by omega
 clear hb ha hl hbn hcell hm1;go_enter func19,ntmps19;go_wp2_with fail;refine HS.out.mono ?_;rintro r w1 ⟨rfl,b1⟩;have B1:=q0_ b1;have m1:w1.cell? _=_:=(Fr.b0 b1).cell HM.out (fun h=>h);clear b1;go_wp2;go_ret;exact⟨rfl,B1.out⟩
end Go.Proofs.YteajonicnkpbbaaGreatDoor
