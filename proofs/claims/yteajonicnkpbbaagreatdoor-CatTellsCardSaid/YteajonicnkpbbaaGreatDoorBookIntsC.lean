/- Walks of sedimentbook on kinds of which there are no lists. -/
import Derived.Test.YteajonicnkpbbaaGreatDoorPolSame
namespace Go.Proofs.YteajonicnkpbbaaGreatDoor
set_option linter.all false
set_option maxHeartbeats 8000000
set_option maxRecDepth 100000
open Go.RowKit Tryz
theorem zfO(g : Nat)(cs : Array Value)(w : World)(hb : Blk w g 42 cs)(hV : cs[0]? = some (.slice none 0 0)) :
    Calls prog 61 #[.pointer (some ⟨g,0,none⟩)] w fun r w'=>r=.returned (.bool true)∧w=w':=by
  have c0:=hb.cell 0;rw[hV] at c0;clear hb hV;go_enter func61,ntmps61;go_wp2_with fail
  go_loop [3] (fun i=>i=.int .i64 0) (fun _=>0)
  case atStart=>exact rfl
  case round=>
    obtain rfl:=hrel;go_wp2;go_ret;exact⟨rfl,rfl⟩
theorem zh4(g : Nat)(cs : Array Value)(w : World)(hb : Blk w g 42 cs)(hV : cs[0]? = some (.slice none 0 0)) :
    Calls prog 70 #[.pointer (some ⟨g,0,none⟩)] w fun r w'=>r=.returned (.tuple #[])∧w=w':=by
  have c0:=hb.cell 0;rw[hV] at c0;clear hb hV;go_enter func70,ntmps70;go_wp2_with fail
  go_loop [2] (fun i=>i=.int .i64 0) (fun _=>0)
  case atStart=>exact rfl
  case round=>
    obtain rfl:=hrel;go_wp2
    go_end0
    exact⟨rfl,rfl⟩
theorem zgP(g : Nat)(cs : Array Value)(w : World)(hb : Blk w g 42 cs)(hV : cs[0]? = some (.slice none 0 0)) :
    Calls prog 77 #[.pointer (some ⟨g,0,none⟩)] w fun r w'=>r=.returned (.slice none 0 0)∧w=w':=by
  have c0:=hb.cell 0;rw[hV] at c0;clear hb hV;go_enter func77,ntmps77;go_wp2_with fail
  go_loop [3,4] (fun o i=>o=.slice none 0 0∧i=.int .i64 0) (fun _ _=>0)
  case atStart=>exact⟨rfl,rfl⟩
  case round=>
    obtain⟨rfl,rfl⟩:=hrel;go_wp2;go_ret;exact⟨rfl,rfl⟩
theorem zdk(w : World) :
    Calls prog 85 #[.slice none 0 0] w fun r w'=>r=.returned (.bool true)∧w=w':=by
  go_enter func85,ntmps85;go_wp2_with fail
  go_loop [3] (fun i=>i=.int .i64 0) (fun _=>0)
  case atStart=>exact rfl
  case round=>
    obtain rfl:=hrel;go_wp2;go_ret;exact⟨rfl,rfl⟩
theorem zeT(g : Nat)(cs : Array Value)(w : World)(hb : Blk w g 42 cs)(hV : cs[4]? = some (.slice none 0 0)) :
    Calls prog 63 #[.pointer (some ⟨g,0,none⟩)] w fun r w'=>r=.returned (.bool true)∧w=w':=by
  have c0:=hb.cell 4;rw[hV] at c0;clear hb hV;go_enter func63,ntmps63;go_wp2_with fail
  go_loop [3] (fun i=>i=.int .i64 0) (fun _=>0)
  case atStart=>exact rfl
  case round=>
    obtain rfl:=hrel;go_wp2;go_ret;exact⟨rfl,rfl⟩
theorem zf2(g : Nat)(cs : Array Value)(w : World)(hb : Blk w g 42 cs)(hV : cs[4]? = some (.slice none 0 0)) :
    Calls prog 72 #[.pointer (some ⟨g,0,none⟩)] w fun r w'=>r=.returned (.tuple #[])∧w=w':=by
  have c0:=hb.cell 4;rw[hV] at c0;clear hb hV;go_enter func72,ntmps72;go_wp2_with fail
  go_loop [2] (fun i=>i=.int .i64 0) (fun _=>0)
  case atStart=>exact rfl
  case round=>
    obtain rfl:=hrel;go_wp2
    go_end0
    exact⟨rfl,rfl⟩
theorem zfx(g : Nat)(cs : Array Value)(w : World)(hb : Blk w g 42 cs)(hV : cs[4]? = some (.slice none 0 0)) :
    Calls prog 79 #[.pointer (some ⟨g,0,none⟩)] w fun r w'=>r=.returned (.slice none 0 0)∧w=w':=by
  have c0:=hb.cell 4;rw[hV] at c0;clear hb hV;go_enter func79,ntmps79;go_wp2_with fail
  go_loop [3,4] (fun o i=>o=.slice none 0 0∧i=.int .i64 0) (fun _ _=>0)
  case atStart=>exact⟨rfl,rfl⟩
  case round=>
    obtain⟨rfl,rfl⟩:=hrel;go_wp2;go_ret;exact⟨rfl,rfl⟩
theorem zcK(w : World) :
    Calls prog 87 #[.slice none 0 0] w fun r w'=>r=.returned (.bool true)∧w=w':=by
  go_enter func87,ntmps87;go_wp2_with fail
  go_loop [3] (fun i=>i=.int .i64 0) (fun _=>0)
  case atStart=>exact rfl
  case round=>
    obtain rfl:=hrel;go_wp2;go_ret;exact⟨rfl,rfl⟩
theorem zeS(g : Nat)(cs : Array Value)(w : World)(hb : Blk w g 42 cs)(hV : cs[6]? = some (.slice none 0 0)) :
    Calls prog 64 #[.pointer (some ⟨g,0,none⟩)] w fun r w'=>r=.returned (.bool true)∧w=w':=by
  have c0:=hb.cell 6;rw[hV] at c0;clear hb hV;go_enter func64,ntmps64;go_wp2_with fail
  go_loop [3] (fun i=>i=.int .i64 0) (fun _=>0)
  case atStart=>exact rfl
  case round=>
    obtain rfl:=hrel;go_wp2;go_ret;exact⟨rfl,rfl⟩
theorem zf1(g : Nat)(cs : Array Value)(w : World)(hb : Blk w g 42 cs)(hV : cs[6]? = some (.slice none 0 0)) :
    Calls prog 73 #[.pointer (some ⟨g,0,none⟩)] w fun r w'=>r=.returned (.tuple #[])∧w=w':=by
  have c0:=hb.cell 6;rw[hV] at c0;clear hb hV;go_enter func73,ntmps73;go_wp2_with fail
  go_loop [2] (fun i=>i=.int .i64 0) (fun _=>0)
  case atStart=>exact rfl
  case round=>
    obtain rfl:=hrel;go_wp2
    go_end0
    exact⟨rfl,rfl⟩
theorem zfw(g : Nat)(cs : Array Value)(w : World)(hb : Blk w g 42 cs)(hV : cs[6]? = some (.slice none 0 0)) :
    Calls prog 80 #[.pointer (some ⟨g,0,none⟩)] w fun r w'=>r=.returned (.slice none 0 0)∧w=w':=by
  have c0:=hb.cell 6;rw[hV] at c0;clear hb hV;go_enter func80,ntmps80;go_wp2_with fail
  go_loop [3,4] (fun o i=>o=.slice none 0 0∧i=.int .i64 0) (fun _ _=>0)
  case atStart=>exact⟨rfl,rfl⟩
  case round=>
    obtain⟨rfl,rfl⟩:=hrel;go_wp2;go_ret;exact⟨rfl,rfl⟩
theorem zcJ(w : World) :
    Calls prog 88 #[.slice none 0 0] w fun r w'=>r=.returned (.bool true)∧w=w':=by
  go_enter func88,ntmps88;go_wp2_with fail
  go_loop [3] (fun i=>i=.int .i64 0) (fun _=>0)
  case atStart=>exact rfl
  case round=>
    obtain rfl:=hrel;go_wp2;go_ret;exact⟨rfl,rfl⟩
theorem zfp(g : Nat)(cs : Array Value)(w : World)(hb : Blk w g 42 cs)(hV : cs[10]? = some (.slice none 0 0)) :
    Calls prog 66 #[.pointer (some ⟨g,0,none⟩)] w fun r w'=>r=.returned (.bool true)∧w=w':=by
  have c0:=hb.cell 10;rw[hV] at c0;clear hb hV;go_enter func66,ntmps66;go_wp2_with fail
  go_loop [3] (fun i=>i=.int .i64 0) (fun _=>0)
  case atStart=>exact rfl
  case round=>
    obtain rfl:=hrel;go_wp2;go_ret;exact⟨rfl,rfl⟩
theorem zgL(g : Nat)(cs : Array Value)(w : World)(hb : Blk w g 42 cs)(hV : cs[10]? = some (.slice none 0 0)) :
    Calls prog 75 #[.pointer (some ⟨g,0,none⟩)] w fun r w'=>r=.returned (.tuple #[])∧w=w':=by
  have c0:=hb.cell 10;rw[hV] at c0;clear hb hV;go_enter func75,ntmps75;go_wp2_with fail
  go_loop [2] (fun i=>i=.int .i64 0) (fun _=>0)
  case atStart=>exact rfl
  case round=>
    obtain rfl:=hrel;go_wp2
    go_end0
    exact⟨rfl,rfl⟩
theorem zgn(g : Nat)(cs : Array Value)(w : World)(hb : Blk w g 42 cs)(hV : cs[10]? = some (.slice none 0 0)) :
    Calls prog 82 #[.pointer (some ⟨g,0,none⟩)] w fun r w'=>r=.returned (.slice none 0 0)∧w=w':=by
  have c0:=hb.cell 10;rw[hV] at c0;clear hb hV;go_enter func82,ntmps82;go_wp2_with fail
  go_loop [3,4] (fun o i=>o=.slice none 0 0∧i=.int .i64 0) (fun _ _=>0)
  case atStart=>exact⟨rfl,rfl⟩
  case round=>
    obtain⟨rfl,rfl⟩:=hrel;go_wp2;go_ret;exact⟨rfl,rfl⟩
theorem zc3(w : World) :
    Calls prog 90 #[.slice none 0 0] w fun r w'=>r=.returned (.bool true)∧w=w':=by
  go_enter func90,ntmps90;go_wp2_with fail
  go_loop [3] (fun i=>i=.int .i64 0) (fun _=>0)
  case atStart=>exact rfl
  case round=>
    obtain rfl:=hrel;go_wp2;go_ret;exact⟨rfl,rfl⟩
theorem zfN(g : Nat)(cs : Array Value)(w : World)(hb : Blk w g 42 cs)(hV : cs[12]? = some (.slice none 0 0)) :
    Calls prog 67 #[.pointer (some ⟨g,0,none⟩)] w fun r w'=>r=.returned (.bool true)∧w=w':=by
  have c0:=hb.cell 12;rw[hV] at c0;clear hb hV;go_enter func67,ntmps67;go_wp2_with fail
  go_loop [3] (fun i=>i=.int .i64 0) (fun _=>0)
  case atStart=>exact rfl
  case round=>
    obtain rfl:=hrel;go_wp2;go_ret;exact⟨rfl,rfl⟩
theorem zh2(g : Nat)(cs : Array Value)(w : World)(hb : Blk w g 42 cs)(hV : cs[12]? = some (.slice none 0 0)) :
    Calls prog 76 #[.pointer (some ⟨g,0,none⟩)] w fun r w'=>r=.returned (.tuple #[])∧w=w':=by
  have c0:=hb.cell 12;rw[hV] at c0;clear hb hV;go_enter func76,ntmps76;go_wp2_with fail
  go_loop [2] (fun i=>i=.int .i64 0) (fun _=>0)
  case atStart=>exact rfl
  case round=>
    obtain rfl:=hrel;go_wp2
    go_end0
    exact⟨rfl,rfl⟩
theorem zgO(g : Nat)(cs : Array Value)(w : World)(hb : Blk w g 42 cs)(hV : cs[12]? = some (.slice none 0 0)) :
    Calls prog 83 #[.pointer (some ⟨g,0,none⟩)] w fun r w'=>r=.returned (.slice none 0 0)∧w=w':=by
  have c0:=hb.cell 12;rw[hV] at c0;clear hb hV;go_enter func83,ntmps83;go_wp2_with fail
  go_loop [3,4] (fun o i=>o=.slice none 0 0∧i=.int .i64 0) (fun _ _=>0)
  case atStart=>exact⟨rfl,rfl⟩
  case round=>
    obtain⟨rfl,rfl⟩:=hrel;go_wp2;go_ret;exact⟨rfl,rfl⟩
theorem zdj(w : World) :
    Calls prog 91 #[.slice none 0 0] w fun r w'=>r=.returned (.bool true)∧w=w':=by
  go_enter func91,ntmps91;go_wp2_with fail
  go_loop [3] (fun i=>i=.int .i64 0) (fun _=>0)
  case atStart=>exact rfl
  case round=>
    obtain rfl:=hrel;go_wp2;go_ret;exact⟨rfl,rfl⟩
theorem zfP(g : Nat)(cs : Array Value)(w : World)(hb : Blk w g 42 cs)(hV : cs[14]? = some (.slice none 0 0)) :
    Calls prog 68 #[.pointer (some ⟨g,0,none⟩)] w fun r w'=>r=.returned (.bool true)∧w=w':=by
  have c0:=hb.cell 14;rw[hV] at c0;clear hb hV;go_enter func68,ntmps68;go_wp2_with fail
  go_loop [3] (fun i=>i=.int .i64 0) (fun _=>0)
  case atStart=>exact rfl
  case round=>
    obtain rfl:=hrel;go_wp2;go_ret;exact⟨rfl,rfl⟩
theorem zh5(g : Nat)(cs : Array Value)(w : World)(hb : Blk w g 42 cs)(hV : cs[14]? = some (.slice none 0 0)) :
    Calls prog 69 #[.pointer (some ⟨g,0,none⟩)] w fun r w'=>r=.returned (.tuple #[])∧w=w':=by
  have c0:=hb.cell 14;rw[hV] at c0;clear hb hV;go_enter func69,ntmps69;go_wp2_with fail
  go_loop [2] (fun i=>i=.int .i64 0) (fun _=>0)
  case atStart=>exact rfl
  case round=>
    obtain rfl:=hrel;go_wp2
    go_end0
    exact⟨rfl,rfl⟩
theorem zgQ(g : Nat)(cs : Array Value)(w : World)(hb : Blk w g 42 cs)(hV : cs[14]? = some (.slice none 0 0)) :
    Calls prog 84 #[.pointer (some ⟨g,0,none⟩)] w fun r w'=>r=.returned (.slice none 0 0)∧w=w':=by
  have c0:=hb.cell 14;rw[hV] at c0;clear hb hV;go_enter func84,ntmps84;go_wp2_with fail
  go_loop [3,4] (fun o i=>o=.slice none 0 0∧i=.int .i64 0) (fun _ _=>0)
  case atStart=>exact⟨rfl,rfl⟩
  case round=>
    obtain⟨rfl,rfl⟩:=hrel;go_wp2;go_ret;exact⟨rfl,rfl⟩
theorem zdl(w : World) :
    Calls prog 92 #[.slice none 0 0] w fun r w'=>r=.returned (.bool true)∧w=w':=by
  go_enter func92,ntmps92;go_wp2_with fail
  go_loop [3] (fun i=>i=.int .i64 0) (fun _=>0)
  case atStart=>exact rfl
  case round=>
    obtain rfl:=hrel;go_wp2;go_ret;exact⟨rfl,rfl⟩
def zqs(i k:Nat):Int:= -1000000*(i:Int)-(k:Int)-7
theorem zm4:(prog.info? 26).map (fun i=>(i.zero,i.size,i.bytes))=some (some (.slice none 0 0),1,24):=by kernel_rfl
def zas(i b n:Nat):List Int:=(List.range n).map fun j=>zqs i (b+j)
theorem zbu(i b n:Nat):(zas i b n).length=n:=by simp[zas]
theorem zee(i b n:Nat):zas i b (n+1)=zas i b n++[zqs i (b+n)]:=by simp[zas,List.range_succ]
theorem zc2(i b m:Nat):∀ n,zas i b (m+n)=zas i b m++zas i (b+m) n
  | 0=>by simp[zas]
  | n+1=>by rw[← Nat.add_assoc,zee,zc2 i b m n,zee,List.append_assoc,Nat.add_assoc]
theorem znv(l:List Int):(zaU l).length=l.length*1:=zbZ zex l
theorem zga(i b n : Nat)(hi : i ≤ 1000)(hb : b ≤ 17179869184)(hn : n ≤ 17179869184)(w : World) :
    Calls prog 134 #[.int .i64 (i:Int),.int .i64 (b:Int),.int .i64 (n:Int)] w fun r w'=>∃ A c,r=.returned (.slice A n c)∧w'.ownsRow w.heap.size 3 1 (.slice A n c) n (zaU (zas i b n))∧Below w.heap.size w w':=by
  obtain⟨i0,hi0,hz0,hz1,hz2⟩:=info_parts zcL;go_enter func134,ntmps134;go_wp2_with fail
  go_loopw [7,8] (fun o i' wr=>∃ (k j:Nat) (R:Option Addr) (cs:Nat),k≤n∧i'=.int .i64 j∧Hid (j=b+k)∧o=.slice R k cs∧wr.ownsRow w.heap.size 3 1 (.slice R k cs) k (zaU (zas i b k))∧Own w wr (zag (.slice R k cs))) (fun _ i' _=>b+n-(intOf i').toNat)
  case atStart=>exact⟨0,b,none,0,Nat.zero_le _,rfl,rfl,rfl,World.ownsRow_nil _ _ _ _,(Own.start w).also (fun k hk=>by cases hk)⟩
  case round=>
    obtain⟨k,j,R,cs,hk,rfl,hj,rfl,hrow,ho⟩:=hrel;have Hrow:=q0_ hrow;have Ho:=q0_ ho;have hwr:=q0_ ho.bel.size;clear hrow ho
    have hjb:j≤34359738368:=by have:=hj.out;omega
    by_cases hlt:k<n
    · have hjn:(j:Int)<(b:Int)+(n:Int):=by have:=hj.out;omega
      have Hs:Hid (zaU (zas i b (k+1))=zaU (zas i b k)++[.int .i64 (-1000000*(i:Int)-(j:Int)-7)]):=by
        show _=_
        rw[zee,hj.out.symm];unfold zaU;rw[List.flatMap_append];simp[zqs,zbm]
      go_wp2_with (at_builtin;refine zaq rfl _ _ 26 rfl 3 i0 _ 1 8 underlying26 hi0 hz0 hz1 hz2 rfl (by decide) (.slice R k cs) k _ rfl w.heap.size (by have:=hwr.out;simp;omega) (za_ Hrow.out (Fr.none_alloc _ _)) (some ⟨wr.heap.size,0,none⟩) 1 1 [.int .i64 (-1000000*(i:Int)-(j:Int)-7)] rfl (Rd.newS (by simp) _ _ _ _ rfl) (by simp[Value.oneCell']) ?q1 ?q2 ?_)
      case q1=>unfold maxLen;omega
      case q2=>omega
      intro R6 c6 w6 ho6 hm6 _;have Ho6:=q0_ ho6;have Hm6:=q0_ hm6;clear ho6 hm6
      go_wp2
      go_roundw
      case rel=>
        refine⟨k+1,j+1,R6,c6,by omega,by go_num,by have:=hj.out;show _=_;omega,by go_num,?_,(Ho.out.skip (Fr.none_alloc _ _)).mv Hm6.out⟩;rw[Hs.out];exact Ho6.out
      case measure=>simp[intOf];omega
    · obtain rfl:k=n:=by omega
      have hje:¬ (j:Int)<(b:Int)+(k:Int):=by have:=hj.out;omega
      go_wp2;go_ret;exact⟨R,cs,rfl,Hrow.out,Ho.out.bel⟩
theorem znx(l : List Int)(A : Option Addr)(n c : Nat)(w : World)(hr : Rd w 1 A n (zaU l))(hn : n ≤ 17179869184) :
    Calls prog 58 #[.slice A n c] w fun r w'=>∃ B d,r=.returned (.slice B n d)∧w'.ownsRow w.heap.size 3 1 (.slice B n d) n (zaU l)∧Below w.heap.size w w':=by
  obtain⟨i0,hi0,hz0,hz1,hz2⟩:=info_parts zcL;have Hr:=q0_ hr;clear hr;go_enter func58,ntmps58
  go_wp2_with (at_builtin;refine zaq rfl _ _ 26 rfl 3 i0 _ 1 8 underlying26 hi0 hz0 hz1 hz2 rfl (by decide) (.slice none 0 0) 0 [] rfl w.heap.size (Nat.le_refl _) (World.ownsRow_nil _ _ _ _) A n c (zaU l) rfl Hr.out (ze0 l) ?q1 ?q2 ?_)
  case q1=>unfold maxLen;omega
  case q2=>omega
  intro R6 c6 w6 ho6 hm6 _
  (try simp only[Nat.zero_add,List.nil_append] at ho6)
  (try simp only[Nat.zero_add] at hm6)
  (try rw[Nat.zero_add])
  have Ho6:=q0_ ho6;have Hm6:=q0_ hm6;clear ho6 hm6;go_wp2;go_ret;exact⟨R6,c6,rfl,Ho6.out,(((Own.start w).also (G:=zag (.slice none 0 0)) (fun k hk=>by cases hk)).mv Hm6.out).bel⟩
theorem zlc(g : Nat)(cs : Array Value)(base : Nat)(V U : Value)(hs us : List (HV Int))(w : World)(hb : Blk w g 42 cs)(hV : cs[2]? = some V)(hU : cs[3]? = some U)
    (hk:zel zbm w base 26 3 1 V U hs us) (hn:hs.length≤1000) (hl:∀ h∈hs,h.l.length≤1000000):
    Calls prog 62 #[.pointer (some ⟨g,0,none⟩)] w fun r w'=>r=.returned (.bool true)∧Below w.heap.size w w':=by
  have HB:=q0_ hb;have HV0:=q0_ hV;have HU0:=q0_ hU;have HK:=q0_ hk;have HL:=q0_ hl;have hln:=hk.len;obtain⟨RA,rc,rfl,_,_,hR⟩:=zam hk.row;obtain⟨UA,uc,rfl,_,_,hU2⟩:=zam hk.wrow;rw[hln] at hU2 HU0 HK;have HR:=q0_ hR;have HU:=q0_ hU2
  obtain⟨m,hm⟩:∃ m,hs.length=m:=⟨_,rfl⟩
  rw[hm] at HR HU HV0 HU0 HK hn;have Hm:=q0_ hm;have Hln:=q0_ hln;clear hb hV hU hk hl hR hU2 hm hln;go_enter func62,ntmps62;go_wp2_with fail
  go_loopw [3] (fun i wr=>∃ k:Nat,k≤m∧i=.int .i64 k∧Own w wr (fun _=>False)) (fun i _=>m-(intOf i).toNat)
  case atStart=>exact⟨0,Nat.zero_le _,rfl,Own.start w⟩
  case round=>
    obtain⟨k,hk,rfl,ho⟩:=hrel;have Ho:=q0_ ho;have hB:=HB.out.below ho.bel;have c0:=hB.cell 2;have c1:=hB.cell 3;rw[HV0.out] at c0;rw[HU0.out] at c1;clear hB
    by_cases hlt:k<m
    · obtain⟨ad,x,rfl,hx,d0⟩:=(HR.out.fr0 (Fr.b0 ho.bel)).at_map hlt
      obtain⟨bd,y,rfl,hy,d1⟩:=(HU.out.fr0 (Fr.b0 ho.bel)).at_map hlt;have hlx:=HL.out x (zab hx)
      have hyx:y.l=x.l:=by
        have h1:(us.map HV.l)[k]? =(hs.map HV.l)[k]? :=by rw[HK.out.same]
        rw[List.getElem?_map,List.getElem?_map,hx,hy] at h1;exact Option.some.inj h1
      have ox:=za_ (HK.out.lists.own x (zab hx)) (Fr.b0 ho.bel);have oy:=za_ (HK.out.was y (zab hy)) (Fr.b0 ho.bel);obtain⟨vx,lx⟩:=x;obtain⟨vy,ly⟩:=y;simp only at hyx d0 d1 ox oy hlx;subst hyx;obtain⟨Ax,cx,rfl,_,_,rx⟩:=zam ox;obtain⟨Ay,cy,rfl,_,_,ry⟩:=zam oy;have RX:=q0_ (Rd.drew rx);have RY:=q0_ (Rd.drew ry)
      have hlt2:(k:Int)<(m:Int):=by omega
      clear hx hy ox oy rx ry ho;go_wp2_with fail
      go_still_tail 14,(by kernel_rfl)
      repeat still_step
      try refine wpStill_nil ?_
      change wpList _ _ _ _ _ wr.drew;have o1:=q0_ (Ho.out.skip ((Fr.refl _ wr).drew));clear c0 c1 d0 d1;go_wp2_with fail;refine (zd5 ly _ _ _ _ _ wr.drew RX.out RY.out (by omega)).mono ?_;rintro r w5 ⟨rfl,b5⟩;have o5:=q0_ (o1.out.below b5);clear b5
      go_wp2
      go_roundw
      case rel=>exact⟨k+1,by omega,by go_num,o5.out⟩
      case measure=>simp[intOf];omega
    · obtain rfl:k=m:=by omega
      clear ho;go_wp2;go_ret;exact⟨rfl,Ho.out.bel⟩
theorem zoV(g : Nat)(cs : Array Value)(base : Nat)(V U : Value)(hs us : List (HV Int))(l : List Int)(A : Option Addr)(n c : Nat)(w : World)(hb : Blk w g 42 cs)(hV : cs[2]? = some V)(hU : cs[3]? = some U)
    (hk:zel zbm w base 26 3 1 V U hs us) (hn:hs.length<250) (ho:w.ownsRow base 3 1 (.slice A n c) n (zaU l)) (hl:n≤1000000) (hbase:base≤w.heap.size) (hd:∀ h∈hs,∀ k,zag h.v k→¬ zag (.slice A n c) k):
    Calls prog 15 #[.pointer (some ⟨g,0,none⟩),.slice A n c] w fun r w'=>r=.returned (.tuple #[])∧∃ V' U' B d,Blk w' g 42 ((cs.setIfInBounds 2 V').setIfInBounds 3 U')∧zel zbm w' base 26 3 1 V' U' (hs++[⟨.slice A n c,l⟩]) (us++[⟨.slice B n d,l⟩])∧Fr (fun k=>k=g∨zag V k∨zag U k) w w'∧(∀ k,zag V' k→zag V k∨w.heap.size≤k)∧(∀ k,zag U' k→zag U k∨w.heap.size≤k)∧∀ k,zag (.slice B n d) k→w.heap.size≤k:=by
  have hln:=hk.len
  have hsz:l.length=n:=by have:=ho.1;rw[znv] at this;omega
  obtain⟨RA,rc,rfl,hrc1,hrc2,_⟩:=zam hk.row;obtain⟨UA,uc,rfl,huc1,huc2,_⟩:=zam hk.wrow;have Hlen:=q0_ hln
  obtain⟨m,hm⟩:∃ m,hs.length=m:=⟨_,rfl⟩
  have HK:=q0_ hk;have HU0:=q0_ hk.row;have HW0:=q0_ hk.wrow;rw[hln] at HK HW0 hU;rw[hm] at HK HU0 HW0 hn hV hU;have Hm:=q0_ hm;have Hsz:=q0_ hsz;have HO:=q0_ ho;have HD:=q0_ hd;have HBs:=q0_ hbase;have HB:=q0_ hb;have c0:=hb.cell 2;have f0:=hb.frozen 2;rw[hV] at c0;have hcs0:2<cs.size:=(Array.getElem?_eq_some_iff.1 hV).1;have HUU:=q0_ hU;have HVV:=q0_ hV;obtain⟨i0,hi0,hz0,hz1,hz2⟩:=info_parts zm4;clear hb hV hU hk ho hd hm hln hsz hbase;go_enter func15,ntmps15
  go_wp2_with (at_builtin;refine zaq rfl _ _ 34 rfl 26 i0 _ 1 24 underlying34 hi0 hz0 hz1 hz2 rfl (by decide) (.slice RA m rc) m _ rfl base (by have:=HBs.out;simp;omega) (za_ HU0.out (Fr.none_alloc _ _)) (some ⟨w.heap.size,0,none⟩) 1 1 [.slice A n c] rfl (Rd.newS (by simp) _ _ _ _ rfl) (by simp[Value.oneCell']) ?q1 ?q2 ?_)
  case q1=>unfold maxLen;omega
  case q2=>omega
  intro R2 c2 w2 ho2 hm2 _;have HO2:=q0_ ho2;have HM2:=q0_ hm2;have gV:¬ zag (.slice RA m rc) g:=zac HU0.out HB.out (by decide);have gU:¬ zag (.slice UA m uc) g:=zac HW0.out HB.out (by decide);have B2:=(HB.out.alloc (.cells #[.slice A n c] 26)).fr hm2.fr gV;have gV2:¬ zag (.slice R2 (m+1) c2) g:=zac ho2 B2 (by decide);have c2':=B2.cell 2;have f2':=B2.frozen 2;rw[HVV.out] at c2';have HB2:=q0_ B2;have GV:=q0_ gV;have GU:=q0_ gU;have GV2:=q0_ gV2;have hc0:=q0_ hcs0;clear ho2 hm2 gV gU gV2 B2 c0 f0 hcs0;go_wp2_with fail
  obtain⟨W3,hW3⟩:∃ W3,W3=w2.setCell ⟨g,2,none⟩ (.slice R2 (m+1) c2):=⟨_,rfl⟩
  rw[← hW3];have B3:Blk W3 g 42 (cs.setIfInBounds 2 (.slice R2 (m+1) c2)):=hW3▸HB2.out.set_ 2 _
  have F3:Fr (fun k=>k=g∨zag (.slice RA m rc) k∨zag (.slice UA m uc) k) w W3:=by
    rw[hW3];exact (((Fr.none_alloc w (.cells #[.slice A n c] 26)).mono q4_).trans HM2.out.fr (fun i hi=>.inl (.inr (.inl hi)))).setCell (p:=⟨g,2,none⟩) (.inl (.inl rfl)) _
  have R3:W3.ownsRow base 26 1 (.slice R2 (m+1) c2) (m+1) (hs.map HV.v++[.slice A n c]):=by
    rw[hW3];exact zad HO2.out ((Fr.refl (fun k=>k=g) w2).setCell (p:=⟨g,2,none⟩) (.inl rfl) _) (fun k hk e=>GV2.out (e▸hk))
  have U3:W3.ownsRow base 26 1 (.slice UA m uc) m (us.map HV.v):=by
    refine zad (zad (za_ HW0.out (Fr.none_alloc w (.cells #[.slice A n c] 26))) HM2.out.fr (fun k hk e=>HK.out.uv k e hk)) (?_ :Fr (fun k=>k=g) w2 W3) (fun k hk e=>GU.out (e▸hk));rw[hW3];exact (Fr.refl (fun k=>k=g) w2).setCell (p:=⟨g,2,none⟩) (.inl rfl) _
  have V3:∀ k,zag (.slice R2 (m+1) c2) k→¬ zag (.slice UA m uc) k:=fun k h1 h2=>by
    rcases HM2.out.sub k h1 with h3 | h3
    · exact HK.out.uv k h3 h2
    · have:=zcp HW0.out k h2
      simp at h3;omega
  have L3:W3.ownsRow base 3 1 (.slice A n c) n (zaU l):=by
    refine (Off.or (Off.blk HB.out (by decide)) (Off.or (Off.row HU0.out (by decide)) (Off.row HW0.out (by decide)))).own (ts:=[3]) HO.out (by decide) F3
  have e1:W3.drew.cell? ⟨g,3,none⟩=some (.slice UA m uc):=by
    have:=B3.cell 3;rwa[Array.getElem?_setIfInBounds_ne (by decide),HUU.out] at this
  have HB3:=q0_ (show Blk W3.drew g 42 (cs.setIfInBounds 2 (.slice R2 (m+1) c2)) from B3);have HF3:=q0_ (F3.drew);have HR3:=q0_ (show W3.drew.ownsRow base 26 1 (.slice R2 (m+1) c2) (m+1) (hs.map HV.v++[.slice A n c]) from za_ R3 ((Fr.refl (fun _=>False) W3).drew));have HU3:=q0_ (show W3.drew.ownsRow base 26 1 (.slice UA m uc) m (us.map HV.v) from za_ U3 ((Fr.refl (fun _=>False) W3).drew));have HL3:=q0_ (show W3.drew.ownsRow base 3 1 (.slice A n c) n (zaU l) from za_ L3 ((Fr.refl (fun _=>False) W3).drew));have HV3:=q0_ V3;have hbs3:=q0_ (show base≤W3.drew.heap.size by have:=F3.size;have:=HBs.out;show base≤W3.heap.size;omega);clear hW3 B3 F3 R3 U3 V3 L3 c2' f2';have hU1:3<cs.size:=(Array.getElem?_eq_some_iff.1 HUU.out).1;have HP5:Hid (∀ w5,Below W3.drew.heap.size W3.drew w5→w5.cell? ⟨g,3,none⟩=some (.slice UA m uc)):=fun w5 h=>(HB3.out.below h).cell 3 |>.trans (by rw[Array.getElem?_setIfInBounds_ne (by decide),HUU.out]);have HP5':Hid (∀ w5,Below W3.drew.heap.size W3.drew w5→∀ o,(w5.alloc o).cell? ⟨g,3,none⟩=some (.slice UA m uc)):=fun w5 h o=>((HB3.out.below h).alloc o).cell 3 |>.trans (by rw[Array.getElem?_setIfInBounds_ne (by decide),HUU.out]);have HB6:Hid (∀ w5,Below W3.drew.heap.size W3.drew w5→∀ o A6 c6 w6,Mv (zag (.slice UA m uc)) (zag (.slice A6 (m+1) c6)) (w5.alloc o) w6→Blk w6 g 42 (cs.setIfInBounds 2 (.slice R2 (m+1) c2))):=fun w5 h o A6 c6 w6 hm=>((HB3.out.below h).alloc o).fr hm.fr GU.out;have HP6:Hid (∀ w5,Below W3.drew.heap.size W3.drew w5→∀ o A6 c6 w6,Mv (zag (.slice UA m uc)) (zag (.slice A6 (m+1) c6)) (w5.alloc o) w6→w6.cell? ⟨g,3,none⟩=some (.slice UA m uc)):=fun w5 h o A6 c6 w6 hm=>(HB6.out w5 h o A6 c6 w6 hm).cell 3 |>.trans (by rw[Array.getElem?_setIfInBounds_ne (by decide),HUU.out]);have HF6:Hid (∀ w5,Below W3.drew.heap.size W3.drew w5→∀ o A6 c6 w6,Mv (zag (.slice UA m uc)) (zag (.slice A6 (m+1) c6)) (w5.alloc o) w6→w6.frozen? ⟨g,3,none⟩=false):=fun w5 h o A6 c6 w6 hm=>(HB6.out w5 h o A6 c6 w6 hm).frozen 3
  have HZ : Hid (∀ w5, Below W3.drew.heap.size W3.drew w5 → ∀ B d, w5.ownsRow W3.drew.heap.size 3 1 (.slice B n d) n (zaU l) → ∀ o A6 c6 w6, w6.ownsRow base 26 1 (.slice A6 (m + 1) c6) (m + 1) (us.map HV.v ++ [.slice B n d]) → Mv (zag (.slice UA m uc)) (zag (.slice A6 (m + 1) c6)) (w5.alloc o) w6 →
      Blk (w6.setCell ⟨g,3,none⟩ (.slice A6 (m+1) c6)) g 42 ((cs.setIfInBounds 2 (.slice R2 (m+1) c2)).setIfInBounds 3 (.slice A6 (m+1) c6))∧zel zbm (w6.setCell ⟨g,3,none⟩ (.slice A6 (m+1) c6)) base 26 3 1 (.slice R2 (m+1) c2) (.slice A6 (m+1) c6) (hs++[⟨.slice A n c,l⟩]) (us++[⟨.slice B n d,l⟩])∧Fr (fun k=>k=g∨zag (.slice RA m rc) k∨zag (.slice UA m uc) k) w (w6.setCell ⟨g,3,none⟩ (.slice A6 (m+1) c6))∧(∀ k,zag (.slice R2 (m+1) c2) k→zag (.slice RA m rc) k∨w.heap.size≤k)∧(∀ k,zag (.slice A6 (m+1) c6) k→zag (.slice UA m uc) k∨w.heap.size≤k)∧∀ k,zag (.slice B n d) k→w.heap.size≤k):=by
    intro w5 h5 B d hB5 o A6 c6 w6 hown hm;have hb6:=HB6.out w5 h5 o A6 c6 w6 hm;have hne:¬ zag (.slice A6 (m+1) c6) g:=zac hown hb6 (by decide);have hs7:Fr (fun j=>j=g) w6 (w6.setCell ⟨g,3,none⟩ (.slice A6 (m+1) c6)):=(Fr.refl (fun j=>j=g) w6).setCell (p:=⟨g,3,none⟩) (.inl rfl) _;have f5:Fr (fun _=>False) W3.drew (w5.alloc o):=(Fr.b0 h5).alloc o;have f57:Fr (fun k=>k=g∨zag (.slice UA m uc) k) (w5.alloc o) (w6.setCell ⟨g,3,none⟩ (.slice A6 (m+1) c6)):=(hm.fr.mono (fun i hi=>.inl (.inr hi))).trans hs7 (fun i hi=>.inl (.inl hi));have f37:Fr (fun k=>k=g∨zag (.slice UA m uc) k) W3.drew (w6.setCell ⟨g,3,none⟩ (.slice A6 (m+1) c6)):=(f5.mono q4_).trans f57 (fun i hi=>.inl hi);have f07:Fr (fun k=>k=g∨zag (.slice RA m rc) k∨zag (.slice UA m uc) k) w (w6.setCell ⟨g,3,none⟩ (.slice A6 (m+1) c6)):=HF3.out.trans f37 (fun i hi=>.inl (hi.imp id .inr));have off0:Off w (fun k=>k=g∨zag (.slice RA m rc) k∨zag (.slice UA m uc) k) [3]:=Off.or (Off.blk HB.out (by decide)) (Off.or (Off.row HU0.out (by decide)) (Off.row HW0.out (by decide)));have off5:Off (w5.alloc o) (fun k=>k=g∨zag (.slice UA m uc) k) [3]:=Off.or (Off.blk ((HB3.out.below h5).alloc o) (by decide)) (Off.row (za_ HU3.out f5) (by decide));have hsz35:w.heap.size≤W3.drew.heap.size:=HF3.out.size;have hsz5:W3.drew.heap.size≤(w5.alloc o).heap.size:=f5.size;refine⟨hb6.set_ 3 _,zel.add HK.out ?_ ?_ ?_ ?_ ?_ f07 off0 HD.out,f07,fun k hk=>(HM2.out.sub k hk).imp id (fun h=>by simp at h;omega),fun k hk=>(hm.sub k hk).imp id (fun h=>by omega),fun k hk=>by have:=(hB5.lt k hk).1;omega⟩
    · rw[Hm.out]
      refine zad (za_ HR3.out f5) f57 (fun k hk e=>?_)
      rcases e with e | e
      · exact absurd (e▸hk) (zac HR3.out HB3.out (by decide))
      · exact HV3.out k hk e
    · rw[Hlen.out,Hm.out]
      exact zad hown hs7 (fun k hk e=>hne (e▸hk))
    · intro k h1 h2
      rcases hm.sub k h2 with h3 | h3
      · exact HV3.out k h1 h3
      · have:=zcp (za_ HR3.out f5) k h1
        omega
    · rw[Hsz.out]
      exact off0.own HO.out (by decide) f07
    · rw[Hsz.out]
      exact zaL (off5.own (za_ hB5 (Fr.none_alloc _ _)) (by decide) f57) hbs3.out
  have HC5:=q0_ (fun (_:Unit)=>znx l A n c W3.drew (Rd.of_own HL3.out) (by omega))
  have hq1:m+1≤maxLen:=by unfold maxLen;omega
  have hq2:(m+1)*24≤140737488355328:=by omega
  go_region_law (first
    | (refine ziB rfl (.tmp 24) (.tmp 27) 34 rfl 26 i0 (.slice none 0 0) 1 24 underlying34 hi0 hz0 hz1 hz2 rfl (by decide) (.slice UA m uc) m _ rfl base (by have := hbs3.out; have := b5.size; simp; omega)
        (za_ (za_ HU3.out (Fr.b0 b5)) (Fr.none_alloc _ _)) (some ⟨w5.heap.size,0,none⟩) 1 1 [.slice B n d] rfl (Rd.new w5 [.slice B n d] _ 1 rfl) (by simp[Value.oneCell']) hq1 hq2 ?_;intro A6 c6 w6 ho6 hm6 _;have q6:=HP6.out w5 b5 _ _ _ _ hm6;have f6:=HF6.out w5 b5 _ _ _ _ hm6)
    | (go_simp;go_at_call 58;refine (HC5.out ()).mono ?_;rintro r w5 ⟨B,d,rfl,ho5,b5⟩;have q5:=HP5.out w5 b5;have q5':=HP5'.out w5 b5;try dsimp only))
  all_goals (
    have hz:=q0_ (HZ.out w5 b5 _ _ ho5 _ _ _ _ ho6 hm6);clear e1 q5 q5' q6 f6 ho6 hm6 b5 ho5
    go_wp2
    go_end0
    exact⟨rfl,.slice R2 (m+1) c2,.slice A6 (m+1) c6,B,d,by rw[Hlen.out,Hm.out];exact hz.out⟩)
theorem zof(g : Nat)(cs : Array Value)(base : Nat)(V : Value)(hs : List (HV Int))(w : World)(hb : Blk w g 42 cs)(hV : cs[2]? = some V)(hbase : base ≤ w.heap.size)
    (hL:zcm zbm w base 3 1 hs) (hrow:w.ownsRow base 26 1 V hs.length (hs.map HV.v)) (hn:hs.length≤1000) (hl:∀ h∈hs,h.l.length≤1000000):
    Calls prog 71 #[.pointer (some ⟨g,0,none⟩)] w fun r w'=>r=.returned (.tuple #[])∧zcm zbm w' base 3 1 (zaD (fun i n=>zas i 0 n) hs.length hs)∧Fr (zaP hs) w w':=by
  obtain⟨RA,rc,rfl,_,_,hR⟩:=zam hrow;have HB:=q0_ hb;have HLs:=q0_ hL;have HRow:=q0_ hrow;have HL:=q0_ hl
  obtain⟨m,hm⟩:∃ m,hs.length=m:=⟨_,rfl⟩
  rw[hm] at HRow hn hV hR ⊢;have HV0:=q0_ hV;have HR:=q0_ hR;have HBs:=q0_ hbase;have OB:=q0_ (Off.lists hL (ts:=[42,26]) (by decide));have HMk:=q0_ (fun i n=>zbu i 0 n);clear hb hV hL hrow hl hR hm hbase;go_enter func71,ntmps71;go_wp2_with fail
  go_loopw [2] (fun i wr=>∃ k:Nat,k≤m∧i=.int .i64 k∧zcm zbm wr base 3 1 (zaD (fun i n=>zas i 0 n) k hs)∧Fr (zaP hs) w wr) (fun i _=>m-(intOf i).toNat)
  case atStart=>exact⟨0,Nat.zero_le _,rfl,by rw[zet];exact HLs.out,Fr.refl _ _⟩
  case round=>
    obtain⟨k,hk,rfl,hl2,hf2⟩:=hrel;have HL2:=q0_ hl2;have HF2:=q0_ hf2;have hB:=OB.out.blkf HB.out (by decide) hf2;have hR2:=OB.out.own HRow.out (by decide) hf2;have c0:=hB.cell 2;rw[HV0.out] at c0;have HB2:=q0_ hB;have HR2:=q0_ hR2;clear hB hl2 hf2
    by_cases hlt:k<m
    · obtain⟨ad,x,rfl,hx,d0⟩:=(Rd.of_own hR2).at_map hlt
      have hlx:=HL.out x (zab hx)
      have ox:wr.ownsRow base 3 1 x.v x.l.length (x.l.flatMap zbm):=HL2.out.own x (by
        have:=za2 (mk:=fun i n=>zas i 0 n) (k:=k) hx;rw[if_neg (Nat.lt_irrefl k)] at this
        exact zab this)
      have hxF:∀ i,zag x.v i→zaP hs i:=fun i hi=>⟨x,zab hx,hi⟩
      have HX:=q0_ hx;obtain⟨vx,lx⟩:=x;simp only at d0 ox hlx hxF;obtain⟨Ax,cx,rfl,hcx,hcx2,_⟩:=zam ox
      obtain⟨nx,hnx⟩:∃ nx,lx.length=nx:=⟨_,rfl⟩
      rw[hnx] at d0 ox hlx hcx hxF HX;have HOX:=q0_ ox;have HNX:=q0_ hnx;have HXF:=q0_ hxF
      have HMK:Hid (∀ w',Calls prog 134 #[.int .i64 (k:Int),.int .i64 0,.int .i64 (nx:Int)] w' fun r w''=>∃ A c,r=.returned (.slice A nx c)∧w''.ownsRow w'.heap.size 3 1 (.slice A nx c) nx (zaU (zas k 0 nx))∧Below w'.heap.size w' w''):=fun w'=>by
        have:=zga k 0 nx (by omega) (by omega) (by omega) w';exact this
      have hlt2:(k:Int)<(m:Int):=by omega
      clear hx ox hnx hxF hR2;go_wp2_with fail;refine (HMK.out wr).mono ?_;rintro r w5 ⟨M,cm,rfl,om,b5⟩;have OM:=q0_ om;have B5:=q0_ (HB2.out.below b5);have R5:=q0_ (za_ HR2.out (Fr.b0 b5));have OX5:=q0_ (za_ HOX.out (Fr.b0 b5));have F5:=q0_ (HF2.out.trans (Fr.b0 b5) q4_);have BB5:=q0_ b5
      have hMX:Hid (∀ i,zag (.slice M nx cm) i→¬ zag (.slice Ax nx cx) i):=fun i h1 h2=>by
        have:=zcp HOX.out i h2;have:=(OM.out.lt i h1).1;omega
      clear om b5 c0 d0 HB2 HR2;go_wp2_with fail
      go_loopw [4] (fun j w2=>∃ jj:Nat,jj≤nx∧j=.int .i64 jj∧w2.ownsRow base 3 1 (.slice Ax nx cx) nx (((zas k 0 nx).take jj++lx.drop jj).flatMap zbm)∧Fr (zag (.slice Ax nx cx)) w5 w2) (fun j _=>nx-(intOf j).toNat)
      case atStart=>exact⟨0,Nat.zero_le _,rfl,by simpa using OX5.out,Fr.refl _ _⟩
      case round=>
        obtain⟨jj,hjj,rfl,ho2,hf3⟩:=hrel;have HX2:=q0_ ho2;have HF3:=q0_ hf3;have RX5:Off w5 (zag (.slice Ax nx cx)) [42,26]:=Off.row OX5.out (by decide);have B6:=RX5.blkf B5.out (by decide) hf3;have R6:=RX5.own R5.out (by decide) hf3;have M6:=zad OM.out hf3 hMX.out;clear RX5
        by_cases hlj:jj<nx
        · have c0:=B6.cell 2
          rw[HV0.out] at c0;obtain⟨ad2,x2,e2,hx2,d0⟩:=(Rd.of_own R6).at_map hlt
          injection e2 with e2
          subst e2;have hx3:=HX.out;rw[hx2] at hx3
          injection hx3 with hx3
          subst hx3;obtain⟨md,y,rfl,hy,e0⟩:=(Rd.of_own M6).icell_ hlj;have HY:=q0_ hy;obtain⟨gx,cap,hform,hgx,_⟩:=HX2.out.form (by omega)
          injection hform with h1 h2 h3
          subst h1;subst h3;have hlenX:(((zas k 0 nx).take jj++lx.drop jj).flatMap zbm).length=nx*1:=HX2.out.1
          obtain⟨q0,hq0⟩:∃ q,(((zas k 0 nx).take jj++lx.drop jj).flatMap zbm)[jj*1]? =some q:=⟨_,q6_ (by rw[hlenX];omega)⟩
          have s0:=HX2.out.cellAt (jj*1) (by omega);rw[hq0] at s0;have z0:=HX2.out.frozenAt (jj*1);clear hq0
          have HZ:Hid (∀ W,W=ziI wr.drew gx (jj*1) [.int .i64 y]→W.ownsRow base 3 1 (.slice (some ⟨gx,0,none⟩) nx cx) nx (((zas k 0 nx).take (jj+1)++lx.drop (jj+1)).flatMap zbm)∧Fr (zag (.slice (some ⟨gx,0,none⟩) nx cx)) w5 W):=fun W hW=>by
            subst hW
            have hlx:∃ z,lx[jj]? =some z:=⟨lx[jj]'(by rw[HNX.out];exact hlj),q6_ _⟩
            obtain⟨z,hz⟩:=hlx;have h1:=zeU [.int .i64 y] (jj*1) wr.drew _ (za_ HX2.out ((Fr.refl (fun _=>False) wr).drew));have h2:=zkN zex _ _ HY.out hz;refine⟨?_,(HF3.out.drew).trans (zfR [.int .i64 y] (jj*1) wr.drew) (fun i hi=>.inl (by subst hi;rfl))⟩;rw[← h2];exact h1
          clear hx2 hy B6 R6 M6 hlenX ho2 hf3;go_wp2_with fail
          go_still_tail 13,(by kernel_rfl)
          repeat still_step
          try refine wpStill_nil ?_
          change wpList _ _ _ _ _ wr.drew
          obtain⟨W2,hW2⟩:∃ W2,W2=wr.drew:=⟨_,rfl⟩
          change wr.drew.cell? _=_ at s0;change wr.drew.frozen? _=_ at z0;rw[← hW2] at HZ s0 z0 ⊢;rw[Nat.mul_one] at HZ s0 z0;have hp:True:=trivial;clear c0 d0 e0 hW2 hp
          go_wp2
          go_roundw
          case rel=>exact⟨jj+1,by omega,by go_num,(HZ.out _ rfl).1,(HZ.out _ rfl).2⟩
          case measure=>simp[intOf];omega
        · obtain rfl:jj=nx:=by omega
          have HE:Hid (zcm zbm wr base 3 1 (zaD (fun i n=>zas i 0 n) (k+1) hs)∧Fr (zaP hs) w wr):=by
            have hL5:=(HL2.out.fr0 (Fr.b0 BB5.out))
            have ho3:wr.ownsRow base 3 1 (.slice Ax jj cx) jj ((zas k 0 jj).flatMap zbm):=by
              have:=HX2.out;rwa[zbh (by rw[zbu];exact Nat.le_refl _),List.drop_eq_nil_of_le (by rw[HNX.out];exact Nat.le_refl _),List.append_nil] at this
            refine⟨hL5.mark HX.out HMk.out HF3.out ?_,F5.out.trans HF3.out (fun i hi=>.inl (HXF.out i hi))⟩;rw[HNX.out];exact ho3
          clear ho2 hf3 B6 R6 M6
          go_wp2
          go_roundw
          case rel=>exact⟨k+1,by omega,by go_num,HE.out.1,HE.out.2⟩
          case measure=>simp[intOf];omega
    · obtain rfl:k=m:=by omega
      go_wp2
      go_end0
      exact⟨rfl,HL2.out,HF2.out⟩
theorem zf9(O : Option Addr)(co m : Nat)(gs : List (HV Int))(w : World)(hr : Rd w 1 O m (gs.map HV.v))(hn : m ≤ 1000)
    (hg:∀ h∈gs,zcS zbm w 1 h) (hl:∀ h∈gs,h.l.length≤2000000) (hmk:∀ (i:Nat) (h:HV Int),gs[i]? =some h→h.l=zas i 0 h.l.length):
    Calls prog 86 #[.slice O m co] w fun r w'=>r=.returned (.bool true)∧Below w.heap.size w w':=by
  have HR:=q0_ hr;have HG:=q0_ hg;have HL:=q0_ hl;have HMk:=q0_ hmk;clear hr hg hl hmk;go_enter func86,ntmps86;go_wp2_with fail
  go_loopw [3] (fun i wr=>∃ k:Nat,k≤m∧i=.int .i64 k∧Own w wr (fun _=>False)) (fun i _=>m-(intOf i).toNat)
  case atStart=>exact⟨0,Nat.zero_le _,rfl,Own.start w⟩
  case round=>
    obtain⟨k,hk,rfl,ho⟩:=hrel;have Ho:=q0_ ho
    by_cases hlt:k<m
    · obtain⟨ad,x,rfl,hx,d0⟩:=(HR.out.fr0 (Fr.b0 ho.bel)).at_map hlt
      have hlx:=HL.out x (zab hx);have hxl:=HMk.out k x hx;obtain⟨Ax,cx,hv,hrx,_⟩:=(HG.out x (zab hx)).fr0 (Fr.b0 ho.bel);obtain⟨vx,lx⟩:=x;simp only at hv hlx hxl hrx d0;subst hv
      obtain⟨nx,hnx⟩:∃ nx,lx.length=nx:=⟨_,rfl⟩
      rw[hnx] at hlx hxl hrx d0;subst hxl;have HRX:=q0_ hrx
      have hlt2:(k:Int)<(m:Int):=by omega
      have HM:Hid (∀ W,W.cell? (ad.add k)=some (.slice Ax nx cx)∧Fr (fun _=>False) wr W→Calls prog 134 #[.int .i64 (k:Int),.int .i64 0,.int .i64 (nx:Int)] W fun r w''=>∃ A c,r=.returned (.slice A nx c)∧w''.ownsRow wr.heap.size 3 1 (.slice A nx c) nx (zaU (zas k 0 nx))∧w''.cell? (ad.add k)=some (.slice Ax nx cx)∧Fr (fun _=>False) wr w''):=fun W hW=>by
        refine (zga k 0 nx (by omega) (by omega) (by omega) W).mono ?_;rintro r w'' ⟨A,c,e,ho,b⟩;exact⟨A,c,e,zaL ho hW.2.size,(Fr.b0 b).cell hW.1 (fun h=>h),hW.2.trans (Fr.b0 b) q4_⟩
      have HS:Hid (∀ W A c,Fr (fun _=>False) wr W→W.ownsRow wr.heap.size 3 1 (.slice A nx c) nx (zaU (zas k 0 nx))→Calls prog 32 #[.slice Ax nx cx,.slice A nx c] W fun r w''=>r=.returned (.bool true)∧w''.cell? (ad.add k)=some (.slice Ax nx cx)∧Fr (fun _=>False) wr w''):=fun W A c hf h=>by
        refine (zd5 (zas k 0 nx) _ _ _ _ _ W (HRX.out.fr0 hf) (Rd.of_own h) (by omega)).mono ?_;rintro r w'' ⟨e,b⟩;have hf2:Fr (fun _=>False) wr w'':=hf.trans (Fr.b0 b) q4_;exact⟨e,hf2.cell d0 (fun h=>h),hf2⟩
      clear hx hnx hrx ho;go_wp2_with fail
      go_region_held3 (fun w'=>w'.cell? (ad.add k)=some (.slice Ax nx cx)∧Fr (fun _=>False) wr w') (first | exact⟨d0,(Fr.refl _ wr).drew⟩ | assumption | exact⟨by assumption,by assumption⟩) (first | (go_at_call 134;refine (HM.out _ (by first | assumption | exact⟨by assumption,by assumption⟩)).mono ?_;rintro r w5 ⟨M,cm,rfl,om,q5,f5⟩) | (go_at_call 32;refine (HS.out _ _ _ (by assumption) (by assumption)).mono ?_;rintro r w6 ⟨rfl,q6,f6⟩))
      go_wp2
      go_roundw
      case rel=>exact⟨k+1,by omega,by go_num,Ho.out.skip (by assumption)⟩
      case measure=>simp[intOf];omega
    · obtain rfl:k=m:=by omega
      clear ho;go_wp2;go_ret;exact⟨rfl,Ho.out.bel⟩
theorem zm9(g : Nat)(cs : Array Value)(base : Nat)(V : Value)(hs : List (HV Int))(w : World)(hb : Blk w g 42 cs)(hV : cs[2]? = some V)(hbase : base ≤ w.heap.size)
    (hL:zcm zbm w base 3 1 hs) (hrow:w.ownsRow base 26 1 V hs.length (hs.map HV.v)) (hn:hs.length≤1000) (hl:∀ h∈hs,h.l.length≤1000000)
    (hmk:∀ (i:Nat) (h:HV Int),hs[i]? =some h→h.l=zas i 0 h.l.length):
    Calls prog 78 #[.pointer (some ⟨g,0,none⟩)] w fun r w'=>∃ (O:Option Addr) (co:Nat) (gs:List (HV Int)),r=.returned (.slice O hs.length co)∧w'.ownsRow w.heap.size 26 1 (.slice O hs.length co) hs.length (gs.map HV.v)∧gs.length=hs.length∧(∀ h∈gs,zcS zbm w' 1 h)∧(∀ h∈hs,zcS zbm w' 1 h)∧
      (∀ h∈gs,h.l.length≤1000072)∧(∀ (i:Nat) (h:HV Int),gs[i]? =some h→h.l=zas i 0 h.l.length)∧(∀ h∈gs,∀ b,zag h.v b→zaP hs b∨w.heap.size≤b)∧Fr (zaP hs) w w':=by
  obtain⟨RA,rc,rfl,_,_,hR⟩:=zam hrow;have HB:=q0_ hb;have HLs:=q0_ hL;have HRow:=q0_ hrow;have HL:=q0_ hl;have HMk:=q0_ hmk
  obtain⟨m,hm⟩:∃ m,hs.length=m:=⟨_,rfl⟩
  rw[hm] at HRow hn hV ⊢;have HV0:=q0_ hV;have HBs:=q0_ hbase;have OB:=q0_ (Off.lists hL (ts:=[42,26]) (by decide));obtain⟨i0,hi0,hz0,hz1,hz2⟩:=info_parts zm4;obtain⟨j0,hj0,hy0,hy1,hy2⟩:=info_parts zcL;have HLen:=q0_ hm;clear hb hV hL hrow hl hR hm hbase hmk;go_enter func78,ntmps78;go_wp2_with fail
  go_loopw [3, 4] (fun o i wr => ∃ (k : Nat) (O : Option Addr) (co : Nat) (gs : List (HV Int)), k ≤ m ∧ i = .int .i64 k ∧ o = .slice O k co ∧ Hid (gs.length = k) ∧ wr.ownsRow w.heap.size 26 1 (.slice O k co) k (gs.map HV.v) ∧ zdq zbm wr base 3 1 (fun i n => zas i 0 n) w.heap.size hs gs ∧
      Hid (∀ (i:Nat) (h:HV Int),k≤i→hs[i]? =some h→wr.ownsRow base 3 1 h.v h.l.length (h.l.flatMap zbm))∧Fr (zaP hs) w wr) (fun _ i _=>m-(intOf i).toNat)
  case atStart=>exact⟨0,none,0,[],Nat.zero_le _,rfl,rfl,rfl,World.ownsRow_nil _ _ _ _,zdq.start fun h hh=>zcS.of_own (HLs.out.own h hh),fun i h _ hh=>HLs.out.own h (zab hh),Fr.refl _ _⟩
  case round=>
    obtain⟨k,O,co,gs,hk,rfl,rfl,hgl,hrow,hgr,hown,hf2⟩:=hrel;have HO2:=q0_ hrow;have HG:=q0_ hgr;have HF2:=q0_ hf2;have hB:=OB.out.blkf HB.out (by decide) hf2;have hR2:=OB.out.own HRow.out (by decide) hf2;have c0:=hB.cell 2;rw[HV0.out] at c0;have HB2:=q0_ hB;clear hB hrow hgr hf2
    by_cases hlt:k<m
    · obtain⟨ad,x,rfl,hx,d0⟩:=(Rd.of_own hR2).at_map hlt
      have hlx:=HL.out x (zab hx);have ox:=hown.out k x (Nat.le_refl _) hx;have hxl:=HMk.out k x hx;have HX:=q0_ hx;obtain⟨vx,lx⟩:=x;simp only at d0 ox hlx hxl;obtain⟨Ax,cx,rfl,hcx,hcx2,_⟩:=zam ox
      obtain⟨nx,hnx⟩:∃ nx,lx.length=nx:=⟨_,rfl⟩
      rw[hnx] at d0 ox hlx hcx hxl HX;subst hxl;have HOX:=q0_ ox;have hhx:=q0_ (zes ox);have HMK:Hid (∀ (j q:Nat) w',j≤1001000→q≤1000→Calls prog 134 #[.int .i64 (k:Int),.int .i64 (j:Int),.int .i64 (q:Int)] w' fun r w''=>∃ A c,r=.returned (.slice A q c)∧w''.ownsRow w'.heap.size 3 1 (.slice A q c) q (zaU (zas k j q))∧Below w'.heap.size w' w''):=fun j q w' hj hq=>zga k j q (by omega) (by omega) (by omega) w'
      obtain⟨wo,hwo⟩:∃ wo:World,wo=wr:=⟨_,rfl⟩
      have hlt2:(k:Int)<(m:Int):=by omega
      clear hx ox hR2;go_wp2_with fail;rw[← hwo] at HO2 HG hown HF2 HB2 HOX ⊢;clear c0 d0 hwo
      go_loopw [5,6] (fun l j wr=>∃ (jj q:Nat) (A:Option Addr) (c:Nat),jj≤12∧j=.int .i64 jj∧q≤1000012∧Hid (q=nx+jj)∧l=.slice A q c∧wr.ownsRow base 3 1 (.slice A q c) q ((zas k 0 q).flatMap zbm)∧Rd wr 1 Ax nx ((zas k 0 nx).flatMap zbm)∧Mv (zag (.slice Ax nx cx)) (zag (.slice A q c)) wo wr) (fun _ j _=>12-(intOf j).toNat)
      case atStart=>exact⟨0,nx,Ax,cx,by omega,rfl,by omega,rfl,rfl,HOX.out,Rd.of_own HOX.out,Mv.refl _ _⟩
      case round=>
        obtain⟨jj,q,A,c,hjj,rfl,hq,hqn,rfl,hol,hrx,hmv⟩:=hrel;have HOL:=q0_ hol;have HRX:=q0_ hrx;have HMV:=q0_ hmv;have hha:=q0_ (zes hol);have hbs:=q0_ hmv.size
        have hbw:Hid (base≤wo.heap.size):=by have:=HF2.out.size;have:=HBs.out;show _≤_;omega
        clear hol hrx hmv
        by_cases hlj:jj<12
        · have hmk1 : Hid ((zas k 0 (q + 1)).flatMap zbm = (zas k 0 q).flatMap zbm ++ zaU (zas k q 1)) := by
            show _=_
            rw[zc2,List.flatMap_append,Nat.zero_add];rfl
          have hpre:Hid (((zas k 0 q).flatMap zbm).take (nx*1)=(zas k 0 nx).flatMap zbm):=by
            show _=_
            rw[hqn.out,zc2,List.flatMap_append,List.take_left' (by rw[zbZ zex,zbu])]
          go_wp2_with fail;refine (HMK.out q 1 wr (by omega) (by omega)).mono ?_;rintro r w5 ⟨M,cm,rfl,om,b5⟩;have OM:=q0_ om;have B5:=q0_ b5;have hs5:=q0_ b5.size;clear om b5
          go_wp2_with (at_builtin;refine zaq rfl _ _ 26 rfl 3 j0 _ 1 8 underlying26 hj0 hy0 hy1 hy2 rfl (by decide) (.slice A q c) q _ rfl base (by have:=hs5.out;have:=hbs.out;have:=hbw.out;omega) (za_ HOL.out (Fr.b0 B5.out)) M 1 cm (zaU (zas k q 1)) rfl (Rd.of_own OM.out) (ze0 _) ?q1 ?q2 ?_)
          case q1=>unfold maxLen;omega
          case q2=>omega
          intro A6 c6 w6 ho6 hm6 hk6;have HO6:=q0_ ho6;have HM6:=q0_ hm6;have HK6:=q0_ hk6;clear ho6 hm6 hk6
          go_wp2
          go_roundw
          case rel=>
            refine⟨jj+1,q+1,A6,c6,by omega,by go_num,by have:=hqn.out;omega,by have:=hqn.out;show _=_;omega,by go_num,?_,?_,(HMV.out.skip (Fr.b0 B5.out)).trans HM6.out⟩
            · rw[hmk1.out];exact HO6.out
            · exact zew hhx.out (HRX.out.fr0 (Fr.b0 B5.out)) hha.out HM6.out.fr HK6.out (by have:=hqn.out;omega) hpre.out
          case measure=>simp[intOf];omega
        · obtain rfl:jj=12:=by omega
          have hmk1:Hid ((zas k 0 (q+60)).flatMap zbm=(zas k 0 q).flatMap zbm++zaU (zas k q 60)):=by
            show _=_
            rw[zc2,List.flatMap_append,Nat.zero_add];rfl
          have hpre:Hid (((zas k 0 q).flatMap zbm).take (nx*1)=(zas k 0 nx).flatMap zbm):=by
            show _=_
            rw[hqn.out,zc2,List.flatMap_append,List.take_left' (by rw[zbZ zex,zbu])]
          go_wp2_with fail;refine (HMK.out q 60 wr (by omega) (by omega)).mono ?_;rintro r w5 ⟨M,cm,rfl,om,b5⟩;have OM:=q0_ om;have B5:=q0_ b5;have hs5:=q0_ b5.size;clear om b5
          go_wp2_with (at_builtin;refine zaq rfl (.tmp 34) (.tmp 38) 26 rfl 3 j0 _ 1 8 underlying26 hj0 hy0 hy1 hy2 rfl (by decide) (.slice A q c) q _ rfl base (by have:=hs5.out;have:=hbs.out;have:=hbw.out;omega) (za_ HOL.out (Fr.b0 B5.out)) M 60 cm (zaU (zas k q 60)) rfl (Rd.of_own OM.out) (ze0 _) ?q1 ?q2 ?_)
          case q1=>unfold maxLen;omega
          case q2=>omega
          intro A7 c7 w7 ho7 hm7 hk7;have HM7:=q0_ ((HMV.out.skip (Fr.b0 B5.out)).trans hm7);have HX7:Hid (Rd w7 1 Ax nx ((zas k 0 nx).flatMap zbm)):=zew hhx.out (HRX.out.fr0 (Fr.b0 B5.out)) hha.out hm7.fr hk7 (by have:=hqn.out;omega) hpre.out
          have HO7:Hid (w7.ownsRow base 3 1 (.slice A7 (q+60) c7) (q+60) ((zas k 0 (q+60)).flatMap zbm)):=by show World.ownsRow _ _ _ _ _ _ _;rw[hmk1.out];exact ho7
          have HR7:Hid (w7.ownsRow w.heap.size 26 1 (.slice O k co) k (gs.map HV.v)):=(Off.row HOX.out (ts:=[26]) (by decide)).own HO2.out (by decide) HM7.out.fr;have hs7:=q0_ HM7.out.size;have hw0:=q0_ HF2.out.size
          have HG7:Hid (zdq zbm w7 base 3 1 (fun i n=>zas i 0 n) w.heap.size hs (gs++[⟨.slice A7 (q+60) c7,zas k 0 (q+60)⟩])):=by
            refine HG.out.step HX.out hgl.out HLs.out.apart (fun i hi=>?_) hw0.out HM7.out ?_ ?_ ?_ ?_
            · exact zcp (HLs.out.own _ (zab HX.out)) i hi
            · refine⟨Ax,cx,?_,?_,hhx.out⟩
              · simp only[zbu]
              · simp only[zbu];exact HX7.out
            · simp only[zbu];exact HO7.out
            · simp only[zbu];have:=hqn.out;omega
            · simp only[zbu]
          clear ho7 hm7 hk7
          go_wp2_with (at_builtin;refine zaq rfl (.tmp 33) (.tmp 40) 34 rfl 26 i0 _ 1 24 underlying34 hi0 hz0 hz1 hz2 rfl (by decide) (.slice O k co) k _ rfl w.heap.size (by have:=hs7.out;have:=hw0.out;simp;omega) (za_ HR7.out (Fr.none_alloc _ _)) (some ⟨w7.heap.size,0,none⟩) 1 1 [.slice A7 (q+60) c7] rfl (Rd.newS (by simp) _ _ _ _ rfl) (by simp[Value.oneCell']) ?q1 ?q2 ?_)
          case q1=>unfold maxLen;omega
          case q2=>omega
          intro O8 c8 w8 ho8 hm8 _;have HO8:=q0_ ho8;have F8:Fr (zag (.slice O k co)) w7 w8:=((Fr.none_alloc w7 (.cells #[.slice A7 (q+60) c7] 26)).mono q4_).trans hm8.fr (fun i hi=>.inl hi)
          have HG8:Hid (zdq zbm w8 base 3 1 (fun i n=>zas i 0 n) w.heap.size hs (gs++[⟨.slice A7 (q+60) c7,zas k 0 (q+60)⟩])):=by
            refine HG7.out.fr F8 (Off.row HR7.out (by decide)) (fun i hi=>(HR7.out.lt i hi).1) (fun i ⟨x,hx,hi⟩=>zcp (HLs.out.own x hx) i hi)
          have HF8:Hid (Fr (zaP hs) w w8):=(HF2.out.trans HM7.out.fr (fun i hi=>.inl ⟨_,zab HX.out,hi⟩)).trans F8 (fun i hi=>.inr (HR7.out.lt i hi).1)
          have HW8:Hid (∀ (i:Nat) (h:HV Int),k+1≤i→hs[i]? =some h→w8.ownsRow base 3 1 h.v h.l.length (h.l.flatMap zbm)):=fun i h hik hi=>by
            refine (Off.row HR7.out (ts:=[3]) (by decide)).own ?_ (by decide) F8;exact zad (hown.out i h (by omega) hi) HM7.out.fr (zeG HLs.out.apart hi HX.out (by omega))
          have hgl2:Hid ((gs++[(⟨.slice A7 (q+60) c7,zas k 0 (q+60)⟩:HV Int)]).length=k+1):=by show _=_;rw[q8_,hgl.out];rfl
          clear ho8 hm8 F8
          go_wp2
          go_roundw
          case rel=>
            refine⟨k+1,O8,c8,gs++[⟨.slice A7 (q+60) c7,zas k 0 (q+60)⟩],by omega,by go_num,by go_num,hgl2,?_,HG8.out,HW8.out,HF8.out⟩;simpa using HO8.out
          case measure=>simp[intOf];omega
    · obtain rfl:k=m:=by omega
      go_wp2;go_ret;exact⟨O,co,gs,rfl,HO2.out,by rw[hgl.out],fun h hh=>zcS.of_own (HG.out.2.1 h hh),HG.out.1,HG.out.2.2.1 (fun h hh=>HL.out h hh),HG.out.2.2.2.1,HG.out.whence (by rw[hgl.out,HLen.out]),HF2.out⟩
end Go.Proofs.YteajonicnkpbbaaGreatDoor
