/- Walks of the small functions of package pack: fits, fail, low, Words, Ints, Small. -/
import Derived.Test.YtjhhodndlkpmhaaGreatDoorChecked
import Derived.Test.YtjhhodndlkpmhaaGreatDoorBase
import Derived.Test.YtjhhodndlkpmhaaGreatDoorShelf
import Derived.Laws.BitsAllLaws
import Derived.Lib.TrimByte
import Derived.Lib.AppendIntMem
namespace Go.Proofs.YtjhhodndlkpmhaaGreatDoor
set_option linter.all false
set_option maxHeartbeats 400000
set_option maxRecDepth 100000
open Go.RowKit Tryz
theorem zko{k:IntKind}{a b:Int}(h:a=b):Ending.returned (.int k a)=.returned (.int k b):=by rw[h]
theorem zoF:(prog.info? 5).map (fun i=>(i.zero,i.size,i.bytes))=some (some (.int .u8 0),1,1):=by kernel_rfl
theorem zey{w : World}{ops : Array Oper}{rest : List Oper}{o : Oper}{a : Act}{Q : Exit → Act → World → Prop}(hgd : o.guard = none)(s x : Operand)
    (ho:o.op=.call {callee:=.builtin .append,args:=#[s,x],argTypes:=#[61,61]})
    (v:Value) (n:Nat) (xs:List Value) (hs:a.eval s=v) (hown:w.ownsRow 0 5 1 v n xs)
    (A:Option Addr) (m c:Nat) (news:List Value) (hx:a.eval x=.slice A m c) (hr:Rd w 1 A m news) (h1:∀ u∈news,u.oneCell'=true)
    (hb:n+m≤2199023255552)
    (h:∀ A' c' w',w'.ownsRow 0 5 1 (.slice A' (n+m) c') (n+m) (xs++news)→Mv (zaE v) (zaE (.slice A' (n+m) c')) w w'→wpList prog ops Q rest (a.put o.dst (.slice A' (n+m) c')) w'):wpList prog ops Q (o::rest) a w:=by
  obtain⟨i0,hi,hz0,hz1,hz2⟩:=info_parts zoF;exact zcX hgd s x 61 ho 5 i0 (.int .u8 0) 1 1 underlying61 hi hz0 hz1 hz2 rfl (by decide) v n xs hs hown A m c news hx hr h1 (by unfold maxLen;omega) (by omega) h
def le:Nat→Nat→List UInt8
  | _,0=>[]
  | x,k+1=>UInt8.ofNat x::le (x / 256) k
theorem zaQ(x k:Nat):(le x k).length=k:=by
  induction k generalizing x with
  | zero=>rfl
  | succ k ih=>simp[le,ih]
def Pk(w:World)(g:Nat)(F:Nat→Prop)(e:Int)(l:List UInt8):Prop:=
  ∃ A n c,Blk w g 63 #[.int .i64 e,.slice A n c]∧w.ownsRow 0 5 1 (.slice A n c) n (bys l)∧F=fun k=>k=g∨zaE (.slice A n c) k
theorem Pk.fr{w w':World}{g:Nat}{F G:Nat→Prop}{e:Int}{l:List UInt8}(h:Pk w g F e l)(hf:Fr G w w')(hn:∀ k,F k→¬ G k):Pk w' g F e l:=by
  obtain⟨A,n,c,h1,h2,rfl⟩:=h;exact⟨A,n,c,h1.fr hf (hn g (.inl rfl)),zaf h2 hf (fun k hk=>hn k (.inr hk)),rfl⟩
theorem Pk.lt{w:World}{g:Nat}{F:Nat→Prop}{e:Int}{l:List UInt8}(h:Pk w g F e l):∀ k,F k→k<w.heap.size:=by
  obtain⟨A,n,c,h1,h2,rfl⟩:=h;rintro k (rfl | hk)
  · exact h1.lt
  · exact zji h2 k hk
theorem zrB(x k:Nat):le x (k+1)=le x k++[UInt8.ofNat (x / 256 ^ k)]:=by
  induction k generalizing x with
  | zero=>simp[le]
  | succ k ih=>
    rw[le,ih (x / 256),le,List.cons_append,Nat.div_div_eq_div_mul,Nat.pow_succ,Nat.mul_comm]
theorem Pk.push{w0 w1 : World}{g m m' c c' : Nat}{A A' : Option Addr}{e : Int}{l : List UInt8}(hb : Blk w1 g 63 #[.int .i64 e, .slice A m c])
    (ho:w1.ownsRow 0 5 1 (.slice A' m' c') m' (bys l)) (hm:Mv (zaE (.slice A m c)) (zaE (.slice A' m' c')) w0 w1):
    ∃ F',Pk (w1.setCell ⟨g,1,none⟩ (.slice A' m' c')) g F' e l∧Mv (fun k=>k=g∨zaE (.slice A m c) k) F' w0 (w1.setCell ⟨g,1,none⟩ (.slice A' m' c')):=by
  have hne:¬ zaE (.slice A' m' c') g:=zad ho hb (by decide);have hs:Fr (fun k=>k=g) w1 (w1.setCell ⟨g,1,none⟩ (.slice A' m' c')):=(Fr.refl (fun k=>k=g) w1).setCell (p:=⟨g,1,none⟩) (.inl rfl) _;refine⟨_,⟨A',m',c',hb.set_ 1 _,zaf ho hs (fun k hk hg=>hne (hg▸hk)),rfl⟩,⟨?_,?_⟩⟩
  · refine (hm.fr.mono (fun i hi=>.inl (.inr hi))).trans hs (fun i hi=>.inl (.inl hi))
  · rintro k (hk | hk)
    · exact .inl (.inl hk)
    · exact (hm.sub k hk).imp .inr id
theorem zrJ(size n : Int)(w : World)(h1 : 1 ≤ size)(h2 : size ≤ 7)(h3 : 0 ≤ n)(h4 : (n / 2 ^ (8 * size).toNat != 0) = false) :
    Calls prog 72 #[.int .i64 size,.int .i64 n] w fun e w'=>e=.returned (.int .i64 0)∧w=w':=by
  go_enter func72,ntmps72
  go_wp2
  go_ret;exact⟨rfl,rfl⟩
theorem zrL(size n : Int)(w : World)(h : size < 1 ∨ 7 < size ∨ n < 0 ∨ (1 ≤ size ∧ size ≤ 7 ∧ 0 ≤ n ∧ (n / 2 ^ (8 * size).toNat != 0) = true)) :
    Calls prog 72 #[.int .i64 size,.int .i64 n] w fun e w'=>e=.returned (.int .i64 1)∧w=w':=by
  by_cases a1:size<1
  · go_enter func72,ntmps72
    go_wp2
    go_ret;exact⟨rfl,rfl⟩
  by_cases a2:7<size
  · go_enter func72,ntmps72
    go_wp2
    go_ret;exact⟨rfl,rfl⟩
  by_cases a3:n<0
  · go_enter func72,ntmps72
    go_wp2
    go_ret;exact⟨rfl,rfl⟩
  have h4:(n / 2 ^ (8*size).toNat != 0)=true:=by
    rcases h with h | h | h | h
    · omega
    · omega
    · omega
    · exact h.2.2.2
  clear h
  have b1:1≤size:=by omega
  have b2:size≤7:=by omega
  have b3:0≤n:=by omega
  go_enter func72,ntmps72
  go_wp2
  go_ret;exact⟨rfl,rfl⟩
def za7(size n:Int):Bool:=decide (1≤size∧size≤7∧0≤n∧n<256 ^ size.toNat)
theorem zje(k:Nat):(2:Int) ^ (8*k)=256 ^ k:=by
  rw[Int.pow_mul];rfl
theorem zlg(size n:Int)(h1:1≤size)(h3:0≤n):(n / 2 ^ (8*size).toNat != 0)= !decide (n<256 ^ size.toNat):=by
  obtain⟨k,rfl⟩:=Int.eq_ofNat_of_zero_le (show 0≤size by omega)
  have e1:(8*(k:Int)).toNat=8*k:=by omega
  rw[e1,zje,Int.toNat_natCast];have hp:(0:Int)<256 ^ k:=Int.pow_pos (by decide)
  by_cases h:n<256 ^ k
  · simp[h,Int.ediv_eq_zero_of_lt h3 h]
  · have:1≤n / 256 ^ k:=(Int.le_ediv_iff_mul_le hp).2 (by omega)
    simp only[h,decide_false,Bool.not_false,bne_iff_ne,ne_eq];omega
theorem zeV(size n : Int)(w : World) :
    Calls prog 72 #[.int .i64 size,.int .i64 n] w fun e w'=>e=.returned (.int .i64 (bif za7 size n then 0 else 1))∧w=w':=by
  by_cases h:za7 size n=true
  · rw[h]
    obtain⟨h1,h2,h3,h4⟩:=of_decide_eq_true h;exact zrJ size n w h1 h2 h3 (by rw[zlg size n h1 h3];simp[h4])
  · have h':za7 size n=false:=by simpa using h
    rw[h'];refine zrL size n w ?_;have:=of_decide_eq_false h'
    by_cases a1:size<1
    · exact .inl a1
    by_cases a2:7<size
    · exact .inr (.inl a2)
    by_cases a3:n<0
    · exact .inr (.inr (.inl a3))
    refine .inr (.inr (.inr ⟨by omega,by omega,by omega,?_⟩));rw[zlg size n (by omega) (by omega)];have:¬ n<256 ^ size.toNat:=fun hh=>this ⟨by omega,by omega,by omega,hh⟩;simp[this]
theorem ziA(size n : Int)(w : World)(h : za7 size n = true) :
    Calls prog 72 #[.int .i64 size,.int .i64 n] w fun e w'=>e=.returned (.int .i64 0)∧w=w':=by
  have:=zeV size n w;rw[h] at this;exact this
theorem zlI(size n : Int)(w : World)(h : za7 size n = false) :
    Calls prog 72 #[.int .i64 size,.int .i64 n] w fun e w'=>e=.returned (.int .i64 1)∧w=w':=by
  have:=zeV size n w;rw[h] at this;exact this
theorem zeX(p : Addr)(e e0 : Int)(w : World)(hc : w.cell? p = some (.int .i64 e0))(h0 : (e0 == 0) = false)(h1 : (e0 != 0) = true) :
    Calls prog 70 #[.pointer (some p),.int .i64 e] w fun r w'=>r=.returned (.bool true)∧w=w':=by
  go_enter func70,ntmps70
  go_wp2
  go_ret;exact⟨rfl,rfl⟩
theorem zbY(p : Addr)(e : Int)(w : World)(hc : w.cell? p = some (.int .i64 0))(hf : w.frozen? p = false) :
    Calls prog 70 #[.pointer (some p),.int .i64 e] w fun r w'=>r=.returned (.bool (e != 0))∧w.setCell p (.int .i64 e)=w':=by
  go_enter func70,ntmps70
  go_wp2
  go_ret;exact⟨rfl,rfl⟩
theorem zqi{x z:Int}{k:Nat}(hx:0≤x)(hz:z=x / 256 ^ k):bys [UInt8.ofNat (x.toNat / 256 ^ k)]=[Value.int .u8 (z%256)]:=by
  obtain⟨n,rfl⟩:=Int.eq_ofNat_of_zero_le hx;subst hz;simp[bys]
theorem zqx{x z:Int}{k:Nat}(hz:z=x / 256 ^ k):Hid (z / 256=x / 256 ^ (k+1)):=by
  show z / 256=x / 256 ^ (k+1)
  subst hz;rw[Int.ediv_ediv_of_nonneg (by exact Int.le_of_lt (Int.pow_pos (by decide))),Int.pow_succ]
set_option maxRecDepth 20000 in
theorem zdT(b i : Nat)(w : World)(hc : w.cell? ⟨b, i, none⟩ = some (.int .i64 0))(hf : w.frozen? ⟨b, i, none⟩ = false) :
    Calls prog 70 #[.pointer (some ⟨b,i,none⟩),.int .i64 0] w fun r w'=>r=.returned (.bool false)∧w=w':=
  (zbY _ 0 w hc hf).mono fun r w' ⟨h1,h2⟩=>⟨h1,by rw[← h2];exact (ziY hc).symm⟩
theorem zry(g : Nat)(F : Nat → Prop)(e : Int)(l : List UInt8)(x : Int)(n : Nat)(w : World)(h : Pk w g F e l)(hx : 0 ≤ x)(hn : l.length + n ≤ 1099511627776) :
    Calls prog 71 #[.pointer (some ⟨g,0,none⟩),.int .u64 x,.int .i64 n] w fun r w'=>r=.returned (.tuple #[])∧∃ F',Pk w' g F' e (l++le x.toNat n)∧Mv F F' w w':=by
  have Hn:=q0_ hn
  have hn':n≤1099511627776:=by omega
  clear hn;go_enter func71,ntmps71
  go_wp2
  go_loopw [1,7] (fun y i wr=>∃ (k:Nat) (z:Int) (F':Nat→Prop),k≤n∧i=.int .i64 k∧y=.int .u64 z∧0≤z∧Pk wr g F' e (l++le x.toNat k)∧Hid (z=x / 256 ^ k)∧Mv F F' w wr) (fun _ i _=>n-(intOf i).toNat)
  case atStart=>exact⟨0,x,F,Nat.zero_le _,rfl,rfl,hx,by simpa[le] using h,by simp[Hid],Mv.refl _ _⟩
  case round=>
    obtain⟨k,z,F',hk,rfl,rfl,hz0,hp,hz,hm⟩:=hrel;obtain⟨A,m,c,hb,ho,rfl⟩:=hp;have c0:=hb.cell 1;have hf0:=hb.frozen 1;simp only[q1_,q2_,q3_] at c0
    have hll:m=l.length+k:=by have:=ho.1;simp[bys,zaQ] at this;omega
    have Hll:=q0_ hll;clear hll
    by_cases hlt:k<n
    · have Hb:=q0_ hb
      have Ho:=q0_ ho;clear hb ho
      go_wp2_with (at_builtin;refine zey rfl (.tmp 13) (.tmp 16) rfl _ m (bys (l++le x.toNat k)) rfl ?c0 (some ⟨wr.heap.size,0,none⟩) 1 1 [.int .u8 (z%256)] rfl ?c1 ?c2 ?c3 ?_)
      case c0=>exact Ho.out.alloc _
      case c1=>exact⟨rfl,fun _=>⟨_,rfl,cell_one_new _ _ _⟩⟩
      case c2=>simp[Value.oneCell']
      case c3=>have:=Hll.out;have:=Hn.out;omega
      intro A' c' w1 ho1 hm1;have hgr:¬ zaE (Value.slice A m c) g:=zad Ho.out Hb.out (by decide);have hb1:Blk w1 g 63 #[.int .i64 e,.slice A m c]:=(Hb.out.alloc _).fr hm1.fr hgr;have c2:=hb1.cell 1;have hf2:=hb1.frozen 1;simp only[q1_,q2_,q3_] at c2;have Hb1:=q0_ hb1;have Ho1:=q0_ ho1;have Hm1:=q0_ hm1;have Hgr:=q0_ hgr;clear hb1 ho1 hm1 hgr
      go_wp2
      go_roundw
      case rel=>
        obtain⟨F',hp',hm'⟩:=Pk.push (l:=l++le x.toNat (k+1)) Hb1.out (by rw[zrB, ← List.append_assoc,zfD];rw[show bys [UInt8.ofNat (x.toNat / 256 ^ k)]=[Value.int IntKind.u8 (z%256)] from zqi hx hz.out];exact Ho1.out) Hm1.out;exact⟨k+1,z / 256,F',by omega,by go_num,rfl,by omega,hp',zqx hz.out,(hm.trans (Mv.none_alloc _ _ _)).trans hm'⟩
      case measure=>simp[intOf];omega
    · go_wp2
      go_end0
      obtain rfl:k=n:=by omega
      exact⟨rfl,_,⟨A,m,c,hb,ho,rfl⟩,hm⟩
theorem zik(g : Nat)(F : Nat → Prop)(e : Int)(l : List UInt8)(x m : Int)(w : World)(h : Pk w g F e l)(hx : 0 ≤ x)(hm : 0 ≤ m)(hn : (l.length : Int) + m ≤ 1099511627776) :
    Calls prog 71 #[.pointer (some ⟨g,0,none⟩),.int .u64 x,.int .i64 m] w fun r w'=>r=.returned (.tuple #[])∧∃ F',Pk w' g F' e (l++le x.toNat m.toNat)∧Mv F F' w w':=by
  obtain⟨n,rfl⟩:=Int.eq_ofNat_of_zero_le hm;exact zry g F e l x n w h hx (by omega)
theorem Pk.c0{w:World}{g:Nat}{F:Nat→Prop}{e:Int}{l:List UInt8}(h:Pk w g F e l):w.cell? ⟨g,0,none⟩=some (.int .i64 e):=by
  obtain⟨A,m,c,hb,ho,rfl⟩:=h;exact hb.cell 0
theorem zqu(l:List Int)(m:Nat):(l.flatMap fun x=>le x.toNat m).length=m*l.length:=by
  induction l with
  | nil=>simp
  | cons a t ih=>simp only[List.flatMap_cons,q8_,zaQ,ih,List.length_cons];rw[Nat.mul_add];omega
theorem zpE(g : Nat)(F : Nat → Prop)(l : List UInt8)(vs : List Int)(A : Option Addr)(n c : Nat)(w : World)(h : Pk w g F 0 l)
    (hr:Rd w 1 A n (vs.map (Value.int .u64))) (hA:∀ k,adF A n k→¬ F k) (hv:∀ x∈vs,0≤x) (hn:l.length+8*n≤1099511627776):
    Calls prog 67 #[.pointer (some ⟨g,0,none⟩),.slice A n c] w fun r w'=>r=.returned (.tuple #[])∧∃ F',Pk w' g F' 0 (l++vs.flatMap fun x=>le x.toNat 8)∧Mv F F' w w':=by
  have hn':n≤1099511627776:=by omega
  have c0:=h.c0;have Hn:=q0_ hn;have HA:=q0_ hA;have Hv:=q0_ hv;clear hn hA hv;go_enter func67,ntmps67
  go_wp2
  go_loopw [18] (fun i wr=>∃ (k:Nat) (F':Nat→Prop),k≤n∧i=.int .i64 k∧Pk wr g F' 0 (l++(vs.take k).flatMap fun x=>le x.toNat 8)∧Mv F F' w wr) (fun i _=>n-(intOf i).toNat)
  case atStart=>exact⟨0,F,Nat.zero_le _,rfl,by simpa using h,Mv.refl _ _⟩
  case round=>
    obtain⟨k,F',hk,rfl,hp,hm⟩:=hrel
    by_cases hlt:k<n
    · have hr':=hr.fr hm.fr HA.out
      obtain⟨ad,x,rfl,hu,hc⟩:=hr'.at_map hlt;clear hr';have Hu:=q0_ hu;clear hu;go_wp2_with fail;refine (zik g F' 0 _ x 8 _ hp (Hv.out _ (zab Hu.out)) (by omega) ?_).mono ?_
      · have:=Hn.out;have:=hr.len_map;simp only[q8_,zqu,List.length_take];omega
      rintro r w1 ⟨rfl,F1,hp1,hm1⟩;clear hp hc
      go_wp2
      go_roundw
      case rel=>exact⟨k+1,F1,by omega,by go_num,by rw[zan Hu.out,List.flatMap_append];simpa using hp1,hm.trans hm1⟩
      case measure=>simp[intOf];omega
    · go_wp2
      go_end0
      rw[za3 (by have:=hr.len_map;omega)] at hp;exact⟨rfl,F',hp,hm⟩
theorem znr(g : Nat)(F : Nat → Prop)(e : Int)(l : List UInt8)(A : Option Addr)(n c : Nat)(w : World)(h : Pk w g F e l)(he : (e != 0) = true) :
    Calls prog 67 #[.pointer (some ⟨g,0,none⟩),.slice A n c] w fun r w'=>r=.returned (.tuple #[])∧w=w':=by
  have c0:=h.c0;go_enter func67,ntmps67
  go_wp2
  exact bodyPost_ret (results_none rfl _ _ _) rfl ⟨rfl,rfl⟩
def pW(e:Int)(l m:List UInt8):List UInt8:=if e=0 then l++m else l
theorem zkD(l m:List UInt8):pW 0 l m=l++m:=rfl
theorem zse(e:Int)(l:List UInt8):pW e l []=l:=by unfold pW;split<;>simp
theorem zsx(e:Int)(l a b:List UInt8):pW e (pW e l a) b=pW e l (a++b):=by unfold pW;split<;>simp
theorem zsf(e:Int)(l m:List UInt8):(pW e l m).length≤l.length+m.length:=by unfold pW;split<;>simp
theorem zf8(g : Nat)(F : Nat → Prop)(e : Int)(l : List UInt8)(vs : List Int)(A : Option Addr)(n c : Nat)(w : World)(h : Pk w g F e l)
    (hr:Rd w 1 A n (vs.map (Value.int .u64))) (hA:∀ k,adF A n k→¬ F k) (hv:∀ x∈vs,0≤x) (hn:l.length+8*n≤1099511627776):
    Calls prog 67 #[.pointer (some ⟨g,0,none⟩),.slice A n c] w fun r w'=>r=.returned (.tuple #[])∧∃ F',Pk w' g F' e (pW e l (vs.flatMap fun x=>le x.toNat 8))∧Mv F F' w w':=by
  by_cases he:e=0
  · subst he
    exact zpE g F l vs A n c w h hr hA hv hn
  · refine (znr g F e l A n c w h (by simpa using he)).mono fun r w' ⟨h1,h2⟩=>⟨h1,F,?_,h2▸Mv.refl _ _⟩
    subst h2;simpa[pW,he] using h
def u64(x:Int):Nat:=(x%18446744073709551616).toNat
def le8(l:List Int):List UInt8:=l.flatMap fun x=>le (u64 x) 8
theorem zmP(a b:List Int):le8 (a++b)=le8 a++le8 b:=by simp[le8]
theorem zdr(l:List Int):(le8 l).length=8*l.length:=by
  induction l with
  | nil=>simp[le8]
  | cons a t ih=>simp only[le8,List.flatMap_cons,q8_,zaQ,List.length_cons] at ih ⊢;omega
theorem zeM(g : Nat)(F : Nat → Prop)(e : Int)(l : List UInt8)(vs : List Int)(A : Option Addr)(n c : Nat)(w : World)(h : Pk w g F e l)
    (hr:Rd w 1 A n (vs.map (Value.int .i64))) (hA:∀ k,adF A n k→¬ F k) (hn:l.length+8*n≤1099511627776):
    Calls prog 68 #[.pointer (some ⟨g,0,none⟩),.slice A n c] w fun r w'=>r=.returned (.tuple #[])∧∃ F',Pk w' g F' e (pW e l (le8 vs))∧Mv F F' w w':=by
  have hn':n≤1099511627776:=by omega
  have Hn:=q0_ hn;have HA:=q0_ hA;clear hn hA;go_enter func68,ntmps68
  go_wp2
  go_loopw [8] (fun i wr=>∃ (k:Nat) (F':Nat→Prop),k≤n∧i=.int .i64 k∧Pk wr g F' e (pW e l (le8 (vs.take k)))∧Mv F F' w wr) (fun i _=>n-(intOf i).toNat)
  case atStart=>exact⟨0,F,Nat.zero_le _,rfl,by simpa[le8,zse] using h,Mv.refl _ _⟩
  case round=>
    obtain⟨k,F',hk,rfl,hp,hm⟩:=hrel
    by_cases hlt:k<n
    · have hr':=hr.fr hm.fr HA.out
      obtain⟨ad,x,rfl,hu,hc⟩:=hr'.at_map hlt;clear hr';have Hu:=q0_ hu;clear hu;go_wp2_with fail;have hp0:=hp.fr (Fr.none_alloc wr (.cells #[.int .u64 (IntKind.u64.wrap x)] 48)) (fun _ _ h=>h);refine (zf8 g F' e _ [IntKind.u64.wrap x] _ 1 1 _ hp0 (Rd.new _ _ _ _ rfl) (zew hp.lt) ?_ ?_).mono ?_
      · rw[IntKind.wrap_u64];simp;omega
      · have:=Hn.out;have:=hr.len_map;have:=zsf e l (le8 (vs.take k));simp only[zdr,List.length_take] at this;omega
      rintro r w1 ⟨rfl,F1,hp1,hm1⟩;rw[zsx] at hp1;clear hp hp0 hc
      go_wp2
      go_roundw
      case rel=>exact⟨k+1,F1,by omega,by go_num,by rw[zan Hu.out,zmP];simpa[le8,u64,IntKind.wrap_u64] using hp1,hm.trans ((Mv.none_alloc _ _ _).trans hm1)⟩
      case measure=>simp[intOf];omega
    · go_wp2
      go_end0
      rw[za3 (by have:=hr.len_map;omega)] at hp;exact⟨rfl,F',hp,hm⟩
def zck(size:Int)(l:List UInt8):List Int→Int×List UInt8
  | []=>(0,l)
  | v::vs=>if za7 size v=true then zck size (l++le v.toNat size.toNat) vs else (1,l)
def zgD(size e:Int)(l:List UInt8)(vs:List Int):Int×List UInt8:=
  if e=0 then (if za7 size 0=true then zck size l vs else (1,l)) else (e,l)
theorem Pk.f0{w:World}{g:Nat}{F:Nat→Prop}{e:Int}{l:List UInt8}(h:Pk w g F e l):w.frozen? ⟨g,0,none⟩=false:=by
  obtain⟨A,m,c,hb,ho,rfl⟩:=h;exact hb.frozen 0
theorem Pk.setE{w:World}{g:Nat}{F:Nat→Prop}{e e':Int}{l:List UInt8}(h:Pk w g F e l):Pk (w.setCell ⟨g,0,none⟩ (.int .i64 e')) g F e' l∧Mv F F w (w.setCell ⟨g,0,none⟩ (.int .i64 e')):=by
  obtain⟨A,m,c,hb,ho,rfl⟩:=h;have hne:=zad ho hb (by decide);have hs:Fr (fun k=>k=g) w (w.setCell ⟨g,0,none⟩ (.int .i64 e')):=(Fr.refl (fun k=>k=g) w).setCell (p:=⟨g,0,none⟩) (.inl rfl) _;exact⟨⟨A,m,c,hb.set_ 0 _,zaf ho hs (fun k hk hg=>hne (hg▸hk)),rfl⟩,hs.mono (fun i hi=>.inl (.inl hi)),fun k hk=>.inl hk⟩
theorem zn4(g : Nat)(F : Nat → Prop)(e size : Int)(l : List UInt8)(A : Option Addr)(n c : Nat)(w : World)(h : Pk w g F e l)(he : (e == 0) = false)(he' : (e != 0) = true) :
    Calls prog 27 #[.pointer (some ⟨g,0,none⟩),.int .i64 size,.slice A n c] w fun r w'=>r=.returned (.tuple #[])∧∃ m,w'=w.drewN m:=by
  have c0:=h.c0;go_enter func27,ntmps27
  go_wp2
  go_quiet ((first | (go_at_call 72;exact zbk (zeV _ _ _)) | (go_at_call 70;exact zbk (zeX _ _ _ _ c0 he he'))))
  go_wp2
  exact bodyPost_ret (results_none rfl _ _ _) rfl ⟨rfl,nq,rfl⟩
theorem zmm(g : Nat)(F : Nat → Prop)(size : Int)(l : List UInt8)(A : Option Addr)(n c : Nat)(w : World)(h : Pk w g F 0 l)(hs : za7 size 0 = false) :
    Calls prog 27 #[.pointer (some ⟨g,0,none⟩),.int .i64 size,.slice A n c] w fun r w'=>r=.returned (.tuple #[])∧∃ F',Pk w' g F' 1 l∧Mv F F' w w':=by
  have c0:=h.c0;have f0:=h.f0;go_enter func27,ntmps27
  go_wp2
  go_still_tail 8,(by kernel_rfl)
  still_call (zc2 (zeV _ _ _))
  repeat still_step
  refine wpStill_nil ?_;rw[hs];clear hs;change wpList _ _ _ _ _ w.drew;go_wp2_with fail;refine (zbY _ _ w.drew c0 f0).mono ?_;rintro r w1 ⟨rfl,rfl⟩
  go_wp2
  refine bodyPost_ret (results_none rfl _ _ _) rfl ⟨rfl,F,?_⟩;have:=h.fr (Fr.none_drewN w 1) (fun _ _ h=>h);exact⟨(Pk.setE this).1,(Mv.of_none F (Fr.none_drewN w 1)).trans (Pk.setE this).2⟩
theorem zoP{size x:Int}(h:za7 size x=true):x<18446744073709551616:=by
  obtain⟨h1,h2,h3,h4⟩:=of_decide_eq_true h
  have h5:(256:Int) ^ size.toNat≤256 ^ 7:=by
    have h6:(256:Nat) ^ size.toNat≤256 ^ 7:=Nat.pow_le_pow_right (by decide) (by omega);have h7:=Int.ofNat_le.2 h6;rw[Int.natCast_pow,Int.natCast_pow] at h7;exact h7
  have h6:(256:Int) ^ 7=72057594037927936:=by decide
  omega
theorem zhh{x:Int}(h:x<18446744073709551616)(h0:0≤x):IntKind.u64.wrap x=x:=by
  rw[IntKind.wrap_u64];omega
theorem zpS(g : Nat)(F : Nat → Prop)(size : Int)(l : List UInt8)(vs : List Int)(A : Option Addr)(n c : Nat)(w : World)(h : Pk w g F 0 l)(hs : za7 size 0 = true)
    (hr:Rd w 1 A n (vs.map (Value.int .i64))) (hA:∀ k,adF A n k→¬ F k) (hn:l.length+8*n≤1099511627776):
    Calls prog 27 #[.pointer (some ⟨g,0,none⟩),.int .i64 size,.slice A n c] w fun r w'=>r=.returned (.tuple #[])∧∃ F',Pk w' g F' (zck size l vs).1 (zck size l vs).2∧Mv F F' w w':=by
  have c0:=h.c0;have f0:=h.f0
  have hn':n≤1099511627776:=by omega
  have Hn:=q0_ hn;have HA:=q0_ hA;have Hs:=q0_ hs;clear hn hA hs;go_enter func27,ntmps27
  go_wp2
  go_quiet ((first | (go_at_call 72;exact zbk (ziA _ _ _ Hs.out)) | (go_at_call 70;exact zbk (zdT _ _ _ c0 f0))))
  have h0:=h.fr (Fr.none_drewN w nq) (fun _ _ h=>h);have hr0:=hr.drewN nq
  generalize hw0:w.drewN nq=w0 at*
  go_wp2
  go_loopw [20] (fun i wr=>∃ (k:Nat) (F':Nat→Prop) (lk:List UInt8),k≤n∧i=.int .i64 k∧Pk wr g F' 0 lk∧Mv F F' w wr∧Hid (zck size l vs=zck size lk (vs.drop k))∧Hid (lk.length≤l.length+7*k)) (fun i _=>n-(intOf i).toNat)
  case atStart=>exact⟨0,F,l,Nat.zero_le _,rfl,h0,Mv.of_none F (hw0▸Fr.none_drewN w nq),by simp[Hid],by simp[Hid]⟩
  case round=>
    clear hw0 c0 f0;obtain⟨k,F',lk,hk,rfl,hp,hm,hgo,hlen⟩:=hrel;have c1:=hp.c0;have f1:=hp.f0
    by_cases hlt:k<n
    · have hr':=hr.fr hm.fr HA.out
      obtain⟨ad,x,rfl,hu,hc⟩:=hr'.at_map hlt;clear hr'
      have hdrop:vs.drop k=x::vs.drop (k+1):=by
        rw[List.drop_eq_getElem?_toList_append,hu];rfl
      have Hd:=q0_ hdrop;have hz:=hr.len_map;have Hz:=q0_ hz;clear hu hdrop hz
      by_cases hx:za7 size x=true
      · have Hx:=q0_ hx
        have hx0:0≤x:=(of_decide_eq_true hx).2.2.1
        have hs0:0≤size:=by have:=(of_decide_eq_true hx).1;omega
        have hs7:size≤7:=(of_decide_eq_true hx).2.1;clear hx
        go_wp2
        go_quiet ((first | (go_at_call 72;exact zbk (ziA _ _ _ Hx.out)) | (go_at_call 70;exact zbk (zdT _ _ _ c1 f1))))
        go_wp2_with fail;refine (zik g F' 0 lk (IntKind.u64.wrap x) size _ (hp.fr (Fr.none_drewN wr nq) (fun _ _ h=>h)) (by rw[zhh (zoP Hx.out) hx0];exact hx0) hs0 ?_).mono ?_
        · have:=Hn.out;have:=hlen.out;omega
        rintro r w1 ⟨rfl,F1,hp1,hm1⟩;rw[zhh (zoP Hx.out) hx0] at hp1;clear hp hc c1 f1
        go_wp2
        go_roundw
        case rel=>
          refine⟨k+1,F1,_,by omega,by go_num,hp1,hm.trans ((Mv.of_none F' (Fr.none_drewN wr nq)).trans hm1),?_,?_⟩
          · show zck size l vs=_
            rw[hgo.out,Hd.out];simp only[zck,Hx.out,if_true]
          · have:=hlen.out
            show List.length _≤_
            simp only[q8_,zaQ];omega
        case measure=>simp[intOf];omega
      · have Hx:=q0_ (show za7 size x=false by simpa using hx)
        clear hx
        go_wp2
        go_still_tail 6,(by kernel_rfl)
        still_call (zc2 (zlI _ _ _ Hx.out))
        repeat still_step
        refine wpStill_nil ?_;change wpList _ _ _ _ _ wr.drew;go_wp2_with fail;refine (zbY _ _ wr.drew c1 f1).mono ?_;rintro r w1 ⟨rfl,rfl⟩
        go_wp2
        have h3:=hp.fr (Fr.none_drewN wr 1) (fun _ _ h=>h);refine bodyPost_ret (results_none rfl _ _ _) rfl ⟨rfl,F',?_⟩;rw[hgo.out,Hd.out];simp only[zck,Hx.out,Bool.false_eq_true,if_false];exact⟨(Pk.setE h3).1,hm.trans ((Mv.of_none F' (Fr.none_drewN wr 1)).trans (Pk.setE h3).2)⟩
    · go_wp2
      go_end0
      have hz:=hr.len_map;rw[hgo.out,List.drop_eq_nil_of_le (by omega)];exact⟨rfl,F',hp,hm⟩
theorem ziU(g : Nat)(F : Nat → Prop)(e size : Int)(l : List UInt8)(vs : List Int)(A : Option Addr)(n c : Nat)(w : World)(h : Pk w g F e l)
    (hr:Rd w 1 A n (vs.map (Value.int .i64))) (hA:∀ k,adF A n k→¬ F k) (hn:l.length+8*n≤1099511627776):
    Calls prog 27 #[.pointer (some ⟨g,0,none⟩),.int .i64 size,.slice A n c] w fun r w'=>r=.returned (.tuple #[])∧∃ F',Pk w' g F' (zgD size e l vs).1 (zgD size e l vs).2∧Mv F F' w w':=by
  by_cases he:e=0
  · subst he
    by_cases hs:za7 size 0=true
    · simpa[zgD,hs] using zpS g F size l vs A n c w h hs hr hA hn
    · simpa[zgD,hs] using zmm g F size l A n c w h (by simpa using hs)
  · refine (zn4 g F e size l A n c w h (by simpa using he) (by simpa using he)).mono fun r w' ⟨h1,m,h2⟩=>⟨h1,F,?_,?_⟩
    · subst h2
      simpa[zgD,he] using h.fr (Fr.none_drewN w m) (fun _ _ h=>h)
    · subst h2
      exact Mv.of_none F (Fr.none_drewN w m)
def PkR(w:World)(g:Nat)(A:Option Addr)(m c:Nat)(e:Int)(l:List UInt8):Prop:=
  Blk w g 63 #[.int .i64 e,.slice A m c]∧w.ownsRow 0 5 1 (.slice A m c) m (bys l)
def pkF(g:Nat)(A:Option Addr)(m c:Nat):Nat→Prop:=fun k=>k=g∨zaE (.slice A m c) k
section
variable {w w1:World} {g m c m' c':Nat} {A A':Option Addr} {e:Int} {l l':List UInt8}
theorem PkR.pk(h:PkR w g A m c e l):Pk w g (pkF g A m c) e l:=⟨A,m,c,h.1,h.2,rfl⟩
theorem Pk.open_{F:Nat→Prop}(h:Pk w g F e l):∃ A m c,PkR w g A m c e l∧F=pkF g A m c:=by
  obtain⟨A,m,c,h1,h2,h3⟩:=h;exact⟨A,m,c,⟨h1,h2⟩,h3⟩
theorem PkR.len(h:PkR w g A m c e l):m=l.length:=by have:=h.2.1;rw[zd8] at this;omega
theorem PkR.c1(h:PkR w g A m c e l):w.cell? ⟨g,1,none⟩=some (.slice A m c):=h.1.cell 1
theorem PkR.c0(h:PkR w g A m c e l):w.cell? ⟨g,0,none⟩=some (.int .i64 e):=h.1.cell 0
theorem PkR.f0(h:PkR w g A m c e l):w.frozen? ⟨g,0,none⟩=false:=h.1.frozen 0
theorem PkR.f1(h:PkR w g A m c e l):w.frozen? ⟨g,1,none⟩=false:=h.1.frozen 1
theorem PkR.ne(h:PkR w g A m c e l):¬ zaE (.slice A m c) g:=zad h.2 h.1 (by decide)
theorem PkR.after{G:Nat→Prop}{w0:World}(h:PkR w0 g A m c e l)(hm:Mv (zaE (.slice A m c)) G w0 w1):Blk w1 g 63 #[.int .i64 e,.slice A m c]:=h.1.fr hm.fr h.ne
theorem PkR.push{w0 : World}(hb : Blk w1 g 63 #[.int .i64 e, .slice A m c])
    (ho:w1.ownsRow 0 5 1 (.slice A' m' c') m' (bys l)) (hm:Mv (zaE (.slice A m c)) (zaE (.slice A' m' c')) w0 w1):
    PkR (w1.setCell ⟨g,1,none⟩ (.slice A' m' c')) g A' m' c' e l∧Mv (pkF g A m c) (pkF g A' m' c') w0 (w1.setCell ⟨g,1,none⟩ (.slice A' m' c')):=by
  have hne:¬ zaE (.slice A' m' c') g:=zad ho hb (by decide);have hs:Fr (fun k=>k=g) w1 (w1.setCell ⟨g,1,none⟩ (.slice A' m' c')):=(Fr.refl (fun k=>k=g) w1).setCell (p:=⟨g,1,none⟩) (.inl rfl) _;refine⟨⟨hb.set_ 1 _,zaf ho hs (fun k hk hg=>hne (hg▸hk))⟩,⟨?_,?_⟩⟩
  · refine (hm.fr.mono (fun i hi=>.inl (.inr hi))).trans hs (fun i hi=>.inl (.inl hi))
  · rintro k (hk | hk)
    · exact .inl (.inl hk)
    · exact (hm.sub k hk).imp .inr id
theorem PkR.fr{G:Nat→Prop}(h:PkR w g A m c e l)(hf:Fr G w w1)(hn:∀ k,pkF g A m c k→¬ G k):PkR w1 g A m c e l:=
  ⟨h.1.fr hf (hn g (.inl rfl)),zaf h.2 hf (fun k hk=>hn k (.inr hk))⟩
theorem PkR.fr0(h:PkR w g A m c e l)(hf:Fr (fun _=>False) w w1):PkR w1 g A m c e l:=h.fr hf (fun _ _ h=>h)
end
theorem Pk.cast{w:World}{g:Nat}{F:Nat→Prop}{e:Int}{l l':List UInt8}(h:Pk w g F e l)(hl:l=l'):Pk w g F e l':=hl▸h
theorem zeb{w : World}{ops : Array Oper}{rest : List Oper}{o : Oper}{a : Act}{Q : Exit → Act → World → Prop}(hgd : o.guard = none)(s x : Operand)
    (ho:o.op=.call {callee:=.builtin .append,args:=#[s,x],argTypes:=#[61,9]})
    (v:Value) (n:Nat) (l:List UInt8) (hs:a.eval s=v) (hown:w.ownsRow 0 5 1 v n (bys l)) (t:ByteArray) (hx:a.eval x=.string t)
    (hb:n+t.size≤2199023255552)
    (h:∀ A' c' w',w'.ownsRow 0 5 1 (.slice A' (n+t.size) c') (n+t.size) (bys (l++t.data.toList))→Mv (zaE v) (zaE (.slice A' (n+t.size) c')) w w'→wpList prog ops Q rest (a.put o.dst (.slice A' (n+t.size) c')) w'):wpList prog ops Q (o::rest) a w:=by
  obtain⟨i0,hi,hz0,hz1,hz2⟩:=info_parts zoF;exact ze6 hgd s x 61 9 ho 5 i0 underlying61 underlying9 hi hz0 hz1 hz2 v n (bys l) hs hown t hx (by unfold maxLen;omega) (by omega) (fun A' c' w' h1 h2=>h A' c' w' (by rw[zfD];exact h1) h2)
def ze_(s:ByteArray):List UInt8:=UInt8.ofNat s.size::s.data.toList++List.replicate (15-s.size) 0
def zdM:Int→List UInt8→List ByteArray→Int×List UInt8
  | e,l,[]=>(e,l)
  | e,l,s::ss=>if e=0 then (if 15<s.size then (2,l) else zdM 0 (l++ze_ s) ss) else (e,l)
theorem zrA(k:Nat):le 0 k=List.replicate k 0:=by
  induction k with
  | zero=>rfl
  | succ k ih=>simp[le,ih,List.replicate_succ]
theorem zdO(s:ByteArray)(h:s.size≤15):(ze_ s).length=16:=by
  have:s.data.toList.length=s.size:=by rw[Array.length_toList];rfl
  simp only[ze_,List.cons_append,List.length_cons,q8_,List.length_replicate,this];omega
theorem zov(g : Nat)(F : Nat → Prop)(e : Int)(l : List UInt8)(ss : List ByteArray)(A : Option Addr)(n c : Nat)(w : World)(h : Pk w g F e l)
    (hr:Rd w 1 A n (ss.map Value.string)) (hA:∀ k,adF A n k→¬ F k) (hn:l.length+16*n≤1099511627776) (hs:∀ s∈ss,s.size≤1099511627776):
    Calls prog 118 #[.pointer (some ⟨g,0,none⟩),.slice A n c] w fun r w'=>r=.returned (.tuple #[])∧∃ F',Pk w' g F' (zdM e l ss).1 (zdM e l ss).2∧Mv F F' w w':=by
  have hn':n≤1099511627776:=by omega
  have Hn:=q0_ hn;have HA:=q0_ hA;have Hs:=q0_ hs;clear hn hA hs;go_enter func118,ntmps118
  go_wp2
  go_loopw [9] (fun i wr=>∃ (k:Nat) (F':Nat→Prop) (lk:List UInt8),k≤n∧i=.int .i64 k∧Pk wr g F' e lk∧Mv F F' w wr∧Hid (zdM e l ss=zdM e lk (ss.drop k))∧Hid (lk.length≤l.length+16*k)) (fun i _=>n-(intOf i).toNat)
  case atStart=>exact⟨0,F,l,Nat.zero_le _,rfl,h,Mv.refl _ _,by simp[Hid],by simp[Hid]⟩
  case round=>
    obtain⟨k,F',lk,hk,rfl,hp,hm,hgo,hlen⟩:=hrel
    by_cases hlt:k<n
    · have hr':=hr.fr hm.fr HA.out
      obtain⟨ad,x,rfl,hu,hc⟩:=hr'.at_map hlt;clear hr'
      have hdrop:ss.drop k=x::ss.drop (k+1):=by
        rw[List.drop_eq_getElem?_toList_append,hu];rfl
      have Hd:=q0_ hdrop;have hz:=hr.len_map;have Hz:=q0_ hz;have hxs:x.size≤1099511627776:=Hs.out x (zab hu);clear hu hdrop hz;obtain⟨A1,m1,c1',hq,rfl⟩:=hp.open_;clear hp;have hp:=hq;clear hq;have c0:=hp.c0;have f0:=hp.f0;have c1:=hp.c1;have f1:=hp.f1;have hml:=hp.len;have Hml:=q0_ hml;clear hml
      by_cases he:e=0
      · subst he
        by_cases hx:15<x.size
        · go_wp2_with fail
          refine (zbY _ _ wr c0 f0).mono ?_;rintro r w1 ⟨rfl,rfl⟩
          go_wp2
          refine bodyPost_ret (results_none rfl _ _ _) rfl ⟨rfl,pkF g A1 m1 c1',?_⟩;rw[hgo.out,Hd.out];simp only[zdM,if_pos hx,if_true];exact⟨(Pk.setE hp.pk).1,hm.trans (Pk.setE hp.pk).2⟩
        · have hx':x.size≤15:=by omega
          go_wp2_with fail;refine (zdT _ _ wr c0 f0).mono ?_;rintro r w1 ⟨rfl,rfl⟩
          go_wp2_with (at_builtin;refine zey rfl (.tmp 29) (.tmp 33) rfl _ m1 (bys lk) rfl ?c0 (some ⟨wr.heap.size,0,none⟩) 1 1 [.int .u8 (x.size:Int)] rfl ?c2 ?c3 ?c4 ?_)
          case c0=>exact hp.2.alloc _
          case c2=>exact Rd.new _ _ _ _ rfl
          case c3=>simp[Value.oneCell']
          case c4=>have:=Hml.out;have:=Hn.out;have:=hlen.out;omega
          intro A2 c2 w1 ho2 hm2;rw[← zrT (by omega:x.size<256), ← zfD] at ho2;have hp':PkR (wr.alloc (.cells #[.int .u8 (x.size:Int)] 5)) g A1 m1 c1' 0 lk:=hp.fr0 (Fr.none_alloc _ _);have hb2:=hp'.after hm2;obtain⟨hp2,hm2'⟩:=PkR.push hb2 ho2 hm2;have k1:=hb2.cell 1;have k2:=hb2.frozen 1;simp only[q1_,q2_,q3_] at k1;have k3:=hp2.c1;have k4:=hp2.f1;have Hp2:=q0_ hp2;have Hm2:=q0_ hm2';clear hp2 hm2' hb2 ho2 hm2 hp' c0 f0 c1 f1 hc
          go_wp2_with (at_builtin;refine zeb rfl (.tmp 41) (.tmp 42) rfl _ (m1+1) (lk++[UInt8.ofNat x.size]) rfl ?c0 x rfl ?c4 ?_)
          case c0=>exact Hp2.out.2
          case c4=>have:=Hml.out;have:=Hn.out;have:=hlen.out;omega
          intro A3 c3 w3 ho3 hm3;have hb3:=Hp2.out.after hm3;obtain⟨hp3,hm3'⟩:=PkR.push hb3 ho3 hm3;have j1:=hb3.cell 1;have j2:=hb3.frozen 1;simp only[q1_,q2_,q3_] at j1;have Hp3:=q0_ hp3;have Hm3:=q0_ hm3';clear hp3 hm3' hb3 ho3 hm3 k1 k2 k3 k4;go_wp2_with fail;refine (zik g _ 0 _ 0 (15-(x.size:Int)) _ Hp3.out.pk (by omega) (by omega) ?_).mono ?_
          · have:=Hml.out;have:=Hn.out;have:=hlen.out;have:=zbj x;simp only[q8_,List.length_cons,List.length_nil];omega
          rintro r w4 ⟨rfl,F4,hp4,hm4⟩;clear j1 j2
          go_wp2
          go_roundw
          case rel=>
            have e1:(lk++UInt8.ofNat x.size::x.data.toList++le (Int.toNat 0) (15-(x.size:Int)).toNat)=lk++ze_ x:=by
              rw[show (15-(x.size:Int)).toNat=15-x.size by omega,show Int.toNat 0=0 from rfl,zrA];simp[ze_]
            rw[e1] at hp4;refine⟨k+1,F4,_,by omega,by go_num,hp4,hm.trans ((Mv.none_alloc _ _ _).trans (Hm2.out.trans (Hm3.out.trans hm4))),?_,?_⟩
            · show zdM 0 l ss=_
              rw[hgo.out,Hd.out];simp only[zdM,if_true,if_neg hx]
            · have:=hlen.out
              show List.length _≤_
              simp only[q8_,zdO x hx'];omega
          case measure=>simp[intOf];omega
      · have he1:(e==0)=false:=by simpa using he
        have he2:(e != 0)=true:=by simpa using he
        have He:=q0_ he;clear he
        by_cases hx:15<x.size
        all_goals
          go_wp2_with fail;refine (zeX _ _ _ wr c0 he1 he2).mono ?_;rintro r w1 ⟨rfl,rfl⟩
          go_wp2
          refine bodyPost_ret (results_none rfl _ _ _) rfl ⟨rfl,pkF g A1 m1 c1',?_⟩;rw[hgo.out,Hd.out];simp only[zdM,if_neg He.out];exact⟨hp.pk,hm⟩
    · go_wp2
      go_end0
      have hz:=hr.len_map;rw[hgo.out,List.drop_eq_nil_of_le (by omega)];exact⟨rfl,F',hp,hm⟩
def zb6(s:ByteArray):List UInt8:=le s.size 2++s.data.toList
def zkE(e:Int)(l:List UInt8)(s:ByteArray):Int×List UInt8:=if e=0 then (if 60000<s.size then (2,l) else (0,l++zb6 s)) else (e,l)
theorem zpN(g : Nat)(F : Nat → Prop)(e : Int)(l : List UInt8)(s : ByteArray)(w : World)(h : Pk w g F e l)(hn : l.length ≤ 549755813888)(hs : s.size ≤ 1099511627776) :
    Calls prog 26 #[.pointer (some ⟨g,0,none⟩),.string s] w fun r w'=>r=.returned (.tuple #[])∧∃ F',Pk w' g F' (zkE e l s).1 (zkE e l s).2∧Mv F F' w w':=by
  obtain⟨A1,m1,c1',hp,rfl⟩:=h.open_;have c0:=hp.c0;have f0:=hp.f0
  by_cases he:e=0
  · subst he
    by_cases hx:60000<s.size
    · go_enter func26,ntmps26
      go_wp2_with fail;refine (zbY _ _ w c0 f0).mono ?_;rintro r w1 ⟨rfl,rfl⟩
      go_wp2
      refine bodyPost_ret (results_none rfl _ _ _) rfl ⟨rfl,pkF g A1 m1 c1',?_⟩;simp only[zkE,if_pos hx,if_true];exact Pk.setE hp.pk
    · go_enter func26,ntmps26
      go_wp2_with fail;refine (zdT _ _ w c0 f0).mono ?_;rintro r w1 ⟨rfl,rfl⟩;clear c0 f0;go_wp2_with fail;refine (zik g _ 0 l s.size 2 _ hp.pk (by omega) (by omega) (by omega)).mono ?_;rintro r w2 ⟨rfl,F2,hp2,hm2⟩;obtain⟨A2,m2,c2',hq,rfl⟩:=hp2.open_;have c1:=hq.c1;have f1:=hq.f1;have hml:=hq.len;have Hml:=q0_ hml;clear hml hp2
      go_wp2_with (at_builtin;refine zeb rfl (.tmp 26) (.tmp 27) rfl _ m2 _ rfl hq.2 s rfl ?c4 ?_)
      case c4=>have:=Hml.out;simp only[q8_,zaQ] at this;omega
      intro A3 c3 w3 ho3 hm3;have hb3:=hq.after hm3;obtain⟨hp3,hm3'⟩:=PkR.push hb3 ho3 hm3;have j1:=hb3.cell 1;have j2:=hb3.frozen 1;simp only[q1_,q2_,q3_] at j1;have Hp3:=q0_ hp3;have Hm3:=q0_ hm3';clear hp3 hm3' hb3 ho3 hm3 c1 f1
      go_wp2
      go_end0
      refine⟨rfl,pkF g A3 (m2+s.size) c3,?_⟩;simp only[zkE,if_neg hx,if_true];exact⟨Hp3.out.pk.cast (by simp[zb6]),hm2.trans Hm3.out⟩
  · have he1:(e==0)=false:=by simpa using he
    have he2:(e != 0)=true:=by simpa using he
    have He:=q0_ he;clear he
    by_cases hx:60000<s.size
    all_goals
      go_enter func26,ntmps26;go_wp2_with fail;refine (zeX _ _ _ w c0 he1 he2).mono ?_;rintro r w1 ⟨rfl,rfl⟩
      go_wp2
      refine bodyPost_ret (results_none rfl _ _ _) rfl ⟨rfl,pkF g A1 m1 c1',?_⟩;simp only[zkE,if_neg He.out];exact⟨hp.pk,Mv.refl _ _⟩
theorem zrz(g : Nat)(F : Nat → Prop)(e : Int)(l : List UInt8)(w : World)(h : Pk w g F e l)(hn : l.length ≤ 1099511627776) :
    Calls prog 69 #[.pointer (some ⟨g,0,none⟩)] w fun r w'=>r=.returned (.int .i64 l.length)∧w=w':=by
  obtain⟨A1,m1,c1',hp,rfl⟩:=h.open_;have c1:=hp.c1;have hml:=hp.len;have Hml:=q0_ hml
  have hm1:m1≤1099511627776:=by omega
  clear hml;go_enter func69,ntmps69
  go_wp2
  go_ret;exact⟨zko (by rw[Hml.out]),rfl⟩
theorem zoW(g : Nat)(F : Nat → Prop)(l : List UInt8)(w : World)(h : Pk w g F 0 l) :
    Calls prog 31 #[.pointer (some ⟨g,0,none⟩)] w fun r w'=>r=.returned (.tuple #[.string ⟨l.toArray⟩,.int .i64 0])∧w=w':=by
  obtain⟨A1,m1,c1',hp,rfl⟩:=h.open_;have c0:=hp.c0;have c1:=hp.c1;have hcv:=zdA (P:=prog) 61 9 5 underlying61 underlying5 underlying9 c1' (Rd.of_own hp.2);go_enter func31,ntmps31
  go_wp2
  go_ret2
  exact⟨rfl,rfl⟩
def zal(l:List UInt8):ByteArray:=⟨l.toArray⟩
theorem zam(l:List UInt8):(zal l).size=l.length:=by simp[zal,ByteArray.size]
theorem za8(l:List UInt8):(zal l).data.toList=l:=by simp[zal]
theorem zrU(s:ByteArray):s=zal s.data.toList:=by simp[zal]
theorem zaP(l:List UInt8)(i j:Nat):(zal l).extract i j=zal ((l.take j).drop i):=by
  apply ByteArray.ext
  simp[zal,List.drop_take]
def Up(w:World)(g:Nat)(e:Int)(b:List UInt8):Prop:=Blk w g 149 #[.int .i64 e,.string (zal b)]
theorem zjL(l : List UInt8)(w : World)(h : l.length ≤ 1099511627776) :
    Calls prog 48 #[.string (zal l)] w fun r w'=>r=.returned (.string (zal l))∧Below w.heap.size w w':=by
  have hs:(zal l).size≤281474976710656:=by rw[zam];omega
  have Hs:=q0_ hs;clear hs h;go_enter func48,ntmps48;go_wp2_with fail;refine (Tryz.stringslite_Clone _ _ Hs.out).mono ?_;rintro r w1 ⟨rfl,hb⟩;have Hb:=q0_ hb;clear hb
  go_wp2
  go_ret;exact⟨rfl,Hb.out⟩
theorem zeS(l : List UInt8)(w : World)(h : l.length ≤ 1099511627776) :
    Calls prog 49 #[.string (zal l)] w fun r w'=>∃ g,r=.returned (.pointer (some ⟨g,0,none⟩))∧Up w' g 0 l∧Below w.heap.size w w'∧w.heap.size≤g:=by
  go_enter func49,ntmps49;go_wp2_with fail;refine (zjL l _ h).mono ?_;rintro r w1 ⟨rfl,hb⟩;have Hb:=q0_ hb;clear hb
  go_wp2
  go_ret;exact⟨w1.heap.size,rfl,Blk.new _ _ _,Hb.out.alloc Hb.out.size _,Hb.out.size⟩
def zay(e:Int)(b:List UInt8)(n:Nat):Int×List UInt8×List UInt8:=
  if e=0 then (if b.length<n then (5,b,[]) else (0,b.drop n,b.take n)) else (e,b,[])
theorem Up.setE{w:World}{g:Nat}{e e':Int}{b:List UInt8}(h:Up w g e b):Up (w.setCell ⟨g,0,none⟩ (.int .i64 e')) g e' b∧Fr (fun k=>k=g) w (w.setCell ⟨g,0,none⟩ (.int .i64 e')):=
  ⟨h.set_ 0 _,(Fr.refl (fun k=>k=g) w).setCell (p:=⟨g,0,none⟩) (.inl rfl) _⟩
theorem Up.setB{w:World}{g:Nat}{e:Int}{b b':List UInt8}(h:Up w g e b):Up (w.setCell ⟨g,1,none⟩ (.string (zal b'))) g e b'∧Fr (fun k=>k=g) w (w.setCell ⟨g,1,none⟩ (.string (zal b'))):=
  ⟨h.set_ 1 _,(Fr.refl (fun k=>k=g) w).setCell (p:=⟨g,1,none⟩) (.inl rfl) _⟩
theorem zia(g : Nat)(e : Int)(b : List UInt8)(n : Nat)(w : World)(h : Up w g e b)(hb : b.length ≤ 1099511627776)(hn : n ≤ 1099511627776) :
    Calls prog 97 #[.pointer (some ⟨g,0,none⟩),.int .i64 n] w fun r w'=>r=.returned (.string (zal (zay e b n).2.2))∧Up w' g (zay e b n).1 (zay e b n).2.1∧Fr (fun k=>k=g) w w':=by
  have c0:=h.cell 0;have c1:=h.cell 1;have f0:=h.frozen 0;have f1:=h.frozen 1;simp only[q1_,q2_,q3_] at c0 c1;have hsz:=zam b
  by_cases he:e=0
  · subst he
    by_cases hl:b.length<n
    · have hl':(zal b).size<n:=by omega
      have Hz:=q0_ hsz;clear hsz;go_enter func97,ntmps97;go_wp2_with fail;refine (zbY _ _ w c0 f0).mono ?_;rintro r w1 ⟨rfl,rfl⟩
      go_wp2
      go_ret;simp only[zay,if_true,if_pos hl];exact⟨rfl,h.setE⟩
    · have hl':n≤(zal b).size:=by omega
      have hb':(zal b).size≤1099511627776:=by omega
      have Hz:=q0_ hsz;clear hsz;go_enter func97,ntmps97
      go_wp2
      go_ret;simp only[zay,if_true,if_neg hl]
      have e1:(zal b).extract 0 n=zal (b.take n):=by rw[zaP];simp
      have e2:(zal b).extract n (zal b).size=zal (b.drop n):=by rw[zaP,List.take_of_length_le (by rw[Hz.out];exact Nat.le_refl _)]
      rw[e1,e2];exact⟨rfl,h.setB⟩
  · have he1:(e==0)=false:=by simpa using he
    have he2:(e != 0)=true:=by simpa using he
    have He:=q0_ he;clear he hsz;go_enter func97,ntmps97
    go_wp2
    go_ret;simp only[zay,if_neg He.out];exact⟨rfl,h,Fr.refl _ _⟩
theorem zi_(g : Nat)(e : Int)(b : List UInt8)(n : Int)(w : World)(h : Up w g e b)(hb : b.length ≤ 1099511627776)(h0 : 0 ≤ n)(hn : n ≤ 1099511627776) :
    Calls prog 97 #[.pointer (some ⟨g,0,none⟩),.int .i64 n] w fun r w'=>r=.returned (.string (zal (zay e b n.toNat).2.2))∧Up w' g (zay e b n.toNat).1 (zay e b n.toNat).2.1∧Fr (fun k=>k=g) w w':=by
  obtain⟨m,rfl⟩:=Int.eq_ofNat_of_zero_le h0;exact zia g e b m w h hb (by omega)
def zbE:List UInt8→Nat
  | []=>0
  | b::t=>b.toNat+256*zbE t
theorem zkI(x k:Nat):zbE (le x k)=x%256 ^ k:=by
  induction k generalizing x with
  | zero=>simp[le,zbE,Nat.mod_one]
  | succ k ih=>
    rw[le,zbE,ih,Nat.pow_succ,Nat.mul_comm (256 ^ k) 256,Nat.mod_mul];simp
theorem zdN(l:List UInt8):zbE l<256 ^ l.length:=by
  induction l with
  | nil=>simp[zbE]
  | cons b t ih=>
    have:=b.toNat_lt;rw[zbE,List.length_cons,Nat.pow_succ];omega
theorem zor(l:List UInt8)(b:UInt8):zbE (l++[b])=zbE l+b.toNat*256 ^ l.length:=by
  induction l with
  | nil=>simp[zbE]
  | cons c t ih=>
    rw[List.cons_append,zbE,ih,zbE,List.length_cons,Nat.pow_succ,Nat.mul_add,Nat.mul_comm (256 ^ t.length) 256];rw[Nat.mul_left_comm,Nat.add_assoc]
theorem zrs{k v x:Nat}(hk:k<8)(hv:v<256 ^ k)(hx:x<256):bits .or .u64 (v:Int) (IntKind.u64.wrap ((x:Int)*2 ^ (8*k)))=((v+x*256 ^ k:Nat):Int):=by
  have e1:((x:Int)*2 ^ (8*k))=((x*256 ^ k:Nat):Int):=by
    rw[zje];simp
  have h1:256 ^ (k+1)≤256 ^ 8:=Nat.pow_le_pow_right (by decide) (by omega)
  have h2:(256:Nat) ^ 8=18446744073709551616:=by decide
  have h3:(x+1)*256 ^ k≤256*256 ^ k:=Nat.mul_le_mul_right _ (by omega)
  have h4:256*256 ^ k=256 ^ (k+1):=by rw[Nat.pow_succ,Nat.mul_comm]
  have h5:(x+1)*256 ^ k=x*256 ^ k+256 ^ k:=by rw[Nat.add_mul,Nat.one_mul]
  have h6:x*256 ^ k<18446744073709551616:=by omega
  rw[e1,IntKind.wrap_u64,show (((x*256 ^ k:Nat):Int)%18446744073709551616)=((x*256 ^ k:Nat):Int) by omega,u64_or_nat _ _ (by omega) h6]
  congr 1
  have e2:x*256 ^ k=2 ^ (8*k)*x:=by rw[Nat.pow_mul,Nat.mul_comm]
  rw[e2,Nat.or_comm, ← Nat.two_pow_add_eq_or_of_lt (by rw[Nat.pow_mul];exact hv) x,Nat.add_comm]
theorem zir(b : List UInt8)(w : World)(hb : b.length ≤ 8) :
    Calls prog 96 #[.string (zal b)] w fun r w'=>r=.returned (.int .u64 (zbE b))∧Below w.heap.size w w':=by
  obtain⟨c,w1,hcv,hfr,hrd⟩:=zi0 (P:=prog) (w:=w) 9 61 5 underlying9 underlying61 underlying5 (zal b);rw[za8] at hrd;have hz:=zam b
  generalize hn:(zal b).size=n at*
  have Hn:=q0_ hn;have Hz:=q0_ hz
  have hn8:n≤8:=by omega
  clear hn hz;go_enter func96,ntmps96
  go_wp2
  go_loop [3,9] (fun v i=>∃ k:Nat,k≤n∧i=.int .i64 k∧v=.int .u64 (zbE (b.take k))) (fun _ i=>n-(intOf i).toNat)
  case atStart=>exact⟨0,Nat.zero_le _,rfl,rfl⟩
  case round=>
    obtain⟨k,hk,rfl,rfl⟩:=hrel
    by_cases hlt:k<n
    · obtain⟨ad,x,hA,hu,hc⟩:=hrd.at_map hlt
      injection hA with hA
      subst hA;have Hu:=q0_ hu;have hx:=x.toNat_lt;clear hu;rw[zdZ,Nat.zero_add] at hc;have hvl:=zdN (b.take k)
      generalize hv:zbE (b.take k)=v at*
      have Hv:=q0_ hv;have Hvl:=q0_ hvl;clear hv hvl
      go_wp2
      go_round
      case rel=>exact⟨k+1,by omega,by go_num,by rw[zrs (by omega) (by have:=Hvl.out;rwa[List.length_take,Nat.min_eq_left (by have:=Hn.out;have:=Hz.out;omega)] at this) hx,zan Hu.out,zor,Hv.out,List.length_take,Nat.min_eq_left (by have:=Hn.out;have:=Hz.out;omega)]⟩
      case measure=>simp[intOf];omega
    · go_wp2
      go_ret;rw[List.take_of_length_le (by have:=Hn.out;have:=Hz.out;omega)];exact⟨rfl,hfr.below q4_⟩
theorem zrV(g : Nat)(e : Int)(b : List UInt8)(w : World)(h : Up w g e b) :
    Calls prog 100 #[.pointer (some ⟨g,0,none⟩)] w fun r w'=>r=.returned (.int .i64 e)∧w=w':=by
  have c0:=h.cell 0;simp only[q1_,q2_,q3_] at c0;go_enter func100,ntmps100
  go_wp2
  go_ret;exact⟨rfl,rfl⟩
theorem zly(g : Nat)(e : Int)(b : List UInt8)(w : World)(h : Up w g e b) :
    Calls prog 56 #[.pointer (some ⟨g,0,none⟩)] w fun r w'=>r=.returned (.int .i64 b.length)∧w=w':=by
  have c1:=h.cell 1;simp only[q1_,q2_,q3_] at c1;have hz:=q0_ (zam b);go_enter func56,ntmps56
  go_wp2
  go_ret;exact⟨zko (by rw[hz.out]),rfl⟩
theorem zcc(e:Int)(b:List UInt8)(n:Nat):(zay e b n).2.2.length≤n:=by
  unfold zay
  split
  · split<;>simp<;>omega
  · simp
theorem zh3(g : Nat)(e : Int)(b : List UInt8)(w : World)(h : Up w g e b)(hb : b.length ≤ 1099511627776) :
    Calls prog 98 #[.pointer (some ⟨g,0,none⟩)] w fun r w'=>r=.returned (.int .u64 (zbE (zay e b 8).2.2))∧Up w' g (zay e b 8).1 (zay e b 8).2.1∧Fr (fun k=>k=g) w w':=by
  have hl:=zcc e b 8;have hc:=zi_ g e b 8 w h hb (by omega) (by omega);rw[show Int.toNat 8=8 from rfl] at hc
  generalize zay e b 8=t at*
  have Hl:=q0_ hl;have Hc:=q0_ hc;clear hl hc h;go_enter func98,ntmps98;go_wp2_with fail;refine Hc.out.mono ?_;rintro r w1 ⟨rfl,hu,hf⟩;go_wp2_with fail;refine (zir t.2.2 w1 Hl.out).mono ?_;rintro r w2 ⟨rfl,hb2⟩;have Hb2:=q0_ hb2;clear hb2
  go_wp2
  go_ret;exact⟨rfl,Blk.fr hu (Fr.of_below Hb2.out (F:=fun _=>False)) (fun h=>h),hf.trans (Fr.of_below Hb2.out (F:=fun _=>False)) q4_⟩
def sgn(n:Nat):Int:=if n<9223372036854775808 then n else (n:Int)-18446744073709551616
theorem zpD(n:Nat)(h:n<18446744073709551616):IntKind.i64.wrap (n:Int)=sgn n:=by
  rw[IntKind.wrap_i64];unfold sgn
  split<;>omega
theorem zkR(g : Nat)(e : Int)(b : List UInt8)(w : World)(h : Up w g e b)(hb : b.length ≤ 1099511627776) :
    Calls prog 99 #[.pointer (some ⟨g,0,none⟩)] w fun r w'=>r=.returned (.int .i64 (sgn (zbE (zay e b 8).2.2)))∧Up w' g (zay e b 8).1 (zay e b 8).2.1∧Fr (fun k=>k=g) w w':=by
  have hl:=zcc e b 8;have hc:=zh3 g e b w h hb
  generalize zay e b 8=t at*
  have hv:=zdN t.2.2;have hp:=Nat.pow_le_pow_right (show 256>0 by decide) hl
  have hv2 : zbE t.2.2 < 18446744073709551616 := by have : (256 : Nat) ^ 8 = 18446744073709551616 := by decide
                                                    omega
  have Hv:=q0_ hv2;have Hc:=q0_ hc;clear hl hv hp hv2 hc h;go_enter func99,ntmps99;go_wp2_with fail;refine Hc.out.mono ?_;rintro r w1 ⟨rfl,hu,hf⟩
  go_wp2
  go_ret;exact⟨zko ((IntWalk.i64_left _).symm.trans (zpD _ Hv.out)),hu,hf⟩
theorem zln(g : Nat)(e : Int)(b : List UInt8)(w : World)(h : Up w g e b)(hb : b.length ≤ 1099511627776) :
    Calls prog 53 #[.pointer (some ⟨g,0,none⟩)] w fun r w'=>r=.returned (.string (zal (zay e b b.length).2.2))∧Up w' g (zay e b b.length).1 (zay e b b.length).2.1∧Fr (fun k=>k=g) w w':=by
  go_enter func53,ntmps53;go_wp2_with fail;refine (zly g e b w h).mono ?_;rintro r w1 ⟨rfl,rfl⟩;go_wp2_with fail;refine (zia g e b b.length w h hb hb).mono ?_;rintro r w1 ⟨rfl,hu,hf⟩
  go_wp2
  go_ret;exact⟨rfl,hu,hf⟩
theorem Up.c0{w:World}{g:Nat}{e:Int}{b:List UInt8}(h:Up w g e b):w.cell? ⟨g,0,none⟩=some (.int .i64 e):=h.cell 0
theorem Up.c1{w:World}{g:Nat}{e:Int}{b:List UInt8}(h:Up w g e b):w.cell? ⟨g,1,none⟩=some (.string (zal b)):=h.cell 1
theorem Up.fr0{w w':World}{g:Nat}{e:Int}{b:List UInt8}(h:Up w g e b)(hf:Fr (fun _=>False) w w'):Up w' g e b:=Blk.fr h hf (fun h=>h)
def zb2(size:Int)(e:Int)(b:List UInt8):Int×List UInt8×Nat:=
  if e=0 then (if za7 size 0=true then ((zay 0 b size.toNat).1,(zay 0 b size.toNat).2.1,zbE (zay 0 b size.toNat).2.2) else (1,b,0)) else (e,b,0)
theorem zl3(g : Nat)(e size : Int)(b : List UInt8)(w : World)(h : Up w g e b)(he1 : (e == 0) = false)(he2 : (e != 0) = true) :
    Calls prog 50 #[.pointer (some ⟨g,0,none⟩),.int .i64 size] w fun r w'=>r=.returned (.int .i64 0)∧∃ m,w'=w.drewN m:=by
  have c0:=h.c0;go_enter func50,ntmps50
  go_wp2
  go_quiet ((first | (go_at_call 72;exact zbk (zeV _ _ _)) | (go_at_call 70;exact zbk (zeX _ _ _ _ c0 he1 he2))))
  go_wp2
  go_ret;exact⟨rfl,nq,rfl⟩
theorem zkc(g : Nat)(size : Int)(b : List UInt8)(w : World)(h : Up w g 0 b)(hs : za7 size 0 = false) :
    Calls prog 50 #[.pointer (some ⟨g,0,none⟩),.int .i64 size] w fun r w'=>r=.returned (.int .i64 0)∧Up w' g 1 b∧Fr (fun k=>k=g) w w':=by
  have c0:=h.c0;have f0:=h.frozen 0;go_enter func50,ntmps50
  go_wp2
  go_still_tail 8,(by kernel_rfl)
  still_call (zc2 (zlI _ _ _ hs))
  repeat still_step
  refine wpStill_nil ?_;change wpList _ _ _ _ _ w.drew;go_wp2_with fail;refine (zbY _ _ w.drew c0 f0).mono ?_;rintro r w1 ⟨rfl,rfl⟩
  go_wp2
  go_ret;have h1:Up w.drew g 0 b:=h;exact⟨rfl,h1.setE.1,((Fr.refl _ w).drew).trans h1.setE.2 (fun _ h=>.inl h)⟩
theorem zrK{size x:Int}(h:za7 size x=true):1≤size∧size≤7∧0≤x∧x<256 ^ size.toNat:=of_decide_eq_true h
theorem zqa{l:List UInt8}{k:Nat}(h:l.length≤k)(hk:k≤7):zbE l<72057594037927936:=by
  have h1:=zdN l;have h2:=Nat.pow_le_pow_right (show 256>0 by decide) (Nat.le_trans h hk)
  have h3:(256:Nat) ^ 7=72057594037927936:=by decide
  omega
theorem znu(g : Nat)(size : Int)(b : List UInt8)(w : World)(h : Up w g 0 b)(hs : za7 size 0 = true)(hb : b.length ≤ 1099511627776) :
    Calls prog 50 #[.pointer (some ⟨g,0,none⟩),.int .i64 size] w fun r w'=>r=.returned (.int .i64 (zbE (zay 0 b size.toNat).2.2))∧Up w' g (zay 0 b size.toNat).1 (zay 0 b size.toNat).2.1∧Fr (fun k=>k=g) w w':=by
  have c0:=h.c0;have f0:=h.frozen 0;have Hs:=q0_ hs;obtain⟨s1,s7,_,_⟩:=zrK hs;have hl:=zcc 0 b size.toNat
  have hc:∀ w,Up w g 0 b→Calls prog 97 #[.pointer (some ⟨g,0,none⟩),.int .i64 size] w fun r w'=>r=.returned (.string (zal (zay 0 b size.toNat).2.2))∧Up w' g (zay 0 b size.toNat).1 (zay 0 b size.toNat).2.1∧Fr (fun k=>k=g) w w':=
    fun w hw=>zi_ g 0 b size w hw hb (by omega) (by omega)
  generalize zay 0 b size.toNat=t at*
  have hv:=zqa hl (by omega);have Hc:=q0_ hc;have Hl:=q0_ hl;clear hc hl hs;go_enter func50,ntmps50
  go_wp2
  go_quiet ((first | (go_at_call 72;exact zbk (ziA _ _ _ Hs.out)) | (go_at_call 70;exact zbk (zdT _ _ _ c0 f0))))
  go_wp2_with fail;refine (Hc.out _ (h.fr0 (Fr.none_drewN w nq))).mono ?_;rintro r w1 ⟨rfl,hu,hf⟩;have Hf:=q0_ (((Fr.refl (fun k=>k=g) w).drewN nq).trans hf (fun _ h=>.inl h));clear hf c0 f0;go_wp2_with fail;refine (zir t.2.2 w1 (by have:=Hl.out;omega)).mono ?_;rintro r w2 ⟨rfl,hb2⟩;have Hb2:=q0_ hb2;clear hb2
  go_wp2
  go_ret;exact⟨rfl,hu.fr0 (Fr.of_below Hb2.out),Hf.out.trans (Fr.of_below Hb2.out (F:=fun _=>False)) q4_⟩
theorem zhi(g : Nat)(e size : Int)(b : List UInt8)(w : World)(h : Up w g e b)(hb : b.length ≤ 1099511627776) :
    Calls prog 50 #[.pointer (some ⟨g,0,none⟩),.int .i64 size] w fun r w'=>r=.returned (.int .i64 (zb2 size e b).2.2)∧Up w' g (zb2 size e b).1 (zb2 size e b).2.1∧Fr (fun k=>k=g) w w':=by
  by_cases he:e=0
  · subst he
    by_cases hs:za7 size 0=true
    · simpa[zb2,hs] using znu g size b w h hs hb
    · simpa[zb2,hs] using zkc g size b w h (by simpa using hs)
  · refine (zl3 g e size b w h (by simpa using he) (by simpa using he)).mono fun r w' ⟨h1,m,h2⟩=>?_
    subst h2;simp only[zb2,if_neg he];exact⟨h1,h.fr0 (Fr.none_drewN w m),(Fr.refl _ w).drewN m⟩
def zrY(l:List UInt8):Bool:=l.all (· ==0)
def zjn(t:List UInt8):Bool:=decide ((t.headD 0).toNat≤15)&&zrY (t.drop (1+(t.headD 0).toNat))
def ze9(e:Int)(b:List UInt8):Int×List UInt8×List UInt8:=
  if (zay e b 16).2.2=[] then ((zay e b 16).1,(zay e b 16).2.1,[])
  else if zjn (zay e b 16).2.2=true then ((zay e b 16).1,(zay e b 16).2.1,((zay e b 16).2.2.drop 1).take ((zay e b 16).2.2.headD 0).toNat)
  else (6,(zay e b 16).2.1,[])
theorem zeY{l:List UInt8}:l.dropWhile (· ==0)=[]↔l.all (· ==0)=true:=by
  induction l with
  | nil=>simp
  | cons a t ih=>by_cases h:a=0<;>simp[List.dropWhile_cons,h,ih]
theorem znC(l:List UInt8):(Lib.trimB l 0=[])↔l.all (· ==0)=true:=by
  unfold Lib.trimB Lib.trimLeftB Lib.trimRightB;rw[zeY,List.all_reverse]
  constructor
  · intro h
    by_cases hl:l.reverse.dropWhile (· ==0)=[]
    · rw[zeY,List.all_reverse] at hl
      exact hl
    · have:=List.head_dropWhile_not (p:=(· ==(0:UInt8))) hl
      have h2:=List.all_eq_true.1 h _ (List.head_mem hl);rw[h2] at this
      cases this
  · intro h
    apply List.all_eq_true.2
    intro x hx;exact List.all_eq_true.1 h x (List.mem_reverse.1 ((List.dropWhile_sublist _).mem hx))
theorem zlb(l : List UInt8)(w : World)(h : l.length ≤ 1099511627776) :
    Calls prog 170 #[.string (zal l),.string ⟨#[0]⟩] w fun r w'=>∃ z:ByteArray,r=.returned (.string z)∧z.toList.isEmpty=zrY l∧Fr (fun _=>False) w w':=by
  refine (Tryz.strings_Trim_one (zal l) 0 (by decide) w (by rw[zam];omega)).mono ?_;rintro r w' ⟨rfl,hw⟩;refine⟨_,rfl,?_,?_⟩
  · rw[ByteArray.toList_mk,za8,Bool.eq_iff_iff,List.isEmpty_iff,znC];rfl
  · rcases hw with rfl | rfl
    · exact Fr.refl _ _
    · exact (Fr.refl _ _).drew
theorem zqg(g : Nat)(e : Int)(b : List UInt8)(w : World)(h : Up w g e b)(hb : b.length ≤ 1099511627776) :
    Calls prog 140 #[.pointer (some ⟨g,0,none⟩)] w fun r w'=>r=.returned (.string (zal (ze9 e b).2.2))∧Up w' g (ze9 e b).1 (ze9 e b).2.1∧Fr (fun k=>k=g) w w':=by
  have hc:=zi_ g e b 16 w h hb (by omega) (by omega);rw[show Int.toNat 16=16 from rfl] at hc
  have h16:(zay e b 16).2.2=[]∨((zay e b 16).2.2.length=16∧(zay e b 16).1=0):=by
    unfold zay
    split
    · split
      · exact .inl rfl
      · right;simp;omega
    · exact .inl rfl
  unfold ze9
  generalize zay e b 16=t at*
  have Hc:=q0_ hc;clear hc h
  rcases h16 with h16 | ⟨h16,hz⟩
  · rw[if_pos h16]
    rw[h16] at Hc
    have he:(zal []).toList=[]:=by rw[Lib.toList_data,za8]
    go_enter func140,ntmps140;go_wp2_with fail;refine Hc.out.mono ?_;rintro r w1 ⟨rfl,hu,hf⟩
    go_wp2
    go_ret;exact⟨rfl,hu,hf⟩
  · have hne:t.2.2≠[]:=by intro h;rw[h] at h16;cases h16
    rw[if_neg hne];obtain⟨e',b',l⟩:=t;simp only at h16 hz hne Hc ⊢;subst hz;obtain⟨c,tl,rfl⟩:∃ c tl,l=c::tl:=List.exists_cons_of_ne_nil hne
    have hrest:∀ n,n≤15→(zal (c::tl)).extract (1+n) 16=zal (tl.drop n):=by
      intro n hn;rw[zaP, ← h16,List.take_length,Nat.add_comm,List.drop_succ_cons]
    have hres:∀ n,n≤15→(zal (c::tl)).extract 1 (1+n)=zal (tl.take n):=by
      intro n hn;rw[zaP,Nat.add_comm,List.take_succ_cons,List.drop_succ_cons,List.drop_zero]
    have hidx:∀ h:0<(zal (c::tl)).size,(zal (c::tl))[0]'h=c:=by intro h;rfl
    have hemp:(zal (c::tl)).toList.isEmpty=false:=by rw[Lib.toList_data,za8];rfl
    have hsz:(zal (c::tl)).size=16:=by rw[zam];exact h16
    have hcb:=c.toNat_lt
    generalize zal (c::tl)=s at*
    have Hrest:=q0_ hrest;have Hres:=q0_ hres;have H16:=q0_ h16;clear hrest hres h16 hne
    have hok:zjn (c::tl)=(decide (c.toNat≤15)&&zrY (tl.drop c.toNat)):=by
      simp only[zjn,List.headD_cons,Nat.add_comm 1,List.drop_succ_cons]
      rfl
    rw[hok];clear hok;simp only[List.headD_cons,List.drop_succ_cons,List.drop_zero]
    by_cases hn:15<c.toNat
    · rw[if_neg (by simp;omega)]
      go_enter func140,ntmps140;go_wp2_with fail;refine Hc.out.mono ?_;rintro r w1 ⟨rfl,hu,hf⟩;go_wp2_with fail;refine (zbY _ _ w1 hu.c0 (hu.frozen 0)).mono ?_;rintro r w2 ⟨rfl,rfl⟩
      go_wp2
      go_ret;exact⟨rfl,hu.setE.1,hf.trans hu.setE.2 (fun _ h=>.inl h)⟩
    · have hn':c.toNat≤15:=by omega
      have Htl:=q0_ (show (tl.drop c.toNat).length≤1099511627776 by have:=H16.out;simp only[List.length_cons] at this;rw[List.length_drop];omega)
      by_cases ha:zrY (tl.drop c.toNat)=true
      · rw[if_pos (by simp[hn',ha])]
        have Ha:=q0_ ha;clear ha;go_enter func140,ntmps140;go_wp2_with fail;refine Hc.out.mono ?_;rintro r w1 ⟨rfl,hu,hf⟩;go_wp2_with fail;rw[Hrest.out _ hn'];refine (zlb (tl.drop c.toNat) w1 Htl.out).mono ?_;rintro r w2 ⟨z,rfl,hz,hb2⟩;rw[Ha.out] at hz;have Hb2:=q0_ hb2;clear hb2
        go_wp2
        go_ret;refine⟨?_,hu.fr0 Hb2.out,hf.trans Hb2.out q4_⟩;rw[← Hres.out _ hn']
        rfl
      · have ha':zrY (tl.drop c.toNat)=false:=by simpa using ha
        rw[if_neg (by simp[ha'])];have Ha:=q0_ ha';clear ha ha';go_enter func140,ntmps140;go_wp2_with fail;refine Hc.out.mono ?_;rintro r w1 ⟨rfl,hu,hf⟩;go_wp2_with fail;rw[Hrest.out _ hn'];refine (zlb (tl.drop c.toNat) w1 Htl.out).mono ?_;rintro r w2 ⟨z,rfl,hz,hb2⟩;rw[Ha.out] at hz;have hu2:=hu.fr0 hb2;have Hb2:=q0_ hb2;clear hb2;go_wp2_with fail;refine (zbY _ _ w2 hu2.c0 (hu2.frozen 0)).mono ?_;rintro r w3 ⟨rfl,rfl⟩
        go_wp2
        go_ret;exact⟨rfl,hu2.setE.1,(hf.trans Hb2.out q4_).trans hu2.setE.2 (fun _ h=>.inl h)⟩
def zeg(e:Int)(b:List UInt8):Int×List UInt8×List UInt8:=
  if e=0 then (if b.length<2 then (5,b,[]) else if b.length-2<zbE (b.take 2) then (5,b,[]) else (0,b.drop (2+zbE (b.take 2)),(b.drop 2).take (zbE (b.take 2)))) else (e,b,[])
def zpB(g:Nat)(b:List UInt8)(w w':World):Prop:=Up w' g 0 b∧Fr (fun _=>False) w w'
theorem zpB.start{g:Nat}{b:List UInt8}{w:World}(h:Up w g 0 b):zpB g b w w.drew:=⟨h,(Fr.refl _ w).drew⟩
theorem zsu{g : Nat}{b : List UInt8}{w : World}(l : List UInt8)(w' : World)(hl : l.length ≤ 8)(h : w'.cell? ⟨g, 1, none⟩ = some (.string (zal b)) ∧ zpB g b w w') :
    Calls prog 96 #[.string (zal l)] w' fun r w''=>r=.returned (.int .u64 (zbE l))∧(w''.cell? ⟨g,1,none⟩=some (.string (zal b))∧zpB g b w w''):=
  (zir l w' hl).mono fun _ _ ⟨h1,h2⟩=>⟨h1,(h.2.1.fr0 (Fr.of_below h2)).c1,h.2.1.fr0 (Fr.of_below h2),h.2.2.trans (Fr.of_below h2 (F:=fun _=>False)) (fun _ h=>.inl h)⟩
theorem znt(g : Nat)(e : Int)(b : List UInt8)(w : World)(h : Up w g e b)(hb : b.length ≤ 1099511627776) :
    Calls prog 52 #[.pointer (some ⟨g,0,none⟩)] w fun r w'=>r=.returned (.string (zal (zeg e b).2.2))∧Up w' g (zeg e b).1 (zeg e b).2.1∧Fr (fun k=>k=g) w w':=by
  have c0:=h.c0;have c1:=h.c1;have f0:=h.frozen 0
  by_cases he:e=0
  · subst he
    unfold zeg;rw[if_pos rfl];have hz:=zam b
    have hsz:(zal b).size≤1099511627776:=by omega
    by_cases h2:b.length<2
    · rw[if_pos h2]
      have h2':((zal b).size:Int)<2:=by omega
      have hd:decide (((zal b).size:Int)<2)=true:=by simpa using h2'
      clear hz h2;go_enter func52,ntmps52
      go_wp2
      go_quiet (fail)
      go_wp2_with fail;refine (zbY _ _ (w.drewN nq) c0 f0).mono ?_;rintro r w2 ⟨rfl,rfl⟩
      go_wp2
      go_ret;have h3:Up (w.drewN nq) g 0 b:=h;exact⟨rfl,h3.setE.1,((Fr.refl _ w).drewN nq).trans h3.setE.2 (fun _ h=>.inl h)⟩
    · rw[if_neg h2]
      have h2':2≤(zal b).size:=by omega
      have hd:decide (((zal b).size:Int)<2)=false:=by simp;omega
      have e1:(zal b).extract 0 2=zal (b.take 2):=by rw[zaP];simp
      have hl2:(b.take 2).length=2:=by rw[List.length_take];omega
      have hv:=zdN (b.take 2);rw[hl2] at hv
      have hv2 : zbE (b.take 2) < 65536 := by have : (256 : Nat) ^ 2 = 65536 := by decide
                                              omega
      have h2i:(2:Int)≤((zal b).size:Int):=by omega
      have hhigh:∀ (w w':World),(w'.cell? ⟨g,1,none⟩=some (.string (zal b))∧zpB g b w w')→Calls prog 96 #[.string ((zal b).extract 0 2)] w' fun r w''=>r=.returned (.int .u64 (zbE (b.take 2)))∧(w''.cell? ⟨g,1,none⟩=some (.string (zal b))∧zpB g b w w''):=by
        intro w w' hi;rw[e1];exact zsu (b.take 2) w' (by omega) hi
      have Hh:=q0_ hhigh
      have hsm:zb2 2 0 b=(0,b.drop 2,zbE (b.take 2)):=by
        simp only[zb2,if_true,if_pos (show za7 2 0=true by decide),show Int.toNat 2=2 from rfl,zay,if_neg h2]
      have Hsm:=q0_ hsm;have Hz:=q0_ hz;have Hhb:=q0_ hb;clear e1 hl2 h2 hv hhigh hsm
      by_cases hlt:b.length-2<zbE (b.take 2)
      · rw[if_pos hlt]
        generalize zbE (b.take 2)=v at*
        have hlt':((zal b).size:Int)-2<(v:Int):=by omega
        have hw1:IntKind.i64.wrap (((zal b).size:Int)-2)=((zal b).size:Int)-2:=IntWalk.i64_in _ (by omega);have hw2:IntKind.i64.wrap (v:Int)=v:=IntWalk.i64_in _ (by omega);clear hlt hz hb;go_enter func52,ntmps52
        go_wp2
        go_region_held3 (fun w'=>w'.cell? ⟨g,1,none⟩=some (.string (zal b))∧zpB g b w w') (first | exact⟨c1,zpB.start h⟩ | assumption) (first | (go_at_call 96;refine (Hh.out w _ (by assumption)).mono ?_;rintro r w1 ⟨rfl,hb1⟩))
        have Hw:=q0_ hb1.2;clear hb1 hw1 hw2 c1 c0 f0;go_wp2_with fail;refine (zbY _ _ w1 Hw.out.1.c0 (Hw.out.1.frozen 0)).mono ?_;rintro r w4 ⟨rfl,rfl⟩
        go_wp2
        go_ret;exact⟨rfl,Hw.out.1.setE.1,(Hw.out.2.mono (G:=fun k=>k=g) q4_).trans Hw.out.1.setE.2 (fun _ h=>.inl h)⟩
      · rw[if_neg hlt]
        generalize hv3:zbE (b.take 2)=v at*
        have hlt':(v:Int)≤((zal b).size:Int)-2:=by omega
        have Hlt:=q0_ hlt;have Hv:=q0_ hv3;have hw1:IntKind.i64.wrap (((zal b).size:Int)-2)=((zal b).size:Int)-2:=IntWalk.i64_in _ (by omega);have hw2:IntKind.i64.wrap (v:Int)=v:=IntWalk.i64_in _ (by omega);clear hlt hz hb hv3;go_enter func52,ntmps52
        go_wp2
        go_region_held3 (fun w'=>w'.cell? ⟨g,1,none⟩=some (.string (zal b))∧zpB g b w w') (first | exact⟨c1,zpB.start h⟩ | assumption) (first | (go_at_call 96;refine (Hh.out w _ (by assumption)).mono ?_;rintro r w1 ⟨rfl,hb1⟩))
        have Hw:=q0_ hb1.2;clear hb1 hw1 hw2 c1 c0 f0;go_wp2_with fail;refine (zhi g 0 2 b w1 Hw.out.1 Hhb.out).mono ?_;rw[Hsm.out];rintro r w4 ⟨rfl,hu4,hf4⟩;have Hf4:=q0_ hf4;clear hf4;go_wp2_with fail;refine (zia g 0 (b.drop 2) v w4 hu4 (by have:=Hhb.out;rw[List.length_drop];omega) (by omega)).mono ?_;rw[show zay 0 (b.drop 2) v=(0,(b.drop 2).drop v,(b.drop 2).take v) by simp only[zay,if_true];rw[if_neg];have:=Hlt.out;rw[List.length_drop];exact this];rintro r w5 ⟨rfl,hu5,hf5⟩;have Hf5:=q0_ hf5;clear hf5
        go_wp2
        go_ret;rw[List.drop_drop] at hu5;exact⟨rfl,hu5,((Hw.out.2.mono (G:=fun k=>k=g) q4_).trans Hf4.out (fun _ h=>.inl h)).trans Hf5.out (fun _ h=>.inl h)⟩
  · have he1:(e==0)=false:=by simpa using he
    have he2:(e != 0)=true:=by simpa using he
    unfold zeg;rw[if_neg he];clear he;go_enter func52,ntmps52
    go_wp2
    go_ret;exact⟨rfl,h,Fr.refl _ _⟩
theorem zoX(g : Nat)(F : Nat → Prop)(l : List UInt8)(s : ByteArray)(w : World)(h : Pk w g F 0 l)(hs : zal l = s) :
    Calls prog 31 #[.pointer (some ⟨g,0,none⟩)] w fun r w'=>r=.returned (.tuple #[.string s,.int .i64 0])∧w=w':=by
  subst hs;exact zoW g F l w h
theorem Pk.new(w:World):Pk (w.alloc (.cells #[.int .i64 0,.slice none 0 0] 63)) w.heap.size (pkF w.heap.size none 0 0) 0 []∧∀ k,pkF w.heap.size none 0 0 k→w.heap.size≤k:=by
  refine⟨⟨none,0,0,Blk.new _ _ _,World.ownsRow_nil _ _ _ _,rfl⟩,?_⟩;rintro k (rfl | hk)
  · exact Nat.le_refl _
  · cases hk
theorem zgd{a t:List UInt8}{n:Nat}(h:a.length=n):zay 0 (a++t) n=(0,t,a):=by
  subst h;unfold zay;rw[if_pos rfl,if_neg (by simp),List.drop_left,List.take_left]
theorem zr7(x:Int):u64 x<18446744073709551616:=by unfold u64;omega
theorem zsE:(256:Nat) ^ 8=18446744073709551616:=by decide
theorem zlt(x:Nat)(h:x<18446744073709551616):zbE (le x 8)=x:=by rw[zkI,zsE,Nat.mod_eq_of_lt h]
theorem zrf{x:Int}(h0: -9223372036854775808≤x)(h1:x≤9223372036854775807):sgn (u64 x)=x:=by
  unfold sgn u64
  split<;>omega
theorem zim(x:Int)(t:List Int):le8 (x::t)=le (u64 x) 8++le8 t:=by simp[le8]
theorem zqN(n:Nat):zrY (List.replicate n 0)=true:=by simp[zrY]
theorem zmK{s:ByteArray}(h:s.size≤15)(t:List UInt8):ze9 0 (ze_ s++t)=(0,t,s.data.toList):=by
  have hb:(UInt8.ofNat s.size).toNat=s.size:=by simp;omega
  have hd:(ze_ s).headD 0=UInt8.ofNat s.size:=rfl;have h1:(ze_ s).drop 1=s.data.toList++List.replicate (15-s.size) 0:=rfl
  have h2:(ze_ s).drop (1+s.size)=List.replicate (15-s.size) 0:=by
    rw[← List.drop_drop,h1];rw[List.drop_append_of_le_length (by rw[zbj];exact Nat.le_refl _),List.drop_of_length_le (by rw[zbj];exact Nat.le_refl _),List.nil_append]
  unfold ze9;rw[zgd (zdO s h)];rw[if_neg (by simp[ze_])]
  have hok:zjn (ze_ s)=true:=by
    unfold zjn;rw[hd,hb,h2,zqN];simp[h]
  rw[if_pos hok];simp only[hd,hb,h1];rw[List.take_append_of_le_length (by rw[zbj];exact Nat.le_refl _),List.take_of_length_le (by rw[zbj];exact Nat.le_refl _)]
theorem zm_{s:ByteArray}(h:s.size≤60000)(t:List UInt8):zeg 0 (zb6 s++t)=(0,t,s.data.toList):=by
  have hl:(le s.size 2).length=2:=zaQ _ _
  have e0:zb6 s++t=le s.size 2++(s.data.toList++t):=by simp[zb6]
  have e1:(zb6 s++t).take 2=le s.size 2:=by rw[e0,List.take_append_of_le_length (by omega),List.take_of_length_le (by omega)]
  have e2:(zb6 s++t).drop 2=s.data.toList++t:=by rw[e0,List.drop_append_of_le_length (by omega),List.drop_of_length_le (by omega),List.nil_append]
  have e3:zbE (le s.size 2)=s.size:=by
    rw[zkI,show (256:Nat) ^ 2=65536 by decide,Nat.mod_eq_of_lt (by omega)]
  unfold zeg;rw[if_pos rfl,e1,e3,if_neg (by rw[e0,q8_,hl];omega),if_neg (by rw[e0];simp only[q8_,hl,zbj];omega)];rw[e2, ← List.drop_drop,e2];rw[List.take_append_of_le_length (by rw[zbj];exact Nat.le_refl _),List.take_of_length_le (by rw[zbj];exact Nat.le_refl _)];rw[List.drop_append_of_le_length (by rw[zbj];exact Nat.le_refl _),List.drop_of_length_le (by rw[zbj];exact Nat.le_refl _),List.nil_append]
def Tab(w:World):Prop:=Lib.TabIs prog w "internal/strconv.uint64pow10" .u64 Lib.pow10Tab
theorem Tab.below{w w':World}(h:Tab w)(hb:Below w.heap.size w w'):Tab w':=znQ h hb
theorem zm3(n : Int)(h0 : -9223372036854775808 ≤ n)(h1 : n ≤ 9223372036854775807)(w : World)(ht : Tab w) :
    Calls prog 110 #[.int .i64 n] w fun r w'=>r=.returned (.string (zal (Lib.itoa n)))∧Below w.heap.size w w':=by
  have hc:=Tryz.strconv_Itoa n h0 h1 w ht
  have hc':Calls prog 146 #[.int .i64 n] w fun r w'=>r=.returned (.string (zal (Lib.itoa n)))∧Below w.heap.size w w':=
    hc.mono fun r w' ⟨e,k,os,hw⟩=>⟨e,by rw[hw];exact Lib.below_grow _ _ (Nat.le_refl _) _ _⟩
  have Hc:=q0_ hc';clear hc hc' h0 h1 ht;go_enter func110,ntmps110;go_wp2_with fail;refine Hc.out.mono ?_;rintro r w1 ⟨rfl,hb⟩;have Hb:=q0_ hb;clear hb
  go_wp2
  go_ret;exact⟨rfl,Hb.out⟩
def zfQ(l:List UInt8):Int:=l.foldl (fun n c=>10*n+((c.toNat:Int)-48)) 0
def zkQ(c:UInt8):Bool:=decide (48≤c.toNat∧c.toNat≤57)
def zhB(d:List UInt8)(neg:Bool):Bool:=decide (d.length<1∨18<d.length∨((d.headD 0).toNat=48∧(1<d.length∨neg=true)))
def zr3(d:List UInt8)(neg:Bool):Int×Int:=
  if zhB d neg=true then (0,1) else if d.all zkQ=true then ((if neg=true then -(zfQ d) else zfQ d),0) else (0,1)
def zmH(s:List UInt8):Int×Int:=zr3 (Lib.trimPrefix s [45]) (Lib.hasPrefix s [45])
theorem zk0(l:List UInt8)(c:UInt8):zfQ (l++[c])=10*zfQ l+((c.toNat:Int)-48):=by simp[zfQ]
theorem zrv{d:List UInt8}{neg:Bool}(h:zhB d neg=false)(h2:d.all zkQ=false):zr3 d neg=(0,1):=by simp[zr3,h,h2]
theorem zqb{d:List UInt8}{neg:Bool}(h:zhB d neg=false)(h2:d.all zkQ=true):zr3 d neg=((if neg=true then -(zfQ d) else zfQ d),0):=by simp[zr3,h,h2]
theorem zmF(s : List UInt8)(w : World)(h : zhB (Lib.trimPrefix s [45]) (Lib.hasPrefix s [45]) = true)(hs : s.length ≤ 1099511627776) :
    Calls prog 191 #[.string (zal s)] w fun r w'=>r=.returned (.tuple #[.int .i64 0,.int .i64 1])∧w=w':=by
  have hc:=Tryz.strings_CutPrefix (zal s) ⟨#[45]⟩ w;rw[za8] at hc;change Calls _ _ _ _ (fun e w'=>e=.returned (.tuple #[.string (zal (Lib.trimPrefix s [45])),.bool (Lib.hasPrefix s [45])])∧w'=w) at hc
  generalize Lib.trimPrefix s [45]=d at*
  generalize Lib.hasPrefix s [45]=neg at*
  have Hc:=q0_ hc;have h:=of_decide_eq_true h;have hsz:=zam d;clear hc
  rcases h with h | h | ⟨h1,h2⟩
  · have hz:(((zal d).size:Int)==0)=true:=beq_iff_eq.2 (by omega)
    clear h hsz;go_enter func191,ntmps191;go_wp2_with fail;refine Hc.out.mono ?_;rintro r w' ⟨rfl,rfl⟩
    go_wp2
    go_ret2
    exact⟨rfl,rfl⟩
  · have hz:(((zal d).size:Int)==0)=false:=beq_eq_false_iff_ne.2 (by omega)
    have hz2:(18:Int)<((zal d).size:Int):=by omega
    clear h hsz;go_enter func191,ntmps191;go_wp2_with fail;refine Hc.out.mono ?_;rintro r w' ⟨rfl,rfl⟩
    go_wp2
    go_ret2
    exact⟨rfl,rfl⟩
  · rcases d with _ | ⟨c,t⟩
    · simp at h1
    · have hidx:∀ h:0<(zal (c::t)).size,(zal (c::t))[0]'h=c:=by intro h;rfl
      have h1':((c.toNat:Int)==48)=true:=by simp at h1;simp;omega
      have hlen:(c::t).length=t.length+1:=rfl;rw[hlen] at hsz h2;clear h1
      generalize zal (c::t)=x at*
      have hz:((x.size:Int)==0)=false:=beq_eq_false_iff_ne.2 (by omega)
      have hz0:0<x.size:=by omega
      by_cases h18:18<t.length+1
      · have hz2:(18:Int)<(x.size:Int):=by omega
        clear hsz h2 h18;go_enter func191,ntmps191;go_wp2_with fail;refine Hc.out.mono ?_;rintro r w' ⟨rfl,rfl⟩
        go_wp2
        go_ret2
        exact⟨rfl,rfl⟩
      · have hz2:(x.size:Int)≤18:=by omega
        by_cases h3:1<t.length+1
        · have hz3:(1:Int)<(x.size:Int):=by omega
          clear hsz h2 h18 h3;go_enter func191,ntmps191;go_wp2_with fail;refine Hc.out.mono ?_;rintro r w' ⟨rfl,rfl⟩
          go_wp2
          go_ret2
          exact⟨rfl,rfl⟩
        · have hz3:(x.size:Int)≤1:=by omega
          have hneg : neg = true := by rcases h2 with h2 | h2
                                       · omega
                                       · exact h2
          subst hneg;clear hsz h2 h18 h3;go_enter func191,ntmps191;go_wp2_with fail;refine Hc.out.mono ?_;rintro r w' ⟨rfl,rfl⟩
          go_wp2
          go_ret2
          exact⟨rfl,rfl⟩
theorem zos(s : List UInt8)(w : World)(h : zhB (Lib.trimPrefix s [45]) (Lib.hasPrefix s [45]) = false) :
    Calls prog 191 #[.string (zal s)] w fun r w'=>r=.returned (.tuple #[.int .i64 (zmH s).1,.int .i64 (zmH s).2])∧w=w':=by
  have hc:=Tryz.strings_CutPrefix (zal s) ⟨#[45]⟩ w;rw[za8] at hc;change Calls _ _ _ _ (fun e w'=>e=.returned (.tuple #[.string (zal (Lib.trimPrefix s [45])),.bool (Lib.hasPrefix s [45])])∧w'=w) at hc;unfold zmH
  generalize Lib.trimPrefix s [45]=d at*
  generalize Lib.hasPrefix s [45]=neg at*
  have Hc:=q0_ hc;have hbad:=of_decide_eq_false h;have hsz:=zam d;have Hbd:=q0_ h;clear hc h
  rcases d with _ | ⟨c,t⟩
  · simp at hbad
  · have hidx:∀ h:0<(zal (c::t)).size,(zal (c::t))[0]'h=c:=by intro h;rfl
    have hget:∀ (k:Nat) (x:UInt8),(c::t)[k]? =some x→∀ h:k<(zal (c::t)).size,(zal (c::t))[k]'h=x:=by
      intro k x hk h;have:(zal (c::t))[k]'h=(c::t)[k]'(by rw[zam] at h;exact h):=rfl;rw[this];exact (List.getElem?_eq_some_iff.1 hk).2
    have Hget:=q0_ hget;have Hbad:=q0_ hbad;have hlen:(c::t).length=t.length+1:=rfl;have Hz:=q0_ (hsz.trans hlen)
    have hz18:((zal (c::t)).size:Int)≤18:=by simp only[hlen] at hbad;omega
    have hz0:0<(zal (c::t)).size:=by omega
    have hz:(((zal (c::t)).size:Int)==0)=false:=beq_eq_false_iff_ne.2 (by omega)
    -- the loop, once the tests are behind it
    have hcase:((c.toNat:Int)==48)=false∨(((c.toNat:Int)==48)=true∧((zal (c::t)).size:Int)≤1∧neg=false):=by
      by_cases h48:c.toNat=48
      · right
        simp only[List.headD_cons,h48,true_and,not_or] at hbad;refine⟨beq_iff_eq.2 (by omega),by omega,by simpa using hbad.2.2.2⟩
      · left;exact beq_eq_false_iff_ne.2 (by omega)
    have hd18:decide ((18:Int)<((zal (c::t)).size:Int))=false:=q9_ (by omega);have hL:=hlen▸zam (c::t);have HL:=q0_ (zam (c::t));clear hget hbad hsz hlen hL
    generalize hl:(c::t)=l at*
    generalize zal l=x at*
    have Hl:=q0_ hl;clear hl
    have hpow:∀ k,k≤17→(10:Int) ^ k≤100000000000000000:=by
      intro k hk;have h6:(10:Nat) ^ k≤10 ^ 17:=Nat.pow_le_pow_right (by decide) hk;have h7:=Int.ofNat_le.2 h6;rw[Int.natCast_pow,Int.natCast_pow] at h7
      have h8:(10:Int) ^ 17=100000000000000000:=by decide
      rw[← h8];exact h7
    have Hpow:=q0_ hpow;clear hpow
    have hcase2:((c.toNat:Int)==48)=false∨(((c.toNat:Int)==48)=true∧decide ((1:Int)<(x.size:Int))=false∧neg=false):=by
      rcases hcase with h | ⟨h1,h2,h3⟩
      · exact .inl h
      · exact .inr ⟨h1,q9_ (by omega),h3⟩
    clear hcase
    have hcase3:(((c.toNat:Int)==48)=false∧neg=true)∨(((c.toNat:Int)==48)=false∧neg=false)∨(((c.toNat:Int)==48)=true∧decide ((1:Int)<(x.size:Int))=false∧neg=false):=by
      rcases hcase2 with h | h
      · cases neg
        · exact .inr (.inl ⟨h,rfl⟩)
        · exact .inl ⟨h,rfl⟩
      · exact .inr (.inr h)
    clear hcase2
    rcases hcase3 with ⟨hcase,rfl⟩ | ⟨hcase,rfl⟩ | ⟨hc1,hc2,rfl⟩
    all_goals
      go_enter func191,ntmps191;go_wp2_with fail;refine Hc.out.mono ?_;rintro r w' ⟨rfl,rfl⟩
      go_wp2
      go_loop [6,36] (fun v i=>∃ (k:Nat) (n:Int),k≤x.size∧i=.int .i64 k∧v=.int .i64 n∧Hid (n=zfQ (l.take k))∧Hid (∀ c∈l.take k,zkQ c=true)∧0≤n∧Hid (n<10 ^ k)) (fun _ i=>x.size-(intOf i).toNat)
      case atStart=>exact⟨0,0,Nat.zero_le _,rfl,rfl,rfl,fun _ h=>by simp at h,by omega,by show (0:Int)<10 ^ 0;decide⟩
      case round=>
        obtain⟨k,n,hk,rfl,rfl,hn,hall,hn0,hlt⟩:=hrel
        by_cases hkl:k<x.size
        · obtain⟨y,hy⟩:∃ y,l[k]? =some y:=⟨_,q6_ (by have:=HL.out;omega)⟩
          have hix:=Hget.out k y hy;have Hy:=q0_ hy;have hyb:=y.toNat_lt
          have hn17:n<100000000000000000:=by
            have:=Hpow.out k (by omega);have:=hlt.out;omega
          have hki:(k:Int)<(x.size:Int):=by omega
          clear hy
          by_cases hd:48≤y.toNat∧y.toNat≤57
          · obtain⟨hd1,hd2⟩:=hd
            have hd1':(48:Int)≤(y.toNat:Int):=by omega
            have hd2':(y.toNat:Int)≤57:=by omega
            go_wp2
            go_round
            case rel=>
              refine⟨k+1,10*n+((y.toNat:Int)-48),by omega,by go_num,rfl,?_,?_,by omega,?_⟩
              · show _=_
                rw[zan Hy.out,zk0,hn.out]
              · show ∀ c∈_,_
                rw[zan Hy.out];intro c hc
                rcases List.mem_append.1 hc with h | h
                · exact hall.out c h
                · rw[List.mem_singleton.1 h];exact qa_ ⟨hd1,hd2⟩
              · show _<_
                have:=hlt.out;rw[Int.pow_succ];omega
            case measure=>simp[intOf];omega
          · have hno : l.all zkQ = false := by
              rw[List.all_eq_false];exact⟨y,zab Hy.out,by simp only[zkQ,hd];decide⟩
            have Hno:=q0_ hno;clear hno
            have hd':(y.toNat:Int)<48∨(48≤(y.toNat:Int)∧57<(y.toNat:Int)):=by omega
            clear hd
            rcases hd' with hd | ⟨hd1,hd2⟩
            all_goals
              go_wp2
              go_ret2
              rw[zrv Hbd.out Hno.out];exact⟨rfl,rfl⟩
        · obtain rfl:k=x.size:=by omega
          have hfull:l.take x.size=l:=List.take_of_length_le (by have:=HL.out;omega)
          have hyes:l.all zkQ=true:=by
            have:=hall.out;rw[hfull] at this;exact List.all_eq_true.2 this
          have Hyes:=q0_ hyes
          have hb: -1000000000000000000≤n∧n≤1000000000000000000:=by
            have h1:=hlt.out;have h2:=Hpow.out (x.size-1) (by omega)
            have h3:(10:Int) ^ x.size=10 ^ (x.size-1)*10:=by rw[← Int.pow_succ,Nat.succ_eq_add_one,Nat.sub_add_cancel hz0]
            omega
          obtain⟨hb1,hb2⟩:=hb;have hfin:=hn.out;rw[hfull] at hfin;have Hfin:=q0_ hfin;clear hfin hyes hfull
          go_wp2
          go_ret2
          rw[zqb Hbd.out Hyes.out, ← Hfin.out];exact⟨rfl,rfl⟩
theorem zmG(s : List UInt8)(w : World)(hs : s.length ≤ 1099511627776) :
    Calls prog 191 #[.string (zal s)] w fun r w'=>r=.returned (.tuple #[.int .i64 (zmH s).1,.int .i64 (zmH s).2])∧w=w':=by
  by_cases h:zhB (Lib.trimPrefix s [45]) (Lib.hasPrefix s [45])=true
  · have e:zmH s=(0,1):=by unfold zmH zr3;rw[if_pos h]
    rw[e];exact zmF s w h hs
  · exact zos s w (by simpa using h)
end Go.Proofs.YtjhhodndlkpmhaaGreatDoor
