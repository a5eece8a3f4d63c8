/- A packer beside blocks that are kept; the bytes of a catalogue. -/
import Derived.Test.YtjhhodndlkpmhaaGreatDoorReadLaw
import Derived.Test.YtjhhodndlkpmhaaGreatDoorTabNeed
import Derived.Test.YtjhhodndlkpmhaaGreatDoorOpC
namespace Go.Proofs.YtjhhodndlkpmhaaGreatDoor
set_option linter.all false
open Go.RowKit Tryz
def PS(w W:World)(g:Nat)(K:Nat→Prop)(l:List UInt8):Prop:=
 ∃ F,Pk W g F 0 l∧(∀ k,F k→¬ K k)∧Fr (fun k=>¬ K k) w W∧∀ k,K k→k<W.heap.size
section
variable {w W W':World} {g:Nat} {K:Nat→Prop} {l:List UInt8}
theorem PS.fr(h:PS w W g K l):Fr (fun k=>¬ K k) w W:=by
 obtain⟨F,_,_,f,_⟩:=h;exact f
theorem PS.new(hf:Fr (fun k=>¬ K k) w W)(hK:∀ k,K k→k<W.heap.size):PS w (W.alloc (.cells #[.int .i64 0,.slice none 0 0] 63)) W.heap.size K []:=by
 have p:=Pk.new W;exact⟨_,p.1,fun k hk hk2=>by have:=p.2 k hk;have:=hK k hk2;omega,hf.alloc _,fun k hk=>by have:=hK k hk;have:=(Fr.none_alloc W (.cells #[.int .i64 0,.slice none 0 0] 63)).size;omega⟩
theorem PS.fr0(h:PS w W g K l)(f:Fr (fun _=>False) W W'):PS w W' g K l:=by
 obtain⟨F,hp,h1,h2,h3⟩:=h;exact⟨F,hp.fr f (fun _ _ h=>h),h1,h2.trans f q4_,fun k hk=>Nat.lt_of_lt_of_le (h3 k hk) f.size⟩
theorem PS.base(h:PS w W g K l)(o:Obj):PS (W.alloc o) (W.alloc o) g (fun k=>K k∨k=W.heap.size) l:=by
 obtain⟨F,hp,h1,h2,h3⟩:=h
 have hs:(W.alloc o).heap.size=W.heap.size+1:=by show (W.heap.push o).size=_;rw[Array.size_push]
 refine⟨F,hp.fr (Fr.none_alloc _ _) (fun _ _ h=>h),fun k hk hk2=>?_,Fr.refl _ _,fun k hk=>?_⟩
 ·rcases hk2 with hk2 | hk2
  ·exact h1 k hk hk2
  ·have:=hp.lt k hk;omega
 ·rcases hk with hk | hk
  ·have:=h3 k hk;omega
  ·omega
theorem PS.back{w0:World}{K0:Nat→Prop}(h:PS w W g K l)(f:Fr (fun k=>¬ K0 k) w0 w)(hK:∀ k,K0 k→K k)(h0:∀ k,K0 k→k<w.heap.size):PS w0 W g K0 l:=by
 obtain⟨F,hp,h1,h2,h3⟩:=h;exact⟨F,hp,fun k hk hk2=>h1 k hk (hK k hk2),f.trans h2 (fun k hk=>.inl (fun h=>hk (hK k h))),fun k hk=>h3 k (hK k hk)⟩
theorem PS.mv{F F':Nat→Prop}{l':List UInt8}(h1:∀ k,F k→¬ K k)(h2:Fr (fun k=>¬ K k) w W)(h3:∀ k,K k→k<W.heap.size)(hp:Pk W' g F' 0 l')(m:Mv F F' W W'):PS w W' g K l':=
 ⟨F',hp,fun k hk hk2=>by
  rcases m.sub k hk with h | h
  ·exact h1 k h hk2
  ·have:=h3 k hk2;omega,h2.trans m.fr (fun k hk=>.inl (h1 k hk)),fun k hk=>Nat.lt_of_lt_of_le (h3 k hk) m.size⟩
def smB(k:Nat)(vs:List Int):List UInt8:=vs.flatMap fun v=>le v.toNat k
theorem zgl{size:Int}:∀ {vs:List Int} {l:List UInt8},(∀ v∈vs,za7 size v=true)→zck size l vs=(0,l++smB size.toNat vs)
 | [],l,_=>by simp[zck,smB]
 | v::vs,l,h=>by
  simp only[zck];rw[if_pos (h v (by simp)),zgl (fun x hx=>h x (List.mem_cons_of_mem _ hx))];simp[smB]
theorem zhy{size:Int}{vs:List Int}{l:List UInt8}(h0:za7 size 0=true)(h:∀ v∈vs,za7 size v=true):zgD size 0 l vs=(0,l++smB size.toNat vs):=by
 unfold zgD;rw[if_pos rfl,if_pos h0,zgl h]
theorem zlr(h:PS w W g K l)(vs:List Int)(n:Nat)(hn:vs.length=n)(hv:∀ x∈vs,0≤x)(hl:l.length+8*n≤1099511627776):
  Calls prog 67 #[.pointer (some ⟨g,0,none⟩),.slice (some ⟨W.heap.size,0,none⟩) n n] (W.alloc (.cells (vs.map (Value.int .u64)).toArray 48)) fun r w'=>r=.returned (.tuple #[])∧PS w w' g K (l++smB 8 vs):=by
 have h0:=h.fr0 (Fr.none_alloc W (.cells (vs.map (Value.int .u64)).toArray 48));obtain⟨F,hp,h1,h2,h3⟩:=h;obtain⟨_,_,_,k2,k3⟩:=h0;refine (zf8 g F 0 l vs _ n n _ (hp.fr (Fr.none_alloc _ _) (fun _ _ h=>h)) (Rd.new _ _ _ _ (by rw[List.length_map];exact hn)) (zew hp.lt) hv hl).mono ?_;rintro r w' ⟨rfl,F',hp',m⟩;refine⟨rfl,PS.mv h1 k2 k3 ?_ m⟩;simpa[pW,smB] using hp'
theorem zol(h:PS w W g K l)(vs:List Int)(n:Nat)(hn:vs.length=n)(hl:l.length+8*n≤1099511627776):
  Calls prog 68 #[.pointer (some ⟨g,0,none⟩),.slice (some ⟨W.heap.size,0,none⟩) n n] (W.alloc (.cells (vs.map (Value.int .i64)).toArray 3)) fun r w'=>r=.returned (.tuple #[])∧PS w w' g K (l++le8 vs):=by
 have h0:=h.fr0 (Fr.none_alloc W (.cells (vs.map (Value.int .i64)).toArray 3));obtain⟨F,hp,h1,h2,h3⟩:=h;obtain⟨_,_,_,k2,k3⟩:=h0;refine (zeM g F 0 l vs _ n n _ (hp.fr (Fr.none_alloc _ _) (fun _ _ h=>h)) (Rd.new _ _ _ _ (by rw[List.length_map];exact hn)) (zew hp.lt) hl).mono ?_;rintro r w' ⟨rfl,F',hp',m⟩;refine⟨rfl,PS.mv h1 k2 k3 ?_ m⟩;simpa[pW] using hp'
theorem zd4(h:PS w W g K l)(size:Int)(vs:List Int)(n:Nat)(hn:vs.length=n)(hs:za7 size 0=true)(hv:∀ v∈vs,za7 size v=true)(hl:l.length+8*n≤1099511627776):
  Calls prog 27 #[.pointer (some ⟨g,0,none⟩),.int .i64 size,.slice (some ⟨W.heap.size,0,none⟩) n n] (W.alloc (.cells (vs.map (Value.int .i64)).toArray 3)) fun r w'=>r=.returned (.tuple #[])∧PS w w' g K (l++smB size.toNat vs):=by
 have h0:=h.fr0 (Fr.none_alloc W (.cells (vs.map (Value.int .i64)).toArray 3));obtain⟨F,hp,h1,h2,h3⟩:=h;obtain⟨_,_,_,k2,k3⟩:=h0;refine (ziU g F 0 size l vs _ n n _ (hp.fr (Fr.none_alloc _ _) (fun _ _ h=>h)) (Rd.new _ _ _ _ (by rw[List.length_map];exact hn)) (zew hp.lt) hl).mono ?_;rintro r w' ⟨rfl,F',hp',m⟩;rw[zhy hs hv] at hp';exact⟨rfl,PS.mv h1 k2 k3 hp' m⟩
theorem zmz(h:PS w W g K l)(vs:List Int)(A:Option Addr)(n c:Nat)(hr:Rd W 1 A n (vs.map (Value.int .i64)))(hA:∀ k,adF A n k→K k)(hl:l.length+8*n≤1099511627776):
  Calls prog 68 #[.pointer (some ⟨g,0,none⟩),.slice A n c] W fun r w'=>r=.returned (.tuple #[])∧PS w w' g K (l++le8 vs):=by
 obtain⟨F,hp,h1,h2,h3⟩:=h;refine (zeM g F 0 l vs A n c W hp hr (fun k hk hF=>h1 k hF (hA k hk)) hl).mono ?_;rintro r w' ⟨rfl,F',hp',m⟩;refine⟨rfl,PS.mv h1 h2 h3 ?_ m⟩;simpa[pW] using hp'
theorem zgA(h:PS w W g K l)(size:Int)(vs:List Int)(A:Option Addr)(n c:Nat)(hr:Rd W 1 A n (vs.map (Value.int .i64)))(hA:∀ k,adF A n k→K k)(hs:za7 size 0=true)(hv:∀ v∈vs,za7 size v=true)(hl:l.length+8*n≤1099511627776):
  Calls prog 27 #[.pointer (some ⟨g,0,none⟩),.int .i64 size,.slice A n c] W fun r w'=>r=.returned (.tuple #[])∧PS w w' g K (l++smB size.toNat vs):=by
 obtain⟨F,hp,h1,h2,h3⟩:=h;refine (ziU g F 0 size l vs A n c W hp hr (fun k hk hF=>h1 k hF (hA k hk)) hl).mono ?_;rintro r w' ⟨rfl,F',hp',m⟩;rw[zhy hs hv] at hp';exact⟨rfl,PS.mv h1 h2 h3 hp' m⟩
theorem zkx(h:PS w W g K l)(s:ByteArray)(hl:l.length≤549755813888)(hs:s.size≤60000):
  Calls prog 26 #[.pointer (some ⟨g,0,none⟩),.string s] W fun r w'=>r=.returned (.tuple #[])∧PS w w' g K (l++zb6 s):=by
 obtain⟨F,hp,h1,h2,h3⟩:=h;refine (zpN g F 0 l s W hp hl (by omega)).mono ?_;rintro r w' ⟨rfl,F',hp',m⟩
 have e:zkE 0 l s=(0,l++zb6 s):=by unfold zkE;rw[if_pos rfl,if_neg (by omega)]
 rw[e] at hp';exact⟨rfl,PS.mv h1 h2 h3 hp' m⟩
theorem zsd(h:PS w W g K l)(hl:l.length≤1099511627776):Calls prog 69 #[.pointer (some ⟨g,0,none⟩)] W fun r w'=>r=.returned (.int .i64 l.length)∧W=w':=by
 obtain⟨F,hp,_⟩:=h;exact zrz g F 0 l W hp hl
theorem zky(h:PS w W g K l):Calls prog 31 #[.pointer (some ⟨g,0,none⟩)] W fun r w'=>r=.returned (.tuple #[.string (zal l),.int .i64 0])∧W=w':=by
 obtain⟨F,hp,_⟩:=h;exact zoW g F l W hp
end
def zpA(x:zdg):List UInt8:=smB 8 [x.id]++(smB 1 [x.tier,x.shard]++(smB 2 [(x.bl.length:Int)]++smB 2 x.bl))
def zc0(c:zfH):ByteArray:=if zfn c=true then zcB c.nm2 c.pl2 else ByteArray.empty
def zrF(c:zfH):List UInt8:=smB 8 [c.gen,c.id]++le8 [c.now]++zb6 (zcB c.nm c.pl)++le8 c.fl++zb6 (zc0 c)++smB 1 c.src++le8 [c.bound,c.done]++smB 2 [(c.es.length:Int)]
def zno(c:zfH):List UInt8:=zrF c++c.es.flatMap zpA
def zok(c:zfH):ByteArray×Int:=if zg7 c=true then (if 40000<(zno c).length then (ByteArray.empty,2) else (zal (zno c),0)) else (ByteArray.empty,1)
structure RS where
 e:Int
 b:List UInt8
def zbK{α:Type}(R:RS→RS×α):Prop:=∀ s,(R s).1.e=0→s.e=0∧∀ t,R ⟨0,s.b++t⟩=(⟨0,(R s).1.b++t⟩,(R s).2)
def Enc{α:Type}(R:RS→RS×α)(l:List UInt8)(v:α):Prop:=∀ t,R ⟨0,l++t⟩=(⟨0,t⟩,v)
def zb8{α β:Type}(R:RS→RS×α)(f:α→RS→RS×β):RS→RS×β:=fun s=>f (R s).2 (R s).1
def zpW{α:Type}(a:α):RS→RS×α:=fun s=>(s,a)
theorem zbK.ret{α:Type}(a:α):zbK (zpW a):=fun _ h=>⟨h,fun _=>rfl⟩
theorem zbK.bind{α β:Type}{R:RS→RS×α}{f:α→RS→RS×β}(h:zbK R)(k:∀ a,zbK (f a)):zbK (zb8 R f):=by
 intro s hs;obtain⟨h1,h2⟩:=k (R s).2 (R s).1 hs;obtain⟨h3,h4⟩:=h s h1;refine⟨h3,fun t=>?_⟩
 show f (R ⟨0,s.b++t⟩).2 (R ⟨0,s.b++t⟩).1=_
 rw[h4 t];exact h2 t
def zoh(n:Nat)(s:RS):RS×List UInt8:=(⟨(zay s.e s.b n).1,(zay s.e s.b n).2.1⟩,(zay s.e s.b n).2.2)
theorem zbK.take(n:Nat):zbK (zoh n):=by
 rintro⟨e,b⟩ hs;unfold zoh zay at hs ⊢;dsimp only at hs ⊢
 by_cases h0:e=0
 ·subst h0
  rw[if_pos rfl] at hs
  by_cases h1:b.length<n
  ·rw[if_pos h1] at hs;cases hs
  ·refine⟨rfl,fun t=>?_⟩
   have h2:¬ (b++t).length<n:=by rw[q8_];omega
   simp only[if_pos,if_neg h1,if_neg h2];rw[List.drop_append_of_le_length (by omega),List.take_append_of_le_length (by omega)]
 ·rw[if_neg h0] at hs
  exact absurd hs h0
def zcJ:RS→RS×Int:=zb8 (zoh 8) fun l=>zpW (zbE l:Int)
def ze4:RS→RS×Int:=zb8 (zoh 8) fun l=>zpW (sgn (zbE l))
def zai(k:Int)(s:RS):RS×Int:=(⟨(zb2 k s.e s.b).1,(zb2 k s.e s.b).2.1⟩,((zb2 k s.e s.b).2.2:Int))
def zco(s:RS):RS×ByteArray:=(⟨(zeg s.e s.b).1,(zeg s.e s.b).2.1⟩,zal (zeg s.e s.b).2.2)
theorem zbK.word:zbK zcJ:=zbK.bind (zbK.take 8) (fun _=>zbK.ret _)
theorem zbK.int:zbK ze4:=zbK.bind (zbK.take 8) (fun _=>zbK.ret _)
theorem zbK.small{k:Int}(hk:za7 k 0=true):zbK (zai k):=by
 rintro⟨e,b⟩ hs;have hg:=zbK.take k.toNat ⟨e,b⟩;unfold zoh at hg;unfold zai zb2 at hs ⊢;dsimp only at hs hg ⊢
 by_cases h0:e=0
 ·subst h0
  rw[if_pos rfl,if_pos hk] at hs;obtain⟨_,h2⟩:=hg hs;refine⟨rfl,fun t=>?_⟩;have:=h2 t;simp only[Prod.mk.injEq,RS.mk.injEq] at this;simp only[if_pos,if_pos hk,this.1.1,this.1.2,this.2]
 ·rw[if_neg h0] at hs
  exact absurd hs h0
theorem zbK.text:zbK zco:=by
 rintro⟨e,b⟩ hs;unfold zco zeg at hs ⊢;dsimp only at hs ⊢
 by_cases h0:e=0
 ·subst h0
  rw[if_pos rfl] at hs
  by_cases h1:b.length<2
  ·rw[if_pos h1] at hs;cases hs
  ·rw[if_neg h1] at hs
   by_cases h2:b.length-2<zbE (b.take 2)
   ·rw[if_pos h2] at hs;cases hs
   ·refine⟨rfl,fun t=>?_⟩
    have e1:(b++t).take 2=b.take 2:=List.take_append_of_le_length (by omega)
    have h3:¬ (b++t).length<2:=by rw[q8_];omega
    have h4:¬ (b++t).length-2<zbE (b.take 2):=by rw[q8_];omega
    simp only[if_pos,if_neg h1,if_neg h2,if_neg h3,e1,if_neg h4];rw[List.drop_append_of_le_length (by omega),List.drop_append_of_le_length (by omega),List.take_append_of_le_length (by rw[List.length_drop];omega)]
 ·rw[if_neg h0] at hs
  exact absurd hs h0
theorem Enc.small{k v:Int}(h:za7 k v=true):Enc (zai k) (le v.toNat k.toNat) v:=by
 intro t;unfold zai;dsimp only
 have hv:0≤v:=by unfold za7 at h;have:=of_decide_eq_true h;omega
 have hb:zb2 k 0 (le v.toNat k.toNat++t)=(0,t,v.toNat):=by
  unfold za7 at h;obtain⟨a,b,c,d⟩:=of_decide_eq_true h;have h0:za7 k 0=true:=qa_ ⟨a,b,Int.le_refl _,by have:(0:Int)<256 ^ k.toNat:=Int.pow_pos (by decide);omega⟩
  have hd:v.toNat<256 ^ k.toNat:=by
   have h2:((v.toNat:Nat):Int)<((256 ^ k.toNat:Nat):Int):=by rw[Int.natCast_pow];rw[Int.toNat_of_nonneg c];exact d
   exact Int.ofNat_lt.1 h2
  unfold zb2;rw[if_pos rfl,if_pos h0,zgd (zaQ _ _),zkI,Nat.mod_eq_of_lt hd]
 rw[hb];dsimp only;rw[Int.toNat_of_nonneg hv]
theorem Enc.text{s:ByteArray}(h:s.size≤60000):Enc zco (zb6 s) s:=by
 intro t;unfold zco;dsimp only;rw[zm_ h]
 rfl
def zbX{α:Type}(R:RS→RS×α):Nat→RS→RS×List α
 | 0=>zpW []
 | n+1=>zb8 R fun a=>zb8 (zbX R n) fun l=>zpW (a::l)
theorem zbK.many{α:Type}{R:RS→RS×α}(h:zbK R):∀ n,zbK (zbX R n)
 | 0=>zbK.ret _
 | n+1=>zbK.bind h (fun _=>zbK.bind (zbK.many h n) (fun _=>zbK.ret _))
def zbb{α:Type}(R:RS→RS×α):Nat→RS→RS×List α
 | 0,s=>(s,[])
 | n+1,s=>if s.e=0 then zb8 R (fun a=>zb8 (zbb R n) fun l=>zpW (a::l)) s else (s,[])
theorem zgu{α:Type}{R:RS→RS×α}(hR:zbK R):∀ {n:Nat} {s:RS},(zbb R n s).1.e=0→zbb R n s=zbX R n s
 | 0,s,_=>rfl
 | n+1,s,h=>by
  unfold zbb at h ⊢
  by_cases h0:s.e=0
  ·rw[if_pos h0] at h ⊢
   have h1:(zbb R n (R s).1).1.e=0:=h;have h2:=zgu hR h1
   show ((zbb R n (R s).1).1,(R s).2::(zbb R n (R s).1).2)=((zbX R n (R s).1).1,(R s).2::(zbX R n (R s).1).2)
   rw[h2]
  ·rw[if_neg h0] at h
   exact absurd h h0
theorem zgy{α:Type}{R:RS→RS×α}(hR:zbK R):∀ {n:Nat} {s:RS},(zbX R n s).1.e=0→zbb R n s=zbX R n s
 | 0,s,_=>rfl
 | n+1,s,h=>by
  have h0:=(zbK.many hR (n+1) s h).1;unfold zbb;rw[if_pos h0];have h1:(zbX R n (R s).1).1.e=0:=h;have h2:=zgy hR h1
  show ((zbb R n (R s).1).1,(R s).2::(zbb R n (R s).1).2)=((zbX R n (R s).1).1,(R s).2::(zbX R n (R s).1).2)
  rw[h2]
theorem zbK.while_{α:Type}{R:RS→RS×α}(h:zbK R)(n:Nat):zbK (zbb R n):=by
 intro s hs;have e:=zgu h hs;rw[e] at hs;obtain⟨h1,h2⟩:=zbK.many h n s hs;refine⟨h1,fun t=>?_⟩;have h3:=h2 t;rw[zgy h (by rw[h3]),h3,e]
theorem zrr{w:World}{base n c g:Nat}{e:TypeId}{xs:List Value}{cs:Array Value}(h:w.ownsRow base e 1 (.slice (some ⟨g,0,none⟩) n c) n xs)(hB:Blk w g e cs):n≤cs.size:=by
 rcases h.2 with ⟨h2,_⟩ | ⟨g',cap,cur,hv,hb,hg,h3,h4,h5,h6⟩
 ·cases h2
 ·injection hv with e1 _ e3
  injection e1 with e1
  injection e1 with e1
  subst e1;have hB':w.heap[g]? =some (Obj.cells cs e (0,0)):=hB;rw[hg] at hB'
  injection hB' with hB'
  injection hB' with hc _ _
  subst hc;have h1:=h.1;have:=congrArg List.length h6;rw[List.length_take,h1,Array.length_toList] at this;omega
theorem zq_{w:World}{base n c g k:Nat}{e:TypeId}{xs:List Value}{v:Value}(h:w.ownsRow base e 1 (.slice (some ⟨g,0,none⟩) n c) n xs):(w.setCell ⟨g,k,none⟩ v).ownsRow base e 1 (.slice (some ⟨g,0,none⟩) n c) n (xs.set k v):=by
 obtain⟨h1,h2⟩:=h;refine⟨by rw[List.length_set];exact h1,?_⟩
 rcases h2 with ⟨h2,_⟩ | ⟨g',cap,cur,hv,hb,hg,h3,h4,h5,h6⟩
 ·cases h2
 ·injection hv with e1 _ e3
  injection e1 with e1
  injection e1 with e1
  subst e1 e3;refine .inr ⟨g,c,cur.setIfInBounds k v,rfl,hb,?_,h3,h4,by simp[h5],?_⟩
  ·rw[Sort.setCell_eq]
   unfold Sort.mapBlock;rw[Array.getElem?_modify,if_pos rfl,hg]
   rfl
  ·rw[← h6,Array.toList_setIfInBounds,List.take_set]
theorem zot{L:List Nat}{k b:Nat}(h:L.Nodup)(hb:b∉L):(L.set k b).Nodup:=by
 unfold List.Nodup at h ⊢;rw[List.pairwise_iff_getElem] at h ⊢;intro i j hi hj hij;rw[List.length_set] at hi hj;rw[List.getElem_set,List.getElem_set]
 split
 ·split
  ·omega
  ·exact fun e=>hb (e▸List.getElem_mem hj)
 ·split
  ·exact fun e=>hb (e▸List.getElem_mem hi)
  ·exact h i j hi hj hij
section
variable {w w':World} {g k:Nat} {G L F:Nat→Prop}
end
end Go.Proofs.YtjhhodndlkpmhaaGreatDoor
