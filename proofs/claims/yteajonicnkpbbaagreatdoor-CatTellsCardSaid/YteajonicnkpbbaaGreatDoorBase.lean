/- Words for memory that the texts of this seat share: frames with footprints ('Fr', 'Mv'), blocks known whole ('Blk'), slices that read as lists ('Rd'), owned rows. No program in sight. -/
import Derived.Test.YteajonicnkpbbaaGreatDoorTk
import Derived.Handy
import Derived.WalkSpells
import Derived.WalkLawsBesides
import Derived.BigQuiet
import Derived.Deep.QuietTactic
import Derived.Deep.Draws
import Derived.Deep.AppendLies
import Derived.Maps.AppendAt
import Derived.Laws.OwnMore
import Derived.Below
import Derived.StillTailTactics
import Derived.Lib.AppendStr
import Derived.Lib.LaidTab
import Derived.WalkSmall
import Derived.Lib.ConvBytes
import Derived.Lib.Strings
import Derived.Deep.RegionWith
import Derived.Deep.DeepCutAuto
import Derived.Deep.RegionLaw
import Derived.Sort.Row
namespace Go.Proofs.YteajonicnkpbbaaGreatDoor
set_option linter.all false
open Go.RowKit
theorem zfo(a:Addr)(n:Nat):(a.add n).block=a.block:=by unfold Addr.add;split<;>rfl
theorem zce(a:Addr)(i j:Nat):(a.add i).add j=a.add (i+j):=by
 unfold Addr.add
 by_cases hi:i=0<;>by_cases hj:j=0<;>simp[hi,hj,Nat.add_assoc]
theorem zdD(b o n:Nat):(⟨b,o,none⟩:Addr).add n=⟨b,o+n,none⟩:=by
 unfold Addr.add
 by_cases hn:n=0<;>simp[hn]
structure Fr(F:Nat→Prop)(w w':World):Prop where
 os:w'.os=w.os
 tape:w'.tape=w.tape
 output:w'.output=w.output
 size:w.heap.size≤w'.heap.size
 block:∀ k,k<w.heap.size→¬ F k→w'.heap[k]? =w.heap[k]?
structure Mv(F F':Nat→Prop)(w w':World):Prop where
 fr:Fr F w w'
 sub:∀ k,F' k→F k∨w.heap.size≤k
section
variable {F F' G G':Nat→Prop} {a b c w w':World}
theorem Fr.refl(F:Nat→Prop)(w:World):Fr F w w:=⟨rfl,rfl,rfl,Nat.le_refl _,fun _ _ _=>rfl⟩
theorem Fr.trans(h:Fr F a b)(k:Fr G b c)(hs:∀ i,G i→F i∨a.heap.size≤i):Fr F a c:=
 ⟨k.os.trans h.os,k.tape.trans h.tape,k.output.trans h.output,Nat.le_trans h.size k.size,fun i hi hn=>by
  refine (k.block i (Nat.lt_of_lt_of_le hi h.size) ?_).trans (h.block i hi hn);intro hg
  rcases hs i hg with h1 | h1
  ·exact hn h1
  ·omega⟩
theorem Fr.mono(h:Fr F a b)(hs:∀ i,F i→G i∨a.heap.size≤i):Fr G a b:=
 ⟨h.os,h.tape,h.output,h.size,fun i hi hn=>h.block i hi fun hf=>by
  rcases hs i hf with h1 | h1
  ·exact hn h1
  ·omega⟩
theorem Fr.alloc(h:Fr F a b)(o:Obj):Fr F a (b.alloc o):=
 h.trans (G:=fun _=>False) ⟨rfl,rfl,rfl,by simp,fun i hi _=>Below.heap_alloc _ _ _ hi⟩ (fun _ hf=>hf.elim)
theorem Fr.drew(h:Fr F a b):Fr F a b.drew:=⟨h.os,h.tape,h.output,h.size,h.block⟩
theorem Fr.drewN(h:Fr F a b)(n:Nat):Fr F a (b.drewN n):=⟨h.os,h.tape,h.output,h.size,h.block⟩
theorem Fr.setCell(h:Fr F a b){p:Addr}(hp:F p.block∨a.heap.size≤p.block)(u:Value):Fr F a (b.setCell p u):=
 h.trans (G:=fun i=>i=p.block) ⟨rfl,rfl,rfl,by simp[World.setCell],fun i _ hn=>Below.heap_setCell _ _ _ _ hn⟩ (fun i hi=>by subst hi;exact hp)
theorem Fr.of_grown{row:Option Nat}(h:a.grownBy b row):Fr (fun k=>row=some k) a b:=
 ⟨h.os,h.tape,h.output,h.size,fun k hk hn=>h.block k hk (fun e=>hn e.symm)⟩
theorem Fr.of_below(h:Below a.heap.size a b):Fr F a b:=⟨h.os,h.tape,h.output,h.size,fun k hk _=>h.block k hk⟩
theorem Fr.below(h:Fr F a b)(hF:∀ k,F k→a.heap.size≤k):Below a.heap.size a b:=
 ⟨h.os,h.tape,h.output,h.size,fun k hk=>h.block k hk fun hf=>by have:=hF k hf;omega⟩
theorem Fr.below_of{B:Nat}(h:Fr F a b)(hB:B≤a.heap.size)(hF:∀ k,F k→B≤k):Below B a b:=
 ⟨h.os,h.tape,h.output,h.size,fun k hk=>h.block k (by omega) fun hf=>by have:=hF k hf;omega⟩
theorem Fr.cell(h:Fr F a b){p:Addr}{v:Value}(hc:a.cell? p=some v)(hn:¬ F p.block):b.cell? p=some v:=
 (World.cell?_of_block (h.block p.block (World.block_lt_of_cell? a p hc) hn)).trans hc
theorem Mv.refl(F:Nat→Prop)(w:World):Mv F F w w:=⟨.refl F w,fun _ h=>.inl h⟩
theorem Mv.trans{F'':Nat→Prop}(h:Mv F F' a b)(k:Mv F' F'' b c):Mv F F'' a c:=
 ⟨h.fr.trans k.fr h.sub,fun i hi=>by
  rcases k.sub i hi with h1 | h1
  ·exact h.sub i h1
  ·exact .inr (Nat.le_trans h.fr.size h1)⟩
theorem Mv.size(h:Mv F F' a b):a.heap.size≤b.heap.size:=h.fr.size
theorem Mv.skip(h:Mv F F' a b)(k:Fr (fun _=>False) b c):Mv F F' a c:=⟨h.fr.trans k (fun _ hf=>hf.elim),h.sub⟩
theorem Mv.below(h:Mv F F' a b)(hF:∀ k,F k→a.heap.size≤k):Below a.heap.size a b:=h.fr.below hF
theorem Mv.none_alloc(F:Nat→Prop)(w:World)(o:Obj):Mv F F w (w.alloc o):=⟨(Fr.refl _ w).alloc o,fun _ h=>.inl h⟩
theorem Mv.of_none(F:Nat→Prop){a b:World}(h:Fr (fun _=>False) a b):Mv F F a b:=⟨h.mono (fun _ hf=>hf.elim),fun _ h=>.inl h⟩
theorem Fr.none_alloc(w:World)(o:Obj):Fr (fun _=>False) w (w.alloc o):=(Fr.refl _ w).alloc o
theorem Fr.none_drewN(w:World)(n:Nat):Fr (fun _=>False) w (w.drewN n):=(Fr.refl _ w).drewN n
end
def Blk(w:World)(g:Nat)(t:TypeId)(cs:Array Value):Prop:=w.heap[g]? =some (.cells cs t (0,0))
section
variable {w w':World} {g:Nat} {t:TypeId} {cs:Array Value}
theorem Blk.lt(h:Blk w g t cs):g<w.heap.size:=by
 rcases Nat.lt_or_ge g w.heap.size with hlt | hge
 ·exact hlt
 ·unfold Blk at h;rw[Array.getElem?_eq_none hge] at h;cases h
theorem Blk.cell(h:Blk w g t cs)(i:Nat):w.cell? ⟨g,i,none⟩=cs[i]? :=cell_of_row w g i cs t (0,0) h
theorem Blk.frozen(h:Blk w g t cs)(i:Nat):w.frozen? ⟨g,i,none⟩=false:=by
 unfold Blk at h;simp[World.frozen?,h]
theorem Blk.new(w:World)(t:TypeId)(cs:Array Value):Blk (w.alloc (.cells cs t)) w.heap.size t cs:=heap_alloc_new w _
theorem Blk.drew(h:Blk w g t cs):Blk w.drew g t cs:=h
theorem Blk.drewN(h:Blk w g t cs)(n:Nat):Blk (w.drewN n) g t cs:=h
theorem Blk.alloc(h:Blk w g t cs)(o:Obj):Blk (w.alloc o) g t cs:=(Below.heap_alloc w o g h.lt).trans h
theorem Blk.set_(h:Blk w g t cs)(i:Nat)(u:Value):Blk (w.setCell ⟨g,i,none⟩ u) g t (cs.setIfInBounds i u):=by
 unfold Blk at h ⊢;simp[World.setCell,Array.getElem?_modify,h]
theorem Blk.fr{F:Nat→Prop}(h:Blk w g t cs)(hf:Fr F w w')(hg:¬ F g):Blk w' g t cs:=(hf.block g h.lt hg).trans h
theorem Blk.ne_{g':Nat}{t':TypeId}{cs':Array Value}(h:Blk w g t cs)(h':Blk w g' t' cs')(hne:t≠t'):g≠g':=by
 rintro rfl;unfold Blk at h h';rw[h] at h'
 injection h' with h'
 injection h' with _ ht
 exact hne ht
theorem zac{base:Nat}{e:TypeId}{size n:Nat}{v:Value}{xs:List Value}(h:w.ownsRow base e size v n xs)(hg:Blk w g t cs)(hne:e≠t):v.ownBlock≠some g:=by
 rcases h.2 with ⟨rfl,_⟩ | ⟨g',cap,cur,rfl,_,hh,_⟩
 ·simp[Value.ownBlock]
 ·intro he
  have:g'=g:=by simpa[Value.ownBlock] using he
  subst this;exact Blk.ne_ (t:=e) hh hg hne rfl
end
theorem zan{α:Type}{l:List α}{k:Nat}{x:α}(h:l[k]? =some x):l.take (k+1)=l.take k++[x]:=by
 rw[List.take_add_one,h];rfl
theorem zbh{α:Type}{l:List α}{k:Nat}(h:l.length≤k):l.take k=l:=List.take_of_length_le h
theorem zab{α:Type}{l:List α}{k:Nat}{x:α}(h:l[k]? =some x):x∈l:=List.mem_of_getElem? h
def Rd(w:World)(size:Nat)(A:Option Addr)(n:Nat)(xs:List Value):Prop:=
 xs.length=n*size∧(0<n→∃ ad,A=some ad∧∀ j u,xs[j]? =some u→w.cell? (ad.add j)=some u)
def adF(A:Option Addr)(n:Nat):Nat→Prop:=fun k=>0<n∧∃ ad,A=some ad∧ad.block=k
section
variable {w w':World} {size n:Nat} {A:Option Addr} {xs:List Value} {F:Nat→Prop}
theorem Rd.nil_:Rd w size A 0 []:=⟨by simp,fun h=>absurd h (by omega)⟩
theorem Rd.fr(h:Rd w size A n xs)(hf:Fr F w w')(hn:∀ k,adF A n k→¬ F k):Rd w' size A n xs:=
 ⟨h.1,fun h0=>by
  obtain⟨ad,e,hc⟩:=h.2 h0
  exact⟨ad,e,fun j u hu=>hf.cell (hc j u hu) (by rw[zfo];exact hn _ ⟨h0,ad,e,rfl⟩)⟩⟩
theorem Rd.fr0(h:Rd w size A n xs)(hf:Fr (fun _=>False) w w'):Rd w' size A n xs:=h.fr hf (fun _ _ h=>h)
theorem Rd.alloc(h:Rd w size A n xs)(o:Obj):Rd (w.alloc o) size A n xs:=h.fr0 (Fr.none_alloc w o)
theorem Rd.drew(h:Rd w size A n xs):Rd w.drew size A n xs:=h
theorem Rd.drewN(h:Rd w size A n xs)(k:Nat):Rd (w.drewN k) size A n xs:=h
theorem Rd.below(h:Rd w size A n xs)(hb:Below w.heap.size w w'):Rd w' size A n xs:=h.fr0 (.of_below hb)
theorem Rd.at_{k:Nat}(h:Rd w 1 A n xs)(hk:k<n):∃ ad u,A=some ad∧xs[k]? =some u∧w.cell? (ad.add k)=some u:=by
 obtain⟨ad,e,hc⟩:=h.2 (by omega)
 have hl:k<xs.length:=by have:=h.1;omega
 exact⟨ad,xs[k],e,q6_ hl,hc k _ (q6_ hl)⟩
theorem Rd.at_map{α:Type}{f:α→Value}{l:List α}{k:Nat}(h:Rd w 1 A n (l.map f))(hk:k<n):∃ ad x,A=some ad∧l[k]? =some x∧w.cell? (ad.add k)=some (f x):=by
 obtain⟨ad,u,hA,hu,hc⟩:=h.at_ hk;rw[List.getElem?_map,Option.map_eq_some_iff] at hu;obtain⟨x,hx,rfl⟩:=hu;exact⟨ad,x,hA,hx,hc⟩
theorem Rd.len_map{α:Type}{f:α→Value}{l:List α}(h:Rd w 1 A n (l.map f)):l.length=n:=by have:=h.1;simpa using this
theorem Rd.cut(h:Rd w size A n xs){k cap:Nat}(hk:k≤n)(hc:n≤cap):
  Rd w size (if cap=k then A else A.map (·.add (k*size))) (n-k) (xs.drop (k*size)):=by
 refine⟨by rw[List.length_drop,h.1,Nat.sub_mul],fun hn=>?_⟩;obtain⟨ad,rfl,hcell⟩:=h.2 (by omega);rw[if_neg (by omega)];refine⟨ad.add (k*size),rfl,fun j u hu=>?_⟩;rw[zce];exact hcell _ u (by rw[← hu,List.getElem?_drop])
theorem Rd.of_own{base:Nat}{e:TypeId}{c:Nat}(h:w.ownsRow base e size (.slice A n c) n xs):Rd w size A n xs:=by
 refine⟨h.1,fun hn=>?_⟩;obtain⟨g,cap,hv,_,hlt⟩:=h.form hn
 have hA:A=some ⟨g,0,none⟩:=by injection hv
 subst hA;exact⟨_,rfl,h.cells (g:=g) rfl⟩
end
theorem Rd.adlt{w:World}{size n:Nat}{A:Option Addr}{xs:List Value}(h:Rd w size A n xs)(hs:0<size):∀ k,adF A n k→k<w.heap.size:=by
 rintro k ⟨h0,ad,rfl,hb⟩;obtain⟨ad',e,hc⟩:=h.2 h0
 injection e with e
 subst e
 have hl:0<xs.length:=by rw[h.1];exact Nat.mul_pos h0 hs
 have:=World.block_lt_of_cell? w _ (hc 0 _ (q6_ hl));rw[zfo] at this;omega
theorem Rd.apart{w:World}{size n:Nat}{A:Option Addr}{xs:List Value}{F:Nat→Prop}(h:Rd w size A n xs)(hs:0<size)(hF:∀ k,F k→w.heap.size≤k):∀ k,adF A n k→¬ F k:=fun k hk hf=>by
 have:=h.adlt hs k hk;have:=hF k hf;omega
theorem Rd.new(w:World)(xs:List Value)(t:TypeId)(n:Nat)(hn:xs.length=n):Rd (w.alloc (.cells xs.toArray t)) 1 (some ⟨w.heap.size,0,none⟩) n xs:=by
 refine⟨by omega,fun _=>⟨_,rfl,fun j u hu=>?_⟩⟩;rw[zdD,Nat.zero_add,(Blk.new w t xs.toArray).cell];simpa using hu
theorem zio{w:World}{F:Nat→Prop}{n:Nat}(h:∀ k,F k→k<w.heap.size):∀ k,adF (some ⟨w.heap.size,0,none⟩) n k→¬ F k:=by
 rintro k ⟨_,ad,e,hb⟩ hf
 injection e with e
 subst e;have:=h k hf;simp only at hb;omega
def zag(v:Value):Nat→Prop:=fun k=>v.ownBlock=some k
section
variable {w w':World} {F:Nat→Prop} {base:Nat} {e:TypeId} {size n:Nat} {v:Value} {xs:List Value}
theorem zcp(h:w.ownsRow base e size v n xs):∀ k,zag v k→k<w.heap.size:=fun k hk=>(h.lt k hk).2
theorem zad(h:w.ownsRow base e size v n xs)(hf:Fr F w w')(hn:∀ k,zag v k→¬ F k):w'.ownsRow base e size v n xs:=by
 refine⟨h.1,?_⟩
 rcases h.2 with h2 | ⟨g,cap,cur,rfl,hb,hg,r⟩
 ·exact .inl h2
 ·exact .inr ⟨g,cap,cur,rfl,hb,(hf.block g (Array.getElem?_eq_some_iff.1 hg).1 (hn g rfl)).trans hg,r⟩
theorem za_(h:w.ownsRow base e size v n xs)(hf:Fr (fun _=>False) w w'):w'.ownsRow base e size v n xs:=zad h hf (fun _ _ h=>h)
theorem zam(h:w.ownsRow base e size v n xs):∃ A c,v=.slice A n c∧n≤c∧c≤maxLen∧Rd w size A n xs:=by
 rcases h.2 with ⟨rfl,rfl⟩ | ⟨g,cap,cur,rfl,hb,hg,h1,h2,_⟩
 ·exact⟨none,0,rfl,Nat.le_refl _,Nat.zero_le _,by have:=h.1;simp at this;subst this;exact Rd.nil_⟩
 ·exact⟨_,cap,rfl,h1,h2,Rd.of_own h⟩
end
section
variable {P:Program} {w:World}
theorem zpg(t ty e:TypeId)(i:TypeInfo)(z:Value)(size bytes:Nat)(ht:P.underlying t=some (.slice e))(hi:P.info? e=some i)(hz:i.zero=some z)
  (hsize:i.size=size) (hby:i.bytes=bytes) (hzs:z.cells.size=size) (hsz:0<size)
  (v:Value) (n:Nat) (xs:List Value) (hown:w.ownsRow 0 e size v n xs)
  (A:Option Addr) (m c:Nat) (news:List Value) (hr:Rd w size A m news) (h1:∀ u∈news,u.oneCell'=true)
  (h63:n+m≤maxLen) (hbytes:(n+m)*bytes≤140737488355328):
  ∃ v' w',(Builtin.append_ #[t,t] ty #[v,.slice A m c]).run P w=.ok v' w'∧w'.ownsRow 0 e size v' (n+m) (xs++news)∧Mv (zag v) (zag v') w w':=by
 rcases A with _ | ad
 ·have hm:m=0:=by
   rcases Nat.eq_zero_or_pos m with h0 | h0
   ·exact h0
   ·obtain⟨ad,h,_⟩:=hr.2 h0
    cases h
  subst hm;have hn:news=[]:=List.eq_nil_of_length_eq_zero (by simpa using hr.1);subst hn;refine⟨v,w,?_,by simpa using hown,Mv.refl _ _⟩
  rcases hown.2 with ⟨rfl,rfl⟩ | ⟨g,cap,cur,rfl,_,_,hnc,_⟩
  ·simp[Builtin.append_,run_underlying ht,sizeOf,typeInfo,hi,Builtin.lenOf,Builtin.firstCells]
  ·simp[Builtin.append_,run_underlying ht,sizeOf,typeInfo,hi,Builtin.lenOf,Builtin.firstCells,hnc,storeCells]
 ·have hcells:∀ j u,news[j]? =some u→w.cell? (ad.add j)=some u:=by
   intro j u hu
   rcases Nat.eq_zero_or_pos m with h0 | h0
   ·subst h0
    have hn:news=[]:=List.eq_nil_of_length_eq_zero (by simpa using hr.1);subst hn;simp at hu
   ·obtain⟨ad',h,hc⟩:=hr.2 h0
    injection h with h
    subst h;exact hc j u hu
  obtain⟨v',w',hrun,h2,h3,_,h5⟩:=run_append_own_at (P:=P) w 0 t ty e i z size bytes ht hi hz hsize hby hzs hsz v n xs hown ad m c news hr.1 hcells h1 h63 hbytes (Nat.zero_le _);refine⟨v',w',hrun,h2,⟨Fr.of_grown h3,fun k hk=>?_⟩⟩
  rcases h5 with h5 | h5
  ·exact .inl (h5.symm.trans hk)
  ·have hk':v'.ownBlock=some k:=hk
   rw[h5] at hk'
   injection hk' with hk'
   exact .inr (by omega)
theorem zeN{ops:Array Oper}{rest:List Oper}{o:Oper}{a:Act}{Q:Exit→Act→World→Prop}(hgd:o.guard=none)(s x:Operand)(t:TypeId)
  (ho:o.op=.call {callee:=.builtin .append,args:=#[s,x],argTypes:=#[t,t]})
  (e:TypeId) (i:TypeInfo) (z:Value) (size bytes:Nat) (ht:P.underlying t=some (.slice e)) (hi:P.info? e=some i) (hz:i.zero=some z)
  (hsize:i.size=size) (hby:i.bytes=bytes) (hzs:z.cells.size=size) (hsz:0<size)
  (v:Value) (n:Nat) (xs:List Value) (hs:a.eval s=v) (hown:w.ownsRow 0 e size v n xs)
  (A:Option Addr) (m c:Nat) (news:List Value) (hx:a.eval x=.slice A m c) (hr:Rd w size A m news) (h1:∀ u∈news,u.oneCell'=true)
  (h63:n+m≤maxLen) (hbytes:(n+m)*bytes≤140737488355328)
  (h:∀ A' c' w',w'.ownsRow 0 e size (.slice A' (n+m) c') (n+m) (xs++news)→Mv (zag v) (zag (.slice A' (n+m) c')) w w'→wpList P ops Q rest (a.put o.dst (.slice A' (n+m) c')) w'):wpList P ops Q (o::rest) a w:=
 wpList_plain hgd fun K hK=>by
  obtain⟨v',w',hrun,h2,h3⟩:=zpg (P:=P) t o.type e i z size bytes ht hi hz hsize hby hzs hsz v n xs hown A m c news hr h1 h63 hbytes;obtain⟨A',c',rfl,_⟩:=zam h2;unfold Oper.wp execOp;simp only[ho,resolve,invoke,builtin,Sem.run_bind,Sem.run_pure,Result.andThen_ok,List.map_toArray,List.map_cons,List.map_nil,hs,hx,hrun];exact hK _ _ (h A' c' w' h2 h3)
theorem zgK(t u ty e:TypeId)(i:TypeInfo)(ht:P.underlying t=some (.slice e))(hu:P.underlying u=some .string)(hi:P.info? e=some i)(hz:i.zero=some (.int .u8 0))
  (hsize:i.size=1) (hby:i.bytes=1) (v:Value) (n:Nat) (xs:List Value) (hown:w.ownsRow 0 e 1 v n xs) (s:ByteArray)
  (h63:n+s.size≤maxLen) (hbytes:n+s.size≤140737488355328):
  ∃ v' w',(Builtin.append_ #[t,u] ty #[v,.string s]).run P w=.ok v' w'∧w'.ownsRow 0 e 1 v' (n+s.size) (xs++Lib.strCells s)∧Mv (zag v) (zag v') w w':=by
 obtain⟨v',w',hr,h2,h3,_⟩:=Lib.run_append_own_string (P:=P) w 0 t u ty e i ht hu hi hz hsize hby v n xs hown s h63 hbytes (Nat.zero_le _);refine⟨v',w',hr,h2,Fr.of_grown h3,fun k hk=>?_⟩
 rcases hown.2 with ⟨rfl,rfl⟩ | ⟨g,cap,cur,rfl,hbg,hg,hnc,hcm,hcs,htake⟩
 ·have hx:xs=[]:=List.eq_nil_of_length_eq_zero (by simpa using hown.1)
  subst hx;obtain⟨v2,w2,hr2,k2,_,_⟩:=Lib.run_append_own_string (P:=P) w w.heap.size t u ty e i ht hu hi hz hsize hby (.slice none 0 0) 0 [] (World.ownsRow_nil w _ e 1) s h63 hbytes (Nat.le_refl _);rw[hr] at hr2
  injection hr2 with e1 e2
  subst e1 e2;exact .inr (k2.lt k hk).1
 ·by_cases hroom:n+s.size≤cap
  ·have hcs':cur.size=cap:=by simpa using hcs
   have hr2:=Lib.run_append_room_string (P:=P) w t u ty e i ht hu hi hsize g n cap cur hg s hroom (by omega);rw[hr] at hr2
   injection hr2 with e1 e2
   subst e1;exact .inl hk
  ·have holds:∀ j u,xs[j]? =some u→w.cell? ((⟨g,0,none⟩:Addr).add j)=some u:=hown.cells (g:=g) rfl
   have hxl:xs.length=n:=by simpa using hown.1
   have hr2:=Lib.run_append_grow_string (P:=P) w t u ty e i (.int .u8 0) ht hu hi hz ⟨g,0,none⟩ n cap xs (by rw[hsize];simpa using hxl) holds s (by omega) (by unfold maxLen at h63;omega) (by rw[hby];exact growslice_fits (by omega) (by omega));rw[hr] at hr2
   injection hr2 with e1 e2
   subst e1;have hk':some w.heap.size=some k:=hk
   injection hk' with hk'
   exact .inr (by omega)
theorem zeM{ops:Array Oper}{rest:List Oper}{o:Oper}{a:Act}{Q:Exit→Act→World→Prop}(hgd:o.guard=none)(sl x:Operand)(t u:TypeId)
  (ho:o.op=.call {callee:=.builtin .append,args:=#[sl,x],argTypes:=#[t,u]})
  (e:TypeId) (i:TypeInfo) (ht:P.underlying t=some (.slice e)) (hu:P.underlying u=some .string) (hi:P.info? e=some i) (hz:i.zero=some (.int .u8 0))
  (hsize:i.size=1) (hby:i.bytes=1)
  (v:Value) (n:Nat) (xs:List Value) (hs:a.eval sl=v) (hown:w.ownsRow 0 e 1 v n xs) (s:ByteArray) (hx:a.eval x=.string s)
  (h63:n+s.size≤maxLen) (hbytes:n+s.size≤140737488355328)
  (h:∀ A' c' w',w'.ownsRow 0 e 1 (.slice A' (n+s.size) c') (n+s.size) (xs++Lib.strCells s)→Mv (zag v) (zag (.slice A' (n+s.size) c')) w w'→wpList P ops Q rest (a.put o.dst (.slice A' (n+s.size) c')) w'):wpList P ops Q (o::rest) a w:=by
 refine wpList_plain hgd fun K hK=>?_;obtain⟨v',w',hr,h2,h3⟩:=zgK (P:=P) t u o.type e i ht hu hi hz hsize hby v n xs hown s h63 hbytes;obtain⟨A',c',rfl,_⟩:=zam h2;unfold Oper.wp execOp;simp only[ho,resolve,invoke,builtin,Sem.run_bind,Sem.run_pure,Result.andThen_ok,List.map_toArray,List.map_cons,List.map_nil,hs,hx,hr];exact hK _ _ (h A' c' w' h2 h3)
end
def bys(l:List UInt8):List Value:=l.map fun b=>.int .u8 (b.toNat:Int)
theorem zhK(a b:List UInt8):bys (a++b)=bys a++bys b:=by simp[bys]
theorem zdK(a:List UInt8):(bys a).length=a.length:=by simp[bys]
theorem zcz(s:ByteArray):s.data.toList.length=s.size:=by rw[Array.length_toList];rfl
theorem zfq{P:Program}{w:World}(src dst e:TypeId)(hs:P.underlying src=some (.slice e))(he:P.underlying e=some (.int .u8))(hd:P.underlying dst=some .string)
  {A:Option Addr} {n:Nat} (c:Nat) {l:List UInt8} (h:Rd w 1 A n (bys l)):(convert src dst (.slice A n c)).run P w=.ok (.string ⟨l.toArray⟩) w:=by
 have hl:n=l.length:=by have:=h.1;rw[zdK] at this;omega
 subst hl
 rcases Nat.eq_zero_or_pos l.length with h0 | h0
 ·have:l=[]:=List.eq_nil_of_length_eq_zero h0
  subst this;rw[run_convert_bytes_string w src dst e A _ c hs he hd]
  rcases A with _ | a
  ·simp[Conv.bytesToString];rfl
  ·have hl:=run_loadCells_list (P:=P) w a (([]:List Int).map (Value.int .u8)) (fun j v hj=>by simp at hj)
   simp only[List.length_map] at hl;exact (run_bytesToString w a _ c [] hl).trans rfl
 ·obtain⟨ad,rfl,hc⟩:=h.2 h0
  exact run_convert_bytes_back w src dst e ad c l hs he hd (fun j hj=>hc j _ (by simp[bys,q6_ hj]))
theorem ziL{P:Program}{w:World}(src dst e:TypeId)(hs:P.underlying src=some .string)(hd:P.underlying dst=some (.slice e))(he:P.underlying e=some (.int .u8))(s:ByteArray):
  ∃ c w',(convert src dst (.string s)).run P w=.ok (.slice (some ⟨w.heap.size,0,none⟩) s.size c) w'∧Fr (fun _=>False) w w'∧Rd w' 1 (some ⟨w.heap.size,0,none⟩) s.size (bys s.data.toList):=by
 refine⟨_,_,Lib.run_convert_string_bytes w src dst e s hs hd he,⟨rfl,rfl,rfl,?_,?_⟩,⟨?_,?_⟩⟩
 ·rw[Lib.bytesWorld_size];omega
 ·intro k hk _;exact Lib.bytesWorld_at_old w e s k hk
 ·rw[zdK,zcz];omega
 ·refine fun _=>⟨_,rfl,fun j u hu=>?_⟩
  have hj:j<s.size:=by
   have:=(List.getElem?_eq_some_iff.1 hu).1;rwa[zdK,zcz] at this
  rw[zdD,Nat.zero_add,Lib.bytesWorld_cell w e s j hj, ← hu]
  have hj':j<s.data.toList.length:=by rw[zcz];exact hj
  simp only[bys,List.getElem?_map,q6_ hj',Option.map_some,List.getD,Option.getD_some]
/- A contract that says 'w = w'' in a region that draws. -/
section
variable {P:Program} {f:FuncId} {args:Array Value} {w:World}
theorem zbk{n:Nat}{v:Value}(h:Calls P f args (w.drewN n) fun e w'=>e=.returned v∧w.drewN n=w'):Calls P f args (w.drewN n) fun e w''=>e=.returned v∧∃ m,w''=w.drewN m:=
 h.mono fun _ _ ⟨he,hm⟩=>⟨he,n,hm.symm⟩
theorem zeR{v:Value}(h:Calls P f args w fun e w'=>e=.returned v∧w=w'):Calls P f args w fun e w''=>e=.returned v∧w''=w:=
 h.mono fun _ _ ⟨he,hm⟩=>⟨he,hm.symm⟩
end
theorem ziJ{w:World}{g i:Nat}{v:Value}(h:w.cell? ⟨g,i,none⟩=some v):w.setCell ⟨g,i,none⟩ v=w:=by
 obtain⟨heap,tape,drawn,os,output⟩:=w;simp only[World.setCell,World.mk.injEq,and_true]
 apply Array.ext_getElem?
 intro k;rw[Array.getElem?_modify]
 split
 ·subst k
  simp only[World.cell?] at h
  cases hg:heap[g]? with
  | none=>rfl
  | some o=>
   rw[hg] at h
   cases o<;>simp at h
   rename_i c t fz
   simp only[Option.map_some,Option.isSome_none,Bool.false_eq_true,if_false,Option.some.injEq,Obj.cells.injEq,and_true]
   apply Array.ext_getElem?
   intro j;rw[Array.getElem?_setIfInBounds]
   split
   ·subst j
    rw[h]
    have:i<c.size:=by
     rcases Nat.lt_or_ge i c.size with h1 | h1
     ·exact h1
     ·rw[Array.getElem?_eq_none h1] at h;cases h
    simp[this]
   ·rfl
 ·rfl
structure Own(w:World)(a:World)(F:Nat→Prop):Prop where
 bel:Below w.heap.size w a
 new:∀ k,F k→w.heap.size≤k
section
variable {w a b:World} {F F':Nat→Prop}
theorem Own.mv(h:Own w a F)(m:Mv F F' a b):Own w b F':=
 ⟨h.bel.trans (m.fr.below_of h.bel.size h.new),fun k hk=>by
  rcases m.sub k hk with h1 | h1
  ·exact h.new k h1
  ·exact Nat.le_trans h.bel.size h1⟩
theorem Own.fr(h:Own w a F)(m:Fr F a b):Own w b F:=⟨h.bel.trans (m.below_of h.bel.size h.new),h.new⟩
theorem Own.skip(h:Own w a F)(m:Fr (fun _=>False) a b):Own w b F:=⟨h.bel.trans (m.below_of h.bel.size (fun _ hf=>hf.elim)),h.new⟩
theorem Own.below(h:Own w a F)(m:Below a.heap.size a b):Own w b F:=h.skip (Fr.of_below m)
theorem Own.also{G:Nat→Prop}(h:Own w a F)(hg:∀ k,G k→w.heap.size≤k):Own w a G:=⟨h.bel,hg⟩
theorem Own.start(w:World):Own w w (fun _=>False):=⟨Below.refl _ _,fun _ h=>h.elim⟩
end
theorem zmh{P:Program}{w w':World}{n:String}{k:IntKind}{zs:List Int}(h:Lib.TabIs P w n k zs)(hb:Below w.heap.size w w'):Lib.TabIs P w' n k zs:=by
 unfold Lib.TabIs at h ⊢;unfold World.var? at h ⊢
 cases hg:P.globalNamed n with
 | none=>simp[hg] at h
 | some g=>
  simp only[hg,Option.bind_some] at h ⊢
  have hlt:g<w.heap.size:=by
   rcases Nat.lt_or_ge g w.heap.size with h' | h'
   ·exact h'
   ·simp[Array.getElem?_eq_none h'] at h
  rw[hb.block g hlt];exact h
theorem Blk.new'{w:World}{k:Nat}(hk:k=w.heap.size)(t:TypeId)(cs:Array Value):Blk (w.alloc (.cells cs t)) k t cs:=hk▸Blk.new w t cs
theorem Fr.b0{w w':World}(h:Below w.heap.size w w'):Fr (fun _=>False) w w':=Fr.of_below h
theorem Blk.below{w w':World}{g:Nat}{t:TypeId}{cs:Array Value}(h:Blk w g t cs)(hb:Below w.heap.size w w'):Blk w' g t cs:=h.fr (F:=fun _=>False) (Fr.of_below hb) (fun h=>h)
theorem zkQ{w:World}{p:Addr}{v:Value}(h:w.cell? p=some v):∀ o1 o2,((w.alloc o1).alloc o2).cell? p=some v:=fun _ _=>
 (Fr.none_alloc _ _).cell ((Fr.none_alloc _ _).cell h (fun h=>h)) (fun h=>h)
theorem znB(w:World)(v:Value)(t:TypeId):(w.alloc (.cells #[v] t)).cell? ⟨w.heap.size,0,none⟩=some v:=(Blk.new w t #[v]).cell 0
theorem Rd.newS{w:World}{k:Nat}(hk:k=w.heap.size)(xs:List Value)(t:TypeId)(n size:Nat)(hn:xs.length=n*size):Rd (w.alloc (.cells xs.toArray t)) size (some ⟨k,0,none⟩) n xs:=by
 subst hk;refine⟨hn,fun _=>⟨_,rfl,fun j u hu=>?_⟩⟩;rw[zdD,Nat.zero_add,(Blk.new w t xs.toArray).cell];simpa using hu
theorem zbW(a:Addr)(n:Nat)(h:n≠0):a.add n=⟨a.block,a.off+n,none⟩:=by simp[Addr.add,h]
theorem Rd.take{w:World}{size n:Nat}{A:Option Addr}{xs:List Value}(h:Rd w size A n xs){k:Nat}(hk:k≤n):Rd w size A k (xs.take (k*size)):=by
 refine⟨by rw[List.length_take,h.1];exact Nat.min_eq_left (Nat.mul_le_mul_right _ hk),fun h0=>?_⟩;obtain⟨ad,rfl,hc⟩:=h.2 (by omega);refine⟨ad,rfl,fun j u hu=>hc j u ?_⟩;rw[List.getElem?_take] at hu
 split at hu
 ·exact hu
 ·cases hu
theorem Blk.set3{w:World}{g:Nat}{t:TypeId}{a0 b0 c0 a b c:Value}(h:Blk w g t #[a0,b0,c0]):Blk (((w.setCell ⟨g,0,none⟩ a).setCell ⟨g,1,none⟩ b).setCell ⟨g,2,none⟩ c) g t #[a,b,c]:=by
 have:=((h.set_ 0 a).set_ 1 b).set_ 2 c;simpa using this
theorem Fr.set3{w1 w:World}{F:Nat→Prop}(h:Fr F w1 w){g:Nat}(hg:F g∨w1.heap.size≤g)(a b c:Value):Fr F w1 (((w.setCell ⟨g,0,none⟩ a).setCell ⟨g,1,none⟩ b).setCell ⟨g,2,none⟩ c):=
 ((h.setCell (p:=⟨g,0,none⟩) hg a).setCell (p:=⟨g,1,none⟩) hg b).setCell (p:=⟨g,2,none⟩) hg c
theorem zbZ{α:Type}{f:α→List Value}{size:Nat}(hf:∀ x,(f x).length=size)(l:List α):(l.flatMap f).length=l.length*size:=by
 induction l with
 | nil=>simp
 | cons a l ih=>rw[List.flatMap_cons,q8_,ih,hf,List.length_cons,Nat.succ_mul,Nat.add_comm]
theorem zl4{α:Type}{f:α→List Value}{size:Nat}(hf:∀ x,(f x).length=size){l:List α}{k:Nat}{x:α}(h:l[k]? =some x)(j:Nat)(hj:j<size):(l.flatMap f)[k*size+j]? =(f x)[j]? :=by
 induction l generalizing k with
 | nil=>simp at h
 | cons a l ih=>
  rw[List.flatMap_cons]
  rcases k with _ | k
  ·simp only[q3_,Option.some.injEq] at h
   subst h;rw[Nat.zero_mul,Nat.zero_add,List.getElem?_append_left (by rw[hf];exact hj)]
  ·simp only[q2_] at h
   rw[List.getElem?_append_right (by rw[hf,Nat.succ_mul];omega),hf,show (k+1)*size+j-size=k*size+j by rw[Nat.succ_mul];omega];exact ih h
theorem Rd.elem{α:Type}{f:α→List Value}{w:World}{size n k:Nat}{A:Option Addr}{l:List α}(hf:∀ x,(f x).length=size)(h:Rd w size A n (l.flatMap f))(hk:k<n)(hs:0<size):
  ∃ ad x,A=some ad∧l[k]? =some x∧∀ j u,(f x)[j]? =some u→w.cell? ((ad.add (k*size)).add j)=some u:=by
 have hl:l.length=n:=by
  have:=h.1;rw[zbZ hf] at this;exact Nat.eq_of_mul_eq_mul_right hs this
 obtain⟨ad,e,hc⟩:=h.2 (by omega);refine⟨ad,l[k],e,q6_ (by omega),fun j u hu=>?_⟩
 have hj:j<size:=by rw[← hf l[k]];exact (List.getElem?_eq_some_iff.1 hu).1
 rw[zce];exact hc _ u (by rw[zl4 hf (q6_ (show k<l.length by omega)) j hj];exact hu)
theorem Rd.elems_len{α:Type}{f:α→List Value}{w:World}{size n:Nat}{A:Option Addr}{l:List α}(hf:∀ x,(f x).length=size)(hs:0<size)(h:Rd w size A n (l.flatMap f)):l.length=n:=by
 have:=h.1;rw[zbZ hf] at this;exact Nat.eq_of_mul_eq_mul_right hs this
theorem zb9(a:Addr):a.add 0=a:=by simp[Addr.add]
theorem zcH{w:World}{base n size c:Nat}{e:TypeId}{A:Option Addr}{xs:List Value}(h:w.ownsRow base e size (.slice A n c) n xs)(hn:0<n):∃ g,A=some ⟨g,0,none⟩:=by
 rcases h.2 with ⟨_,h2⟩ | ⟨g,cap,cur,hv,_⟩
 ·omega
 ·injection hv with e1 _ _
  exact⟨g,e1⟩
theorem zjM{w:World}{base n size c g:Nat}{e:TypeId}{xs:List Value}(h:w.ownsRow base e size (.slice (some ⟨g,0,none⟩) n c) n xs):∃ cs,Blk w g e cs:=by
 rcases h.2 with ⟨h2,_⟩ | ⟨g',cap,cur,hv,hb,hg,_⟩
 ·cases h2
 ·injection hv with e1 _ _
  injection e1 with e1
  injection e1 with e1
  subst e1;exact⟨cur,hg⟩
structure zak where
 text:ByteArray
 line:Int
 col:Int
def zak.cells(x:zak):List Value:=[.string x.text,.int .i64 x.line,.int .i64 x.col]
def zak.val(x:zak):Value:=.agg #[.string x.text,.int .i64 x.line,.int .i64 x.col]
def zaJ(l:List zak):List Value:=l.flatMap zak.cells
theorem zc8(x:zak):x.cells.length=3:=rfl
theorem zbH(a b:List zak):zaJ (a++b)=zaJ a++zaJ b:=by simp[zaJ]
theorem zk0(l:List zak):∀ u∈zaJ l,u.oneCell'=true:=by
 intro u hu;obtain⟨x,_,h⟩:=List.mem_flatMap.1 hu;unfold zak.cells at h;simp only[List.mem_cons,List.not_mem_nil,or_false] at h
 rcases h with rfl | rfl | rfl<;>rfl
theorem zk1(l:List zak):(zaJ l).length=l.length*3:=by
 unfold zaJ
 induction l with
 | nil=>rfl
 | cons x t ih=>rw[List.flatMap_cons,q8_,ih,zc8,List.length_cons,Nat.succ_mul];omega
def zeF(c:UInt8):Bool:=(c.toNat==32)||(c.toNat==9)
def zcc(c:UInt8):Bool:=decide (32<c.toNat)&&decide (c.toNat<127)
def zgR(out:List zak)(t:ByteArray):List zak:=
 match out.getLast? with
 | some x=>out.dropLast++[{x with text:=t}]
 | none=>out
def zbi(s:ByteArray)(n:Int)(i:Nat)(c:UInt8)(out:List zak)(b:Int):Option (List zak×Int):=
 if !zeF c&& !zcc c then none
 else if zeF c then some (out, -1)
 else if b<0 then some (out++[⟨s.extract i (i+1),n,(i:Int)+1⟩],(i:Int))
 else some (zgR out (s.extract b.toNat (i+1)),b)
def zbs(s:ByteArray)(n:Int):Nat→Option (List zak×Int)
 | 0=>some ([], -1)
 | i+1=>match zbs s n i with
  | none=>none
  | some p=>match s.data.toList[i]? with
   | none=>some p
   | some c=>zbi s n i c p.1 p.2
def zfv(s:ByteArray):Bool:=s.data.toList.head?==some 35
def zdO(s:ByteArray)(n:Int):Option (List zak):=(zbs s n s.size).map fun p=>p.1.takeWhile fun x=> !zfv x.text
theorem zef{s:ByteArray}{n:Int}{i:Nat}(h:zbs s n i=none):∀ k,zbs s n (i+k)=none
 | 0=>h
 | k+1=>by
  show (match zbs s n (i+k) with | none=>none | some p=>match s.data.toList[i+k]? with | none=>some p | some c=>zbi s n (i+k) c p.1 p.2)=none
  rw[zef h k]
theorem zlA{s:ByteArray}{n:Int}{i:Nat}(hi:i≤s.size)(h:zbs s n i=none):zdO s n=none:=by
 unfold zdO;have:=zef h (s.size-i);rw[show i+(s.size-i)=s.size by omega] at this;rw[this];rfl
theorem zgm(out:List zak)(t:ByteArray):(zgR out t).length=out.length:=by
 unfold zgR
 cases h:out.getLast? with
 | none=>rfl
 | some x=>
  have:out≠[]:=by rintro rfl;cases h
  have:=List.length_pos_iff.2 this;simp;omega
structure zeJ(s:ByteArray)(n:Int)(i:Nat)(out:List zak)(b:Int):Prop where
 full:∀ x∈out,1≤x.text.size∧x.text.size≤i
 lines:∀ x∈out,x.line=n
 cols:∀ x∈out,1≤x.col∧x.col≤i
 len:out.length≤i
 lo: -1≤b
 hi:b<(i:Int)
 last:0≤b→out≠[]
theorem zfl{s:ByteArray}{a b:Nat}(h:b≤s.size):(s.extract a b).size=b-a:=by
 rw[ByteArray.size_extract];omega
theorem zeJ.zero{s:ByteArray}{n:Int}:zeJ s n 0 [] (-1):=⟨fun _ h=>(by cases h),fun _ h=>(by cases h),fun _ h=>(by cases h),Nat.le_refl _,Int.le_refl _,by decide,fun h=>absurd h (by decide)⟩
theorem zgl{out:List zak}{t:ByteArray}{x:zak}(h:x∈zgR out t):x∈out∨∃ y∈out,x={y with text:=t}:=by
 unfold zgR at h
 cases hl:out.getLast? with
 | none=>rw[hl] at h;exact .inl h
 | some y=>
  rw[hl] at h
  rcases List.mem_append.1 h with h | h
  ·exact .inl (List.dropLast_subset _ h)
  ·rw[List.mem_singleton] at h
   exact .inr ⟨y,List.mem_of_getLast? hl,h⟩
theorem zeJ.step{s:ByteArray}{n:Int}{i:Nat}{c:UInt8}{out out':List zak}{b b':Int}(h:zeJ s n i out b)(hi:i<s.size)(hs:zbi s n i c out b=some (out',b')):zeJ s n (i+1) out' b':=by
 unfold zbi at hs;have hlo:=h.lo;have hhi:=h.hi
 split at hs
 ·cases hs
 split at hs
 ·injection hs with hs
  injection hs with h1 h2
  subst h1 h2;exact⟨fun x hx=>by have:=h.full x hx;omega,h.lines,fun x hx=>by have:=h.cols x hx;omega,by have:=h.len;omega,by omega,by omega,fun h=>absurd h (by decide)⟩
 split at hs
 ·injection hs with hs
  injection hs with h1 h2
  subst h1 h2;refine⟨fun x hx=>?_,fun x hx=>?_,fun x hx=>?_,by have:=h.len;simp;omega,by omega,by omega,fun _=>by simp⟩
  all_goals
   rcases List.mem_append.1 hx with hx | hx
  ·have:=h.full x hx;omega
  ·rw[List.mem_singleton] at hx
   subst hx
   show 1≤(s.extract i (i+1)).size∧(s.extract i (i+1)).size≤i+1
   rw[zfl (by omega)];omega
  ·exact h.lines x hx
  ·rw[List.mem_singleton] at hx;subst hx;rfl
  ·have:=h.cols x hx;omega
  ·rw[List.mem_singleton] at hx
   subst hx
   show (1:Int)≤(i:Int)+1∧(i:Int)+1≤((i+1:Nat):Int)
   omega
 ·rename_i hb
  injection hs with hs
  injection hs with h1 h2
  subst h1 h2;refine⟨fun x hx=>?_,fun x hx=>?_,fun x hx=>?_,by rw[zgm];have:=h.len;omega,hlo,by omega,fun _ e=>?_⟩
  ·rcases zgl hx with hx | ⟨y,hy,rfl⟩
   ·have:=h.full x hx;omega
   ·show 1≤(s.extract _ _).size∧(s.extract _ _).size≤i+1
    rw[zfl (by omega)];omega
  ·rcases zgl hx with hx | ⟨y,hy,rfl⟩
   ·exact h.lines x hx
   ·exact h.lines y hy
  ·rcases zgl hx with hx | ⟨y,hy,rfl⟩
   ·have:=h.cols x hx;omega
   ·have:=h.cols y hy
    show (1:Int)≤y.col∧y.col≤((i+1:Nat):Int)
    omega
  ·have h1:=h.last (by omega)
   have:=zgm out (s.extract b.toNat (i+1));rw[e] at this;exact h1 (List.eq_nil_of_length_eq_zero this.symm)
theorem zgc{s:ByteArray}{n:Int}{i:Nat}(hi:i<s.size){out:List zak}{b:Int}(h:zbs s n i=some (out,b)):zbs s n (i+1)=zbi s n i s[i] out b:=by
 have hc:s.data.toList[i]? =some s[i]:=by
  have hl:i<s.data.size:=hi;rw[Array.getElem?_toList,Array.getElem?_eq_getElem hl];rfl
 show (match zbs s n i with | none=>none | some p=>match s.data.toList[i]? with | none=>some p | some c=>zbi s n i c p.1 p.2)=_
 rw[h,hc]
theorem zhz(D:List zak)(x:zak)(t:ByteArray):zgR (D++[x]) t=D++[{x with text:=t}]:=by
 unfold zgR;simp
theorem zjp{out:List zak}(h:out≠[])(t:ByteArray):zaJ (zgR out t)=(zaJ out).set ((out.length-1)*3) (.string t):=by
 obtain⟨D,x,rfl⟩:∃ D x,out=D++[x]:=⟨out.dropLast,out.getLast h,(List.dropLast_concat_getLast h).symm⟩
 rw[zhz,zbH,zbH];have hl:=zk1 D;rw[List.set_append_right _ _ (by rw[hl,q8_,List.length_singleton];omega)]
 congr 1
 rw[hl,q8_,List.length_singleton,show (D.length+1-1)*3-D.length*3=0 by omega]
 rfl
theorem zol{w:World}{base n size c g k:Nat}{e:TypeId}{xs:List Value}{v:Value}(h:w.ownsRow base e size (.slice (some ⟨g,0,none⟩) n c) n xs):(w.setCell ⟨g,k,none⟩ v).ownsRow base e size (.slice (some ⟨g,0,none⟩) n c) n (xs.set k v):=by
 obtain⟨h1,h2⟩:=h;refine⟨by rw[List.length_set];exact h1,?_⟩
 rcases h2 with ⟨h2,_⟩ | ⟨g',cap,cur,hv,hb,hg,h3,h4,h5,h6⟩
 ·cases h2
 ·injection hv with e1 _ e3
  injection e1 with e1
  injection e1 with e1
  subst e1 e3;refine .inr ⟨g,c,cur.setIfInBounds k v,rfl,hb,?_,h3,h4,by simp[h5],?_⟩
  ·rw[Sort.setCell_eq]
   unfold Sort.mapBlock;rw[Array.getElem?_modify,if_pos rfl,hg]
   rfl
  ·rw[← h6,Array.toList_setIfInBounds,List.take_set]
def zj4:List ByteArray→Nat→List zak→List zak ⊕ Nat
 | [],_,acc=>.inl acc
 | s::t,i,acc=>match zdO s ((i:Int)+1) with
  | none=>.inr (i+1)
  | some l=>zj4 t (i+1) (acc++l)
def za8:List zak→List zak
 | []=>[]
 | x::t=>x::t.takeWhile fun y=>y.line==x.line
theorem zm6(l:List zak):(za8 l).length≤l.length:=by
 cases l with
 | nil=>exact Nat.le_refl _
 | cons x t=>
  unfold za8;have:=(List.takeWhile_sublist (fun y:zak=>y.line==x.line) (l:=t)).length_le;simp only[List.length_cons];omega
section
variable {P:Program} {w:World}
theorem zhZ(t ty e:TypeId)(i:TypeInfo)(z:Value)(size bytes:Nat)(ht:P.underlying t=some (.slice e))(hi:P.info? e=some i)(hz:i.zero=some z)
  (hsize:i.size=size) (hby:i.bytes=bytes) (hzs:z.cells.size=size) (hsz:0<size)
  (v:Value) (n:Nat) (xs:List Value) (base:Nat) (hbase:base≤w.heap.size) (hown:w.ownsRow base e size v n xs)
  (A:Option Addr) (m c:Nat) (news:List Value) (hr:Rd w size A m news) (h1:∀ u∈news,u.oneCell'=true)
  (h63:n+m≤maxLen) (hbytes:(n+m)*bytes≤140737488355328):
  ∃ v' w',(Builtin.append_ #[t,t] ty #[v,.slice A m c]).run P w=.ok v' w'∧w'.ownsRow base e size v' (n+m) (xs++news)∧Mv (zag v) (zag v') w w'∧∀ A0 c0,v=.slice A0 n c0→Rd w' size A0 n xs:=by
 rcases A with _ | ad
 ·have hm:m=0:=by
   rcases Nat.eq_zero_or_pos m with h0 | h0
   ·exact h0
   ·obtain⟨ad,h,_⟩:=hr.2 h0
    cases h
  subst hm;have hn:news=[]:=List.eq_nil_of_length_eq_zero (by simpa using hr.1);subst hn;refine⟨v,w,?_,by simpa using hown,Mv.refl _ _,fun A0 c0 e0=>by subst e0;exact Rd.of_own hown⟩
  rcases hown.2 with ⟨rfl,rfl⟩ | ⟨g,cap,cur,rfl,_,_,hnc,_⟩
  ·simp[Builtin.append_,run_underlying ht,sizeOf,typeInfo,hi,Builtin.lenOf,Builtin.firstCells]
  ·simp[Builtin.append_,run_underlying ht,sizeOf,typeInfo,hi,Builtin.lenOf,Builtin.firstCells,hnc,storeCells]
 ·have hcells:∀ j u,news[j]? =some u→w.cell? (ad.add j)=some u:=by
   intro j u hu
   rcases Nat.eq_zero_or_pos m with h0 | h0
   ·subst h0
    have hn:news=[]:=List.eq_nil_of_length_eq_zero (by simpa using hr.1);subst hn;simp at hu
   ·obtain⟨ad',h,hc⟩:=hr.2 h0
    injection h with h
    subst h;exact hc j u hu
  obtain⟨v',w',hrun,h2,h3,_,h5⟩:=run_append_own_at (P:=P) w base t ty e i z size bytes ht hi hz hsize hby hzs hsz v n xs hown ad m c news hr.1 hcells h1 h63 hbytes hbase;refine⟨v',w',hrun,h2,⟨Fr.of_grown h3,fun k hk=>?_⟩,?_⟩
  ·rcases h5 with h5 | h5
   ·exact .inl (h5.symm.trans hk)
   ·have hk':v'.ownBlock=some k:=hk
    rw[h5] at hk'
    injection hk' with hk'
    exact .inr (by omega)
  ·intro A0 c0 e0
   rcases hown.2 with ⟨hv,rfl⟩ | ⟨g,cap,cur,hv,hbg,hg,hnc,hcm,hcs,htake⟩
   ·rw[hv] at e0
    injection e0 with e1 e2 e3
    subst e1;have hx:xs=[]:=List.eq_nil_of_length_eq_zero (by simpa using hown.1);subst hx;exact Rd.nil_
   ·rw[hv] at e0
    injection e0 with e1 e2 e3
    subst e1;subst hv
    by_cases hroom:n+m≤cap
    ·have hl:news.length=m*i.size:=by rw[hsize];exact hr.1
     have hr2:=run_append_room (P:=P) w t ty e i ht hi g n cap cur hg ad m c news hl hcells h1 hroom (by rw[hl, ← Nat.add_mul,hsize,hcs];exact Nat.mul_le_mul_right _ hroom);rw[hrun] at hr2
     injection hr2 with f1 f2
     subst f1;have:=(Rd.of_own h2).take (k:=n) (by omega);rwa[show n*size=xs.length by rw[hown.1],List.take_left' rfl] at this
    ·have hxl:xs.length=n*size:=hown.1
     have holds:∀ j u,xs[j]? =some u→w.cell? ((⟨g,0,none⟩:Addr).add j)=some u:=hown.cells (g:=g) rfl;have hr2:=run_append_grow (P:=P) w t ty e i z ht hi hz ⟨g,0,none⟩ n cap xs (by rw[hsize];exact hxl) holds ad m c news (by rw[hsize];exact hr.1) hcells (by omega) (by unfold maxLen at h63;omega) (by rw[hby];exact growslice_fits (by omega) hbytes);rw[hrun] at hr2
     injection hr2 with f1 f2
     subst f2;exact ((Rd.of_own hown).drew).alloc _
theorem zaq{ops:Array Oper}{rest:List Oper}{o:Oper}{a:Act}{Q:Exit→Act→World→Prop}(hgd:o.guard=none)(s x:Operand)(t:TypeId)
  (ho:o.op=.call {callee:=.builtin .append,args:=#[s,x],argTypes:=#[t,t]})
  (e:TypeId) (i:TypeInfo) (z:Value) (size bytes:Nat) (ht:P.underlying t=some (.slice e)) (hi:P.info? e=some i) (hz:i.zero=some z)
  (hsize:i.size=size) (hby:i.bytes=bytes) (hzs:z.cells.size=size) (hsz:0<size)
  (v:Value) (n:Nat) (xs:List Value) (hs:a.eval s=v) (base:Nat) (hbase:base≤w.heap.size) (hown:w.ownsRow base e size v n xs)
  (A:Option Addr) (m c:Nat) (news:List Value) (hx:a.eval x=.slice A m c) (hr:Rd w size A m news) (h1:∀ u∈news,u.oneCell'=true)
  (h63:n+m≤maxLen) (hbytes:(n+m)*bytes≤140737488355328)
  (h:∀ A' c' w',w'.ownsRow base e size (.slice A' (n+m) c') (n+m) (xs++news)→Mv (zag v) (zag (.slice A' (n+m) c')) w w'→(∀ A0 c0,v=.slice A0 n c0→Rd w' size A0 n xs)→wpList P ops Q rest (a.put o.dst (.slice A' (n+m) c')) w'):wpList P ops Q (o::rest) a w:=
 wpList_plain hgd fun K hK=>by
  obtain⟨v',w',hrun,h2,h3,h4⟩:=zhZ (P:=P) t o.type e i z size bytes ht hi hz hsize hby hzs hsz v n xs base hbase hown A m c news hr h1 h63 hbytes;obtain⟨A',c',rfl,_⟩:=zam h2;unfold Oper.wp execOp;simp only[ho,resolve,invoke,builtin,Sem.run_bind,Sem.run_pure,Result.andThen_ok,List.map_toArray,List.map_cons,List.map_nil,hs,hx,hrun];exact hK _ _ (h A' c' w' h2 h3 h4)
end
theorem zc0{w:World}{base n size k:Nat}{e:TypeId}{v:Value}{xs:List Value}(h:w.ownsRow base e size v n xs)(hk:zag v k):∃ cs fz,w.heap[k]? =some (.cells cs e fz):=by
 rcases h.2 with ⟨rfl,_⟩ | ⟨g,cap,cur,rfl,_,hg,_⟩
 ·cases hk
 ·have hk':some g=some k:=hk
  injection hk' with hk'
  subst hk';exact⟨_,_,hg⟩
theorem zaL{w:World}{base base' size n:Nat}{e:TypeId}{v:Value}{xs:List Value}(h:w.ownsRow base e size v n xs)(hb:base'≤base):w.ownsRow base' e size v n xs:=by
 refine⟨h.1,?_⟩
 rcases h.2 with h2 | ⟨g,cap,cur,hv,hg,r⟩
 ·exact .inl h2
 ·exact .inr ⟨g,cap,cur,hv,Nat.le_trans hb hg,r⟩
def Off(w:World)(F:Nat→Prop)(ts:List TypeId):Prop:=∀ k,F k→∀ cs t fz,w.heap[k]? =some (.cells cs t fz)→t∉ts
theorem Off.none(w:World)(ts:List TypeId):Off w (fun _=>False) ts:=fun _ h=>h.elim
theorem Off.row{w:World}{base n size:Nat}{e:TypeId}{v:Value}{xs:List Value}{ts:List TypeId}(h:w.ownsRow base e size v n xs)(hn:e∉ts):Off w (zag v) ts:=fun k hk cs t fz hg=>by
 obtain⟨cs',fz',hg'⟩:=zc0 h hk;rw[hg] at hg'
 injection hg' with hg'
 injection hg' with _ ht
 subst ht;exact hn
theorem Off.blk{w:World}{g:Nat}{t:TypeId}{cs:Array Value}{ts:List TypeId}(h:Blk w g t cs)(hn:t∉ts):Off w (fun k=>k=g) ts:=fun k hk cs' t' fz hg=>by
 subst hk;unfold Blk at h;rw[h] at hg
 injection hg with hg
 injection hg with _ ht
 subst ht;exact hn
theorem Off.or{w:World}{F G:Nat→Prop}{ts:List TypeId}(h:Off w F ts)(k:Off w G ts):Off w (fun i=>F i∨G i) ts:=fun i hi=>hi.elim (h i) (k i)
theorem Off.own{w w':World}{F:Nat→Prop}{ts:List TypeId}{base n size:Nat}{e:TypeId}{v:Value}{xs:List Value}(ho:Off w F ts)(h:w.ownsRow base e size v n xs)(he:e∈ts)(hf:Fr F w w'):w'.ownsRow base e size v n xs:=
 zad h hf fun k hk hF=>by
  obtain⟨cs,fz,hg⟩:=zc0 h hk;exact ho k hF _ _ _ hg he
theorem Off.blkf{w w':World}{F:Nat→Prop}{ts:List TypeId}{g:Nat}{t:TypeId}{cs:Array Value}(ho:Off w F ts)(h:Blk w g t cs)(ht:t∈ts)(hf:Fr F w w'):Blk w' g t cs:=
 h.fr hf fun hF=>ho g hF _ _ _ h ht
structure HV(α:Type) where
 v:Value
 l:List α
structure zcm{α:Type}(f:α→List Value)(w:World)(base:Nat)(e:TypeId)(size:Nat)(hs:List (HV α)):Prop where
 own:∀ h∈hs,w.ownsRow base e size h.v h.l.length (h.l.flatMap f)
 apart:hs.Pairwise fun a b=>∀ k,zag a.v k→¬ zag b.v k
def zaP{α:Type}(hs:List (HV α)):Nat→Prop:=fun k=>∃ h∈hs,zag h.v k
structure zel{α:Type}(f:α→List Value)(w:World)(base:Nat)(E e:TypeId)(size:Nat)(V U:Value)(hs us:List (HV α)):Prop where
 lists:zcm f w base e size hs
 row:w.ownsRow base E 1 V hs.length (hs.map HV.v)
 wrow:w.ownsRow base E 1 U us.length (us.map HV.v)
 uv:∀ k,zag V k→¬ zag U k
 was:∀ h∈us,w.ownsRow base e size h.v h.l.length (h.l.flatMap f)
 same:us.map HV.l=hs.map HV.l
section
variable {α:Type} {f:α→List Value} {w w':World} {base:Nat} {E e:TypeId} {size:Nat} {V U:Value} {hs us:List (HV α)} {F:Nat→Prop}
theorem Off.lists(h:zcm f w base e size hs){ts:List TypeId}(hn:e∉ts):Off w (zaP hs) ts:=fun k ⟨x,hx,hk⟩=>Off.row (h.own x hx) hn k hk
theorem zcm.fr(h:zcm f w base e size hs)(hf:Fr F w w'){ts:List TypeId}(ho:Off w F ts)(he:e∈ts):zcm f w' base e size hs:=⟨fun x hx=>ho.own (h.own x hx) he hf,h.apart⟩
theorem zcm.fr0(h:zcm f w base e size hs)(hf:Fr (fun _=>False) w w'):zcm f w' base e size hs:=h.fr hf (Off.none w [e]) (by simp)
theorem zel.fr(h:zel f w base E e size V U hs us)(hf:Fr F w w'){ts:List TypeId}(ho:Off w F ts)(hE:E∈ts)(he:e∈ts):zel f w' base E e size V U hs us:=
 ⟨h.lists.fr hf ho he,ho.own h.row hE hf,ho.own h.wrow hE hf,h.uv,fun x hx=>ho.own (h.was x hx) he hf,h.same⟩
theorem zel.fr0(h:zel f w base E e size V U hs us)(hf:Fr (fun _=>False) w w'):zel f w' base E e size V U hs us:=h.fr hf (Off.none w [E,e]) (by simp) (by simp)
theorem zel.nil:zel f w base E e size (.slice none 0 0) (.slice none 0 0) ([]:List (HV α)) []:=
 ⟨⟨fun x hx=>(by cases hx),List.Pairwise.nil⟩,World.ownsRow_nil _ _ _ _,World.ownsRow_nil _ _ _ _,fun k hk=>(by cases hk),fun x hx=>(by cases hx),rfl⟩
theorem zel.len(h:zel f w base E e size V U hs us):us.length=hs.length:=by have:=congrArg List.length h.same;simpa using this
theorem zel.new(h:zel f w base E e size V U hs us):∀ k,zaP hs k→base≤k∧k<w.heap.size:=fun k ⟨x,hx,hk⟩=>(h.lists.own x hx).lt k hk
end
def ziI(w:World)(g:Nat):Nat→List Value→World
 | _,[]=>w
 | p,u::us=>ziI (w.setCell ⟨g,p,none⟩ u) g (p+1) us
def ziH(xs:List Value):Nat→List Value→List Value
 | _,[]=>xs
 | p,u::us=>ziH (xs.set p u) (p+1) us
theorem zg1:∀ (us A B C:List Value),us.length=B.length→ziH (A++(B++C)) A.length us=A++(us++C)
 | [],A,B,C,h=>by
  have:B=[]:=List.eq_nil_of_length_eq_zero (by simpa using h.symm);subst this
  rfl
 | u::us,A,[],C,h=>by simp at h
 | u::us,A,b::B,C,h=>by
  have:=zg1 us (A++[u]) B C (by simpa using h);simp only[ziH];rw[show (A++(b::B++C)).set A.length u=(A++[u])++(B++C) by simp,show A.length+1=(A++[u]).length by simp,this];simp
theorem zeU{base size n g cap:Nat}{e:TypeId}:∀ (us:List Value) (p:Nat) (w:World) (xs:List Value) (_:w.ownsRow base e size (.slice (some ⟨g,0,none⟩) n cap) n xs),
  (ziI w g p us).ownsRow base e size (.slice (some ⟨g,0,none⟩) n cap) n (ziH xs p us)
 | [],_,_,_,h=>h
 | u::us,p,w,xs,h=>zeU us (p+1) _ _ (h.stored p u).1
theorem zfR{g:Nat}:∀ (us:List Value) (p:Nat) (w:World),Fr (fun k=>k=g) w (ziI w g p us)
 | [],_,w=>Fr.refl _ w
 | u::us,p,w=>((Fr.refl (fun k=>k=g) w).setCell (p:=⟨g,p,none⟩) (.inl rfl) u).trans (zfR us (p+1) _) (fun _ h=>.inl h)
theorem zkN{α:Type}{f:α→List Value}{size:Nat}(hf:∀ x,(f x).length=size)(ms l:List α){j:Nat}{x y:α}(hm:ms[j]? =some y)(hx:l[j]? =some x):
  ziH ((ms.take j++l.drop j).flatMap f) (j*size) (f y)=(ms.take (j+1)++l.drop (j+1)).flatMap f:=by
 have hjl:j<ms.length:=(List.getElem?_eq_some_iff.1 hm).1
 have h1:l.drop j=x::l.drop (j+1):=by
  have hj:j<l.length:=(List.getElem?_eq_some_iff.1 hx).1;rw[List.drop_eq_getElem_cons hj,(List.getElem?_eq_some_iff.1 hx).2]
 have h2:(ms.take j).flatMap f=(ms.take j).flatMap f:=rfl
 have hl:((ms.take j).flatMap f).length=j*size:=by rw[zbZ hf,List.length_take,Nat.min_eq_left (by omega)]
 rw[h1,List.flatMap_append,List.flatMap_cons, ← hl,zg1 _ _ _ _ (by rw[hf,hf]),zan hm];simp
def zaD{α:Type}(mk:Nat→Nat→List α)(k:Nat)(hs:List (HV α)):List (HV α):=hs.mapIdx fun i h=>if i<k then⟨h.v,mk i h.l.length⟩ else h
section
variable {α:Type} {f:α→List Value} {mk:Nat→Nat→List α} {w w':World} {base:Nat} {e:TypeId} {size:Nat} {hs:List (HV α)}
theorem zfh(k:Nat):(zaD mk k hs).length=hs.length:=by simp[zaD]
theorem za2{k i:Nat}{h:HV α}(hi:hs[i]? =some h):(zaD mk k hs)[i]? =some (if i<k then⟨h.v,mk i h.l.length⟩ else h):=by
 unfold zaD;rw[List.getElem?_mapIdx,hi];rfl
theorem zet:zaD mk 0 hs=hs:=by
 apply List.ext_getElem?
 intro i
 cases hi:hs[i]? with
 | none=>unfold zaD;rw[List.getElem?_mapIdx,hi];rfl
 | some h=>rw[za2 hi];rfl
theorem zde(k:Nat):(zaD mk k hs).map HV.v=hs.map HV.v:=by
 apply List.ext_getElem?
 intro i;rw[List.getElem?_map,List.getElem?_map]
 cases hi:hs[i]? with
 | none=>unfold zaD;rw[List.getElem?_mapIdx,hi];rfl
 | some h=>
  rw[za2 hi];simp only[Option.map_some]
  congr 1
  split<;>rfl
theorem zka{ps bs:List (HV α)}(h:ps.map HV.v=bs.map HV.v)(ha:ps.Pairwise fun a b=>∀ k,zag a.v k→¬ zag b.v k):bs.Pairwise fun a b=>∀ k,zag a.v k→¬ zag b.v k:=by
 have h1:(ps.map HV.v).Pairwise fun a b=>∀ k,zag a k→¬ zag b k:=List.pairwise_map.2 ha;rw[h] at h1;exact List.pairwise_map.1 h1
theorem zeG{i j:Nat}{a b:HV α}(h:hs.Pairwise fun a b=>∀ k,zag a.v k→¬ zag b.v k)(ha:hs[i]? =some a)(hb:hs[j]? =some b)(hij:i≠j):∀ k,zag a.v k→¬ zag b.v k:=by
 intro k hka hkb;obtain⟨hi,rfl⟩:=List.getElem?_eq_some_iff.1 ha;obtain⟨hj,rfl⟩:=List.getElem?_eq_some_iff.1 hb
 rcases Nat.lt_or_ge i j with h1 | h1
 ·exact (List.pairwise_iff_getElem.1 h) i j hi hj h1 k hka hkb
 ·exact (List.pairwise_iff_getElem.1 h) j i hj hi (by omega) k hkb hka
theorem zcm.mark{k:Nat}{h:HV α}(hL:zcm f w base e size (zaD mk k hs))(hk:hs[k]? =some h)(hml:∀ i n,(mk i n).length=n)
  (hf:Fr (zag h.v) w w') (ho:w'.ownsRow base e size h.v h.l.length ((mk k h.l.length).flatMap f)):zcm f w' base e size (zaD mk (k+1) hs):=by
 refine⟨fun x hx=>?_,zka (by rw[zde,zde]) hL.apart⟩;obtain⟨i,hi⟩:=List.getElem?_of_mem hx
 cases hh:hs[i]? with
 | none=>unfold zaD at hi;rw[List.getElem?_mapIdx,hh] at hi;cases hi
 | some y=>
  rw[za2 hh] at hi
  injection hi with hi
  by_cases hik:i=k
  ·subst hik
   rw[hk] at hh
   injection hh with hh
   subst hh;rw[if_pos (by omega)] at hi;subst hi;simp only[hml];exact ho
  ·have hg:=za2 (mk:=mk) (k:=k) hh
   have he:(if i<k+1 then (⟨y.v,mk i y.l.length⟩:HV α) else y)=if i<k then⟨y.v,mk i y.l.length⟩ else y:=by
    by_cases h1:i<k
    ·rw[if_pos (by omega),if_pos h1]
    ·rw[if_neg (by omega),if_neg h1]
   rw[he] at hi;rw[hi] at hg;have hk2:=za2 (mk:=mk) (k:=k) hk;rw[if_neg (Nat.lt_irrefl k)] at hk2;refine zad (hL.own x (zab hg)) hf (zeG hL.apart hg hk2 hik)
end
section
variable {P:Program} {w:World}
theorem ziB{ops:Array Oper}{o:Oper}{a:Act}{K:Act→World→Prop}{Q:Exit→Act→World→Prop}{X:Prop}(hgd:o.guard=none)(s x:Operand)(t:TypeId)
  (ho:o.op=.call {callee:=.builtin .append,args:=#[s,x],argTypes:=#[t,t]})
  (e:TypeId) (i:TypeInfo) (z:Value) (size bytes:Nat) (ht:P.underlying t=some (.slice e)) (hi:P.info? e=some i) (hz:i.zero=some z)
  (hsize:i.size=size) (hby:i.bytes=bytes) (hzs:z.cells.size=size) (hsz:0<size)
  (v:Value) (n:Nat) (xs:List Value) (hs:a.eval s=v) (base:Nat) (hbase:base≤w.heap.size) (hown:w.ownsRow base e size v n xs)
  (A:Option Addr) (m c:Nat) (news:List Value) (hx:a.eval x=.slice A m c) (hr:Rd w size A m news) (h1:∀ u∈news,u.oneCell'=true)
  (h63:n+m≤maxLen) (hbytes:(n+m)*bytes≤140737488355328)
  (h:∀ A' c' w',w'.ownsRow base e size (.slice A' (n+m) c') (n+m) (xs++news)→Mv (zag v) (zag (.slice A' (n+m) c')) w w'→(∀ A0 c0,v=.slice A0 n c0→Rd w' size A0 n xs)→K (a.put o.dst (.slice A' (n+m) c')) w'):
  if Region.wanted o (yielded ops a.tmps)=true then Oper.wp P o a w K Q else X:=by
 have hw:Region.wanted o (yielded ops a.tmps)=true:=by simp[Region.wanted,hgd]
 rw[if_pos hw];obtain⟨v',w',hrun,h2,h3,h4⟩:=zhZ (P:=P) t o.type e i z size bytes ht hi hz hsize hby hzs hsz v n xs base hbase hown A m c news hr h1 h63 hbytes;obtain⟨A',c',rfl,_⟩:=zam h2;unfold Oper.wp execOp;simp only[ho,resolve,invoke,builtin,Sem.run_bind,Sem.run_pure,Result.andThen_ok,List.map_toArray,List.map_cons,List.map_nil,hs,hx,hrun];exact h A' c' w' h2 h3 h4
end
theorem zel.add{α:Type}{f:α→List Value}{w w':World}{base:Nat}{E e:TypeId}{size:Nat}{V U V' U' v vb:Value}{hs us:List (HV α)}{l:List α}{F:Nat→Prop}(hk:zel f w base E e size V U hs us)
  (hrow:w'.ownsRow base E 1 V' (hs.length+1) (hs.map HV.v++[v])) (hwrow:w'.ownsRow base E 1 U' (us.length+1) (us.map HV.v++[vb])) (huv:∀ k,zag V' k→¬ zag U' k)
  (hv:w'.ownsRow base e size v l.length (l.flatMap f)) (hb:w'.ownsRow base e size vb l.length (l.flatMap f)) (hf:Fr F w w') (ho:Off w F [e]) (hd:∀ h∈hs,∀ k,zag h.v k→¬ zag v k):
  zel f w' base E e size V' U' (hs++[⟨v,l⟩]) (us++[⟨vb,l⟩]):=by
 have hL:=hk.lists.fr hf ho (List.mem_singleton.2 rfl);refine⟨⟨fun x hx=>?_,?_⟩,by simpa using hrow,by simpa using hwrow,huv,fun x hx=>?_,by simp[hk.same]⟩
 ·rcases List.mem_append.1 hx with h | h
  ·exact hL.own x h
  ·rw[List.mem_singleton] at h;subst h;exact hv
 ·rw[List.pairwise_append]
  refine⟨hL.apart,List.pairwise_singleton _ _,fun a ha b hb'=>?_⟩;rw[List.mem_singleton] at hb';subst hb';exact hd a ha
 ·rcases List.mem_append.1 hx with h | h
  ·exact ho.own (hk.was x h) (List.mem_singleton.2 rfl) hf
  ·rw[List.mem_singleton] at h;subst h;exact hb
def zcS{α:Type}(f:α→List Value)(w:World)(size:Nat)(h:HV α):Prop:=∃ A c,h.v=.slice A h.l.length c∧Rd w size A h.l.length (h.l.flatMap f)∧(A=none∨∃ g,A=some ⟨g,0,none⟩)
theorem zes{w:World}{base n m size c:Nat}{e:TypeId}{A:Option Addr}{xs:List Value}(h:w.ownsRow base e size (.slice A n c) m xs):A=none∨∃ g,A=some ⟨g,0,none⟩:=by
 rcases h.2 with ⟨h1,_⟩ | ⟨g,cap,cur,h1,_⟩
 ·injection h1 with h1;exact .inl h1
 ·injection h1 with h1;exact .inr ⟨g,h1⟩
theorem zox{A B:Option Addr}{n m c d:Nat}(hA:A=none∨∃ g,A=some ⟨g,0,none⟩)(hB:B=none∨∃ g,B=some ⟨g,0,none⟩)(hne:A≠B):∀ i,zag (.slice A n c) i→¬ zag (.slice B m d) i:=by
 intro i h1 h2
 rcases hA with rfl | ⟨g,rfl⟩
 ·cases h1
 ·rcases hB with rfl | ⟨g',rfl⟩
  ·cases h2
  ·have e1:some g=some i:=h1
   have e2:some g'=some i:=h2
   injection e1 with e1
   injection e2 with e2
   subst e1;subst e2;exact hne rfl
theorem zkV{A:Option Addr}{n c:Nat}(k:Nat)(h:adF A n k):zag (.slice A n c) k:=by
 obtain⟨_,ad,rfl,rfl⟩:=h
 rfl
section
variable {α:Type} {f:α→List Value} {w w':World} {base:Nat} {e:TypeId} {size:Nat} {F:Nat→Prop}
theorem zcS.of_own{h:HV α}(ho:w.ownsRow base e size h.v h.l.length (h.l.flatMap f)):zcS f w size h:=by
 obtain⟨A,c,hv,_,_,hr⟩:=zam ho;refine⟨A,c,hv,hr,?_⟩;rw[hv] at ho;exact zes ho
theorem zcS.fr{h:HV α}(hr:zcS f w size h)(hf:Fr F w w')(hn:∀ k,zag h.v k→¬ F k):zcS f w' size h:=by
 obtain⟨A,c,hv,hr,hh⟩:=hr;exact⟨A,c,hv,hr.fr hf (fun k hk=>hn k (by rw[hv];exact zkV k hk)),hh⟩
theorem zcS.fr0{h:HV α}(hr:zcS f w size h)(hf:Fr (fun _=>False) w w'):zcS f w' size h:=hr.fr hf (fun _ _ h=>h)
theorem zew{A B:Option Addr}{n m c:Nat}{xs ys:List Value}(hA:A=none∨∃ g,A=some ⟨g,0,none⟩)(hx:Rd w size A n xs)(hB:B=none∨∃ g,B=some ⟨g,0,none⟩)
  (hf:Fr (zag (.slice B m c)) w w') (hk:Rd w' size B m ys) (hnm:n≤m) (hp:ys.take (n*size)=xs):Rd w' size A n xs:=by
 by_cases h:A=B
 ·subst h
  have:=hk.take hnm;rwa[hp] at this
 ·exact hx.fr hf fun k hk'=>zox (n:=n) (c:=0) hA hB h k (zkV k hk')
end
def zdq{α:Type}(f:α→List Value)(w:World)(base:Nat)(e:TypeId)(size:Nat)(mk:Nat→Nat→List α)(B:Nat)(hs gs:List (HV α)):Prop:=
 (∀ h∈hs,zcS f w size h)∧(∀ h∈gs,w.ownsRow base e size h.v h.l.length (h.l.flatMap f))∧((∀ h∈hs,h.l.length≤1000000)→∀ h∈gs,h.l.length≤1000072)∧(∀ (i:Nat) (h:HV α),gs[i]? =some h→h.l=mk i h.l.length)∧
 ∀ (i:Nat) (h x:HV α),gs[i]? =some h→hs[i]? =some x→∀ b,zag h.v b→zag x.v b∨B≤b
section
variable {α:Type} {f:α→List Value} {w w':World} {base B:Nat} {e:TypeId} {size:Nat} {mk:Nat→Nat→List α} {hs gs:List (HV α)} {F:Nat→Prop}
theorem zdq.start(h:∀ h∈hs,zcS f w size h):zdq f w base e size mk B hs []:=
 ⟨h,fun x hx=>(by cases hx),fun _ x hx=>(by cases hx),fun i x hx=>by simp at hx,fun i x y hx=>by simp at hx⟩
theorem zdq.fr(hg:zdq f w base e size mk B hs gs)(hf:Fr F w w')(ho:Off w F [e])(hB:∀ k,F k→B≤k)(hlt:∀ k,zaP hs k→k<B):zdq f w' base e size mk B hs gs:=
 ⟨fun h hh=>(hg.1 h hh).fr hf fun k hk hF=>by have:=hlt k ⟨h,hh,hk⟩;have:=hB k hF;omega,fun h hh=>ho.own (hg.2.1 h hh) (by simp) hf,hg.2.2⟩
theorem zdq.whence(hg:zdq f w base e size mk B hs gs)(hl:gs.length=hs.length):∀ h∈gs,∀ b,zag h.v b→zaP hs b∨B≤b:=fun h hh b hb=>by
 obtain⟨i,hi⟩:=List.getElem?_of_mem hh;have hil:i<gs.length:=(List.getElem?_eq_some_iff.1 hi).1;have hx:hs[i]? =some hs[i]:=q6_ (by omega)
 rcases hg.2.2.2.2 i h _ hi hx b hb with h6 | h6
 ·exact .inl ⟨_,zab hx,h6⟩
 ·exact .inr h6
theorem zdq.step{k:Nat}{x y:HV α}(hg:zdq f w base e size mk B hs gs)(hk:hs[k]? =some x)(hgl:gs.length=k)(hap:hs.Pairwise fun a b=>∀ i,zag a.v i→¬ zag b.v i)
  (hlt:∀ i,zag x.v i→i<B) (hb:B≤w.heap.size) (hm:Mv (zag x.v) (zag y.v) w w') (hx:zcS f w' size x) (hy:w'.ownsRow base e size y.v y.l.length (y.l.flatMap f)) (hyl:y.l.length=x.l.length+72) (hym:y.l=mk k y.l.length):
  zdq f w' base e size mk B hs (gs++[y]):=by
 obtain⟨h1,h2,h3,h4,h5⟩:=hg
 have hlast:∀ (i:Nat) (h:HV α),(gs++[y])[i]? =some h→gs[i]? =some h∨(i=k∧h=y):=by
  intro i h hi
  rcases Nat.lt_or_ge i gs.length with hlt' | hge
  ·rw[List.getElem?_append_left hlt'] at hi;exact .inl hi
  ·rw[List.getElem?_append_right hge] at hi
   have:i-gs.length=0:=by
    rcases Nat.eq_zero_or_pos (i-gs.length) with h0 | h0
    ·exact h0
    ·rw[List.getElem?_eq_none (by simp;omega)] at hi;cases hi
   rw[this] at hi;simp only[q3_,Option.some.injEq] at hi;exact .inr ⟨by omega,hi.symm⟩
 refine⟨fun h hh=>?_,fun h hh=>?_,fun hall h hh=>?_,fun i h hi=>?_,fun i h x' hi hx' b hb'=>?_⟩
 ·obtain⟨i,hi⟩:=List.getElem?_of_mem hh
  by_cases hik:i=k
  ·subst hik
   rw[hk] at hi
   injection hi with hi
   subst hi;exact hx
  ·exact (h1 h hh).fr hm.fr (zeG hap hi hk hik)
 ·rcases List.mem_append.1 hh with hh | hh
  ·obtain⟨i,hi⟩:=List.getElem?_of_mem hh
   have hil:i<gs.length:=(List.getElem?_eq_some_iff.1 hi).1;have hkl:k<hs.length:=(List.getElem?_eq_some_iff.1 hk).1;refine zad (h2 h hh) hm.fr fun b hb1 hb2=>?_;have hx':hs[i]? =some hs[i]:=q6_ (by omega)
   rcases h5 i h _ hi hx' b hb1 with h6 | h6
   ·exact zeG hap hx' hk (by omega) b h6 hb2
   ·have:=hlt b hb2;omega
  ·rw[List.mem_singleton] at hh;subst hh;exact hy
 ·rcases List.mem_append.1 hh with hh | hh
  ·exact h3 hall h hh
  ·rw[List.mem_singleton] at hh;subst hh;have:=hall x (zab hk);omega
 ·rcases hlast i h hi with hi | ⟨rfl,rfl⟩
  ·exact h4 i h hi
  ·exact hym
 ·rcases hlast i h hi with hi | ⟨rfl,rfl⟩
  ·exact h5 i h x' hi hx' b hb'
  ·rw[hk] at hx'
   injection hx' with hx'
   subst hx'
   rcases hm.sub b hb' with h6 | h6
   ·exact .inl h6
   ·exact .inr (by omega)
end
theorem Off.apart{w:World}{F G:Nat→Prop}{e:TypeId}(h:Off w F [e])(hg:∀ k,G k→∃ cs fz,w.heap[k]? =some (.cells cs e fz)):∀ k,G k→¬ F k:=fun k hk hF=>by
 obtain⟨cs,fz,hh⟩:=hg k hk;exact h k hF _ _ _ hh (by simp)
theorem zcm.ty{α:Type}{f:α→List Value}{w:World}{base:Nat}{e:TypeId}{size:Nat}{hs:List (HV α)}(h:zcm f w base e size hs):∀ k,zaP hs k→∃ cs fz,w.heap[k]? =some (.cells cs e fz):=fun k ⟨x,hx,hk⟩=>zc0 (h.own x hx) hk
theorem zcm.lt{α:Type}{f:α→List Value}{w:World}{base:Nat}{e:TypeId}{size:Nat}{hs:List (HV α)}(h:zcm f w base e size hs):∀ k,zaP hs k→k<w.heap.size:=fun k ⟨x,hx,hk⟩=>zcp (h.own x hx) k hk
theorem zeu{α:Type}{mk:Nat→Nat→List α}{hs:List (HV α)}(m k:Nat):zaP (zaD mk m hs) k→zaP hs k:=by
 rintro⟨x,hx,hk⟩;obtain⟨i,hi⟩:=List.getElem?_of_mem hx
 cases hh:hs[i]? with
 | none=>unfold zaD at hi;rw[List.getElem?_mapIdx,hh] at hi;cases hi
 | some y=>
  rw[za2 hh] at hi
  injection hi with hi
  refine⟨y,zab hh,?_⟩;subst hi
  split at hk<;>exact hk
theorem zhm{α:Type}{mk:Nat→Nat→List α}{hs:List (HV α)}(hml:∀ i n,(mk i n).length=n){P:Nat→Prop}(hl:∀ h∈hs,P h.l.length):∀ h∈zaD mk hs.length hs,P h.l.length:=by
 intro x hx;obtain⟨i,hi⟩:=List.getElem?_of_mem hx
 cases hh:hs[i]? with
 | none=>unfold zaD at hi;rw[List.getElem?_mapIdx,hh] at hi;cases hi
 | some y=>
  rw[za2 hh,if_pos (List.getElem?_eq_some_iff.1 hh).1] at hi
  injection hi with hi
  subst hi;simp only[hml];exact hl y (zab hh)
theorem ziZ{α:Type}{mk:Nat→Nat→List α}{hs:List (HV α)}(hml:∀ i n,(mk i n).length=n):∀ (i:Nat) (h:HV α),(zaD mk hs.length hs)[i]? =some h→h.l=mk i h.l.length:=by
 intro i x hi
 cases hh:hs[i]? with
 | none=>unfold zaD at hi;rw[List.getElem?_mapIdx,hh] at hi;cases hi
 | some y=>
  rw[za2 hh,if_pos (List.getElem?_eq_some_iff.1 hh).1] at hi
  injection hi with hi
  subst hi;simp only[hml]
end Go.Proofs.YteajonicnkpbbaaGreatDoor
