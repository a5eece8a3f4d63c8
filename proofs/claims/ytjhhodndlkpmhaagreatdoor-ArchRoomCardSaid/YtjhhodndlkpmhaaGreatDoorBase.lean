/- Words for memory that the texts of this seat share: frames with footprints ('Fr', 'Mv'), blocks known whole ('Blk'), slices that read as lists ('Rd'), owned rows. No program in sight. -/
import Derived.Test.YtjhhodndlkpmhaaGreatDoorTk
import Derived.Handy
import Derived.WalkSpells
import Derived.WalkLawsBesides
import Derived.BigQuiet
import Derived.Deep.QuietTactic
import Derived.Deep.Draws
import Derived.Deep.AppendLies
import Derived.Maps.AppendAt
import Derived.Laws.OwnMore
import Derived.Below
import Derived.StillTailTactics
import Derived.Lib.AppendStr
import Derived.Lib.LaidTab
import Derived.WalkSmall
import Derived.Lib.ConvBytes
import Derived.Lib.Strings
import Derived.Deep.RegionWith
import Derived.Deep.DeepCutAuto
import Derived.Deep.RegionLaw
import Derived.Sort.Row
namespace Go.Proofs.YtjhhodndlkpmhaaGreatDoor
set_option linter.all false
open Go.RowKit
theorem zdX(a:Addr)(n:Nat):(a.add n).block=a.block:=by unfold Addr.add;split<;>rfl
theorem zcy(a:Addr)(i j:Nat):(a.add i).add j=a.add (i+j):=by
 unfold Addr.add
 by_cases hi:i=0<;>by_cases hj:j=0<;>simp[hi,hj,Nat.add_assoc]
theorem zdZ(b o n:Nat):(⟨b,o,none⟩:Addr).add n=⟨b,o+n,none⟩:=by
 unfold Addr.add
 by_cases hn:n=0<;>simp[hn]
structure Fr(F:Nat→Prop)(w w':World):Prop where
 os:w'.os=w.os
 tape:w'.tape=w.tape
 output:w'.output=w.output
 size:w.heap.size≤w'.heap.size
 block:∀ k,k<w.heap.size→¬ F k→w'.heap[k]? =w.heap[k]?
structure Mv(F F':Nat→Prop)(w w':World):Prop where
 fr:Fr F w w'
 sub:∀ k,F' k→F k∨w.heap.size≤k
section
variable {F F' G G':Nat→Prop} {a b c w w':World}
theorem Fr.refl(F:Nat→Prop)(w:World):Fr F w w:=⟨rfl,rfl,rfl,Nat.le_refl _,fun _ _ _=>rfl⟩
theorem Fr.trans(h:Fr F a b)(k:Fr G b c)(hs:∀ i,G i→F i∨a.heap.size≤i):Fr F a c:=
 ⟨k.os.trans h.os,k.tape.trans h.tape,k.output.trans h.output,Nat.le_trans h.size k.size,fun i hi hn=>by
  refine (k.block i (Nat.lt_of_lt_of_le hi h.size) ?_).trans (h.block i hi hn);intro hg
  rcases hs i hg with h1 | h1
  ·exact hn h1
  ·omega⟩
theorem Fr.mono(h:Fr F a b)(hs:∀ i,F i→G i∨a.heap.size≤i):Fr G a b:=
 ⟨h.os,h.tape,h.output,h.size,fun i hi hn=>h.block i hi fun hf=>by
  rcases hs i hf with h1 | h1
  ·exact hn h1
  ·omega⟩
theorem Fr.alloc(h:Fr F a b)(o:Obj):Fr F a (b.alloc o):=
 h.trans (G:=fun _=>False) ⟨rfl,rfl,rfl,by simp,fun i hi _=>Below.heap_alloc _ _ _ hi⟩ (fun _ hf=>hf.elim)
theorem Fr.drew(h:Fr F a b):Fr F a b.drew:=⟨h.os,h.tape,h.output,h.size,h.block⟩
theorem Fr.drewN(h:Fr F a b)(n:Nat):Fr F a (b.drewN n):=⟨h.os,h.tape,h.output,h.size,h.block⟩
theorem Fr.setCell(h:Fr F a b){p:Addr}(hp:F p.block∨a.heap.size≤p.block)(u:Value):Fr F a (b.setCell p u):=
 h.trans (G:=fun i=>i=p.block) ⟨rfl,rfl,rfl,by simp[World.setCell],fun i _ hn=>Below.heap_setCell _ _ _ _ hn⟩ (fun i hi=>by subst hi;exact hp)
theorem Fr.of_grown{row:Option Nat}(h:a.grownBy b row):Fr (fun k=>row=some k) a b:=
 ⟨h.os,h.tape,h.output,h.size,fun k hk hn=>h.block k hk (fun e=>hn e.symm)⟩
theorem Fr.of_below(h:Below a.heap.size a b):Fr F a b:=⟨h.os,h.tape,h.output,h.size,fun k hk _=>h.block k hk⟩
theorem Fr.below(h:Fr F a b)(hF:∀ k,F k→a.heap.size≤k):Below a.heap.size a b:=
 ⟨h.os,h.tape,h.output,h.size,fun k hk=>h.block k hk fun hf=>by have:=hF k hf;omega⟩
theorem Fr.below_of{B:Nat}(h:Fr F a b)(hB:B≤a.heap.size)(hF:∀ k,F k→B≤k):Below B a b:=
 ⟨h.os,h.tape,h.output,h.size,fun k hk=>h.block k (by omega) fun hf=>by have:=hF k hf;omega⟩
theorem Fr.cell(h:Fr F a b){p:Addr}{v:Value}(hc:a.cell? p=some v)(hn:¬ F p.block):b.cell? p=some v:=
 (World.cell?_of_block (h.block p.block (World.block_lt_of_cell? a p hc) hn)).trans hc
theorem Mv.refl(F:Nat→Prop)(w:World):Mv F F w w:=⟨.refl F w,fun _ h=>.inl h⟩
theorem Mv.trans{F'':Nat→Prop}(h:Mv F F' a b)(k:Mv F' F'' b c):Mv F F'' a c:=
 ⟨h.fr.trans k.fr h.sub,fun i hi=>by
  rcases k.sub i hi with h1 | h1
  ·exact h.sub i h1
  ·exact .inr (Nat.le_trans h.fr.size h1)⟩
theorem Mv.size(h:Mv F F' a b):a.heap.size≤b.heap.size:=h.fr.size
theorem Mv.none_alloc(F:Nat→Prop)(w:World)(o:Obj):Mv F F w (w.alloc o):=⟨(Fr.refl _ w).alloc o,fun _ h=>.inl h⟩
theorem Mv.of_none(F:Nat→Prop){a b:World}(h:Fr (fun _=>False) a b):Mv F F a b:=⟨h.mono (fun _ hf=>hf.elim),fun _ h=>.inl h⟩
theorem Fr.none_alloc(w:World)(o:Obj):Fr (fun _=>False) w (w.alloc o):=(Fr.refl _ w).alloc o
theorem Fr.none_drewN(w:World)(n:Nat):Fr (fun _=>False) w (w.drewN n):=(Fr.refl _ w).drewN n
end
def Blk(w:World)(g:Nat)(t:TypeId)(cs:Array Value):Prop:=w.heap[g]? =some (.cells cs t (0,0))
section
variable {w w':World} {g:Nat} {t:TypeId} {cs:Array Value}
theorem Blk.lt(h:Blk w g t cs):g<w.heap.size:=by
 rcases Nat.lt_or_ge g w.heap.size with hlt | hge
 ·exact hlt
 ·unfold Blk at h;rw[Array.getElem?_eq_none hge] at h;cases h
theorem Blk.cell(h:Blk w g t cs)(i:Nat):w.cell? ⟨g,i,none⟩=cs[i]? :=cell_of_row w g i cs t (0,0) h
theorem Blk.frozen(h:Blk w g t cs)(i:Nat):w.frozen? ⟨g,i,none⟩=false:=by
 unfold Blk at h;simp[World.frozen?,h]
theorem Blk.new(w:World)(t:TypeId)(cs:Array Value):Blk (w.alloc (.cells cs t)) w.heap.size t cs:=heap_alloc_new w _
theorem Blk.drew(h:Blk w g t cs):Blk w.drew g t cs:=h
theorem Blk.alloc(h:Blk w g t cs)(o:Obj):Blk (w.alloc o) g t cs:=(Below.heap_alloc w o g h.lt).trans h
theorem Blk.set_(h:Blk w g t cs)(i:Nat)(u:Value):Blk (w.setCell ⟨g,i,none⟩ u) g t (cs.setIfInBounds i u):=by
 unfold Blk at h ⊢;simp[World.setCell,Array.getElem?_modify,h]
theorem Blk.fr{F:Nat→Prop}(h:Blk w g t cs)(hf:Fr F w w')(hg:¬ F g):Blk w' g t cs:=(hf.block g h.lt hg).trans h
theorem Blk.ne_{g':Nat}{t':TypeId}{cs':Array Value}(h:Blk w g t cs)(h':Blk w g' t' cs')(hne:t≠t'):g≠g':=by
 rintro rfl;unfold Blk at h h';rw[h] at h'
 injection h' with h'
 injection h' with _ ht
 exact hne ht
theorem zad{base:Nat}{e:TypeId}{size n:Nat}{v:Value}{xs:List Value}(h:w.ownsRow base e size v n xs)(hg:Blk w g t cs)(hne:e≠t):v.ownBlock≠some g:=by
 rcases h.2 with ⟨rfl,_⟩ | ⟨g',cap,cur,rfl,_,hh,_⟩
 ·simp[Value.ownBlock]
 ·intro he
  have:g'=g:=by simpa[Value.ownBlock] using he
  subst this;exact Blk.ne_ (t:=e) hh hg hne rfl
end
theorem zan{α:Type}{l:List α}{k:Nat}{x:α}(h:l[k]? =some x):l.take (k+1)=l.take k++[x]:=by
 rw[List.take_add_one,h];rfl
theorem za3{α:Type}{l:List α}{k:Nat}(h:l.length≤k):l.take k=l:=List.take_of_length_le h
theorem zab{α:Type}{l:List α}{k:Nat}{x:α}(h:l[k]? =some x):x∈l:=List.mem_of_getElem? h
def Rd(w:World)(size:Nat)(A:Option Addr)(n:Nat)(xs:List Value):Prop:=
 xs.length=n*size∧(0<n→∃ ad,A=some ad∧∀ j u,xs[j]? =some u→w.cell? (ad.add j)=some u)
def adF(A:Option Addr)(n:Nat):Nat→Prop:=fun k=>0<n∧∃ ad,A=some ad∧ad.block=k
section
variable {w w':World} {size n:Nat} {A:Option Addr} {xs:List Value} {F:Nat→Prop}
theorem Rd.nil_:Rd w size A 0 []:=⟨by simp,fun h=>absurd h (by omega)⟩
theorem Rd.fr(h:Rd w size A n xs)(hf:Fr F w w')(hn:∀ k,adF A n k→¬ F k):Rd w' size A n xs:=
 ⟨h.1,fun h0=>by
  obtain⟨ad,e,hc⟩:=h.2 h0
  exact⟨ad,e,fun j u hu=>hf.cell (hc j u hu) (by rw[zdX];exact hn _ ⟨h0,ad,e,rfl⟩)⟩⟩
theorem Rd.fr0(h:Rd w size A n xs)(hf:Fr (fun _=>False) w w'):Rd w' size A n xs:=h.fr hf (fun _ _ h=>h)
theorem Rd.alloc(h:Rd w size A n xs)(o:Obj):Rd (w.alloc o) size A n xs:=h.fr0 (Fr.none_alloc w o)
theorem Rd.drew(h:Rd w size A n xs):Rd w.drew size A n xs:=h
theorem Rd.drewN(h:Rd w size A n xs)(k:Nat):Rd (w.drewN k) size A n xs:=h
theorem Rd.below(h:Rd w size A n xs)(hb:Below w.heap.size w w'):Rd w' size A n xs:=h.fr0 (.of_below hb)
theorem Rd.at_{k:Nat}(h:Rd w 1 A n xs)(hk:k<n):∃ ad u,A=some ad∧xs[k]? =some u∧w.cell? (ad.add k)=some u:=by
 obtain⟨ad,e,hc⟩:=h.2 (by omega)
 have hl:k<xs.length:=by have:=h.1;omega
 exact⟨ad,xs[k],e,q6_ hl,hc k _ (q6_ hl)⟩
theorem Rd.at_map{α:Type}{f:α→Value}{l:List α}{k:Nat}(h:Rd w 1 A n (l.map f))(hk:k<n):∃ ad x,A=some ad∧l[k]? =some x∧w.cell? (ad.add k)=some (f x):=by
 obtain⟨ad,u,hA,hu,hc⟩:=h.at_ hk;rw[List.getElem?_map,Option.map_eq_some_iff] at hu;obtain⟨x,hx,rfl⟩:=hu;exact⟨ad,x,hA,hx,hc⟩
theorem Rd.len_map{α:Type}{f:α→Value}{l:List α}(h:Rd w 1 A n (l.map f)):l.length=n:=by have:=h.1;simpa using this
theorem Rd.cut(h:Rd w size A n xs){k cap:Nat}(hk:k≤n)(hc:n≤cap):
  Rd w size (if cap=k then A else A.map (·.add (k*size))) (n-k) (xs.drop (k*size)):=by
 refine⟨by rw[List.length_drop,h.1,Nat.sub_mul],fun hn=>?_⟩;obtain⟨ad,rfl,hcell⟩:=h.2 (by omega);rw[if_neg (by omega)];refine⟨ad.add (k*size),rfl,fun j u hu=>?_⟩;rw[zcy];exact hcell _ u (by rw[← hu,List.getElem?_drop])
theorem Rd.of_own{base:Nat}{e:TypeId}{c:Nat}(h:w.ownsRow base e size (.slice A n c) n xs):Rd w size A n xs:=by
 refine⟨h.1,fun hn=>?_⟩;obtain⟨g,cap,hv,_,hlt⟩:=h.form hn
 have hA:A=some ⟨g,0,none⟩:=by injection hv
 subst hA;exact⟨_,rfl,h.cells (g:=g) rfl⟩
end
theorem Rd.adlt{w:World}{size n:Nat}{A:Option Addr}{xs:List Value}(h:Rd w size A n xs)(hs:0<size):∀ k,adF A n k→k<w.heap.size:=by
 rintro k ⟨h0,ad,rfl,hb⟩;obtain⟨ad',e,hc⟩:=h.2 h0
 injection e with e
 subst e
 have hl:0<xs.length:=by rw[h.1];exact Nat.mul_pos h0 hs
 have:=World.block_lt_of_cell? w _ (hc 0 _ (q6_ hl));rw[zdX] at this;omega
theorem Rd.new(w:World)(xs:List Value)(t:TypeId)(n:Nat)(hn:xs.length=n):Rd (w.alloc (.cells xs.toArray t)) 1 (some ⟨w.heap.size,0,none⟩) n xs:=by
 refine⟨by omega,fun _=>⟨_,rfl,fun j u hu=>?_⟩⟩;rw[zdZ,Nat.zero_add,(Blk.new w t xs.toArray).cell];simpa using hu
theorem zew{w:World}{F:Nat→Prop}{n:Nat}(h:∀ k,F k→k<w.heap.size):∀ k,adF (some ⟨w.heap.size,0,none⟩) n k→¬ F k:=by
 rintro k ⟨_,ad,e,hb⟩ hf
 injection e with e
 subst e;have:=h k hf;simp only at hb;omega
theorem Rd.new'{w:World}{k:Nat}(hk:k=w.heap.size)(xs:List Value)(t:TypeId)(n:Nat)(hn:xs.length=n):Rd (w.alloc (.cells xs.toArray t)) 1 (some ⟨k,0,none⟩) n xs:=hk▸Rd.new w xs t n hn
theorem zlZ{w:World}{F:Nat→Prop}{k n:Nat}(hk:w.heap.size≤k)(h:∀ i,F i→i<w.heap.size):∀ i,adF (some ⟨k,0,none⟩) n i→¬ F i:=by
 rintro i ⟨_,ad,e,hb⟩ hf
 injection e with e
 subst e;have:=h i hf;simp only at hb;omega
def zaE(v:Value):Nat→Prop:=fun k=>v.ownBlock=some k
section
variable {w w':World} {F:Nat→Prop} {base:Nat} {e:TypeId} {size n:Nat} {v:Value} {xs:List Value}
theorem zji(h:w.ownsRow base e size v n xs):∀ k,zaE v k→k<w.heap.size:=fun k hk=>(h.lt k hk).2
theorem zaf(h:w.ownsRow base e size v n xs)(hf:Fr F w w')(hn:∀ k,zaE v k→¬ F k):w'.ownsRow base e size v n xs:=by
 refine⟨h.1,?_⟩
 rcases h.2 with h2 | ⟨g,cap,cur,rfl,hb,hg,r⟩
 ·exact .inl h2
 ·exact .inr ⟨g,cap,cur,rfl,hb,(hf.block g (Array.getElem?_eq_some_iff.1 hg).1 (hn g rfl)).trans hg,r⟩
theorem zac(h:w.ownsRow base e size v n xs)(hf:Fr (fun _=>False) w w'):w'.ownsRow base e size v n xs:=zaf h hf (fun _ _ h=>h)
theorem za5(h:w.ownsRow base e size v n xs):∃ A c,v=.slice A n c∧n≤c∧c≤maxLen∧Rd w size A n xs:=by
 rcases h.2 with ⟨rfl,rfl⟩ | ⟨g,cap,cur,rfl,hb,hg,h1,h2,_⟩
 ·exact⟨none,0,rfl,Nat.le_refl _,Nat.zero_le _,by have:=h.1;simp at this;subst this;exact Rd.nil_⟩
 ·exact⟨_,cap,rfl,h1,h2,Rd.of_own h⟩
end
section
variable {P:Program} {w:World}
theorem zrh(t ty e:TypeId)(i:TypeInfo)(z:Value)(size bytes:Nat)(ht:P.underlying t=some (.slice e))(hi:P.info? e=some i)(hz:i.zero=some z)
  (hsize:i.size=size) (hby:i.bytes=bytes) (hzs:z.cells.size=size) (hsz:0<size)
  (v:Value) (n:Nat) (xs:List Value) (hown:w.ownsRow 0 e size v n xs)
  (A:Option Addr) (m c:Nat) (news:List Value) (hr:Rd w size A m news) (h1:∀ u∈news,u.oneCell'=true)
  (h63:n+m≤maxLen) (hbytes:(n+m)*bytes≤140737488355328):
  ∃ v' w',(Builtin.append_ #[t,t] ty #[v,.slice A m c]).run P w=.ok v' w'∧w'.ownsRow 0 e size v' (n+m) (xs++news)∧Mv (zaE v) (zaE v') w w':=by
 rcases A with _ | ad
 ·have hm:m=0:=by
   rcases Nat.eq_zero_or_pos m with h0 | h0
   ·exact h0
   ·obtain⟨ad,h,_⟩:=hr.2 h0
    cases h
  subst hm;have hn:news=[]:=List.eq_nil_of_length_eq_zero (by simpa using hr.1);subst hn;refine⟨v,w,?_,by simpa using hown,Mv.refl _ _⟩
  rcases hown.2 with ⟨rfl,rfl⟩ | ⟨g,cap,cur,rfl,_,_,hnc,_⟩
  ·simp[Builtin.append_,run_underlying ht,sizeOf,typeInfo,hi,Builtin.lenOf,Builtin.firstCells]
  ·simp[Builtin.append_,run_underlying ht,sizeOf,typeInfo,hi,Builtin.lenOf,Builtin.firstCells,hnc,storeCells]
 ·have hcells:∀ j u,news[j]? =some u→w.cell? (ad.add j)=some u:=by
   intro j u hu
   rcases Nat.eq_zero_or_pos m with h0 | h0
   ·subst h0
    have hn:news=[]:=List.eq_nil_of_length_eq_zero (by simpa using hr.1);subst hn;simp at hu
   ·obtain⟨ad',h,hc⟩:=hr.2 h0
    injection h with h
    subst h;exact hc j u hu
  obtain⟨v',w',hrun,h2,h3,_,h5⟩:=run_append_own_at (P:=P) w 0 t ty e i z size bytes ht hi hz hsize hby hzs hsz v n xs hown ad m c news hr.1 hcells h1 h63 hbytes (Nat.zero_le _);refine⟨v',w',hrun,h2,⟨Fr.of_grown h3,fun k hk=>?_⟩⟩
  rcases h5 with h5 | h5
  ·exact .inl (h5.symm.trans hk)
  ·have hk':v'.ownBlock=some k:=hk
   rw[h5] at hk'
   injection hk' with hk'
   exact .inr (by omega)
theorem zcX{ops:Array Oper}{rest:List Oper}{o:Oper}{a:Act}{Q:Exit→Act→World→Prop}(hgd:o.guard=none)(s x:Operand)(t:TypeId)
  (ho:o.op=.call {callee:=.builtin .append,args:=#[s,x],argTypes:=#[t,t]})
  (e:TypeId) (i:TypeInfo) (z:Value) (size bytes:Nat) (ht:P.underlying t=some (.slice e)) (hi:P.info? e=some i) (hz:i.zero=some z)
  (hsize:i.size=size) (hby:i.bytes=bytes) (hzs:z.cells.size=size) (hsz:0<size)
  (v:Value) (n:Nat) (xs:List Value) (hs:a.eval s=v) (hown:w.ownsRow 0 e size v n xs)
  (A:Option Addr) (m c:Nat) (news:List Value) (hx:a.eval x=.slice A m c) (hr:Rd w size A m news) (h1:∀ u∈news,u.oneCell'=true)
  (h63:n+m≤maxLen) (hbytes:(n+m)*bytes≤140737488355328)
  (h:∀ A' c' w',w'.ownsRow 0 e size (.slice A' (n+m) c') (n+m) (xs++news)→Mv (zaE v) (zaE (.slice A' (n+m) c')) w w'→wpList P ops Q rest (a.put o.dst (.slice A' (n+m) c')) w'):wpList P ops Q (o::rest) a w:=
 wpList_plain hgd fun K hK=>by
  obtain⟨v',w',hrun,h2,h3⟩:=zrh (P:=P) t o.type e i z size bytes ht hi hz hsize hby hzs hsz v n xs hown A m c news hr h1 h63 hbytes;obtain⟨A',c',rfl,_⟩:=za5 h2;unfold Oper.wp execOp;simp only[ho,resolve,invoke,builtin,Sem.run_bind,Sem.run_pure,Result.andThen_ok,List.map_toArray,List.map_cons,List.map_nil,hs,hx,hrun];exact hK _ _ (h A' c' w' h2 h3)
theorem zh_(t u ty e:TypeId)(i:TypeInfo)(ht:P.underlying t=some (.slice e))(hu:P.underlying u=some .string)(hi:P.info? e=some i)(hz:i.zero=some (.int .u8 0))
  (hsize:i.size=1) (hby:i.bytes=1) (v:Value) (n:Nat) (xs:List Value) (hown:w.ownsRow 0 e 1 v n xs) (s:ByteArray)
  (h63:n+s.size≤maxLen) (hbytes:n+s.size≤140737488355328):
  ∃ v' w',(Builtin.append_ #[t,u] ty #[v,.string s]).run P w=.ok v' w'∧w'.ownsRow 0 e 1 v' (n+s.size) (xs++Lib.strCells s)∧Mv (zaE v) (zaE v') w w':=by
 obtain⟨v',w',hr,h2,h3,_⟩:=Lib.run_append_own_string (P:=P) w 0 t u ty e i ht hu hi hz hsize hby v n xs hown s h63 hbytes (Nat.zero_le _);refine⟨v',w',hr,h2,Fr.of_grown h3,fun k hk=>?_⟩
 rcases hown.2 with ⟨rfl,rfl⟩ | ⟨g,cap,cur,rfl,hbg,hg,hnc,hcm,hcs,htake⟩
 ·have hx:xs=[]:=List.eq_nil_of_length_eq_zero (by simpa using hown.1)
  subst hx;obtain⟨v2,w2,hr2,k2,_,_⟩:=Lib.run_append_own_string (P:=P) w w.heap.size t u ty e i ht hu hi hz hsize hby (.slice none 0 0) 0 [] (World.ownsRow_nil w _ e 1) s h63 hbytes (Nat.le_refl _);rw[hr] at hr2
  injection hr2 with e1 e2
  subst e1 e2;exact .inr (k2.lt k hk).1
 ·by_cases hroom:n+s.size≤cap
  ·have hcs':cur.size=cap:=by simpa using hcs
   have hr2:=Lib.run_append_room_string (P:=P) w t u ty e i ht hu hi hsize g n cap cur hg s hroom (by omega);rw[hr] at hr2
   injection hr2 with e1 e2
   subst e1;exact .inl hk
  ·have holds:∀ j u,xs[j]? =some u→w.cell? ((⟨g,0,none⟩:Addr).add j)=some u:=hown.cells (g:=g) rfl
   have hxl:xs.length=n:=by simpa using hown.1
   have hr2:=Lib.run_append_grow_string (P:=P) w t u ty e i (.int .u8 0) ht hu hi hz ⟨g,0,none⟩ n cap xs (by rw[hsize];simpa using hxl) holds s (by omega) (by unfold maxLen at h63;omega) (by rw[hby];exact growslice_fits (by omega) (by omega));rw[hr] at hr2
   injection hr2 with e1 e2
   subst e1;have hk':some w.heap.size=some k:=hk
   injection hk' with hk'
   exact .inr (by omega)
theorem ze6{ops:Array Oper}{rest:List Oper}{o:Oper}{a:Act}{Q:Exit→Act→World→Prop}(hgd:o.guard=none)(sl x:Operand)(t u:TypeId)
  (ho:o.op=.call {callee:=.builtin .append,args:=#[sl,x],argTypes:=#[t,u]})
  (e:TypeId) (i:TypeInfo) (ht:P.underlying t=some (.slice e)) (hu:P.underlying u=some .string) (hi:P.info? e=some i) (hz:i.zero=some (.int .u8 0))
  (hsize:i.size=1) (hby:i.bytes=1)
  (v:Value) (n:Nat) (xs:List Value) (hs:a.eval sl=v) (hown:w.ownsRow 0 e 1 v n xs) (s:ByteArray) (hx:a.eval x=.string s)
  (h63:n+s.size≤maxLen) (hbytes:n+s.size≤140737488355328)
  (h:∀ A' c' w',w'.ownsRow 0 e 1 (.slice A' (n+s.size) c') (n+s.size) (xs++Lib.strCells s)→Mv (zaE v) (zaE (.slice A' (n+s.size) c')) w w'→wpList P ops Q rest (a.put o.dst (.slice A' (n+s.size) c')) w'):wpList P ops Q (o::rest) a w:=by
 refine wpList_plain hgd fun K hK=>?_;obtain⟨v',w',hr,h2,h3⟩:=zh_ (P:=P) t u o.type e i ht hu hi hz hsize hby v n xs hown s h63 hbytes;obtain⟨A',c',rfl,_⟩:=za5 h2;unfold Oper.wp execOp;simp only[ho,resolve,invoke,builtin,Sem.run_bind,Sem.run_pure,Result.andThen_ok,List.map_toArray,List.map_cons,List.map_nil,hs,hx,hr];exact hK _ _ (h A' c' w' h2 h3)
end
def bys(l:List UInt8):List Value:=l.map fun b=>.int .u8 (b.toNat:Int)
theorem zfD(a b:List UInt8):bys (a++b)=bys a++bys b:=by simp[bys]
theorem zd8(a:List UInt8):(bys a).length=a.length:=by simp[bys]
theorem zbj(s:ByteArray):s.data.toList.length=s.size:=by rw[Array.length_toList];rfl
theorem zrT{n:Nat}(h:n<256):bys [UInt8.ofNat n]=[.int .u8 (n:Int)]:=by
 simp[bys];omega
theorem zdA{P:Program}{w:World}(src dst e:TypeId)(hs:P.underlying src=some (.slice e))(he:P.underlying e=some (.int .u8))(hd:P.underlying dst=some .string)
  {A:Option Addr} {n:Nat} (c:Nat) {l:List UInt8} (h:Rd w 1 A n (bys l)):(convert src dst (.slice A n c)).run P w=.ok (.string ⟨l.toArray⟩) w:=by
 have hl:n=l.length:=by have:=h.1;rw[zd8] at this;omega
 subst hl
 rcases Nat.eq_zero_or_pos l.length with h0 | h0
 ·have:l=[]:=List.eq_nil_of_length_eq_zero h0
  subst this;rw[run_convert_bytes_string w src dst e A _ c hs he hd]
  rcases A with _ | a
  ·simp[Conv.bytesToString];rfl
  ·have hl:=run_loadCells_list (P:=P) w a (([]:List Int).map (Value.int .u8)) (fun j v hj=>by simp at hj)
   simp only[List.length_map] at hl;exact (run_bytesToString w a _ c [] hl).trans rfl
 ·obtain⟨ad,rfl,hc⟩:=h.2 h0
  exact run_convert_bytes_back w src dst e ad c l hs he hd (fun j hj=>hc j _ (by simp[bys,q6_ hj]))
theorem zi0{P:Program}{w:World}(src dst e:TypeId)(hs:P.underlying src=some .string)(hd:P.underlying dst=some (.slice e))(he:P.underlying e=some (.int .u8))(s:ByteArray):
  ∃ c w',(convert src dst (.string s)).run P w=.ok (.slice (some ⟨w.heap.size,0,none⟩) s.size c) w'∧Fr (fun _=>False) w w'∧Rd w' 1 (some ⟨w.heap.size,0,none⟩) s.size (bys s.data.toList):=by
 refine⟨_,_,Lib.run_convert_string_bytes w src dst e s hs hd he,⟨rfl,rfl,rfl,?_,?_⟩,⟨?_,?_⟩⟩
 ·rw[Lib.bytesWorld_size];omega
 ·intro k hk _;exact Lib.bytesWorld_at_old w e s k hk
 ·rw[zd8,zbj];omega
 ·refine fun _=>⟨_,rfl,fun j u hu=>?_⟩
  have hj:j<s.size:=by
   have:=(List.getElem?_eq_some_iff.1 hu).1;rwa[zd8,zbj] at this
  rw[zdZ,Nat.zero_add,Lib.bytesWorld_cell w e s j hj, ← hu]
  have hj':j<s.data.toList.length:=by rw[zbj];exact hj
  simp only[bys,List.getElem?_map,q6_ hj',Option.map_some,List.getD,Option.getD_some]
/- A contract that says 'w = w'' in a region that draws. -/
section
variable {P:Program} {f:FuncId} {args:Array Value} {w:World}
theorem zbk{n:Nat}{v:Value}(h:Calls P f args (w.drewN n) fun e w'=>e=.returned v∧w.drewN n=w'):Calls P f args (w.drewN n) fun e w''=>e=.returned v∧∃ m,w''=w.drewN m:=
 h.mono fun _ _ ⟨he,hm⟩=>⟨he,n,hm.symm⟩
theorem zc2{v:Value}(h:Calls P f args w fun e w'=>e=.returned v∧w=w'):Calls P f args w fun e w''=>e=.returned v∧w''=w:=
 h.mono fun _ _ ⟨he,hm⟩=>⟨he,hm.symm⟩
end
theorem ziY{w:World}{g i:Nat}{v:Value}(h:w.cell? ⟨g,i,none⟩=some v):w.setCell ⟨g,i,none⟩ v=w:=by
 obtain⟨heap,tape,drawn,os,output⟩:=w;simp only[World.setCell,World.mk.injEq,and_true]
 apply Array.ext_getElem?
 intro k;rw[Array.getElem?_modify]
 split
 ·subst k
  simp only[World.cell?] at h
  cases hg:heap[g]? with
  | none=>rfl
  | some o=>
   rw[hg] at h
   cases o<;>simp at h
   rename_i c t fz
   simp only[Option.map_some,Option.isSome_none,Bool.false_eq_true,if_false,Option.some.injEq,Obj.cells.injEq,and_true]
   apply Array.ext_getElem?
   intro j;rw[Array.getElem?_setIfInBounds]
   split
   ·subst j
    rw[h]
    have:i<c.size:=by
     rcases Nat.lt_or_ge i c.size with h1 | h1
     ·exact h1
     ·rw[Array.getElem?_eq_none h1] at h;cases h
    simp[this]
   ·rfl
 ·rfl
structure Own(w:World)(a:World)(F:Nat→Prop):Prop where
 bel:Below w.heap.size w a
 new:∀ k,F k→w.heap.size≤k
section
variable {w a b:World} {F F':Nat→Prop}
theorem Own.mv(h:Own w a F)(m:Mv F F' a b):Own w b F':=
 ⟨h.bel.trans (m.fr.below_of h.bel.size h.new),fun k hk=>by
  rcases m.sub k hk with h1 | h1
  ·exact h.new k h1
  ·exact Nat.le_trans h.bel.size h1⟩
theorem Own.fr(h:Own w a F)(m:Fr F a b):Own w b F:=⟨h.bel.trans (m.below_of h.bel.size h.new),h.new⟩
theorem Own.skip(h:Own w a F)(m:Fr (fun _=>False) a b):Own w b F:=⟨h.bel.trans (m.below_of h.bel.size (fun _ hf=>hf.elim)),h.new⟩
theorem Own.below(h:Own w a F)(m:Below a.heap.size a b):Own w b F:=h.skip (Fr.of_below m)
theorem Own.also{G:Nat→Prop}(h:Own w a F)(hg:∀ k,G k→w.heap.size≤k):Own w a G:=⟨h.bel,hg⟩
theorem Own.start(w:World):Own w w (fun _=>False):=⟨Below.refl _ _,fun _ h=>h.elim⟩
end
theorem znQ{P:Program}{w w':World}{n:String}{k:IntKind}{zs:List Int}(h:Lib.TabIs P w n k zs)(hb:Below w.heap.size w w'):Lib.TabIs P w' n k zs:=by
 unfold Lib.TabIs at h ⊢;unfold World.var? at h ⊢
 cases hg:P.globalNamed n with
 | none=>simp[hg] at h
 | some g=>
  simp only[hg,Option.bind_some] at h ⊢
  have hlt:g<w.heap.size:=by
   rcases Nat.lt_or_ge g w.heap.size with h' | h'
   ·exact h'
   ·simp[Array.getElem?_eq_none h'] at h
  rw[hb.block g hlt];exact h
theorem Blk.new'{w:World}{k:Nat}(hk:k=w.heap.size)(t:TypeId)(cs:Array Value):Blk (w.alloc (.cells cs t)) k t cs:=hk▸Blk.new w t cs
theorem Fr.b0{w w':World}(h:Below w.heap.size w w'):Fr (fun _=>False) w w':=Fr.of_below h
theorem Blk.below{w w':World}{g:Nat}{t:TypeId}{cs:Array Value}(h:Blk w g t cs)(hb:Below w.heap.size w w'):Blk w' g t cs:=h.fr (F:=fun _=>False) (Fr.of_below hb) (fun h=>h)
theorem zlO{w:World}{p:Addr}{v:Value}(h:w.cell? p=some v):∀ o1 o2,((w.alloc o1).alloc o2).cell? p=some v:=fun _ _=>
 (Fr.none_alloc _ _).cell ((Fr.none_alloc _ _).cell h (fun h=>h)) (fun h=>h)
theorem zo4(w:World)(v:Value)(t:TypeId):(w.alloc (.cells #[v] t)).cell? ⟨w.heap.size,0,none⟩=some v:=(Blk.new w t #[v]).cell 0
theorem Rd.newS{w:World}{k:Nat}(hk:k=w.heap.size)(xs:List Value)(t:TypeId)(n size:Nat)(hn:xs.length=n*size):Rd (w.alloc (.cells xs.toArray t)) size (some ⟨k,0,none⟩) n xs:=by
 subst hk;refine⟨hn,fun _=>⟨_,rfl,fun j u hu=>?_⟩⟩;rw[zdZ,Nat.zero_add,(Blk.new w t xs.toArray).cell];simpa using hu
theorem zaV(a:Addr)(n:Nat)(h:n≠0):a.add n=⟨a.block,a.off+n,none⟩:=by simp[Addr.add,h]
theorem Rd.take{w:World}{size n:Nat}{A:Option Addr}{xs:List Value}(h:Rd w size A n xs){k:Nat}(hk:k≤n):Rd w size A k (xs.take (k*size)):=by
 refine⟨by rw[List.length_take,h.1];exact Nat.min_eq_left (Nat.mul_le_mul_right _ hk),fun h0=>?_⟩;obtain⟨ad,rfl,hc⟩:=h.2 (by omega);refine⟨ad,rfl,fun j u hu=>hc j u ?_⟩;rw[List.getElem?_take] at hu
 split at hu
 ·exact hu
 ·cases hu
theorem Blk.set3{w:World}{g:Nat}{t:TypeId}{a0 b0 c0 a b c:Value}(h:Blk w g t #[a0,b0,c0]):Blk (((w.setCell ⟨g,0,none⟩ a).setCell ⟨g,1,none⟩ b).setCell ⟨g,2,none⟩ c) g t #[a,b,c]:=by
 have:=((h.set_ 0 a).set_ 1 b).set_ 2 c;simpa using this
theorem Fr.set3{w1 w:World}{F:Nat→Prop}(h:Fr F w1 w){g:Nat}(hg:F g∨w1.heap.size≤g)(a b c:Value):Fr F w1 (((w.setCell ⟨g,0,none⟩ a).setCell ⟨g,1,none⟩ b).setCell ⟨g,2,none⟩ c):=
 ((h.setCell (p:=⟨g,0,none⟩) hg a).setCell (p:=⟨g,1,none⟩) hg b).setCell (p:=⟨g,2,none⟩) hg c
theorem Blk.set5{w:World}{g:Nat}{t:TypeId}{a0 b0 c0 d0 e0 a b c d e:Value}(h:Blk w g t #[a0,b0,c0,d0,e0]):Blk (((((w.setCell ⟨g,0,none⟩ a).setCell ⟨g,1,none⟩ b).setCell ⟨g,2,none⟩ c).setCell ⟨g,3,none⟩ d).setCell ⟨g,4,none⟩ e) g t #[a,b,c,d,e]:=by
 have:=((((h.set_ 0 a).set_ 1 b).set_ 2 c).set_ 3 d).set_ 4 e;simpa using this
theorem Fr.set5{w1 w:World}{F:Nat→Prop}(h:Fr F w1 w){g:Nat}(hg:F g∨w1.heap.size≤g)(a b c d e:Value):Fr F w1 (((((w.setCell ⟨g,0,none⟩ a).setCell ⟨g,1,none⟩ b).setCell ⟨g,2,none⟩ c).setCell ⟨g,3,none⟩ d).setCell ⟨g,4,none⟩ e):=
 ((h.set3 hg a b c).setCell (p:=⟨g,3,none⟩) hg d).setCell (p:=⟨g,4,none⟩) hg e
theorem zcY{α:Type}{f:α→List Value}{size:Nat}(hf:∀ x,(f x).length=size)(l:List α):(l.flatMap f).length=l.length*size:=by
 induction l with
 | nil=>simp
 | cons a l ih=>rw[List.flatMap_cons,q8_,ih,hf,List.length_cons,Nat.succ_mul,Nat.add_comm]
theorem ziL{α:Type}{f:α→List Value}{size:Nat}(hf:∀ x,(f x).length=size){l:List α}{k:Nat}{x:α}(h:l[k]? =some x)(j:Nat)(hj:j<size):(l.flatMap f)[k*size+j]? =(f x)[j]? :=by
 induction l generalizing k with
 | nil=>simp at h
 | cons a l ih=>
  rw[List.flatMap_cons]
  rcases k with _ | k
  ·simp only[q3_,Option.some.injEq] at h
   subst h;rw[Nat.zero_mul,Nat.zero_add,List.getElem?_append_left (by rw[hf];exact hj)]
  ·simp only[q2_] at h
   rw[List.getElem?_append_right (by rw[hf,Nat.succ_mul];omega),hf,show (k+1)*size+j-size=k*size+j by rw[Nat.succ_mul];omega];exact ih h
theorem Rd.elem{α:Type}{f:α→List Value}{w:World}{size n k:Nat}{A:Option Addr}{l:List α}(hf:∀ x,(f x).length=size)(h:Rd w size A n (l.flatMap f))(hk:k<n)(hs:0<size):
  ∃ ad x,A=some ad∧l[k]? =some x∧∀ j u,(f x)[j]? =some u→w.cell? ((ad.add (k*size)).add j)=some u:=by
 have hl:l.length=n:=by
  have:=h.1;rw[zcY hf] at this;exact Nat.eq_of_mul_eq_mul_right hs this
 obtain⟨ad,e,hc⟩:=h.2 (by omega);refine⟨ad,l[k],e,q6_ (by omega),fun j u hu=>?_⟩
 have hj:j<size:=by rw[← hf l[k]];exact (List.getElem?_eq_some_iff.1 hu).1
 rw[zcy];exact hc _ u (by rw[ziL hf (q6_ (show k<l.length by omega)) j hj];exact hu)
theorem Rd.elems_len{α:Type}{f:α→List Value}{w:World}{size n:Nat}{A:Option Addr}{l:List α}(hf:∀ x,(f x).length=size)(hs:0<size)(h:Rd w size A n (l.flatMap f)):l.length=n:=by
 have:=h.1;rw[zcY hf] at this;exact Nat.eq_of_mul_eq_mul_right hs this
theorem zaZ(a:Addr):a.add 0=a:=by simp[Addr.add]
theorem zcN{w:World}{base n size c:Nat}{e:TypeId}{A:Option Addr}{xs:List Value}(h:w.ownsRow base e size (.slice A n c) n xs)(hn:0<n):∃ g,A=some ⟨g,0,none⟩:=by
 rcases h.2 with ⟨_,h2⟩ | ⟨g,cap,cur,hv,_⟩
 ·omega
 ·injection hv with e1 _ _
  exact⟨g,e1⟩
theorem zkG{w:World}{base n size c g:Nat}{e:TypeId}{xs:List Value}(h:w.ownsRow base e size (.slice (some ⟨g,0,none⟩) n c) n xs):∃ cs,Blk w g e cs:=by
 rcases h.2 with ⟨h2,_⟩ | ⟨g',cap,cur,hv,hb,hg,_⟩
 ·cases h2
 ·injection hv with e1 _ _
  injection e1 with e1
  injection e1 with e1
  subst e1;exact⟨cur,hg⟩
structure zao where
 text:ByteArray
 line:Int
 col:Int
def zao.cells(x:zao):List Value:=[.string x.text,.int .i64 x.line,.int .i64 x.col]
def zao.val(x:zao):Value:=.agg #[.string x.text,.int .i64 x.line,.int .i64 x.col]
def zaM(l:List zao):List Value:=l.flatMap zao.cells
theorem zdi(x:zao):x.cells.length=3:=rfl
theorem zbz(a b:List zao):zaM (a++b)=zaM a++zaM b:=by simp[zaM]
theorem zl1(l:List zao):∀ u∈zaM l,u.oneCell'=true:=by
 intro u hu;obtain⟨x,_,h⟩:=List.mem_flatMap.1 hu;unfold zao.cells at h;simp only[List.mem_cons,List.not_mem_nil,or_false] at h
 rcases h with rfl | rfl | rfl<;>rfl
theorem zl2(l:List zao):(zaM l).length=l.length*3:=by
 unfold zaM
 induction l with
 | nil=>rfl
 | cons x t ih=>rw[List.flatMap_cons,q8_,ih,zdi,List.length_cons,Nat.succ_mul];omega
def zhY(c:UInt8):Bool:=(c.toNat==32)||(c.toNat==9)
def zgJ(c:UInt8):Bool:=decide (32<c.toNat)&&decide (c.toNat<127)
def zhe(out:List zao)(t:ByteArray):List zao:=
 match out.getLast? with
 | some x=>out.dropLast++[{x with text:=t}]
 | none=>out
def zcb(s:ByteArray)(n:Int)(i:Nat)(c:UInt8)(out:List zao)(b:Int):Option (List zao×Int):=
 if !zhY c&& !zgJ c then none
 else if zhY c then some (out, -1)
 else if b<0 then some (out++[⟨s.extract i (i+1),n,(i:Int)+1⟩],(i:Int))
 else some (zhe out (s.extract b.toNat (i+1)),b)
def zcf(s:ByteArray)(n:Int):Nat→Option (List zao×Int)
 | 0=>some ([], -1)
 | i+1=>match zcf s n i with
  | none=>none
  | some p=>match s.data.toList[i]? with
   | none=>some p
   | some c=>zcb s n i c p.1 p.2
def ziu(s:ByteArray):Bool:=s.data.toList.head?==some 35
def zeK(s:ByteArray)(n:Int):Option (List zao):=(zcf s n s.size).map fun p=>p.1.takeWhile fun x=> !ziu x.text
theorem zen{s:ByteArray}{n:Int}{i:Nat}(h:zcf s n i=none):∀ k,zcf s n (i+k)=none
 | 0=>h
 | k+1=>by
  show (match zcf s n (i+k) with | none=>none | some p=>match s.data.toList[i+k]? with | none=>some p | some c=>zcb s n (i+k) c p.1 p.2)=none
  rw[zen h k]
theorem zmO{s:ByteArray}{n:Int}{i:Nat}(hi:i≤s.size)(h:zcf s n i=none):zeK s n=none:=by
 unfold zeK;have:=zen h (s.size-i);rw[show i+(s.size-i)=s.size by omega] at this;rw[this];rfl
theorem zgT(out:List zao)(t:ByteArray):(zhe out t).length=out.length:=by
 unfold zhe
 cases h:out.getLast? with
 | none=>rfl
 | some x=>
  have:out≠[]:=by rintro rfl;cases h
  have:=List.length_pos_iff.2 this;simp;omega
structure ze2(s:ByteArray)(n:Int)(i:Nat)(out:List zao)(b:Int):Prop where
 full:∀ x∈out,1≤x.text.size∧x.text.size≤i
 lines:∀ x∈out,x.line=n
 cols:∀ x∈out,1≤x.col∧x.col≤i
 len:out.length≤i
 lo: -1≤b
 hi:b<(i:Int)
 last:0≤b→out≠[]
theorem extract_size{s:ByteArray}{a b:Nat}(h:b≤s.size):(s.extract a b).size=b-a:=by
 rw[ByteArray.size_extract];omega
theorem ze2.zero{s:ByteArray}{n:Int}:ze2 s n 0 [] (-1):=⟨fun _ h=>(by cases h),fun _ h=>(by cases h),fun _ h=>(by cases h),Nat.le_refl _,Int.le_refl _,by decide,fun h=>absurd h (by decide)⟩
theorem zgS{out:List zao}{t:ByteArray}{x:zao}(h:x∈zhe out t):x∈out∨∃ y∈out,x={y with text:=t}:=by
 unfold zhe at h
 cases hl:out.getLast? with
 | none=>rw[hl] at h;exact .inl h
 | some y=>
  rw[hl] at h
  rcases List.mem_append.1 h with h | h
  ·exact .inl (List.dropLast_subset _ h)
  ·rw[List.mem_singleton] at h
   exact .inr ⟨y,List.mem_of_getLast? hl,h⟩
theorem ze2.step{s:ByteArray}{n:Int}{i:Nat}{c:UInt8}{out out':List zao}{b b':Int}(h:ze2 s n i out b)(hi:i<s.size)(hs:zcb s n i c out b=some (out',b')):ze2 s n (i+1) out' b':=by
 unfold zcb at hs;have hlo:=h.lo;have hhi:=h.hi
 split at hs
 ·cases hs
 split at hs
 ·injection hs with hs
  injection hs with h1 h2
  subst h1 h2;exact⟨fun x hx=>by have:=h.full x hx;omega,h.lines,fun x hx=>by have:=h.cols x hx;omega,by have:=h.len;omega,by omega,by omega,fun h=>absurd h (by decide)⟩
 split at hs
 ·injection hs with hs
  injection hs with h1 h2
  subst h1 h2;refine⟨fun x hx=>?_,fun x hx=>?_,fun x hx=>?_,by have:=h.len;simp;omega,by omega,by omega,fun _=>by simp⟩
  all_goals
   rcases List.mem_append.1 hx with hx | hx
  ·have:=h.full x hx;omega
  ·rw[List.mem_singleton] at hx
   subst hx
   show 1≤(s.extract i (i+1)).size∧(s.extract i (i+1)).size≤i+1
   rw[extract_size (by omega)];omega
  ·exact h.lines x hx
  ·rw[List.mem_singleton] at hx;subst hx;rfl
  ·have:=h.cols x hx;omega
  ·rw[List.mem_singleton] at hx
   subst hx
   show (1:Int)≤(i:Int)+1∧(i:Int)+1≤((i+1:Nat):Int)
   omega
 ·rename_i hb
  injection hs with hs
  injection hs with h1 h2
  subst h1 h2;refine⟨fun x hx=>?_,fun x hx=>?_,fun x hx=>?_,by rw[zgT];have:=h.len;omega,hlo,by omega,fun _ e=>?_⟩
  ·rcases zgS hx with hx | ⟨y,hy,rfl⟩
   ·have:=h.full x hx;omega
   ·show 1≤(s.extract _ _).size∧(s.extract _ _).size≤i+1
    rw[extract_size (by omega)];omega
  ·rcases zgS hx with hx | ⟨y,hy,rfl⟩
   ·exact h.lines x hx
   ·exact h.lines y hy
  ·rcases zgS hx with hx | ⟨y,hy,rfl⟩
   ·have:=h.cols x hx;omega
   ·have:=h.cols y hy
    show (1:Int)≤y.col∧y.col≤((i+1:Nat):Int)
    omega
  ·have h1:=h.last (by omega)
   have:=zgT out (s.extract b.toNat (i+1));rw[e] at this;exact h1 (List.eq_nil_of_length_eq_zero this.symm)
theorem zgI{s:ByteArray}{n:Int}{i:Nat}(hi:i<s.size){out:List zao}{b:Int}(h:zcf s n i=some (out,b)):zcf s n (i+1)=zcb s n i s[i] out b:=by
 have hc:s.data.toList[i]? =some s[i]:=by
  have hl:i<s.data.size:=hi;rw[Array.getElem?_toList,Array.getElem?_eq_getElem hl];rfl
 show (match zcf s n i with | none=>none | some p=>match s.data.toList[i]? with | none=>some p | some c=>zcb s n i c p.1 p.2)=_
 rw[h,hc]
theorem zmU(D:List zao)(x:zao)(t:ByteArray):zhe (D++[x]) t=D++[{x with text:=t}]:=by
 unfold zhe;simp
theorem zka{out:List zao}(h:out≠[])(t:ByteArray):zaM (zhe out t)=(zaM out).set ((out.length-1)*3) (.string t):=by
 obtain⟨D,x,rfl⟩:∃ D x,out=D++[x]:=⟨out.dropLast,out.getLast h,(List.dropLast_concat_getLast h).symm⟩
 rw[zmU,zbz,zbz];have hl:=zl2 D;rw[List.set_append_right _ _ (by rw[hl,q8_,List.length_singleton];omega)]
 congr 1
 rw[hl,q8_,List.length_singleton,show (D.length+1-1)*3-D.length*3=0 by omega]
 rfl
theorem zp9{w:World}{base n size c g k:Nat}{e:TypeId}{xs:List Value}{v:Value}(h:w.ownsRow base e size (.slice (some ⟨g,0,none⟩) n c) n xs):(w.setCell ⟨g,k,none⟩ v).ownsRow base e size (.slice (some ⟨g,0,none⟩) n c) n (xs.set k v):=by
 obtain⟨h1,h2⟩:=h;refine⟨by rw[List.length_set];exact h1,?_⟩
 rcases h2 with ⟨h2,_⟩ | ⟨g',cap,cur,hv,hb,hg,h3,h4,h5,h6⟩
 ·cases h2
 ·injection hv with e1 _ e3
  injection e1 with e1
  injection e1 with e1
  subst e1 e3;refine .inr ⟨g,c,cur.setIfInBounds k v,rfl,hb,?_,h3,h4,by simp[h5],?_⟩
  ·rw[Sort.setCell_eq]
   unfold Sort.mapBlock;rw[Array.getElem?_modify,if_pos rfl,hg]
   rfl
  ·rw[← h6,Array.toList_setIfInBounds,List.take_set]
def znp:List ByteArray→Nat→List zao→List zao ⊕ Nat
 | [],_,acc=>.inl acc
 | s::t,i,acc=>match zeK s ((i:Int)+1) with
  | none=>.inr (i+1)
  | some l=>znp t (i+1) (acc++l)
def zbl:List zao→List zao
 | []=>[]
 | x::t=>x::t.takeWhile fun y=>y.line==x.line
theorem zoK(l:List zao):(zbl l).length≤l.length:=by
 cases l with
 | nil=>exact Nat.le_refl _
 | cons x t=>
  unfold zbl;have:=(List.takeWhile_sublist (fun y:zao=>y.line==x.line) (l:=t)).length_le;simp only[List.length_cons];omega
section
variable {P:Program} {w:World}
theorem zll(t ty e:TypeId)(i:TypeInfo)(z:Value)(size bytes:Nat)(ht:P.underlying t=some (.slice e))(hi:P.info? e=some i)(hz:i.zero=some z)
  (hsize:i.size=size) (hby:i.bytes=bytes) (hzs:z.cells.size=size) (hsz:0<size)
  (v:Value) (n:Nat) (xs:List Value) (base:Nat) (hbase:base≤w.heap.size) (hown:w.ownsRow base e size v n xs)
  (A:Option Addr) (m c:Nat) (news:List Value) (hr:Rd w size A m news) (h1:∀ u∈news,u.oneCell'=true)
  (h63:n+m≤maxLen) (hbytes:(n+m)*bytes≤140737488355328):
  ∃ v' w',(Builtin.append_ #[t,t] ty #[v,.slice A m c]).run P w=.ok v' w'∧w'.ownsRow base e size v' (n+m) (xs++news)∧Mv (zaE v) (zaE v') w w'∧∀ A0 c0,v=.slice A0 n c0→Rd w' size A0 n xs:=by
 rcases A with _ | ad
 ·have hm:m=0:=by
   rcases Nat.eq_zero_or_pos m with h0 | h0
   ·exact h0
   ·obtain⟨ad,h,_⟩:=hr.2 h0
    cases h
  subst hm;have hn:news=[]:=List.eq_nil_of_length_eq_zero (by simpa using hr.1);subst hn;refine⟨v,w,?_,by simpa using hown,Mv.refl _ _,fun A0 c0 e0=>by subst e0;exact Rd.of_own hown⟩
  rcases hown.2 with ⟨rfl,rfl⟩ | ⟨g,cap,cur,rfl,_,_,hnc,_⟩
  ·simp[Builtin.append_,run_underlying ht,sizeOf,typeInfo,hi,Builtin.lenOf,Builtin.firstCells]
  ·simp[Builtin.append_,run_underlying ht,sizeOf,typeInfo,hi,Builtin.lenOf,Builtin.firstCells,hnc,storeCells]
 ·have hcells:∀ j u,news[j]? =some u→w.cell? (ad.add j)=some u:=by
   intro j u hu
   rcases Nat.eq_zero_or_pos m with h0 | h0
   ·subst h0
    have hn:news=[]:=List.eq_nil_of_length_eq_zero (by simpa using hr.1);subst hn;simp at hu
   ·obtain⟨ad',h,hc⟩:=hr.2 h0
    injection h with h
    subst h;exact hc j u hu
  obtain⟨v',w',hrun,h2,h3,_,h5⟩:=run_append_own_at (P:=P) w base t ty e i z size bytes ht hi hz hsize hby hzs hsz v n xs hown ad m c news hr.1 hcells h1 h63 hbytes hbase;refine⟨v',w',hrun,h2,⟨Fr.of_grown h3,fun k hk=>?_⟩,?_⟩
  ·rcases h5 with h5 | h5
   ·exact .inl (h5.symm.trans hk)
   ·have hk':v'.ownBlock=some k:=hk
    rw[h5] at hk'
    injection hk' with hk'
    exact .inr (by omega)
  ·intro A0 c0 e0
   rcases hown.2 with ⟨hv,rfl⟩ | ⟨g,cap,cur,hv,hbg,hg,hnc,hcm,hcs,htake⟩
   ·rw[hv] at e0
    injection e0 with e1 e2 e3
    subst e1;have hx:xs=[]:=List.eq_nil_of_length_eq_zero (by simpa using hown.1);subst hx;exact Rd.nil_
   ·rw[hv] at e0
    injection e0 with e1 e2 e3
    subst e1;subst hv
    by_cases hroom:n+m≤cap
    ·have hl:news.length=m*i.size:=by rw[hsize];exact hr.1
     have hr2:=run_append_room (P:=P) w t ty e i ht hi g n cap cur hg ad m c news hl hcells h1 hroom (by rw[hl, ← Nat.add_mul,hsize,hcs];exact Nat.mul_le_mul_right _ hroom);rw[hrun] at hr2
     injection hr2 with f1 f2
     subst f1;have:=(Rd.of_own h2).take (k:=n) (by omega);rwa[show n*size=xs.length by rw[hown.1],List.take_left' rfl] at this
    ·have hxl:xs.length=n*size:=hown.1
     have holds:∀ j u,xs[j]? =some u→w.cell? ((⟨g,0,none⟩:Addr).add j)=some u:=hown.cells (g:=g) rfl;have hr2:=run_append_grow (P:=P) w t ty e i z ht hi hz ⟨g,0,none⟩ n cap xs (by rw[hsize];exact hxl) holds ad m c news (by rw[hsize];exact hr.1) hcells (by omega) (by unfold maxLen at h63;omega) (by rw[hby];exact growslice_fits (by omega) hbytes);rw[hrun] at hr2
     injection hr2 with f1 f2
     subst f2;exact ((Rd.of_own hown).drew).alloc _
theorem zbs{ops:Array Oper}{rest:List Oper}{o:Oper}{a:Act}{Q:Exit→Act→World→Prop}(hgd:o.guard=none)(s x:Operand)(t:TypeId)
  (ho:o.op=.call {callee:=.builtin .append,args:=#[s,x],argTypes:=#[t,t]})
  (e:TypeId) (i:TypeInfo) (z:Value) (size bytes:Nat) (ht:P.underlying t=some (.slice e)) (hi:P.info? e=some i) (hz:i.zero=some z)
  (hsize:i.size=size) (hby:i.bytes=bytes) (hzs:z.cells.size=size) (hsz:0<size)
  (v:Value) (n:Nat) (xs:List Value) (hs:a.eval s=v) (base:Nat) (hbase:base≤w.heap.size) (hown:w.ownsRow base e size v n xs)
  (A:Option Addr) (m c:Nat) (news:List Value) (hx:a.eval x=.slice A m c) (hr:Rd w size A m news) (h1:∀ u∈news,u.oneCell'=true)
  (h63:n+m≤maxLen) (hbytes:(n+m)*bytes≤140737488355328)
  (h:∀ A' c' w',w'.ownsRow base e size (.slice A' (n+m) c') (n+m) (xs++news)→Mv (zaE v) (zaE (.slice A' (n+m) c')) w w'→(∀ A0 c0,v=.slice A0 n c0→Rd w' size A0 n xs)→wpList P ops Q rest (a.put o.dst (.slice A' (n+m) c')) w'):wpList P ops Q (o::rest) a w:=
 wpList_plain hgd fun K hK=>by
  obtain⟨v',w',hrun,h2,h3,h4⟩:=zll (P:=P) t o.type e i z size bytes ht hi hz hsize hby hzs hsz v n xs base hbase hown A m c news hr h1 h63 hbytes;obtain⟨A',c',rfl,_⟩:=za5 h2;unfold Oper.wp execOp;simp only[ho,resolve,invoke,builtin,Sem.run_bind,Sem.run_pure,Result.andThen_ok,List.map_toArray,List.map_cons,List.map_nil,hs,hx,hrun];exact hK _ _ (h A' c' w' h2 h3 h4)
end
theorem zdB{w:World}{base n size k:Nat}{e:TypeId}{v:Value}{xs:List Value}(h:w.ownsRow base e size v n xs)(hk:zaE v k):∃ cs fz,w.heap[k]? =some (.cells cs e fz):=by
 rcases h.2 with ⟨rfl,_⟩ | ⟨g,cap,cur,rfl,_,hg,_⟩
 ·cases hk
 ·have hk':some g=some k:=hk
  injection hk' with hk'
  subst hk';exact⟨_,_,hg⟩
theorem zaT{w:World}{base base' size n:Nat}{e:TypeId}{v:Value}{xs:List Value}(h:w.ownsRow base e size v n xs)(hb:base'≤base):w.ownsRow base' e size v n xs:=by
 refine⟨h.1,?_⟩
 rcases h.2 with h2 | ⟨g,cap,cur,hv,hg,r⟩
 ·exact .inl h2
 ·exact .inr ⟨g,cap,cur,hv,Nat.le_trans hb hg,r⟩
structure HV(α:Type) where
 v:Value
 l:List α
structure zsK{α:Type}(f:α→List Value)(w:World)(base:Nat)(e:TypeId)(size:Nat)(hs:List (HV α)):Prop where
 own:∀ h∈hs,w.ownsRow base e size h.v h.l.length (h.l.flatMap f)
 apart:hs.Pairwise fun a b=>∀ k,zaE a.v k→¬ zaE b.v k
section
variable {α:Type} {f:α→List Value} {w w':World} {base:Nat} {E e:TypeId} {size:Nat} {V U:Value} {hs us:List (HV α)} {F:Nat→Prop}
end
section
variable {α:Type} {f:α→List Value} {mk:Nat→Nat→List α} {w w':World} {base:Nat} {e:TypeId} {size:Nat} {hs:List (HV α)}
end
section
variable {P:Program} {w:World}
end
section
variable {α:Type} {f:α→List Value} {w w':World} {base:Nat} {e:TypeId} {size:Nat} {F:Nat→Prop}
end
section
variable {α:Type} {f:α→List Value} {w w':World} {base B:Nat} {e:TypeId} {size:Nat} {mk:Nat→Nat→List α} {hs gs:List (HV α)} {F:Nat→Prop}
end
end Go.Proofs.YtjhhodndlkpmhaaGreatDoor
