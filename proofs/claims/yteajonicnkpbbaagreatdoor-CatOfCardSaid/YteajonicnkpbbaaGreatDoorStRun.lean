/- Steps of a state one behind the other; likeness of states: plain laws. -/
import Derived.Test.YteajonicnkpbbaaGreatDoorShNote
import Derived.Test.YteajonicnkpbbaaGreatDoorParseP
namespace Go.Proofs.YteajonicnkpbbaaGreatDoor
set_option linter.all false
open Go.RowKit Tryz
def zgn(Q:StX)(o:OpS):StX:=
 if o.kind=1 then zem Q o.sl else if o.kind=2 then zdP Q o.n else if o.kind=3 then zbB Q (zaL o.text) else if o.kind=4 then zc6 Q else if o.kind=5 then zfq Q else Q
def zgm(Q:StX)(l:List OpS):StX:=l.foldl zgn Q
theorem zmv(Q:StX)(l:List OpS)(o:OpS):zgm Q (l++[o])=zgn (zgm Q l) o:=by unfold zgm;rw[List.foldl_append];rfl
theorem zoO{nm:ByteArray}{l:List za_}(h:zai nm l=true):zaO nm l∧nm.size≤maxLen:=by
 refine⟨⟨h,fun t ht=>?_⟩,?_⟩
 ·have hm:=zaq h ht
  obtain⟨i,hi⟩:=List.getElem?_of_mem ht;have hf:=zcG h hi
  have hn:zaE t.name=true:=by
   cases hv:zaE t.name
   ·unfold zdL za_.ok at hf
    simp[hv] at hf
   ·rfl
  have:=zi9 hn;unfold za_.wf i64 maxLen;omega
 ·have hn:zaE nm=true:=by
   cases hv:zaE nm
   ·unfold zai at h
    simp[hv] at h
   ·rfl
  have:=zi9 hn;unfold maxLen;omega
theorem zgy(text:ByteArray):zko (zaL text):=by
 unfold zko zaL;obtain⟨e,a,nm,l⟩:=zbV text;simp only
 by_cases he:e=0
 ·rw[if_pos he]
  by_cases hc:zai nm l=true
  ·rw[if_pos hc]
   intro _;exact zoO hc
  ·rw[if_neg hc]
   intro h;exact absurd h (by decide)
 ·rw[if_neg he]
  intro h;exact absurd h he
theorem zax.op{Q:StX}{c:Nat}(h:zax Q c)(hc:c≤1000000)(o:OpS):zax (zgn Q o) (c+8):=by
 unfold zgn
 split
 ·exact h.put hc _
 split
 ·exact (h.tick hc _).more (by omega)
 split
 ·exact (h.change (zgy _)).more (by omega)
 split
 ·exact h.step hc
 split
 ·exact h.abort.more (by omega)
 ·exact h.more (by omega)
theorem Blk.set12{w:World}{g:Nat}{t:TypeId}{o0 o1 o2 o3 o4 o5 o6 o7 o8 o9 o10 o11 a0 a1 a2 a3 a4 a5 a6 a7 a8 a9 a10 a11:Value}(h:Blk w g t #[o0,o1,o2,o3,o4,o5,o6,o7,o8,o9,o10,o11]):Blk ((((((((((((w.setCell ⟨g,0,none⟩ (a0)).setCell ⟨g,1,none⟩ (a1)).setCell ⟨g,2,none⟩ (a2)).setCell ⟨g,3,none⟩ (a3)).setCell ⟨g,4,none⟩ (a4)).setCell ⟨g,5,none⟩ (a5)).setCell ⟨g,6,none⟩ (a6)).setCell ⟨g,7,none⟩ (a7)).setCell ⟨g,8,none⟩ (a8)).setCell ⟨g,9,none⟩ (a9)).setCell ⟨g,10,none⟩ (a10)).setCell ⟨g,11,none⟩ (a11)) g t #[a0,a1,a2,a3,a4,a5,a6,a7,a8,a9,a10,a11]:=by
 have:=((((((((((((h.set_ 0 a0).set_ 1 a1).set_ 2 a2).set_ 3 a3).set_ 4 a4).set_ 5 a5).set_ 6 a6).set_ 7 a7).set_ 8 a8).set_ 9 a9).set_ 10 a10).set_ 11 a11)
 simpa using this
theorem Fr.set12{w1 w:World}{F:Nat→Prop}(h:Fr F w1 w){g:Nat}(hg:F g∨w1.heap.size≤g)(a0 a1 a2 a3 a4 a5 a6 a7 a8 a9 a10 a11:Value):Fr F w1 ((((((((((((w.setCell ⟨g,0,none⟩ (a0)).setCell ⟨g,1,none⟩ (a1)).setCell ⟨g,2,none⟩ (a2)).setCell ⟨g,3,none⟩ (a3)).setCell ⟨g,4,none⟩ (a4)).setCell ⟨g,5,none⟩ (a5)).setCell ⟨g,6,none⟩ (a6)).setCell ⟨g,7,none⟩ (a7)).setCell ⟨g,8,none⟩ (a8)).setCell ⟨g,9,none⟩ (a9)).setCell ⟨g,10,none⟩ (a10)).setCell ⟨g,11,none⟩ (a11)):=
 ((((((((((((h.setCell (p:=⟨g,0,none⟩) hg a0).setCell (p:=⟨g,1,none⟩) hg a1).setCell (p:=⟨g,2,none⟩) hg a2).setCell (p:=⟨g,3,none⟩) hg a3).setCell (p:=⟨g,4,none⟩) hg a4).setCell (p:=⟨g,5,none⟩) hg a5).setCell (p:=⟨g,6,none⟩) hg a6).setCell (p:=⟨g,7,none⟩) hg a7).setCell (p:=⟨g,8,none⟩) hg a8).setCell (p:=⟨g,9,none⟩) hg a9).setCell (p:=⟨g,10,none⟩) hg a10).setCell (p:=⟨g,11,none⟩) hg a11)
theorem zbu:(prog.info? 29).map (·.size)=some 12:=by kernel_rfl
theorem zdC(w:World):(Instr.build 29 #[]).run prog w=.ok (.agg #[.int .u64 0,.int .u64 0,.int .i64 0,.string {data:=#[]},.slice none 0 0,.slice none 0 0,.string {data:=#[]},.slice none 0 0,.slice none 0 0,.int .i64 0,.int .i64 0,.slice none 0 0]) w:=by kernel_rfl
section
variable {P:Program} {w:World} {g:Nat} {t:TypeId} {cs:Array Value}
theorem zcL(h:Blk w g t cs)(vs:Array Value)(n:Nat)(hs:cs.size=n)(hv:vs.size=n)(h1:vs.all (·.oneCell')=true)(hi:(P.info? t).map (·.size)=some n):
  ∃ w',(storeCells ⟨g,0,none⟩ vs.toList 0).run P w=.ok () w'∧(Instr.storeAt t (.pointer (some ⟨g,0,none⟩)) (.agg vs)).run P w=.ok () w'∧(storeVar t ⟨g,0,none⟩ (.agg vs)).run P w=.ok () w'∧Blk w' g t vs∧Fr (fun i=>i=g) w w':=by
 have hb:w.heap[g]? =some (Obj.cells cs t (0,0)):=h;have hlt:g<w.heap.size:=(Array.getElem?_eq_some_iff.1 hb).1;have hsv:(storeVar t ⟨g,0,none⟩ (.agg vs)).run P w=.ok () (w.setRow g vs):=run_storeVar_row _ _ t t cs vs hb (by rw[hi,hv]) (by omega) h1;refine⟨w.setRow g vs,?_,?_,hsv,?_,?_⟩
 ·have:=run_storeCells_from (P:=P) g t vs.toList 0 cs w hb (by simp;omega) (fun v hv=>by rw[Array.all_eq_true_iff_forall_mem] at h1;exact h1 v (by simpa using hv))
  simpa using this
 ·simp only[Instr.storeAt,Instr.sureAddr,Sem.run_bind,Sem.run_pure,Result.andThen]
  exact hsv
 ·show (w.setRow g vs).heap[g]? =_
  unfold World.setRow;simp[Array.getElem?_modify,hb]
 ·refine⟨rfl,rfl,rfl,by simp[World.setRow],fun i hi hn=>?_⟩
  show (w.setRow g vs).heap[i]? =_
  unfold World.setRow;simp only[Array.getElem?_modify];rw[if_neg (fun e=>hn e.symm)]
theorem zc9{fs:Array Field}(h:Blk w g t cs)(n:Nat)(hs:cs.size=n)(hu:P.underlying t=some (.struct fs))(hi:(P.info? t).map (·.size)=some n):
  (loadCellsFrom ⟨g,0,none⟩ 0 n #[]).run P w=.ok cs w∧(Instr.loadAt t (.pointer (some ⟨g,0,none⟩))).run P w=.ok (.agg cs) w∧(loadVar t ⟨g,0,none⟩).run P w=.ok (.agg cs) w:=by
 have hb:w.heap[g]? =some (Obj.cells cs t (0,0)):=h
 have h0:(loadCellsFrom ⟨g,0,none⟩ 0 n #[]).run P w=.ok cs w:=by
  subst hs
  have:=run_loadCells_list (P:=P) w ⟨g,0,none⟩ cs.toList (fun j v hv=>by
   have hadd:(⟨g,0,none⟩:Addr).add j=⟨g,j,none⟩:=by unfold Addr.add;split<;>simp_all
   rw[hadd,cell_of_row _ _ j cs t (0,0) hb]
   simpa using hv)
  simpa[loadCells] using this
 have h2:(loadVar t ⟨g,0,none⟩).run P w=.ok (.agg cs) w:=by
  cases hq:P.info? t with
  | none=>simp[hq] at hi
  | some i=>
   have hz:i.size=n:=by simpa[hq] using hi
   simp[loadVar,isAgg,underlying,sizeOf,typeInfo,hq,hu,hz,loadCells,h0]
 refine⟨h0,?_,h2⟩;simp only[Instr.loadAt,Instr.sureAddr,Sem.run_bind,Sem.run_pure,Result.andThen];exact h2
end
theorem zkQ{fn:Func}{p u:Tmp}{t:TypeId}(h:fn.results=#[.cell p t,.tmp u])(tmps:Array Value)(P:Program)(w:World)(g:Nat)(vs:Array Value)(hp:tmps.getD p undef=.pointer (some ⟨g,0,none⟩))(hl:(loadVar t ⟨g,0,none⟩).run P w=.ok (.agg vs) w):
  (results fn tmps).run P w=.ok (.tuple #[.agg vs,tmps.getD u undef]) w:=by
 have hp2:tmps[p]?.getD undef=.pointer (some ⟨g,0,none⟩):=by rw[← hp];simp
 simp[results,h,asAddr,hp2,hl]
theorem zbJ{P:Program}{fn:Func}{R:Ending→World→Prop}{a:Act}{w:World}{p u:Tmp}{t:TypeId}(hf:fn.results=#[.cell p t,.tmp u])(g:Nat)(vs:Array Value)(x:Value)(hp:a.tmps.getD p undef=.pointer (some ⟨g,0,none⟩))(hx:a.tmps.getD u undef=x)
  (hl:(loadVar t ⟨g,0,none⟩).run P w=.ok (.agg vs) w) (hd:a.defers=[]) (hR:R (.returned (.tuple #[.agg vs,x])) w):bodyPost P fn R .ret a w:=
 bodyPost_ret (by rw[zkQ hf a.tmps P w g vs hp hl,hx]) hd hR
section
variable {P:Program} {w:World} {ops:Array Oper} {rest:List Oper} {o:Oper} {a:Act} {Q:Exit→Act→World→Prop}
theorem za6(hgd:o.guard=none)(p x:Operand)(t:TypeId)(ho:o.op=.store t p x)(g:Nat)(vs:Array Value)(w':World)(hp:a.eval p=.pointer (some ⟨g,0,none⟩))(hx:a.eval x=.agg vs)
  (hrun:(Instr.storeAt t (.pointer (some ⟨g,0,none⟩)) (.agg vs)).run P w=.ok () w') (h:wpList P ops Q rest (a.put o.dst undef) w'):wpList P ops Q (o::rest) a w:=
 wpList_plain hgd fun K hK=>by
  unfold Oper.wp execOp;simp only[ho,Sem.run_bind,hp,hx,hrun,Result.andThen_ok,Sem.run_pure];exact hK _ _ h
theorem zbs(hgd:o.guard=none)(t:TypeId)(ho:o.op=.build t #[])(v:Value)(hrun:(Instr.build t #[]).run P w=.ok v w)(h:wpList P ops Q rest (a.put o.dst v) w):wpList P ops Q (o::rest) a w:=
 wpList_plain hgd fun K hK=>by
  unfold Oper.wp execOp
  have e:(Instr.build t ((#[]:Array (Nat×Operand)).map fun (i,x)=>(i,a.eval x))).run P w=.ok v w:=by simpa using hrun
  simp only[ho,Sem.run_bind,e,Result.andThen_ok,Sem.run_pure];exact hK _ _ h
theorem zhf(hgd:o.guard=none)(p:Operand)(t:TypeId)(ho:o.op=.load t p)(g:Nat)(vs:Array Value)(hp:a.eval p=.pointer (some ⟨g,0,none⟩))
  (hrun:(Instr.loadAt t (.pointer (some ⟨g,0,none⟩))).run P w=.ok (.agg vs) w) (h:wpList P ops Q rest (a.put o.dst (.agg vs)) w):wpList P ops Q (o::rest) a w:=
 wpList_plain hgd fun K hK=>by
  unfold Oper.wp execOp;simp only[ho,Sem.run_bind,hp,hrun,Result.andThen_ok,Sem.run_pure];exact hK _ _ h
end
def ZC:Array Value:=#[.int .u64 0,.int .u64 0,.int .i64 0,.string {data:=#[]},.slice none 0 0,.slice none 0 0,.string {data:=#[]},.slice none 0 0,.slice none 0 0,.int .i64 0,.int .i64 0,.slice none 0 0]
structure GA(w W:World)(g cb:Nat)(s:RS)(cs:Array Value):Prop where
 fr:Fr (fun _=>False) w W
 glo:w.heap.size<g
 clo:w.heap.size<cb
 rb:Blk W w.heap.size 29 ZC
 cb:Blk W cb 29 cs
 u:UQ W g s
section
variable {w W W':World} {g cb:Nat} {s s':RS} {cs:Array Value}
theorem GA.gc(h:GA w W g cb s cs):g≠cb:=h.u.1.ne_ h.cb (by decide)
theorem GA.read(h:GA w W g cb s cs)(u:UQ W' g s')(f:Fr (fun i=>i=g) W W'):GA w W' g cb s' cs:=
 ⟨h.fr.trans f (fun k hk=>.inr (by have:=h.glo;omega)),h.glo,h.clo,h.rb.fr f (fun e=>by have:=h.glo;omega),h.cb.fr f (fun e=>h.gc e.symm),u⟩
theorem GA.fr0(h:GA w W g cb s cs)(f:Fr (fun _=>False) W W'):GA w W' g cb s cs:=
 ⟨h.fr.trans f q4_,h.glo,h.clo,h.rb.fr f (fun h=>h),h.cb.fr f (fun h=>h),h.u.fr0 f⟩
theorem GA.set_(h:GA w W g cb s cs)(p:Nat)(v:Value):GA w (W.setCell ⟨cb,p,none⟩ v) g cb s (cs.setIfInBounds p v):=by
 have f:Fr (fun i=>i=cb) W (W.setCell ⟨cb,p,none⟩ v):=(Fr.refl (fun i=>i=cb) W).setCell (p:=⟨cb,p,none⟩) (.inl rfl) v;exact⟨h.fr.setCell (p:=⟨cb,p,none⟩) (.inr (Nat.le_of_lt h.clo)) v,h.glo,h.clo,h.rb.fr f (fun e=>by have:=h.clo;omega),h.cb.set_ p v,h.u.fr f h.gc⟩
theorem GA.lt(h:GA w W g cb s cs):g<W.heap.size∧cb<W.heap.size∧w.heap.size<W.heap.size:=⟨h.u.1.lt,h.cb.lt,h.rb.lt⟩
theorem GA.grow{wq w6 w7:World}{t t':RS}{m p j bc c7:Nat}{B A7:Option Addr}{bl:List Int}{v:Int}{o:Obj}(h:GA w wq g cb t cs)(hr:wq.ownsRow m 3 1 (.slice B j bc) j (zaU bl))(hm:g<m∧cb<m∧w.heap.size<m)(hp:cs[p]? =some (.slice B j bc))
  (hu:UQ w6 g t') (f6:Fr (fun i=>i=g) wq w6) (h7:w7.ownsRow m 3 1 (.slice A7 (j+1) c7) (j+1) (zaU bl++[.int .i64 v])) (mv:Mv (zay (.slice B j bc)) (zay (.slice A7 (j+1) c7)) (w6.alloc o) w7):
  (w7.cell? ⟨cb,p,none⟩=some (.slice B j bc)∧w7.frozen? ⟨cb,p,none⟩=false)∧
  GA w (w7.setCell ⟨cb,p,none⟩ (.slice A7 (j+1) c7)) g cb t' (cs.setIfInBounds p (.slice A7 (j+1) c7))∧
  (w7.setCell ⟨cb,p,none⟩ (.slice A7 (j+1) c7)).ownsRow m 3 1 (.slice A7 (j+1) c7) (j+1) (zaU (bl++[v]))∧
  Fr (fun i=>(i=g∨i=cb)∨zay (.slice B j bc) i) wq (w7.setCell ⟨cb,p,none⟩ (.slice A7 (j+1) c7)):=by
 have h6:=(h.read hu f6).fr0 (Fr.none_alloc w6 o);have hrm:∀ k,zay (.slice B j bc) k→m≤k:=fun k hk=>(hr.lt k hk).1
 have h7a:GA w w7 g cb t' cs:=⟨h6.fr.trans mv.fr (fun k hk=>.inr (by have:=hrm k hk;omega)),h6.glo,h6.clo,h6.rb.fr mv.fr (fun hk=>by have:=hrm _ hk;omega),h6.cb.fr mv.fr (fun hk=>by have:=hrm _ hk;omega),h6.u.fr mv.fr (fun hk=>by have:=hrm _ hk;omega)⟩
 have hst:Fr (fun i=>i=cb) w7 (w7.setCell ⟨cb,p,none⟩ (.slice A7 (j+1) c7)):=(Fr.refl (fun i=>i=cb) w7).setCell (p:=⟨cb,p,none⟩) (.inl rfl) _;refine⟨⟨by rw[h7a.cb.cell p,hp],h7a.cb.frozen p⟩,h7a.set_ p _,?_,?_⟩
 ·have e:zaU (bl++[v])=zaU bl++[.int .i64 v]:=by unfold zaU;rw[List.map_append];rfl
  rw[e];exact zah h7 hst (fun k hk e=>zad h7 h7a.cb (by decide) (by rw[← e];exact hk))
 ·exact ((((f6.mono (G:=fun i=>(i=g∨i=cb)∨zay (.slice B j bc) i) (fun k hk=>.inl (.inl (.inl hk)))).alloc o).trans mv.fr (fun k hk=>.inl (.inr hk))).trans hst (fun k hk=>.inl (.inl (.inr hk))))
end
theorem zpG(t:ByteArray):((zaL t).1=0∧zaO (zaL t).2.1 (zaL t).2.2∧(zaL t).2.1.size≤maxLen)∨((zaL t).1≠0∧(zaL t).2=(ByteArray.empty,[])):=by
 by_cases h:(zaL t).1=0
 ·exact .inl ⟨h,zgy t h⟩
 ·refine .inr ⟨h,?_⟩
  revert h
  unfold zaL;obtain⟨e,a,nm,l⟩:=zbV t;simp only
  by_cases he:e=0
  ·rw[if_pos he]
   by_cases hc:zai nm l=true
   ·rw[if_pos hc]
    intro h;exact absurd rfl h
   ·rw[if_neg hc]
    intro _
    rfl
  ·rw[if_neg he]
   intro _
   rfl
theorem zgz{t nm:ByteArray}{e:Int}{l:List za_}(h:zaL t=(e,nm,l)):nm.size≤maxLen∧(∀ t∈l,t.wf)∧l.length≤5:=by
 rcases zpG t with ⟨_,p,hs⟩ | ⟨_,h2⟩
 ·rw[h] at p hs
  exact⟨hs,p.wf,p.five⟩
 ·rw[h] at h2
  dsimp only at h2
  injection h2 with h1 h2
  subst h1 h2;exact⟨Nat.zero_le _,fun t ht=>(by cases ht),Nat.zero_le _⟩
theorem zmH{t nm:ByteArray}{e1 e:Int}{l:List za_}(h:zlN e1 t=(e,nm,l)):nm.size≤maxLen∧(∀ t∈l,t.wf)∧l.length≤5:=by
 unfold zlN at h
 split at h
 ·injection h with _ h
  injection h with h1 h2
  subst h1 h2;exact⟨Nat.zero_le _,fun t ht=>(by cases ht),Nat.zero_le _⟩
 ·exact zgz h
end Go.Proofs.YteajonicnkpbbaaGreatDoor
