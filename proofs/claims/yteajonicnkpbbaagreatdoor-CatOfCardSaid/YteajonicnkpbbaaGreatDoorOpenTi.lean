/- An api.Policy that came in. -/
import Derived.Test.YteajonicnkpbbaaGreatDoorFills
import Derived.Test.YteajonicnkpbbaaGreatDoorTiersP
import Derived.Test.YteajonicnkpbbaaGreatDoorBookKR
namespace Go.Proofs.YteajonicnkpbbaaGreatDoor
set_option linter.all false
open Go.ChangeShapes Go.WideShapes Go.ChangeAt Go.RowKit
open Go.RowKit Tryz
theorem zqI{w:World}{base n c g:Nat}{e:TypeId}{xs:List Value}{cs:Array Value}(h:w.ownsRow base e 1 (.slice (some ⟨g,0,none⟩) n c) n xs)(hB:Blk w g e cs):n≤cs.size:=by
 rcases h.2 with ⟨h2,_⟩ | ⟨g',cap,cur,hv,hb,hg,h3,h4,h5,h6⟩
 ·cases h2
 ·injection hv with e1 _ e3
  injection e1 with e1
  injection e1 with e1
  subst e1;have hB':w.heap[g]? =some (Obj.cells cs e (0,0)):=hB;rw[hg] at hB'
  injection hB' with hB'
  injection hB' with hc _ _
  subst hc;have h1:=h.1;have:=congrArg List.length h6;rw[List.length_take,h1,Array.length_toList] at this;omega
theorem zpO{w:World}{base n c g k:Nat}{e:TypeId}{xs:List Value}{v:Value}(h:w.ownsRow base e 1 (.slice (some ⟨g,0,none⟩) n c) n xs):(w.setCell ⟨g,k,none⟩ v).ownsRow base e 1 (.slice (some ⟨g,0,none⟩) n c) n (xs.set k v):=by
 obtain⟨h1,h2⟩:=h;refine⟨by rw[List.length_set];exact h1,?_⟩
 rcases h2 with ⟨h2,_⟩ | ⟨g',cap,cur,hv,hb,hg,h3,h4,h5,h6⟩
 ·cases h2
 ·injection hv with e1 _ e3
  injection e1 with e1
  injection e1 with e1
  subst e1 e3;refine .inr ⟨g,c,cur.setIfInBounds k v,rfl,hb,?_,h3,h4,by simp[h5],?_⟩
  ·rw[Sort.setCell_eq]
   unfold Sort.mapBlock;rw[Array.getElem?_modify,if_pos rfl,hg]
   rfl
  ·rw[← h6,Array.toList_setIfInBounds,List.take_set]
theorem zoi{L:List Nat}{k b:Nat}(h:L.Nodup)(hb:b∉L):(L.set k b).Nodup:=by
 unfold List.Nodup at h ⊢;rw[List.pairwise_iff_getElem] at h ⊢;intro i j hi hj hij;rw[List.length_set] at hi hj;rw[List.getElem_set,List.getElem_set]
 split
 ·split
  ·omega
  ·exact fun e=>hb (e▸List.getElem_mem hj)
 ·split
  ·exact fun e=>hb (e▸List.getElem_mem hi)
  ·exact h i j hi hj hij
section
variable {w w':World} {g k:Nat} {G L F:Nat→Prop}
end
open Go.Maps (Keyed int_keyed keyOf_int_mk)
theorem zrn:Keyed prog 3:=int_keyed underlying3
theorem zjI:Keyed prog 116:=Keyed.of_law (deep_law_gate zlW (of_decide_eq_true (by kernel_rfl)) (of_decide_eq_true (by kernel_rfl)) (by kernel_rfl) (by kernel_rfl))
def zob(a b:Int):Value:=.agg #[.int .i64 a,.int .i64 b]
def zhk(a b:Int):Lit:=.string (keyBytes [.int .i64 a,.int .i64 b])
theorem zrG{x:Int}(h:zbx x):(Lit.int .i64 x).wf=true:=by
 obtain⟨h1,h2⟩:=h;simp[Lit.wf,IntKind.min,IntKind.max,IntKind.bits,IntKind.signed];omega
theorem ziD{a b:Int}(ha:zbx a)(hb:zbx b):keyOf prog 116 (zob a b)=some (zhk a b):=by
 have hk:prog.keyType 116=true:=by kernel_rfl
 have hc:prog.cellsOf 116=2:=by kernel_rfl
 have hci:prog.cellsOf 3=1:=by kernel_rfl
 have h0:1<prog.types.size:=of_decide_eq_true (by kernel_rfl)
 obtain⟨m,hm⟩:∃ m,prog.types.size=m+1:=⟨prog.types.size-1,by omega⟩
 have hwa:=zrG ha;have hwb:=zrG hb
 have hf:(zob a b).formed prog 116=true:=by simp[zob,Value.formed,underlying116,hc]
 unfold keyOf zhk;rw[underlying116];simp only;rw[if_pos (by rw[hk,hf];rfl),hm];simp[zob,Value.cells,Program.keyLits,underlying116,underlying3,hc,hci,hwa,hwb];refine⟨[[.int .i64 a],[.int .i64 b]],?_,rfl⟩;rw[show List.range 2=[0,1] from rfl];simp[hwa,hwb]
theorem zpM{a b c d:Int}(ha:zbx a)(hb:zbx b)(hc:zbx c)(hd:zbx d)(h:zhk a b=zhk c d):a=c∧b=d:=by
 have h2:=ziD hc hd;rw[← h] at h2;have h1:=zjI.inj (ziD ha hb) h2;simp[zob] at h1;exact h1
theorem zil:∀ (xs acc:List Lit),(xs.foldl Maps.addKey acc).length≤acc.length+xs.length
 | [],acc=>by simp
 | x::xs,acc=>by
  have h:=zil xs (Maps.addKey acc x)
  have h2:(Maps.addKey acc x).length≤acc.length+1:=by
   unfold Maps.addKey
   split<;>simp
  simp only[List.foldl_cons,List.length_cons];omega
theorem zqF{a b:Lit}(ha:WideAt.IsKeyLit a):a.sameKey b=true↔a=b:=by
 constructor
 ·intro h
  by_cases e:a=b
  ·exact e
  ·rw[Maps.sameKey_ne e] at h
   cases h
 ·rintro rfl
  exact WideAt.sameKey_self ha
theorem zeO:∀ (xs acc:List Lit),(∀ x∈xs,WideAt.IsKeyLit x)→(∀ x∈acc,WideAt.IsKeyLit x)→acc.Nodup→((xs.foldl Maps.addKey acc).length=acc.length+xs.length↔(acc++xs).Nodup)
 | [],acc,_,_,hn=>by simp[hn]
 | x::xs,acc,hx,ha,hn=>by
  have hxx:=hx x (by simp)
  by_cases hm:x∈acc
  ·have h1:Maps.addKey acc x=acc:=by
    unfold Maps.addKey;rw[if_pos];rw[List.any_eq_true];exact⟨x,hm,WideAt.sameKey_self hxx⟩
   have h2:=zil xs acc;simp only[List.foldl_cons,List.length_cons,h1]
   constructor
   ·intro h;omega
   ·intro h
    exact absurd hm (fun hm=>(List.nodup_append.1 h).2.2 x hm x (by simp) rfl)
  ·have h1:Maps.addKey acc x=acc++[x]∨Maps.addKey acc x=x::acc:=by
    unfold Maps.addKey;rw[if_neg]
    ·first | exact .inl rfl | exact .inr rfl
    ·rw[List.any_eq_true]
     rintro⟨y,hy,h⟩;rw[zqF (ha y hy)] at h;exact hm (h▸hy)
   rcases h1 with h1 | h1
   ·have:=zeO xs (acc++[x]) (fun y hy=>hx y (List.mem_cons_of_mem _ hy)) (fun y hy=>by
     rcases List.mem_append.1 hy with h | h
     ·exact ha y h
     ·rw[List.mem_singleton] at h;rw[h];exact hxx) (by
     rw[List.nodup_append]
     exact⟨hn,by simp,fun a ha b hb=>by rw[List.mem_singleton] at hb;rw[hb];exact fun e=>hm (e▸ha)⟩)
    simp only[List.foldl_cons,List.length_cons,h1];rw[List.append_assoc,q8_] at this;simp only[List.length_singleton,List.singleton_append] at this;rw[← this];omega
   ·have:=zeO xs (x::acc) (fun y hy=>hx y (List.mem_cons_of_mem _ hy)) (fun y hy=>by
     rcases List.mem_cons.1 hy with h | h
     ·rw[h];exact hxx
     ·exact ha y h) (by rw[List.nodup_cons];exact⟨hm,hn⟩)
    simp only[List.foldl_cons,List.length_cons,h1];rw[List.length_cons] at this;have hp:(acc++x::xs).Nodup↔(x::acc++xs).Nodup:=List.Perm.nodup_iff List.perm_middle;rw[hp, ← this];omega
theorem zlI(u:DataW Unit)(xs:List Lit)(h:∀ x∈xs,WideAt.IsKeyLit x):Maps.size (Maps.setOf u xs)=xs.length↔xs.Nodup:=by
 rw[Maps.size_setOf u xs h];have:=zeO xs [] h (fun _ h=>by cases h) List.nodup_nil;simpa using this
def zqU(x:Int):Lit:=.int .i64 x
theorem zgJ{α β:Type}{f:α→β}:∀ {l:List α},(∀ a∈l,∀ b∈l,f a=f b→a=b)→((l.map f).Nodup↔l.Nodup)
 | [],_=>by simp
 | a::l,h=>by
  rw[List.map_cons,List.nodup_cons,List.nodup_cons,zgJ (fun x hx y hy=>h x (List.mem_cons_of_mem _ hx) y (List.mem_cons_of_mem _ hy))]
  have:f a∈l.map f↔a∈l:=by
   rw[List.mem_map]
   constructor
   ·rintro⟨b,hb,e⟩
    rw[h a (by simp) b (List.mem_cons_of_mem _ hb) e.symm];exact hb
   ·exact fun ha=>⟨a,ha,rfl⟩
  rw[this]
def zhq(w:World)(b:Nat)(l:List Int):Prop:=w.ownsMap prog 3 unitElem b l.length (Maps.setOf (.agg []) (l.map zqU):DataW Unit)
def zkn(w:World)(b:Nat)(l:List (Int×Int)):Prop:=w.ownsMap prog 116 unitElem b l.length (Maps.setOf (.agg []) (l.map fun p=>zhk p.1 p.2):DataW Unit)
theorem zhM{k:TypeId}{R:Value→Option (DataW Unit×List MemPlace)}{w w':World}{F:Nat→Prop}{b n:Nat}{D:DataW Unit}(h:w.ownsMap prog k R b n D)(f:Fr F w w')(hn:¬ F b):w'.ownsMap prog k R b n D:=by
 have hlt:=h.lt;obtain⟨es,clock,hb,r⟩:=h;exact⟨es,clock,(f.block b hlt hn).trans hb,r⟩
theorem zhq.made(w:World):zhq (w.alloc (.map #[] 0)) w.heap.size []:=World.ownsMap_made _ _ _ _
theorem zkn.made(w:World):zkn (w.alloc (.map #[] 0)) w.heap.size []:=World.ownsMap_made _ _ _ _
theorem zhq.fr{w w':World}{F:Nat→Prop}{b:Nat}{l:List Int}(h:zhq w b l)(f:Fr F w w')(hn:¬ F b):zhq w' b l:=zhM h f hn
theorem zkn.fr{w w':World}{F:Nat→Prop}{b:Nat}{l:List (Int×Int)}(h:zkn w b l)(f:Fr F w w')(hn:¬ F b):zkn w' b l:=zhM h f hn
theorem zhq.snoc{w:World}{b:Nat}{l:List Int}{x:Int}(h:w.ownsMap prog 3 unitElem b (l.length+1) ((Maps.setOf (.agg []) (l.map zqU):DataW Unit).put (zqU x) (.agg []))):zhq w b (l++[x]):=by
 unfold zhq;rw[List.map_append,List.map_singleton,Maps.setOf_snoc,q8_];exact h
theorem zkn.snoc{w:World}{b:Nat}{l:List (Int×Int)}{x:Int×Int}(h:w.ownsMap prog 116 unitElem b (l.length+1) ((Maps.setOf (.agg []) (l.map fun p=>zhk p.1 p.2):DataW Unit).put (zhk x.1 x.2) (.agg []))):zkn w b (l++[x]):=by
 unfold zkn;rw[List.map_append,List.map_singleton,Maps.setOf_snoc,q8_];exact h
theorem zhq.len{w:World}{b:Nat}{l:List Int}(h:zhq w b l)(hl:∀ x∈l,zbx x):∃ s:Nat,(s=l.length↔l.Nodup)∧∀ ty,(Builtin.len_ #[112] ty #[.map (some b)]).run prog w=.ok (.int .i64 s) w:=by
 refine⟨_,?_,fun ty=>World.ownsMap.len h underlying112 ty⟩
 have hk:∀ x∈l.map zqU,WideAt.IsKeyLit x:=fun x hx=>by
  obtain⟨y,hy,rfl⟩:=List.mem_map.1 hx;exact trivial
 rw[← zgJ (f:=zqU) (fun a _ b _ e=>by unfold zqU at e;cases e;rfl), ← zlI _ _ hk,List.length_map]
theorem zkn.len{w:World}{b:Nat}{l:List (Int×Int)}(h:zkn w b l)(hl:∀ x∈l,zbx x.1∧zbx x.2):∃ s:Nat,(s=l.length↔l.Nodup)∧∀ ty,(Builtin.len_ #[113] ty #[.map (some b)]).run prog w=.ok (.int .i64 s) w:=by
 refine⟨_,?_,fun ty=>World.ownsMap.len h underlying113 ty⟩
 have hk:∀ x∈l.map (fun p=>zhk p.1 p.2),WideAt.IsKeyLit x:=fun x hx=>by
  obtain⟨y,hy,rfl⟩:=List.mem_map.1 hx;exact trivial
 rw[← zgJ (f:=fun p:Int×Int=>zhk p.1 p.2) (fun a ha b hb e=>by
  obtain⟨h1,h2⟩:=zpM (hl a ha).1 (hl a ha).2 (hl b hb).1 (hl b hb).2 e
  exact Prod.ext h1 h2), ← zlI _ _ hk,List.length_map]
end Go.Proofs.YteajonicnkpbbaaGreatDoor
