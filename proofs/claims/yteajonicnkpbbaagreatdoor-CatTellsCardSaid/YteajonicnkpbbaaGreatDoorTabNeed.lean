/- Walks of package table: Len, Copy, Drop. -/
import Derived.Test.YteajonicnkpbbaaGreatDoorTabAddL
import Derived.Maps.OwnSet
import Derived.Test.YteajonicnkpbbaaGreatDoorFrom
namespace Go.Proofs.YteajonicnkpbbaaGreatDoor
set_option linter.all false
set_option maxHeartbeats 4000000
set_option maxRecDepth 100000
open Go.RowKit Tryz
open Go.Maps (Keyed)
theorem zfM(g:Nat)(every:Int)(b:Nat)(l:List zah)(w:World)(h:zbp w g every b l):
  Calls prog 143 #[.pointer (some ⟨g,0,none⟩)] w fun r w'=>(∃ g' b',r=.returned (.pointer (some ⟨g',0,none⟩))∧zbp w' g' every b' l∧w.heap.size≤g'∧w.heap.size≤b')∧Below w.heap.size w w':=by
 have HC:Hid (∀ W,Fr (fun _=>False) w W→W.cell? ⟨g,0,none⟩=some (.int .i64 every)∧W.cell? ⟨g,1,none⟩=some (.map (some b))):=fun W f=>⟨(h.blk.fr f (fun h=>h)).cell 0,(h.blk.fr f (fun h=>h)).cell 1⟩
 have HCl:Hid (∀ W,Fr (fun _=>False) w W→Calls prog 180 #[.map (some b)] W fun r w''=>r=.returned (.map (some W.heap.size))∧zct w'' W.heap.size l∧Fr (fun _=>False) w w''):=fun W f=>by
  obtain⟨D,⟨es,ck,hb,hfit,hs,hD⟩,ht⟩:=(h.own.fr f (fun h=>h))
  refine (show Calls prog 180 _ _ _ from AnyW.maps_Clone Tryz.cloneM b es ck W hb).mono ?_;rintro r w'' ⟨e,rfl⟩;exact⟨e,⟨D,⟨es,ck,(MapKept.heap_alloc W _).1,hfit,hs,hD⟩,ht⟩,f.trans (Fr.none_alloc _ _) q4_⟩
 clear h;go_enter func143,ntmps143;go_wp2_with fail;refine wp_region_held_drew (S:=fun W=>Fr (fun _=>False) w W) (by kernel_rfl) ((Fr.refl _ w).drew) (fun hY_=>?_);refine tq 8 [0,1,2,3,4,5,6,7] ?_
 iterate 7 refine sf HC.out ?_
 refine sf HC.out ?_
 try simp only[Act.put,sA,sB,sC]
 refine sz ?_
 try simp only[Act.put,sA,sB,sC]
 refine rl 8 rfl (fun K hK=>?_);go_simp
 go_wp2_with (go_at_call 180;refine (HCl.out _ hY_).mono ?_;rintro r w5 ⟨rfl,ho5,f5⟩)
 refine hK.out _ _ (f5) (fun hY_=>?_);clear hK K;refine tl 9 ?v9 rfl ?q9 ?r9
 case q9=>intro W hSw;(try obtain⟨c0,c1⟩:=HC.out W hSw);go_simp;try rfl
 try simp only[Act.put,sA,sB,sC]
 refine rl 10 rfl (fun K hK=>?_);go_simp;refine hK.out _ _ (hY_.trans (Fr.none_alloc _ _) q4_) (fun hY_=>?_);clear hK K;refine tl 11 ?v10 rfl ?q10 ?r10
 case q10=>intro W hSw;(try obtain⟨c0,c1⟩:=HC.out W hSw);go_simp;try rfl
 try simp only[Act.put,sA,sB,sC]
 refine wpAnyH_done (by kernel_rfl) ?_ _;go_wp2;go_ret;refine⟨⟨w5.heap.size,w.heap.size,rfl,⟨Blk.new _ _ _,ho5.fr (Fr.none_alloc _ _) (fun h=>h)⟩,f5.size,Nat.le_refl _⟩,hY_.below q4_⟩
def za0(so:zah→Bool)(l:List zah):List zah:=l.filter fun r=> !so r
def zap(below:Int)(r:zah):Bool:=decide (r.start<below)
theorem zct.len{w:World}{b:Nat}{l:List zah}(h:zct w b l)(ty:TypeId):(Builtin.len_ #[242] ty #[.map (some b)]).run prog w=.ok (.int .i64 (l.length:Nat)) w:=by
 obtain⟨D,ho,ht⟩:=h;have hl:=ho.len underlying242 ty;rwa[ht.size] at hl
def zlk(e fr:Int)(l:List zah):List zah:=(l.map fun r=>(⟨r.name,zav r.start e,r.agg⟩:zah)).filter fun r=>decide (fr≤r.start)
def ziO(every e fr:Int)(l:List zah):List zah:=if zaA every e then zfy e [] (zlk e fr l) else[]
theorem zmD(e fr:Int)(l:List zah):(zlk e fr l).length≤l.length:=by
 unfold zlk;refine Nat.le_trans (List.length_filter_le _ _) (by simp)
open Go.Maps (Keyed int_keyed keyOf_int_mk)
def zlQ(M:Int)(l:List zah)(k:Nat):Nat:=(l.filter fun r=>decide (zfd r.name M=(k:Int))).length
def ziX(M:Int)(l:List zah):Nat:=((List.range M.toNat).map fun k=>(zlQ M l k+2) / 3).sum
theorem zdB(M:Int)(l:List zah)(r:zah)(k:Nat):zlQ M (l++[r]) k=zlQ M l k+(if zfd r.name M=(k:Int) then 1 else 0):=by
 unfold zlQ;rw[List.filter_append,q8_]
 congr 1
 by_cases h:zfd r.name M=(k:Int)<;>simp[h]
structure zqd(M:Int)(l:List zah)(D:DataW Unit):Prop where
 isMap:Maps.IsMap D
 key:∀ z,Maps.has D z=true→∃ j:Nat,(j:Int)<M∧z=.int .i64 j∧0<zlQ M l j
 at_:∀ j:Nat,D.atKey (.int .i64 j) (.lit (.int .i64 0))=.lit (.int .i64 (zlQ M l j:Nat))
 pos:∀ j:Nat,0<zlQ M l j→Maps.has D (.int .i64 j)=true
theorem zqd.nil(M:Int):zqd M [] (.map []):=⟨Maps.isMap_empty,fun z h=>(by simp[Maps.has_eq] at h),fun j=>rfl,fun j h=>absurd h (Nat.lt_irrefl 0)⟩
theorem zqd.step{M:Int}{l:List zah}{D:DataW Unit}(h:zqd M l D)(r:zah){j:Nat}(hj:zfd r.name M=(j:Int))(hjM:(j:Int)<M):zqd M (l++[r]) (D.put (.int .i64 j) (.lit (.int .i64 ((zlQ M l j:Nat)+1)))):=by
 have hk:WideAt.IsKeyLit (.int .i64 (j:Int)):=trivial;refine⟨h.isMap.put _ _,fun z hz=>?_,fun i=>?_,fun i hi=>?_⟩
 ·by_cases e:z=.int .i64 (j:Int)
  ·exact⟨j,hjM,e,by rw[zdB,if_pos hj];omega⟩
  ·rw[Maps.has_put_other e] at hz
   obtain⟨i,h1,h2,h3⟩:=h.key z hz;exact⟨i,h1,h2,by rw[zdB];omega⟩
 ·by_cases e:i=j
  ·subst e
   rw[Maps.atKey_put_same h.isMap hk,zdB,if_pos hj]
   rfl
  ·rw[Maps.atKey_put_other (by simp;omega),h.at_ i,zdB,if_neg (by rw[hj];omega)]
   rfl
 ·by_cases e:i=j
  ·subst e;exact Maps.has_put_same h.isMap hk _
  ·rw[Maps.has_put_other (by simp;omega)]
   rw[zdB,if_neg (by rw[hj];omega)] at hi;exact h.pos i hi
end Go.Proofs.YteajonicnkpbbaaGreatDoor
