/- Walks of package table: none, New, Every, Len. -/
import Derived.Test.YteajonicnkpbbaaGreatDoorTabM
import Derived.Carry
namespace Go.Proofs.YteajonicnkpbbaaGreatDoor
set_option linter.all false
open Go.RowKit Tryz
open Go.Maps (Keyed)
structure zbp(w:World)(g:Nat)(every:Int)(b:Nat)(l:List zah):Prop where
 blk:Blk w g 244 #[.int .i64 every,.map (some b)]
 own:zct w b l
theorem zbp.fr{w w':World}{F:Nat→Prop}{g b:Nat}{every:Int}{l:List zah}(h:zbp w g every b l)(hf:Fr F w w')(hg:¬ F g)(hb:¬ F b):zbp w' g every b l:=⟨h.blk.fr hf hg,h.own.fr hf hb⟩
theorem zbp.fr0{w w':World}{g b:Nat}{every:Int}{l:List zah}(h:zbp w g every b l)(hf:Fr (fun _=>False) w w'):zbp w' g every b l:=h.fr hf (fun h=>h) (fun h=>h)
theorem zbp.ne{w:World}{g b:Nat}{every:Int}{l:List zah}(h:zbp w g every b l):g≠b:=by
 rintro rfl;obtain⟨D,⟨es,clock,hb,_⟩,_⟩:=h.own;have hg:w.heap[g]? =some (.cells #[.int .i64 every,.map (some g)] 244 (0,0)):=h.blk;rw[hb] at hg
 cases hg
theorem zct.made(w:World):zct (w.alloc (.map #[] 0)) w.heap.size []:=zct.of (World.ownsMap_made w _ _ _) zl1.nil
theorem zgX(e:Int)(w:World):
  Calls prog 142 #[.int .i64 e] w fun r w'=>(∃ g b,r=.returned (.pointer (some ⟨g,0,none⟩))∧zbp w' g (max e 1) b []∧w.heap.size≤g∧w.heap.size≤b)∧Below w.heap.size w w':=by
 have hb:zct ((w.alloc (.map #[] 0)).alloc (.cells #[.int .i64 (max e 1),.map (some w.heap.size)] 244)) w.heap.size []:=(zct.made w).fr (Fr.none_alloc _ _) (fun h=>h);have hg:Blk ((w.alloc (.map #[] 0)).alloc (.cells #[.int .i64 (max e 1),.map (some w.heap.size)] 244)) (w.heap.size+1) 244 #[.int .i64 (max e 1),.map (some w.heap.size)]:=Blk.new' (by simp) _ _;have hO:=q0_ (((Own.start w).skip (Fr.none_alloc w (.map #[] 0))).skip (Fr.none_alloc _ (.cells #[.int .i64 (max e 1),.map (some w.heap.size)] 244)));have HB:=q0_ (zbp.mk hg hb);clear hb hg
 obtain⟨m,hm⟩:∃ m,max e 1=m:=⟨_,rfl⟩
 rw[hm] at HB hO ⊢;have hmm:= @run_makeMap prog;go_enter func142,ntmps142;go_wp2;go_ret;exact⟨⟨_,_,rfl,HB.out,by omega,by omega⟩,hO.out.bel⟩
theorem zkL{w w':World}{r:Nat}(h:w.grownBy w' (some r)):Fr (fun j=>j=r) w w':=⟨h.os,h.tape,h.output,h.size,fun i hi hn=>h.block i hi (fun e=>hn (Option.some.inj e))⟩
open Go.Maps (Keyed)
open Go.Maps (Keyed)
def onB(t e:Int):Bool:=decide (1≤e)&&decide (t.tmod e=0)
theorem zp0(t e:Int)(w:World):
  Calls prog 140 #[.int .i64 t,.int .i64 e] w fun r w'=>r=.returned (.bool (onB t e))∧w=w':=by
 by_cases h1:1≤e
 ·by_cases h2:t.tmod e=0
  ·rw[show onB t e=true by simp[onB,h1,h2]]
   go_enter func140,ntmps140;go_wp2_with fail
   all_goals (go_ret<;>simp[*])
  ·rw[show onB t e=false by simp[onB,h2]]
   go_enter func140,ntmps140;go_wp2_with fail
   all_goals (go_ret<;>simp[*])
 ·rw[show onB t e=false by simp[onB,h1]]
  go_enter func140,ntmps140;go_wp2_with fail
  all_goals (go_ret<;>simp[*])
def zbR(every:Int)(r:zah):Bool:=zau r.name&&decide (0≤r.start)&&onB r.start every&&zbc r.agg
open Go.Maps (Keyed)
section
variable {P:Program} {w w':World}
end
def mgM(o:Option zbP)(a:zbP):zbP:=zmT [o.getD zpO,a]
def zdg(every:Int)(l:List zah)(r:zah):List zah:=if zbR every r then zcU mgM l r else l
def zfy(every:Int)(l:List zah)(rs:List zah):List zah:=rs.foldl (zdg every) l
theorem zoT{every:Int}{l:List zah}(hl:zay l)(r:zah):(zdg every l r).length≤l.length+1:=by
 unfold zdg
 split
 ·rw[zic mgM hl];split<;>omega
 ·omega
theorem zkd{every:Int}{l:List zah}(hl:zay l)(r:zah):zay (zdg every l r):=by
 unfold zdg
 split
 ·exact zaE mgM hl
 ·exact hl
theorem zgE{every:Int}:∀ (rs:List zah) {l:List zah},zay l→(zfy every l rs).length≤l.length+rs.length
 | [],_,_=>by simp[zfy]
 | r::rs,l,h=>by
  have h1:=zgE (every:=every) rs (zkd (every:=every) h r);have h2:=zoT (every:=every) h r
  show (zfy every (zdg every l r) rs).length≤_
  rw[List.length_cons];omega
open Go.Maps (Keyed)
theorem zct.isMap{w:World}{b:Nat}{l:List zah}(h:zct w b l):∃ es ck,w.heap[b]? =some (.map es ck):=by
 obtain⟨D,⟨es,ck,hb,_⟩,_⟩:=h;exact⟨es,ck,hb⟩
end Go.Proofs.YteajonicnkpbbaaGreatDoor
