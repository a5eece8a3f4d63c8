/- Walks of state: right, none, add, Room, Pending, Tiers, Shadow, Abort, Ask; of a nil one. -/
import Derived.Test.YtjhhodndlkpmhaaGreatDoorSt
namespace Go.Proofs.YtjhhodndlkpmhaaGreatDoor
set_option linter.all false
open Go.RowKit Tryz
theorem zgk(room:Int)(w:World):Calls prog 37 #[.int .i64 room] w fun r w'=>r=.returned (.bool (decide (0≤room)&&decide (room≤4096)))∧w=w':=by
 have go:∀ b1 b2:Bool,decide (0≤room)=b1→decide (room≤4096)=b2→Calls prog 37 #[.int .i64 room] w fun r w'=>r=.returned (.bool (b1&&b2))∧w=w':=by
  intro b1 b2 e1 e2
  cases b1<;>cases b2<;>(
   go_enter func37,ntmps37;go_wp2;go_ret
   exact⟨by first | rfl | simp[*],rfl⟩)
 exact go _ _ rfl rfl
theorem ziT(a b:Int)(w:World)(h0:0≤a)(h1:0≤b)(h2:a+b≤9223372036854775807):Calls prog 34 #[.int .i64 a,.int .i64 b] w fun r w'=>r=.returned (.int .i64 (a+b))∧w=w':=by
 have e1:IntKind.i64.wrap (9223372036854775807-b)=9223372036854775807-b:=IntWalk.i64_in _ (by omega);have e2:decide (9223372036854775807-b<a)=false:=q9_ (by omega)
 have e2':¬ 9223372036854775807-b<a:=by omega
 have e3:IntKind.i64.wrap (a+b)=a+b:=IntWalk.i64_in _ (by omega);go_enter func34,ntmps34;go_wp2;go_ret;exact⟨by first | rfl | simp[*],rfl⟩
section
variable {W:World} {g lo:Nat} {Q:StX} {c t:Nat} {Ft Fs F:Nat→Prop} {v:Value}
theorem ziI.cells(h:ziI W g lo Q c t Ft Fs v){G:Nat→Prop}{W':World}(f:Fr G W W')(hg:¬ G g):W'.cell? ⟨g,0,none⟩=some (.int .i64 Q.room)∧W'.cell? ⟨g,1,none⟩=some (.pointer (some ⟨t,0,none⟩))∧W'.cell? ⟨g,2,none⟩=some v:=by
 have b:=h.blk.fr f hg;exact⟨b.cell 0,b.cell 1,b.cell 2⟩
theorem ziI.cells0(h:ziI W g lo Q c t Ft Fs v):W.cell? ⟨g,0,none⟩=some (.int .i64 Q.room)∧W.cell? ⟨g,1,none⟩=some (.pointer (some ⟨t,0,none⟩))∧W.cell? ⟨g,2,none⟩=some v:=h.cells (Fr.refl (fun _=>False) W) (fun h=>h)
theorem zg8.val{o:Option ShX}(h:zg8 W lo o v Fs):(o=none→v=.pointer none)∧(∀ S,o=some S→∃ s,v=.pointer (some ⟨s,0,none⟩)):=by
 cases o with
 | none=>exact⟨fun _=>h.1,(fun _ e=>by cases e)⟩
 | some S=>
  obtain⟨s,base,_,hv,_⟩:=h;exact⟨(fun e=>by cases e),fun _ _=>⟨s,hv⟩⟩
theorem zfe(h:ziI W g lo Q c t Ft Fs v):Calls prog 33 #[.pointer (some ⟨g,0,none⟩)] W fun r w'=>r=.returned (.bool false)∧W=w':=by
 obtain⟨_,c1,_⟩:=h.cells0;clear h;go_enter func33,ntmps33;go_wp2;go_ret;exact⟨by first | rfl | simp[*],rfl⟩
theorem zmd(h:zf6 W g lo Q c F):Calls prog 16 #[.pointer (some ⟨g,0,none⟩)] W fun r w'=>r=.returned (.int .i64 Q.room)∧W=w':=by
 obtain⟨t,Ft,Fs,v,hi,_⟩:=h;obtain⟨c0,_,_⟩:=hi.cells0;clear hi;go_enter func16,ntmps16;go_wp2;go_ret;exact⟨rfl,rfl⟩
theorem zme(h:zf6 W g lo Q c F):Calls prog 23 #[.pointer (some ⟨g,0,none⟩)] W fun r w'=>r=.returned (.bool Q.ch.isSome)∧W=w':=by
 obtain⟨t,Ft,Fs,v,hi,_⟩:=h;obtain⟨_,_,c2⟩:=hi.cells0;have hv:=hi.ch.val;clear hi
 cases hc:Q.ch with
 | none=>
  obtain rfl:=hv.1 hc;clear hv hc;go_enter func23,ntmps23;go_wp2;go_ret;exact⟨by first | rfl | simp[*],rfl⟩
 | some S=>
  obtain⟨s,rfl⟩:=hv.2 S hc;clear hv hc;go_enter func23,ntmps23;go_wp2;go_ret;exact⟨by first | rfl | simp[*],rfl⟩
theorem zk4(hg:zbU Q c)(h:zg8 W lo Q.ch v Fs)(lo2:Nat)(hlo:lo2≤W.heap.size):Calls prog 58 #[v] W fun r w'=>(∃ v F',r=.returned v∧zg8 w' lo2 Q.ch v F'∧∀ j,F' j→W.heap.size≤j)∧Below W.heap.size W w':=by
 cases hc:Q.ch with
 | none=>
  rw[hc] at h;obtain⟨rfl,_⟩:=h;refine (ziZ W).mono ?_;rintro r w' ⟨rfl,rfl⟩;exact⟨⟨.pointer none,fun _=>False,rfl,⟨rfl,rfl⟩,fun _ h=>h.elim⟩,Below.refl _ _⟩
 | some S=>
  rw[hc] at h;obtain⟨s,base,_,rfl,hs⟩:=h;have hk:=hg.ch S hc;obtain⟨o,ho⟩:=hk.ok;have hst:=zie hk.pol;refine (zn9 s base S Fs W hs hk.pol.pos (by have:=hk.pol.five;omega) (by rw[ho.src];unfold srcs;rw[List.length_map];have:=hk.pol.five;omega) (fun x hx=>(zaN hk.pol.ck hx).2.2.2.2.2) (fun x hx=>(zaN hk.pol.ck hx).1) hk.b0 (by omega)).mono ?_;rintro r w' ⟨⟨o',F',rfl,h1⟩,hb⟩;exact⟨⟨_,F',rfl,⟨o',W.heap.size,hlo,rfl,h1⟩,fun j hj=>(h1.ge j hj).1⟩,hb⟩
theorem zfK(hg:zbU Q c)(h:zf6 W g lo Q c F)(lo2:Nat)(hlo:lo2≤W.heap.size):Calls prog 22 #[.pointer (some ⟨g,0,none⟩)] W fun r w'=>(∃ t' F',r=.returned (.pointer (some ⟨t',0,none⟩))∧Tio Q.X.name Q.X.tiers Q.X.floors lo2 w' t' Q.X F' c∧∀ j,F' j→W.heap.size≤j)∧Below W.heap.size W w':=by
 obtain⟨t,Ft,Fs,v,hi,_⟩:=h;have HC:=q0_ (zh8 hg.pol hi.tio (Nat.le_trans hg.flen (by decide)) lo2 hlo);obtain⟨_,c1,_⟩:=hi.cells0;clear hi;go_enter func22,ntmps22;go_wp2_with fail;refine HC.out.mono ?_;rintro r w1 ⟨⟨t',F',rfl,h1,h2⟩,hb⟩;have H1:=q0_ h1;have H2:=q0_ h2;have HB:=q0_ hb;clear h1 h2 hb;go_wp2;go_ret;exact⟨⟨t',F',rfl,H1.out,H2.out⟩,HB.out⟩
theorem zid(hg:zbU Q c)(h:zf6 W g lo Q c F)(lo2:Nat)(hlo:lo2≤W.heap.size):Calls prog 61 #[.pointer (some ⟨g,0,none⟩)] W fun r w'=>(∃ v F',r=.returned v∧zg8 w' lo2 Q.ch v F'∧∀ j,F' j→W.heap.size≤j)∧Below W.heap.size W w':=by
 obtain⟨t,Ft,Fs,v,hi,_⟩:=h;obtain⟨_,_,c2⟩:=hi.cells0;have HC:Hid (Calls prog 58 #[v] W fun r w'=>(∃ v F',r=.returned v∧zg8 w' lo2 Q.ch v F'∧∀ j,F' j→W.heap.size≤j)∧Below W.heap.size W w'):=zk4 hg hi.ch lo2 hlo;clear hi;go_enter func61,ntmps61;go_wp2_with fail;refine HC.out.mono ?_;rintro r w1 ⟨⟨v',F',rfl,h1,h2⟩,hb⟩;have H1:=q0_ h1;have H2:=q0_ h2;have HB:=q0_ hb;clear h1 h2 hb;go_wp2;go_ret;exact⟨⟨v',F',rfl,H1.out,H2.out⟩,HB.out⟩
end
end Go.Proofs.YtjhhodndlkpmhaaGreatDoor
