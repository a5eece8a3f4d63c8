/- The plain law of what a plan builds. -/
import Derived.Test.YtjhhodndlkpmhaaGreatDoorPlanBuild
import Derived.Test.YtjhhodndlkpmhaaGreatDoorGoodLoad
namespace Go.Proofs.YtjhhodndlkpmhaaGreatDoor
set_option linter.all false
open Go.RowKit Tryz
theorem zrI{now:Int}{l:List za_}{fl:List Int}{k:Nat}{f:Int}(hk:k<l.length)(hf:fl[k]? =some f):f≤zar now l fl k∧zar now l [] k≤zar now l fl k:=by
 unfold zar;rw[q6_ hk,q6_ (show min (k+1) (l.length-1)<l.length by omega),hf];simp only[List.getElem?_nil];omega
theorem zpP{now:Int}{lf:List za_}{fl:List Int}{lt:List za_}{j:Nat}{y:za_}(hy:lt[j]? =some y):(srcs now lf fl lt)[j]? =some (zeE now lf fl y.every lf.length):=by
 unfold srcs;rw[List.getElem?_map,hy]
 rfl
theorem zpf{now:Int}{lf:List za_}{fl:List Int}{ss:List Int}{lt:List za_}{j:Nat}{s:Int}{y:za_}(hs:ss[j]? =some s)(hy:lt[j]? =some y):(zaR now lf fl ss lt)[j]? =some (zcK (zcg now lf fl s) y.every):=by
 unfold zaR;rw[List.getElem?_zipWith,hs,hy]
section
variable {nm nm2:ByteArray} {l lt:List za_} {X:zaa} {fl:List Int} {o:Int} {c:Nat}
theorem zdW(p:zak nm l=true)(hn:0≤X.now∧X.now≤1099511627776)(hfl:∀ f∈fl,0≤f∧f≤2199023255552)(p2:zak nm2 lt=true){j:Nat}{y:za_}(hy:lt[j]? =some y):
  ∃ (i:Nat) (x:za_),l[i]? =some x∧(srcs o l fl lt)[j]? =some (i:Int)∧zau x.every y.every=true∧zar X.now l fl i≤zar X.now lt (zaR X.now l fl (srcs o l fl lt) lt) j∧(zaR X.now l fl (srcs o l fl lt) lt)[j]? =some (zcK (zar X.now l fl i) y.every):=by
 obtain⟨i,x,hi,e1,hx,hd,_⟩:=zq9 (now:=o) (fl:=fl) y.every p;have hy1:=zaN p2 (zab hy);have hx1:=zaN p (zab hx)
 have hs:(srcs o l fl lt)[j]? =some (i:Int):=by rw[zpP hy,e1]
 have hb:=zpf (now:=X.now) (lf:=l) (fl:=fl) hs hy;rw[zcD hi] at hb;have hf:=ziy p hn.1 hn.2 hfl i;have hc:=zf5 (t:=zar X.now l fl i) (e:=y.every) hf.1 (by omega) hy1.1 hy1.2.1;refine⟨i,x,hx,hs,?_,Int.le_trans hc.2.1 (zrI (List.getElem?_eq_some_iff.1 hy).1 hb).1,hb⟩;unfold zau;simp only[Bool.and_eq_true,decide_eq_true_eq];exact⟨hx1.1,hd⟩
theorem zpO(p:zak nm l=true):∀ s∈srcs o l fl lt,i64 s:=by
 intro s hs;unfold srcs at hs;obtain⟨y,_,rfl⟩:=List.mem_map.1 hs;have h1:=zlf o l fl y.every l.length;have h2:=(zch p).2;unfold i64;omega
theorem znb(p:zak nm l=true)(hn:0≤X.now∧X.now≤1099511627776)(hfl:∀ f∈fl,0≤f∧f≤2199023255552)(p2:zak nm2 lt=true):zeW l nm2 lt (srcs o l fl lt)=true:=by
 have hlen:(srcs o l fl lt).length=lt.length:=by unfold srcs;rw[List.length_map]
 refine zjz p2 hlen (fun k hk=>?_);rw[hlen] at hk;obtain⟨i,x,hx,hs,hd,_⟩:=zdW (o:=o) (X:=X) p hn hfl p2 (q6_ hk);unfold zpz;rw[hs,q6_ hk];simp only[Int.toNat_natCast];rw[hx];simpa using hd
theorem zjP(p:zak nm l=true)(hn:0≤X.now∧X.now≤1099511627776)(hfl:∀ f∈fl,0≤f∧f≤2199023255552)(p2:zak nm2 lt=true):ziz lt (zaR X.now l fl (srcs o l fl lt) lt)=true:=by
 unfold ziz;rw[List.all_eq_true];intro k _;unfold zep
 split
 ·rename_i f t hf ht
  obtain⟨i,x,hx,_,_,_,hb⟩:=zdW (o:=o) (X:=X) p hn hfl p2 ht;rw[hb] at hf
  cases hf
  have hf:=ziy p hn.1 hn.2 hfl i;have hy1:=zaN p2 (zab ht);have hc:=zf5 (t:=zar X.now l fl i) (e:=t.every) hf.1 (by omega) hy1.1 hy1.2.1;unfold onB;simp only[Bool.and_eq_true,decide_eq_true_eq];exact⟨hc.2.2.2.1,hy1.1,hc.1⟩
 ·rfl
theorem zqJ(p:zak nm l=true)(hg:zbf nm l fl X c)(hfl:∀ f∈fl,0≤f∧f≤2199023255552)(p2:zak nm2 lt=true):zcR X nm2 lt (srcs o l fl lt)=0:=by
 have hn:=hg.now;unfold zcR;rw[hg.tiers,hg.floors,if_pos (znb (X:=X) p hn hfl p2)];unfold zfs;rw[if_pos p2,if_neg,if_pos (zjP (X:=X) p hn hfl p2)];unfold zaR;rw[List.length_zipWith];omega
theorem zdc{ss:List Int}{j:Nat}(hj:j<lt.length):(zap X nm2 lt ss).tabs.getD j []=zcQ X lt ss (zaR X.now X.tiers X.floors ss lt) j:=by
 show ((List.range lt.length).map _).getD j []=_
 rw[List.getD_eq_getElem?_getD,List.getElem?_map,List.getElem?_range hj]
 rfl
theorem zet(p:zak nm l=true)(hg:zbf nm l fl X c)(hfl:∀ f∈fl,0≤f∧f≤2199023255552)(p2:zak nm2 lt=true):zbf nm2 lt (zaR X.now l fl (srcs o l fl lt) lt) (zap X nm2 lt (srcs o l fl lt)) c:=by
 have hgood:∀ j,za6 (zcQ X lt (srcs o l fl lt) (zaR X.now X.tiers X.floors (srcs o l fl lt) lt) j):=fun j=>by
  unfold zcQ
  split
  ·split
   ·exact zdl.1
   ·exact zbF
  ·exact zbF
 refine⟨rfl,rfl,?_,hg.now,by simp[zap],fun m hm=>?_,fun k=>?_,fun k x hx r hr=>?_⟩
 ·show zaR X.now X.tiers X.floors _ lt=_
  rw[hg.tiers,hg.floors]
 ·obtain⟨j,_,rfl⟩:=List.mem_map.1 hm
  exact zhX hg.len j
 ·by_cases hk:k<lt.length
  ·rw[zdc hk];exact hgood k
  ·show za6 (((List.range lt.length).map _).getD k [])
   rw[List.getD_eq_getElem?_getD,List.getElem?_eq_none (by simpa using hk)];exact zbF
 ·have hk:k<lt.length:=(List.getElem?_eq_some_iff.1 hx).1
  rw[zdc hk] at hr;unfold zcQ at hr
  split at hr
  ·rename_i s y _ hy
   rw[hx] at hy
   cases hy
   split at hr
   ·have h:=(zdl.2 r hr).1
    unfold zaG at h;simp only[Bool.and_eq_true,decide_eq_true_eq] at h
    exact h.1.1.1 |>fun h1=>⟨h1,h.1.1.2,h.1.2⟩
   ·cases hr
  ·cases hr
end
structure zdx(W:World)(t:Nat)(now:Int)(nm:ByteArray)(l:List za_)(fl:List Int)(tA:Option Addr)(tc:Nat)(tB:Option Addr)(td:Nat):Prop where
 c0:W.cell? ⟨t,0,none⟩=some (.int .i64 now)
 c1:W.cell? ⟨t,1,none⟩=some (.string nm)
 c2:W.cell? ⟨t,2,none⟩=some (.slice tA l.length tc)
 c3:W.cell? ⟨t,3,none⟩=some (.slice tB fl.length td)
 rt:Rd W 4 tA l.length (zah l)
 rf:Rd W 1 tB fl.length (zbg fl)
 le:l.length≤tc
section
variable {nm nm2:ByteArray} {l lt:List za_} {fl:List Int} {lo:Nat} {W W':World} {t:Nat} {X:zaa} {F:Nat→Prop} {c:Nat} {now:Int} {tA tB:Option Addr} {tc td:Nat}
theorem zdx.fr0(h:zdx W t now nm l fl tA tc tB td)(f:Fr (fun _=>False) W W'):zdx W' t now nm l fl tA tc tB td:=
 ⟨f.cell h.c0 (fun h=>h),f.cell h.c1 (fun h=>h),f.cell h.c2 (fun h=>h),f.cell h.c3 (fun h=>h),h.rt.fr0 f,h.rf.fr0 f,h.le⟩
theorem Tio.reach(h:Tio nm l fl lo W t X F c):∃ tA tc tB td,zdx W t X.now nm l fl tA tc tB td:=by
 obtain⟨base,hb,tA,tc,tB,td,T,ct,tb,hi,_⟩:=h.on;have hg:=h.good;have b:=hi.blk;have e1:=zat hi.tiers;have e2:=zat hi.floors;rw[hg.tiers,hg.floors,hg.name] at b;rw[hg.tiers] at e1;rw[hg.floors] at e2;exact⟨tA,tc,tB,td,b.cell 0,b.cell 1,b.cell 2,b.cell 3,e1.2.2.1,e2.2.2.1,e1.1⟩
end
section
variable {nm nm2:ByteArray} {l lt:List za_} {fl:List Int} {o:Int} {lo:Nat} {W W':World} {t:Nat} {X:zaa} {F:Nat→Prop} {c:Nat} {now:Int} {tA tB:Option Addr} {tc td:Nat}
theorem zhs(p:zb_ nm l)(h:zdx W t now nm l fl tA tc tB td)(hn:0≤now∧now≤1099511627776)(k:Nat)(hk:k<l.length):
  Calls prog 84 #[.agg #[.int .i64 now,.string nm,.slice tA l.length tc,.slice tB fl.length td],.int .i64 k] W fun r w'=>r=.returned (.int .i64 (zar now l fl k))∧Below W.heap.size W w':=by
 have h1:=zcE now (by unfold i64;omega) nm l tA l.length tc fl tB fl.length td k W h.rt h.rf p.wf (by have:=p.five;omega);rw[zcD hk] at h1;exact h1
theorem zgg(p:zb_ nm l)(p2:zb_ nm2 lt)(hnm2:nm2.size≤maxLen)(h:Tio nm l fl lo W t X F c)(hc:c≤1000000)(hfl:∀ f∈fl,0≤f∧f≤2199023255552)(A:Option Addr)(n cc:Nat)(S:Option Addr)(d:Nat)(ht:Rd W 4 A n (zah lt))(hnc:n≤cc)(hs:Rd W 1 S n (zbg (srcs o l fl lt)))(lo2:Nat)(hlo:lo2≤W.heap.size):
  Calls prog 85 #[zfm nm2 A n cc S n d,.pointer (some ⟨t,0,none⟩)] W fun r w'=>(∃ t' F',r=.returned (.tuple #[.pointer (some ⟨t',0,none⟩),.int .i64 0])∧Tio nm2 lt (zaR X.now l fl (srcs o l fl lt) lt) lo2 w' t' (zap X nm2 lt (srcs o l fl lt)) F' c∧∀ j,F' j→W.heap.size≤j)∧Below W.heap.size W w':=by
 obtain⟨base,hb,ho⟩:=h.on;have hn5:=p2.five;have hnl:=ht.tiers_len
 refine (zp_ nm2 hnm2 lt A n cc (srcs o l fl lt) S n d t base X W ht hnc (by omega) p2.wf hs (by omega) (zpO p.ck) ho.at_ (h.five p) (h.short hc) h.good.now (by
  rw[h.good.floors];intro f hf;have:=hfl f hf;unfold i64
  omega) (h.wf p)).mono ?_
 rintro r w' ⟨⟨h1,_⟩,hb⟩;obtain⟨t',F',rfl,h2,h3⟩:=h1 (zqJ p.ck h.good hfl p2.ck);exact⟨⟨t',F',rfl,⟨⟨_,hlo,h2⟩,zet p.ck h.good hfl p2.ck⟩,h3⟩,hb⟩
end
theorem zjN{w:World}{a:Addr}{b:Nat}{v:Value}{es:Array MapEntry}{ck:Nat}(hc:w.cell? a=some v)(hb:w.heap[b]? =some (.map es ck)):a.block≠b:=by
 rintro rfl;unfold World.cell? at hc;rw[hb] at hc
 cases hc
theorem zd0.setDone{w:World}{t base:Nat}{X:ShX}{A B T:Option Addr}{c d ct:Nat}{tb:List (Nat×Nat)}(h:zd0 w t base X A c B d T ct tb)(v:Int):zd0 (w.setCell ⟨t,4,none⟩ (.int .i64 v)) t base {X with done:=v} A c B d T ct tb:=by
 have f:Fr (fun j=>j=t) w (w.setCell ⟨t,4,none⟩ (.int .i64 v)):=(Fr.refl (fun j=>j=t) w).setCell (p:=⟨t,4,none⟩) (.inl rfl) _;have hoff:∀ {e:TypeId} {size n base':Nat} {v:Value} {xs:List Value},w.ownsRow base' e size v n xs→e≠108→∀ j,zaE v j→¬ j=t:=fun ho hne j hj e=>zad ho h.blk hne (by rw[← e];exact hj);refine⟨by simpa using h.blk.set_ 4 (.int .i64 v),zaf h.tiers f (hoff h.tiers (by decide)),zaf h.srcs f (hoff h.srcs (by decide)),zaf h.row f (hoff h.row (by decide)),h.tlen,fun i p x l h1 h2 h3=>?_,h.nodup,h.ge,h.tge⟩;have hT:=h.tab i p x l h1 h2 h3;refine hT.fr f (zdd hT.blk h.blk (by decide)) (fun e=>?_);obtain⟨es,ck,hbm⟩:=hT.own.isMap;have hb0:w.heap[t]? =some (Obj.cells _ _ (0,0)):=h.blk;rw[← e,hbm] at hb0
 cases hb0
section
variable {nm:ByteArray} {l:List za_} {fl:List Int} {o:Int} {lo lo2:Nat} {W W':World} {t:Nat} {X:zaa} {F G:Nat→Prop} {c:Nat}
end
end Go.Proofs.YtjhhodndlkpmhaaGreatDoor
