/- Walks of sedimentbook.Small and (plan.Plan).fills, Steps, Bound. -/
import Derived.Test.YteajonicnkpbbaaGreatDoorBases
import Derived.Test.YteajonicnkpbbaaGreatDoorReadLaw
namespace Go.Proofs.YteajonicnkpbbaaGreatDoor
set_option linter.all false
set_option maxHeartbeats 2000000
set_option maxRecDepth 100000
open Go.RowKit Tryz
def zap(l:List za_):Int:=(l.map fun t=>max t.shards 0).sum
theorem zcF{l:List za_}{k:Nat}{x:za_}(h:l[k]? =some x):zap (l.take (k+1))=zap (l.take k)+max x.shards 0:=by
  rw[zak h];simp[zap]
theorem zjZ(nm : ByteArray)(l : List za_)(A : Option Addr)(n c : Nat)(S : Option Addr)(m d : Nat)(w : World)(hr : Rd w 4 A n (zag l))(hn : n ≤ 1099511627776)(hs : ∀ t ∈ l, t.shards ≤ 8) :
    Calls prog 194 #[zcP nm A n c S m d] w fun r w'=>r=.returned (.int .i64 (zap l))∧Below w.heap.size w w':=by
  have Hr:=q0_ hr;have Hs:=q0_ hs;have Hlen:=q0_ hr.tiers_len;clear hr hs;have O:=q0_ ((Own.start w).skip (Fr.none_alloc w (.cells #[.string nm,.slice A n c,.slice S m d] 91)));unfold zcP;go_enter func194,ntmps194;go_wp2_with fail
  go_loopw [3,10] (fun s i wr=>∃ (k:Nat) (v:Int),k≤n∧i=.int .i64 k∧s=.int .i64 v∧0≤v∧v≤8*k∧Hid (v=zap (l.take k))∧Own w wr (fun _=>False)) (fun _ i _=>n-(intOf i).toNat)
  case atStart=>exact⟨0,0,Nat.zero_le _,rfl,rfl,by omega,by omega,by simp[Hid,zap],O.out⟩
  case round=>
    obtain⟨k,v,hk,rfl,rfl,v0,v1,hv,ho⟩:=hrel
    by_cases hlt:k<n
    · obtain⟨ad,x,rfl,hu,d0,d1,d2,d3⟩:=(Hr.out.below ho.bel).tier hlt
      have hx8:=Hs.out x (zaa hu);have Hu:=q0_ hu;have Ho:=q0_ ho;have Hf:=q0_ (zcF hu);clear ho hu
      by_cases h0:0≤x.shards
      · go_wp2
        all_goals (
          go_roundw
          case rel=>exact⟨k+1,v+x.shards,by omega,by go_num,by go_num,by omega,by omega,by rw[Hid,Hf.out, ← hv.out];omega,Ho.out.skip (Fr.none_alloc _ _)⟩
          case measure=>simp[intOf];omega)
      · go_wp2
        all_goals (
          go_roundw
          case rel=>exact⟨k+1,v,by omega,by go_num,by go_num,by omega,by omega,by rw[Hid,Hf.out, ← hv.out];omega,Ho.out.skip (Fr.none_alloc _ _)⟩
          case measure=>simp[intOf];omega)
    · obtain rfl:k=n:=by omega
      have Ho:=q0_ ho;have hl:=hv.out;rw[zaN (by have:=Hlen.out;omega)] at hl;have Hl:=q0_ hl;clear ho hl
      go_wp2
      go_ret;exact⟨by rw[← Hl.out];rfl,Ho.out.bel⟩
def zaX(l:List za_):Int:=if l=[] then 0 else zap l+2
theorem zcS{l:List za_}(hs:∀ t∈l,t.shards≤8):0≤zap l∧zap l≤8*l.length:=by
  induction l with
  | nil=>simp[zap]
  | cons a t ih=>
    have h1:=ih (fun x hx=>hs x (List.mem_cons_of_mem _ hx));have h2:=hs a (List.mem_cons_self ..)
    have h3:zap (a::t)=max a.shards 0+zap t:=by simp[zap]
    rw[h3,List.length_cons];omega
theorem zjh(nm : ByteArray)(l : List za_)(A : Option Addr)(n c : Nat)(S : Option Addr)(m d : Nat)(w : World)(hr : Rd w 4 A n (zag l))(hn : n ≤ 1099511627776)(hs : ∀ t ∈ l, t.shards ≤ 8) :
    Calls prog 193 #[zcP nm A n c S m d] w fun r w'=>r=.returned (.int .i64 (zaX l))∧Below w.heap.size w w':=by
  have hlen:=hr.tiers_len;have hin:=zcS hs;have H:=q0_ (fun w' (h:Fr (fun _=>False) w w')=>zjZ nm l A n c S m d w' (hr.fr0 h) hn hs);have O:=q0_ ((Own.start w).skip (Fr.none_alloc w (.cells #[.string nm,.slice A n c,.slice S m d] 91)));clear hr hs;unfold zcP at H ⊢
  by_cases h0:n=0
  · subst h0
    obtain rfl:l=[]:=List.eq_nil_of_length_eq_zero hlen;rw[show zaX []=0 from rfl];clear hin hlen H;go_enter func193,ntmps193;go_wp2;go_ret;exact⟨rfl,O.out.bel⟩
  · have hne:l≠[]:=by rintro rfl;exact h0 hlen.symm
    rw[show zaX l=zap l+2 by simp[zaX,hne]]
    have hnb:((n:Int)==0)=false:=by simp;omega
    obtain⟨v,hv⟩:∃ v,zap l=v:=⟨_,rfl⟩
    rw[hv] at H hin ⊢;obtain⟨v0,v1⟩:=hin;clear hv hne h0;go_enter func193,ntmps193;go_wp2_with fail;refine (H.out _ (Fr.none_alloc _ _)).mono ?_;rintro r w1 ⟨rfl,hb⟩;have O2:=q0_ (O.out.below hb);clear hb;go_wp2;go_ret;exact⟨rfl,O2.out.bel⟩
def zaM(s:Int×Int×Int):Value:=.agg #[.int .i64 s.1,.int .i64 s.2.1,.int .i64 s.2.2]
def zlu(k:Int)(i:Nat):List za_→Int×Int×Int
  | []=>if k=0 then (2,0,0) else (3,0,0)
  | t::r=>if k<t.shards then (1,i,k) else zlu (k-max t.shards 0) (i+1) r
def atV(l:List za_)(k:Int):(Int×Int×Int)×Bool:=if k<0∨zaX l≤k then ((0,0,0),false) else (zlu k 0 l,true)
theorem zri{w w1 : World}{g : Nat}(o : Own w w1 (fun _ => False))(hg : w.heap.size ≤ g)(a b c : Value) :
    Below w.heap.size w (((w1.setCell ⟨g,0,none⟩ a).setCell ⟨g,1,none⟩ b).setCell ⟨g,2,none⟩ c):=by
  have fF:Fr (fun j=>j=g) w1 (((w1.setCell ⟨g,0,none⟩ a).setCell ⟨g,1,none⟩ b).setCell ⟨g,2,none⟩ c):=
    (((Fr.refl (fun j=>j=g) w1).setCell (p:=⟨g,0,none⟩) (.inl rfl) _).setCell (p:=⟨g,1,none⟩) (.inl rfl) _).setCell (p:=⟨g,2,none⟩) (.inl rfl) _
  exact ((o.also (G:=fun j=>j=g) (fun j hj=>by omega)).fr fF).bel
theorem zry(nm : ByteArray)(l : List za_)(A : Option Addr)(n c : Nat)(S : Option Addr)(m d : Nat)(k : Int)(hk0 : i64 k)(w : World)(hr : Rd w 4 A n (zag l))(hn : n ≤ 1099511627776)(hs : ∀ t ∈ l, t.shards ≤ 8) :
    Calls prog 195 #[zcP nm A n c S m d,.int .i64 k] w fun r w'=>r=.returned (.tuple #[zaM (atV l k).1,.bool (atV l k).2])∧Below w.heap.size w w':=by
  have H:=q0_ (fun w' (h:Fr (fun _=>False) w w')=>zjh nm l A n c S m d w' (hr.fr0 h) hn hs);have Hr:=q0_ hr;have Hlen:=q0_ hr.tiers_len;have Hs:=q0_ hs;clear hr hs;have O:=q0_ (((Own.start w).skip (Fr.none_alloc w (.cells #[.string nm,.slice A n c,.slice S m d] 91))).skip (Fr.none_alloc _ (.cells #[.int .i64 0,.int .i64 0,.int .i64 0] 74)));have B0:=q0_ ((Blk.new w 91 #[.string nm,.slice A n c,.slice S m d]).alloc (.cells #[.int .i64 0,.int .i64 0,.int .i64 0] 74));have B1:=q0_ (Blk.new' (w:=w.alloc (.cells #[.string nm,.slice A n c,.slice S m d] 91)) (k:=w.heap.size+1) (by simp) 74 #[.int .i64 0,.int .i64 0,.int .i64 0]);unfold zcP at H ⊢
  obtain⟨v,hv⟩:∃ v,zaX l=v:=⟨_,rfl⟩
  have Hv:=q0_ hv;rw[hv] at H;clear hv
  by_cases hneg:k<0
  · rw[show atV l k=((0,0,0),false) by simp[atV,hneg]]
    have b1:=B1.out;go_enter func195,ntmps195;go_wp2_with fail;have hbel:=zri (g:=w.heap.size+1) O.out (by omega) (.int .i64 0) (.int .i64 0) (.int .i64 0);refine bodyPost_ret (v:=.tuple #[zaM (0,0,0),.bool false]) ?_ rfl ⟨rfl,by first | exact O.out.bel | exact hbel⟩;simp[results,results195,go_sem,zaM]
  · have hk1:=hk0.2
    by_cases hge:v≤k
    · rw[show atV l k=((0,0,0),false) by simp[atV,Hv.out,hge]]
      go_enter func195,ntmps195;go_wp2_with fail;refine (H.out _ (Fr.b0 O.out.bel)).mono ?_;rintro r w1 ⟨rfl,hb⟩;have O1:=q0_ (O.out.below hb);have b1:=B1.out.below hb;have e0:=b1.cell 0;have e1:=b1.cell 1;have e2:=b1.cell 2;have g0:=b1.frozen 0;have g1:=b1.frozen 1;have g2:=b1.frozen 2;simp only[q1_,q2_,q3_] at e0 e1 e2;clear b1 hb;go_wp2_with fail;have hbel:=zri (g:=w.heap.size+1) O1.out (by omega) (.int .i64 0) (.int .i64 0) (.int .i64 0);refine bodyPost_ret (v:=.tuple #[zaM (0,0,0),.bool false]) ?_ rfl ⟨rfl,hbel⟩;simp[results,results195,go_sem,zaM, *]
    · obtain⟨s,hs⟩:∃ s,zlu k 0 l=s:=⟨_,rfl⟩
      rw[show atV l k=(s,true) by simp[atV,Hv.out,hge,hneg,hs]];have HS:=q0_ hs;clear hs;go_enter func195,ntmps195;go_wp2_with fail;refine (H.out _ (Fr.b0 O.out.bel)).mono ?_;rintro r w1 ⟨rfl,hb⟩;have O1:=q0_ (O.out.below hb);have B0':=q0_ (B0.out.below hb);have B1':=q0_ (B1.out.below hb);have c1:=B0'.out.cell 1;simp only[q1_,q2_,q3_] at c1;clear hb B0 B1 O;go_wp2_with fail;clear c1
      go_loopw [1,21] (fun q i wr=>∃ (j:Nat) (y:Int),j≤n∧i=.int .i64 j∧q=.int .i64 y∧0≤y∧y≤9223372036854775807∧Hid (zlu y j (l.drop j)=s)∧Blk wr (w.heap.size+1) 74 #[.int .i64 0,.int .i64 0,.int .i64 0]∧Own w wr (fun _=>False)) (fun _ i _=>n-(intOf i).toNat)
      case atStart=>exact⟨0,k,Nat.zero_le _,rfl,rfl,by omega,hk1,by simpa[Hid] using HS.out,B1'.out,O1.out⟩
      case round=>
        obtain⟨j,y,hj,rfl,rfl,y0,y1,hat,hb1,ho⟩:=hrel
        by_cases hlt:j<n
        · obtain⟨ad,x,rfl,hu,d0,d1,d2,d3⟩:=(Hr.out.below ho.bel).tier hlt
          have hx8:=Hs.out x (zaa hu)
          have hdrop:l.drop j=x::l.drop (j+1):=by
            obtain⟨hjl,rfl⟩:=List.getElem?_eq_some_iff.1 hu;exact List.drop_eq_getElem_cons hjl
          rw[hdrop] at hat;have Hb1:=q0_ hb1;have Ho:=q0_ ho
          by_cases hys:y<x.shards
          · have E:s=(1,(j:Int),y):=by rw[← hat.out];simp[zlu,hys]
            subst E;have hb2:=hb1.alloc (.cells #[.string x.name,.int .i64 x.every,.int .i64 x.keep,.int .i64 x.shards] 99);have f0:=fun o=>(hb1.alloc o).frozen 0;have f1:=fun o=>(hb1.alloc o).frozen 1;have f2:=fun o=>(hb1.alloc o).frozen 2;have e0:=fun o=>(hb1.alloc o).cell 0;have e1:=fun o=>(hb1.alloc o).cell 1;have e2:=fun o=>(hb1.alloc o).cell 2;simp only[q1_,q2_,q3_] at e0 e1 e2;clear hu hdrop hb1 ho hb2;go_wp2_with fail;have hbel:=zri (g:=w.heap.size+1) (Ho.out.skip (Fr.none_alloc wr (.cells #[.string x.name,.int .i64 x.every,.int .i64 x.keep,.int .i64 x.shards] 99))) (by omega) (.int .i64 1) (.int .i64 j) (.int .i64 y);refine bodyPost_ret (v:=.tuple #[zaM (1,j,y),.bool true]) ?_ rfl ⟨rfl,hbel⟩;simp[results,results195,go_sem,zaM, *]
          · have E:Hid (zlu (y-max x.shards 0) (j+1) (l.drop (j+1))=s):=by rw[Hid, ← hat.out];simp[zlu,hys]
            clear hu hdrop hb1 ho
            by_cases h0:0≤x.shards
            · have em:max x.shards 0=x.shards:=by omega
              rw[em] at E;clear em
              go_wp2
              all_goals (
                go_roundw
                case rel=>exact⟨j+1,y-x.shards,by omega,by go_num,by go_num,by omega,by omega,E,Hb1.out.alloc _,Ho.out.skip (Fr.none_alloc _ _)⟩
                case measure=>simp[intOf];omega)
            · have em:y-max x.shards 0=y:=by omega
              rw[em] at E;clear em
              go_wp2
              all_goals (
                go_roundw
                case rel=>exact⟨j+1,y,by omega,by go_num,by go_num,by omega,by omega,E,Hb1.out.alloc _,Ho.out.skip (Fr.none_alloc _ _)⟩
                case measure=>simp[intOf];omega)
        · obtain rfl:j=n:=by omega
          rw[List.drop_of_length_le (by have:=Hlen.out;omega)] at hat;have e0:=hb1.cell 0;have e1:=hb1.cell 1;have e2:=hb1.cell 2;have g0:=hb1.frozen 0;have g1:=hb1.frozen 1;have g2:=hb1.frozen 2;simp only[q1_,q2_,q3_] at e0 e1 e2;have Ho:=q0_ ho;clear ho hb1
          by_cases hy:y=0
          · have E:s=(2,0,0):=by rw[← hat.out];simp[zlu,hy]
            subst E hy;go_wp2_with fail;have hbel:=zri (g:=w.heap.size+1) Ho.out (by omega) (.int .i64 2) (.int .i64 0) (.int .i64 0);refine bodyPost_ret (v:=.tuple #[zaM (2,0,0),.bool true]) ?_ rfl ⟨rfl,hbel⟩;simp[results,results195,go_sem,zaM, *]
          · have E:s=(3,0,0):=by rw[← hat.out];simp[zlu,hy]
            subst E
            have hyb:(y==0)=false:=by simpa using hy
            go_wp2_with fail;have hbel:=zri (g:=w.heap.size+1) Ho.out (by omega) (.int .i64 3) (.int .i64 0) (.int .i64 0);refine bodyPost_ret (v:=.tuple #[zaM (3,0,0),.bool true]) ?_ rfl ⟨rfl,hbel⟩;simp[results,results195,go_sem,zaM, *]
theorem zoU(nm : ByteArray)(l : List za_)(A : Option Addr)(n c : Nat)(S : Option Addr)(m d : Nat)(need : Int)(h0 : 0 ≤ need)(h1 : need ≤ 1152921504606846976)(w : World)(hr : Rd w 4 A n (zag l))(hn : n ≤ 1099511627776)(hs : ∀ t ∈ l, t.shards ≤ 8) :
    Calls prog 156 #[zcP nm A n c S m d,.int .i64 need] w fun r w'=>r=.returned (.int .i64 (2*need+zap l))∧Below w.heap.size w w':=by
  have hlen:=hr.tiers_len;have hin:=zcS hs;have H:=q0_ (fun w' (h:Fr (fun _=>False) w w')=>zjZ nm l A n c S m d w' (hr.fr0 h) hn hs);have O:=q0_ ((Own.start w).skip (Fr.none_alloc w (.cells #[.string nm,.slice A n c,.slice S m d] 91)));have B0:=q0_ (Blk.new w 91 #[.string nm,.slice A n c,.slice S m d]);clear hr hs;unfold zcP at H ⊢
  obtain⟨v,hv⟩:∃ v,zap l=v:=⟨_,rfl⟩
  rw[hv] at H hin ⊢;obtain⟨v0,v1⟩:=hin;rw[hlen] at v1;clear hv hlen;go_enter func156,ntmps156;go_wp2_with fail;refine (H.out _ (Fr.b0 O.out.bel)).mono ?_;rintro r w1 ⟨rfl,hb⟩;have O1:=q0_ (O.out.below hb);have b1:=B0.out.below hb;have c0:=b1.cell 0;have c1:=b1.cell 1;have c2:=b1.cell 2;simp only[q1_,q2_,q3_] at c0 c1 c2;clear hb b1;go_wp2_with fail;refine (H.out _ (Fr.b0 O1.out.bel)).mono ?_;rintro r w2 ⟨rfl,hb⟩;have O2:=q0_ (O1.out.below hb);clear hb c0 c1 c2;go_wp2;go_ret;exact⟨rfl,O2.out.bel⟩
theorem zjm(s:ByteArray)(n:Int):0≤za3 s n∧za3 s n≤4294967295:=by
  have:=zl1 s.data.toList;unfold za3
  split
  · omega
  · have h1:=Int.emod_nonneg (zeJ s.data.toList) (show n≠0 by omega)
    have h2:zeJ s.data.toList%n≤zeJ s.data.toList:=by
      have h3:=Int.mul_ediv_add_emod (zeJ s.data.toList) n;have h4:=Int.mul_nonneg (show 0≤n by omega) (Int.ediv_nonneg this.1 (show 0≤n by omega));omega
    omega
theorem zm3(nm : ByteArray)(l : List za_)(A : Option Addr)(n c : Nat)(S : Option Addr)(m d : Nat)(k : Int)(j : Nat)(t : za_)(s : ByteArray)(w : World)(hr : Rd w 4 A n (zag l))(hnc : n ≤ c)(hn : n ≤ 1099511627776)(hs : ∀ t ∈ l, t.shards ≤ 8)(hj : l[j]? = some t)(hsz : s.size ≤ maxLen) :
    Calls prog 152 #[zcP nm A n c S m d,.int .i64 k,.int .i64 j,.string s] w fun r w'=>r=.returned (.bool (decide (za3 s t.shards+zap (l.take j)<k)))∧Below w.heap.size w w':=by
  have hlen:=hr.tiers_len
  have hjn:j<n:=by have:=(List.getElem?_eq_some_iff.1 hj).1;omega
  have hjc:(j:Int)≤(c:Int):=by omega
  have hjc':j≤c:=by omega
  have hjn':(j:Int)<(n:Int):=by omega
  have HSh:=q0_ (fun w'=>zeW s hsz t.shards w');have hsh:=zjm s t.shards
  obtain⟨sv,hsv⟩:∃ sv,za3 s t.shards=sv:=⟨_,rfl⟩
  rw[hsv] at HSh hsh ⊢;obtain⟨sv0,sv1⟩:=hsh;obtain⟨ad,t',hA,hj',d0,d1,d2,d3⟩:=hr.tier hjn;subst hA;obtain rfl:t=t':=Option.some.inj (hj.symm.trans hj');have Hr:=q0_ hr;have Hs:=q0_ hs;have Hlen:=q0_ hlen;have d3':=fun o=>(Fr.none_alloc w o).cell d3 (fun h=>h);have O:=q0_ ((Own.start w).skip (Fr.none_alloc w (.cells #[.string nm,.slice (some ad) n c,.slice S m d] 91)));have HT:=q0_ (hr.takeT (k:=j) (by omega));clear hr hs hlen hj hj' d0 d1 d2 d3 hsv hsz;unfold zcP;go_enter func152,ntmps152;go_wp2_with fail;refine (HSh.out _).mono ?_;rintro r w1 ⟨rfl,rfl⟩;clear d3';go_wp2_with fail
  go_loopw [9,37] (fun q i wr=>∃ (k2:Nat) (v:Int),k2≤j∧i=.int .i64 k2∧q=.int .i64 v∧0≤v∧v≤4294967295+8*k2∧Hid (v=sv+zap (l.take k2))∧Own w wr (fun _=>False)) (fun _ i _=>j-(intOf i).toNat)
  case atStart=>exact⟨0,sv,Nat.zero_le _,rfl,rfl,by omega,by omega,by simp[Hid,zap],O.out⟩
  case round=>
    obtain⟨k2,v,hk,rfl,rfl,v0,v1,hv,ho⟩:=hrel
    by_cases hlt:k2<j
    · obtain⟨ad',x,e,hu,d0,d1,d2,d3⟩:=(HT.out.below ho.bel).tier hlt
      injection e with e
      subst e;rw[List.getElem?_take,if_pos hlt] at hu;have hx8:=Hs.out x (zaa hu);have Ho:=q0_ ho;have Hf:=q0_ (zcF hu);clear ho hu
      by_cases h0:0≤x.shards
      · go_wp2
        all_goals (
          go_roundw
          case rel=>exact⟨k2+1,v+x.shards,by omega,by go_num,by go_num,by omega,by omega,by rw[Hid,Hf.out,hv.out];omega,Ho.out.skip (Fr.none_alloc _ _)⟩
          case measure=>simp[intOf];omega)
      · go_wp2
        all_goals (
          go_roundw
          case rel=>exact⟨k2+1,v,by omega,by go_num,by go_num,by omega,by omega,by rw[Hid,Hf.out,hv.out];omega,Ho.out.skip (Fr.none_alloc _ _)⟩
          case measure=>simp[intOf];omega)
    · obtain rfl:k2=j:=by omega
      have Ho:=q0_ ho;clear ho;have E:=q0_ (show decide (sv+zap (l.take k2)<k)=decide (v<k) by rw[← hv.out])
      go_wp2
      go_ret;exact⟨by rw[E.out];rfl,Ho.out.bel⟩
theorem zo1(l:List za_)(hl:∀ t∈l,0≤t.shards)(i:Nat)(k:Int)(k0:0≤k)(k1:k<zap l):∃ j t,l[j]? =some t∧zlu k i l=(1,((i+j:Nat):Int),k-zap (l.take j))∧0≤k-zap (l.take j)∧k-zap (l.take j)<t.shards:=by
  induction l generalizing i k with
  | nil=>simp[zap] at k1;omega
  | cons a r ih=>
    have ha:=hl a (List.mem_cons_self ..)
    have hf:zap (a::r)=a.shards+zap r:=by simp only[zap,List.map_cons,List.sum_cons];omega
    by_cases h:k<a.shards
    · exact⟨0,a,rfl,by simp[zlu,h,zap],by simpa[zap] using k0,by simpa[zap] using h⟩
    · obtain⟨j,t,hj,e,e0,e1⟩:=ih (fun t ht=>hl t (List.mem_cons_of_mem _ ht)) (i+1) (k-a.shards) (by omega) (by omega)
      have ht:zap ((a::r).take (j+1))=a.shards+zap (r.take j):=by simp only[List.take_succ_cons,zap,List.map_cons,List.sum_cons];omega
      refine⟨j+1,t,by simpa using hj,?_,by rw[ht];omega,by rw[ht];omega⟩;simp only[zlu,h,if_false];rw[show max a.shards 0=a.shards by omega,e,ht];simp only[Prod.mk.injEq,true_and];exact⟨by omega,by omega⟩
theorem zei{l:List za_}(i j:Nat)(h:i≤j):zap (l.take i)≤zap (l.take j):=by
  induction j with
  | zero => obtain rfl : i = 0 := by omega
            exact Int.le_refl _
  | succ j ih=>
    rcases Nat.lt_or_ge i (j+1) with h1 | h1
    · have:=ih (by omega)
      by_cases hl:j<l.length
      · have h2:=zcF (q6_ hl)
        omega
      · rw[List.take_of_length_le (by omega:l.length≤j)] at this
        rw[List.take_of_length_le (by omega:l.length≤j+1)];exact this
    · obtain rfl:i=j+1:=by omega
      exact Int.le_refl _
theorem zb9{nm:ByteArray}{l:List za_}(h:zai nm l=true):1≤l.length∧l.length≤5:=by
  unfold zai zbw at h;simp only[Bool.and_eq_true,decide_eq_true_eq] at h;omega
theorem zcG{nm:ByteArray}{l:List za_}(h:zai nm l=true){i:Nat}{t:za_}(ht:l[i]? =some t):zdL t (l.take i)=true:=by
  unfold zai at h;simp only[Bool.and_eq_true,List.all_eq_true,List.mem_range] at h;have:=h.2 i (List.getElem?_eq_some_iff.1 ht).1;unfold zfU at this;rw[ht] at this;exact this
theorem zqa{t:za_}{l:List za_}(h:zdL t l=true):(1≤t.keep∧t.keep≤1000000)∧1≤t.shards∧t.shards≤8:=by
  unfold zdL za_.ok zbw at h;simp only[Bool.and_eq_true,decide_eq_true_eq] at h;omega
theorem znC{l:List za_}{i:Nat}{a:za_}(h:l[i]? =some a):(l.take (i+1)).getLast?=some a:=by
  rw[zak h,List.getLast?_append];rfl
theorem zeL{nm:ByteArray}{l:List za_}(h:zai nm l=true):∀ (i:Nat) (t:za_),l[i]? =some t→(i=0→t.every=1)∧1≤t.every∧t.every≤1000000:=by
  intro i
  induction i with
  | zero=>
    intro t ht;have:=zcG h ht;unfold zdL at this;simp only[List.take_zero,List.getLast?_nil,Bool.and_eq_true,beq_iff_eq] at this;omega
  | succ i ih=>
    intro t ht
    have hi:i<l.length:=by have:=(List.getElem?_eq_some_iff.1 ht).1;omega
    have ha:l[i]? =some l[i]:=q6_ hi;have:=zcG h ht;unfold zdL at this;rw[znC ha] at this;simp only[Bool.and_eq_true,decide_eq_true_eq] at this;have:=ih _ ha;omega
theorem zaq{nm:ByteArray}{l:List za_}(h:zai nm l=true){t:za_}(ht:t∈l):1≤t.every∧t.every≤1000000∧1≤t.keep∧t.keep≤1000000∧1≤t.shards∧t.shards≤8:=by
  obtain⟨i,hi,rfl⟩:=List.mem_iff_getElem.1 ht;have ha:l[i]? =some l[i]:=q6_ hi;have h1:=zeL h i _ ha;have h2:=zqa (zcG h ha);omega
theorem znN(now : Int)(l : List za_)(fl : List Int)(e : Int)(m : Nat)(hm : m ≤ l.length) :
    (zce now l fl e m= -1∧∀ i<m,∀ t,l[i]? =some t→zau t.every e=false)∨
    (∃ (k:Nat) (t:za_),k<m∧zce now l fl e m=k∧l[k]? =some t∧zau t.every e=true∧∀ i<m,∀ t',l[i]? =some t'→zau t'.every e=true→zat now l fl k≤zat now l fl i):=by
  induction m with
  | zero=>exact .inl ⟨rfl,fun i hi=>by omega⟩
  | succ m ih=>
    have ha:l[m]? =some l[m]:=q6_ (by omega);simp only[zce,ha]
    rcases ih (by omega) with ⟨h1,h2⟩ | ⟨k,t,h0,h1,h2,h3,h4⟩
    · rw[h1]
      by_cases hd:zau l[m].every e=true
      · refine .inr ⟨m,l[m],by omega,by simp[hd],ha,hd,fun i hi t' ht' hd'=>?_⟩
        rcases Nat.lt_or_ge i m with hlt | hge
        · rw[h2 i hlt t' ht'] at hd';cases hd'
        · obtain rfl:i=m:=by omega
          exact Int.le_refl _
      · refine .inl ⟨by simp[hd],fun i hi t ht=>?_⟩
        rcases Nat.lt_or_ge i m with hlt | hge
        · exact h2 i hlt t ht
        · obtain rfl:i=m:=by omega
          rw[ha] at ht
          injection ht with ht
          subst ht;simpa using hd
    · rw[h1]
      have hk:decide ((k:Int)<0)=false:=q9_ (by omega);rw[hk,Int.toNat_natCast,Bool.false_or]
      by_cases hd:zau l[m].every e=true
      · by_cases hle:zat now l fl m≤zat now l fl k
        · refine .inr ⟨m,l[m],by omega,by simp[hd,hle],ha,hd,fun i hi t' ht' hd'=>?_⟩
          rcases Nat.lt_or_ge i m with hlt | hge
          · exact Int.le_trans hle (h4 i hlt t' ht' hd')
          · obtain rfl:i=m:=by omega
            exact Int.le_refl _
        · refine .inr ⟨k,t,by omega,by simp[hle],h2,h3,fun i hi t' ht' hd'=>?_⟩
          rcases Nat.lt_or_ge i m with hlt | hge
          · exact h4 i hlt t' ht' hd'
          · obtain rfl:i=m:=by omega
            omega
      · refine .inr ⟨k,t,by omega,by simp[hd],h2,h3,fun i hi t' ht' hd'=>?_⟩
        rcases Nat.lt_or_ge i m with hlt | hge
        · exact h4 i hlt t' ht' hd'
        · obtain rfl:i=m:=by omega
          rw[ha] at ht'
          injection ht' with ht'
          subst ht';exact absurd hd' hd
theorem zlk(e:Int):zau 1 e=true:=by unfold zau;simp[Int.tmod_one]
theorem znM{now : Int}{nm : ByteArray}{l : List za_}{fl : List Int}(e : Int)(h : zai nm l = true) :
    ∃ (k:Nat) (t:za_),k<l.length∧zce now l fl e l.length=k∧l[k]? =some t∧e.tmod t.every=0∧∀ (i:Nat) (t':za_),l[i]? =some t'→e.tmod t'.every=0→zat now l fl k≤zat now l fl i:=by
  rcases znN now l fl e l.length (Nat.le_refl _) with ⟨_,h2⟩ | ⟨k,t,h0,h1,h2,h3,h4⟩
  · have hl:=zb9 h
    have ha:l[0]? =some l[0]:=q6_ (by omega);have:=h2 0 (by omega) _ ha;rw[(zeL h 0 _ ha).1 rfl,zlk] at this
    cases this
  · refine⟨k,t,h0,h1,h2,?_,fun i t' ht' hd=>h4 i (List.getElem?_eq_some_iff.1 ht').1 t' ht' ?_⟩
    · unfold zau at h3
      simp only[Bool.and_eq_true,decide_eq_true_eq] at h3;exact h3.2
    · have:=zeL h i t' ht'
      unfold zau;simp only[Bool.and_eq_true,decide_eq_true_eq];exact⟨this.2.1,hd⟩
theorem zfe{t e:Int}(h0:0≤t)(h1:t≤4398046511104)(he:1≤e)(he2:e≤1000000):(zc4 t e).tmod e=0∧t≤zc4 t e∧zc4 t e-t<e∧0≤zc4 t e∧zc4 t e≤4398047511104:=by
  have hb:=(zdO t e he)
  have h3:=hb.2.2.1 h0
  have hdvd:e∣t-t.tmod e:=⟨t.tdiv e,by have:=Int.mul_tdiv_add_tmod t e;omega⟩
  unfold zc4;rw[if_neg (by omega)]
  split
  · refine⟨?_,by omega⟩
    exact Int.tmod_eq_zero_of_dvd (Int.dvd_add hdvd (Int.dvd_refl e))
  · rename_i hn
    refine⟨Int.tmod_eq_zero_of_dvd hdvd,?_⟩
    have:t.tmod e=0:=by
      have:¬ (0<t.tmod e):=fun hh=>hn ⟨hh,by omega⟩;omega
    omega
theorem zl3{t e:Int}(he:1≤e)(h0: -1000000≤t)(he2:e≤1000000):zas t e≤t:=by
  have hb:=(zdO t e he)
  unfold zas;rw[if_neg (by omega)]
  split
  · omega
  · rename_i hn
    have:¬ (t.tmod e<0):=fun hh=>hn ⟨hh,by omega⟩;omega
theorem zfC{now:Int}{nm:ByteArray}{l:List za_}{fl:List Int}(h:zai nm l=true)(h0:0≤now)(h1:now≤1099511627776)(hf:∀ f∈fl,0≤f∧f≤2199023255552)(k:Nat):0≤zat now l fl k∧zat now l fl k≤2199023255552:=by
  unfold zat
  split
  · rename_i a b ha hb
    have h2:=zaq h (zaa ha);have h3:=zaq h (zaa hb)
    have h4:0≤zcp now a.keep b.every∧zcp now a.keep b.every≤2199023255552:=by
      unfold zcp;rw[if_neg (by omega)];have:=zl3 (t:=now-a.keep) (e:=b.every) (by omega) (by omega) (by omega);omega
    split
    · rename_i f hfk
      have:=hf f (zaa hfk)
      show 0≤max (zcp now a.keep b.every) f∧max (zcp now a.keep b.every) f≤_
      omega
    · exact h4
  · omega
def zbP:List ByteArray→List UInt8
  | []=>[]
  | [a]=>a.data.toList
  | a::b::r=>a.data.toList++32::zbP (b::r)
def zbR(n:Int):Int→List ByteArray→List zan
  | _,[]=>[]
  | col,a::r=>⟨a,n,col⟩::zbR n (col+a.size+1) r
def zeo(a:ByteArray):Prop:=1≤a.size∧(∀ c∈a.data.toList,zcg c=true)∧zf0 a=false
theorem zrx{a b:ByteArray}(h:a.data.toList=b.data.toList):a=b:=by
  cases a;cases b
  congr
  exact Array.toList_inj.1 h
theorem zdc(a:ByteArray):a.data.toList.length=a.size:=by rw[Array.length_toList];rfl
theorem zdU{s:ByteArray}{n:Int}{i:Nat}{c:UInt8}(hc:s.data.toList[i]? =some c){out:List zan}{b:Int}(h:zbv s n i=some (out,b)):zbv s n (i+1)=zbo s n i c out b:=by
  show (match zbv s n i with | none=>none | some p=>match s.data.toList[i]? with | none=>some p | some c=>zbo s n i c p.1 p.2)=_
  rw[h,hc]
theorem zdH{c:UInt8}(h:zcg c=true):zfg c=false:=by
  unfold zcg at h;unfold zfg;simp only[Bool.and_eq_true,decide_eq_true_eq] at h;simp;omega
theorem zjO{s : ByteArray}{n : Int}{pre rest : List UInt8}{a : ByteArray}(hs : s.data.toList = pre ++ (a.data.toList ++ rest))(ha : zeo a){out : List zan}(h : zbv s n pre.length = some (out, -1)) :
    zbv s n (pre.length+a.size)=some (out++[⟨a,n,(pre.length:Int)+1⟩],(pre.length:Int)):=by
  obtain⟨h1,h2,_⟩:=ha
  have hget:∀ j,j<a.size→∃ c,s.data.toList[pre.length+j]? =some c∧zcg c=true:=fun j hj=>by
    have hj':j<a.data.toList.length:=by rw[zdc];exact hj
    refine⟨a.data.toList[j],?_,h2 _ (List.getElem_mem hj')⟩;rw[hs,List.getElem?_append_right (by omega),Nat.add_sub_cancel_left,List.getElem?_append_left hj',q6_ hj']
  have hext:∀ k,k≤a.size→(s.extract pre.length (pre.length+k)).data.toList=a.data.toList.take k:=fun k hk=>by
    rw[Lib.extract_data,hs,List.drop_left' rfl,Nat.add_sub_cancel_left,List.take_append_of_le_length (by rw[zdc];exact hk)]
  have key:∀ k,k<a.size→zbv s n (pre.length+(k+1))=some (out++[⟨s.extract pre.length (pre.length+(k+1)),n,(pre.length:Int)+1⟩],(pre.length:Int)):=by
    intro k
    induction k with
    | zero=>
      intro hk;obtain⟨c,hc,hl⟩:=hget 0 hk;have:=zdU (n:=n) (by simpa using hc) h;rw[Nat.zero_add,this];unfold zbo;rw[zdH hl,hl];simp
    | succ k ih=>
      intro hk;obtain⟨c,hc,hl⟩:=hget (k+1) hk;have:=zdU (n:=n) hc (ih (by omega));rw[show pre.length+(k+1+1)=pre.length+(k+1)+1 by omega,this];unfold zbo;rw[zdH hl,hl];simp only[Bool.not_true,Bool.and_false,Bool.false_eq_true,if_false];rw[if_neg (by omega),zh4];simp
  have hk:=key (a.size-1) (by omega);rw[show a.size-1+1=a.size by omega] at hk;rw[hk];have:s.extract pre.length (pre.length+a.size)=a:=zrx (by rw[hext _ (Nat.le_refl _),List.take_of_length_le (by rw[zdc];exact Nat.le_refl _)]);rw[this]
theorem zhU{s : ByteArray}{n : Int} : ∀ (ws : List ByteArray) (pre : List UInt8) (out : List zan), (∀ a ∈ ws, zeo a) → s.data.toList = pre ++ zbP ws → zbv s n pre.length = some (out, -1) →
    ∃ b,zbv s n s.size=some (out++zbR n ((pre.length:Int)+1) ws,b)
  | [],pre,out,_,hs,h=>by
    have:s.size=pre.length:=by rw[← zdc,hs];simp[zbP]
    rw[this,h];exact⟨-1,by simp[zbR]⟩
  | [a],pre,out,hw,hs,h=>by
    have hj:zbP [a]=a.data.toList++[]:=by simp[zbP]
    rw[hj] at hs;have hl:=zjO hs (hw a (by simp)) h
    have:s.size=pre.length+a.size:=by rw[← zdc,hs];simp[zdc]
    rw[this,hl];exact⟨_,rfl⟩
  | a::b::r,pre,out,hw,hs,h=>by
    have hj:zbP (a::b::r)=a.data.toList++32::zbP (b::r):=rfl;rw[hj] at hs;have hl:=zjO hs (hw a (by simp)) h
    have hc:s.data.toList[pre.length+a.size]? =some 32:=by
      rw[hs, ← zdc a, ← List.append_assoc, ← q8_,List.getElem?_append_right (Nat.le_refl _),Nat.sub_self]
      rfl
    have h2:=zdU hc hl
    have h3:zbo s n (pre.length+a.size) 32 (out++[⟨a,n,(pre.length:Int)+1⟩]) (pre.length:Int)=some (out++[⟨a,n,(pre.length:Int)+1⟩], -1):=by
      unfold zbo;rw[show zfg 32=true from rfl];simp
    rw[h3] at h2
    have hlen:(pre++a.data.toList++[32]).length=pre.length+a.size+1:=by simp[zdc];omega
    obtain⟨b',hb⟩:=zhU (b::r) (pre++a.data.toList++[32]) _ (fun x hx=>hw x (List.mem_cons_of_mem _ hx)) (by rw[hs];simp) (by rw[hlen];exact h2);refine⟨b',?_⟩;rw[hb,hlen]
    have e:((pre.length+a.size+1:Nat):Int)+1=(pre.length:Int)+1+a.size+1:=by omega
    rw[e];simp[zbR]
theorem zd8{n:Int}:∀ {ws:List ByteArray} {col:Int} {x:zan},x∈zbR n col ws→x.text∈ws∧x.line=n
  | a::r,col,x,h=>by
    rcases List.mem_cons.1 h with rfl | h
    · exact⟨by simp,rfl⟩
    · obtain⟨h1,h2⟩:=zd8 h
      exact⟨List.mem_cons_of_mem _ h1,h2⟩
theorem zdw{n:Int}:∀ {ws:List ByteArray} {col:Int},(zbR n col ws).map zan.text=ws
  | [],_=>rfl
  | a::r,col=>by
    show a::(zbR n _ r).map zan.text=a::r
    rw[zdw]
theorem zmg{n:Int}{ws:List ByteArray}{col:Int}:(zbR n col ws).length=ws.length:=by rw[← List.length_map (f:=zan.text),zdw]
theorem zdy{α:Type}{p:α→Bool}:∀ {l:List α},(∀ x∈l,p x=true)→l.takeWhile p=l
  | [],_=>rfl
  | a::l,h=>by
    rw[List.takeWhile_cons,if_pos (h a (by simp)),zdy (fun x hx=>h x (List.mem_cons_of_mem _ hx))]
theorem zk7{s:ByteArray}{n:Int}{ws:List ByteArray}(hw:∀ a∈ws,zeo a)(hs:s.data.toList=zbP ws):zen s n=some (zbR n 1 ws):=by
  obtain⟨b,hb⟩:=zhU (n:=n) ws [] [] hw (by simpa using hs) rfl;unfold zen;rw[hb];simp only[List.nil_append,Option.map_some,Option.some.injEq];have e:(([]:List UInt8).length:Int)+1=1:=rfl;rw[e];refine zdy (fun x hx=>?_);have:=(hw _ (zd8 hx).1).2.2;rw[this];rfl
def zbe:Int→List (List ByteArray)→List zan
  | _,[]=>[]
  | n,ws::r=>zbR n 1 ws++zbe (n+1) r
theorem zic:∀ (ls:List ByteArray) (wss:List (List ByteArray)) (i:Nat) (acc:List zan),ls.map (fun s=>s.data.toList)=wss.map zbP→(∀ ws∈wss,∀ a∈ws,zeo a)→zln ls i acc=.inl (acc++zbe ((i:Int)+1) wss)
  | [],[],i,acc,_,_=>by simp[zln,zbe]
  | [],_::_,_,_,h,_=>by cases h
  | _::_,[],_,_,h,_=>by cases h
  | s::ls,ws::wss,i,acc,h,hw=>by
    simp only[List.map_cons,List.cons.injEq] at h;unfold zln;rw[zk7 (hw ws (by simp)) h.1];simp only;rw[zic ls wss (i+1) _ h.2 (fun x hx=>hw x (List.mem_cons_of_mem _ hx))]
    have e:((i+1:Nat):Int)+1=(i:Int)+1+1:=by omega
    rw[e];simp[zbe]
theorem zfN:∀ (ls:List (List UInt8)),(∀ l∈ls,(10:UInt8)∉l)→Lib.splitK [10] 0 ls.length (ls.flatMap fun l=>l++[10])=ls++[[]]
  | [],_=>rfl
  | l::ls,h=>by
    have hidx:Lib.index ((l::ls).flatMap fun l=>l++[10]) [10]=(l.length:Nat):=by
      have e:((l::ls).flatMap fun l=>l++[10])=l++10::(ls.flatMap fun l=>l++[10]):=by simp
      rw[e];refine Lib.index_first (by simp) ?_ (fun j hj=>?_)
      · unfold Lib.occAt
        rw[List.drop_left' rfl];simp
      · unfold Lib.occAt
        have h10:=h l (by simp);rw[List.drop_append_of_le_length (by omega)]
        obtain⟨c,t,hct⟩:∃ c t,l.drop j=c::t:=by
          cases hd:l.drop j with
          | nil=>have:=congrArg List.length hd;simp at this;omega
          | cons c t=>exact⟨c,t,rfl⟩
        rw[hct];have hc:c∈l:=List.mem_of_mem_drop (by rw[hct];simp);have hne:(10:UInt8)≠c:=fun e=>h10 (e▸hc);simp[List.isPrefixOf,hne]
    show Lib.splitK [10] 0 (ls.length+1) _=_
    unfold Lib.splitK;rw[hidx,if_neg (by rw[beq_iff_eq];omega)]
    have e1:((l.length:Nat):Int).toNat+0=l.length:=by omega
    have e2:((l.length:Nat):Int).toNat+[(10:UInt8)].length=l.length+1:=by simp
    rw[e1,e2]
    have e:((l::ls).flatMap fun l=>l++[10])=l++10::(ls.flatMap fun l=>l++[10]):=by simp
    rw[e,List.take_left' rfl,List.drop_length_add_append,List.drop_one]
    show l::Lib.splitK [10] 0 ls.length (ls.flatMap fun l=>l++[10])=_
    rw[zfN ls (fun x hx=>h x (List.mem_cons_of_mem _ hx))]
    rfl
theorem zg7:∀ (ls:List (List UInt8)),(∀ l∈ls,(10:UInt8)∉l)→(ls.flatMap fun l=>l++[10]).count 10=ls.length
  | [],_=>rfl
  | l::ls,h=>by
    rw[List.flatMap_cons,List.count_append,List.count_append,zg7 ls (fun x hx=>h x (List.mem_cons_of_mem _ hx)),List.count_eq_zero.2 (h l (by simp))];simp;omega
theorem zkL{s:ByteArray}{ls:List (List UInt8)}(h:∀ l∈ls,(10:UInt8)∉l)(hs:s.data.toList=ls.flatMap fun l=>l++[10]):(Lib.splitB bNl 0 (Lib.countB s bNl) s).map (fun s=>s.data.toList)=ls++[[]]:=by
  rw[Lib.splitB_data];have hb:bNl.data.toList=[10]:=rfl
  have hc:Lib.countB s bNl=ls.length:=by
    show Lib.count s.data.toList bNl.data.toList=_
    rw[hb,Lib.count_one,hs,zg7 ls h]
  rw[hc,hb,hs,zfN ls h]
theorem zlX:∀ {ws:List ByteArray},(∀ a∈ws,zeo a)→(10:UInt8)∉zbP ws
  | [],_,h=>by cases h
  | [a],hw,h=>by
    have:=(hw a (by simp)).2.1 10 h;exact absurd this (by decide)
  | a::b::r,hw,h=>by
    rcases List.mem_append.1 (show (10:UInt8)∈a.data.toList++32::zbP (b::r) from h) with h | h
    · have:=(hw a (by simp)).2.1 10 h
      exact absurd this (by decide)
    · rcases List.mem_cons.1 h with h | h
      · exact absurd h (by decide)
      · exact zlX (fun x hx=>hw x (List.mem_cons_of_mem _ hx)) h
theorem zoK{s:ByteArray}{wss:List (List ByteArray)}(hw:∀ ws∈wss,∀ a∈ws,zeo a)(hs:s.data.toList=wss.flatMap fun ws=>zbP ws++[10])(h4:s.size≤4000):zj5 s=.inl (zbe 1 wss):=by
  unfold zj5;rw[if_neg (by omega)]
  have hs2:s.data.toList=(wss.map zbP).flatMap fun l=>l++[10]:=by rw[hs,List.flatMap_map]
  have h1:=zkL (s:=s) (ls:=wss.map zbP) (fun l hl=>by
    obtain⟨ws,hws,rfl⟩:=List.mem_map.1 hl
    exact zlX (hw ws hws)) hs2
  have h2:(Lib.splitB bNl 0 (Lib.countB s bNl) s).map (fun s=>s.data.toList)=(wss++[[]]).map zbP:=by rw[h1];simp[zbP]
  have h3:=zic _ (wss++[[]]) 0 [] h2 (fun ws hws=>by
    rcases List.mem_append.1 hws with h | h
    · exact hw ws h
    · rw[List.mem_singleton] at h
      rw[h]
      exact fun _ h=>by cases h)
  rw[h3]
  have e:∀ (n:Int) (w:List (List ByteArray)),zbe n (w++[[]])=zbe n w:=by
    intro n w
    induction w generalizing n with
    | nil=>simp[zbe,zbR]
    | cons a w ih=>simp[zbe,ih]
  rw[e];simp
theorem zgN:∀ {n:Int} {wss:List (List ByteArray)} {x:zan},x∈zbe n wss→n≤x.line
  | n,ws::wss,x,h=>by
    rcases List.mem_append.1 (show x∈zbR n 1 ws++zbe (n+1) wss from h) with h | h
    · rw[(zd8 h).2];exact Int.le_refl _
    · have:=zgN h;omega
theorem zh0{n:Int}{ws:List ByteArray}{wss:List (List ByteArray)}(hne:ws≠[]):zbc (zbe n (ws::wss))=zbR n 1 ws:=by
  obtain⟨a,r,rfl⟩:∃ a r,ws=a::r:=by
    cases ws with
    | nil=>exact absurd rfl hne
    | cons a r=>exact⟨a,r,rfl⟩
  show zbc (⟨a,n,1⟩::(zbR n _ r++zbe (n+1) wss))=⟨a,n,1⟩::zbR n _ r
  unfold zbc;simp only
  congr 1
  have h1:∀ x∈zbR n (1+(a.size:Int)+1) r,(x.line==n)=true:=fun x hx=>by rw[(zd8 hx).2];simp
  rw[List.takeWhile_append];rw[zdy h1,if_pos rfl]
  have h2:(zbe (n+1) wss).takeWhile (fun y=>y.line==n)=[]:=by
    cases hl:zbe (n+1) wss with
    | nil=>rfl
    | cons y t=>
      have:=zgN (x:=y) (n:=n+1) (wss:=wss) (by rw[hl];simp);rw[List.takeWhile_cons,if_neg (by simp;omega)]
  rw[h2,List.append_nil]
def zaW(t:za_):List ByteArray:=[zfH,t.name,zev,zaT (Lib.itoa t.every),zho,zaT (Lib.itoa t.keep),zdd,zaT (Lib.itoa t.shards)]
def ziB(v:Int):Prop:= -1000000000000000000<v∧v<1000000000000000000
theorem zk2{v:Int}(h:ziB v)(b:ByteArray):zhO b (zaT (Lib.itoa v)) b=(v,true):=by
  unfold zhO;have:(zaT (Lib.itoa v)).data.toList=Lib.itoa v:=rfl;unfold ziB at h;rw[this,zoh,if_pos h];simp
theorem zps{t:za_}{acc:List za_}(h1:ziB t.every)(h2:ziB t.keep)(h3:ziB t.shards)(hl:acc.length≠5):zey (zaW t) acc=some (acc++[t]):=by
  unfold zey zaW;simp only[zk2 h1,zk2 h2,zk2 h3,hl,decide_false,Bool.not_false,Bool.and_true,beq_self_eq_true,if_true]
theorem zja:∀ (l:List za_) (f:Nat) (n:Int) (acc:List za_),(∀ t∈l,ziB t.every∧ziB t.keep∧ziB t.shards)→acc.length+l.length≤5→l.length≤f→zbU f (zbe n (l.map zaW)) acc=.inl (acc++l)
  | [],f,n,acc,_,_,_=>by
    cases f<;>simp[zbU,zbe]
  | t::l,0,n,acc,_,_,h=>by simp at h
  | t::l,f+1,n,acc,hn,h5,hf=>by
    have hh:=zh0 (n:=n) (ws:=zaW t) (wss:=l.map zaW) (by simp[zaW])
    obtain⟨x,R,hx⟩:∃ x R,zbe n ((t::l).map zaW)=x::R:=⟨_,_,rfl⟩
    have hh:zbc (zbe n ((t::l).map zaW))=zbR n 1 (zaW t):=hh;rw[hx] at hh ⊢;unfold zbU;obtain⟨n1,n2,n3⟩:=hn t (by simp);rw[List.length_cons] at h5 hf;rw[hh,zdw,zps n1 n2 n3 (by omega)];simp only
    have hd:(x::R).drop (zbR n 1 (zaW t)).length=zbe (n+1) (l.map zaW):=by
      rw[← hx]
      show (zbR n 1 (zaW t)++zbe (n+1) (l.map zaW)).drop _=_
      rw[List.drop_left' rfl]
    rw[hd,zja l f (n+1) (acc++[t]) (fun y hy=>hn y (List.mem_cons_of_mem _ hy)) (by simp;omega) (by omega)];simp
def zbC(nm:ByteArray)(l:List za_):List UInt8:=([zbg,nm]::l.map zaW).flatMap fun ws=>zbP ws++[10]
def zbi(nm:ByteArray)(l:List za_):ByteArray:=zaT (zbC nm l)
theorem zmU{l:List UInt8}(h:letters l=true){c:UInt8}(hc:c∈l):zcg c=true∧c≠35:=by
  unfold letters at h;rw[List.all_eq_true] at h;have h:=h c hc;unfold zfz at h;unfold zcg;simp at h ⊢;refine⟨by omega,fun e=>?_⟩;rw[e] at h;exact absurd h (by decide)
theorem zfT{s:ByteArray}(h:zaE s=true):zeo s:=by
  unfold zaE at h;simp only[Bool.and_eq_true,decide_eq_true_eq] at h;have hc:∀ c∈s.data.toList,zcg c=true∧c≠35:=fun c hc=>zmU h.2 hc;refine⟨h.1.1,fun c h=>(hc c h).1,?_⟩;unfold zf0
  cases hd:s.data.toList with
  | nil=>rfl
  | cons c t=>
    have:=(hc c (by rw[hd];simp)).2;simp[this]
theorem zgU{v:Int}(h:0≤v):zeo (zaT (Lib.itoa v)):=by
  have hd:∀ c∈Lib.itoa v,48≤c.toNat∧c.toNat≤57:=fun c hc=>by
    obtain⟨u,rfl⟩:=Int.eq_ofNat_of_zero_le h;rw[ziE] at hc;have:=ziV u;rw[List.all_eq_true] at this;have:=this c hc;unfold zgV at this;exact of_decide_eq_true this
  have hl:=List.length_pos_iff.2 (zqS v);refine⟨by rw[← zdc];exact hl,fun c hc=>?_,?_⟩
  · have:=hd c hc
    unfold zcg;simp;omega
  · unfold zf0
    show ((Lib.itoa v).head?==some 35)=false
    cases hh:Lib.itoa v with
    | nil=>rfl
    | cons c t=>
      have:=hd c (by rw[hh];simp)
      have hne:c≠35:=fun e=>by rw[e] at this;exact absurd this.1 (by decide)
      simp[hne]
theorem zhC{nm:ByteArray}{l:List za_}(h:zai nm l=true)(h4:(zbC nm l).length≤4000):zaL (zbi nm l)=(0,nm,l):=by
  have hn:zaE nm=true:=by
    cases hv:zaE nm
    · unfold zai at h
      simp[hv] at h
    · rfl
  have hl5:=zb9 h
  have ht:∀ t∈l,zaE t.name=true∧1≤t.every∧t.every≤1000000∧1≤t.keep∧t.keep≤1000000∧1≤t.shards∧t.shards≤8:=fun t ht=>by
    have hm:=zaq h ht;obtain⟨i,hi⟩:=List.getElem?_of_mem ht;have hf:=zcG h hi;refine⟨?_,by omega,by omega,by omega,by omega,by omega,by omega⟩
    cases hv:zaE t.name
    · unfold zdL za_.ok at hf
      simp[hv] at hf
    · rfl
  have hcon:∀ b∈[zbg,zfH,zev,zho,zdd],zeo b:=fun b hb=>by
    simp only[List.mem_cons,List.not_mem_nil,or_false] at hb
    rcases hb with rfl | rfl | rfl | rfl | rfl<;>exact⟨by decide,by decide,by decide⟩
  have hws:∀ ws∈[zbg,nm]::l.map zaW,∀ a∈ws,zeo a:=by
    intro ws hws a ha
    rcases List.mem_cons.1 hws with rfl | hws
    · simp only[List.mem_cons,List.not_mem_nil,or_false] at ha
      rcases ha with rfl | rfl
      · exact hcon _ (by simp)
      · exact zfT hn
    · obtain⟨t,htl,rfl⟩:=List.mem_map.1 hws
      obtain⟨v1,v2,v3,v4,v5,v6,v7⟩:=ht t htl;unfold zaW at ha;simp only[List.mem_cons,List.not_mem_nil,or_false] at ha
      rcases ha with rfl | rfl | rfl | rfl | rfl | rfl | rfl | rfl
      · exact hcon _ (by simp)
      · exact zfT v1
      · exact hcon _ (by simp)
      · exact zgU (by omega)
      · exact hcon _ (by simp)
      · exact zgU (by omega)
      · exact hcon _ (by simp)
      · exact zgU (by omega)
  have hcut:zj5 (zbi nm l)=.inl (zbe 1 ([zbg,nm]::l.map zaW)):=zoK hws rfl (by rw[← zdc];exact h4)
  have hparse:zdl (zbe 1 ([zbg,nm]::l.map zaW))=.inl (nm,l):=by
    unfold zdl;rw[zh0 (by simp),zdw]
    have:zfZ [zbg,nm]=some nm:=by unfold zfZ;simp
    rw[this];simp only;have hd:(zbe 1 ([zbg,nm]::l.map zaW)).drop (zbR 1 1 [zbg,nm]).length=zbe (1+1) (l.map zaW):=List.drop_left' rfl
    have hlen:∀ (n:Int) (l:List za_),l.length≤(zbe n (l.map zaW)).length:=by
      intro n l
      induction l generalizing n with
      | nil=>exact Nat.zero_le _
      | cons t l ih=>
        show l.length+1≤(zbR n 1 (zaW t)++zbe (n+1) (l.map zaW)).length
        rw[q8_,zmg];have:=ih (n+1);have h8:(zaW t).length=8:=rfl;omega
    have hlen2:l.length≤(zbe 1 ([zbg,nm]::l.map zaW)).length:=by
      show l.length≤(zbR 1 1 [zbg,nm]++zbe (1+1) (l.map zaW)).length
      rw[q8_];have:=hlen (1+1) l;omega
    rw[hd,zja l _ (1+1) [] (fun t htl=>by
      obtain⟨v1,v2,v3,v4,v5,v6,v7⟩:=ht t htl;unfold ziB
      omega) (by simp;omega) hlen2]
    rfl
  unfold zaL zbV;rw[hcut];simp only[hparse,if_true,h]
end Go.Proofs.YteajonicnkpbbaaGreatDoor
