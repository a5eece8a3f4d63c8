/- Walk of a segment block's head. -/
import Derived.Test.YteajonicnkpbbaaGreatDoorSame
import Derived.WalkKit
import Derived.ProofKit
import Derived.OpenShut
import Derived.ShutString
import Derived.ChangeOld
import Derived.Lay
import Derived.LaidOnce
import Derived.SevenTiedAt
import Derived.SliceStrings
import Derived.Deep.Slices
import Derived.ChangeArms
namespace Go.Proofs.YteajonicnkpbbaaGreatDoor
set_option linter.all false
set_option maxHeartbeats 4000000
set_option maxRecDepth 100000
open Go.RowKit Tryz
theorem zhZ{x:Int}(h:0≤x∧x<256):zbk 1 x=true:=by unfold zbk;simp;omega
theorem zhY{x:Int}(h:0≤x∧x<65536):zbk 2 x=true:=by unfold zbk;simp;omega
open Go.ChangeShapes Go.WideShapes Go.ChangeAt Go.RowKit
theorem tab_of_laid{P:Program}{W:World}{name:String}{k:IntKind}{zs:List Int}{g:Nat}{t e:TypeId}{n:Nat}
  (hg:P.globalNamed name=some g) (hty:(P.globals[g]?).map (·.type)=some t) (ht:P.underlying t=some (.array n e)) (he:P.underlying e=some (.int k)) (hce:P.cellsOf e=1) (hct:P.cellsOf t=n):
  ∀ {l:List (String×DataW Unit)} {ps:List MemPlace},DataW.LaidVars P W l ps→(name,Lib.tabData k zs)∈l→Lib.TabIs P W name k zs
 | [],_,_,hm=>by cases hm
 | (n',d')::r,ps,h,hm=>by
  obtain⟨g',t',cs,fuel,p,q,hg',ht',hvar,hd,hr,_⟩:=h
  rcases List.mem_cons.1 hm with e1 | hm
  ·injection e1 with e1 e2
   subst e1 e2;obtain rfl:=Option.some.inj (hg.symm.trans hg');obtain rfl:=Option.some.inj (hty.symm.trans ht');unfold Lib.TabIs;rw[hvar, ← Lib.cells_of_tab ht he hce hct hd]
  ·exact tab_of_laid hg hty ht he hce hct hr hm
theorem zrd{x:Int}(h:(Lit.int .i64 x).wf=true): -9223372036854775808≤x∧x≤9223372036854775807:=by
 simpa[Lit.wf,IntKind.min,IntKind.max,IntKind.signed,IntKind.bits] using h
def Dat(P:Program)(w:World)(t:TypeId)(cs:List Value):Prop:=
 ∃ (H:Type) (enc:TypeId×Value→H) (fuel:Nat) (x:DataW H×List MemPlace),DataW.trod enc P w 0 (fun _=>true) true fuel t cs=some x
section
variable {P:Program} {w:World} {t e:TypeId} {cs:List Value}
theorem Dat.of{H:Type}{enc:TypeId×Value→H}{v:Value}{d:DataW H}{ps:List MemPlace}(h:DataW.Trod enc P w 0 (fun _=>true) true t v d ps):Dat P w t v.cells.toList:=by
 obtain⟨f,hf⟩:=h;exact⟨H,enc,f,_,hf⟩
theorem Dat.int_{k:IntKind}(ht:P.underlying t=some (.int k))(h:Dat P w t cs):∃ n,cs=[.int k n]∧(Lit.int k n).wf=true:=by
 obtain⟨H,enc,f,x,hf⟩:=h;obtain⟨n,h1,_,h2⟩:=DataW.trod_int ht hf;exact⟨n,h1,h2⟩
theorem Dat.i64_(ht:P.underlying t=some (.int .i64))(h:Dat P w t cs):∃ n,cs=[.int .i64 n]∧ -9223372036854775808≤n∧n≤9223372036854775807:=by
 obtain⟨n,h1,h2⟩:=h.int_ ht;exact⟨n,h1,zrd h2⟩
theorem Dat.str_(ht:P.underlying t=some .string)(h:Dat P w t cs):∃ s:ByteArray,cs=[.string s]∧s.size≤maxLen:=by
 obtain⟨H,enc,f,x,hf⟩:=h;obtain⟨s,h1,_,h2⟩:=DataW.trod_string ht hf;exact⟨s,h1,h2⟩
theorem Dat.struct_{fs:Array Field}(ht:P.underlying t=some (.struct fs))(h:Dat P w t cs):
  cs.length=P.cellsOf t∧∀ (i:Nat) (f:Field),fs[i]? =some f→Dat P w f.type ((cs.drop f.offset).take (P.cellsOf f.type)):=by
 obtain⟨H,enc,f,x,hf⟩:=h;obtain⟨xs,n,_,_,hl,hx,hfs⟩:=DataW.trod_struct ht hf;refine⟨hl,fun i g hg=>?_⟩
 have hi:i<xs.length:=by rw[hx];exact (Array.getElem?_eq_some_iff.1 hg).1
 exact⟨H,enc,n,xs[i],by rw[hfs i g hg,q6_ hi]⟩
theorem Dat.len_{fs:Array Field}{size:Nat}(ht:P.underlying t=some (.struct fs))(hs:P.cellsOf t=size)(h:Dat P w t cs):cs.length=size:=hs▸(h.struct_ ht).1
theorem Dat.field_{fs:Array Field}{f:Field}(ht:P.underlying t=some (.struct fs))(i off size:Nat)(hg:fs[i]? =some f)(ho:f.offset=off)(hs:P.cellsOf f.type=size)(h:Dat P w t cs):Dat P w f.type ((cs.drop off).take size):=by
 have:=(h.struct_ ht).2 i f hg;rwa[ho,hs] at this
theorem Dat.slice_{size:Nat}(ht:P.underlying t=some (.slice e))(hs:P.cellsOf e=size)(h:Dat P w t cs):
  ∃ A n c,cs=[.slice A n c]∧n≤c∧c≤maxLen∧(A=none→n=0)∧∀ ad,A=some ad→∀ i<n,∃ cs',cs'.length=size∧Dat P w e cs'∧∀ j u,cs'[j]? =some u→w.cell? (ad.add (i*size+j))=some u:=by
 obtain⟨H,enc,f,x,hf⟩:=h
 rcases Go.Deep.open_slice ht hf with ⟨h1,_⟩ | ⟨a,len,cap,m,n,D,Pl,h1,hb,hl,hm,hmm,_,hx⟩
 ·exact⟨none,0,0,h1,Nat.le_refl _,Nat.zero_le _,fun _=>rfl,(fun ad h=>by cases h)⟩
 ·refine⟨some a,len,cap,h1,hl,hm,(fun h=>by cases h),fun ad e1 i hi=>?_⟩
  injection e1 with e1
  subst e1;obtain⟨cs',h2,h3⟩:=hx i (by rw[hmm];simp only[if_true];omega);obtain⟨_,hlen,hc⟩:=World.cells?_some h2;rw[hs] at hlen hc h2;refine⟨cs',hlen,⟨H,enc,n,_,h3⟩,fun j u hu=>?_⟩
  have hj:j<size:=by rw[← hlen];exact (List.getElem?_eq_some_iff.1 hu).1
  rw[← zcH,hc j hj,hu]
theorem Dat.rows_{α:Type}{size:Nat}(f:α→List Value)(ok:α→Prop)(ht:P.underlying t=some (.slice e))(hs:P.cellsOf e=size)
  (hel:∀ cs',Dat P w e cs'→∃ x,cs'=f x∧ok x) (h:Dat P w t cs):
  ∃ A n c,∃ l:List α,cs=[.slice A n c]∧Rd w size A n (l.flatMap f)∧l.length=n∧n≤c∧c≤maxLen∧∀ x∈l,ok x:=by
 obtain⟨A,n,c,rfl,hn,hc,hnil,hx⟩:=h.slice_ ht hs
 have key:∀ k≤n,∃ l:List α,l.length=k∧(l.flatMap f).length=k*size∧(∀ x∈l,ok x)∧∀ ad,A=some ad→∀ j u,(l.flatMap f)[j]? =some u→w.cell? (ad.add j)=some u:=by
  intro k
  induction k with
  | zero=>exact fun _=>⟨[],rfl,by simp,by simp,fun _ _ j u hu=>by simp at hu⟩
  | succ k ih=>
   intro hk;obtain⟨l,h1,h2,h3,h4⟩:=ih (by omega)
   cases hA:A with
   | none=>have:=hnil hA;omega
   | some ad=>
    obtain⟨cs',h5,h6,h7⟩:=hx ad hA k (by omega);obtain⟨x,rfl,hok⟩:=hel _ h6;refine⟨l++[x],by simp[h1],by rw[List.flatMap_append,q8_,h2,Nat.succ_mul];simp[h5],fun y hy=>?_,fun ad' e1 j u hu=>?_⟩
    ·rcases List.mem_append.1 hy with hy | hy
     ·exact h3 y hy
     ·rw[List.mem_singleton] at hy;subst hy;exact hok
    ·injection e1 with e1
     subst e1;rw[List.flatMap_append] at hu
     by_cases hj:j<(l.flatMap f).length
     ·rw[List.getElem?_append_left hj] at hu
      exact h4 ad hA j u hu
     ·rw[List.getElem?_append_right (by omega)] at hu
      simp only[List.flatMap_cons,List.flatMap_nil,List.append_nil] at hu;have:=h7 _ u hu;rwa[show k*size+(j-(l.flatMap f).length)=j by omega] at this
 obtain⟨l,h1,h2,h3,h4⟩:=key n (Nat.le_refl _);refine⟨A,n,c,l,rfl,⟨h2,fun h0=>?_⟩,h1,hn,hc,h3⟩
 cases hA:A with
 | none=>have:=hnil hA;omega
 | some ad=>exact⟨ad,rfl,h4 ad hA⟩
end
theorem zqe{w:World}{cs:List Value}(h:Dat prog w 201 cs):∃ r:zaz,cs=r.cells∧r.wf:=by
 have hl:=h.len_ underlying201 (show prog.cellsOf 201=3 by kernel_rfl)
 match cs,hl with
 | [c0,c1,c2],_=>
  obtain⟨s,h0,w0⟩:=(h.field_ underlying201 0 0 1 rfl rfl (by kernel_rfl)).str_ underlying9;obtain⟨a,h1,w1⟩:=(h.field_ underlying201 1 1 1 rfl rfl (by kernel_rfl)).i64_ underlying3;obtain⟨b,h2,w2⟩:=(h.field_ underlying201 2 2 1 rfl rfl (by kernel_rfl)).i64_ underlying3;simp at h0 h1 h2;subst h0 h1 h2;exact⟨⟨s,a,b⟩,rfl,w1,w2,w0⟩
def zrU(few n:Nat)(r:Ending):Prop:=∃ b,r=.returned (.bool b)∧(b=true→n≤few)
theorem zpA(few:Nat)(hfew:few≤1000000)(l:List zaz)(hl:∀ r∈l,r.name.size≤maxLen)(A:Option Addr)(n c:Nat)(w:World)(hr:Rd w 3 A n (zdE l))(hn:n≤9223372036854775807):
  Calls prog 93 #[.int .i64 few,.slice A n c] w fun r w'=>zrU few n r∧w=w':=by
 have Hr:=q0_ hr;have Hl:=q0_ (fun (r:zaz) (h:r∈l)=>show (r.name.size:Int)≤9223372036854775807 by have:=hl r h;unfold maxLen at this;omega);clear hr hl;go_enter func93,ntmps93;go_wp2_with fail
 go_loop [5] (fun i=>∃ k:Nat,k≤n∧k≤few∧i=.int .i64 k) (fun i=>n-(intOf i).toNat)
 case atStart=>exact⟨0,Nat.zero_le _,Nat.zero_le _,rfl⟩
 case round=>
  obtain⟨k,hk,hk2,rfl⟩:=hrel
  by_cases hlt:k<n
  ·by_cases hlf:k<few
   ·obtain⟨ad,r,rfl,hu,d0,d1,d2⟩:=Hr.out.samp_ hlt
    have hsz:=Hl.out r (zaa hu);clear hu
    by_cases h60:60<(r.name.size:Int)
    ·go_wp2
     go_ret;exact⟨⟨false,rfl,by simp⟩,rfl⟩
    ·go_wp2
     go_round
     case rel=>exact⟨k+1,by omega,by omega,by go_num⟩
     case measure=>simp[intOf];omega
   ·have hd:((n:Int)≤(few:Int))=False:=by simp;omega
    have hfl:¬ (k:Int)<(few:Int):=by omega
    have hfd:decide ((k:Int)<(few:Int))=false:=q9_ hfl;have hfn:decide (k<few)=false:=q9_ hlf;go_wp2;go_ret;exact⟨⟨false,by simp[*]<;>omega,by simp⟩,rfl⟩
  ·obtain rfl:k=n:=by omega
   have hkd:decide (k<k)=false:=by simp
   go_wp2;go_ret;exact⟨⟨true,by simp[*]<;>omega,fun _=>hk2⟩,rfl⟩
structure OpS where
 kind:Int
 n:Int
 sa:Option Addr
 sn:Nat
 sc:Nat
 sl:List zaz
 text:ByteArray
def OpS.cells(o:OpS):List Value:=[.int .i64 o.kind,.int .i64 o.n,.slice o.sa o.sn o.sc,.string o.text]
def ze4(l:List OpS):List Value:=l.flatMap OpS.cells
structure OpS.ok(w:World)(o:OpS):Prop where
 kind: -9223372036854775808≤o.kind∧o.kind≤9223372036854775807
 n: -9223372036854775808≤o.n∧o.n≤9223372036854775807
 s:Rd w 3 o.sa o.sn (zdE o.sl)
 slen:o.sl.length=o.sn
 sle:o.sn≤o.sc
 smax:o.sc≤maxLen
 swf:∀ x∈o.sl,x.wf
 tmax:o.text.size≤maxLen
theorem zjL(o:OpS):o.cells.length=4:=rfl
theorem OpS.ok.below{w w':World}{o:OpS}(h:o.ok w)(b:Below w.heap.size w w'):o.ok w':=⟨h.kind,h.n,h.s.below b,h.slen,h.sle,h.smax,h.swf,h.tmax⟩
theorem Rd.opS{w:World}{n k:Nat}{A:Option Addr}{l:List OpS}(h:Rd w 4 A n (ze4 l))(hk:k<n):
  ∃ ad o,A=some ad∧l[k]? =some o∧w.cell? (ad.add (k*4))=some (.int .i64 o.kind)∧w.cell? ⟨(ad.add (k*4)).block,(ad.add (k*4)).off+1,none⟩=some (.int .i64 o.n)∧w.cell? ⟨(ad.add (k*4)).block,(ad.add (k*4)).off+2,none⟩=some (.slice o.sa o.sn o.sc)∧w.cell? ⟨(ad.add (k*4)).block,(ad.add (k*4)).off+3,none⟩=some (.string o.text):=by
 obtain⟨ad,s,e,hr,hc⟩:=Rd.elem zjL h hk (by decide);refine⟨ad,s,e,hr,?_,?_,?_,?_⟩
 ·have:=hc 0 _ rfl;rwa[za9] at this
 ·have:=hc 1 _ rfl;rwa[zaV _ _ (by decide)] at this
 ·have:=hc 2 _ rfl;rwa[zaV _ _ (by decide)] at this
 ·have:=hc 3 _ rfl;rwa[zaV _ _ (by decide)] at this
theorem Rd.opsS_len{w:World}{n:Nat}{A:Option Addr}{l:List OpS}(h:Rd w 4 A n (ze4 l)):l.length=n:=Rd.elems_len zjL (by decide) h
def zrA(l:List OpS)(n:Nat)(r:Ending):Prop:=∃ b,r=.returned (.bool b)∧(b=true→n≤60∧∀ o∈l,o.sn≤20∧o.text.size≤4100)
theorem zk8(l:List OpS)(A:Option Addr)(n c:Nat)(w:World)(hr:Rd w 4 A n (ze4 l))(hok:∀ o∈l,o.ok w)(hn:n≤9223372036854775807):
  Calls prog 21 #[.slice A n c] w fun r w'=>zrA l n r∧w=w':=by
 have Hr:=q0_ hr;have Hln:=q0_ hr.opsS_len;have HSo:Hid (∀ o∈l,Calls prog 93 #[.int .i64 20,.slice o.sa o.sn o.sc] w fun r w'=>zrU 20 o.sn r∧w=w'):=fun o h=>zpA 20 (by omega) o.sl (fun y hy=>((hok o h).swf y hy).2.2) o.sa o.sn o.sc w (hok o h).s (by have h1:=(hok o h).sle;have h2:=(hok o h).smax;unfold maxLen at h2;omega)
 have HTx:Hid (∀ o∈l,o.text.size≤9223372036854775807):=fun o h=>by have:=(hok o h).tmax;unfold maxLen at this;omega
 clear hr hok;go_enter func21,ntmps21;go_wp2_with fail
 go_loop [3] (fun i=>∃ k:Nat,k≤n∧k≤200∧i=.int .i64 k∧∀ j o,j<k→l[j]? =some o→o.sn≤20∧o.text.size≤4100) (fun i=>n-(intOf i).toNat)
 case atStart=>exact⟨0,Nat.zero_le _,Nat.zero_le _,rfl,fun j _ h=>absurd h (Nat.not_lt_zero _)⟩
 case round=>
  obtain⟨k,hk,hk2,rfl,hall⟩:=hrel;have Hall:=q0_ hall;clear hall
  by_cases hlt:k<n
  ·have hd:decide (k<n)=true:=qa_ hlt
   by_cases hl2:k<200
   ·have hd2:decide (k<200)=true:=qa_ hl2
    obtain⟨ad,o,rfl,ho,a0,a1,a2,a3⟩:=Hr.out.opS hlt;have H1:=q0_ (HSo.out o (zaa ho));have htx:=HTx.out o (zaa ho)
    have hkw:IntKind.i64.wrap ((k:Int)+1)=(k:Int)+1:=by simp[IntKind.wrap,IntKind.signed,IntKind.bits];omega
    have Ho:=q0_ ho;clear ho;go_wp2_with fail;refine H1.out.mono ?_;rintro r w1 ⟨⟨b,rfl,hb⟩,rfl⟩;have Hb1:=q0_ hb;clear hb H1
    cases b with
    | false=>
     go_wp2;go_ret;exact⟨⟨false,rfl,by simp⟩,rfl⟩
    | true=>
     by_cases ht:o.text.size≤4100
     ·have htd:decide (4100<(o.text.size:Int))=false:=q9_ (by omega)
      have htd2:¬ (4100:Int)<(o.text.size:Int):=by omega
      go_wp2_with fail
      go_round
      case rel=>exact⟨k+1,by omega,by omega,by go_num,fun j o' hj h=>by
       by_cases e:j=k
       ·subst e
        rw[Ho.out] at h
        cases h
        exact⟨Hb1.out (by trivial),ht⟩
       ·exact Hall.out j o' (by omega) h⟩
      case measure=>simp[intOf];omega
     ·have htd:decide (4100<(o.text.size:Int))=true:=qa_ (by omega)
      have htd2:(4100:Int)<(o.text.size:Int):=by omega
      go_wp2;go_ret;exact⟨⟨false,rfl,by simp⟩,rfl⟩
   ·obtain rfl:k=200:=by omega
    have hd5:decide ((n:Int)≤60)=false:=q9_ (by omega)
    have hd6:¬ (n:Int)≤60:=by omega
    go_wp2;go_ret;exact⟨⟨false,by first | rfl | simp[*],by simp⟩,rfl⟩
  ·obtain rfl:k=n:=by omega
   by_cases h50:k≤60
   ·have hd5:decide ((k:Int)≤60)=true:=qa_ (by omega)
    have hd6:(k:Int)≤60:=by omega
    go_wp2;go_ret
    exact⟨⟨true,by first | rfl | simp[*],fun _=>⟨h50,fun o ho=>by
     obtain⟨j,hj⟩:=List.getElem?_of_mem ho;have hjl:=(List.getElem?_eq_some_iff.1 hj).1;have hln:=Hln.out
     exact Hall.out j o (by omega) hj⟩⟩,rfl⟩
   ·have hd5:decide ((k:Int)≤60)=false:=q9_ (by omega)
    have hd6:¬ (k:Int)≤60:=by omega
    go_wp2;go_ret;exact⟨⟨false,by first | rfl | simp[*],by simp⟩,rfl⟩
end Go.Proofs.YteajonicnkpbbaaGreatDoor
