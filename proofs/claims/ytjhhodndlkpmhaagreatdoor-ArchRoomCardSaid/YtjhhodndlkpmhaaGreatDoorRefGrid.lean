/- Walk of sedimentref1.Name. -/
import Derived.WalkKit
import Derived.ProofKit
import Derived.OpenShut
import Derived.ShutString
import Derived.ChangeOld
import Derived.Lay
import Derived.LaidOnce
import Derived.SevenTiedAt
import Derived.SliceStrings
import Derived.Deep.Slices
import Derived.ChangeArms
import Derived.Test.YtjhhodndlkpmhaaGreatDoorSame
namespace Go.Proofs.YtjhhodndlkpmhaaGreatDoor
set_option linter.all false
open Go.RowKit Tryz
open Go.Lib (decDigits itoa)
theorem zoY{u:Nat}(h:u<10):decDigits u=[UInt8.ofNat (48+u)]:=by rw[decDigits,dif_pos h]
theorem zrN{u:Nat}(h:¬ u<10):decDigits u=decDigits (u / 10)++[UInt8.ofNat (48+u%10)]:=by rw[decDigits,dif_neg h]
theorem zhS(k u:Nat)(hk:1≤k)(h:u<10 ^ k):(decDigits u).length≤k:=by
 induction k generalizing u with
 | zero=>omega
 | succ k ih=>
  by_cases hu:u<10
  ·rw[zoY hu];simp
  ·rw[zrN hu,q8_,List.length_singleton]
   have hk1:1≤k:=by
    rcases Nat.eq_zero_or_pos k with h0 | h0
    ·subst h0;simp at h;omega
    ·exact h0
   have:=ih (u / 10) hk1 (by rw[Nat.pow_succ] at h;omega);omega
theorem zql(u:Nat):itoa (u:Int)=decDigits u:=by unfold itoa;rw[if_neg (by omega)];simp
theorem zqm(u:Nat)(h:1≤u):itoa (-(u:Int))=45::decDigits u:=by unfold itoa;rw[if_pos (by omega)];simp
theorem zio(v:Int)(h0: -9223372036854775808≤v)(h1:v≤9223372036854775807):(itoa v).length≤20:=by
 have e19:(10:Nat) ^ 19=10000000000000000000:=by decide
 rcases Int.lt_or_le v 0 with hv | hv
 ·obtain⟨u,rfl⟩:∃ u:Nat,v= -(u:Int):=⟨v.natAbs,by omega⟩
  rw[zqm u (by omega)];have:=zhS 19 u (by decide) (by omega);simp only[List.length_cons];omega
 ·obtain⟨u,rfl⟩:=Int.eq_ofNat_of_zero_le hv
  rw[zql];have:=zhS 19 u (by decide) (by omega);omega
open Go.ChangeShapes Go.WideShapes Go.ChangeAt Go.RowKit
theorem tab_of_laid{P:Program}{W:World}{name:String}{k:IntKind}{zs:List Int}{g:Nat}{t e:TypeId}{n:Nat}
  (hg:P.globalNamed name=some g) (hty:(P.globals[g]?).map (·.type)=some t) (ht:P.underlying t=some (.array n e)) (he:P.underlying e=some (.int k)) (hce:P.cellsOf e=1) (hct:P.cellsOf t=n):
  ∀ {l:List (String×DataW Unit)} {ps:List MemPlace},DataW.LaidVars P W l ps→(name,Lib.tabData k zs)∈l→Lib.TabIs P W name k zs
 | [],_,_,hm=>by cases hm
 | (n',d')::r,ps,h,hm=>by
  obtain⟨g',t',cs,fuel,p,q,hg',ht',hvar,hd,hr,_⟩:=h
  rcases List.mem_cons.1 hm with e1 | hm
  ·injection e1 with e1 e2
   subst e1 e2;obtain rfl:=Option.some.inj (hg.symm.trans hg');obtain rfl:=Option.some.inj (hty.symm.trans ht');unfold Lib.TabIs;rw[hvar, ← Lib.cells_of_tab ht he hce hct hd]
  ·exact tab_of_laid hg hty ht he hce hct hr hm
theorem zr5{x:Int}(h:(Lit.int .i64 x).wf=true): -9223372036854775808≤x∧x≤9223372036854775807:=by
 simpa[Lit.wf,IntKind.min,IntKind.max,IntKind.signed,IntKind.bits] using h
def Dat(P:Program)(w:World)(t:TypeId)(cs:List Value):Prop:=
 ∃ (H:Type) (enc:TypeId×Value→H) (fuel:Nat) (x:DataW H×List MemPlace),DataW.trod enc P w 0 (fun _=>true) true fuel t cs=some x
section
variable {P:Program} {w:World} {t e:TypeId} {cs:List Value}
theorem Dat.of{H:Type}{enc:TypeId×Value→H}{v:Value}{d:DataW H}{ps:List MemPlace}(h:DataW.Trod enc P w 0 (fun _=>true) true t v d ps):Dat P w t v.cells.toList:=by
 obtain⟨f,hf⟩:=h;exact⟨H,enc,f,_,hf⟩
theorem Dat.int_{k:IntKind}(ht:P.underlying t=some (.int k))(h:Dat P w t cs):∃ n,cs=[.int k n]∧(Lit.int k n).wf=true:=by
 obtain⟨H,enc,f,x,hf⟩:=h;obtain⟨n,h1,_,h2⟩:=DataW.trod_int ht hf;exact⟨n,h1,h2⟩
theorem Dat.i64_(ht:P.underlying t=some (.int .i64))(h:Dat P w t cs):∃ n,cs=[.int .i64 n]∧ -9223372036854775808≤n∧n≤9223372036854775807:=by
 obtain⟨n,h1,h2⟩:=h.int_ ht;exact⟨n,h1,zr5 h2⟩
theorem Dat.str_(ht:P.underlying t=some .string)(h:Dat P w t cs):∃ s:ByteArray,cs=[.string s]∧s.size≤maxLen:=by
 obtain⟨H,enc,f,x,hf⟩:=h;obtain⟨s,h1,_,h2⟩:=DataW.trod_string ht hf;exact⟨s,h1,h2⟩
theorem Dat.struct_{fs:Array Field}(ht:P.underlying t=some (.struct fs))(h:Dat P w t cs):
  cs.length=P.cellsOf t∧∀ (i:Nat) (f:Field),fs[i]? =some f→Dat P w f.type ((cs.drop f.offset).take (P.cellsOf f.type)):=by
 obtain⟨H,enc,f,x,hf⟩:=h;obtain⟨xs,n,_,_,hl,hx,hfs⟩:=DataW.trod_struct ht hf;refine⟨hl,fun i g hg=>?_⟩
 have hi:i<xs.length:=by rw[hx];exact (Array.getElem?_eq_some_iff.1 hg).1
 exact⟨H,enc,n,xs[i],by rw[hfs i g hg,q6_ hi]⟩
theorem Dat.len_{fs:Array Field}{size:Nat}(ht:P.underlying t=some (.struct fs))(hs:P.cellsOf t=size)(h:Dat P w t cs):cs.length=size:=hs▸(h.struct_ ht).1
theorem Dat.field_{fs:Array Field}{f:Field}(ht:P.underlying t=some (.struct fs))(i off size:Nat)(hg:fs[i]? =some f)(ho:f.offset=off)(hs:P.cellsOf f.type=size)(h:Dat P w t cs):Dat P w f.type ((cs.drop off).take size):=by
 have:=(h.struct_ ht).2 i f hg;rwa[ho,hs] at this
theorem Dat.slice_{size:Nat}(ht:P.underlying t=some (.slice e))(hs:P.cellsOf e=size)(h:Dat P w t cs):
  ∃ A n c,cs=[.slice A n c]∧n≤c∧c≤maxLen∧(A=none→n=0)∧∀ ad,A=some ad→∀ i<n,∃ cs',cs'.length=size∧Dat P w e cs'∧∀ j u,cs'[j]? =some u→w.cell? (ad.add (i*size+j))=some u:=by
 obtain⟨H,enc,f,x,hf⟩:=h
 rcases Go.Deep.open_slice ht hf with ⟨h1,_⟩ | ⟨a,len,cap,m,n,D,Pl,h1,hb,hl,hm,hmm,_,hx⟩
 ·exact⟨none,0,0,h1,Nat.le_refl _,Nat.zero_le _,fun _=>rfl,(fun ad h=>by cases h)⟩
 ·refine⟨some a,len,cap,h1,hl,hm,(fun h=>by cases h),fun ad e1 i hi=>?_⟩
  injection e1 with e1
  subst e1;obtain⟨cs',h2,h3⟩:=hx i (by rw[hmm];simp only[if_true];omega);obtain⟨_,hlen,hc⟩:=World.cells?_some h2;rw[hs] at hlen hc h2;refine⟨cs',hlen,⟨H,enc,n,_,h3⟩,fun j u hu=>?_⟩
  have hj:j<size:=by rw[← hlen];exact (List.getElem?_eq_some_iff.1 hu).1
  rw[← zcy,hc j hj,hu]
theorem Dat.rows_{α:Type}{size:Nat}(f:α→List Value)(ok:α→Prop)(ht:P.underlying t=some (.slice e))(hs:P.cellsOf e=size)
  (hel:∀ cs',Dat P w e cs'→∃ x,cs'=f x∧ok x) (h:Dat P w t cs):
  ∃ A n c,∃ l:List α,cs=[.slice A n c]∧Rd w size A n (l.flatMap f)∧l.length=n∧n≤c∧c≤maxLen∧∀ x∈l,ok x:=by
 obtain⟨A,n,c,rfl,hn,hc,hnil,hx⟩:=h.slice_ ht hs
 have key:∀ k≤n,∃ l:List α,l.length=k∧(l.flatMap f).length=k*size∧(∀ x∈l,ok x)∧∀ ad,A=some ad→∀ j u,(l.flatMap f)[j]? =some u→w.cell? (ad.add j)=some u:=by
  intro k
  induction k with
  | zero=>exact fun _=>⟨[],rfl,by simp,by simp,fun _ _ j u hu=>by simp at hu⟩
  | succ k ih=>
   intro hk;obtain⟨l,h1,h2,h3,h4⟩:=ih (by omega)
   cases hA:A with
   | none=>have:=hnil hA;omega
   | some ad=>
    obtain⟨cs',h5,h6,h7⟩:=hx ad hA k (by omega);obtain⟨x,rfl,hok⟩:=hel _ h6;refine⟨l++[x],by simp[h1],by rw[List.flatMap_append,q8_,h2,Nat.succ_mul];simp[h5],fun y hy=>?_,fun ad' e1 j u hu=>?_⟩
    ·rcases List.mem_append.1 hy with hy | hy
     ·exact h3 y hy
     ·rw[List.mem_singleton] at hy;subst hy;exact hok
    ·injection e1 with e1
     subst e1;rw[List.flatMap_append] at hu
     by_cases hj:j<(l.flatMap f).length
     ·rw[List.getElem?_append_left hj] at hu
      exact h4 ad hA j u hu
     ·rw[List.getElem?_append_right (by omega)] at hu
      simp only[List.flatMap_cons,List.flatMap_nil,List.append_nil] at hu;have:=h7 _ u hu;rwa[show k*size+(j-(l.flatMap f).length)=j by omega] at this
 obtain⟨l,h1,h2,h3,h4⟩:=key n (Nat.le_refl _);refine⟨A,n,c,l,rfl,⟨h2,fun h0=>?_⟩,h1,hn,hc,h3⟩
 cases hA:A with
 | none=>have:=hnil hA;omega
 | some ad=>exact⟨ad,rfl,h4 ad hA⟩
end
theorem zqy{w:World}{cs:List Value}(h:Dat prog w 84 cs):∃ r:zas,cs=r.cells∧r.wf:=by
 have hl:=h.len_ underlying84 (show prog.cellsOf 84=3 by kernel_rfl)
 match cs,hl with
 | [c0,c1,c2],_=>
  obtain⟨s,h0,w0⟩:=(h.field_ underlying84 0 0 1 rfl rfl (by kernel_rfl)).str_ underlying9;obtain⟨a,h1,w1⟩:=(h.field_ underlying84 1 1 1 rfl rfl (by kernel_rfl)).i64_ underlying3;obtain⟨b,h2,w2⟩:=(h.field_ underlying84 2 2 1 rfl rfl (by kernel_rfl)).i64_ underlying3;simp at h0 h1 h2;subst h0 h1 h2;exact⟨⟨s,a,b⟩,rfl,w1,w2,w0⟩
theorem in_samps{H:Type}{enc:TypeId×Value→H}{w:World}{A:Option Addr}{n c:Nat}{d:DataW H}{ps:List MemPlace}(h:DataW.Trod enc prog w 0 (fun _=>true) true 34 (.slice A n c) d ps):
  ∃ l:List zas,Rd w 3 A n (zdz l)∧l.length=n∧n≤c∧c≤maxLen∧∀ r∈l,r.wf:=by
 have h:=Dat.of h;simp only[Value.cells] at h;obtain⟨A',n',c',l,e,r1,r2,r3,r4,r5⟩:=Dat.rows_ (t:=34) zas.cells zas.wf underlying34 (show prog.cellsOf 84=3 by kernel_rfl) (fun _ h=>zqy h) h;simp at e;obtain⟨rfl,rfl,rfl⟩:=e;exact⟨l,r1,r2,r3,r4,r5⟩
end Go.Proofs.YtjhhodndlkpmhaaGreatDoor
