/- Walks of package grid, and of policy.within, name.letter. -/
import Derived.Test.YteajonicnkpbbaaGreatDoorChecked
import Derived.Test.YteajonicnkpbbaaGreatDoorBase
import Derived.IntWalk
namespace Go.Proofs.YteajonicnkpbbaaGreatDoor
set_option linter.all false
set_option maxRecDepth 100000
open Go.RowKit Tryz
def zav(t every:Int):Int:=
 if every<1 then t else if t.tmod every<0∧ -9223372036854775808+every≤t-t.tmod every then t-t.tmod every-every else t-t.tmod every
def zgx(t every:Int):Int:=
 if every<1 then t else if 0<t.tmod every∧t-t.tmod every≤9223372036854775807-every then t-t.tmod every+every else t-t.tmod every
theorem zd1(t every:Int)(he:1≤every): -every<t.tmod every∧t.tmod every<every∧(0≤t→0≤t.tmod every∧t.tmod every≤t)∧(t≤0→t.tmod every≤0∧t≤t.tmod every):=by
 rcases Int.le_total 0 t with h | h
 ·have e:=Int.tmod_eq_emod_of_nonneg (b:=every) h
  have h1:=Int.emod_nonneg t (show every≠0 by omega);have h2:=Int.emod_lt_of_pos t (show 0<every by omega)
  have h3:t%every≤t:=by
   have:=Int.mul_ediv_add_emod t every;have h4:=Int.ediv_nonneg h (show 0≤every by omega);have h5:=Int.mul_nonneg (show 0≤every by omega) h4;omega
  rw[e];refine⟨by omega,h2,fun _=>⟨h1,h3⟩,fun h6=>?_⟩
  have:t=0:=by omega
  subst this;simp
 ·have e0:t.tmod every= -((-t).tmod every):=by rw[Int.neg_tmod];omega
  have hn:0≤ -t:=by omega
  have e:=Int.tmod_eq_emod_of_nonneg (b:=every) hn;have h1:=Int.emod_nonneg (-t) (show every≠0 by omega);have h2:=Int.emod_lt_of_pos (-t) (show 0<every by omega)
  have h3:(-t)%every≤ -t:=by
   have:=Int.mul_ediv_add_emod (-t) every;have h4:=Int.ediv_nonneg hn (show 0≤every by omega);have h5:=Int.mul_nonneg (show 0≤every by omega) h4;omega
  rw[e0,e];refine⟨by omega,by omega,fun h6=>?_,fun _=>⟨by omega,by omega⟩⟩
  have:t=0:=by omega
  subst this;simp
theorem zoF{t e:Int}(h0: -9223372036854775808≤t)(h1:t≤9223372036854775807): -9223372036854775808≤zav t e∧zav t e≤9223372036854775807:=by
 unfold zav
 split
 ·exact⟨h0,h1⟩
 ·have:=zd1 t e (by omega)
  split<;>omega
theorem znh(t e:Int)(h0: -9223372036854775808≤t)(h1:t≤9223372036854775807)(h2: -9223372036854775808≤e)(h3:e≤9223372036854775807)(w:World):
  Calls prog 151 #[.int .i64 t,.int .i64 e] w fun r w'=>r=.returned (.int .i64 (zav t e))∧w=w':=by
 by_cases hb:e<1
 ·rw[show zav t e=t by simp[zav,hb]]
  go_enter func151,ntmps151;go_wp2_with fail
  (go_ret<;>exact⟨rfl,rfl⟩)
 ·have hm:=zd1 t e (by omega)
  generalize hr:t.tmod e=r at hm
  obtain⟨m1,m2,m3,m4⟩:=hm;have w1:wrap64 (t-r)=t-r:=IntWalk.wrap64_in _ ⟨by omega,by omega⟩;have w2:wrap64 (-9223372036854775808+e)= -9223372036854775808+e:=IntWalk.wrap64_in _ ⟨by omega,by omega⟩
  by_cases hn:r<0
  ·by_cases hk: -9223372036854775808+e≤t-r
   ·have w3:wrap64 (t-r-e)=t-r-e:=IntWalk.wrap64_in _ ⟨by omega,by omega⟩
    rw[show zav t e=t-r-e by simp[zav,hb,hr,hn,hk]];go_enter func151,ntmps151;go_wp2_with fail
    all_goals (go_ret<;>exact⟨rfl,rfl⟩)
   ·rw[show zav t e=t-r by simp[zav,hb,hr,hk]]
    go_enter func151,ntmps151;go_wp2_with fail
    all_goals (go_ret<;>exact⟨rfl,rfl⟩)
  ·rw[show zav t e=t-r by simp[zav,hb,hr,hn]]
   go_enter func151,ntmps151;go_wp2_with fail
   all_goals (go_ret<;>exact⟨rfl,rfl⟩)
def zaA(a b:Int):Bool:=decide (1≤a)&&decide (b.tmod a=0)
theorem zeh(a b:Int)(w:World):
  Calls prog 208 #[.int .i64 a,.int .i64 b] w fun r w'=>r=.returned (.bool (zaA a b))∧w=w':=by
 by_cases h1:1≤a
 ·by_cases h2:b.tmod a=0
  ·rw[show zaA a b=true by simp[zaA,h1,h2]]
   go_enter func208,ntmps208;go_wp2_with fail
   all_goals (go_ret<;>simp[*])
  ·rw[show zaA a b=false by simp[zaA,h2]]
   go_enter func208,ntmps208;go_wp2_with fail
   all_goals (go_ret<;>simp[*])
 ·rw[show zaA a b=false by simp[zaA,h1]]
  go_enter func208,ntmps208;go_wp2_with fail
  all_goals (go_ret<;>simp[*])
def zaX(n most:Int):Bool:=decide (1≤n)&&decide (n≤most)
theorem zbG(n most:Int)(w:World):
  Calls prog 168 #[.int .i64 n,.int .i64 most] w fun r w'=>r=.returned (.bool (zaX n most))∧w=w':=by
 by_cases h1:1≤n
 ·by_cases h2:n≤most
  ·rw[show zaX n most=true by simp[zaX,h1,h2]]
   go_enter func168,ntmps168;go_wp2_with fail
   all_goals (go_ret<;>simp[*])
  ·rw[show zaX n most=false by simp[zaX,h2]]
   go_enter func168,ntmps168;go_wp2_with fail
   all_goals (go_ret<;>simp[*])
 ·rw[show zaX n most=false by simp[zaX,h1]]
  go_enter func168,ntmps168;go_wp2_with fail
  all_goals (go_ret<;>simp[*])
def zch(now keep every:Int):Int:=if now<0∨keep<0∨every<1 then 0 else max (zav (now-keep) every) 0
theorem zpK{now keep every:Int}(h1:now≤9223372036854775807)(h2:keep≤9223372036854775807):0≤zch now keep every∧zch now keep every≤9223372036854775807:=by
 unfold zch
 split
 ·omega
 ·have:=zoF (t:=now-keep) (e:=every) (by omega) (by omega)
  omega
theorem znb(t k e:Int)(h0: -9223372036854775808≤t)(h1:t≤9223372036854775807)(k0: -9223372036854775808≤k)(k1:k≤9223372036854775807)(h2: -9223372036854775808≤e)(h3:e≤9223372036854775807)(w:World):
  Calls prog 166 #[.int .i64 t,.int .i64 k,.int .i64 e] w fun r w'=>r=.returned (.int .i64 (zch t k e))∧w=w':=by
 by_cases a1:t<0
 ·rw[show zch t k e=0 by simp[zch,a1]]
  go_enter func166,ntmps166;go_wp2_with fail
  all_goals (go_ret<;>exact⟨rfl,rfl⟩)
 by_cases a2:k<0
 ·rw[show zch t k e=0 by simp[zch,a2]]
  go_enter func166,ntmps166;go_wp2_with fail
  all_goals (go_ret<;>exact⟨rfl,rfl⟩)
 by_cases a3:e<1
 ·rw[show zch t k e=0 by simp[zch,a3]]
  go_enter func166,ntmps166;go_wp2_with fail
  all_goals (go_ret<;>exact⟨rfl,rfl⟩)
 ·rw[show zch t k e=max (zav (t-k) e) 0 by simp[zch,a1,a2,a3]]
  go_enter func166,ntmps166;go_wp2_with fail;refine (znh (t-k) e (by omega) (by omega) h2 h3 _).mono ?_;rintro r w1 ⟨rfl,rfl⟩;go_wp2_with fail
  all_goals (go_ret<;>simp[*]<;>omega)
def zck(c:Int):Bool:=decide (97≤c∧c≤122)||decide (48≤c∧c≤57)||decide (c=46)||decide (c=95)||decide (c=45)
theorem zho(c:Int)(h0:0≤c)(h1:c≤255)(w:World):
  Calls prog 205 #[.int .u8 c] w fun r w'=>r=.returned (.bool (zck c))∧w=w':=by
 go_enter func205,ntmps205;go_wp2_with fail
 all_goals (go_ret<;>refine⟨congrArg (fun b=>Ending.returned (.bool b)) ?_,rfl⟩<;>(rw[Bool.eq_iff_iff];simp[zck]<;>omega))
def letters(l:List UInt8):Bool:=l.all fun c=>zck (c.toNat:Int)
def zau(s:ByteArray):Bool:=decide (1≤s.size)&&decide (s.size≤15)&&letters s.data.toList
theorem zao{α:Type}{p:α→Bool}{l:List α}{k:Nat}{x:α}(h:l[k]? =some x)(ha:(l.take k).all p=true):(l.take (k+1)).all p=p x:=by
 rw[zan h,List.all_append,ha];simp
theorem zaR{α:Type}{p:α→Bool}{l:List α}{k:Nat}(ha:(l.take k).all p=false):l.all p=false:=by
 rw[List.all_eq_false] at ha ⊢;obtain⟨x,hx,h⟩:=ha;exact⟨x,List.mem_of_mem_take hx,h⟩
theorem zj6{x:ByteArray}{j:Nat}(h:j<x.size):x.data.toList[j]? =some x[j]:=by
 have hl:j<x.data.size:=h;rw[Array.getElem?_toList,Array.getElem?_eq_getElem hl]
 rfl
theorem zf_{x:ByteArray}(h:x.size<1):zau x=false:=by unfold zau;rw[q9_ (show ¬ 1≤x.size by omega)];rfl
theorem zdZ{x:ByteArray}(h:15<x.size):zau x=false:=by unfold zau;rw[q9_ (show ¬ x.size≤15 by omega)];simp
theorem zl6(l:List ByteArray)(A:Option Addr)(n c:Nat)(w:World)(hr:Rd w 1 A n (l.map Value.string))(hn:n≤1099511627776)(hsz:∀ s∈l,s.size≤maxLen):
  Calls prog 167 #[.slice A n c] w fun r w'=>r=.returned (.bool (l.all zau))∧w=w':=by
 have Hsz:=q0_ hsz;have Hlen:=q0_ hr.len_map;clear hsz;go_enter func167,ntmps167;go_wp2_with fail
 go_loopw [8] (fun i wr=>∃ k:Nat,k≤n∧i=.int .i64 k∧w=wr∧Hid ((l.take k).all zau=true)) (fun i _=>n-(intOf i).toNat)
 case atStart=>exact⟨0,Nat.zero_le _,rfl,rfl,rfl⟩
 case round=>
  obtain⟨k,hk,rfl,rfl,ha⟩:=hrel
  by_cases hlt:k<n
  ·obtain⟨ad,x,rfl,hu,hc⟩:=hr.at_map hlt
   have Hu:=q0_ hu;have Hx:=q0_ (Hsz.out x (zab hu));clear hu
   by_cases h1:x.size<1
   ·have g1:(x.size:Int)<1:=by omega
    have e:l.all zau=false:=zaR (k:=k+1) (by rw[zao Hu.out ha.out,zf_ h1]);have E:=q0_ e;clear e;go_wp2;go_ret;exact⟨by rw[E.out];rfl,rfl⟩
   by_cases h2:15<x.size
   ·have g1:(1:Int)≤(x.size:Int):=by omega
    have g2:(15:Int)<(x.size:Int):=by omega
    have e:l.all zau=false:=zaR (k:=k+1) (by rw[zao Hu.out ha.out,zdZ h2]);have E:=q0_ e;clear e;go_wp2;go_ret;exact⟨by rw[E.out];rfl,rfl⟩
   ·have g1:(1:Int)≤(x.size:Int):=by omega
    have g2:(x.size:Int)≤15:=by omega
    go_wp2_with fail
    go_loopw [22] (fun i wr=>∃ j:Nat,j≤x.size∧i=.int .i64 j∧w=wr∧Hid (letters (x.data.toList.take j)=true)) (fun i _=>x.size-(intOf i).toNat)
    case atStart=>exact⟨0,Nat.zero_le _,rfl,rfl,rfl⟩
    case round=>
     obtain⟨j,hj,rfl,rfl,hb⟩:=hrel
     by_cases hlj:j<x.size
     ·have hb1:x[j].toNat<256:=x[j].toNat_lt
      by_cases hlet:zck (x[j].toNat:Int)=true
      ·have Hlet:=q0_ hlet
       clear hlet;go_wp2_with fail;refine (zho _ (by omega) (by omega) _).mono ?_;rw[Hlet.out];rintro r w1 ⟨rfl,rfl⟩;go_wp2
       go_roundw
       case rel=>exact⟨j+1,by omega,by go_num,by trivial,by show letters _=true;unfold letters;rw[zao (zj6 hlj) hb.out];exact Hlet.out⟩
       case measure=>simp[intOf];omega
      ·have e:l.all zau=false:=zaR (k:=k+1) (by
        rw[zao Hu.out ha.out];unfold zau
        rw[show letters x.data.toList=false from zaR (k:=j+1) (by rw[zao (zj6 hlj) hb.out];simpa using hlet)];simp)
       have E:=q0_ e;have Hlet:=q0_ (show zck (x[j].toNat:Int)=false by simpa using hlet);clear e hlet;go_wp2_with fail;refine (zho _ (by omega) (by omega) _).mono ?_;rw[Hlet.out];rintro r w1 ⟨rfl,rfl⟩;go_wp2;go_ret;exact⟨by rw[E.out];rfl,rfl⟩
     ·obtain rfl:j=x.size:=by omega
      go_wp2
      go_roundw
      case rel=>exact⟨k+1,by omega,by go_num,by trivial,by
       show (l.take (k+1)).all zau=true
       rw[zao Hu.out ha.out];unfold zau;have hbb:=hb.out;rw[zbh (by rw[zcz];exact Nat.le_refl _)] at hbb
       rw[hbb];simp;omega⟩
      case measure=>simp[intOf];omega
  ·go_wp2
   go_ret
   obtain rfl:k=n:=by omega
   have:=ha.out;rw[zbh (by have:=Hlen.out;omega)] at this;exact⟨by rw[this];rfl,rfl⟩
def zif(v:Int)(b:UInt8):Int:=bits BinOp.xor IntKind.u32 v (b.toNat:Int)*16777619%4294967296
def zgN(l:List UInt8):Int:=l.foldl zif 2166136261
theorem zlE(l:List UInt8)(b:UInt8):zgN (l++[b])=zif (zgN l) b:=by simp[zgN]
theorem zoy(l:List UInt8):0≤zgN l∧zgN l≤4294967295:=by
 rcases List.eq_nil_or_concat l with rfl | ⟨t,b,rfl⟩
 ·decide
 ·rw[List.concat_eq_append,zlE];unfold zif;omega
def zfd(s:ByteArray)(n:Int):Int:=if n<1 then 0 else (zgN s.data.toList)%n
end Go.Proofs.YteajonicnkpbbaaGreatDoor
