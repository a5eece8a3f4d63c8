/- Walks of package grid, and of policy.within, name.letter. -/
import Derived.Test.YtjhhodndlkpmhaaGreatDoorChecked
import Derived.Test.YtjhhodndlkpmhaaGreatDoorBase
import Derived.IntWalk
namespace Go.Proofs.YtjhhodndlkpmhaaGreatDoor
set_option linter.all false
set_option maxRecDepth 100000
open Go.RowKit Tryz
def zaq(t every:Int):Int:=
 if every<1 then t else if t.tmod every<0∧ -9223372036854775808+every≤t-t.tmod every then t-t.tmod every-every else t-t.tmod every
def zcK(t every:Int):Int:=
 if every<1 then t else if 0<t.tmod every∧t-t.tmod every≤9223372036854775807-every then t-t.tmod every+every else t-t.tmod every
theorem zdG(t every:Int)(he:1≤every): -every<t.tmod every∧t.tmod every<every∧(0≤t→0≤t.tmod every∧t.tmod every≤t)∧(t≤0→t.tmod every≤0∧t≤t.tmod every):=by
 rcases Int.le_total 0 t with h | h
 ·have e:=Int.tmod_eq_emod_of_nonneg (b:=every) h
  have h1:=Int.emod_nonneg t (show every≠0 by omega);have h2:=Int.emod_lt_of_pos t (show 0<every by omega)
  have h3:t%every≤t:=by
   have:=Int.mul_ediv_add_emod t every;have h4:=Int.ediv_nonneg h (show 0≤every by omega);have h5:=Int.mul_nonneg (show 0≤every by omega) h4;omega
  rw[e];refine⟨by omega,h2,fun _=>⟨h1,h3⟩,fun h6=>?_⟩
  have:t=0:=by omega
  subst this;simp
 ·have e0:t.tmod every= -((-t).tmod every):=by rw[Int.neg_tmod];omega
  have hn:0≤ -t:=by omega
  have e:=Int.tmod_eq_emod_of_nonneg (b:=every) hn;have h1:=Int.emod_nonneg (-t) (show every≠0 by omega);have h2:=Int.emod_lt_of_pos (-t) (show 0<every by omega)
  have h3:(-t)%every≤ -t:=by
   have:=Int.mul_ediv_add_emod (-t) every;have h4:=Int.ediv_nonneg hn (show 0≤every by omega);have h5:=Int.mul_nonneg (show 0≤every by omega) h4;omega
  rw[e0,e];refine⟨by omega,by omega,fun h6=>?_,fun _=>⟨by omega,by omega⟩⟩
  have:t=0:=by omega
  subst this;simp
theorem zf3{t e:Int}(h0: -9223372036854775808≤t)(h1:t≤9223372036854775807): -9223372036854775808≤zaq t e∧zaq t e≤9223372036854775807:=by
 unfold zaq
 split
 ·exact⟨h0,h1⟩
 ·have:=zdG t e (by omega)
  split<;>omega
theorem zeU(t e:Int)(h0: -9223372036854775808≤t)(h1:t≤9223372036854775807)(h2: -9223372036854775808≤e)(h3:e≤9223372036854775807)(w:World):
  Calls prog 91 #[.int .i64 t,.int .i64 e] w fun r w'=>r=.returned (.int .i64 (zaq t e))∧w=w':=by
 by_cases hb:e<1
 ·rw[show zaq t e=t by simp[zaq,hb]]
  go_enter func91,ntmps91;go_wp2_with fail
  (go_ret<;>exact⟨rfl,rfl⟩)
 ·have hm:=zdG t e (by omega)
  generalize hr:t.tmod e=r at hm
  obtain⟨m1,m2,m3,m4⟩:=hm;have w1:wrap64 (t-r)=t-r:=IntWalk.wrap64_in _ ⟨by omega,by omega⟩;have w2:wrap64 (-9223372036854775808+e)= -9223372036854775808+e:=IntWalk.wrap64_in _ ⟨by omega,by omega⟩
  by_cases hn:r<0
  ·by_cases hk: -9223372036854775808+e≤t-r
   ·have w3:wrap64 (t-r-e)=t-r-e:=IntWalk.wrap64_in _ ⟨by omega,by omega⟩
    rw[show zaq t e=t-r-e by simp[zaq,hb,hr,hn,hk]];go_enter func91,ntmps91;go_wp2_with fail
    all_goals (go_ret<;>exact⟨rfl,rfl⟩)
   ·rw[show zaq t e=t-r by simp[zaq,hb,hr,hk]]
    go_enter func91,ntmps91;go_wp2_with fail
    all_goals (go_ret<;>exact⟨rfl,rfl⟩)
  ·rw[show zaq t e=t-r by simp[zaq,hb,hr,hn]]
   go_enter func91,ntmps91;go_wp2_with fail
   all_goals (go_ret<;>exact⟨rfl,rfl⟩)
theorem zqF(t e:Int)(h0: -9223372036854775808≤t)(h1:t≤9223372036854775807)(h2: -9223372036854775808≤e)(h3:e≤9223372036854775807)(w:World):
  Calls prog 166 #[.int .i64 t,.int .i64 e] w fun r w'=>r=.returned (.int .i64 (zcK t e))∧w=w':=by
 by_cases hb:e<1
 ·rw[show zcK t e=t by simp[zcK,hb]]
  go_enter func166,ntmps166;go_wp2_with fail
  all_goals (go_ret<;>exact⟨rfl,rfl⟩)
 ·have hm:=zdG t e (by omega)
  generalize hr:t.tmod e=r at hm
  obtain⟨m1,m2,m3,m4⟩:=hm;have w1:wrap64 (t-r)=t-r:=IntWalk.wrap64_in _ ⟨by omega,by omega⟩;have w2:wrap64 (9223372036854775807-e)=9223372036854775807-e:=IntWalk.wrap64_in _ ⟨by omega,by omega⟩
  by_cases hn:0<r
  ·by_cases hk:t-r≤9223372036854775807-e
   ·have w3:wrap64 (t-r+e)=t-r+e:=IntWalk.wrap64_in _ ⟨by omega,by omega⟩
    rw[show zcK t e=t-r+e by simp[zcK,hb,hr,hn,hk]];go_enter func166,ntmps166;go_wp2_with fail
    all_goals (go_ret<;>exact⟨rfl,rfl⟩)
   ·rw[show zcK t e=t-r by simp[zcK,hb,hr,hk]]
    go_enter func166,ntmps166;go_wp2_with fail
    all_goals (go_ret<;>exact⟨rfl,rfl⟩)
  ·rw[show zcK t e=t-r by simp[zcK,hb,hr,hn]]
   go_enter func166,ntmps166;go_wp2_with fail
   all_goals (go_ret<;>exact⟨rfl,rfl⟩)
def zau(a b:Int):Bool:=decide (1≤a)&&decide (b.tmod a=0)
theorem zcF(a b:Int)(w:World):
  Calls prog 163 #[.int .i64 a,.int .i64 b] w fun r w'=>r=.returned (.bool (zau a b))∧w=w':=by
 by_cases h1:1≤a
 ·by_cases h2:b.tmod a=0
  ·rw[show zau a b=true by simp[zau,h1,h2]]
   go_enter func163,ntmps163;go_wp2_with fail
   all_goals (go_ret<;>simp[*])
  ·rw[show zau a b=false by simp[zau,h2]]
   go_enter func163,ntmps163;go_wp2_with fail
   all_goals (go_ret<;>simp[*])
 ·rw[show zau a b=false by simp[zau,h1]]
  go_enter func163,ntmps163;go_wp2_with fail
  all_goals (go_ret<;>simp[*])
def zbn(n most:Int):Bool:=decide (1≤n)&&decide (n≤most)
theorem zby(n most:Int)(w:World):
  Calls prog 126 #[.int .i64 n,.int .i64 most] w fun r w'=>r=.returned (.bool (zbn n most))∧w=w':=by
 by_cases h1:1≤n
 ·by_cases h2:n≤most
  ·rw[show zbn n most=true by simp[zbn,h1,h2]]
   go_enter func126,ntmps126;go_wp2_with fail
   all_goals (go_ret<;>simp[*])
  ·rw[show zbn n most=false by simp[zbn,h2]]
   go_enter func126,ntmps126;go_wp2_with fail
   all_goals (go_ret<;>simp[*])
 ·rw[show zbn n most=false by simp[zbn,h1]]
  go_enter func126,ntmps126;go_wp2_with fail
  all_goals (go_ret<;>simp[*])
def zcu(now keep every:Int):Int:=if now<0∨keep<0∨every<1 then 0 else max (zaq (now-keep) every) 0
theorem zrW{now keep every:Int}(h1:now≤9223372036854775807)(h2:keep≤9223372036854775807):0≤zcu now keep every∧zcu now keep every≤9223372036854775807:=by
 unfold zcu
 split
 ·omega
 ·have:=zf3 (t:=now-keep) (e:=every) (by omega) (by omega)
  omega
theorem zoM(t k e:Int)(h0: -9223372036854775808≤t)(h1:t≤9223372036854775807)(k0: -9223372036854775808≤k)(k1:k≤9223372036854775807)(h2: -9223372036854775808≤e)(h3:e≤9223372036854775807)(w:World):
  Calls prog 131 #[.int .i64 t,.int .i64 k,.int .i64 e] w fun r w'=>r=.returned (.int .i64 (zcu t k e))∧w=w':=by
 by_cases a1:t<0
 ·rw[show zcu t k e=0 by simp[zcu,a1]]
  go_enter func131,ntmps131;go_wp2_with fail
  all_goals (go_ret<;>exact⟨rfl,rfl⟩)
 by_cases a2:k<0
 ·rw[show zcu t k e=0 by simp[zcu,a2]]
  go_enter func131,ntmps131;go_wp2_with fail
  all_goals (go_ret<;>exact⟨rfl,rfl⟩)
 by_cases a3:e<1
 ·rw[show zcu t k e=0 by simp[zcu,a3]]
  go_enter func131,ntmps131;go_wp2_with fail
  all_goals (go_ret<;>exact⟨rfl,rfl⟩)
 ·rw[show zcu t k e=max (zaq (t-k) e) 0 by simp[zcu,a1,a2,a3]]
  go_enter func131,ntmps131;go_wp2_with fail;refine (zeU (t-k) e (by omega) (by omega) h2 h3 _).mono ?_;rintro r w1 ⟨rfl,rfl⟩;go_wp2_with fail
  all_goals (go_ret<;>simp[*]<;>omega)
def zgK(c:Int):Bool:=decide (97≤c∧c≤122)||decide (48≤c∧c≤57)||decide (c=46)||decide (c=95)||decide (c=45)
theorem zhH(c:Int)(h0:0≤c)(h1:c≤255)(w:World):
  Calls prog 160 #[.int .u8 c] w fun r w'=>r=.returned (.bool (zgK c))∧w=w':=by
 go_enter func160,ntmps160;go_wp2_with fail
 all_goals (go_ret<;>refine⟨congrArg (fun b=>Ending.returned (.bool b)) ?_,rfl⟩<;>(rw[Bool.eq_iff_iff];simp[zgK]<;>omega))
def letters(l:List UInt8):Bool:=l.all fun c=>zgK (c.toNat:Int)
def zaD(s:ByteArray):Bool:=decide (1≤s.size)&&decide (s.size≤15)&&letters s.data.toList
theorem zax{α:Type}{p:α→Bool}{l:List α}{k:Nat}{x:α}(h:l[k]? =some x)(ha:(l.take k).all p=true):(l.take (k+1)).all p=p x:=by
 rw[zan h,List.all_append,ha];simp
theorem zaX{α:Type}{p:α→Bool}{l:List α}{k:Nat}(ha:(l.take k).all p=false):l.all p=false:=by
 rw[List.all_eq_false] at ha ⊢;obtain⟨x,hx,h⟩:=ha;exact⟨x,List.mem_of_mem_take hx,h⟩
theorem zfC{x:ByteArray}{j:Nat}(h:j<x.size):x.data.toList[j]? =some x[j]:=by
 have hl:j<x.data.size:=h;rw[Array.getElem?_toList,Array.getElem?_eq_getElem hl]
 rfl
theorem ziM{x:ByteArray}(h:x.size<1):zaD x=false:=by unfold zaD;rw[q9_ (show ¬ 1≤x.size by omega)];rfl
theorem zg_{x:ByteArray}(h:15<x.size):zaD x=false:=by unfold zaD;rw[q9_ (show ¬ x.size≤15 by omega)];simp
theorem zns(l:List ByteArray)(A:Option Addr)(n c:Nat)(w:World)(hr:Rd w 1 A n (l.map Value.string))(hn:n≤1099511627776)(hsz:∀ s∈l,s.size≤maxLen):
  Calls prog 125 #[.slice A n c] w fun r w'=>r=.returned (.bool (l.all zaD))∧w=w':=by
 have Hsz:=q0_ hsz;have Hlen:=q0_ hr.len_map;clear hsz;go_enter func125,ntmps125;go_wp2_with fail
 go_loopw [8] (fun i wr=>∃ k:Nat,k≤n∧i=.int .i64 k∧w=wr∧Hid ((l.take k).all zaD=true)) (fun i _=>n-(intOf i).toNat)
 case atStart=>exact⟨0,Nat.zero_le _,rfl,rfl,rfl⟩
 case round=>
  obtain⟨k,hk,rfl,rfl,ha⟩:=hrel
  by_cases hlt:k<n
  ·obtain⟨ad,x,rfl,hu,hc⟩:=hr.at_map hlt
   have Hu:=q0_ hu;have Hx:=q0_ (Hsz.out x (zab hu));clear hu
   by_cases h1:x.size<1
   ·have g1:(x.size:Int)<1:=by omega
    have e:l.all zaD=false:=zaX (k:=k+1) (by rw[zax Hu.out ha.out,ziM h1]);have E:=q0_ e;clear e;go_wp2;go_ret;exact⟨by rw[E.out];rfl,rfl⟩
   by_cases h2:15<x.size
   ·have g1:(1:Int)≤(x.size:Int):=by omega
    have g2:(15:Int)<(x.size:Int):=by omega
    have e:l.all zaD=false:=zaX (k:=k+1) (by rw[zax Hu.out ha.out,zg_ h2]);have E:=q0_ e;clear e;go_wp2;go_ret;exact⟨by rw[E.out];rfl,rfl⟩
   ·have g1:(1:Int)≤(x.size:Int):=by omega
    have g2:(x.size:Int)≤15:=by omega
    go_wp2_with fail
    go_loopw [22] (fun i wr=>∃ j:Nat,j≤x.size∧i=.int .i64 j∧w=wr∧Hid (letters (x.data.toList.take j)=true)) (fun i _=>x.size-(intOf i).toNat)
    case atStart=>exact⟨0,Nat.zero_le _,rfl,rfl,rfl⟩
    case round=>
     obtain⟨j,hj,rfl,rfl,hb⟩:=hrel
     by_cases hlj:j<x.size
     ·have hb1:x[j].toNat<256:=x[j].toNat_lt
      by_cases hlet:zgK (x[j].toNat:Int)=true
      ·have Hlet:=q0_ hlet
       clear hlet;go_wp2_with fail;refine (zhH _ (by omega) (by omega) _).mono ?_;rw[Hlet.out];rintro r w1 ⟨rfl,rfl⟩;go_wp2
       go_roundw
       case rel=>exact⟨j+1,by omega,by go_num,by trivial,by show letters _=true;unfold letters;rw[zax (zfC hlj) hb.out];exact Hlet.out⟩
       case measure=>simp[intOf];omega
      ·have e:l.all zaD=false:=zaX (k:=k+1) (by
        rw[zax Hu.out ha.out];unfold zaD
        rw[show letters x.data.toList=false from zaX (k:=j+1) (by rw[zax (zfC hlj) hb.out];simpa using hlet)];simp)
       have E:=q0_ e;have Hlet:=q0_ (show zgK (x[j].toNat:Int)=false by simpa using hlet);clear e hlet;go_wp2_with fail;refine (zhH _ (by omega) (by omega) _).mono ?_;rw[Hlet.out];rintro r w1 ⟨rfl,rfl⟩;go_wp2;go_ret;exact⟨by rw[E.out];rfl,rfl⟩
     ·obtain rfl:j=x.size:=by omega
      go_wp2
      go_roundw
      case rel=>exact⟨k+1,by omega,by go_num,by trivial,by
       show (l.take (k+1)).all zaD=true
       rw[zax Hu.out ha.out];unfold zaD;have hbb:=hb.out;rw[za3 (by rw[zbj];exact Nat.le_refl _)] at hbb
       rw[hbb];simp;omega⟩
      case measure=>simp[intOf];omega
  ·go_wp2
   go_ret
   obtain rfl:k=n:=by omega
   have:=ha.out;rw[za3 (by have:=Hlen.out;omega)] at this;exact⟨by rw[this];rfl,rfl⟩
def zit(v:Int)(b:UInt8):Int:=bits BinOp.xor IntKind.u32 v (b.toNat:Int)*16777619%4294967296
def zeo(l:List UInt8):Int:=l.foldl zit 2166136261
theorem zhM(l:List UInt8)(b:UInt8):zeo (l++[b])=zit (zeo l) b:=by simp[zeo]
theorem zlE(l:List UInt8):0≤zeo l∧zeo l≤4294967295:=by
 rcases List.eq_nil_or_concat l with rfl | ⟨t,b,rfl⟩
 ·decide
 ·rw[List.concat_eq_append,zhM];unfold zit;omega
def zbR(s:ByteArray)(n:Int):Int:=if n<1 then 0 else (zeo s.data.toList)%n
theorem zqp(x:ByteArray)(hx:x.size≤maxLen)(w:World):
  Calls prog 155 #[.string x] w fun r w'=>r=.returned (.int .u32 (zeo x.data.toList))∧w=w':=by
 have hn:(x.size:Int)≤9223372036854775807:=by unfold maxLen at hx;omega
 clear hx;go_enter func155,ntmps155;go_wp2_with fail
 go_loopw [3,7] (fun h i wr=>∃ (j:Nat) (v:Int),j≤x.size∧i=.int .i64 j∧h=.int .u32 v∧0≤v∧v≤4294967295∧w=wr∧Hid (v=zeo (x.data.toList.take j))) (fun _ i _=>x.size-(intOf i).toNat)
 case atStart=>exact⟨0,2166136261,Nat.zero_le _,rfl,rfl,by decide,by decide,rfl,rfl⟩
 case round=>
  obtain⟨j,v,hj,rfl,rfl,v0,v1,rfl,hv⟩:=hrel
  by_cases hlj:j<x.size
  ·have hb1:x[j].toNat<256:=x[j].toNat_lt
   go_wp2
   go_roundw
   case rel=>
    refine⟨j+1,_,by omega,by go_num,rfl,?_,?_,by trivial,?_⟩
    ·omega
    ·omega
    ·show _=zeo (x.data.toList.take (j+1))
     rw[zan (zfC hlj),zhM, ← hv.out];rfl
   case measure=>simp[intOf];omega
  ·go_wp2
   go_ret
   obtain rfl:j=x.size:=by omega
   have:=hv.out;rw[za3 (by rw[zbj];exact Nat.le_refl _)] at this;exact⟨by rw[← this];rfl,rfl⟩
theorem ziV(x:ByteArray)(hx:x.size≤maxLen)(n:Int)(w:World):
  Calls prog 119 #[.string x,.int .i64 n] w fun r w'=>r=.returned (.int .i64 (zbR x n))∧w=w':=by
 have hh:=zlE x.data.toList
 by_cases h:n<1
 ·rw[show zbR x n=0 by simp[zbR,h]]
  go_enter func119,ntmps119;go_wp2_with fail
  all_goals (go_ret<;>simp[*])
 ·rw[show zbR x n=zeo x.data.toList%n by simp[zbR,h]]
  have H:=q0_ (zqp x hx);clear hx
  obtain⟨v,hv⟩:∃ v,zeo x.data.toList=v:=⟨_,rfl⟩
  rw[hv] at hh ⊢;have Hv:=q0_ hv;clear hv;go_enter func119,ntmps119;go_wp2_with fail;refine (H.out _).mono ?_;rw[Hv.out];rintro r w1 ⟨rfl,rfl⟩;go_wp2_with fail
  all_goals (go_ret<;>simp[*])
end Go.Proofs.YtjhhodndlkpmhaaGreatDoor
