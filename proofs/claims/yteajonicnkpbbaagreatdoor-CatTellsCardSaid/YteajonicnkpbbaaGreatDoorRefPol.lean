/- Walk of sedimentref6.Check. -/
import Derived.Test.YteajonicnkpbbaaGreatDoorPolB
import Derived.Test.YteajonicnkpbbaaGreatDoorRefGrid
namespace Go.Proofs.YteajonicnkpbbaaGreatDoor
set_option linter.all false
set_option maxHeartbeats 16000000
set_option maxRecDepth 100000
open Go.RowKit Tryz
def okR(t:zaa):Bool:=zau t.name&&(decide (1≤t.keep)&&decide (t.keep≤1000000))&&(decide (1≤t.shards)&&decide (t.shards≤8))&&(decide (1≤t.every)&&decide (t.every≤1000000))
theorem zoH{t:zaa}{ahead:List zaa}(h:zb7 t ahead=true):1≤t.every:=by
 unfold zb7 at h;simp only[Bool.and_eq_true] at h;obtain⟨_,h⟩:=h
 split at h
 ·have:=eq_of_beq h;omega
 ·simp only[Bool.and_eq_true,decide_eq_true_eq] at h
  have h2:=h.1.2;unfold zaA at h2;simp only[Bool.and_eq_true,decide_eq_true_eq] at h2;have h3:=h.1.1.1.2;omega
theorem zlI(t:zaa):zb7 t []=(okR t&&decide (t.every=1)):=by
 unfold zb7 okR zaa.ok zaX;simp only[List.getLast?_nil]
 by_cases h:t.every=1
 ·rw[h];simp
 ·have:(t.every==1)=false:=by simpa using h
  rw[this];simp[h]
theorem zni{t a:zaa}{ahead:List zaa}(ha:ahead.getLast?=some a)(hp:1≤a.every):zb7 t ahead=(okR t&&(!(named ahead t.name)&&(decide (a.every<t.every)&&(decide (t.every.tmod a.every=0)&&decide (a.keep≤t.keep))))):=by
 unfold zb7 okR zaa.ok zaX zaA;rw[ha];simp only;rw[Bool.eq_iff_iff];simp only[Bool.and_eq_true,decide_eq_true_eq,Bool.not_eq_true']
 constructor
 ·rintro⟨⟨⟨h1,h2⟩,h3⟩,⟨⟨⟨⟨h4,h5⟩,h6⟩,h7,h8⟩,h9⟩⟩
  exact⟨⟨⟨⟨h1,h2⟩,h3⟩,by omega,h6⟩,h4,h5,h8,h9⟩
 ·rintro⟨⟨⟨⟨h1,h2⟩,h3⟩,h4,h5⟩,h6,h7,h8,h9⟩
  exact⟨⟨⟨h1,h2⟩,h3⟩,⟨⟨⟨⟨h6,h7⟩,h5⟩,hp,h8⟩,h9⟩⟩
theorem zjE{l:List zaa}{k:Nat}{x:zaa}(h:l[k]? =some x)(nm:ByteArray):named (l.take (k+1)) nm=(named (l.take k) nm||decide (x.name=nm)):=by
 unfold named;rw[zan h,List.any_append];simp
theorem zmV{l:List zaa}{i:Nat}{a:zaa}(h:l[i]? =some a):(l.take (i+1)).getLast?=some a:=by rw[zan h];simp
theorem zgp{l:List zaa}{i:Nat}{t:zaa}(h:l[i]? =some t):zcC l i=zb7 t (l.take i):=by unfold zcC;rw[h]
theorem zg6(nm:ByteArray)(hnm:nm.size≤maxLen)(l:List zaa)(A:Option Addr)(n c:Nat)(w:World)(hr:Rd w 4 A n (zaf l))(hnn:n≤1099511627776)(hsz:∀ t∈l,t.name.size≤maxLen):
  Calls prog 38 #[zdw nm A n c] w fun r w'=>(∃ k:Int,r=.returned (.tuple #[.int .i64 (zeg (zal nm l)),.int .i64 k]))∧Below w.heap.size w w':=by
 unfold zdw;have Hnm:=q0_ hnm;have Hr:=q0_ hr;have Hsz:=q0_ hsz;have hlen:=hr.tiers_len;have Hlen:=q0_ hlen;have HV:=q0_ (fun w'=>zg3 nm hnm w');have B:=q0_ (Blk.new w 25 #[.string nm,.slice A n c]);have O:=q0_ ((Own.start w).skip (Fr.none_alloc w (.cells #[.string nm,.slice A n c] 25)))
 have hcB:Hid (zal nm l=(zau nm&&zaX (n:Int) 5&&(List.range l.length).all (zcC l))):=by show _=_;unfold zal;rw[hlen]
 clear hr hsz hnm hlen
 cases hv:zau nm
 ·rw[hv] at HV hcB
  clear hv;go_enter func38,ntmps38;go_wp2_with fail;refine (HV.out _).mono ?_;rintro r w1 ⟨rfl,rfl⟩;go_wp2
  go_ret2
  exact⟨⟨0,by rw[hcB.out];rfl⟩,O.out.bel⟩
 rw[hv] at HV hcB;clear hv
 by_cases hw5:(n:Int)<1∨5<(n:Int)
 ·have hwf:zaX (n:Int) 5=false:=by unfold zaX;rcases hw5 with h | h<;>simp<;>omega
  rw[hwf] at hcB;clear hwf
  rcases hw5 with h | h
  ·go_enter func38,ntmps38
   go_wp2_with fail;refine (HV.out _).mono ?_;rintro r w1 ⟨rfl,rfl⟩;go_wp2
   go_ret2
   exact⟨⟨0,by rw[hcB.out];rfl⟩,O.out.bel⟩
  ·have h2:¬ (n:Int)<1:=by omega
   go_enter func38,ntmps38;go_wp2_with fail;refine (HV.out _).mono ?_;rintro r w1 ⟨rfl,rfl⟩;go_wp2
   go_ret2
   exact⟨⟨0,by rw[hcB.out];rfl⟩,O.out.bel⟩
 have hn1:¬ (n:Int)<1:=by omega
 have hn5:¬ 5<(n:Int):=by omega
 have hn5':n≤5:=by omega
 rw[show zaX (n:Int) 5=true by unfold zaX;simp;omega] at hcB;clear hw5;go_enter func38,ntmps38;go_wp2_with fail;refine (HV.out _).mono ?_;rintro r w1 ⟨rfl,rfl⟩;go_wp2_with fail;clear hn1 hn5
 go_loopw [4] (fun i wr=>∃ k:Nat,k≤n∧i=.int .i64 k∧Blk wr w.heap.size 25 #[.string nm,.slice A n c]∧Own w wr (fun _=>False)∧Hid (∀ j,j<k→zcC l j=true)) (fun i _=>n-(intOf i).toNat)
 case atStart=>exact⟨0,Nat.zero_le _,rfl,B.out,O.out,fun j hj=>absurd hj (by omega)⟩
 case round=>
  obtain⟨i,hk,rfl,hb,ho,ha⟩:=hrel
  by_cases hlt:i<n
  ·have hR:=Hr.out.below ho.bel
   obtain⟨ad,x,rfl,hu,d0,d1,d2,d3⟩:=hR.tier hlt;have HR:=q0_ hR;have Hu:=q0_ hu;have Ho:=q0_ ho;have Hb:=q0_ hb;have c1:=hb.cell 1;simp only[q1_,q2_,q3_] at c1;have hxs:=Hsz.out x (zab hu);have HV2:=q0_ (fun w'=>zg3 x.name hxs w');have Hx:=q0_ (Blk.new wr 99 #[.string x.name,.int .i64 x.every,.int .i64 x.keep,.int .i64 x.shards]);have HF1:Hid (Fr (fun _=>False) wr (wr.alloc (.cells #[.string x.name,.int .i64 x.every,.int .i64 x.keep,.int .i64 x.shards] 99))):=Fr.none_alloc _ _
   have hi4:((i:Int)*4).toNat=i*4:=by omega
   obtain⟨xnm,xev,xke,xsh⟩:=x;simp only at d0 d1 d2 d3 HV2 Hx HF1;have hok:Hid (okR ⟨xnm,xev,xke,xsh⟩=(zau xnm&&(decide (1≤xke)&&decide (xke≤1000000))&&(decide (1≤xsh)&&decide (xsh≤8))&&(decide (1≤xev)&&decide (xev≤1000000)))):=rfl
   obtain⟨V,hV⟩:∃ V,zau xnm=V:=⟨_,rfl⟩
   rw[hV] at HV2 hok;clear hu hR ho hb hxs hV
   obtain⟨W1,hW1⟩:∃ W1,W1=wr.alloc (.cells #[.string xnm,.int .i64 xev,.int .i64 xke,.int .i64 xsh] 99):=⟨_,rfl⟩
   go_wp2_with fail;rw[← hW1] at Hx HF1 ⊢;refine (HV2.out _).mono ?_;rintro r w3 ⟨rfl,rfl⟩;have e1:=Hx.out.cell 1;have e2:=Hx.out.cell 2;have e3:=Hx.out.cell 3;simp only[q1_,q2_,q3_] at e1 e2 e3;clear hW1 d0 d1 d2 d3 c1
   cases V
   all_goals go_wp2_with fail
   all_goals
    clear e1 e2 e3
    go_loopw [6,7] (fun bd kk w2=>∃ (b:Bool) (k:Nat),k≤i∧bd=.bool b∧kk=.int .i64 k∧Hid (b=(!okR ⟨xnm,xev,xke,xsh⟩||named (l.take k) xnm))∧Fr (fun _=>False) W1 w2) (fun _ kk _=>i-(intOf kk).toNat)
    case atStart=>exact⟨_,0,Nat.zero_le _,rfl,rfl,by (show _=_;rw[hok.out];first | rfl | (rw[Bool.eq_iff_iff];simp[named];omega)),Fr.refl _ _⟩
    case round=>
     obtain⟨b,k,hki,rfl,rfl,hbk,hf⟩:=hrel;have HF2:=q0_ (HF1.out.trans hf q4_);have HF:=q0_ hf
     by_cases hltk:k<i
     ·obtain⟨ad2,y,hae,hy,y0,_,_,_⟩:=(HR.out.fr0 HF2.out).tier (k:=k) (by omega)
      injection hae with hae
      subst hae;have Hy:=q0_ hy;have c1:=(Hb.out.fr HF2.out (fun h=>h)).cell 1;have x0:=(Hx.out.fr hf (fun h=>h)).cell 0;simp only[q1_,q2_,q3_] at c1 x0;have hns:=q0_ (zjE hy xnm)
      have hk4:((k:Int)*4).toNat=k*4:=by omega
      have hki2:(k:Int)<(n:Int):=by omega
      obtain⟨ynm,yev,yke,ysh⟩:=y;simp only at y0 hns;clear hy hf
      cases b
      ·by_cases hne:ynm=xnm
       ·have q:(ynm.toList==xnm.toList)=true:=by rw[hne];exact beq_self_eq_true _
        have q2:ynm.toList=xnm.toList:=by rw[hne]
        have hb1:Hid (true=(!okR ⟨xnm,xev,xke,xsh⟩||named (l.take (k+1)) xnm)):=by
         show _=_
         rw[hns.out,qa_ hne];simp
        clear hne
        go_wp2
        go_quiet (fail)
        go_wp2
        go_roundw
        case rel=>exact⟨true,k+1,by omega,rfl,by go_num,hb1.out,HF.out.drewN _⟩
        case measure=>simp[intOf];omega
       ·have q2:¬ ynm.toList=xnm.toList:=fun h=>hne (by
         rw[Lib.toList_data,Lib.toList_data] at h
         cases ynm;cases xnm
         simp only at h
         congr
         exact Array.toList_inj.1 h)
        have q:(ynm.toList==xnm.toList)=false:=by simpa using q2
        have hb1:Hid (false=(!okR ⟨xnm,xev,xke,xsh⟩||named (l.take (k+1)) xnm)):=by
         show _=_
         rw[hns.out,q9_ hne,Bool.or_false];exact hbk.out
        clear hne
        go_wp2
        go_quiet (fail)
        go_wp2
        go_roundw
        case rel=>exact⟨false,k+1,by omega,rfl,by go_num,hb1.out,HF.out.drewN _⟩
        case measure=>simp[intOf];omega
      ·have hb1:Hid (true=(!okR ⟨xnm,xev,xke,xsh⟩||named (l.take (k+1)) xnm)):=by
        show _=_
        have:=hbk.out;rw[hns.out, ← Bool.or_assoc, ← this];rfl
       go_wp2
       go_quiet (fail)
       go_wp2
       go_roundw
       case rel=>exact⟨true,k+1,by omega,rfl,by go_num,hb1.out,HF.out.drewN _⟩
       case measure=>simp[intOf];omega
     ·obtain rfl:k=i:=by omega
      have Hf:=q0_ hf;have OW:=q0_ (Ho.out.skip HF2.out);have HBw:=q0_ (Hb.out.fr HF2.out (fun h=>h));have hfa:=zgp Hu.out
      have HBad:Hid (zb7 ⟨xnm,xev,xke,xsh⟩ (l.take k)=false→zal nm l=false):=fun h=>by
       rw[hcB.out]
       have:(List.range l.length).all (zcC l)=false:=by
        rw[List.all_eq_false];exact⟨k,List.mem_range.2 (by rw[Hlen.out];exact hlt),by rw[hfa,h];decide⟩
       rw[this];rfl
      have HGood:Hid (zb7 ⟨xnm,xev,xke,xsh⟩ (l.take k)=true→∀ j,j<k+1→zcC l j=true):=fun h j hj=>by
       rcases Nat.lt_or_ge j k with h1 | h1
       ·exact ha.out j h1
       ·obtain rfl:j=k:=by omega
        rw[hfa,h]
      clear hf hfa
      rcases Nat.eq_zero_or_pos k with hk0 | hpos
      ·have hkz:(k:Int)=0:=by omega
       have hT0:Hid (l.take k=[]):=by show _=_;rw[hk0];rfl
       have hkz2:((k:Int)==0)=true:=by simpa using hkz
       have e1:=(Hx.out.fr Hf.out (fun h=>h)).cell 1;simp only[q1_,q2_,q3_] at e1
       have HFit:Hid (zb7 ⟨xnm,xev,xke,xsh⟩ (l.take k)=(!b&&decide (xev=1))):=by
        show _=_
        have h1:=hbk.out;rw[hT0.out] at h1 ⊢;rw[zlI,h1]
        show _=(!(!okR ⟨xnm,xev,xke,xsh⟩||false)&&_)
        rw[Bool.or_false,Bool.not_not]
       cases b
       ·by_cases h1:xev=1
        ·rw[h1] at e1
         have hG:=q0_ (HGood.out (by rw[HFit.out,qa_ h1];rfl));have hone:((1:Int) != 1)=false:=rfl;clear h1
         go_wp2
         go_roundw
         case rel=>exact⟨k+1,by omega,by go_num,HBw.out,OW.out,hG.out⟩
         case measure=>simp[intOf];omega
        ·have h1b:(xev != 1)=true:=by simpa using h1
         have hBad:=q0_ (HBad.out (by rw[HFit.out];rw[q9_ h1]<;>rfl));go_wp2
         go_ret2
         exact⟨⟨_,by rw[hBad.out];rfl⟩,OW.out.bel⟩
       ·skip
        have hBad:=q0_ (HBad.out (by rw[HFit.out];rfl));go_wp2
        go_ret2
        exact⟨⟨_,by rw[hBad.out];rfl⟩,OW.out.bel⟩
      ·have hkz:¬ (k:Int)=0:=by omega
       have hkz2:((k:Int)==0)=false:=by simpa using hkz
       obtain⟨j,rfl⟩:∃ j,k=j+1:=⟨k-1,by omega⟩
       obtain⟨ad2,y,hae,hy,y0,y1,y2,y3⟩:=(HR.out.fr0 HF2.out).tier (k:=j) (by omega)
       injection hae with hae
       subst hae
       have hyp:1≤y.every:=by
        have:=ha.out j (by omega);rw[zgp hy] at this;exact zoH this
       have HFit:Hid (zb7 ⟨xnm,xev,xke,xsh⟩ (l.take (j+1))=(!b&&(decide (y.every<xev)&&(decide (xev.tmod y.every=0)&&decide (y.keep≤xke))))):=by
        show _=_
        rw[zni (zmV hy) hyp,hbk.out,Bool.not_or,Bool.not_not,Bool.and_assoc]
       have hj4:((j:Int)*4).toNat=j*4:=by omega
       have hj1:((((j+1:Nat):Int))-1)=(j:Int):=by omega
       have hj1b:((j:Int)+1-1)=(j:Int):=by omega
       have hjn:(j:Int)<(n:Int):=by omega
       have c1:=HBw.out.cell 1;simp only[q1_,q2_,q3_] at c1;have e1:=fun o=>((Hx.out.fr Hf.out (fun h=>h)).alloc o).cell 1;have e2:=fun o=>((Hx.out.fr Hf.out (fun h=>h)).alloc o).cell 2;simp only[q1_,q2_,q3_] at e1 e2;obtain⟨ynm,yev,yke,ysh⟩:=y;simp only at y0 y1 y2 y3 hyp HFit
       have hyz:¬ yev=0:=by omega
       clear hy
       cases b
       ·obtain⟨q,hq⟩:∃ q,xev.tmod yev=q:=⟨_,rfl⟩
        rw[hq] at HFit
        by_cases g1:xev≤yev
        ·have g1d:decide (xev≤yev)=true:=qa_ g1
         have hBad:=q0_ (HBad.out (by rw[HFit.out];rw[q9_ (by omega:¬ yev<xev)]<;>rfl));go_wp2
         go_ret2
         exact⟨⟨_,by rw[hBad.out];rfl⟩,(OW.out.skip (Fr.none_alloc _ _)).bel⟩
        ·have g1d:decide (xev≤yev)=false:=q9_ g1
         by_cases g2:q=0
         ·have g2d:(q != 0)=false:=by simpa using g2
          subst g2
          by_cases g3:xke<yke
          ·have g3d:decide (xke<yke)=true:=qa_ g3
           have hBad:=q0_ (HBad.out (by rw[HFit.out];rw[q9_ (by omega:¬ yke≤xke)]<;>simp));go_wp2_with fail
           all_goals
            go_ret2
            exact⟨⟨_,by rw[hBad.out];rfl⟩,(OW.out.skip (Fr.none_alloc _ _)).bel⟩
          ·have g3d:decide (xke<yke)=false:=q9_ g3
           have hG:=q0_ (HGood.out (by rw[HFit.out];rw[qa_ (by omega:yev<xev),qa_ (by omega:yke≤xke)]<;>rfl))
           go_wp2
           all_goals
            go_roundw
            case rel=>exact⟨j+1+1,by omega,by go_num,HBw.out.alloc _,OW.out.skip (Fr.none_alloc _ _),hG.out⟩
            case measure=>simp[intOf];omega
         ·have g2d:(q != 0)=true:=by simpa using g2
          have hBad:=q0_ (HBad.out (by rw[HFit.out];rw[q9_ g2]<;>simp));go_wp2_with fail
          all_goals
           go_ret2
           exact⟨⟨_,by rw[hBad.out];rfl⟩,(OW.out.skip (Fr.none_alloc _ _)).bel⟩
       ·skip
        have hBad:=q0_ (HBad.out (by rw[HFit.out];rfl));go_wp2_with fail
        all_goals
         go_ret2
         exact⟨⟨_,by rw[hBad.out];rfl⟩,(OW.out.skip (Fr.none_alloc _ _)).bel⟩
  ·obtain rfl:i=n:=by omega
   have hT:(List.range l.length).all (zcC l)=true:=by
    rw[List.all_eq_true];exact fun j hj=>ha.out j (by rw[← Hlen.out];exact List.mem_range.1 hj)
   rw[hT] at hcB;have c1:=hb.cell 1;simp only[q1_,q2_,q3_] at c1;have Ho:=q0_ ho;clear hb ho hT;go_wp2
   go_ret2
   exact⟨⟨0,by rw[hcB.out];rfl⟩,Ho.out.bel⟩
end Go.Proofs.YteajonicnkpbbaaGreatDoor
