/- Walk of sedimentlaw23.valid: it is just what cat.Valid tells. -/
import Derived.Test.YteajonicnkpbbaaGreatDoorCatDVe
import Derived.Test.YteajonicnkpbbaaGreatDoorRefPol
namespace Go.Proofs.YteajonicnkpbbaaGreatDoor
set_option linter.all false
set_option maxHeartbeats 16000000
set_option maxRecDepth 100000
open Go.RowKit Tryz
section
variable {w:World} {c:zbf} {a:zfI}
theorem zgy(h:zcn w c a)(hL1:a.pn≤1099511627776)(hL2:a.tn≤1099511627776):Calls prog 11 #[.agg #[.int .u64 c.gen,.int .u64 c.id,.int .i64 c.now,.string c.nm,.slice a.pA a.pn a.pc,.slice a.fA a.fn a.fc,.string c.nm2,.slice a.tA a.tn a.tc,.slice a.sA a.sn a.sc,.int .i64 c.bound,.int .i64 c.done,.slice a.eA a.en a.ec]] w fun r w'=>r=.returned (.bool (zbd c))∧Below w.heap.size w w':=by
 obtain⟨pA,pn,pc,fA,fn,fc,tA,tn,tc,sA,sn,sc,eA,en,ec⟩:=a;dsimp only
 obtain⟨W1,hW1⟩:∃ W1,W1=w.alloc (.cells #[.int .u64 c.gen,.int .u64 c.id,.int .i64 c.now,.string c.nm,.slice pA pn pc,.slice fA fn fc,.string c.nm2,.slice tA tn tc,.slice sA sn sc,.int .i64 c.bound,.int .i64 c.done,.slice eA en ec] 29):=⟨_,rfl⟩
 have HW1:=q0_ hW1
 have F1:Hid (Fr (fun _=>False) w W1):=by show Fr _ _ _;rw[hW1];exact Fr.none_alloc _ _
 have X1:Hid (Blk W1 w.heap.size 29 #[.int .u64 c.gen,.int .u64 c.id,.int .i64 c.now,.string c.nm,.slice pA pn pc,.slice fA fn fc,.string c.nm2,.slice tA tn tc,.slice sA sn sc,.int .i64 c.bound,.int .i64 c.done,.slice eA en ec]):=by show Blk _ _ _ _;rw[hW1];exact Blk.new _ _ _
 have HC:Hid (∀ W,Fr (fun _=>False) W1 W→W.cell? ⟨w.heap.size,0,none⟩=some (.int .u64 c.gen)∧W.cell? ⟨w.heap.size,1,none⟩=some (.int .u64 c.id)∧W.cell? ⟨w.heap.size,2,none⟩=some (.int .i64 c.now)∧W.cell? ⟨w.heap.size,3,none⟩=some (.string c.nm)∧W.cell? ⟨w.heap.size,4,none⟩=some (.slice pA pn pc)∧W.cell? ⟨w.heap.size,5,none⟩=some (.slice fA fn fc)∧W.cell? ⟨w.heap.size,6,none⟩=some (.string c.nm2)∧W.cell? ⟨w.heap.size,7,none⟩=some (.slice tA tn tc)∧W.cell? ⟨w.heap.size,8,none⟩=some (.slice sA sn sc)∧W.cell? ⟨w.heap.size,9,none⟩=some (.int .i64 c.bound)∧W.cell? ⟨w.heap.size,10,none⟩=some (.int .i64 c.done)∧W.cell? ⟨w.heap.size,11,none⟩=some (.slice eA en ec)):=fun W f=>by
  have b:=X1.out.fr f (fun h=>h);exact⟨b.cell 0,b.cell 1,b.cell 2,b.cell 3,b.cell 4,b.cell 5,b.cell 6,b.cell 7,b.cell 8,b.cell 9,b.cell 10,b.cell 11⟩
 have Hle:Hid (c.es.length=en):=h.le;have Hlp:Hid (c.pl.length=pn):=h.lp;have Hlt:Hid (c.pl2.length=tn):=h.lt;have Hlf:Hid (c.fl.length=fn):=h.lf;have Hls:Hid (c.src.length=sn):=h.ls
 have hme:en≤9223372036854775807:=by have h1:en≤ec∧ec≤maxLen:=h.ce;unfold maxLen at h1;omega
 have hmp:pn≤9223372036854775807:=by have h1:pn≤pc∧pc≤maxLen:=h.cp;unfold maxLen at h1;omega
 have hmt:tn≤9223372036854775807:=by have h1:tn≤tc∧tc≤maxLen:=h.ct;unfold maxLen at h1;omega
 have hmf:fn≤9223372036854775807:=by have h1:fn≤fc∧fc≤maxLen:=h.cf;unfold maxLen at h1;omega
 have hms:sn≤9223372036854775807:=by have h1:sn≤sc∧sc≤maxLen:=h.cs;unfold maxLen at h1;omega
 have HK1:=q0_ (fun (W:World) (f:Fr (fun _=>False) W1 W)=>zg6 c.nm h.nm c.pl pA pn pc W (Rd.fr0 (Rd.fr0 h.rp F1.out) f) hL1 (fun t ht=>(h.wp t ht).2.2.2));have HK2:=q0_ (fun (W:World) (f:Fr (fun _=>False) W1 W)=>zg6 c.nm2 h.nm2 c.pl2 tA tn tc W (Rd.fr0 (Rd.fr0 h.rt F1.out) f) hL2 (fun t ht=>(h.wt t ht).2.2.2));unfold zdw at HK1 HK2;have HRf:Hid (∀ W,Fr (fun _=>False) W1 W→Rd W 1 fA fn (za6 c.fl)):=fun W f=>Rd.fr0 (Rd.fr0 h.rf F1.out) f;have HRs:Hid (∀ W,Fr (fun _=>False) W1 W→Rd W 1 sA sn (za6 c.src)):=fun W f=>Rd.fr0 (Rd.fr0 h.rs F1.out) f;have HRe:Hid (∀ W,Fr (fun _=>False) W1 W→Rd W 6 eA en (zbN c.es)):=fun W f=>Rd.fr0 (Rd.fr0 h.re F1.out) f
 have Hok:Hid (∀ x∈c.es,(∀ W,Fr (fun _=>False) W1 W→Rd W 1 x.ba x.bn (za6 x.bl))∧x.bl.length=x.bn∧x.bn≤9223372036854775807):=fun x hx=>⟨fun W f=>Rd.fr0 (Rd.fr0 (h.we x hx).b F1.out) f,(h.we x hx).blen,by have h1:=(h.we x hx).ble;have h2:=(h.we x hx).bmax;unfold maxLen at h2;omega⟩
 clear h hW1 hL1 hL2;go_enter func11,ntmps11
 go_upto_region 1 with fail
 rw[← HW1.out];obtain⟨-, -, -,x3,x4, -, -, -, -, -, -, -⟩:=HC.out _ (Fr.refl _ W1);go_wp2_with fail;refine (HK1.out _ (Fr.refl _ W1)).mono ?_;rintro r w2 ⟨⟨kk,rfl⟩,b2⟩;have F2:=q0_ (Fr.b0 b2);clear b2 x3 x4;obtain⟨x0, -,x2, -,x4,x5, -, -, -, -, -,x11⟩:=HC.out _ F2.out
 obtain⟨hck,hhck⟩:∃ b,zal c.nm c.pl=b:=⟨_,rfl⟩
 rw[hhck];have HCk:=q0_ hhck;clear hhck
 by_cases p0:c.gen=0
 ·have g0:(c.gen==0)=true:=by simpa using p0
  have hno:Hid (zbd c=false):=zaz fun e=>(zcB (zat e).1).1 p0;clear p0
  as_aux_lemma=>
   go_wp2;go_ret;exact⟨by rw[hno.out];rfl,by first | exact (F1.out.trans F2.out q4_).below q4_ | exact ((F1.out.trans F2.out q4_).trans hY_ q4_).below q4_⟩
 have g0:(c.gen==0)=false:=by simpa using p0
 by_cases p1:c.now<0
 ·have hno:Hid (zbd c=false):=zaz fun e=>by
   have h:=zaG (zcB (zat e).1).2.1;omega
  as_aux_lemma=>
   go_wp2;go_ret;exact⟨by rw[hno.out];rfl,by first | exact (F1.out.trans F2.out q4_).below q4_ | exact ((F1.out.trans F2.out q4_).trans hY_ q4_).below q4_⟩
 by_cases p2:(1099511627776:Int)<c.now
 ·have hno:Hid (zbd c=false):=zaz fun e=>by
   have h:=zaG (zcB (zat e).1).2.1;omega
  as_aux_lemma=>
   go_wp2;go_ret;exact⟨by rw[hno.out];rfl,by first | exact (F1.out.trans F2.out q4_).below q4_ | exact ((F1.out.trans F2.out q4_).trans hY_ q4_).below q4_⟩
 cases hck
 ·have g3:((zeg false:Int) != 0)=true:=by decide
  have hno:Hid (zbd c=false):=zaz fun e=>by
   have h:=zkx (zat e).1;rw[HCk.out] at h
   cases h
  as_aux_lemma=>
   go_wp2;go_ret;exact⟨by rw[hno.out];rfl,by first | exact (F1.out.trans F2.out q4_).below q4_ | exact ((F1.out.trans F2.out q4_).trans hY_ q4_).below q4_⟩
 have g3:((zeg true:Int) != 0)=false:=by decide
 by_cases p4:fn=pn
 rotate_left
 ·have g4:((fn:Int) != (pn:Int))=true:=by simp;omega
  have g4b:¬ (fn:Int)=(pn:Int):=by omega
  have hno:Hid (zbd c=false):=zaz fun e=>p4 (by
   have h:=(zcB (zat e).1).2.2;rw[Hlf.out,Hlp.out] at h
   exact h)
  as_aux_lemma=>
   go_wp2;go_ret;exact⟨by rw[hno.out];rfl,by first | exact (F1.out.trans F2.out q4_).below q4_ | exact ((F1.out.trans F2.out q4_).trans hY_ q4_).below q4_⟩
 have g4:((fn:Int) != (pn:Int))=false:=by simp;omega
 have P4:=q0_ p4;clear p4
 by_cases p5:(90:Int)<(en:Int)
 ·have hno:Hid (zbd c=false):=zaz fun e=>by
   have h:=(zat e).2.2.1;rw[Hle.out] at h;omega
  as_aux_lemma=>
   go_wp2;go_ret;exact⟨by rw[hno.out];rfl,by first | exact (F1.out.trans F2.out q4_).below q4_ | exact ((F1.out.trans F2.out q4_).trans hY_ q4_).below q4_⟩
 have htop:Hid (zqB c):=⟨p0,by omega,by omega,HCk.out,by rw[Hlf.out,Hlp.out];exact P4.out,by rw[Hle.out];omega⟩
 have HTop:=htop;have F3:=F2;clear htop;go_wp2_with fail;clear p0 p1 p2 p5;clear x0 x2 x4 x5 x11
 go_loopw [5] (fun i wr=>∃ k:Nat,k≤fn∧i=.int .i64 k∧Hid (Fr (fun _=>False) W1 wr)∧Hid ((c.fl.take k).all (fun f=>inB f (4611686018427387904))=true)) (fun i _=>fn-(intOf i).toNat)
 case atStart=>exact⟨0,Nat.zero_le _,rfl,F3.out,rfl⟩
 case round=>
  as_aux_lemma=>
   obtain⟨k,hk,rfl,hf,ha⟩:=hrel;have Hf:=q0_ hf.out;have Ha:=q0_ ha.out;clear hf ha;obtain⟨-, -, -, -, -,x5, -, -, -, -, -, -⟩:=HC.out _ Hf.out
   by_cases hlt:k<fn
   ·obtain⟨ad,v,rfl,hu,d⟩:=(HRf.out _ Hf.out).at_map hlt
    have Hu:=q0_ hu;clear hu
    have hkw:IntKind.i64.wrap ((k:Int)+1)=(k:Int)+1:=by simp[IntKind.wrap,IntKind.signed,IntKind.bits];omega
    by_cases q0:v<0
    ·have hno:Hid (zbd c=false):=zaz fun e=>by
      have h:=zaG (List.all_eq_true.1 ((zkw (zat e).1)) v (zab Hu.out));omega
     go_wp2;go_ret;exact⟨by rw[hno.out];rfl,by first | exact (F1.out.trans Hf.out q4_).below q4_ | exact ((F1.out.trans Hf.out q4_).trans hY_ q4_).below q4_⟩
    by_cases q1:(4611686018427387904:Int)<v
    ·have hno:Hid (zbd c=false):=zaz fun e=>by
      have h:=zaG (List.all_eq_true.1 ((zkw (zat e).1)) v (zab Hu.out));omega
     go_wp2;go_ret;exact⟨by rw[hno.out];rfl,by first | exact (F1.out.trans Hf.out q4_).below q4_ | exact ((F1.out.trans Hf.out q4_).trans hY_ q4_).below q4_⟩
    have hv:Hid (inB v (4611686018427387904)=true):=zi3 (by omega) (by omega);go_wp2
    go_roundw
    case rel=>exact⟨k+1,by omega,by go_num,by first | exact Hf.out | exact Fr.trans Hf.out hY_ q4_,by
     show (c.fl.take (k+1)).all _=true
     rw[zao Hu.out Ha.out]
     exact hv.out⟩
    case measure=>simp[intOf];omega
   ·obtain rfl:fn=k:=by omega
    have hall:Hid (c.fl.all (fun f=>inB f (4611686018427387904))=true):=by
     have:=Ha.out;rw[List.take_of_length_le (by rw[Hlf.out];exact Nat.le_refl _)] at this;exact this
    clear hk Ha;have HFl:=hall;clear hall F3;have F4:=Hf;clear Hf;obtain⟨-, -, -, -, -, -,x6,x7, -, -, -, -⟩:=HC.out _ F4.out
    go_upto_region 9 with fail
    go_cut [85] (fun s wx=>∃ W,W=wx∧s=.bool (!zbV c)∧Fr (fun _=>False) W1 wx)
    case first=>
     as_aux_lemma=>
      by_cases hz:c.nm2.size=0
      ·have hze:c.nm2=ByteArray.empty:=zoR hz
       by_cases htz:tn=0
       ·have gt:((tn:Int)==0)=true:=by simp;omega
        have hp0:Hid (true= !zbV c):=by show _=_;unfold zbV;rw[Hlt.out,qa_ hz,q9_ (by omega)];rfl
        rw[hze] at x6;go_wp2
        try go_meet
        exact⟨_,rfl,congrArg Value.bool hp0.out,F4.out⟩
       ·have gt:((tn:Int)==0)=false:=by simp;omega
        have hp0:Hid (false= !zbV c):=by show _=_;unfold zbV;rw[Hlt.out,qa_ hz,qa_ (by omega)];rfl
        rw[hze] at x6;go_wp2
        try go_meet
        exact⟨_,rfl,congrArg Value.bool hp0.out,F4.out⟩
      ·have hzl:¬ c.nm2.toList=[]:=zqz hz
       have hzb:(c.nm2.toList==[])=false:=by simpa using hzl
       have hp0:Hid (false= !zbV c):=by show _=_;unfold zbV;rw[q9_ hz];rfl
       go_wp2
       try go_meet
       exact⟨_,rfl,congrArg Value.bool hp0.out,F4.out⟩
    case rest=>
    obtain⟨W4,rfl,rfl,hf4⟩:=hcut;clear F4 x5 x6 x7;have F4:=q0_ hf4;clear hf4
    go_upto_if 85 with fail
    go_cut [] (fun wx=>∃ W,W=wx∧zax c=true∧Fr (fun _=>False) W1 wx)
    case first=>
     as_aux_lemma=>
      cases hpc:zbV c
      ·have hp0:=q0_ hpc
       clear hpc;simp only[Bool.not_false];obtain⟨-, -, -, -, -, -, -, -,x8,x9,x10, -⟩:=HC.out _ F4.out
       have hchd:Hid (zax c=(decide (c.bound=0)&&(decide (c.done=0)&&decide (c.src.length=0)))):=by show _=_;unfold zax;rw[if_neg (by rw[hp0.out];decide)]
       by_cases b1:c.bound=0
       rotate_left
       ·have kb1:(c.bound != 0)=true:=by simpa using b1
        have hno:Hid (zbd c=false):=zaz fun e=>b1 (by
         have h:=(zat e).2.1;rw[hchd.out] at h;simp only[Bool.and_eq_true,decide_eq_true_eq] at h
         exact h.1)
        go_wp2;go_ret;exact⟨by rw[hno.out];rfl,by first | exact (F1.out.trans F4.out q4_).below q4_ | exact ((F1.out.trans F4.out q4_).trans hY_ q4_).below q4_⟩
       have kb1:(c.bound != 0)=false:=by simpa using b1
       have Hb1:=q0_ b1;clear b1
       by_cases b2:c.done=0
       rotate_left
       ·have kb2:(c.done != 0)=true:=by simpa using b2
        have hno:Hid (zbd c=false):=zaz fun e=>b2 (by
         have h:=(zat e).2.1;rw[hchd.out] at h;simp only[Bool.and_eq_true,decide_eq_true_eq] at h
         exact h.2.1)
        go_wp2;go_ret;exact⟨by rw[hno.out];rfl,by first | exact (F1.out.trans F4.out q4_).below q4_ | exact ((F1.out.trans F4.out q4_).trans hY_ q4_).below q4_⟩
       have kb2:(c.done != 0)=false:=by simpa using b2
       have Hb2:=q0_ b2;clear b2
       by_cases b3:sn=0
       rotate_left
       ·have kb3:((sn:Int) != 0)=true:=by simp;omega
        have hno:Hid (zbd c=false):=zaz fun e=>b3 (by
         have h:=(zat e).2.1;rw[hchd.out] at h;simp only[Bool.and_eq_true,decide_eq_true_eq] at h;have:=h.2.2;rw[Hls.out] at this
         exact this)
        go_wp2;go_ret;exact⟨by rw[hno.out];rfl,by first | exact (F1.out.trans F4.out q4_).below q4_ | exact ((F1.out.trans F4.out q4_).trans hY_ q4_).below q4_⟩
       have kb3:((sn:Int) != 0)=false:=by simp;omega
       have Hb3:=q0_ b3;clear b3
       have hch:Hid (zax c=true):=by show _=_;rw[hchd.out,Hls.out,qa_ Hb1.out,qa_ Hb2.out,qa_ Hb3.out];rfl
       go_wp2
       try go_meet
       exact⟨_,rfl,hch.out,F4.out⟩
      ·have hp1:=q0_ hpc
       clear hpc;simp only[Bool.not_true];obtain⟨-, -, -, -, -, -,x6,x7, -, -, -, -⟩:=HC.out _ F4.out;go_wp2_with fail;refine (HK2.out _ F4.out).mono ?_;rintro r w6 ⟨⟨kk6,rfl⟩,b6⟩;have F6:Hid (Fr (fun _=>False) W1 w6):=F4.out.trans (Fr.b0 b6) q4_;clear b6 x6 x7
       obtain⟨hck2,hhck2⟩:∃ b,zal c.nm2 c.pl2=b:=⟨_,rfl⟩
       rw[hhck2];have HCk2:=q0_ hhck2;clear hhck2;obtain⟨-, -, -, -, -, -, -,x7,x8,x9,x10, -⟩:=HC.out _ F6.out
       cases hck2
       ·have g6:((zeg false:Int) != 0)=true:=by decide
        have hno:Hid (zbd c=false):=zaz fun e=>by
         have h:=(zbv (zat e).2.1 hp1.out)
         have h1:=h.ck;have h2:=h.len;have h3:=zaG h.bound;have h4:=zaG h.done;rw[HCk2.out] at h1
         cases h1
        as_aux_lemma=>
         go_wp2;go_ret;exact⟨by rw[hno.out];rfl,by first | exact (F1.out.trans F6.out q4_).below q4_ | exact ((F1.out.trans F6.out q4_).trans hY_ q4_).below q4_⟩
       have g6:((zeg true:Int) != 0)=false:=by decide
       by_cases p7:sn=tn
       rotate_left
       ·have g7:((sn:Int) != (tn:Int))=true:=by simp;omega
        have g7b:¬ (sn:Int)=(tn:Int):=by omega
        have hno:Hid (zbd c=false):=zaz fun e=>by
         have h:=(zbv (zat e).2.1 hp1.out)
         have h1:=h.ck;have h2:=h.len;have h3:=zaG h.bound;have h4:=zaG h.done;rw[Hls.out,Hlt.out] at h2;exact p7 h2
        as_aux_lemma=>
         go_wp2;go_ret;exact⟨by rw[hno.out];rfl,by first | exact (F1.out.trans F6.out q4_).below q4_ | exact ((F1.out.trans F6.out q4_).trans hY_ q4_).below q4_⟩
       have g7:((sn:Int) != (tn:Int))=false:=by simp;omega
       have P7:=q0_ p7;clear p7
       by_cases p8:c.bound<0
       ·have hno:Hid (zbd c=false):=zaz fun e=>by
         have h:=(zbv (zat e).2.1 hp1.out)
         have h1:=h.ck;have h2:=h.len;have h3:=zaG h.bound;have h4:=zaG h.done;omega
        as_aux_lemma=>
         go_wp2;go_ret;exact⟨by rw[hno.out];rfl,by first | exact (F1.out.trans F6.out q4_).below q4_ | exact ((F1.out.trans F6.out q4_).trans hY_ q4_).below q4_⟩
       by_cases p9:(4096:Int)<c.bound
       ·have hno:Hid (zbd c=false):=zaz fun e=>by
         have h:=(zbv (zat e).2.1 hp1.out)
         have h1:=h.ck;have h2:=h.len;have h3:=zaG h.bound;have h4:=zaG h.done;omega
        as_aux_lemma=>
         go_wp2;go_ret;exact⟨by rw[hno.out];rfl,by first | exact (F1.out.trans F6.out q4_).below q4_ | exact ((F1.out.trans F6.out q4_).trans hY_ q4_).below q4_⟩
       by_cases p10:c.done<0
       ·have hno:Hid (zbd c=false):=zaz fun e=>by
         have h:=(zbv (zat e).2.1 hp1.out)
         have h1:=h.ck;have h2:=h.len;have h3:=zaG h.bound;have h4:=zaG h.done;omega
        as_aux_lemma=>
         go_wp2;go_ret;exact⟨by rw[hno.out];rfl,by first | exact (F1.out.trans F6.out q4_).below q4_ | exact ((F1.out.trans F6.out q4_).trans hY_ q4_).below q4_⟩
       by_cases p11:(100:Int)<c.done
       ·have hno:Hid (zbd c=false):=zaz fun e=>by
         have h:=(zbv (zat e).2.1 hp1.out)
         have h1:=h.ck;have h2:=h.len;have h3:=zaG h.bound;have h4:=zaG h.done;omega
        as_aux_lemma=>
         go_wp2;go_ret;exact⟨by rw[hno.out];rfl,by first | exact (F1.out.trans F6.out q4_).below q4_ | exact ((F1.out.trans F6.out q4_).trans hY_ q4_).below q4_⟩
       have hcp:Hid (zqE c):=⟨HCk2.out,by rw[Hls.out,Hlt.out];exact P7.out,zi3 (by omega) (by omega),zi3 (by omega) (by omega)⟩
       have Hcp:=hcp;have F7:=F6;clear hcp;go_wp2_with fail;clear p8 p9 p10 p11;clear x7 x8 x9 x10
       go_loopw [8] (fun i wr=>∃ k:Nat,k≤sn∧i=.int .i64 k∧Hid (Fr (fun _=>False) W1 wr)∧Hid ((c.src.take k).all (fun f=>inB f ((c.pl.length:Int)-1))=true)) (fun i _=>sn-(intOf i).toNat)
       case atStart=>exact⟨0,Nat.zero_le _,rfl,F7.out,rfl⟩
       case round=>
        as_aux_lemma=>
         obtain⟨k,hk,rfl,hf,ha⟩:=hrel;have Hf:=q0_ hf.out;have Ha:=q0_ ha.out;clear hf ha;obtain⟨-, -, -, -,x4, -, -, -,x8, -, -, -⟩:=HC.out _ Hf.out;have hpl1:c.pl.length=pn:=Hlp.out
         by_cases hlt:k<sn
         ·obtain⟨ad,v,rfl,hu,d⟩:=(HRs.out _ Hf.out).at_map hlt
          have Hu:=q0_ hu;clear hu;have HQ:=q0_ (fun (W:World) (f:Fr (fun _=>False) wr W)=>And.intro (f.cell x4 (fun h=>h)) (And.intro (f.cell x8 (fun h=>h)) (f.cell d (fun h=>h))))
          have hkw:IntKind.i64.wrap ((k:Int)+1)=(k:Int)+1:=by simp[IntKind.wrap,IntKind.signed,IntKind.bits];omega
          by_cases q0:v<0
          ·have hno:Hid (zbd c=false):=zaz fun e=>by
            have h:=zaG (List.all_eq_true.1 ((zbv (zat e).2.1 hp1.out).src) v (zab Hu.out));omega
           go_wp2_with fail;refine wp_region_held_drew (S:=fun W=>Fr (fun _=>False) wr W) (by kernel_rfl) ((Fr.refl _ wr).drew) (fun hY_=>?_)
           refine wpAnyH_take (i:=0) (oi:={dst:=some 145,op:=Op.fieldAddr 29 (Operand.tmp 1) 6,type:=0,pos:= "law.go:66",after:=#[],guard:=none}) (v:= ?vq166) rfl (by kernel_rfl) (by kernel_rfl) (by kernel_rfl) (fun _ _ _ h=>h) (Or.inl ⟨by rfl, ?hq166⟩) (by assumption) ?rq166
           case hq166=>intro W hSw;(try obtain⟨a0,a1,a2⟩:=HQ.out W hSw);go_simp;(try with_reducible rfl)
           try simp only[Act.put,q7_,List.set_cons_zero,List.set_cons_succ]
           refine wpAnyH_take (i:=1) (oi:={dst:=some 146,op:=Op.load 26 (Operand.tmp 145),type:=26,pos:= "law.go:66",after:=#[{on:=0,ground:=Ground.data}],guard:=none}) (v:= ?vq167) rfl (by kernel_rfl) (by kernel_rfl) (by kernel_rfl) (fun _ _ _ h=>h) (Or.inl ⟨by rfl, ?hq167⟩) (by assumption) ?rq167
           case hq167=>intro W hSw;(try obtain⟨a0,a1,a2⟩:=HQ.out W hSw);go_simp;(try with_reducible rfl)
           try simp only[Act.put,q7_,List.set_cons_zero,List.set_cons_succ]
           refine wpAnyH_take (i:=2) (oi:={dst:=some 147,op:=Op.move (Operand.tmp 8),type:=3,pos:= "law.go:66",after:=#[],guard:=none}) (v:= ?vq168) rfl (by kernel_rfl) (by kernel_rfl) (by kernel_rfl) (fun _ _ _ h=>h) (Or.inl ⟨by rfl, ?hq168⟩) (by assumption) ?rq168
           case hq168=>intro W hSw;(try obtain⟨a0,a1,a2⟩:=HQ.out W hSw);go_simp;(try with_reducible rfl)
           try simp only[Act.put,q7_,List.set_cons_zero,List.set_cons_succ]
           refine wpAnyH_take (i:=3) (oi:={dst:=some 148,op:=Op.indexAddr 26 (Operand.tmp 146) (Operand.tmp 147),type:=0,pos:= "law.go:66",after:=#[{on:=1,ground:=Ground.data},{on:=2,ground:=Ground.data}],guard:=none}) (v:= ?vq169) rfl (by kernel_rfl) (by kernel_rfl) (by kernel_rfl) (fun _ _ _ h=>h) (Or.inl ⟨by rfl, ?hq169⟩) (by assumption) ?rq169
           case hq169=>intro W hSw;(try obtain⟨a0,a1,a2⟩:=HQ.out W hSw);go_simp;(try with_reducible rfl)
           try simp only[Act.put,q7_,List.set_cons_zero,List.set_cons_succ]
           refine wpAnyH_take (i:=4) (oi:={dst:=some 149,op:=Op.load 3 (Operand.tmp 148),type:=3,pos:= "law.go:66",after:=#[{on:=3,ground:=Ground.data}],guard:=none}) (v:= ?vq170) rfl (by kernel_rfl) (by kernel_rfl) (by kernel_rfl) (fun _ _ _ h=>h) (Or.inl ⟨by rfl, ?hq170⟩) (by assumption) ?rq170
           case hq170=>intro W hSw;(try obtain⟨a0,a1,a2⟩:=HQ.out W hSw);go_simp;(try with_reducible rfl)
           try simp only[Act.put,q7_,List.set_cons_zero,List.set_cons_succ]
           refine wpAnyH_take (i:=5) (oi:={dst:=some 150,op:=Op.binOp BinOp.lss 3 (Operand.tmp 149) (Operand.const (Value.int IntKind.i64 0)) 3,type:=4,pos:= "law.go:66",after:=#[{on:=4,ground:=Ground.data}],guard:=none}) (v:= ?vq171) rfl (by kernel_rfl) (by kernel_rfl) (by kernel_rfl) (fun _ _ _ h=>h) (Or.inl ⟨by rfl, ?hq171⟩) (by assumption) ?rq171
           case hq171=>intro W hSw;(try obtain⟨a0,a1,a2⟩:=HQ.out W hSw);go_simp;(try with_reducible rfl)
           try simp only[Act.put,q7_,List.set_cons_zero,List.set_cons_succ]
           refine wpAnyH_take (i:=6) (oi:={dst:=some 151,op:=Op.move (Operand.tmp 150),type:=4,pos:= "law.go:66",after:=#[{on:=5,ground:=Ground.data}],guard:=none}) (v:= ?vq172) rfl (by kernel_rfl) (by kernel_rfl) (by kernel_rfl) (fun _ _ _ h=>h) (Or.inl ⟨by rfl, ?hq172⟩) (by assumption) ?rq172
           case hq172=>intro W hSw;(try obtain⟨a0,a1,a2⟩:=HQ.out W hSw);go_simp;(try with_reducible rfl)
           try simp only[Act.put,q7_,List.set_cons_zero,List.set_cons_succ]
           refine wpAnyH_take (i:=7) (oi:={dst:=some 152,op:=Op.fieldAddr 29 (Operand.tmp 1) 6,type:=0,pos:= "law.go:66",after:=#[{on:=6,ground:=Ground.guard}],guard:=some (6,false)}) (v:=undef) rfl (by kernel_rfl) (by kernel_rfl) (by kernel_rfl) (fun _ _ _ h=>h) (Or.inr ⟨by rfl,rfl⟩) (by assumption) ?_
           try simp only[Act.put,q7_,List.set_cons_zero,List.set_cons_succ]
           refine wpAnyH_take (i:=8) (oi:={dst:=some 153,op:=Op.load 26 (Operand.tmp 152),type:=26,pos:= "law.go:66",after:=#[{on:=7,ground:=Ground.data},{on:=6,ground:=Ground.guard}],guard:=some (6,false)}) (v:=undef) rfl (by kernel_rfl) (by kernel_rfl) (by kernel_rfl) (fun _ _ _ h=>h) (Or.inr ⟨by rfl,rfl⟩) (by assumption) ?_
           try simp only[Act.put,q7_,List.set_cons_zero,List.set_cons_succ]
           refine wpAnyH_take (i:=9) (oi:={dst:=some 154,op:=Op.move (Operand.tmp 8),type:=3,pos:= "law.go:66",after:=#[{on:=6,ground:=Ground.guard}],guard:=some (6,false)}) (v:=undef) rfl (by kernel_rfl) (by kernel_rfl) (by kernel_rfl) (fun _ _ _ h=>h) (Or.inr ⟨by rfl,rfl⟩) (by assumption) ?_
           try simp only[Act.put,q7_,List.set_cons_zero,List.set_cons_succ]
           refine wpAnyH_take (i:=10) (oi:={dst:=some 155,op:=Op.indexAddr 26 (Operand.tmp 153) (Operand.tmp 154),type:=0,pos:= "law.go:66",after:=#[{on:=8,ground:=Ground.data},{on:=9,ground:=Ground.data},{on:=6,ground:=Ground.guard}],guard:=some (6,false)}) (v:=undef) rfl (by kernel_rfl) (by kernel_rfl) (by kernel_rfl) (fun _ _ _ h=>h) (Or.inr ⟨by rfl,rfl⟩) (by assumption) ?_
           try simp only[Act.put,q7_,List.set_cons_zero,List.set_cons_succ]
           refine wpAnyH_take (i:=11) (oi:={dst:=some 156,op:=Op.load 3 (Operand.tmp 155),type:=3,pos:= "law.go:66",after:=#[{on:=10,ground:=Ground.data},{on:=6,ground:=Ground.guard}],guard:=some (6,false)}) (v:=undef) rfl (by kernel_rfl) (by kernel_rfl) (by kernel_rfl) (fun _ _ _ h=>h) (Or.inr ⟨by rfl,rfl⟩) (by assumption) ?_
           try simp only[Act.put,q7_,List.set_cons_zero,List.set_cons_succ]
           refine wpAnyH_take (i:=12) (oi:={dst:=some 157,op:=Op.fieldAddr 29 (Operand.tmp 1) 3,type:=0,pos:= "law.go:66",after:=#[{on:=6,ground:=Ground.guard}],guard:=some (6,false)}) (v:=undef) rfl (by kernel_rfl) (by kernel_rfl) (by kernel_rfl) (fun _ _ _ h=>h) (Or.inr ⟨by rfl,rfl⟩) (by assumption) ?_
           try simp only[Act.put,q7_,List.set_cons_zero,List.set_cons_succ]
           refine wpAnyH_take (i:=13) (oi:={dst:=some 158,op:=Op.fieldAddr 25 (Operand.tmp 157) 1,type:=0,pos:= "law.go:66",after:=#[{on:=12,ground:=Ground.data},{on:=6,ground:=Ground.guard}],guard:=some (6,false)}) (v:=undef) rfl (by kernel_rfl) (by kernel_rfl) (by kernel_rfl) (fun _ _ _ h=>h) (Or.inr ⟨by rfl,rfl⟩) (by assumption) ?_
           try simp only[Act.put,q7_,List.set_cons_zero,List.set_cons_succ]
           refine wpAnyH_take (i:=14) (oi:={dst:=some 159,op:=Op.load 23 (Operand.tmp 158),type:=23,pos:= "law.go:66",after:=#[{on:=13,ground:=Ground.data},{on:=6,ground:=Ground.guard}],guard:=some (6,false)}) (v:=undef) rfl (by kernel_rfl) (by kernel_rfl) (by kernel_rfl) (fun _ _ _ h=>h) (Or.inr ⟨by rfl,rfl⟩) (by assumption) ?_
           try simp only[Act.put,q7_,List.set_cons_zero,List.set_cons_succ]
           refine wpAnyH_take (i:=15) (oi:={dst:=some 160,op:=Op.call {callee:=Callee.builtin Builtin.len,args:=#[Operand.tmp 159],argTypes:=#[23]},type:=3,pos:= "law.go:66",after:=#[{on:=14,ground:=Ground.data},{on:=6,ground:=Ground.guard}],guard:=some (6,false)}) (v:=undef) rfl (by kernel_rfl) (by kernel_rfl) (by kernel_rfl) (fun _ _ _ h=>h) (Or.inr ⟨by rfl,rfl⟩) (by assumption) ?_
           try simp only[Act.put,q7_,List.set_cons_zero,List.set_cons_succ]
           refine wpAnyH_take (i:=16) (oi:={dst:=some 161,op:=Op.binOp BinOp.geq 3 (Operand.tmp 156) (Operand.tmp 160) 3,type:=4,pos:= "law.go:66",after:=#[{on:=11,ground:=Ground.data},{on:=15,ground:=Ground.data},{on:=6,ground:=Ground.guard}],guard:=some (6,false)}) (v:=undef) rfl (by kernel_rfl) (by kernel_rfl) (by kernel_rfl) (fun _ _ _ h=>h) (Or.inr ⟨by rfl,rfl⟩) (by assumption) ?_
           try simp only[Act.put,q7_,List.set_cons_zero,List.set_cons_succ]
           refine wpAnyH_take (i:=17) (oi:={dst:=some 162,op:=Op.pick (Operand.tmp 151) (Operand.const (Value.bool true)) (Operand.tmp 161),type:=4,pos:= "law.go:66",after:=#[{on:=6,ground:=Ground.data},{on:=16,ground:=Ground.data}],guard:=none}) (v:= ?vq173) rfl (by kernel_rfl) (by kernel_rfl) (by kernel_rfl) (fun _ _ _ h=>h) (Or.inl ⟨by rfl, ?hq173⟩) (by assumption) ?rq173
           case hq173=>intro W hSw;(try obtain⟨a0,a1,a2⟩:=HQ.out W hSw);go_simp;(try with_reducible rfl)
           try simp only[Act.put,q7_,List.set_cons_zero,List.set_cons_succ]
           refine wpAnyH_done (by kernel_rfl) ?_ _;go_wp2;go_ret;exact⟨by rw[hno.out];rfl,by first | exact (F1.out.trans Hf.out q4_).below q4_ | exact ((F1.out.trans Hf.out q4_).trans hY_ q4_).below q4_⟩
          by_cases q1:(pn:Int)≤v
          ·have hno:Hid (zbd c=false):=zaz fun e=>by
            have h:=zaG (List.all_eq_true.1 ((zbv (zat e).2.1 hp1.out).src) v (zab Hu.out));omega
           go_wp2_with fail
           have gq0:¬ v<0:=by omega
           refine wp_region_held_drew (S:=fun W=>Fr (fun _=>False) wr W) (by kernel_rfl) ((Fr.refl _ wr).drew) (fun hY_=>?_)
           refine wpAnyH_take (i:=0) (oi:={dst:=some 145,op:=Op.fieldAddr 29 (Operand.tmp 1) 6,type:=0,pos:= "law.go:66",after:=#[],guard:=none}) (v:= ?vq174) rfl (by kernel_rfl) (by kernel_rfl) (by kernel_rfl) (fun _ _ _ h=>h) (Or.inl ⟨by rfl, ?hq174⟩) (by assumption) ?rq174
           case hq174=>intro W hSw;(try obtain⟨a0,a1,a2⟩:=HQ.out W hSw);go_simp;(try with_reducible rfl)
           try simp only[Act.put,q7_,List.set_cons_zero,List.set_cons_succ]
           refine wpAnyH_take (i:=1) (oi:={dst:=some 146,op:=Op.load 26 (Operand.tmp 145),type:=26,pos:= "law.go:66",after:=#[{on:=0,ground:=Ground.data}],guard:=none}) (v:= ?vq175) rfl (by kernel_rfl) (by kernel_rfl) (by kernel_rfl) (fun _ _ _ h=>h) (Or.inl ⟨by rfl, ?hq175⟩) (by assumption) ?rq175
           case hq175=>intro W hSw;(try obtain⟨a0,a1,a2⟩:=HQ.out W hSw);go_simp;(try with_reducible rfl)
           try simp only[Act.put,q7_,List.set_cons_zero,List.set_cons_succ]
           refine wpAnyH_take (i:=2) (oi:={dst:=some 147,op:=Op.move (Operand.tmp 8),type:=3,pos:= "law.go:66",after:=#[],guard:=none}) (v:= ?vq176) rfl (by kernel_rfl) (by kernel_rfl) (by kernel_rfl) (fun _ _ _ h=>h) (Or.inl ⟨by rfl, ?hq176⟩) (by assumption) ?rq176
           case hq176=>intro W hSw;(try obtain⟨a0,a1,a2⟩:=HQ.out W hSw);go_simp;(try with_reducible rfl)
           try simp only[Act.put,q7_,List.set_cons_zero,List.set_cons_succ]
           refine wpAnyH_take (i:=3) (oi:={dst:=some 148,op:=Op.indexAddr 26 (Operand.tmp 146) (Operand.tmp 147),type:=0,pos:= "law.go:66",after:=#[{on:=1,ground:=Ground.data},{on:=2,ground:=Ground.data}],guard:=none}) (v:= ?vq177) rfl (by kernel_rfl) (by kernel_rfl) (by kernel_rfl) (fun _ _ _ h=>h) (Or.inl ⟨by rfl, ?hq177⟩) (by assumption) ?rq177
           case hq177=>intro W hSw;(try obtain⟨a0,a1,a2⟩:=HQ.out W hSw);go_simp;(try with_reducible rfl)
           try simp only[Act.put,q7_,List.set_cons_zero,List.set_cons_succ]
           refine wpAnyH_take (i:=4) (oi:={dst:=some 149,op:=Op.load 3 (Operand.tmp 148),type:=3,pos:= "law.go:66",after:=#[{on:=3,ground:=Ground.data}],guard:=none}) (v:= ?vq178) rfl (by kernel_rfl) (by kernel_rfl) (by kernel_rfl) (fun _ _ _ h=>h) (Or.inl ⟨by rfl, ?hq178⟩) (by assumption) ?rq178
           case hq178=>intro W hSw;(try obtain⟨a0,a1,a2⟩:=HQ.out W hSw);go_simp;(try with_reducible rfl)
           try simp only[Act.put,q7_,List.set_cons_zero,List.set_cons_succ]
           refine wpAnyH_take (i:=5) (oi:={dst:=some 150,op:=Op.binOp BinOp.lss 3 (Operand.tmp 149) (Operand.const (Value.int IntKind.i64 0)) 3,type:=4,pos:= "law.go:66",after:=#[{on:=4,ground:=Ground.data}],guard:=none}) (v:= ?vq179) rfl (by kernel_rfl) (by kernel_rfl) (by kernel_rfl) (fun _ _ _ h=>h) (Or.inl ⟨by rfl, ?hq179⟩) (by assumption) ?rq179
           case hq179=>intro W hSw;(try obtain⟨a0,a1,a2⟩:=HQ.out W hSw);go_simp;(try with_reducible rfl)
           try simp only[Act.put,q7_,List.set_cons_zero,List.set_cons_succ]
           refine wpAnyH_take (i:=6) (oi:={dst:=some 151,op:=Op.move (Operand.tmp 150),type:=4,pos:= "law.go:66",after:=#[{on:=5,ground:=Ground.data}],guard:=none}) (v:= ?vq180) rfl (by kernel_rfl) (by kernel_rfl) (by kernel_rfl) (fun _ _ _ h=>h) (Or.inl ⟨by rfl, ?hq180⟩) (by assumption) ?rq180
           case hq180=>intro W hSw;(try obtain⟨a0,a1,a2⟩:=HQ.out W hSw);go_simp;(try with_reducible rfl)
           try simp only[Act.put,q7_,List.set_cons_zero,List.set_cons_succ]
           refine wpAnyH_take (i:=7) (oi:={dst:=some 152,op:=Op.fieldAddr 29 (Operand.tmp 1) 6,type:=0,pos:= "law.go:66",after:=#[{on:=6,ground:=Ground.guard}],guard:=some (6,false)}) (v:= ?vq181) rfl (by kernel_rfl) (by kernel_rfl) (by kernel_rfl) (fun _ _ _ h=>h) (Or.inl ⟨by rfl, ?hq181⟩) (by assumption) ?rq181
           case hq181=>intro W hSw;(try obtain⟨a0,a1,a2⟩:=HQ.out W hSw);go_simp;(try with_reducible rfl)
           try simp only[Act.put,q7_,List.set_cons_zero,List.set_cons_succ]
           refine wpAnyH_take (i:=8) (oi:={dst:=some 153,op:=Op.load 26 (Operand.tmp 152),type:=26,pos:= "law.go:66",after:=#[{on:=7,ground:=Ground.data},{on:=6,ground:=Ground.guard}],guard:=some (6,false)}) (v:= ?vq182) rfl (by kernel_rfl) (by kernel_rfl) (by kernel_rfl) (fun _ _ _ h=>h) (Or.inl ⟨by rfl, ?hq182⟩) (by assumption) ?rq182
           case hq182=>intro W hSw;(try obtain⟨a0,a1,a2⟩:=HQ.out W hSw);go_simp;(try with_reducible rfl)
           try simp only[Act.put,q7_,List.set_cons_zero,List.set_cons_succ]
           refine wpAnyH_take (i:=9) (oi:={dst:=some 154,op:=Op.move (Operand.tmp 8),type:=3,pos:= "law.go:66",after:=#[{on:=6,ground:=Ground.guard}],guard:=some (6,false)}) (v:= ?vq183) rfl (by kernel_rfl) (by kernel_rfl) (by kernel_rfl) (fun _ _ _ h=>h) (Or.inl ⟨by rfl, ?hq183⟩) (by assumption) ?rq183
           case hq183=>intro W hSw;(try obtain⟨a0,a1,a2⟩:=HQ.out W hSw);go_simp;(try with_reducible rfl)
           try simp only[Act.put,q7_,List.set_cons_zero,List.set_cons_succ]
           refine wpAnyH_take (i:=10) (oi:={dst:=some 155,op:=Op.indexAddr 26 (Operand.tmp 153) (Operand.tmp 154),type:=0,pos:= "law.go:66",after:=#[{on:=8,ground:=Ground.data},{on:=9,ground:=Ground.data},{on:=6,ground:=Ground.guard}],guard:=some (6,false)}) (v:= ?vq184) rfl (by kernel_rfl) (by kernel_rfl) (by kernel_rfl) (fun _ _ _ h=>h) (Or.inl ⟨by rfl, ?hq184⟩) (by assumption) ?rq184
           case hq184=>intro W hSw;(try obtain⟨a0,a1,a2⟩:=HQ.out W hSw);go_simp;(try with_reducible rfl)
           try simp only[Act.put,q7_,List.set_cons_zero,List.set_cons_succ]
           refine wpAnyH_take (i:=11) (oi:={dst:=some 156,op:=Op.load 3 (Operand.tmp 155),type:=3,pos:= "law.go:66",after:=#[{on:=10,ground:=Ground.data},{on:=6,ground:=Ground.guard}],guard:=some (6,false)}) (v:= ?vq185) rfl (by kernel_rfl) (by kernel_rfl) (by kernel_rfl) (fun _ _ _ h=>h) (Or.inl ⟨by rfl, ?hq185⟩) (by assumption) ?rq185
           case hq185=>intro W hSw;(try obtain⟨a0,a1,a2⟩:=HQ.out W hSw);go_simp;(try with_reducible rfl)
           try simp only[Act.put,q7_,List.set_cons_zero,List.set_cons_succ]
           refine wpAnyH_take (i:=12) (oi:={dst:=some 157,op:=Op.fieldAddr 29 (Operand.tmp 1) 3,type:=0,pos:= "law.go:66",after:=#[{on:=6,ground:=Ground.guard}],guard:=some (6,false)}) (v:= ?vq186) rfl (by kernel_rfl) (by kernel_rfl) (by kernel_rfl) (fun _ _ _ h=>h) (Or.inl ⟨by rfl, ?hq186⟩) (by assumption) ?rq186
           case hq186=>intro W hSw;(try obtain⟨a0,a1,a2⟩:=HQ.out W hSw);go_simp;(try with_reducible rfl)
           try simp only[Act.put,q7_,List.set_cons_zero,List.set_cons_succ]
           refine wpAnyH_take (i:=13) (oi:={dst:=some 158,op:=Op.fieldAddr 25 (Operand.tmp 157) 1,type:=0,pos:= "law.go:66",after:=#[{on:=12,ground:=Ground.data},{on:=6,ground:=Ground.guard}],guard:=some (6,false)}) (v:= ?vq187) rfl (by kernel_rfl) (by kernel_rfl) (by kernel_rfl) (fun _ _ _ h=>h) (Or.inl ⟨by rfl, ?hq187⟩) (by assumption) ?rq187
           case hq187=>intro W hSw;(try obtain⟨a0,a1,a2⟩:=HQ.out W hSw);go_simp;(try with_reducible rfl)
           try simp only[Act.put,q7_,List.set_cons_zero,List.set_cons_succ]
           refine wpAnyH_take (i:=14) (oi:={dst:=some 159,op:=Op.load 23 (Operand.tmp 158),type:=23,pos:= "law.go:66",after:=#[{on:=13,ground:=Ground.data},{on:=6,ground:=Ground.guard}],guard:=some (6,false)}) (v:= ?vq188) rfl (by kernel_rfl) (by kernel_rfl) (by kernel_rfl) (fun _ _ _ h=>h) (Or.inl ⟨by rfl, ?hq188⟩) (by assumption) ?rq188
           case hq188=>intro W hSw;(try obtain⟨a0,a1,a2⟩:=HQ.out W hSw);go_simp;(try with_reducible rfl)
           try simp only[Act.put,q7_,List.set_cons_zero,List.set_cons_succ]
           refine wpAnyH_take (i:=15) (oi:={dst:=some 160,op:=Op.call {callee:=Callee.builtin Builtin.len,args:=#[Operand.tmp 159],argTypes:=#[23]},type:=3,pos:= "law.go:66",after:=#[{on:=14,ground:=Ground.data},{on:=6,ground:=Ground.guard}],guard:=some (6,false)}) (v:= ?vq189) rfl (by kernel_rfl) (by kernel_rfl) (by kernel_rfl) (fun _ _ _ h=>h) (Or.inl ⟨by rfl, ?hq189⟩) (by assumption) ?rq189
           case hq189=>intro W hSw;(try obtain⟨a0,a1,a2⟩:=HQ.out W hSw);go_simp;(try with_reducible rfl)
           try simp only[Act.put,q7_,List.set_cons_zero,List.set_cons_succ]
           refine wpAnyH_take (i:=16) (oi:={dst:=some 161,op:=Op.binOp BinOp.geq 3 (Operand.tmp 156) (Operand.tmp 160) 3,type:=4,pos:= "law.go:66",after:=#[{on:=11,ground:=Ground.data},{on:=15,ground:=Ground.data},{on:=6,ground:=Ground.guard}],guard:=some (6,false)}) (v:= ?vq190) rfl (by kernel_rfl) (by kernel_rfl) (by kernel_rfl) (fun _ _ _ h=>h) (Or.inl ⟨by rfl, ?hq190⟩) (by assumption) ?rq190
           case hq190=>intro W hSw;(try obtain⟨a0,a1,a2⟩:=HQ.out W hSw);go_simp;(try with_reducible rfl)
           try simp only[Act.put,q7_,List.set_cons_zero,List.set_cons_succ]
           refine wpAnyH_take (i:=17) (oi:={dst:=some 162,op:=Op.pick (Operand.tmp 151) (Operand.const (Value.bool true)) (Operand.tmp 161),type:=4,pos:= "law.go:66",after:=#[{on:=6,ground:=Ground.data},{on:=16,ground:=Ground.data}],guard:=none}) (v:= ?vq191) rfl (by kernel_rfl) (by kernel_rfl) (by kernel_rfl) (fun _ _ _ h=>h) (Or.inl ⟨by rfl, ?hq191⟩) (by assumption) ?rq191
           case hq191=>intro W hSw;(try obtain⟨a0,a1,a2⟩:=HQ.out W hSw);go_simp;(try with_reducible rfl)
           try simp only[Act.put,q7_,List.set_cons_zero,List.set_cons_succ]
           refine wpAnyH_done (by kernel_rfl) ?_ _;go_wp2;go_ret;exact⟨by rw[hno.out];rfl,by first | exact (F1.out.trans Hf.out q4_).below q4_ | exact ((F1.out.trans Hf.out q4_).trans hY_ q4_).below q4_⟩
          have hv:Hid (inB v ((c.pl.length:Int)-1)=true):=zi3 (by omega) (by omega);go_wp2_with fail
          have gq0:¬ v<0:=by omega
          have gq1:¬ (pn:Int)≤v:=by omega
          refine wp_region_held_drew (S:=fun W=>Fr (fun _=>False) wr W) (by kernel_rfl) ((Fr.refl _ wr).drew) (fun hY_=>?_)
          refine wpAnyH_take (i:=0) (oi:={dst:=some 145,op:=Op.fieldAddr 29 (Operand.tmp 1) 6,type:=0,pos:= "law.go:66",after:=#[],guard:=none}) (v:= ?vq192) rfl (by kernel_rfl) (by kernel_rfl) (by kernel_rfl) (fun _ _ _ h=>h) (Or.inl ⟨by rfl, ?hq192⟩) (by assumption) ?rq192
          case hq192=>intro W hSw;(try obtain⟨a0,a1,a2⟩:=HQ.out W hSw);go_simp;(try with_reducible rfl)
          try simp only[Act.put,q7_,List.set_cons_zero,List.set_cons_succ]
          refine wpAnyH_take (i:=1) (oi:={dst:=some 146,op:=Op.load 26 (Operand.tmp 145),type:=26,pos:= "law.go:66",after:=#[{on:=0,ground:=Ground.data}],guard:=none}) (v:= ?vq193) rfl (by kernel_rfl) (by kernel_rfl) (by kernel_rfl) (fun _ _ _ h=>h) (Or.inl ⟨by rfl, ?hq193⟩) (by assumption) ?rq193
          case hq193=>intro W hSw;(try obtain⟨a0,a1,a2⟩:=HQ.out W hSw);go_simp;(try with_reducible rfl)
          try simp only[Act.put,q7_,List.set_cons_zero,List.set_cons_succ]
          refine wpAnyH_take (i:=2) (oi:={dst:=some 147,op:=Op.move (Operand.tmp 8),type:=3,pos:= "law.go:66",after:=#[],guard:=none}) (v:= ?vq194) rfl (by kernel_rfl) (by kernel_rfl) (by kernel_rfl) (fun _ _ _ h=>h) (Or.inl ⟨by rfl, ?hq194⟩) (by assumption) ?rq194
          case hq194=>intro W hSw;(try obtain⟨a0,a1,a2⟩:=HQ.out W hSw);go_simp;(try with_reducible rfl)
          try simp only[Act.put,q7_,List.set_cons_zero,List.set_cons_succ]
          refine wpAnyH_take (i:=3) (oi:={dst:=some 148,op:=Op.indexAddr 26 (Operand.tmp 146) (Operand.tmp 147),type:=0,pos:= "law.go:66",after:=#[{on:=1,ground:=Ground.data},{on:=2,ground:=Ground.data}],guard:=none}) (v:= ?vq195) rfl (by kernel_rfl) (by kernel_rfl) (by kernel_rfl) (fun _ _ _ h=>h) (Or.inl ⟨by rfl, ?hq195⟩) (by assumption) ?rq195
          case hq195=>intro W hSw;(try obtain⟨a0,a1,a2⟩:=HQ.out W hSw);go_simp;(try with_reducible rfl)
          try simp only[Act.put,q7_,List.set_cons_zero,List.set_cons_succ]
          refine wpAnyH_take (i:=4) (oi:={dst:=some 149,op:=Op.load 3 (Operand.tmp 148),type:=3,pos:= "law.go:66",after:=#[{on:=3,ground:=Ground.data}],guard:=none}) (v:= ?vq196) rfl (by kernel_rfl) (by kernel_rfl) (by kernel_rfl) (fun _ _ _ h=>h) (Or.inl ⟨by rfl, ?hq196⟩) (by assumption) ?rq196
          case hq196=>intro W hSw;(try obtain⟨a0,a1,a2⟩:=HQ.out W hSw);go_simp;(try with_reducible rfl)
          try simp only[Act.put,q7_,List.set_cons_zero,List.set_cons_succ]
          refine wpAnyH_take (i:=5) (oi:={dst:=some 150,op:=Op.binOp BinOp.lss 3 (Operand.tmp 149) (Operand.const (Value.int IntKind.i64 0)) 3,type:=4,pos:= "law.go:66",after:=#[{on:=4,ground:=Ground.data}],guard:=none}) (v:= ?vq197) rfl (by kernel_rfl) (by kernel_rfl) (by kernel_rfl) (fun _ _ _ h=>h) (Or.inl ⟨by rfl, ?hq197⟩) (by assumption) ?rq197
          case hq197=>intro W hSw;(try obtain⟨a0,a1,a2⟩:=HQ.out W hSw);go_simp;(try with_reducible rfl)
          try simp only[Act.put,q7_,List.set_cons_zero,List.set_cons_succ]
          refine wpAnyH_take (i:=6) (oi:={dst:=some 151,op:=Op.move (Operand.tmp 150),type:=4,pos:= "law.go:66",after:=#[{on:=5,ground:=Ground.data}],guard:=none}) (v:= ?vq198) rfl (by kernel_rfl) (by kernel_rfl) (by kernel_rfl) (fun _ _ _ h=>h) (Or.inl ⟨by rfl, ?hq198⟩) (by assumption) ?rq198
          case hq198=>intro W hSw;(try obtain⟨a0,a1,a2⟩:=HQ.out W hSw);go_simp;(try with_reducible rfl)
          try simp only[Act.put,q7_,List.set_cons_zero,List.set_cons_succ]
          refine wpAnyH_take (i:=7) (oi:={dst:=some 152,op:=Op.fieldAddr 29 (Operand.tmp 1) 6,type:=0,pos:= "law.go:66",after:=#[{on:=6,ground:=Ground.guard}],guard:=some (6,false)}) (v:= ?vq199) rfl (by kernel_rfl) (by kernel_rfl) (by kernel_rfl) (fun _ _ _ h=>h) (Or.inl ⟨by rfl, ?hq199⟩) (by assumption) ?rq199
          case hq199=>intro W hSw;(try obtain⟨a0,a1,a2⟩:=HQ.out W hSw);go_simp;(try with_reducible rfl)
          try simp only[Act.put,q7_,List.set_cons_zero,List.set_cons_succ]
          refine wpAnyH_take (i:=8) (oi:={dst:=some 153,op:=Op.load 26 (Operand.tmp 152),type:=26,pos:= "law.go:66",after:=#[{on:=7,ground:=Ground.data},{on:=6,ground:=Ground.guard}],guard:=some (6,false)}) (v:= ?vq200) rfl (by kernel_rfl) (by kernel_rfl) (by kernel_rfl) (fun _ _ _ h=>h) (Or.inl ⟨by rfl, ?hq200⟩) (by assumption) ?rq200
          case hq200=>intro W hSw;(try obtain⟨a0,a1,a2⟩:=HQ.out W hSw);go_simp;(try with_reducible rfl)
          try simp only[Act.put,q7_,List.set_cons_zero,List.set_cons_succ]
          refine wpAnyH_take (i:=9) (oi:={dst:=some 154,op:=Op.move (Operand.tmp 8),type:=3,pos:= "law.go:66",after:=#[{on:=6,ground:=Ground.guard}],guard:=some (6,false)}) (v:= ?vq201) rfl (by kernel_rfl) (by kernel_rfl) (by kernel_rfl) (fun _ _ _ h=>h) (Or.inl ⟨by rfl, ?hq201⟩) (by assumption) ?rq201
          case hq201=>intro W hSw;(try obtain⟨a0,a1,a2⟩:=HQ.out W hSw);go_simp;(try with_reducible rfl)
          try simp only[Act.put,q7_,List.set_cons_zero,List.set_cons_succ]
          refine wpAnyH_take (i:=10) (oi:={dst:=some 155,op:=Op.indexAddr 26 (Operand.tmp 153) (Operand.tmp 154),type:=0,pos:= "law.go:66",after:=#[{on:=8,ground:=Ground.data},{on:=9,ground:=Ground.data},{on:=6,ground:=Ground.guard}],guard:=some (6,false)}) (v:= ?vq202) rfl (by kernel_rfl) (by kernel_rfl) (by kernel_rfl) (fun _ _ _ h=>h) (Or.inl ⟨by rfl, ?hq202⟩) (by assumption) ?rq202
          case hq202=>intro W hSw;(try obtain⟨a0,a1,a2⟩:=HQ.out W hSw);go_simp;(try with_reducible rfl)
          try simp only[Act.put,q7_,List.set_cons_zero,List.set_cons_succ]
          refine wpAnyH_take (i:=11) (oi:={dst:=some 156,op:=Op.load 3 (Operand.tmp 155),type:=3,pos:= "law.go:66",after:=#[{on:=10,ground:=Ground.data},{on:=6,ground:=Ground.guard}],guard:=some (6,false)}) (v:= ?vq203) rfl (by kernel_rfl) (by kernel_rfl) (by kernel_rfl) (fun _ _ _ h=>h) (Or.inl ⟨by rfl, ?hq203⟩) (by assumption) ?rq203
          case hq203=>intro W hSw;(try obtain⟨a0,a1,a2⟩:=HQ.out W hSw);go_simp;(try with_reducible rfl)
          try simp only[Act.put,q7_,List.set_cons_zero,List.set_cons_succ]
          refine wpAnyH_take (i:=12) (oi:={dst:=some 157,op:=Op.fieldAddr 29 (Operand.tmp 1) 3,type:=0,pos:= "law.go:66",after:=#[{on:=6,ground:=Ground.guard}],guard:=some (6,false)}) (v:= ?vq204) rfl (by kernel_rfl) (by kernel_rfl) (by kernel_rfl) (fun _ _ _ h=>h) (Or.inl ⟨by rfl, ?hq204⟩) (by assumption) ?rq204
          case hq204=>intro W hSw;(try obtain⟨a0,a1,a2⟩:=HQ.out W hSw);go_simp;(try with_reducible rfl)
          try simp only[Act.put,q7_,List.set_cons_zero,List.set_cons_succ]
          refine wpAnyH_take (i:=13) (oi:={dst:=some 158,op:=Op.fieldAddr 25 (Operand.tmp 157) 1,type:=0,pos:= "law.go:66",after:=#[{on:=12,ground:=Ground.data},{on:=6,ground:=Ground.guard}],guard:=some (6,false)}) (v:= ?vq205) rfl (by kernel_rfl) (by kernel_rfl) (by kernel_rfl) (fun _ _ _ h=>h) (Or.inl ⟨by rfl, ?hq205⟩) (by assumption) ?rq205
          case hq205=>intro W hSw;(try obtain⟨a0,a1,a2⟩:=HQ.out W hSw);go_simp;(try with_reducible rfl)
          try simp only[Act.put,q7_,List.set_cons_zero,List.set_cons_succ]
          refine wpAnyH_take (i:=14) (oi:={dst:=some 159,op:=Op.load 23 (Operand.tmp 158),type:=23,pos:= "law.go:66",after:=#[{on:=13,ground:=Ground.data},{on:=6,ground:=Ground.guard}],guard:=some (6,false)}) (v:= ?vq206) rfl (by kernel_rfl) (by kernel_rfl) (by kernel_rfl) (fun _ _ _ h=>h) (Or.inl ⟨by rfl, ?hq206⟩) (by assumption) ?rq206
          case hq206=>intro W hSw;(try obtain⟨a0,a1,a2⟩:=HQ.out W hSw);go_simp;(try with_reducible rfl)
          try simp only[Act.put,q7_,List.set_cons_zero,List.set_cons_succ]
          refine wpAnyH_take (i:=15) (oi:={dst:=some 160,op:=Op.call {callee:=Callee.builtin Builtin.len,args:=#[Operand.tmp 159],argTypes:=#[23]},type:=3,pos:= "law.go:66",after:=#[{on:=14,ground:=Ground.data},{on:=6,ground:=Ground.guard}],guard:=some (6,false)}) (v:= ?vq207) rfl (by kernel_rfl) (by kernel_rfl) (by kernel_rfl) (fun _ _ _ h=>h) (Or.inl ⟨by rfl, ?hq207⟩) (by assumption) ?rq207
          case hq207=>intro W hSw;(try obtain⟨a0,a1,a2⟩:=HQ.out W hSw);go_simp;(try with_reducible rfl)
          try simp only[Act.put,q7_,List.set_cons_zero,List.set_cons_succ]
          refine wpAnyH_take (i:=16) (oi:={dst:=some 161,op:=Op.binOp BinOp.geq 3 (Operand.tmp 156) (Operand.tmp 160) 3,type:=4,pos:= "law.go:66",after:=#[{on:=11,ground:=Ground.data},{on:=15,ground:=Ground.data},{on:=6,ground:=Ground.guard}],guard:=some (6,false)}) (v:= ?vq208) rfl (by kernel_rfl) (by kernel_rfl) (by kernel_rfl) (fun _ _ _ h=>h) (Or.inl ⟨by rfl, ?hq208⟩) (by assumption) ?rq208
          case hq208=>intro W hSw;(try obtain⟨a0,a1,a2⟩:=HQ.out W hSw);go_simp;(try with_reducible rfl)
          try simp only[Act.put,q7_,List.set_cons_zero,List.set_cons_succ]
          refine wpAnyH_take (i:=17) (oi:={dst:=some 162,op:=Op.pick (Operand.tmp 151) (Operand.const (Value.bool true)) (Operand.tmp 161),type:=4,pos:= "law.go:66",after:=#[{on:=6,ground:=Ground.data},{on:=16,ground:=Ground.data}],guard:=none}) (v:= ?vq209) rfl (by kernel_rfl) (by kernel_rfl) (by kernel_rfl) (fun _ _ _ h=>h) (Or.inl ⟨by rfl, ?hq209⟩) (by assumption) ?rq209
          case hq209=>intro W hSw;(try obtain⟨a0,a1,a2⟩:=HQ.out W hSw);go_simp;(try with_reducible rfl)
          try simp only[Act.put,q7_,List.set_cons_zero,List.set_cons_succ]
          refine wpAnyH_done (by kernel_rfl) ?_ _;go_wp2
          go_roundw
          case rel=>exact⟨k+1,by omega,by go_num,by first | exact Hf.out | exact Fr.trans Hf.out hY_ q4_,by
           show (c.src.take (k+1)).all _=true
           rw[zao Hu.out Ha.out]
           exact hv.out⟩
          case measure=>simp[intOf];omega
         ·obtain rfl:sn=k:=by omega
          have hall:Hid (c.src.all (fun f=>inB f ((c.pl.length:Int)-1))=true):=by
           have:=Ha.out;rw[List.take_of_length_le (by rw[Hls.out];exact Nat.le_refl _)] at this;exact this
          clear hk Ha
          have hch:Hid (zax c=true):=by show _=_;exact znA hp1.out Hcp.out hall.out
          go_wp2
          try go_meet
          exact⟨_,rfl,hch.out,Hf.out⟩
    case rest=>
    obtain⟨W5,rfl,hch,hf5⟩:=hcut;have F5:=q0_ hf5;have HCh:=q0_ hch;clear hch hf5;go_wp2_with fail;refine zfJ (n:=4) (zqy HC HRe Hok Hle hme HTop HFl HCh F5 (q0_ fun hn a W ha hd hf=>?_) (q0_ fun hs x2 x9 x10 x11 x12 x13 x14 x163 x164 x165 x166 x167 x168 x169 x170 x171 x172 x173 x174 x175 x176 x177 x178 x179 x180 x181 x182 x183 x184 x185 x186 x187 x188 x189 x190 x191 x192 x193 x194 x195 x196 x197 x198 x199 x200 x201 x202 x203 x204 x205 x206 x207 x208 x209 x210 x211 x212 x213 x214 x215 x216 x217 x218 x219 x220 x221 x222 x223 x224 x225 x226 x227 x228 x229 x230 x231 x232 x233 x234 x235 x236 x237 x238 x239 x240 x241 x242 x243 x244 x245 x246 x247 x248 x249 x250 x251 x252 x253 x254 x255 x256 x257 x258 x259 x260 x261 x262 x263 x264 x265 x266 x267 x268 x269 x270 x271 x272 x273 x274 x275 x276 x277 x278 x279 x280 x281 x282 x283 x284 x285 x286 x287 x288 x289 x290 x291 x292 x293 x294 x295 x296 x297 x298 x299 x300 x301 x302 x303 x304 x305 x306 x307 x308 x309 x310 x311 x312 x313 x314 x315 x316 x317 x318 x319 x320 x321 x322 x323 x324 x325 x326 x327 x328 W hf=>?_))
    ·try simp only[Exit.inBlock,Exit.then]
     refine bodyPost_ret (results_tmp rfl _ _ _) hd ?_;rw[ha];exact⟨by rw[hn],(F1.out.trans hf q4_).below q4_⟩
    ·have Hs:=q0_ hs
     have Hf:=q0_ hf;clear hs hf;simp only[Exit.inBlock,Exit.then,if_true];go_wp2;go_ret;exact⟨by rw[Hs.out];rfl,(F1.out.trans Hf.out q4_).below q4_⟩
  
end
end Go.Proofs.YteajonicnkpbbaaGreatDoor
