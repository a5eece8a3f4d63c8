/- Walk of policy.Print. -/
import Derived.Test.YteajonicnkpbbaaGreatDoorFills
import Derived.Test.YteajonicnkpbbaaGreatDoorLift
import Derived.Lib.OthersKept
import Derived.Test.YteajonicnkpbbaaGreatDoorReachC
namespace Go.Proofs.YteajonicnkpbbaaGreatDoor
set_option linter.all false
set_option maxHeartbeats 8000000
set_option maxRecDepth 100000
open Go.RowKit Tryz
theorem zfz{T e:TypeId}{B b:Nat}{p:Value}{bs:List Value}{W W':World}(h:Lib.BuilderAtF T e B b p bs W)(hb:Below W.heap.size W W'):Lib.BuilderAtF T e B b p bs W':=by
 have hlt:=h.lt;obtain⟨hB,v,h1,hown,hne⟩:=h;exact⟨hB,v,(hb.block b hlt).trans h1,hown.kept (row:=none) ⟨hb.os,hb.tape,hb.output,hb.size,fun k hk _=>hb.block k hk⟩ (Classical.em _),hne⟩
def zdT(nm:ByteArray):ByteArray:=⟨#[112,111,108,105,99,121,32]⟩++nm++⟨#[10]⟩
theorem zdf(nm:ByteArray):(zdT nm).size=7+nm.size+1:=by
 unfold zdT;rw[ByteArray.size_append,ByteArray.size_append]
 rfl
theorem zhb{nm:ByteArray}{l:List zaa}(h:zal nm l=true):(zdT nm).size≤100∧l.length≤5∧∀ t∈l,t.name.size≤15:=by
 have hn:zau nm=true:=by
  cases hv:zau nm
  ·unfold zal at h
   simp[hv] at h
  ·rfl
 refine⟨?_,(zcD h).2,fun t ht=>?_⟩
 ·unfold zau at hn
  simp only[Bool.and_eq_true,decide_eq_true_eq] at hn;unfold zdT;rw[ByteArray.size_append,ByteArray.size_append];have e1:(⟨#[112,111,108,105,99,121,32]⟩:ByteArray).size=7:=rfl;have e2:(⟨#[10]⟩:ByteArray).size=1:=rfl;omega
 ·obtain⟨i,hi⟩:=List.getElem?_of_mem ht
  have hf:=zcy h hi
  cases hv:zau t.name
  ·unfold zb7 zaa.ok at hf
   simp[hv] at hf
  ·unfold zau at hv
   simp only[Bool.and_eq_true,decide_eq_true_eq] at hv;omega
theorem zjS{nm:ByteArray}{l:List zaa}:[]++Lib.strCells (zdT nm)=Lib.byteCells (zbx nm (l.take 0)):=by
 have e:(zdT nm).data.toList=zbx nm (l.take 0):=by
  unfold zdT zbx;rw[ByteArray.data_append,ByteArray.data_append];simp[zbI,zbe]
 rw[List.nil_append];unfold Lib.strCells;rw[e]
 rfl
theorem zhs:∀ (a:ByteArray) (r:List ByteArray),zbI (a::r)=a.data.toList++Lib.joinTail [32] (r.map (·.data.toList))
 | a,[]=>by simp[zbI,Lib.joinTail]
 | a,b::r=>by
  show a.data.toList++32::zbI (b::r)=_
  rw[zhs b r];simp[Lib.joinTail]
theorem zht(ws:List ByteArray):Lib.join (ws.map (·.data.toList)) [32]=zbI ws:=by
 cases ws with
 | nil=>rfl
 | cons a r=>rw[List.map_cons,Lib.join_cons,zhs]
theorem zkB(x:zaa)(h:x.name.size≤15)(hw:x.wf):(zbI (zaO x)).length≤200:=by
 have e1:=zib x.every hw.1.1 hw.1.2;have e2:=zib x.keep hw.2.1.1 hw.2.1.2;have e3:=zib x.shards hw.2.2.1.1 hw.2.2.1.2;have e4:=zcP x.name;unfold zaO;simp only[zbI,q8_,List.length_cons,zcP];have f:∀ v,(zaC (Lib.itoa v)).size=(Lib.itoa v).length:=fun v=>rfl;rw[f,f,f];have c1:ze7.size=4:=rfl;have c2:zdX.size=5:=rfl;have c3:zgS.size=4:=rfl;have c4:zcQ.size=6:=rfl;omega
theorem zjH(nm:ByteArray)(l:List zaa)(x:zaa):zbx nm (l++[x])=zbx nm l++(zbI (zaO x)++[10]):=by
 unfold zbx;rw[List.map_append, ← List.cons_append,List.flatMap_append];simp
theorem ziT(nm:ByteArray)(l:List zaa)(h:∀ t∈l,t.name.size≤15∧t.wf):(zbx nm l).length≤(zdT nm).size+l.length*201:=by
 unfold zbx;rw[List.flatMap_cons,q8_]
 have h1:(zbI [zbe,nm]++[10]).length=(zdT nm).size:=by
  rw[zdf];simp only[zbI,q8_,List.length_cons,zcP,List.length_nil];have c1:zbe.size=6:=rfl;omega
 rw[h1]
 have:∀ l:List zaa,(∀ t∈l,t.name.size≤15∧t.wf)→((l.map zaO).flatMap fun ws=>zbI ws++[10]).length≤l.length*201:=by
  intro l
  induction l with
  | nil=>intro _;simp
  | cons t l ih=>
   intro h;have a:=zkB t (h t (by simp)).1 (h t (by simp)).2;have b:=ih (fun u hu=>h u (List.mem_cons_of_mem _ hu));rw[List.map_cons,List.flatMap_cons,q8_,q8_,List.length_cons];simp only[List.length_cons,List.length_nil];omega
 have:=this l h;omega
theorem zlz{nm:ByteArray}{l:List zaa}{k:Nat}{x:zaa}{J:ByteArray}(hu:l[k]? =some x)(hJ:J.data.toList=zbI (zaO x)):Lib.byteCells (zbx nm (l.take (k+1)))=Lib.byteCells (zbx nm (l.take k))++Lib.strCells (J++⟨#[10]⟩):=by
 have e:(J++⟨#[10]⟩:ByteArray).data.toList=zbI (zaO x)++[10]:=by
  rw[ByteArray.data_append,Array.toList_append,hJ]
 rw[zan hu,zjH];unfold Lib.byteCells Lib.strCells;rw[List.map_append,e]
theorem ziU(nm:ByteArray)(hnm:nm.size≤maxLen)(l:List zaa)(A:Option Addr)(n c:Nat)(w:World)(hr:Rd w 4 A n (zaf l))(hnc:n≤c)(hwf:∀ t∈l,t.wf)(hti:Tab w):
  Calls prog 39 #[zdw nm A n c] w fun r w'=>r=.returned (.tuple #[.string (if zal nm l=true then zbl nm l else ByteArray.empty),.int .i64 (zeg (zal nm l))])∧Below w.heap.size w w':=by
 obtain⟨W0,hW0⟩:∃ W0,W0=w.alloc (.cells #[.string nm,.slice A n c] 25):=⟨_,rfl⟩
 have F0:Hid (Fr (fun _=>False) w W0):=by show Fr _ _ _;rw[hW0];exact Fr.none_alloc _ _
 have X0:Hid (Blk W0 w.heap.size 25 #[.string nm,.slice A n c]):=by show Blk _ _ _ _;rw[hW0];exact Blk.new _ _ _
 have HK:=q0_ (zeD nm hnm l A n c W0 (hr.fr0 F0.out) hnc (fun t ht=>(hwf t ht).2.2.2))
 have HC:Hid (∀ W,Fr (fun _=>False) W0 W→W.cell? ⟨w.heap.size,0,none⟩=some (.string nm)∧W.cell? ⟨w.heap.size,1,none⟩=some (.slice A n c)):=fun W f=>by
  have b:=X0.out.fr f (fun h=>h);exact⟨b.cell 0,b.cell 1⟩
 have HD:Hid (∀ W,Fr (fun _=>False) W0 W→∀ v:Int,i64 v→Calls prog 114 #[.int .i64 v] W fun r w'=>r=.returned (.string (zaC (Lib.itoa v)))∧Below W.heap.size W w'):=fun W f v hv=>by
  have f2:Fr (fun _=>False) w W:=F0.out.trans f q4_;exact zlL v hv.1 hv.2 W (hti.below (f2.below q4_))
 have HR:=q0_ (hr.fr0 F0.out);have HWF:=q0_ hwf;have HW0:=q0_ hW0;have Hlen:=q0_ hr.tiers_len;unfold zdw zeg at HK;unfold zdw zeg;clear hr hW0 hti hnm hnc hwf;obtain⟨x0,x1⟩:=HC.out W0 (Fr.refl _ _)
 cases hc:zal nm l
 ·rw[hc] at HK
  go_enter func39,ntmps39
  go_upto_region 1 with fail
  rw[← HW0.out];go_wp2_with fail;refine HK.out.mono ?_;rintro r w2 ⟨⟨k,rfl⟩,b2⟩;have B2:=q0_ b2;clear b2 x0 x1;go_wp2
  go_ret2
  exact⟨rfl,(F0.out.trans (Fr.b0 B2.out) q4_).below q4_⟩
 ·rw[hc] at HK
  have Hsz:=q0_ (zhb hc);have Hc:=q0_ hc
  have hn5:n≤5:=by have:=Hsz.out.2.1;rw[Hlen.out] at this;exact this
  clear hc;go_enter func39,ntmps39
  go_upto_region 1 with fail
  rw[← HW0.out];go_wp2_with fail;refine HK.out.mono ?_;rintro r w2 ⟨⟨k,rfl⟩,b2⟩;have F2:=q0_ (Fr.b0 b2);clear b2 x0 x1
  go_upto_region 5 with fail
  obtain⟨W3,hW3⟩:∃ W3,W3=w2.alloc (.cells #[.pointer none,.slice none 0 0] 161):=⟨_,rfl⟩
  rw[← hW3]
  have B3:Hid (Below w2.heap.size w2 W3):=by show Below _ _ _;rw[hW3];exact (Fr.none_alloc _ _).below q4_
  have hB3:Lib.IsBuilderF 161 5 w2.heap.size w2.heap.size [] W3:=by rw[hW3];exact Lib.IsBuilderF.of (Lib.fresh_isBuilder _ _ _)
  have HW:=q0_ (zgA w2.heap.size w2.heap.size [] (zdT nm) W3 hB3 (by have:=Hsz.out.1;simp;omega) B3.out.size);obtain⟨x0,x1⟩:=HC.out W3 (F2.out.trans (Fr.b0 B3.out) q4_)
  have s1:¬ (7+nm.size>9223372036854775807):=by have:=Hsz.out.1;have e:=zdf nm;omega
  have s2:¬ (7+nm.size+1>9223372036854775807):=by have:=Hsz.out.1;have e:=zdf nm;omega
  clear hW3 hB3;go_wp2_with fail;refine (show Calls _ _ _ _ _ from HW.out).mono ?_;rintro r w4 ⟨rfl,a4,b4,_⟩
  have A4:Hid (Lib.BuilderAtF 161 5 w2.heap.size w2.heap.size (.pointer (some ⟨w2.heap.size,0,none⟩)) (Lib.byteCells (zbx nm (l.take 0))) w4):=by show Lib.BuilderAtF _ _ _ _ _ _ _;rw[← zjS];exact a4
  have B4:Hid (Below w2.heap.size w2 w4):=B3.out.trans b4;obtain⟨y0,y1⟩:=HC.out w4 (F2.out.trans (Fr.b0 B4.out) q4_);clear a4 b4 x0 x1 s1 s2 HW;go_wp2_with fail;clear y0 y1
  go_loopw [26] (fun i wr=>∃ k:Nat,k≤n∧i=.int .i64 k∧Lib.BuilderAtF 161 5 w2.heap.size w2.heap.size (.pointer (some ⟨w2.heap.size,0,none⟩)) (Lib.byteCells (zbx nm (l.take k))) wr∧Below w2.heap.size w2 wr) (fun i _=>n-(intOf i).toNat)
  case atStart=>exact⟨0,Nat.zero_le _,rfl,A4.out,B4.out⟩
  case round=>
   obtain⟨k,hk,rfl,ha,hb⟩:=hrel;have Fw:Hid (Fr (fun _=>False) W0 wr):=F2.out.trans (Fr.b0 hb) q4_;have Ha:=q0_ ha;have Hb:=q0_ hb;clear A4 B4
   by_cases hlt:k<n
   ·obtain⟨ad,x,rfl,hu,d0,d1,d2,d3⟩:=(HR.out.fr0 Fw.out).tier hlt
    have Hu:=q0_ hu;have Hx:=q0_ (HWF.out x (zab hu));clear ha hb hu
    go_upto_region 9 with fail
    obtain⟨W1,hW1⟩:∃ W1,W1=wr.alloc (.cells #[.string x.name,.int .i64 x.every,.int .i64 x.keep,.int .i64 x.shards] 99):=⟨_,rfl⟩
    rw[← hW1]
    have Xt:Hid (Blk W1 wr.heap.size 99 #[.string x.name,.int .i64 x.every,.int .i64 x.keep,.int .i64 x.shards]):=by show Blk _ _ _ _;rw[hW1];exact Blk.new _ _ _
    have HCt:Hid (∀ W,Fr (fun _=>False) W1 W→W.cell? ⟨wr.heap.size,0,none⟩=some (.string x.name)∧W.cell? ⟨wr.heap.size,1,none⟩=some (.int .i64 x.every)∧W.cell? ⟨wr.heap.size,2,none⟩=some (.int .i64 x.keep)∧W.cell? ⟨wr.heap.size,3,none⟩=some (.int .i64 x.shards)):=fun W f=>by
     have b:=Xt.out.fr f (fun h=>h);exact⟨b.cell 0,b.cell 1,b.cell 2,b.cell 3⟩
    have fw1:Fr (fun _=>False) wr W1:=by rw[hW1];exact Fr.none_alloc _ _
    have Fw1:=q0_ fw1;have F1:Hid (Fr (fun _=>False) W0 W1):=Fw.out.trans fw1 q4_;clear hW1 d0 d1 d2 d3 fw1;refine wp_region_held_drew (S:=fun W=>Fr (fun _=>False) W1 W) (by kernel_rfl) ((Fr.refl _ W1).drew) (fun hY_=>?_);refine tq 8 [0,1,2,3,5,6,8,9] ?_
    iterate 7 refine sf HCt.out ?_
    refine sf HCt.out ?_
    try simp only[Act.put,sA,sB,sC]
    refine sz ?_
    try simp only[Act.put,sA,sB,sC]
    refine rl 4 rfl (fun K hK=>?_);go_simp
    go_wp2_with (go_at_call 114;refine (HD.out _ (F1.out.trans hY_ q4_) x.every Hx.out.1).mono ?_;rintro r wa ⟨rfl,ba⟩)
    refine hK.out _ _ (hY_.trans (Fr.b0 ba) q4_) (fun hY_=>?_);clear hK K
    try simp only[Act.put,sA,sB,sC]
    refine rl 7 rfl (fun K hK=>?_);go_simp
    go_wp2_with (go_at_call 114;refine (HD.out _ (F1.out.trans hY_ q4_) x.keep Hx.out.2.1).mono ?_;rintro r wa ⟨rfl,ba⟩)
    refine hK.out _ _ (hY_.trans (Fr.b0 ba) q4_) (fun hY_=>?_);clear hK K
    try simp only[Act.put,sA,sB,sC]
    refine rl 10 rfl (fun K hK=>?_);go_simp
    go_wp2_with (go_at_call 114;refine (HD.out _ (F1.out.trans hY_ q4_) x.shards Hx.out.2.2.1).mono ?_;rintro r wa ⟨rfl,ba⟩)
    refine hK.out _ _ (hY_.trans (Fr.b0 ba) q4_) (fun hY_=>?_);clear hK K
    try simp only[Act.put,sA,sB,sC]
    refine rl 11 rfl (fun K hK=>?_);go_simp;refine hK.out _ _ (hY_.alloc _) (fun hY_=>?_);clear hK K;refine tl 12 ?v9 rfl ?q9 ?r9
    case q9=>intro W hSw;(try obtain⟨z0,z1,z2,z3⟩:=HCt.out W hSw);go_simp;try rfl
    try simp only[Act.put,sA,sB,sC]
    refine wpAnyH_done (by kernel_rfl) ?_ _
    obtain⟨W5,hW5⟩:∃ W5,W5=wa.alloc (.cells #[.string {data:=#[116,105,101,114]},.string x.name,.string {data:=#[101,118,101,114,121]},.string (zaC (Lib.itoa x.every)),.string {data:=#[107,101,101,112]},.string (zaC (Lib.itoa x.keep)),.string {data:=#[115,104,97,114,100,115]},.string (zaC (Lib.itoa x.shards))] 9):=⟨_,rfl⟩
    have F5:Hid (Fr (fun _=>False) wr W5):=by show Fr _ _ _;rw[hW5];exact Fw1.out.trans hY_ q4_
    have X5:Blk W5 wa.heap.size 9 #[.string ze7,.string x.name,.string zdX,.string (zaC (Lib.itoa x.every)),.string zgS,.string (zaC (Lib.itoa x.keep)),.string zcQ,.string (zaC (Lib.itoa x.shards))]:=by rw[hW5];exact Blk.new _ _ _
    have HL:=q0_ (zkB x (Hsz.out.2.2 x (zab Hu.out)) Hx.out)
    obtain⟨J,hJ⟩:∃ J,J=zaC (zbI (zaO x)):=⟨_,rfl⟩
    have HJ:Hid (Calls prog 115 #[.slice (some ⟨wa.heap.size,0,none⟩) 8 8,.string ⟨#[32]⟩] W5 fun e w'=>e=.returned (.string J)∧Below W5.heap.size W5 w'):=by
     have:=Tryz.strings_Join wa.heap.size 0 8 (zaO x) ⟨#[32]⟩ W5 (fun j y hy=>?_) X5.lt (by show 8≤_;omega) (Nat.le_refl 8) (by rw[show (⟨#[32]⟩:ByteArray).data.toList=[32] from rfl,zht];have:=HL.out;omega)
     ·rw[show (⟨#[32]⟩:ByteArray).data.toList=[32] from rfl,zht] at this
      rw[hJ];exact this
     ·rw[Nat.zero_add,X5.cell j]
      match j,hy with
      | 0,hy | 1,hy | 2,hy | 3,hy | 4,hy | 5,hy | 6,hy | 7,hy=>cases hy;rfl
      | j+8,hy=>simp[zaO] at hy
    have HJs:Hid (J.size≤200):=by show _≤_;rw[hJ];exact HL.out
    have HJd:Hid (J.data.toList=zbI (zaO x)):=by show _=_;rw[hJ];rfl
    have HR5:Hid (Below wr.heap.size wr W5):=F5.out.below q4_
    have s1:¬ (J.size+1>9223372036854775807):=by have:=HJs.out;omega
    clear hJ X5 hY_ HCt Xt Fw1;rw[← hW5];clear hW5;go_wp2_with fail;refine (show Calls _ _ _ _ _ from HJ.out).mono ?_;rintro r w6 ⟨rfl,b6⟩;have R6:Hid (Below wr.heap.size wr w6):=((Fr.b0 HR5.out).trans (Fr.b0 b6) q4_).below q4_;have A6:Lib.BuilderAtF 161 5 w2.heap.size w2.heap.size (.pointer (some ⟨w2.heap.size,0,none⟩)) (Lib.byteCells (zbx nm (l.take k))) w6:=zfz Ha.out R6.out
    have HW:=q0_ (zgA w2.heap.size w2.heap.size _ (J++⟨#[10]⟩) w6 (.inr A6) (by
     have h1:=ziT nm (l.take k) (fun t ht=>⟨Hsz.out.2.2 t (List.mem_of_mem_take ht),HWF.out t (List.mem_of_mem_take ht)⟩);have h2:=Hsz.out.1;have h3:=zdf nm
     have h4:(l.take k).length≤5:=by rw[List.length_take];have:=Hsz.out.2.1;omega
     have h5:=HJs.out;rw[ByteArray.size_append,show (⟨#[10]⟩:ByteArray).size=1 from rfl];unfold Lib.byteCells;rw[List.length_map]
     omega) (Nat.le_trans Hb.out.size R6.out.size))
    clear b6 A6;go_wp2_with fail;refine (show Calls _ _ _ _ _ from HW.out).mono ?_;rintro r w7 ⟨rfl,a7,b7,_⟩
    have A7:Hid (Lib.BuilderAtF 161 5 w2.heap.size w2.heap.size (.pointer (some ⟨w2.heap.size,0,none⟩)) (Lib.byteCells (zbx nm (l.take (k+1)))) w7):=by show Lib.BuilderAtF _ _ _ _ _ _ _;rw[zlz Hu.out HJd.out];exact a7
    have B7:Hid (Below w2.heap.size w2 w7):=Hb.out.trans (((Fr.b0 R6.out).below_of (B:=w2.heap.size) Hb.out.size q4_).trans b7);clear a7 b7 s1 HW;go_wp2
    go_roundw
    case rel=>exact⟨k+1,by omega,by go_num,A7.out,B7.out⟩
    case measure=>simp[intOf];omega
   ·obtain rfl:k=n:=by omega
    have hl:l.take k=l:=List.take_of_length_le (by rw[Hlen.out];exact Nat.le_refl _);rw[hl] at ha;have HS:=q0_ (Tryz.Builder_String_f w2.heap.size w2.heap.size (zbx nm l) wr (.inr ha) (by unfold zbx;simp[zbI]));clear ha hb hl;go_wp2_with fail;refine (show Calls _ _ _ _ _ from HS.out).mono ?_;rintro r w8 ⟨rfl,_,b8⟩;have B8:Hid (Fr (fun _=>False) w w8):=(F0.out.trans F2.out q4_).trans (Fr.b0 (Hb.out.trans b8)) q4_;clear b8;go_wp2
    go_ret2
    exact⟨rfl,B8.out.below q4_⟩
def PS(w W:World)(g:Nat)(K:Nat→Prop)(l:List UInt8):Prop:=
 ∃ F,Pk W g F 0 l∧(∀ k,F k→¬ K k)∧Fr (fun k=>¬ K k) w W∧∀ k,K k→k<W.heap.size
section
variable {w W W':World} {g:Nat} {K:Nat→Prop} {l:List UInt8}
theorem PS.fr(h:PS w W g K l):Fr (fun k=>¬ K k) w W:=by
 obtain⟨F,_,_,f,_⟩:=h;exact f
theorem PS.new(hf:Fr (fun k=>¬ K k) w W)(hK:∀ k,K k→k<W.heap.size):PS w (W.alloc (.cells #[.int .i64 0,.slice none 0 0] 106)) W.heap.size K []:=by
 have p:=Pk.new W;exact⟨_,p.1,fun k hk hk2=>by have:=p.2 k hk;have:=hK k hk2;omega,hf.alloc _,fun k hk=>by have:=hK k hk;have:=(Fr.none_alloc W (.cells #[.int .i64 0,.slice none 0 0] 106)).size;omega⟩
theorem PS.fr0(h:PS w W g K l)(f:Fr (fun _=>False) W W'):PS w W' g K l:=by
 obtain⟨F,hp,h1,h2,h3⟩:=h;exact⟨F,hp.fr f (fun _ _ h=>h),h1,h2.trans f q4_,fun k hk=>Nat.lt_of_lt_of_le (h3 k hk) f.size⟩
theorem PS.base(h:PS w W g K l)(o:Obj):PS (W.alloc o) (W.alloc o) g (fun k=>K k∨k=W.heap.size) l:=by
 obtain⟨F,hp,h1,h2,h3⟩:=h
 have hs:(W.alloc o).heap.size=W.heap.size+1:=by show (W.heap.push o).size=_;rw[Array.size_push]
 refine⟨F,hp.fr (Fr.none_alloc _ _) (fun _ _ h=>h),fun k hk hk2=>?_,Fr.refl _ _,fun k hk=>?_⟩
 ·rcases hk2 with hk2 | hk2
  ·exact h1 k hk hk2
  ·have:=hp.lt k hk;omega
 ·rcases hk with hk | hk
  ·have:=h3 k hk;omega
  ·omega
theorem PS.back{w0:World}{K0:Nat→Prop}(h:PS w W g K l)(f:Fr (fun k=>¬ K0 k) w0 w)(hK:∀ k,K0 k→K k)(h0:∀ k,K0 k→k<w.heap.size):PS w0 W g K0 l:=by
 obtain⟨F,hp,h1,h2,h3⟩:=h;exact⟨F,hp,fun k hk hk2=>h1 k hk (hK k hk2),f.trans h2 (fun k hk=>.inl (fun h=>hk (hK k h))),fun k hk=>h3 k (hK k hk)⟩
theorem PS.mv{F F':Nat→Prop}{l':List UInt8}(h1:∀ k,F k→¬ K k)(h2:Fr (fun k=>¬ K k) w W)(h3:∀ k,K k→k<W.heap.size)(hp:Pk W' g F' 0 l')(m:Mv F F' W W'):PS w W' g K l':=
 ⟨F',hp,fun k hk hk2=>by
  rcases m.sub k hk with h | h
  ·exact h1 k h hk2
  ·have:=h3 k hk2;omega,h2.trans m.fr (fun k hk=>.inl (h1 k hk)),fun k hk=>Nat.lt_of_lt_of_le (h3 k hk) m.size⟩
def smB(k:Nat)(vs:List Int):List UInt8:=vs.flatMap fun v=>le v.toNat k
theorem zfQ{size:Int}:∀ {vs:List Int} {l:List UInt8},(∀ v∈vs,zbg size v=true)→zcj size l vs=(0,l++smB size.toNat vs)
 | [],l,_=>by simp[zcj,smB]
 | v::vs,l,h=>by
  simp only[zcj];rw[if_pos (h v (by simp)),zfQ (fun x hx=>h x (List.mem_cons_of_mem _ hx))];simp[smB]
theorem zhe{size:Int}{vs:List Int}{l:List UInt8}(h0:zbg size 0=true)(h:∀ v∈vs,zbg size v=true):zf5 size 0 l vs=(0,l++smB size.toNat vs):=by
 unfold zf5;rw[if_pos rfl,if_pos h0,zfQ h]
theorem zku(h:PS w W g K l)(vs:List Int)(n:Nat)(hn:vs.length=n)(hv:∀ x∈vs,0≤x)(hl:l.length+8*n≤1099511627776):
  Calls prog 41 #[.pointer (some ⟨g,0,none⟩),.slice (some ⟨W.heap.size,0,none⟩) n n] (W.alloc (.cells (vs.map (Value.int .u64)).toArray 22)) fun r w'=>r=.returned (.tuple #[])∧PS w w' g K (l++smB 8 vs):=by
 have h0:=h.fr0 (Fr.none_alloc W (.cells (vs.map (Value.int .u64)).toArray 22));obtain⟨F,hp,h1,h2,h3⟩:=h;obtain⟨_,_,_,k2,k3⟩:=h0;refine (zit g F 0 l vs _ n n _ (hp.fr (Fr.none_alloc _ _) (fun _ _ h=>h)) (Rd.new _ _ _ _ (by rw[List.length_map];exact hn)) (zio hp.lt) hv hl).mono ?_;rintro r w' ⟨rfl,F',hp',m⟩;refine⟨rfl,PS.mv h1 k2 k3 ?_ m⟩;simpa[pW,smB] using hp'
theorem zmH(h:PS w W g K l)(vs:List Int)(n:Nat)(hn:vs.length=n)(hl:l.length+8*n≤1099511627776):
  Calls prog 42 #[.pointer (some ⟨g,0,none⟩),.slice (some ⟨W.heap.size,0,none⟩) n n] (W.alloc (.cells (vs.map (Value.int .i64)).toArray 3)) fun r w'=>r=.returned (.tuple #[])∧PS w w' g K (l++le8 vs):=by
 have h0:=h.fr0 (Fr.none_alloc W (.cells (vs.map (Value.int .i64)).toArray 3));obtain⟨F,hp,h1,h2,h3⟩:=h;obtain⟨_,_,_,k2,k3⟩:=h0;refine (zkK g F 0 l vs _ n n _ (hp.fr (Fr.none_alloc _ _) (fun _ _ h=>h)) (Rd.new _ _ _ _ (by rw[List.length_map];exact hn)) (zio hp.lt) hl).mono ?_;rintro r w' ⟨rfl,F',hp',m⟩;refine⟨rfl,PS.mv h1 k2 k3 ?_ m⟩;simpa[pW] using hp'
theorem zh6(h:PS w W g K l)(size:Int)(vs:List Int)(n:Nat)(hn:vs.length=n)(hs:zbg size 0=true)(hv:∀ v∈vs,zbg size v=true)(hl:l.length+8*n≤1099511627776):
  Calls prog 44 #[.pointer (some ⟨g,0,none⟩),.int .i64 size,.slice (some ⟨W.heap.size,0,none⟩) n n] (W.alloc (.cells (vs.map (Value.int .i64)).toArray 3)) fun r w'=>r=.returned (.tuple #[])∧PS w w' g K (l++smB size.toNat vs):=by
 have h0:=h.fr0 (Fr.none_alloc W (.cells (vs.map (Value.int .i64)).toArray 3));obtain⟨F,hp,h1,h2,h3⟩:=h;obtain⟨_,_,_,k2,k3⟩:=h0;refine (ziE g F 0 size l vs _ n n _ (hp.fr (Fr.none_alloc _ _) (fun _ _ h=>h)) (Rd.new _ _ _ _ (by rw[List.length_map];exact hn)) (zio hp.lt) hl).mono ?_;rintro r w' ⟨rfl,F',hp',m⟩;rw[zhe hs hv] at hp';exact⟨rfl,PS.mv h1 k2 k3 hp' m⟩
theorem zln(h:PS w W g K l)(vs:List Int)(A:Option Addr)(n c:Nat)(hr:Rd W 1 A n (vs.map (Value.int .i64)))(hA:∀ k,adF A n k→K k)(hl:l.length+8*n≤1099511627776):
  Calls prog 42 #[.pointer (some ⟨g,0,none⟩),.slice A n c] W fun r w'=>r=.returned (.tuple #[])∧PS w w' g K (l++le8 vs):=by
 obtain⟨F,hp,h1,h2,h3⟩:=h;refine (zkK g F 0 l vs A n c W hp hr (fun k hk hF=>h1 k hF (hA k hk)) hl).mono ?_;rintro r w' ⟨rfl,F',hp',m⟩;refine⟨rfl,PS.mv h1 h2 h3 ?_ m⟩;simpa[pW] using hp'
theorem zf3(h:PS w W g K l)(size:Int)(vs:List Int)(A:Option Addr)(n c:Nat)(hr:Rd W 1 A n (vs.map (Value.int .i64)))(hA:∀ k,adF A n k→K k)(hs:zbg size 0=true)(hv:∀ v∈vs,zbg size v=true)(hl:l.length+8*n≤1099511627776):
  Calls prog 44 #[.pointer (some ⟨g,0,none⟩),.int .i64 size,.slice A n c] W fun r w'=>r=.returned (.tuple #[])∧PS w w' g K (l++smB size.toNat vs):=by
 obtain⟨F,hp,h1,h2,h3⟩:=h;refine (ziE g F 0 size l vs A n c W hp hr (fun k hk hF=>h1 k hF (hA k hk)) hl).mono ?_;rintro r w' ⟨rfl,F',hp',m⟩;rw[zhe hs hv] at hp';exact⟨rfl,PS.mv h1 h2 h3 hp' m⟩
theorem zmG(h:PS w W g K l)(s:ByteArray)(hl:l.length≤549755813888)(hs:s.size≤60000):
  Calls prog 43 #[.pointer (some ⟨g,0,none⟩),.string s] W fun r w'=>r=.returned (.tuple #[])∧PS w w' g K (l++zcF s):=by
 obtain⟨F,hp,h1,h2,h3⟩:=h;refine (zn1 g F 0 l s W hp hl (by omega)).mono ?_;rintro r w' ⟨rfl,F',hp',m⟩
 have e:zjK 0 l s=(0,l++zcF s):=by unfold zjK;rw[if_pos rfl,if_neg (by omega)]
 rw[e] at hp';exact⟨rfl,PS.mv h1 h2 h3 hp' m⟩
theorem zpX(h:PS w W g K l)(hl:l.length≤1099511627776):Calls prog 45 #[.pointer (some ⟨g,0,none⟩)] W fun r w'=>r=.returned (.int .i64 l.length)∧W=w':=by
 obtain⟨F,hp,_⟩:=h;exact zpt g F 0 l W hp hl
theorem zpl(h:PS w W g K l):Calls prog 46 #[.pointer (some ⟨g,0,none⟩)] W fun r w'=>r=.returned (.tuple #[.string (zaC l),.int .i64 0])∧W=w':=by
 obtain⟨F,hp,_⟩:=h;exact zpF g F l W hp
end
def zi8(x:za5):List UInt8:=smB 8 [x.id]++(smB 1 [x.tier,x.shard]++(smB 2 [(x.bl.length:Int)]++smB 2 x.bl))
def zb0(c:zbf):ByteArray:=if zbV c=true then zbl c.nm2 c.pl2 else ByteArray.empty
def zm7(c:zbf):List UInt8:=smB 8 [c.gen,c.id]++le8 [c.now]++zcF (zbl c.nm c.pl)++le8 c.fl++zcF (zb0 c)++smB 1 c.src++le8 [c.bound,c.done]++smB 2 [(c.es.length:Int)]
def zea(c:zbf):List UInt8:=zm7 c++c.es.flatMap zi8
def zh3(c:zbf):ByteArray×Int:=if zbd c=true then (if 40000<(zea c).length then (ByteArray.empty,2) else (zaC (zea c),0)) else (ByteArray.empty,1)
structure RS where
 e:Int
 b:List UInt8
def za3{α:Type}(R:RS→RS×α):Prop:=∀ s,(R s).1.e=0→s.e=0∧∀ t,R ⟨0,s.b++t⟩=(⟨0,(R s).1.b++t⟩,(R s).2)
def Enc{α:Type}(R:RS→RS×α)(l:List UInt8)(v:α):Prop:=∀ t,R ⟨0,l++t⟩=(⟨0,t⟩,v)
def zbY{α β:Type}(R:RS→RS×α)(f:α→RS→RS×β):RS→RS×β:=fun s=>f (R s).2 (R s).1
def zis{α:Type}(a:α):RS→RS×α:=fun s=>(s,a)
theorem za3.ret{α:Type}(a:α):za3 (zis a):=fun _ h=>⟨h,fun _=>rfl⟩
theorem za3.bind{α β:Type}{R:RS→RS×α}{f:α→RS→RS×β}(h:za3 R)(k:∀ a,za3 (f a)):za3 (zbY R f):=by
 intro s hs;obtain⟨h1,h2⟩:=k (R s).2 (R s).1 hs;obtain⟨h3,h4⟩:=h s h1;refine⟨h3,fun t=>?_⟩
 show f (R ⟨0,s.b++t⟩).2 (R ⟨0,s.b++t⟩).1=_
 rw[h4 t];exact h2 t
theorem Enc.ret{α:Type}(a:α):Enc (zis a) [] a:=fun _=>rfl
theorem Enc.bind{α β:Type}{R:RS→RS×α}{f:α→RS→RS×β}{l m:List UInt8}{a:α}{b:β}(h:Enc R l a)(k:Enc (f a) m b):Enc (zbY R f) (l++m) b:=by
 intro t
 show f (R ⟨0,l++m++t⟩).2 (R ⟨0,l++m++t⟩).1=_
 rw[List.append_assoc,h (m++t)];exact k t
def zjG(n:Nat)(s:RS):RS×List UInt8:=(⟨(za7 s.e s.b n).1,(za7 s.e s.b n).2.1⟩,(za7 s.e s.b n).2.2)
theorem za3.take(n:Nat):za3 (zjG n):=by
 rintro⟨e,b⟩ hs;unfold zjG za7 at hs ⊢;dsimp only at hs ⊢
 by_cases h0:e=0
 ·subst h0
  rw[if_pos rfl] at hs
  by_cases h1:b.length<n
  ·rw[if_pos h1] at hs;cases hs
  ·refine⟨rfl,fun t=>?_⟩
   have h2:¬ (b++t).length<n:=by rw[q8_];omega
   simp only[if_pos,if_neg h1,if_neg h2];rw[List.drop_append_of_le_length (by omega),List.take_append_of_le_length (by omega)]
 ·rw[if_neg h0] at hs
  exact absurd hs h0
theorem Enc.take(l:List UInt8):Enc (zjG l.length) l l:=fun t=>by
 unfold zjG;rw[ziv rfl]
def zcA:RS→RS×Int:=zbY (zjG 8) fun l=>zis (zcI l:Int)
def ze_:RS→RS×Int:=zbY (zjG 8) fun l=>zis (sgn (zcI l))
def zaB(k:Int)(s:RS):RS×Int:=(⟨(zca k s.e s.b).1,(zca k s.e s.b).2.1⟩,((zca k s.e s.b).2.2:Int))
def zdp(s:RS):RS×ByteArray:=(⟨(zd0 s.e s.b).1,(zd0 s.e s.b).2.1⟩,zaC (zd0 s.e s.b).2.2)
theorem za3.word:za3 zcA:=za3.bind (za3.take 8) (fun _=>za3.ret _)
theorem za3.int:za3 ze_:=za3.bind (za3.take 8) (fun _=>za3.ret _)
theorem za3.small{k:Int}(hk:zbg k 0=true):za3 (zaB k):=by
 rintro⟨e,b⟩ hs;have hg:=za3.take k.toNat ⟨e,b⟩;unfold zjG at hg;unfold zaB zca at hs ⊢;dsimp only at hs hg ⊢
 by_cases h0:e=0
 ·subst h0
  rw[if_pos rfl,if_pos hk] at hs;obtain⟨_,h2⟩:=hg hs;refine⟨rfl,fun t=>?_⟩;have:=h2 t;simp only[Prod.mk.injEq,RS.mk.injEq] at this;simp only[if_pos,if_pos hk,this.1.1,this.1.2,this.2]
 ·rw[if_neg h0] at hs
  exact absurd hs h0
theorem za3.text:za3 zdp:=by
 rintro⟨e,b⟩ hs;unfold zdp zd0 at hs ⊢;dsimp only at hs ⊢
 by_cases h0:e=0
 ·subst h0
  rw[if_pos rfl] at hs
  by_cases h1:b.length<2
  ·rw[if_pos h1] at hs;cases hs
  ·rw[if_neg h1] at hs
   by_cases h2:b.length-2<zcI (b.take 2)
   ·rw[if_pos h2] at hs;cases hs
   ·refine⟨rfl,fun t=>?_⟩
    have e1:(b++t).take 2=b.take 2:=List.take_append_of_le_length (by omega)
    have h3:¬ (b++t).length<2:=by rw[q8_];omega
    have h4:¬ (b++t).length-2<zcI (b.take 2):=by rw[q8_];omega
    simp only[if_pos,if_neg h1,if_neg h2,if_neg h3,e1,if_neg h4];rw[List.drop_append_of_le_length (by omega),List.drop_append_of_le_length (by omega),List.take_append_of_le_length (by rw[List.length_drop];omega)]
 ·rw[if_neg h0] at hs
  exact absurd hs h0
theorem Enc.word{x:Int}(h:0≤x∧x<18446744073709551616):Enc zcA (le x.toNat 8) x:=by
 have h1:=Enc.take (le x.toNat 8);rw[zbA] at h1
 have h2:Enc (zis (zcI (le x.toNat 8):Int)) [] x:=by
  rw[zky _ (by omega),Int.toNat_of_nonneg h.1];exact Enc.ret x
 have:=Enc.bind (f:=fun l=>zis (zcI l:Int)) h1 h2;rwa[List.append_nil] at this
theorem Enc.int{x:Int}(h:zbT x):Enc ze_ (le (u64 x) 8) x:=by
 have h1:=Enc.take (le (u64 x) 8);rw[zbA] at h1
 have h2:Enc (zis (sgn (zcI (le (u64 x) 8)))) [] x:=by
  rw[zky _ (zpS x),zpe h.1 h.2];exact Enc.ret x
 have:=Enc.bind (f:=fun l=>zis (sgn (zcI l))) h1 h2;rwa[List.append_nil] at this
theorem Enc.small{k v:Int}(h:zbg k v=true):Enc (zaB k) (le v.toNat k.toNat) v:=by
 intro t;unfold zaB;dsimp only
 have hv:0≤v:=by unfold zbg at h;have:=of_decide_eq_true h;omega
 have hb:zca k 0 (le v.toNat k.toNat++t)=(0,t,v.toNat):=by
  unfold zbg at h;obtain⟨a,b,c,d⟩:=of_decide_eq_true h;have h0:zbg k 0=true:=qa_ ⟨a,b,Int.le_refl _,by have:(0:Int)<256 ^ k.toNat:=Int.pow_pos (by decide);omega⟩
  have hd:v.toNat<256 ^ k.toNat:=by
   have h2:((v.toNat:Nat):Int)<((256 ^ k.toNat:Nat):Int):=by rw[Int.natCast_pow];rw[Int.toNat_of_nonneg c];exact d
   exact Int.ofNat_lt.1 h2
  unfold zca;rw[if_pos rfl,if_pos h0,ziv (zbA _ _),zjN,Nat.mod_eq_of_lt hd]
 rw[hb];dsimp only;rw[Int.toNat_of_nonneg hv]
theorem Enc.text{s:ByteArray}(h:s.size≤60000):Enc zdp (zcF s) s:=by
 intro t;unfold zdp;dsimp only;rw[zl_ h]
 rfl
def zbq{α:Type}(R:RS→RS×α):Nat→RS→RS×List α
 | 0=>zis []
 | n+1=>zbY R fun a=>zbY (zbq R n) fun l=>zis (a::l)
theorem za3.many{α:Type}{R:RS→RS×α}(h:za3 R):∀ n,za3 (zbq R n)
 | 0=>za3.ret _
 | n+1=>za3.bind h (fun _=>za3.bind (za3.many h n) (fun _=>za3.ret _))
theorem Enc.many{α:Type}{R:RS→RS×α}{enc:α→List UInt8}:∀ {l:List α},(∀ x∈l,Enc R (enc x) x)→Enc (zbq R l.length) (l.flatMap enc) l
 | [],_=>Enc.ret _
 | x::l,h=>by
  have h1:=Enc.many (fun y hy=>h y (List.mem_cons_of_mem _ hy));have h2:=Enc.bind (f:=fun a=>zbY (zbq R l.length) fun l=>zis (a::l)) (h x (by simp)) (Enc.bind (f:=fun l=>zis (x::l)) h1 (Enc.ret (x::l)));rw[List.append_nil] at h2;exact h2
def za4{α:Type}(R:RS→RS×α):Nat→RS→RS×List α
 | 0,s=>(s,[])
 | n+1,s=>if s.e=0 then zbY R (fun a=>zbY (za4 R n) fun l=>zis (a::l)) s else (s,[])
theorem zfY{α:Type}{R:RS→RS×α}(hR:za3 R):∀ {n:Nat} {s:RS},(za4 R n s).1.e=0→za4 R n s=zbq R n s
 | 0,s,_=>rfl
 | n+1,s,h=>by
  unfold za4 at h ⊢
  by_cases h0:s.e=0
  ·rw[if_pos h0] at h ⊢
   have h1:(za4 R n (R s).1).1.e=0:=h;have h2:=zfY hR h1
   show ((za4 R n (R s).1).1,(R s).2::(za4 R n (R s).1).2)=((zbq R n (R s).1).1,(R s).2::(zbq R n (R s).1).2)
   rw[h2]
  ·rw[if_neg h0] at h
   exact absurd h h0
theorem zd9{α:Type}{R:RS→RS×α}(hR:za3 R):∀ {n:Nat} {s:RS},(zbq R n s).1.e=0→za4 R n s=zbq R n s
 | 0,s,_=>rfl
 | n+1,s,h=>by
  have h0:=(za3.many hR (n+1) s h).1;unfold za4;rw[if_pos h0];have h1:(zbq R n (R s).1).1.e=0:=h;have h2:=zd9 hR h1
  show ((za4 R n (R s).1).1,(R s).2::(za4 R n (R s).1).2)=((zbq R n (R s).1).1,(R s).2::(zbq R n (R s).1).2)
  rw[h2]
theorem za3.while_{α:Type}{R:RS→RS×α}(h:za3 R)(n:Nat):za3 (za4 R n):=by
 intro s hs;have e:=zfY h hs;rw[e] at hs;obtain⟨h1,h2⟩:=za3.many h n s hs;refine⟨h1,fun t=>?_⟩;have h3:=h2 t;rw[zd9 h (by rw[h3]),h3,e]
theorem Enc.while_{α:Type}{R:RS→RS×α}(hR:za3 R){n:Nat}{l:List UInt8}{v:List α}(h:Enc (zbq R n) l v):Enc (za4 R n) l v:=by
 intro t;rw[zd9 hR (by rw[h t]),h t]
end Go.Proofs.YteajonicnkpbbaaGreatDoor
