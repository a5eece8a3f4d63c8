/- Walk of sedimentlaw23.valid: the innermost loop. -/
import Derived.Test.YteajonicnkpbbaaGreatDoorReachC
namespace Go.Proofs.YteajonicnkpbbaaGreatDoor
set_option linter.all false
set_option maxHeartbeats 16000000
set_option maxRecDepth 100000
open Go.RowKit Tryz
section
variable {w W1 W2 W5 wj wq:World} {c:zbf} {pA fA tA sA eA ba ya:Option Addr} {pn pc fn fc tn tc sn sc en ec bn bc yn yc eb k j q:Nat} {id:Int} {tier shard place of_ v:Int} {bl yb:List Int} {yid ytier yshard yplace yof:Int}
theorem zqw(HC:Hid (∀ W,Fr (fun _=>False) W1 W→W.cell? ⟨w.heap.size,0,none⟩=some (.int .u64 c.gen)∧W.cell? ⟨w.heap.size,1,none⟩=some (.int .u64 c.id)∧W.cell? ⟨w.heap.size,2,none⟩=some (.int .i64 c.now)∧W.cell? ⟨w.heap.size,3,none⟩=some (.string c.nm)∧W.cell? ⟨w.heap.size,4,none⟩=some (.slice pA pn pc)∧W.cell? ⟨w.heap.size,5,none⟩=some (.slice fA fn fc)∧W.cell? ⟨w.heap.size,6,none⟩=some (.string c.nm2)∧W.cell? ⟨w.heap.size,7,none⟩=some (.slice tA tn tc)∧W.cell? ⟨w.heap.size,8,none⟩=some (.slice sA sn sc)∧W.cell? ⟨w.heap.size,9,none⟩=some (.int .i64 c.bound)∧W.cell? ⟨w.heap.size,10,none⟩=some (.int .i64 c.done)∧W.cell? ⟨w.heap.size,11,none⟩=some (.slice eA en ec)))(HRe:Hid (∀ W,Fr (fun _=>False) W1 W→Rd W 6 eA en (zbN c.es)))(Hok:Hid (∀ x∈c.es,(∀ W,Fr (fun _=>False) W1 W→Rd W 1 x.ba x.bn (za6 x.bl))∧x.bl.length=x.bn∧x.bn≤9223372036854775807))(HE:Hid (∀ W,Fr (fun _=>False) W2 W→W.cell? ⟨eb,0,none⟩=some (.int .u64 id)∧W.cell? ⟨eb,1,none⟩=some (.int .i64 tier)∧W.cell? ⟨eb,2,none⟩=some (.int .i64 shard)∧W.cell? ⟨eb,3,none⟩=some (.int .i64 place)∧W.cell? ⟨eb,4,none⟩=some (.int .i64 of_)∧W.cell? ⟨eb,5,none⟩=some (.slice ba bn bc)))(HRb:Hid (∀ W,Fr (fun _=>False) W2 W→Rd W 1 ba bn (za6 bl)))(Hbl:Hid (bl.length=bn))(Hu:Hid (c.es[k]? =some ⟨id,tier,shard,place,of_,ba,bn,bc,bl⟩))(F2:Hid (Fr (fun _=>False) W1 W2))(hlt:k<en)(hen9:en≤90)(hbm:bn≤9223372036854775807)(Hfq:Hid (Fr (fun _=>False) W2 wq))(Hv:Hid (bl[j]? =some v))(hjl:j<bn)(hqe:q<en)(hqk:q≤k)(Hyu:Hid (c.es[q]? =some ⟨yid,ytier,yshard,yplace,yof,ya,yn,yc,yb⟩))(HRy:Hid (∀ W,Fr (fun _=>False) W2 W→Rd W 1 ya yn (za6 yb)))(hym:yn≤9223372036854775807){X R:Act→World→Prop}(HQR:Hid (zbd c=false→∀ (a:Act) (W:World),a.tmps.getD 2 undef=.bool false→a.defers=[]→Fr (fun _=>False) W1 W→R a W)){u0 u2 u3 u4 u5 u6 u7 u8 u14 u15 u16 u17 u18 u19 u20 u21 u22 u23 u24 u25 u26 u27 u28 u29 u30 u31 u32 u33 u34 u35 u36 u37 u38 u39 u40 u41 u42 u43 u44 u45 u46 u47 u48 u49 u50 u51 u52 u53 u54 u55 u56 u57 u58 u59 u60 u61 u62 u63 u64 u65 u66 u67 u68 u69 u70 u71 u72 u73 u74 u75 u76 u77 u78 u79 u80 u81 u82 u83 u84 u85 u86 u87 u88 u89 u90 u91 u92 u93 u94 u95 u96 u97 u98 u99 u100 u101 u102 u103 u104 u105 u106 u107 u108 u109 u110 u111 u112 u113 u114 u115 u116 u117 u118 u119 u120 u121 u122 u123 u124 u125 u126 u127 u128 u129 u130 u131 u132 u133 u134 u135 u136 u137 u138 u139 u140 u141 u142 u143 u144 u145 u146 u147 u148 u149 u150 u151 u152 u153 u154 u155 u156 u157 u158 u159 u160 u161 u162 u163 u164 u165 u166 u167 u168 u169 u170 u171 u172 u173 u174 u175 u176 u177 u178 u179 u180 u181 u182 u183 u184 u185 u186 u187 u188 u189 u190 u191 u192 u193 u194 u195 u196 u197 u198 u199 u200 u201 u202 u203 u204 u205 u206 u207 u208 u209 u210 u211 u212 u213 u214 u215 u216 u217 u218 u219 u220 u221 u222 u223 u224 u225 u226 u227 u228 u229 u230 u231 u232 u233 u234 u235 u236 u237 u238 u239 u240 u241 u242 u243 u244 u245 u246 u247 u248 u249 u250 u251 u252 u253 u254 u255 u256 u257 u258 u259 u260 u261 u262 u263 u264 u265 u266 u267 u268 u269 u270 u271 u272 u273 u274 u275 u276 u277 u278 u279 u280 u281 u282 u283 u284 u285 u286 u287 u288 u289 u290 u291 u292 u293 u294 u295 u296 u297 u298 u299 u300 u301 u302 u303 u304 u305 u306 u307 u308 u309 u310 u311 u312 u313 u314 u315 u316 u317 u318 u319 u320 u321 u322 u323 u324 u325 u326 u327 u328:Value}(HQX:Hid ((∀ m'<yn,∀ b,yb[m']? =some b→(q≠k∨m'<j)→b≠v)→∀ (x2 x13 x264 x265 x266 x267 x268 x269 x270 x271 x272 x273 x274 x275 x276 x277 x278 x279 x280 x281 x282 x283 x284 x285 x286 x287 x288 x289 x290 x291 x292 x293 x294 x295 x296 x297 x298 x299:Value) (W:World),Fr (fun _=>False) W2 W→X ⟨(List.toArray (u0:: .pointer (some ⟨w.heap.size,0,none⟩)::x2::u3::u4::u5::u6::u7::u8:: .int .i64 k:: .pointer (some ⟨eb,0,none⟩):: .int .i64 j:: .int .i64 q::x13::u14::u15::u16::u17::u18::u19::u20::u21::u22::u23::u24::u25::u26::u27::u28::u29::u30::u31::u32::u33::u34::u35::u36::u37::u38::u39::u40::u41::u42::u43::u44::u45::u46::u47::u48::u49::u50::u51::u52::u53::u54::u55::u56::u57::u58::u59::u60::u61::u62::u63::u64::u65::u66::u67::u68::u69::u70::u71::u72::u73::u74::u75::u76::u77::u78::u79::u80::u81::u82::u83::u84::u85::u86::u87::u88::u89::u90::u91::u92::u93::u94::u95::u96::u97::u98::u99::u100::u101::u102::u103::u104::u105::u106::u107::u108::u109::u110::u111::u112::u113::u114::u115::u116::u117::u118::u119::u120::u121::u122::u123::u124::u125::u126::u127::u128::u129::u130::u131::u132::u133::u134::u135::u136::u137::u138::u139::u140::u141::u142::u143::u144::u145::u146::u147::u148::u149::u150::u151::u152::u153::u154::u155::u156::u157::u158::u159::u160::u161::u162::u163::u164::u165::u166::u167::u168::u169::u170::u171::u172::u173::u174::u175::u176::u177::u178::u179::u180::u181::u182::u183::u184::u185::u186::u187::u188::u189::u190::u191::u192::u193::u194::u195::u196::u197::u198::u199::u200::u201::u202::u203::u204::u205::u206::u207::u208::u209::u210::u211::u212::u213::u214::u215::u216::u217::u218::u219::u220::u221::u222::u223::u224::u225::u226::u227::u228::u229::u230::u231::u232::u233::u234::u235::u236::u237::u238::u239::u240::u241::u242::u243::u244::u245::u246::u247::u248::u249::u250::u251::u252::u253::u254::u255::u256::u257::u258::u259::u260::u261::u262::u263::x264::x265::x266::x267::x268::x269::x270::x271::x272::x273::x274::x275::x276::x277::x278::x279::x280::x281::x282::x283::x284::x285::x286::x287::x288::x289::x290::x291::x292::x293::x294::x295::x296::x297::x298::x299::u300::u301::u302::u303::u304::u305::u306::u307::u308::u309::u310::u311::u312::u313::u314::u315::u316::u317::u318::u319::u320::u321::u322::u323::u324::u325::u326::u327::u328::[])),[]⟩ W)):
  Code.wp prog dvM (zhE 10 X R) ⟨(List.toArray (u0:: .pointer (some ⟨w.heap.size,0,none⟩)::u2::u3::u4::u5::u6::u7::u8:: .int .i64 k:: .pointer (some ⟨eb,0,none⟩):: .int .i64 j:: .int .i64 q:: .int .i64 0::u14::u15::u16::u17::u18::u19::u20::u21::u22::u23::u24::u25::u26::u27::u28::u29::u30::u31::u32::u33::u34::u35::u36::u37::u38::u39::u40::u41::u42::u43::u44::u45::u46::u47::u48::u49::u50::u51::u52::u53::u54::u55::u56::u57::u58::u59::u60::u61::u62::u63::u64::u65::u66::u67::u68::u69::u70::u71::u72::u73::u74::u75::u76::u77::u78::u79::u80::u81::u82::u83::u84::u85::u86::u87::u88::u89::u90::u91::u92::u93::u94::u95::u96::u97::u98::u99::u100::u101::u102::u103::u104::u105::u106::u107::u108::u109::u110::u111::u112::u113::u114::u115::u116::u117::u118::u119::u120::u121::u122::u123::u124::u125::u126::u127::u128::u129::u130::u131::u132::u133::u134::u135::u136::u137::u138::u139::u140::u141::u142::u143::u144::u145::u146::u147::u148::u149::u150::u151::u152::u153::u154::u155::u156::u157::u158::u159::u160::u161::u162::u163::u164::u165::u166::u167::u168::u169::u170::u171::u172::u173::u174::u175::u176::u177::u178::u179::u180::u181::u182::u183::u184::u185::u186::u187::u188::u189::u190::u191::u192::u193::u194::u195::u196::u197::u198::u199::u200::u201::u202::u203::u204::u205::u206::u207::u208::u209::u210::u211::u212::u213::u214::u215::u216::u217::u218::u219::u220::u221::u222::u223::u224::u225::u226::u227::u228::u229::u230::u231::u232::u233::u234::u235::u236::u237::u238::u239::u240::u241::u242::u243::u244::u245::u246::u247::u248::u249::u250::u251::u252::u253::u254::u255::u256::u257::u258::u259::u260::u261::u262::u263::u264::u265::u266::u267::u268::u269::u270::u271::u272::u273::u274::u275::u276::u277::u278::u279::u280::u281::u282::u283::u284::u285::u286::u287::u288::u289::u290::u291::u292::u293::u294::u295::u296::u297::u298::u299::u300::u301::u302::u303::u304::u305::u306::u307::u308::u309::u310::u311::u312::u313::u314::u315::u316::u317::u318::u319::u320::u321::u322::u323::u324::u325::u326::u327::u328::[])),[]⟩ wq:=by
 conv=>arg 2;whnf
 have hqI0:0≤(q:Int)∧(q:Int)<(en:Int):=by omega
 have hjI:0≤(j:Int)∧(j:Int)<(bn:Int):=by omega
 have hkI:0≤(k:Int)∧(k:Int)<(en:Int):=by omega
 go_loopw [13] (fun s wm=>∃ m:Nat,m≤yn∧s=.int .i64 m∧Hid (Fr (fun _=>False) W2 wm)∧Hid (∀ m'<m,∀ b,yb[m']? =some b→(q≠k∨m'<j)→b≠v)) (fun s _=>yn-(intOf s).toNat)
 case atStart=>exact⟨0,Nat.zero_le _,rfl,Hfq.out,fun m' h=>absurd h (Nat.not_lt_zero _)⟩
 case round=>
  obtain⟨m,hm,rfl,hfm,hsm⟩:=hrel;have Hfm:=q0_ hfm.out;have Hsm:=q0_ hsm.out;clear hfm hsm;obtain⟨ad2,yy,hadd,hyu,y0,y1,y2,y3,y4,y5⟩:=(HRe.out _ (F2.out.trans Hfm.out q4_)).ent hqe;rw[Hyu.out] at hyu
  injection hyu with hyu
  subst hyu;dsimp only at y0 y1 y2 y3 y4 y5;have x9:=(HC.out _ (F2.out.trans Hfm.out q4_)).2.2.2.2.2.2.2.2.2.2.2;rw[hadd] at x9;clear y0 y1 y2 y3 y4;obtain⟨z0,z1,z2,z3,z4,z5⟩:=HE.out _ Hfm.out;clear z0 z1 z2 z3 z4
  have hmI:0≤(m:Int):=by omega
  by_cases hml:m<yn
  ·have hmw:IntKind.i64.wrap ((m:Int)+1)=(m:Int)+1:=by simp[IntKind.wrap,IntKind.signed,IntKind.bits];omega
   obtain⟨ad3,bv,rfl,hbv,dm⟩:=(HRy.out _ Hfm.out).at_map hml;have Hbv:=q0_ hbv;clear hbv;obtain⟨ad4,vv,rfl,hvv,dv⟩:=(HRb.out _ Hfm.out).at_map hjl;rw[Hv.out] at hvv
   injection hvv with hvv
   subst hvv;have HQ:=q0_ (fun (W:World) (f:Fr (fun _=>False) wr W)=>And.intro (f.cell x9 (fun h=>h)) (And.intro (f.cell y5 (fun h=>h)) (And.intro (f.cell dm (fun h=>h)) (And.intro (f.cell z5 (fun h=>h)) (f.cell dv (fun h=>h))))))
   by_cases hqk2:q=k
   ·have gqk:((q:Int) != (k:Int))=false:=by simp;omega
    have Hqk:=q0_ hqk2;clear hqk2
    by_cases hmj:m<j
    ·have gmj:(m:Int)<(j:Int):=by omega
     by_cases hbe:bv=v
     ·have gbe:(bv==v)=true:=by simpa using hbe
      have hno:Hid (zbd c=false):=zaz fun e=>zi9 (zat e).2.2.2.2.2 Hyu.out Hu.out Hbv.out Hv.out hbe (.inr hmj) (by omega);go_wp2_with fail;refine wp_region_held_drew (S:=fun W=>Fr (fun _=>False) wr W) (by kernel_rfl) ((Fr.refl _ wr).drew) (fun hY_=>?_)
      refine wpAnyH_take (i:=0) (oi:={dst:=some 275,op:=Op.move (Operand.tmp 12),type:=3,pos:= "law.go:82",after:=#[],guard:=none}) (v:= ?vq1) rfl (by kernel_rfl) (by kernel_rfl) (by kernel_rfl) (fun _ _ _ h=>h) (Or.inl ⟨by rfl, ?hq1⟩) (by assumption) ?rq1
      case hq1=>intro W hSw;(try obtain⟨a0,a1,a2,a3,a4⟩:=HQ.out W hSw);go_simp;(try with_reducible rfl)
      try simp only[Act.put,q7_,List.set_cons_zero,List.set_cons_succ]
      refine wpAnyH_take (i:=1) (oi:={dst:=some 276,op:=Op.move (Operand.tmp 9),type:=3,pos:= "law.go:82",after:=#[],guard:=none}) (v:= ?vq2) rfl (by kernel_rfl) (by kernel_rfl) (by kernel_rfl) (fun _ _ _ h=>h) (Or.inl ⟨by rfl, ?hq2⟩) (by assumption) ?rq2
      case hq2=>intro W hSw;(try obtain⟨a0,a1,a2,a3,a4⟩:=HQ.out W hSw);go_simp;(try with_reducible rfl)
      try simp only[Act.put,q7_,List.set_cons_zero,List.set_cons_succ]
      refine wpAnyH_take (i:=2) (oi:={dst:=some 277,op:=Op.binOp BinOp.neq 3 (Operand.tmp 275) (Operand.tmp 276) 3,type:=4,pos:= "law.go:82",after:=#[{on:=0,ground:=Ground.data},{on:=1,ground:=Ground.data}],guard:=none}) (v:= ?vq3) rfl (by kernel_rfl) (by kernel_rfl) (by kernel_rfl) (fun _ _ _ h=>h) (Or.inl ⟨by rfl, ?hq3⟩) (by assumption) ?rq3
      case hq3=>intro W hSw;(try obtain⟨a0,a1,a2,a3,a4⟩:=HQ.out W hSw);go_simp;(try with_reducible rfl)
      try simp only[Act.put,q7_,List.set_cons_zero,List.set_cons_succ]
      refine wpAnyH_take (i:=3) (oi:={dst:=some 278,op:=Op.move (Operand.tmp 277),type:=4,pos:= "law.go:82",after:=#[{on:=2,ground:=Ground.data}],guard:=none}) (v:= ?vq4) rfl (by kernel_rfl) (by kernel_rfl) (by kernel_rfl) (fun _ _ _ h=>h) (Or.inl ⟨by rfl, ?hq4⟩) (by assumption) ?rq4
      case hq4=>intro W hSw;(try obtain⟨a0,a1,a2,a3,a4⟩:=HQ.out W hSw);go_simp;(try with_reducible rfl)
      try simp only[Act.put,q7_,List.set_cons_zero,List.set_cons_succ]
      refine wpAnyH_take (i:=4) (oi:={dst:=some 279,op:=Op.move (Operand.tmp 13),type:=3,pos:= "law.go:82",after:=#[{on:=3,ground:=Ground.guard}],guard:=some (3,false)}) (v:= ?vq5) rfl (by kernel_rfl) (by kernel_rfl) (by kernel_rfl) (fun _ _ _ h=>h) (Or.inl ⟨by rfl, ?hq5⟩) (by assumption) ?rq5
      case hq5=>intro W hSw;(try obtain⟨a0,a1,a2,a3,a4⟩:=HQ.out W hSw);go_simp;(try with_reducible rfl)
      try simp only[Act.put,q7_,List.set_cons_zero,List.set_cons_succ]
      refine wpAnyH_take (i:=5) (oi:={dst:=some 280,op:=Op.move (Operand.tmp 11),type:=3,pos:= "law.go:82",after:=#[{on:=3,ground:=Ground.guard}],guard:=some (3,false)}) (v:= ?vq6) rfl (by kernel_rfl) (by kernel_rfl) (by kernel_rfl) (fun _ _ _ h=>h) (Or.inl ⟨by rfl, ?hq6⟩) (by assumption) ?rq6
      case hq6=>intro W hSw;(try obtain⟨a0,a1,a2,a3,a4⟩:=HQ.out W hSw);go_simp;(try with_reducible rfl)
      try simp only[Act.put,q7_,List.set_cons_zero,List.set_cons_succ]
      refine wpAnyH_take (i:=6) (oi:={dst:=some 281,op:=Op.binOp BinOp.lss 3 (Operand.tmp 279) (Operand.tmp 280) 3,type:=4,pos:= "law.go:82",after:=#[{on:=4,ground:=Ground.data},{on:=5,ground:=Ground.data},{on:=3,ground:=Ground.guard}],guard:=some (3,false)}) (v:= ?vq7) rfl (by kernel_rfl) (by kernel_rfl) (by kernel_rfl) (fun _ _ _ h=>h) (Or.inl ⟨by rfl, ?hq7⟩) (by assumption) ?rq7
      case hq7=>intro W hSw;(try obtain⟨a0,a1,a2,a3,a4⟩:=HQ.out W hSw);go_simp;(try with_reducible rfl)
      try simp only[Act.put,q7_,List.set_cons_zero,List.set_cons_succ]
      refine wpAnyH_take (i:=7) (oi:={dst:=some 282,op:=Op.pick (Operand.tmp 278) (Operand.const (Value.bool true)) (Operand.tmp 281),type:=4,pos:= "law.go:82",after:=#[{on:=3,ground:=Ground.data},{on:=6,ground:=Ground.data}],guard:=none}) (v:= ?vq8) rfl (by kernel_rfl) (by kernel_rfl) (by kernel_rfl) (fun _ _ _ h=>h) (Or.inl ⟨by rfl, ?hq8⟩) (by assumption) ?rq8
      case hq8=>intro W hSw;(try obtain⟨a0,a1,a2,a3,a4⟩:=HQ.out W hSw);go_simp;(try with_reducible rfl)
      try simp only[Act.put,q7_,List.set_cons_zero,List.set_cons_succ]
      refine wpAnyH_take (i:=8) (oi:={dst:=some 283,op:=Op.move (Operand.tmp 282),type:=4,pos:= "law.go:82",after:=#[{on:=7,ground:=Ground.data},{on:=3,ground:=Ground.chain}],guard:=none}) (v:= ?vq9) rfl (by kernel_rfl) (by kernel_rfl) (by kernel_rfl) (fun _ _ _ h=>h) (Or.inl ⟨by rfl, ?hq9⟩) (by assumption) ?rq9
      case hq9=>intro W hSw;(try obtain⟨a0,a1,a2,a3,a4⟩:=HQ.out W hSw);go_simp;(try with_reducible rfl)
      try simp only[Act.put,q7_,List.set_cons_zero,List.set_cons_succ]
      refine wpAnyH_take (i:=9) (oi:={dst:=some 284,op:=Op.fieldAddr 29 (Operand.tmp 1) 9,type:=0,pos:= "law.go:82",after:=#[{on:=8,ground:=Ground.guard}],guard:=some (8,true)}) (v:= ?vq10) rfl (by kernel_rfl) (by kernel_rfl) (by kernel_rfl) (fun _ _ _ h=>h) (Or.inl ⟨by rfl, ?hq10⟩) (by assumption) ?rq10
      case hq10=>intro W hSw;(try obtain⟨a0,a1,a2,a3,a4⟩:=HQ.out W hSw);go_simp;(try with_reducible rfl)
      try simp only[Act.put,q7_,List.set_cons_zero,List.set_cons_succ]
      refine wpAnyH_take (i:=10) (oi:={dst:=some 285,op:=Op.load 27 (Operand.tmp 284),type:=27,pos:= "law.go:82",after:=#[{on:=9,ground:=Ground.data},{on:=8,ground:=Ground.guard}],guard:=some (8,true)}) (v:= ?vq11) rfl (by kernel_rfl) (by kernel_rfl) (by kernel_rfl) (fun _ _ _ h=>h) (Or.inl ⟨by rfl, ?hq11⟩) (by assumption) ?rq11
      case hq11=>intro W hSw;(try obtain⟨a0,a1,a2,a3,a4⟩:=HQ.out W hSw);go_simp;(try with_reducible rfl)
      try simp only[Act.put,q7_,List.set_cons_zero,List.set_cons_succ]
      refine wpAnyH_take (i:=11) (oi:={dst:=some 286,op:=Op.move (Operand.tmp 12),type:=3,pos:= "law.go:82",after:=#[{on:=8,ground:=Ground.guard}],guard:=some (8,true)}) (v:= ?vq12) rfl (by kernel_rfl) (by kernel_rfl) (by kernel_rfl) (fun _ _ _ h=>h) (Or.inl ⟨by rfl, ?hq12⟩) (by assumption) ?rq12
      case hq12=>intro W hSw;(try obtain⟨a0,a1,a2,a3,a4⟩:=HQ.out W hSw);go_simp;(try with_reducible rfl)
      try simp only[Act.put,q7_,List.set_cons_zero,List.set_cons_succ]
      refine wpAnyH_take (i:=12) (oi:={dst:=some 287,op:=Op.indexAddr 27 (Operand.tmp 285) (Operand.tmp 286),type:=0,pos:= "law.go:82",after:=#[{on:=10,ground:=Ground.data},{on:=11,ground:=Ground.data},{on:=8,ground:=Ground.guard}],guard:=some (8,true)}) (v:= ?vq13) rfl (by kernel_rfl) (by kernel_rfl) (by kernel_rfl) (fun _ _ _ h=>h) (Or.inl ⟨by rfl, ?hq13⟩) (by assumption) ?rq13
      case hq13=>intro W hSw;(try obtain⟨a0,a1,a2,a3,a4⟩:=HQ.out W hSw);go_simp;(try with_reducible rfl)
      try simp only[Act.put,q7_,List.set_cons_zero,List.set_cons_succ]
      refine wpAnyH_take (i:=13) (oi:={dst:=some 288,op:=Op.fieldAddr 56 (Operand.tmp 287) 1,type:=0,pos:= "law.go:82",after:=#[{on:=12,ground:=Ground.data},{on:=8,ground:=Ground.guard}],guard:=some (8,true)}) (v:= ?vq14) rfl (by kernel_rfl) (by kernel_rfl) (by kernel_rfl) (fun _ _ _ h=>h) (Or.inl ⟨by rfl, ?hq14⟩) (by assumption) ?rq14
      case hq14=>intro W hSw;(try obtain⟨a0,a1,a2,a3,a4⟩:=HQ.out W hSw);go_simp;(try with_reducible rfl)
      try simp only[Act.put,q7_,List.set_cons_zero,List.set_cons_succ]
      refine wpAnyH_take (i:=14) (oi:={dst:=some 289,op:=Op.load 26 (Operand.tmp 288),type:=26,pos:= "law.go:82",after:=#[{on:=13,ground:=Ground.data},{on:=8,ground:=Ground.guard}],guard:=some (8,true)}) (v:= ?vq15) rfl (by kernel_rfl) (by kernel_rfl) (by kernel_rfl) (fun _ _ _ h=>h) (Or.inl ⟨by rfl, ?hq15⟩) (by assumption) ?rq15
      case hq15=>intro W hSw;(try obtain⟨a0,a1,a2,a3,a4⟩:=HQ.out W hSw);go_simp;(try with_reducible rfl)
      try simp only[Act.put,q7_,List.set_cons_zero,List.set_cons_succ]
      refine wpAnyH_take (i:=15) (oi:={dst:=some 290,op:=Op.move (Operand.tmp 13),type:=3,pos:= "law.go:82",after:=#[{on:=8,ground:=Ground.guard}],guard:=some (8,true)}) (v:= ?vq16) rfl (by kernel_rfl) (by kernel_rfl) (by kernel_rfl) (fun _ _ _ h=>h) (Or.inl ⟨by rfl, ?hq16⟩) (by assumption) ?rq16
      case hq16=>intro W hSw;(try obtain⟨a0,a1,a2,a3,a4⟩:=HQ.out W hSw);go_simp;(try with_reducible rfl)
      try simp only[Act.put,q7_,List.set_cons_zero,List.set_cons_succ]
      refine wpAnyH_take (i:=16) (oi:={dst:=some 291,op:=Op.indexAddr 26 (Operand.tmp 289) (Operand.tmp 290),type:=0,pos:= "law.go:82",after:=#[{on:=14,ground:=Ground.data},{on:=15,ground:=Ground.data},{on:=8,ground:=Ground.guard}],guard:=some (8,true)}) (v:= ?vq17) rfl (by kernel_rfl) (by kernel_rfl) (by kernel_rfl) (fun _ _ _ h=>h) (Or.inl ⟨by rfl, ?hq17⟩) (by assumption) ?rq17
      case hq17=>intro W hSw;(try obtain⟨a0,a1,a2,a3,a4⟩:=HQ.out W hSw);go_simp;(try with_reducible rfl)
      try simp only[Act.put,q7_,List.set_cons_zero,List.set_cons_succ]
      refine wpAnyH_take (i:=17) (oi:={dst:=some 292,op:=Op.load 3 (Operand.tmp 291),type:=3,pos:= "law.go:82",after:=#[{on:=16,ground:=Ground.data},{on:=8,ground:=Ground.guard}],guard:=some (8,true)}) (v:= ?vq18) rfl (by kernel_rfl) (by kernel_rfl) (by kernel_rfl) (fun _ _ _ h=>h) (Or.inl ⟨by rfl, ?hq18⟩) (by assumption) ?rq18
      case hq18=>intro W hSw;(try obtain⟨a0,a1,a2,a3,a4⟩:=HQ.out W hSw);go_simp;(try with_reducible rfl)
      try simp only[Act.put,q7_,List.set_cons_zero,List.set_cons_succ]
      refine wpAnyH_take (i:=18) (oi:={dst:=some 293,op:=Op.fieldAddr 56 (Operand.tmp 10) 1,type:=0,pos:= "law.go:82",after:=#[{on:=8,ground:=Ground.guard}],guard:=some (8,true)}) (v:= ?vq19) rfl (by kernel_rfl) (by kernel_rfl) (by kernel_rfl) (fun _ _ _ h=>h) (Or.inl ⟨by rfl, ?hq19⟩) (by assumption) ?rq19
      case hq19=>intro W hSw;(try obtain⟨a0,a1,a2,a3,a4⟩:=HQ.out W hSw);go_simp;(try with_reducible rfl)
      try simp only[Act.put,q7_,List.set_cons_zero,List.set_cons_succ]
      refine wpAnyH_take (i:=19) (oi:={dst:=some 294,op:=Op.load 26 (Operand.tmp 293),type:=26,pos:= "law.go:82",after:=#[{on:=18,ground:=Ground.data},{on:=8,ground:=Ground.guard}],guard:=some (8,true)}) (v:= ?vq20) rfl (by kernel_rfl) (by kernel_rfl) (by kernel_rfl) (fun _ _ _ h=>h) (Or.inl ⟨by rfl, ?hq20⟩) (by assumption) ?rq20
      case hq20=>intro W hSw;(try obtain⟨a0,a1,a2,a3,a4⟩:=HQ.out W hSw);go_simp;(try with_reducible rfl)
      try simp only[Act.put,q7_,List.set_cons_zero,List.set_cons_succ]
      refine wpAnyH_take (i:=20) (oi:={dst:=some 295,op:=Op.move (Operand.tmp 11),type:=3,pos:= "law.go:82",after:=#[{on:=8,ground:=Ground.guard}],guard:=some (8,true)}) (v:= ?vq21) rfl (by kernel_rfl) (by kernel_rfl) (by kernel_rfl) (fun _ _ _ h=>h) (Or.inl ⟨by rfl, ?hq21⟩) (by assumption) ?rq21
      case hq21=>intro W hSw;(try obtain⟨a0,a1,a2,a3,a4⟩:=HQ.out W hSw);go_simp;(try with_reducible rfl)
      try simp only[Act.put,q7_,List.set_cons_zero,List.set_cons_succ]
      refine wpAnyH_take (i:=21) (oi:={dst:=some 296,op:=Op.indexAddr 26 (Operand.tmp 294) (Operand.tmp 295),type:=0,pos:= "law.go:82",after:=#[{on:=19,ground:=Ground.data},{on:=20,ground:=Ground.data},{on:=8,ground:=Ground.guard}],guard:=some (8,true)}) (v:= ?vq22) rfl (by kernel_rfl) (by kernel_rfl) (by kernel_rfl) (fun _ _ _ h=>h) (Or.inl ⟨by rfl, ?hq22⟩) (by assumption) ?rq22
      case hq22=>intro W hSw;(try obtain⟨a0,a1,a2,a3,a4⟩:=HQ.out W hSw);go_simp;(try with_reducible rfl)
      try simp only[Act.put,q7_,List.set_cons_zero,List.set_cons_succ]
      refine wpAnyH_take (i:=22) (oi:={dst:=some 297,op:=Op.load 3 (Operand.tmp 296),type:=3,pos:= "law.go:82",after:=#[{on:=21,ground:=Ground.data},{on:=8,ground:=Ground.guard}],guard:=some (8,true)}) (v:= ?vq23) rfl (by kernel_rfl) (by kernel_rfl) (by kernel_rfl) (fun _ _ _ h=>h) (Or.inl ⟨by rfl, ?hq23⟩) (by assumption) ?rq23
      case hq23=>intro W hSw;(try obtain⟨a0,a1,a2,a3,a4⟩:=HQ.out W hSw);go_simp;(try with_reducible rfl)
      try simp only[Act.put,q7_,List.set_cons_zero,List.set_cons_succ]
      refine wpAnyH_take (i:=23) (oi:={dst:=some 298,op:=Op.binOp BinOp.eql 3 (Operand.tmp 292) (Operand.tmp 297) 3,type:=4,pos:= "law.go:82",after:=#[{on:=17,ground:=Ground.data},{on:=22,ground:=Ground.data},{on:=8,ground:=Ground.guard}],guard:=some (8,true)}) (v:= ?vq24) rfl (by kernel_rfl) (by kernel_rfl) (by kernel_rfl) (fun _ _ _ h=>h) (Or.inl ⟨by rfl, ?hq24⟩) (by assumption) ?rq24
      case hq24=>intro W hSw;(try obtain⟨a0,a1,a2,a3,a4⟩:=HQ.out W hSw);go_simp;(try with_reducible rfl)
      try simp only[Act.put,q7_,List.set_cons_zero,List.set_cons_succ]
      refine wpAnyH_take (i:=24) (oi:={dst:=some 299,op:=Op.pick (Operand.tmp 283) (Operand.tmp 298) (Operand.const (Value.bool false)),type:=4,pos:= "law.go:82",after:=#[{on:=8,ground:=Ground.data},{on:=23,ground:=Ground.data}],guard:=none}) (v:= ?vq25) rfl (by kernel_rfl) (by kernel_rfl) (by kernel_rfl) (fun _ _ _ h=>h) (Or.inl ⟨by rfl, ?hq25⟩) (by assumption) ?rq25
      case hq25=>intro W hSw;(try obtain⟨a0,a1,a2,a3,a4⟩:=HQ.out W hSw);go_simp;(try with_reducible rfl)
      try simp only[Act.put,q7_,List.set_cons_zero,List.set_cons_succ]
      refine wpAnyH_done (by kernel_rfl) ?_ _;go_wp2_with fail
      try simp only[Exit.inBlock,Exit.then]
      refine HQR.out hno.out _ _ rfl rfl ?_
      first | exact (F2.out.trans Hfm.out q4_) | exact Fr.trans (F2.out.trans Hfm.out q4_) hY_ q4_
     ·have gbe:(bv==v)=false:=by simpa using hbe
      have hst:Hid (∀ m'<m+1,∀ b,yb[m']? =some b→(q≠k∨m'<j)→b≠v):=zjB Hsm.out Hbv.out (fun _=>hbe);go_wp2_with fail;refine wp_region_held_drew (S:=fun W=>Fr (fun _=>False) wr W) (by kernel_rfl) ((Fr.refl _ wr).drew) (fun hY_=>?_)
      refine wpAnyH_take (i:=0) (oi:={dst:=some 275,op:=Op.move (Operand.tmp 12),type:=3,pos:= "law.go:82",after:=#[],guard:=none}) (v:= ?vq26) rfl (by kernel_rfl) (by kernel_rfl) (by kernel_rfl) (fun _ _ _ h=>h) (Or.inl ⟨by rfl, ?hq26⟩) (by assumption) ?rq26
      case hq26=>intro W hSw;(try obtain⟨a0,a1,a2,a3,a4⟩:=HQ.out W hSw);go_simp;(try with_reducible rfl)
      try simp only[Act.put,q7_,List.set_cons_zero,List.set_cons_succ]
      refine wpAnyH_take (i:=1) (oi:={dst:=some 276,op:=Op.move (Operand.tmp 9),type:=3,pos:= "law.go:82",after:=#[],guard:=none}) (v:= ?vq27) rfl (by kernel_rfl) (by kernel_rfl) (by kernel_rfl) (fun _ _ _ h=>h) (Or.inl ⟨by rfl, ?hq27⟩) (by assumption) ?rq27
      case hq27=>intro W hSw;(try obtain⟨a0,a1,a2,a3,a4⟩:=HQ.out W hSw);go_simp;(try with_reducible rfl)
      try simp only[Act.put,q7_,List.set_cons_zero,List.set_cons_succ]
      refine wpAnyH_take (i:=2) (oi:={dst:=some 277,op:=Op.binOp BinOp.neq 3 (Operand.tmp 275) (Operand.tmp 276) 3,type:=4,pos:= "law.go:82",after:=#[{on:=0,ground:=Ground.data},{on:=1,ground:=Ground.data}],guard:=none}) (v:= ?vq28) rfl (by kernel_rfl) (by kernel_rfl) (by kernel_rfl) (fun _ _ _ h=>h) (Or.inl ⟨by rfl, ?hq28⟩) (by assumption) ?rq28
      case hq28=>intro W hSw;(try obtain⟨a0,a1,a2,a3,a4⟩:=HQ.out W hSw);go_simp;(try with_reducible rfl)
      try simp only[Act.put,q7_,List.set_cons_zero,List.set_cons_succ]
      refine wpAnyH_take (i:=3) (oi:={dst:=some 278,op:=Op.move (Operand.tmp 277),type:=4,pos:= "law.go:82",after:=#[{on:=2,ground:=Ground.data}],guard:=none}) (v:= ?vq29) rfl (by kernel_rfl) (by kernel_rfl) (by kernel_rfl) (fun _ _ _ h=>h) (Or.inl ⟨by rfl, ?hq29⟩) (by assumption) ?rq29
      case hq29=>intro W hSw;(try obtain⟨a0,a1,a2,a3,a4⟩:=HQ.out W hSw);go_simp;(try with_reducible rfl)
      try simp only[Act.put,q7_,List.set_cons_zero,List.set_cons_succ]
      refine wpAnyH_take (i:=4) (oi:={dst:=some 279,op:=Op.move (Operand.tmp 13),type:=3,pos:= "law.go:82",after:=#[{on:=3,ground:=Ground.guard}],guard:=some (3,false)}) (v:= ?vq30) rfl (by kernel_rfl) (by kernel_rfl) (by kernel_rfl) (fun _ _ _ h=>h) (Or.inl ⟨by rfl, ?hq30⟩) (by assumption) ?rq30
      case hq30=>intro W hSw;(try obtain⟨a0,a1,a2,a3,a4⟩:=HQ.out W hSw);go_simp;(try with_reducible rfl)
      try simp only[Act.put,q7_,List.set_cons_zero,List.set_cons_succ]
      refine wpAnyH_take (i:=5) (oi:={dst:=some 280,op:=Op.move (Operand.tmp 11),type:=3,pos:= "law.go:82",after:=#[{on:=3,ground:=Ground.guard}],guard:=some (3,false)}) (v:= ?vq31) rfl (by kernel_rfl) (by kernel_rfl) (by kernel_rfl) (fun _ _ _ h=>h) (Or.inl ⟨by rfl, ?hq31⟩) (by assumption) ?rq31
      case hq31=>intro W hSw;(try obtain⟨a0,a1,a2,a3,a4⟩:=HQ.out W hSw);go_simp;(try with_reducible rfl)
      try simp only[Act.put,q7_,List.set_cons_zero,List.set_cons_succ]
      refine wpAnyH_take (i:=6) (oi:={dst:=some 281,op:=Op.binOp BinOp.lss 3 (Operand.tmp 279) (Operand.tmp 280) 3,type:=4,pos:= "law.go:82",after:=#[{on:=4,ground:=Ground.data},{on:=5,ground:=Ground.data},{on:=3,ground:=Ground.guard}],guard:=some (3,false)}) (v:= ?vq32) rfl (by kernel_rfl) (by kernel_rfl) (by kernel_rfl) (fun _ _ _ h=>h) (Or.inl ⟨by rfl, ?hq32⟩) (by assumption) ?rq32
      case hq32=>intro W hSw;(try obtain⟨a0,a1,a2,a3,a4⟩:=HQ.out W hSw);go_simp;(try with_reducible rfl)
      try simp only[Act.put,q7_,List.set_cons_zero,List.set_cons_succ]
      refine wpAnyH_take (i:=7) (oi:={dst:=some 282,op:=Op.pick (Operand.tmp 278) (Operand.const (Value.bool true)) (Operand.tmp 281),type:=4,pos:= "law.go:82",after:=#[{on:=3,ground:=Ground.data},{on:=6,ground:=Ground.data}],guard:=none}) (v:= ?vq33) rfl (by kernel_rfl) (by kernel_rfl) (by kernel_rfl) (fun _ _ _ h=>h) (Or.inl ⟨by rfl, ?hq33⟩) (by assumption) ?rq33
      case hq33=>intro W hSw;(try obtain⟨a0,a1,a2,a3,a4⟩:=HQ.out W hSw);go_simp;(try with_reducible rfl)
      try simp only[Act.put,q7_,List.set_cons_zero,List.set_cons_succ]
      refine wpAnyH_take (i:=8) (oi:={dst:=some 283,op:=Op.move (Operand.tmp 282),type:=4,pos:= "law.go:82",after:=#[{on:=7,ground:=Ground.data},{on:=3,ground:=Ground.chain}],guard:=none}) (v:= ?vq34) rfl (by kernel_rfl) (by kernel_rfl) (by kernel_rfl) (fun _ _ _ h=>h) (Or.inl ⟨by rfl, ?hq34⟩) (by assumption) ?rq34
      case hq34=>intro W hSw;(try obtain⟨a0,a1,a2,a3,a4⟩:=HQ.out W hSw);go_simp;(try with_reducible rfl)
      try simp only[Act.put,q7_,List.set_cons_zero,List.set_cons_succ]
      refine wpAnyH_take (i:=9) (oi:={dst:=some 284,op:=Op.fieldAddr 29 (Operand.tmp 1) 9,type:=0,pos:= "law.go:82",after:=#[{on:=8,ground:=Ground.guard}],guard:=some (8,true)}) (v:= ?vq35) rfl (by kernel_rfl) (by kernel_rfl) (by kernel_rfl) (fun _ _ _ h=>h) (Or.inl ⟨by rfl, ?hq35⟩) (by assumption) ?rq35
      case hq35=>intro W hSw;(try obtain⟨a0,a1,a2,a3,a4⟩:=HQ.out W hSw);go_simp;(try with_reducible rfl)
      try simp only[Act.put,q7_,List.set_cons_zero,List.set_cons_succ]
      refine wpAnyH_take (i:=10) (oi:={dst:=some 285,op:=Op.load 27 (Operand.tmp 284),type:=27,pos:= "law.go:82",after:=#[{on:=9,ground:=Ground.data},{on:=8,ground:=Ground.guard}],guard:=some (8,true)}) (v:= ?vq36) rfl (by kernel_rfl) (by kernel_rfl) (by kernel_rfl) (fun _ _ _ h=>h) (Or.inl ⟨by rfl, ?hq36⟩) (by assumption) ?rq36
      case hq36=>intro W hSw;(try obtain⟨a0,a1,a2,a3,a4⟩:=HQ.out W hSw);go_simp;(try with_reducible rfl)
      try simp only[Act.put,q7_,List.set_cons_zero,List.set_cons_succ]
      refine wpAnyH_take (i:=11) (oi:={dst:=some 286,op:=Op.move (Operand.tmp 12),type:=3,pos:= "law.go:82",after:=#[{on:=8,ground:=Ground.guard}],guard:=some (8,true)}) (v:= ?vq37) rfl (by kernel_rfl) (by kernel_rfl) (by kernel_rfl) (fun _ _ _ h=>h) (Or.inl ⟨by rfl, ?hq37⟩) (by assumption) ?rq37
      case hq37=>intro W hSw;(try obtain⟨a0,a1,a2,a3,a4⟩:=HQ.out W hSw);go_simp;(try with_reducible rfl)
      try simp only[Act.put,q7_,List.set_cons_zero,List.set_cons_succ]
      refine wpAnyH_take (i:=12) (oi:={dst:=some 287,op:=Op.indexAddr 27 (Operand.tmp 285) (Operand.tmp 286),type:=0,pos:= "law.go:82",after:=#[{on:=10,ground:=Ground.data},{on:=11,ground:=Ground.data},{on:=8,ground:=Ground.guard}],guard:=some (8,true)}) (v:= ?vq38) rfl (by kernel_rfl) (by kernel_rfl) (by kernel_rfl) (fun _ _ _ h=>h) (Or.inl ⟨by rfl, ?hq38⟩) (by assumption) ?rq38
      case hq38=>intro W hSw;(try obtain⟨a0,a1,a2,a3,a4⟩:=HQ.out W hSw);go_simp;(try with_reducible rfl)
      try simp only[Act.put,q7_,List.set_cons_zero,List.set_cons_succ]
      refine wpAnyH_take (i:=13) (oi:={dst:=some 288,op:=Op.fieldAddr 56 (Operand.tmp 287) 1,type:=0,pos:= "law.go:82",after:=#[{on:=12,ground:=Ground.data},{on:=8,ground:=Ground.guard}],guard:=some (8,true)}) (v:= ?vq39) rfl (by kernel_rfl) (by kernel_rfl) (by kernel_rfl) (fun _ _ _ h=>h) (Or.inl ⟨by rfl, ?hq39⟩) (by assumption) ?rq39
      case hq39=>intro W hSw;(try obtain⟨a0,a1,a2,a3,a4⟩:=HQ.out W hSw);go_simp;(try with_reducible rfl)
      try simp only[Act.put,q7_,List.set_cons_zero,List.set_cons_succ]
      refine wpAnyH_take (i:=14) (oi:={dst:=some 289,op:=Op.load 26 (Operand.tmp 288),type:=26,pos:= "law.go:82",after:=#[{on:=13,ground:=Ground.data},{on:=8,ground:=Ground.guard}],guard:=some (8,true)}) (v:= ?vq40) rfl (by kernel_rfl) (by kernel_rfl) (by kernel_rfl) (fun _ _ _ h=>h) (Or.inl ⟨by rfl, ?hq40⟩) (by assumption) ?rq40
      case hq40=>intro W hSw;(try obtain⟨a0,a1,a2,a3,a4⟩:=HQ.out W hSw);go_simp;(try with_reducible rfl)
      try simp only[Act.put,q7_,List.set_cons_zero,List.set_cons_succ]
      refine wpAnyH_take (i:=15) (oi:={dst:=some 290,op:=Op.move (Operand.tmp 13),type:=3,pos:= "law.go:82",after:=#[{on:=8,ground:=Ground.guard}],guard:=some (8,true)}) (v:= ?vq41) rfl (by kernel_rfl) (by kernel_rfl) (by kernel_rfl) (fun _ _ _ h=>h) (Or.inl ⟨by rfl, ?hq41⟩) (by assumption) ?rq41
      case hq41=>intro W hSw;(try obtain⟨a0,a1,a2,a3,a4⟩:=HQ.out W hSw);go_simp;(try with_reducible rfl)
      try simp only[Act.put,q7_,List.set_cons_zero,List.set_cons_succ]
      refine wpAnyH_take (i:=16) (oi:={dst:=some 291,op:=Op.indexAddr 26 (Operand.tmp 289) (Operand.tmp 290),type:=0,pos:= "law.go:82",after:=#[{on:=14,ground:=Ground.data},{on:=15,ground:=Ground.data},{on:=8,ground:=Ground.guard}],guard:=some (8,true)}) (v:= ?vq42) rfl (by kernel_rfl) (by kernel_rfl) (by kernel_rfl) (fun _ _ _ h=>h) (Or.inl ⟨by rfl, ?hq42⟩) (by assumption) ?rq42
      case hq42=>intro W hSw;(try obtain⟨a0,a1,a2,a3,a4⟩:=HQ.out W hSw);go_simp;(try with_reducible rfl)
      try simp only[Act.put,q7_,List.set_cons_zero,List.set_cons_succ]
      refine wpAnyH_take (i:=17) (oi:={dst:=some 292,op:=Op.load 3 (Operand.tmp 291),type:=3,pos:= "law.go:82",after:=#[{on:=16,ground:=Ground.data},{on:=8,ground:=Ground.guard}],guard:=some (8,true)}) (v:= ?vq43) rfl (by kernel_rfl) (by kernel_rfl) (by kernel_rfl) (fun _ _ _ h=>h) (Or.inl ⟨by rfl, ?hq43⟩) (by assumption) ?rq43
      case hq43=>intro W hSw;(try obtain⟨a0,a1,a2,a3,a4⟩:=HQ.out W hSw);go_simp;(try with_reducible rfl)
      try simp only[Act.put,q7_,List.set_cons_zero,List.set_cons_succ]
      refine wpAnyH_take (i:=18) (oi:={dst:=some 293,op:=Op.fieldAddr 56 (Operand.tmp 10) 1,type:=0,pos:= "law.go:82",after:=#[{on:=8,ground:=Ground.guard}],guard:=some (8,true)}) (v:= ?vq44) rfl (by kernel_rfl) (by kernel_rfl) (by kernel_rfl) (fun _ _ _ h=>h) (Or.inl ⟨by rfl, ?hq44⟩) (by assumption) ?rq44
      case hq44=>intro W hSw;(try obtain⟨a0,a1,a2,a3,a4⟩:=HQ.out W hSw);go_simp;(try with_reducible rfl)
      try simp only[Act.put,q7_,List.set_cons_zero,List.set_cons_succ]
      refine wpAnyH_take (i:=19) (oi:={dst:=some 294,op:=Op.load 26 (Operand.tmp 293),type:=26,pos:= "law.go:82",after:=#[{on:=18,ground:=Ground.data},{on:=8,ground:=Ground.guard}],guard:=some (8,true)}) (v:= ?vq45) rfl (by kernel_rfl) (by kernel_rfl) (by kernel_rfl) (fun _ _ _ h=>h) (Or.inl ⟨by rfl, ?hq45⟩) (by assumption) ?rq45
      case hq45=>intro W hSw;(try obtain⟨a0,a1,a2,a3,a4⟩:=HQ.out W hSw);go_simp;(try with_reducible rfl)
      try simp only[Act.put,q7_,List.set_cons_zero,List.set_cons_succ]
      refine wpAnyH_take (i:=20) (oi:={dst:=some 295,op:=Op.move (Operand.tmp 11),type:=3,pos:= "law.go:82",after:=#[{on:=8,ground:=Ground.guard}],guard:=some (8,true)}) (v:= ?vq46) rfl (by kernel_rfl) (by kernel_rfl) (by kernel_rfl) (fun _ _ _ h=>h) (Or.inl ⟨by rfl, ?hq46⟩) (by assumption) ?rq46
      case hq46=>intro W hSw;(try obtain⟨a0,a1,a2,a3,a4⟩:=HQ.out W hSw);go_simp;(try with_reducible rfl)
      try simp only[Act.put,q7_,List.set_cons_zero,List.set_cons_succ]
      refine wpAnyH_take (i:=21) (oi:={dst:=some 296,op:=Op.indexAddr 26 (Operand.tmp 294) (Operand.tmp 295),type:=0,pos:= "law.go:82",after:=#[{on:=19,ground:=Ground.data},{on:=20,ground:=Ground.data},{on:=8,ground:=Ground.guard}],guard:=some (8,true)}) (v:= ?vq47) rfl (by kernel_rfl) (by kernel_rfl) (by kernel_rfl) (fun _ _ _ h=>h) (Or.inl ⟨by rfl, ?hq47⟩) (by assumption) ?rq47
      case hq47=>intro W hSw;(try obtain⟨a0,a1,a2,a3,a4⟩:=HQ.out W hSw);go_simp;(try with_reducible rfl)
      try simp only[Act.put,q7_,List.set_cons_zero,List.set_cons_succ]
      refine wpAnyH_take (i:=22) (oi:={dst:=some 297,op:=Op.load 3 (Operand.tmp 296),type:=3,pos:= "law.go:82",after:=#[{on:=21,ground:=Ground.data},{on:=8,ground:=Ground.guard}],guard:=some (8,true)}) (v:= ?vq48) rfl (by kernel_rfl) (by kernel_rfl) (by kernel_rfl) (fun _ _ _ h=>h) (Or.inl ⟨by rfl, ?hq48⟩) (by assumption) ?rq48
      case hq48=>intro W hSw;(try obtain⟨a0,a1,a2,a3,a4⟩:=HQ.out W hSw);go_simp;(try with_reducible rfl)
      try simp only[Act.put,q7_,List.set_cons_zero,List.set_cons_succ]
      refine wpAnyH_take (i:=23) (oi:={dst:=some 298,op:=Op.binOp BinOp.eql 3 (Operand.tmp 292) (Operand.tmp 297) 3,type:=4,pos:= "law.go:82",after:=#[{on:=17,ground:=Ground.data},{on:=22,ground:=Ground.data},{on:=8,ground:=Ground.guard}],guard:=some (8,true)}) (v:= ?vq49) rfl (by kernel_rfl) (by kernel_rfl) (by kernel_rfl) (fun _ _ _ h=>h) (Or.inl ⟨by rfl, ?hq49⟩) (by assumption) ?rq49
      case hq49=>intro W hSw;(try obtain⟨a0,a1,a2,a3,a4⟩:=HQ.out W hSw);go_simp;(try with_reducible rfl)
      try simp only[Act.put,q7_,List.set_cons_zero,List.set_cons_succ]
      refine wpAnyH_take (i:=24) (oi:={dst:=some 299,op:=Op.pick (Operand.tmp 283) (Operand.tmp 298) (Operand.const (Value.bool false)),type:=4,pos:= "law.go:82",after:=#[{on:=8,ground:=Ground.data},{on:=23,ground:=Ground.data}],guard:=none}) (v:= ?vq50) rfl (by kernel_rfl) (by kernel_rfl) (by kernel_rfl) (fun _ _ _ h=>h) (Or.inl ⟨by rfl, ?hq50⟩) (by assumption) ?rq50
      case hq50=>intro W hSw;(try obtain⟨a0,a1,a2,a3,a4⟩:=HQ.out W hSw);go_simp;(try with_reducible rfl)
      try simp only[Act.put,q7_,List.set_cons_zero,List.set_cons_succ]
      refine wpAnyH_done (by kernel_rfl) ?_ _;go_wp2
      go_roundw
      case rel=>exact⟨m+1,by omega,by go_num,by first | exact Hfm.out | exact Fr.trans Hfm.out hY_ q4_,hst.out⟩
      case measure=>simp[intOf];omega
    ·have gmj:¬ (m:Int)<(j:Int):=by omega
     have hst:Hid (∀ m'<m+1,∀ b,yb[m']? =some b→(q≠k∨m'<j)→b≠v):=zjB Hsm.out Hbv.out (fun h=>absurd h (by have:=Hqk.out;omega));go_wp2_with fail;refine wp_region_held_drew (S:=fun W=>Fr (fun _=>False) wr W) (by kernel_rfl) ((Fr.refl _ wr).drew) (fun hY_=>?_)
     refine wpAnyH_take (i:=0) (oi:={dst:=some 275,op:=Op.move (Operand.tmp 12),type:=3,pos:= "law.go:82",after:=#[],guard:=none}) (v:= ?vq51) rfl (by kernel_rfl) (by kernel_rfl) (by kernel_rfl) (fun _ _ _ h=>h) (Or.inl ⟨by rfl, ?hq51⟩) (by assumption) ?rq51
     case hq51=>intro W hSw;(try obtain⟨a0,a1,a2,a3,a4⟩:=HQ.out W hSw);go_simp;(try with_reducible rfl)
     try simp only[Act.put,q7_,List.set_cons_zero,List.set_cons_succ]
     refine wpAnyH_take (i:=1) (oi:={dst:=some 276,op:=Op.move (Operand.tmp 9),type:=3,pos:= "law.go:82",after:=#[],guard:=none}) (v:= ?vq52) rfl (by kernel_rfl) (by kernel_rfl) (by kernel_rfl) (fun _ _ _ h=>h) (Or.inl ⟨by rfl, ?hq52⟩) (by assumption) ?rq52
     case hq52=>intro W hSw;(try obtain⟨a0,a1,a2,a3,a4⟩:=HQ.out W hSw);go_simp;(try with_reducible rfl)
     try simp only[Act.put,q7_,List.set_cons_zero,List.set_cons_succ]
     refine wpAnyH_take (i:=2) (oi:={dst:=some 277,op:=Op.binOp BinOp.neq 3 (Operand.tmp 275) (Operand.tmp 276) 3,type:=4,pos:= "law.go:82",after:=#[{on:=0,ground:=Ground.data},{on:=1,ground:=Ground.data}],guard:=none}) (v:= ?vq53) rfl (by kernel_rfl) (by kernel_rfl) (by kernel_rfl) (fun _ _ _ h=>h) (Or.inl ⟨by rfl, ?hq53⟩) (by assumption) ?rq53
     case hq53=>intro W hSw;(try obtain⟨a0,a1,a2,a3,a4⟩:=HQ.out W hSw);go_simp;(try with_reducible rfl)
     try simp only[Act.put,q7_,List.set_cons_zero,List.set_cons_succ]
     refine wpAnyH_take (i:=3) (oi:={dst:=some 278,op:=Op.move (Operand.tmp 277),type:=4,pos:= "law.go:82",after:=#[{on:=2,ground:=Ground.data}],guard:=none}) (v:= ?vq54) rfl (by kernel_rfl) (by kernel_rfl) (by kernel_rfl) (fun _ _ _ h=>h) (Or.inl ⟨by rfl, ?hq54⟩) (by assumption) ?rq54
     case hq54=>intro W hSw;(try obtain⟨a0,a1,a2,a3,a4⟩:=HQ.out W hSw);go_simp;(try with_reducible rfl)
     try simp only[Act.put,q7_,List.set_cons_zero,List.set_cons_succ]
     refine wpAnyH_take (i:=4) (oi:={dst:=some 279,op:=Op.move (Operand.tmp 13),type:=3,pos:= "law.go:82",after:=#[{on:=3,ground:=Ground.guard}],guard:=some (3,false)}) (v:= ?vq55) rfl (by kernel_rfl) (by kernel_rfl) (by kernel_rfl) (fun _ _ _ h=>h) (Or.inl ⟨by rfl, ?hq55⟩) (by assumption) ?rq55
     case hq55=>intro W hSw;(try obtain⟨a0,a1,a2,a3,a4⟩:=HQ.out W hSw);go_simp;(try with_reducible rfl)
     try simp only[Act.put,q7_,List.set_cons_zero,List.set_cons_succ]
     refine wpAnyH_take (i:=5) (oi:={dst:=some 280,op:=Op.move (Operand.tmp 11),type:=3,pos:= "law.go:82",after:=#[{on:=3,ground:=Ground.guard}],guard:=some (3,false)}) (v:= ?vq56) rfl (by kernel_rfl) (by kernel_rfl) (by kernel_rfl) (fun _ _ _ h=>h) (Or.inl ⟨by rfl, ?hq56⟩) (by assumption) ?rq56
     case hq56=>intro W hSw;(try obtain⟨a0,a1,a2,a3,a4⟩:=HQ.out W hSw);go_simp;(try with_reducible rfl)
     try simp only[Act.put,q7_,List.set_cons_zero,List.set_cons_succ]
     refine wpAnyH_take (i:=6) (oi:={dst:=some 281,op:=Op.binOp BinOp.lss 3 (Operand.tmp 279) (Operand.tmp 280) 3,type:=4,pos:= "law.go:82",after:=#[{on:=4,ground:=Ground.data},{on:=5,ground:=Ground.data},{on:=3,ground:=Ground.guard}],guard:=some (3,false)}) (v:= ?vq57) rfl (by kernel_rfl) (by kernel_rfl) (by kernel_rfl) (fun _ _ _ h=>h) (Or.inl ⟨by rfl, ?hq57⟩) (by assumption) ?rq57
     case hq57=>intro W hSw;(try obtain⟨a0,a1,a2,a3,a4⟩:=HQ.out W hSw);go_simp;(try with_reducible rfl)
     try simp only[Act.put,q7_,List.set_cons_zero,List.set_cons_succ]
     refine wpAnyH_take (i:=7) (oi:={dst:=some 282,op:=Op.pick (Operand.tmp 278) (Operand.const (Value.bool true)) (Operand.tmp 281),type:=4,pos:= "law.go:82",after:=#[{on:=3,ground:=Ground.data},{on:=6,ground:=Ground.data}],guard:=none}) (v:= ?vq58) rfl (by kernel_rfl) (by kernel_rfl) (by kernel_rfl) (fun _ _ _ h=>h) (Or.inl ⟨by rfl, ?hq58⟩) (by assumption) ?rq58
     case hq58=>intro W hSw;(try obtain⟨a0,a1,a2,a3,a4⟩:=HQ.out W hSw);go_simp;(try with_reducible rfl)
     try simp only[Act.put,q7_,List.set_cons_zero,List.set_cons_succ]
     refine wpAnyH_take (i:=8) (oi:={dst:=some 283,op:=Op.move (Operand.tmp 282),type:=4,pos:= "law.go:82",after:=#[{on:=7,ground:=Ground.data},{on:=3,ground:=Ground.chain}],guard:=none}) (v:= ?vq59) rfl (by kernel_rfl) (by kernel_rfl) (by kernel_rfl) (fun _ _ _ h=>h) (Or.inl ⟨by rfl, ?hq59⟩) (by assumption) ?rq59
     case hq59=>intro W hSw;(try obtain⟨a0,a1,a2,a3,a4⟩:=HQ.out W hSw);go_simp;(try with_reducible rfl)
     try simp only[Act.put,q7_,List.set_cons_zero,List.set_cons_succ]
     refine wpAnyH_take (i:=9) (oi:={dst:=some 284,op:=Op.fieldAddr 29 (Operand.tmp 1) 9,type:=0,pos:= "law.go:82",after:=#[{on:=8,ground:=Ground.guard}],guard:=some (8,true)}) (v:=undef) rfl (by kernel_rfl) (by kernel_rfl) (by kernel_rfl) (fun _ _ _ h=>h) (Or.inr ⟨by rfl,rfl⟩) (by assumption) ?_
     try simp only[Act.put,q7_,List.set_cons_zero,List.set_cons_succ]
     refine wpAnyH_take (i:=10) (oi:={dst:=some 285,op:=Op.load 27 (Operand.tmp 284),type:=27,pos:= "law.go:82",after:=#[{on:=9,ground:=Ground.data},{on:=8,ground:=Ground.guard}],guard:=some (8,true)}) (v:=undef) rfl (by kernel_rfl) (by kernel_rfl) (by kernel_rfl) (fun _ _ _ h=>h) (Or.inr ⟨by rfl,rfl⟩) (by assumption) ?_
     try simp only[Act.put,q7_,List.set_cons_zero,List.set_cons_succ]
     refine wpAnyH_take (i:=11) (oi:={dst:=some 286,op:=Op.move (Operand.tmp 12),type:=3,pos:= "law.go:82",after:=#[{on:=8,ground:=Ground.guard}],guard:=some (8,true)}) (v:=undef) rfl (by kernel_rfl) (by kernel_rfl) (by kernel_rfl) (fun _ _ _ h=>h) (Or.inr ⟨by rfl,rfl⟩) (by assumption) ?_
     try simp only[Act.put,q7_,List.set_cons_zero,List.set_cons_succ]
     refine wpAnyH_take (i:=12) (oi:={dst:=some 287,op:=Op.indexAddr 27 (Operand.tmp 285) (Operand.tmp 286),type:=0,pos:= "law.go:82",after:=#[{on:=10,ground:=Ground.data},{on:=11,ground:=Ground.data},{on:=8,ground:=Ground.guard}],guard:=some (8,true)}) (v:=undef) rfl (by kernel_rfl) (by kernel_rfl) (by kernel_rfl) (fun _ _ _ h=>h) (Or.inr ⟨by rfl,rfl⟩) (by assumption) ?_
     try simp only[Act.put,q7_,List.set_cons_zero,List.set_cons_succ]
     refine wpAnyH_take (i:=13) (oi:={dst:=some 288,op:=Op.fieldAddr 56 (Operand.tmp 287) 1,type:=0,pos:= "law.go:82",after:=#[{on:=12,ground:=Ground.data},{on:=8,ground:=Ground.guard}],guard:=some (8,true)}) (v:=undef) rfl (by kernel_rfl) (by kernel_rfl) (by kernel_rfl) (fun _ _ _ h=>h) (Or.inr ⟨by rfl,rfl⟩) (by assumption) ?_
     try simp only[Act.put,q7_,List.set_cons_zero,List.set_cons_succ]
     refine wpAnyH_take (i:=14) (oi:={dst:=some 289,op:=Op.load 26 (Operand.tmp 288),type:=26,pos:= "law.go:82",after:=#[{on:=13,ground:=Ground.data},{on:=8,ground:=Ground.guard}],guard:=some (8,true)}) (v:=undef) rfl (by kernel_rfl) (by kernel_rfl) (by kernel_rfl) (fun _ _ _ h=>h) (Or.inr ⟨by rfl,rfl⟩) (by assumption) ?_
     try simp only[Act.put,q7_,List.set_cons_zero,List.set_cons_succ]
     refine wpAnyH_take (i:=15) (oi:={dst:=some 290,op:=Op.move (Operand.tmp 13),type:=3,pos:= "law.go:82",after:=#[{on:=8,ground:=Ground.guard}],guard:=some (8,true)}) (v:=undef) rfl (by kernel_rfl) (by kernel_rfl) (by kernel_rfl) (fun _ _ _ h=>h) (Or.inr ⟨by rfl,rfl⟩) (by assumption) ?_
     try simp only[Act.put,q7_,List.set_cons_zero,List.set_cons_succ]
     refine wpAnyH_take (i:=16) (oi:={dst:=some 291,op:=Op.indexAddr 26 (Operand.tmp 289) (Operand.tmp 290),type:=0,pos:= "law.go:82",after:=#[{on:=14,ground:=Ground.data},{on:=15,ground:=Ground.data},{on:=8,ground:=Ground.guard}],guard:=some (8,true)}) (v:=undef) rfl (by kernel_rfl) (by kernel_rfl) (by kernel_rfl) (fun _ _ _ h=>h) (Or.inr ⟨by rfl,rfl⟩) (by assumption) ?_
     try simp only[Act.put,q7_,List.set_cons_zero,List.set_cons_succ]
     refine wpAnyH_take (i:=17) (oi:={dst:=some 292,op:=Op.load 3 (Operand.tmp 291),type:=3,pos:= "law.go:82",after:=#[{on:=16,ground:=Ground.data},{on:=8,ground:=Ground.guard}],guard:=some (8,true)}) (v:=undef) rfl (by kernel_rfl) (by kernel_rfl) (by kernel_rfl) (fun _ _ _ h=>h) (Or.inr ⟨by rfl,rfl⟩) (by assumption) ?_
     try simp only[Act.put,q7_,List.set_cons_zero,List.set_cons_succ]
     refine wpAnyH_take (i:=18) (oi:={dst:=some 293,op:=Op.fieldAddr 56 (Operand.tmp 10) 1,type:=0,pos:= "law.go:82",after:=#[{on:=8,ground:=Ground.guard}],guard:=some (8,true)}) (v:=undef) rfl (by kernel_rfl) (by kernel_rfl) (by kernel_rfl) (fun _ _ _ h=>h) (Or.inr ⟨by rfl,rfl⟩) (by assumption) ?_
     try simp only[Act.put,q7_,List.set_cons_zero,List.set_cons_succ]
     refine wpAnyH_take (i:=19) (oi:={dst:=some 294,op:=Op.load 26 (Operand.tmp 293),type:=26,pos:= "law.go:82",after:=#[{on:=18,ground:=Ground.data},{on:=8,ground:=Ground.guard}],guard:=some (8,true)}) (v:=undef) rfl (by kernel_rfl) (by kernel_rfl) (by kernel_rfl) (fun _ _ _ h=>h) (Or.inr ⟨by rfl,rfl⟩) (by assumption) ?_
     try simp only[Act.put,q7_,List.set_cons_zero,List.set_cons_succ]
     refine wpAnyH_take (i:=20) (oi:={dst:=some 295,op:=Op.move (Operand.tmp 11),type:=3,pos:= "law.go:82",after:=#[{on:=8,ground:=Ground.guard}],guard:=some (8,true)}) (v:=undef) rfl (by kernel_rfl) (by kernel_rfl) (by kernel_rfl) (fun _ _ _ h=>h) (Or.inr ⟨by rfl,rfl⟩) (by assumption) ?_
     try simp only[Act.put,q7_,List.set_cons_zero,List.set_cons_succ]
     refine wpAnyH_take (i:=21) (oi:={dst:=some 296,op:=Op.indexAddr 26 (Operand.tmp 294) (Operand.tmp 295),type:=0,pos:= "law.go:82",after:=#[{on:=19,ground:=Ground.data},{on:=20,ground:=Ground.data},{on:=8,ground:=Ground.guard}],guard:=some (8,true)}) (v:=undef) rfl (by kernel_rfl) (by kernel_rfl) (by kernel_rfl) (fun _ _ _ h=>h) (Or.inr ⟨by rfl,rfl⟩) (by assumption) ?_
     try simp only[Act.put,q7_,List.set_cons_zero,List.set_cons_succ]
     refine wpAnyH_take (i:=22) (oi:={dst:=some 297,op:=Op.load 3 (Operand.tmp 296),type:=3,pos:= "law.go:82",after:=#[{on:=21,ground:=Ground.data},{on:=8,ground:=Ground.guard}],guard:=some (8,true)}) (v:=undef) rfl (by kernel_rfl) (by kernel_rfl) (by kernel_rfl) (fun _ _ _ h=>h) (Or.inr ⟨by rfl,rfl⟩) (by assumption) ?_
     try simp only[Act.put,q7_,List.set_cons_zero,List.set_cons_succ]
     refine wpAnyH_take (i:=23) (oi:={dst:=some 298,op:=Op.binOp BinOp.eql 3 (Operand.tmp 292) (Operand.tmp 297) 3,type:=4,pos:= "law.go:82",after:=#[{on:=17,ground:=Ground.data},{on:=22,ground:=Ground.data},{on:=8,ground:=Ground.guard}],guard:=some (8,true)}) (v:=undef) rfl (by kernel_rfl) (by kernel_rfl) (by kernel_rfl) (fun _ _ _ h=>h) (Or.inr ⟨by rfl,rfl⟩) (by assumption) ?_
     try simp only[Act.put,q7_,List.set_cons_zero,List.set_cons_succ]
     refine wpAnyH_take (i:=24) (oi:={dst:=some 299,op:=Op.pick (Operand.tmp 283) (Operand.tmp 298) (Operand.const (Value.bool false)),type:=4,pos:= "law.go:82",after:=#[{on:=8,ground:=Ground.data},{on:=23,ground:=Ground.data}],guard:=none}) (v:= ?vq60) rfl (by kernel_rfl) (by kernel_rfl) (by kernel_rfl) (fun _ _ _ h=>h) (Or.inl ⟨by rfl, ?hq60⟩) (by assumption) ?rq60
     case hq60=>intro W hSw;(try obtain⟨a0,a1,a2,a3,a4⟩:=HQ.out W hSw);go_simp;(try with_reducible rfl)
     try simp only[Act.put,q7_,List.set_cons_zero,List.set_cons_succ]
     refine wpAnyH_done (by kernel_rfl) ?_ _;go_wp2
     go_roundw
     case rel=>exact⟨m+1,by omega,by go_num,by first | exact Hfm.out | exact Fr.trans Hfm.out hY_ q4_,hst.out⟩
     case measure=>simp[intOf];omega
   ·have gqk:((q:Int) != (k:Int))=true:=by simp;omega
    by_cases hbe:bv=v
    ·have gbe:(bv==v)=true:=by simpa using hbe
     have hno:Hid (zbd c=false):=zaz fun e=>zi9 (zat e).2.2.2.2.2 Hyu.out Hu.out Hbv.out Hv.out hbe (.inl hqk2) (by omega);go_wp2_with fail;refine wp_region_held_drew (S:=fun W=>Fr (fun _=>False) wr W) (by kernel_rfl) ((Fr.refl _ wr).drew) (fun hY_=>?_)
     refine wpAnyH_take (i:=0) (oi:={dst:=some 275,op:=Op.move (Operand.tmp 12),type:=3,pos:= "law.go:82",after:=#[],guard:=none}) (v:= ?vq61) rfl (by kernel_rfl) (by kernel_rfl) (by kernel_rfl) (fun _ _ _ h=>h) (Or.inl ⟨by rfl, ?hq61⟩) (by assumption) ?rq61
     case hq61=>intro W hSw;(try obtain⟨a0,a1,a2,a3,a4⟩:=HQ.out W hSw);go_simp;(try with_reducible rfl)
     try simp only[Act.put,q7_,List.set_cons_zero,List.set_cons_succ]
     refine wpAnyH_take (i:=1) (oi:={dst:=some 276,op:=Op.move (Operand.tmp 9),type:=3,pos:= "law.go:82",after:=#[],guard:=none}) (v:= ?vq62) rfl (by kernel_rfl) (by kernel_rfl) (by kernel_rfl) (fun _ _ _ h=>h) (Or.inl ⟨by rfl, ?hq62⟩) (by assumption) ?rq62
     case hq62=>intro W hSw;(try obtain⟨a0,a1,a2,a3,a4⟩:=HQ.out W hSw);go_simp;(try with_reducible rfl)
     try simp only[Act.put,q7_,List.set_cons_zero,List.set_cons_succ]
     refine wpAnyH_take (i:=2) (oi:={dst:=some 277,op:=Op.binOp BinOp.neq 3 (Operand.tmp 275) (Operand.tmp 276) 3,type:=4,pos:= "law.go:82",after:=#[{on:=0,ground:=Ground.data},{on:=1,ground:=Ground.data}],guard:=none}) (v:= ?vq63) rfl (by kernel_rfl) (by kernel_rfl) (by kernel_rfl) (fun _ _ _ h=>h) (Or.inl ⟨by rfl, ?hq63⟩) (by assumption) ?rq63
     case hq63=>intro W hSw;(try obtain⟨a0,a1,a2,a3,a4⟩:=HQ.out W hSw);go_simp;(try with_reducible rfl)
     try simp only[Act.put,q7_,List.set_cons_zero,List.set_cons_succ]
     refine wpAnyH_take (i:=3) (oi:={dst:=some 278,op:=Op.move (Operand.tmp 277),type:=4,pos:= "law.go:82",after:=#[{on:=2,ground:=Ground.data}],guard:=none}) (v:= ?vq64) rfl (by kernel_rfl) (by kernel_rfl) (by kernel_rfl) (fun _ _ _ h=>h) (Or.inl ⟨by rfl, ?hq64⟩) (by assumption) ?rq64
     case hq64=>intro W hSw;(try obtain⟨a0,a1,a2,a3,a4⟩:=HQ.out W hSw);go_simp;(try with_reducible rfl)
     try simp only[Act.put,q7_,List.set_cons_zero,List.set_cons_succ]
     refine wpAnyH_take (i:=4) (oi:={dst:=some 279,op:=Op.move (Operand.tmp 13),type:=3,pos:= "law.go:82",after:=#[{on:=3,ground:=Ground.guard}],guard:=some (3,false)}) (v:=undef) rfl (by kernel_rfl) (by kernel_rfl) (by kernel_rfl) (fun _ _ _ h=>h) (Or.inr ⟨by rfl,rfl⟩) (by assumption) ?_
     try simp only[Act.put,q7_,List.set_cons_zero,List.set_cons_succ]
     refine wpAnyH_take (i:=5) (oi:={dst:=some 280,op:=Op.move (Operand.tmp 11),type:=3,pos:= "law.go:82",after:=#[{on:=3,ground:=Ground.guard}],guard:=some (3,false)}) (v:=undef) rfl (by kernel_rfl) (by kernel_rfl) (by kernel_rfl) (fun _ _ _ h=>h) (Or.inr ⟨by rfl,rfl⟩) (by assumption) ?_
     try simp only[Act.put,q7_,List.set_cons_zero,List.set_cons_succ]
     refine wpAnyH_take (i:=6) (oi:={dst:=some 281,op:=Op.binOp BinOp.lss 3 (Operand.tmp 279) (Operand.tmp 280) 3,type:=4,pos:= "law.go:82",after:=#[{on:=4,ground:=Ground.data},{on:=5,ground:=Ground.data},{on:=3,ground:=Ground.guard}],guard:=some (3,false)}) (v:=undef) rfl (by kernel_rfl) (by kernel_rfl) (by kernel_rfl) (fun _ _ _ h=>h) (Or.inr ⟨by rfl,rfl⟩) (by assumption) ?_
     try simp only[Act.put,q7_,List.set_cons_zero,List.set_cons_succ]
     refine wpAnyH_take (i:=7) (oi:={dst:=some 282,op:=Op.pick (Operand.tmp 278) (Operand.const (Value.bool true)) (Operand.tmp 281),type:=4,pos:= "law.go:82",after:=#[{on:=3,ground:=Ground.data},{on:=6,ground:=Ground.data}],guard:=none}) (v:= ?vq65) rfl (by kernel_rfl) (by kernel_rfl) (by kernel_rfl) (fun _ _ _ h=>h) (Or.inl ⟨by rfl, ?hq65⟩) (by assumption) ?rq65
     case hq65=>intro W hSw;(try obtain⟨a0,a1,a2,a3,a4⟩:=HQ.out W hSw);go_simp;(try with_reducible rfl)
     try simp only[Act.put,q7_,List.set_cons_zero,List.set_cons_succ]
     refine wpAnyH_take (i:=8) (oi:={dst:=some 283,op:=Op.move (Operand.tmp 282),type:=4,pos:= "law.go:82",after:=#[{on:=7,ground:=Ground.data},{on:=3,ground:=Ground.chain}],guard:=none}) (v:= ?vq66) rfl (by kernel_rfl) (by kernel_rfl) (by kernel_rfl) (fun _ _ _ h=>h) (Or.inl ⟨by rfl, ?hq66⟩) (by assumption) ?rq66
     case hq66=>intro W hSw;(try obtain⟨a0,a1,a2,a3,a4⟩:=HQ.out W hSw);go_simp;(try with_reducible rfl)
     try simp only[Act.put,q7_,List.set_cons_zero,List.set_cons_succ]
     refine wpAnyH_take (i:=9) (oi:={dst:=some 284,op:=Op.fieldAddr 29 (Operand.tmp 1) 9,type:=0,pos:= "law.go:82",after:=#[{on:=8,ground:=Ground.guard}],guard:=some (8,true)}) (v:= ?vq67) rfl (by kernel_rfl) (by kernel_rfl) (by kernel_rfl) (fun _ _ _ h=>h) (Or.inl ⟨by rfl, ?hq67⟩) (by assumption) ?rq67
     case hq67=>intro W hSw;(try obtain⟨a0,a1,a2,a3,a4⟩:=HQ.out W hSw);go_simp;(try with_reducible rfl)
     try simp only[Act.put,q7_,List.set_cons_zero,List.set_cons_succ]
     refine wpAnyH_take (i:=10) (oi:={dst:=some 285,op:=Op.load 27 (Operand.tmp 284),type:=27,pos:= "law.go:82",after:=#[{on:=9,ground:=Ground.data},{on:=8,ground:=Ground.guard}],guard:=some (8,true)}) (v:= ?vq68) rfl (by kernel_rfl) (by kernel_rfl) (by kernel_rfl) (fun _ _ _ h=>h) (Or.inl ⟨by rfl, ?hq68⟩) (by assumption) ?rq68
     case hq68=>intro W hSw;(try obtain⟨a0,a1,a2,a3,a4⟩:=HQ.out W hSw);go_simp;(try with_reducible rfl)
     try simp only[Act.put,q7_,List.set_cons_zero,List.set_cons_succ]
     refine wpAnyH_take (i:=11) (oi:={dst:=some 286,op:=Op.move (Operand.tmp 12),type:=3,pos:= "law.go:82",after:=#[{on:=8,ground:=Ground.guard}],guard:=some (8,true)}) (v:= ?vq69) rfl (by kernel_rfl) (by kernel_rfl) (by kernel_rfl) (fun _ _ _ h=>h) (Or.inl ⟨by rfl, ?hq69⟩) (by assumption) ?rq69
     case hq69=>intro W hSw;(try obtain⟨a0,a1,a2,a3,a4⟩:=HQ.out W hSw);go_simp;(try with_reducible rfl)
     try simp only[Act.put,q7_,List.set_cons_zero,List.set_cons_succ]
     refine wpAnyH_take (i:=12) (oi:={dst:=some 287,op:=Op.indexAddr 27 (Operand.tmp 285) (Operand.tmp 286),type:=0,pos:= "law.go:82",after:=#[{on:=10,ground:=Ground.data},{on:=11,ground:=Ground.data},{on:=8,ground:=Ground.guard}],guard:=some (8,true)}) (v:= ?vq70) rfl (by kernel_rfl) (by kernel_rfl) (by kernel_rfl) (fun _ _ _ h=>h) (Or.inl ⟨by rfl, ?hq70⟩) (by assumption) ?rq70
     case hq70=>intro W hSw;(try obtain⟨a0,a1,a2,a3,a4⟩:=HQ.out W hSw);go_simp;(try with_reducible rfl)
     try simp only[Act.put,q7_,List.set_cons_zero,List.set_cons_succ]
     refine wpAnyH_take (i:=13) (oi:={dst:=some 288,op:=Op.fieldAddr 56 (Operand.tmp 287) 1,type:=0,pos:= "law.go:82",after:=#[{on:=12,ground:=Ground.data},{on:=8,ground:=Ground.guard}],guard:=some (8,true)}) (v:= ?vq71) rfl (by kernel_rfl) (by kernel_rfl) (by kernel_rfl) (fun _ _ _ h=>h) (Or.inl ⟨by rfl, ?hq71⟩) (by assumption) ?rq71
     case hq71=>intro W hSw;(try obtain⟨a0,a1,a2,a3,a4⟩:=HQ.out W hSw);go_simp;(try with_reducible rfl)
     try simp only[Act.put,q7_,List.set_cons_zero,List.set_cons_succ]
     refine wpAnyH_take (i:=14) (oi:={dst:=some 289,op:=Op.load 26 (Operand.tmp 288),type:=26,pos:= "law.go:82",after:=#[{on:=13,ground:=Ground.data},{on:=8,ground:=Ground.guard}],guard:=some (8,true)}) (v:= ?vq72) rfl (by kernel_rfl) (by kernel_rfl) (by kernel_rfl) (fun _ _ _ h=>h) (Or.inl ⟨by rfl, ?hq72⟩) (by assumption) ?rq72
     case hq72=>intro W hSw;(try obtain⟨a0,a1,a2,a3,a4⟩:=HQ.out W hSw);go_simp;(try with_reducible rfl)
     try simp only[Act.put,q7_,List.set_cons_zero,List.set_cons_succ]
     refine wpAnyH_take (i:=15) (oi:={dst:=some 290,op:=Op.move (Operand.tmp 13),type:=3,pos:= "law.go:82",after:=#[{on:=8,ground:=Ground.guard}],guard:=some (8,true)}) (v:= ?vq73) rfl (by kernel_rfl) (by kernel_rfl) (by kernel_rfl) (fun _ _ _ h=>h) (Or.inl ⟨by rfl, ?hq73⟩) (by assumption) ?rq73
     case hq73=>intro W hSw;(try obtain⟨a0,a1,a2,a3,a4⟩:=HQ.out W hSw);go_simp;(try with_reducible rfl)
     try simp only[Act.put,q7_,List.set_cons_zero,List.set_cons_succ]
     refine wpAnyH_take (i:=16) (oi:={dst:=some 291,op:=Op.indexAddr 26 (Operand.tmp 289) (Operand.tmp 290),type:=0,pos:= "law.go:82",after:=#[{on:=14,ground:=Ground.data},{on:=15,ground:=Ground.data},{on:=8,ground:=Ground.guard}],guard:=some (8,true)}) (v:= ?vq74) rfl (by kernel_rfl) (by kernel_rfl) (by kernel_rfl) (fun _ _ _ h=>h) (Or.inl ⟨by rfl, ?hq74⟩) (by assumption) ?rq74
     case hq74=>intro W hSw;(try obtain⟨a0,a1,a2,a3,a4⟩:=HQ.out W hSw);go_simp;(try with_reducible rfl)
     try simp only[Act.put,q7_,List.set_cons_zero,List.set_cons_succ]
     refine wpAnyH_take (i:=17) (oi:={dst:=some 292,op:=Op.load 3 (Operand.tmp 291),type:=3,pos:= "law.go:82",after:=#[{on:=16,ground:=Ground.data},{on:=8,ground:=Ground.guard}],guard:=some (8,true)}) (v:= ?vq75) rfl (by kernel_rfl) (by kernel_rfl) (by kernel_rfl) (fun _ _ _ h=>h) (Or.inl ⟨by rfl, ?hq75⟩) (by assumption) ?rq75
     case hq75=>intro W hSw;(try obtain⟨a0,a1,a2,a3,a4⟩:=HQ.out W hSw);go_simp;(try with_reducible rfl)
     try simp only[Act.put,q7_,List.set_cons_zero,List.set_cons_succ]
     refine wpAnyH_take (i:=18) (oi:={dst:=some 293,op:=Op.fieldAddr 56 (Operand.tmp 10) 1,type:=0,pos:= "law.go:82",after:=#[{on:=8,ground:=Ground.guard}],guard:=some (8,true)}) (v:= ?vq76) rfl (by kernel_rfl) (by kernel_rfl) (by kernel_rfl) (fun _ _ _ h=>h) (Or.inl ⟨by rfl, ?hq76⟩) (by assumption) ?rq76
     case hq76=>intro W hSw;(try obtain⟨a0,a1,a2,a3,a4⟩:=HQ.out W hSw);go_simp;(try with_reducible rfl)
     try simp only[Act.put,q7_,List.set_cons_zero,List.set_cons_succ]
     refine wpAnyH_take (i:=19) (oi:={dst:=some 294,op:=Op.load 26 (Operand.tmp 293),type:=26,pos:= "law.go:82",after:=#[{on:=18,ground:=Ground.data},{on:=8,ground:=Ground.guard}],guard:=some (8,true)}) (v:= ?vq77) rfl (by kernel_rfl) (by kernel_rfl) (by kernel_rfl) (fun _ _ _ h=>h) (Or.inl ⟨by rfl, ?hq77⟩) (by assumption) ?rq77
     case hq77=>intro W hSw;(try obtain⟨a0,a1,a2,a3,a4⟩:=HQ.out W hSw);go_simp;(try with_reducible rfl)
     try simp only[Act.put,q7_,List.set_cons_zero,List.set_cons_succ]
     refine wpAnyH_take (i:=20) (oi:={dst:=some 295,op:=Op.move (Operand.tmp 11),type:=3,pos:= "law.go:82",after:=#[{on:=8,ground:=Ground.guard}],guard:=some (8,true)}) (v:= ?vq78) rfl (by kernel_rfl) (by kernel_rfl) (by kernel_rfl) (fun _ _ _ h=>h) (Or.inl ⟨by rfl, ?hq78⟩) (by assumption) ?rq78
     case hq78=>intro W hSw;(try obtain⟨a0,a1,a2,a3,a4⟩:=HQ.out W hSw);go_simp;(try with_reducible rfl)
     try simp only[Act.put,q7_,List.set_cons_zero,List.set_cons_succ]
     refine wpAnyH_take (i:=21) (oi:={dst:=some 296,op:=Op.indexAddr 26 (Operand.tmp 294) (Operand.tmp 295),type:=0,pos:= "law.go:82",after:=#[{on:=19,ground:=Ground.data},{on:=20,ground:=Ground.data},{on:=8,ground:=Ground.guard}],guard:=some (8,true)}) (v:= ?vq79) rfl (by kernel_rfl) (by kernel_rfl) (by kernel_rfl) (fun _ _ _ h=>h) (Or.inl ⟨by rfl, ?hq79⟩) (by assumption) ?rq79
     case hq79=>intro W hSw;(try obtain⟨a0,a1,a2,a3,a4⟩:=HQ.out W hSw);go_simp;(try with_reducible rfl)
     try simp only[Act.put,q7_,List.set_cons_zero,List.set_cons_succ]
     refine wpAnyH_take (i:=22) (oi:={dst:=some 297,op:=Op.load 3 (Operand.tmp 296),type:=3,pos:= "law.go:82",after:=#[{on:=21,ground:=Ground.data},{on:=8,ground:=Ground.guard}],guard:=some (8,true)}) (v:= ?vq80) rfl (by kernel_rfl) (by kernel_rfl) (by kernel_rfl) (fun _ _ _ h=>h) (Or.inl ⟨by rfl, ?hq80⟩) (by assumption) ?rq80
     case hq80=>intro W hSw;(try obtain⟨a0,a1,a2,a3,a4⟩:=HQ.out W hSw);go_simp;(try with_reducible rfl)
     try simp only[Act.put,q7_,List.set_cons_zero,List.set_cons_succ]
     refine wpAnyH_take (i:=23) (oi:={dst:=some 298,op:=Op.binOp BinOp.eql 3 (Operand.tmp 292) (Operand.tmp 297) 3,type:=4,pos:= "law.go:82",after:=#[{on:=17,ground:=Ground.data},{on:=22,ground:=Ground.data},{on:=8,ground:=Ground.guard}],guard:=some (8,true)}) (v:= ?vq81) rfl (by kernel_rfl) (by kernel_rfl) (by kernel_rfl) (fun _ _ _ h=>h) (Or.inl ⟨by rfl, ?hq81⟩) (by assumption) ?rq81
     case hq81=>intro W hSw;(try obtain⟨a0,a1,a2,a3,a4⟩:=HQ.out W hSw);go_simp;(try with_reducible rfl)
     try simp only[Act.put,q7_,List.set_cons_zero,List.set_cons_succ]
     refine wpAnyH_take (i:=24) (oi:={dst:=some 299,op:=Op.pick (Operand.tmp 283) (Operand.tmp 298) (Operand.const (Value.bool false)),type:=4,pos:= "law.go:82",after:=#[{on:=8,ground:=Ground.data},{on:=23,ground:=Ground.data}],guard:=none}) (v:= ?vq82) rfl (by kernel_rfl) (by kernel_rfl) (by kernel_rfl) (fun _ _ _ h=>h) (Or.inl ⟨by rfl, ?hq82⟩) (by assumption) ?rq82
     case hq82=>intro W hSw;(try obtain⟨a0,a1,a2,a3,a4⟩:=HQ.out W hSw);go_simp;(try with_reducible rfl)
     try simp only[Act.put,q7_,List.set_cons_zero,List.set_cons_succ]
     refine wpAnyH_done (by kernel_rfl) ?_ _;go_wp2_with fail
     try simp only[Exit.inBlock,Exit.then]
     refine HQR.out hno.out _ _ rfl rfl ?_
     first | exact (F2.out.trans Hfm.out q4_) | exact Fr.trans (F2.out.trans Hfm.out q4_) hY_ q4_
    ·have gbe:(bv==v)=false:=by simpa using hbe
     have hst:Hid (∀ m'<m+1,∀ b,yb[m']? =some b→(q≠k∨m'<j)→b≠v):=zjB Hsm.out Hbv.out (fun _=>hbe);go_wp2_with fail;refine wp_region_held_drew (S:=fun W=>Fr (fun _=>False) wr W) (by kernel_rfl) ((Fr.refl _ wr).drew) (fun hY_=>?_)
     refine wpAnyH_take (i:=0) (oi:={dst:=some 275,op:=Op.move (Operand.tmp 12),type:=3,pos:= "law.go:82",after:=#[],guard:=none}) (v:= ?vq83) rfl (by kernel_rfl) (by kernel_rfl) (by kernel_rfl) (fun _ _ _ h=>h) (Or.inl ⟨by rfl, ?hq83⟩) (by assumption) ?rq83
     case hq83=>intro W hSw;(try obtain⟨a0,a1,a2,a3,a4⟩:=HQ.out W hSw);go_simp;(try with_reducible rfl)
     try simp only[Act.put,q7_,List.set_cons_zero,List.set_cons_succ]
     refine wpAnyH_take (i:=1) (oi:={dst:=some 276,op:=Op.move (Operand.tmp 9),type:=3,pos:= "law.go:82",after:=#[],guard:=none}) (v:= ?vq84) rfl (by kernel_rfl) (by kernel_rfl) (by kernel_rfl) (fun _ _ _ h=>h) (Or.inl ⟨by rfl, ?hq84⟩) (by assumption) ?rq84
     case hq84=>intro W hSw;(try obtain⟨a0,a1,a2,a3,a4⟩:=HQ.out W hSw);go_simp;(try with_reducible rfl)
     try simp only[Act.put,q7_,List.set_cons_zero,List.set_cons_succ]
     refine wpAnyH_take (i:=2) (oi:={dst:=some 277,op:=Op.binOp BinOp.neq 3 (Operand.tmp 275) (Operand.tmp 276) 3,type:=4,pos:= "law.go:82",after:=#[{on:=0,ground:=Ground.data},{on:=1,ground:=Ground.data}],guard:=none}) (v:= ?vq85) rfl (by kernel_rfl) (by kernel_rfl) (by kernel_rfl) (fun _ _ _ h=>h) (Or.inl ⟨by rfl, ?hq85⟩) (by assumption) ?rq85
     case hq85=>intro W hSw;(try obtain⟨a0,a1,a2,a3,a4⟩:=HQ.out W hSw);go_simp;(try with_reducible rfl)
     try simp only[Act.put,q7_,List.set_cons_zero,List.set_cons_succ]
     refine wpAnyH_take (i:=3) (oi:={dst:=some 278,op:=Op.move (Operand.tmp 277),type:=4,pos:= "law.go:82",after:=#[{on:=2,ground:=Ground.data}],guard:=none}) (v:= ?vq86) rfl (by kernel_rfl) (by kernel_rfl) (by kernel_rfl) (fun _ _ _ h=>h) (Or.inl ⟨by rfl, ?hq86⟩) (by assumption) ?rq86
     case hq86=>intro W hSw;(try obtain⟨a0,a1,a2,a3,a4⟩:=HQ.out W hSw);go_simp;(try with_reducible rfl)
     try simp only[Act.put,q7_,List.set_cons_zero,List.set_cons_succ]
     refine wpAnyH_take (i:=4) (oi:={dst:=some 279,op:=Op.move (Operand.tmp 13),type:=3,pos:= "law.go:82",after:=#[{on:=3,ground:=Ground.guard}],guard:=some (3,false)}) (v:=undef) rfl (by kernel_rfl) (by kernel_rfl) (by kernel_rfl) (fun _ _ _ h=>h) (Or.inr ⟨by rfl,rfl⟩) (by assumption) ?_
     try simp only[Act.put,q7_,List.set_cons_zero,List.set_cons_succ]
     refine wpAnyH_take (i:=5) (oi:={dst:=some 280,op:=Op.move (Operand.tmp 11),type:=3,pos:= "law.go:82",after:=#[{on:=3,ground:=Ground.guard}],guard:=some (3,false)}) (v:=undef) rfl (by kernel_rfl) (by kernel_rfl) (by kernel_rfl) (fun _ _ _ h=>h) (Or.inr ⟨by rfl,rfl⟩) (by assumption) ?_
     try simp only[Act.put,q7_,List.set_cons_zero,List.set_cons_succ]
     refine wpAnyH_take (i:=6) (oi:={dst:=some 281,op:=Op.binOp BinOp.lss 3 (Operand.tmp 279) (Operand.tmp 280) 3,type:=4,pos:= "law.go:82",after:=#[{on:=4,ground:=Ground.data},{on:=5,ground:=Ground.data},{on:=3,ground:=Ground.guard}],guard:=some (3,false)}) (v:=undef) rfl (by kernel_rfl) (by kernel_rfl) (by kernel_rfl) (fun _ _ _ h=>h) (Or.inr ⟨by rfl,rfl⟩) (by assumption) ?_
     try simp only[Act.put,q7_,List.set_cons_zero,List.set_cons_succ]
     refine wpAnyH_take (i:=7) (oi:={dst:=some 282,op:=Op.pick (Operand.tmp 278) (Operand.const (Value.bool true)) (Operand.tmp 281),type:=4,pos:= "law.go:82",after:=#[{on:=3,ground:=Ground.data},{on:=6,ground:=Ground.data}],guard:=none}) (v:= ?vq87) rfl (by kernel_rfl) (by kernel_rfl) (by kernel_rfl) (fun _ _ _ h=>h) (Or.inl ⟨by rfl, ?hq87⟩) (by assumption) ?rq87
     case hq87=>intro W hSw;(try obtain⟨a0,a1,a2,a3,a4⟩:=HQ.out W hSw);go_simp;(try with_reducible rfl)
     try simp only[Act.put,q7_,List.set_cons_zero,List.set_cons_succ]
     refine wpAnyH_take (i:=8) (oi:={dst:=some 283,op:=Op.move (Operand.tmp 282),type:=4,pos:= "law.go:82",after:=#[{on:=7,ground:=Ground.data},{on:=3,ground:=Ground.chain}],guard:=none}) (v:= ?vq88) rfl (by kernel_rfl) (by kernel_rfl) (by kernel_rfl) (fun _ _ _ h=>h) (Or.inl ⟨by rfl, ?hq88⟩) (by assumption) ?rq88
     case hq88=>intro W hSw;(try obtain⟨a0,a1,a2,a3,a4⟩:=HQ.out W hSw);go_simp;(try with_reducible rfl)
     try simp only[Act.put,q7_,List.set_cons_zero,List.set_cons_succ]
     refine wpAnyH_take (i:=9) (oi:={dst:=some 284,op:=Op.fieldAddr 29 (Operand.tmp 1) 9,type:=0,pos:= "law.go:82",after:=#[{on:=8,ground:=Ground.guard}],guard:=some (8,true)}) (v:= ?vq89) rfl (by kernel_rfl) (by kernel_rfl) (by kernel_rfl) (fun _ _ _ h=>h) (Or.inl ⟨by rfl, ?hq89⟩) (by assumption) ?rq89
     case hq89=>intro W hSw;(try obtain⟨a0,a1,a2,a3,a4⟩:=HQ.out W hSw);go_simp;(try with_reducible rfl)
     try simp only[Act.put,q7_,List.set_cons_zero,List.set_cons_succ]
     refine wpAnyH_take (i:=10) (oi:={dst:=some 285,op:=Op.load 27 (Operand.tmp 284),type:=27,pos:= "law.go:82",after:=#[{on:=9,ground:=Ground.data},{on:=8,ground:=Ground.guard}],guard:=some (8,true)}) (v:= ?vq90) rfl (by kernel_rfl) (by kernel_rfl) (by kernel_rfl) (fun _ _ _ h=>h) (Or.inl ⟨by rfl, ?hq90⟩) (by assumption) ?rq90
     case hq90=>intro W hSw;(try obtain⟨a0,a1,a2,a3,a4⟩:=HQ.out W hSw);go_simp;(try with_reducible rfl)
     try simp only[Act.put,q7_,List.set_cons_zero,List.set_cons_succ]
     refine wpAnyH_take (i:=11) (oi:={dst:=some 286,op:=Op.move (Operand.tmp 12),type:=3,pos:= "law.go:82",after:=#[{on:=8,ground:=Ground.guard}],guard:=some (8,true)}) (v:= ?vq91) rfl (by kernel_rfl) (by kernel_rfl) (by kernel_rfl) (fun _ _ _ h=>h) (Or.inl ⟨by rfl, ?hq91⟩) (by assumption) ?rq91
     case hq91=>intro W hSw;(try obtain⟨a0,a1,a2,a3,a4⟩:=HQ.out W hSw);go_simp;(try with_reducible rfl)
     try simp only[Act.put,q7_,List.set_cons_zero,List.set_cons_succ]
     refine wpAnyH_take (i:=12) (oi:={dst:=some 287,op:=Op.indexAddr 27 (Operand.tmp 285) (Operand.tmp 286),type:=0,pos:= "law.go:82",after:=#[{on:=10,ground:=Ground.data},{on:=11,ground:=Ground.data},{on:=8,ground:=Ground.guard}],guard:=some (8,true)}) (v:= ?vq92) rfl (by kernel_rfl) (by kernel_rfl) (by kernel_rfl) (fun _ _ _ h=>h) (Or.inl ⟨by rfl, ?hq92⟩) (by assumption) ?rq92
     case hq92=>intro W hSw;(try obtain⟨a0,a1,a2,a3,a4⟩:=HQ.out W hSw);go_simp;(try with_reducible rfl)
     try simp only[Act.put,q7_,List.set_cons_zero,List.set_cons_succ]
     refine wpAnyH_take (i:=13) (oi:={dst:=some 288,op:=Op.fieldAddr 56 (Operand.tmp 287) 1,type:=0,pos:= "law.go:82",after:=#[{on:=12,ground:=Ground.data},{on:=8,ground:=Ground.guard}],guard:=some (8,true)}) (v:= ?vq93) rfl (by kernel_rfl) (by kernel_rfl) (by kernel_rfl) (fun _ _ _ h=>h) (Or.inl ⟨by rfl, ?hq93⟩) (by assumption) ?rq93
     case hq93=>intro W hSw;(try obtain⟨a0,a1,a2,a3,a4⟩:=HQ.out W hSw);go_simp;(try with_reducible rfl)
     try simp only[Act.put,q7_,List.set_cons_zero,List.set_cons_succ]
     refine wpAnyH_take (i:=14) (oi:={dst:=some 289,op:=Op.load 26 (Operand.tmp 288),type:=26,pos:= "law.go:82",after:=#[{on:=13,ground:=Ground.data},{on:=8,ground:=Ground.guard}],guard:=some (8,true)}) (v:= ?vq94) rfl (by kernel_rfl) (by kernel_rfl) (by kernel_rfl) (fun _ _ _ h=>h) (Or.inl ⟨by rfl, ?hq94⟩) (by assumption) ?rq94
     case hq94=>intro W hSw;(try obtain⟨a0,a1,a2,a3,a4⟩:=HQ.out W hSw);go_simp;(try with_reducible rfl)
     try simp only[Act.put,q7_,List.set_cons_zero,List.set_cons_succ]
     refine wpAnyH_take (i:=15) (oi:={dst:=some 290,op:=Op.move (Operand.tmp 13),type:=3,pos:= "law.go:82",after:=#[{on:=8,ground:=Ground.guard}],guard:=some (8,true)}) (v:= ?vq95) rfl (by kernel_rfl) (by kernel_rfl) (by kernel_rfl) (fun _ _ _ h=>h) (Or.inl ⟨by rfl, ?hq95⟩) (by assumption) ?rq95
     case hq95=>intro W hSw;(try obtain⟨a0,a1,a2,a3,a4⟩:=HQ.out W hSw);go_simp;(try with_reducible rfl)
     try simp only[Act.put,q7_,List.set_cons_zero,List.set_cons_succ]
     refine wpAnyH_take (i:=16) (oi:={dst:=some 291,op:=Op.indexAddr 26 (Operand.tmp 289) (Operand.tmp 290),type:=0,pos:= "law.go:82",after:=#[{on:=14,ground:=Ground.data},{on:=15,ground:=Ground.data},{on:=8,ground:=Ground.guard}],guard:=some (8,true)}) (v:= ?vq96) rfl (by kernel_rfl) (by kernel_rfl) (by kernel_rfl) (fun _ _ _ h=>h) (Or.inl ⟨by rfl, ?hq96⟩) (by assumption) ?rq96
     case hq96=>intro W hSw;(try obtain⟨a0,a1,a2,a3,a4⟩:=HQ.out W hSw);go_simp;(try with_reducible rfl)
     try simp only[Act.put,q7_,List.set_cons_zero,List.set_cons_succ]
     refine wpAnyH_take (i:=17) (oi:={dst:=some 292,op:=Op.load 3 (Operand.tmp 291),type:=3,pos:= "law.go:82",after:=#[{on:=16,ground:=Ground.data},{on:=8,ground:=Ground.guard}],guard:=some (8,true)}) (v:= ?vq97) rfl (by kernel_rfl) (by kernel_rfl) (by kernel_rfl) (fun _ _ _ h=>h) (Or.inl ⟨by rfl, ?hq97⟩) (by assumption) ?rq97
     case hq97=>intro W hSw;(try obtain⟨a0,a1,a2,a3,a4⟩:=HQ.out W hSw);go_simp;(try with_reducible rfl)
     try simp only[Act.put,q7_,List.set_cons_zero,List.set_cons_succ]
     refine wpAnyH_take (i:=18) (oi:={dst:=some 293,op:=Op.fieldAddr 56 (Operand.tmp 10) 1,type:=0,pos:= "law.go:82",after:=#[{on:=8,ground:=Ground.guard}],guard:=some (8,true)}) (v:= ?vq98) rfl (by kernel_rfl) (by kernel_rfl) (by kernel_rfl) (fun _ _ _ h=>h) (Or.inl ⟨by rfl, ?hq98⟩) (by assumption) ?rq98
     case hq98=>intro W hSw;(try obtain⟨a0,a1,a2,a3,a4⟩:=HQ.out W hSw);go_simp;(try with_reducible rfl)
     try simp only[Act.put,q7_,List.set_cons_zero,List.set_cons_succ]
     refine wpAnyH_take (i:=19) (oi:={dst:=some 294,op:=Op.load 26 (Operand.tmp 293),type:=26,pos:= "law.go:82",after:=#[{on:=18,ground:=Ground.data},{on:=8,ground:=Ground.guard}],guard:=some (8,true)}) (v:= ?vq99) rfl (by kernel_rfl) (by kernel_rfl) (by kernel_rfl) (fun _ _ _ h=>h) (Or.inl ⟨by rfl, ?hq99⟩) (by assumption) ?rq99
     case hq99=>intro W hSw;(try obtain⟨a0,a1,a2,a3,a4⟩:=HQ.out W hSw);go_simp;(try with_reducible rfl)
     try simp only[Act.put,q7_,List.set_cons_zero,List.set_cons_succ]
     refine wpAnyH_take (i:=20) (oi:={dst:=some 295,op:=Op.move (Operand.tmp 11),type:=3,pos:= "law.go:82",after:=#[{on:=8,ground:=Ground.guard}],guard:=some (8,true)}) (v:= ?vq100) rfl (by kernel_rfl) (by kernel_rfl) (by kernel_rfl) (fun _ _ _ h=>h) (Or.inl ⟨by rfl, ?hq100⟩) (by assumption) ?rq100
     case hq100=>intro W hSw;(try obtain⟨a0,a1,a2,a3,a4⟩:=HQ.out W hSw);go_simp;(try with_reducible rfl)
     try simp only[Act.put,q7_,List.set_cons_zero,List.set_cons_succ]
     refine wpAnyH_take (i:=21) (oi:={dst:=some 296,op:=Op.indexAddr 26 (Operand.tmp 294) (Operand.tmp 295),type:=0,pos:= "law.go:82",after:=#[{on:=19,ground:=Ground.data},{on:=20,ground:=Ground.data},{on:=8,ground:=Ground.guard}],guard:=some (8,true)}) (v:= ?vq101) rfl (by kernel_rfl) (by kernel_rfl) (by kernel_rfl) (fun _ _ _ h=>h) (Or.inl ⟨by rfl, ?hq101⟩) (by assumption) ?rq101
     case hq101=>intro W hSw;(try obtain⟨a0,a1,a2,a3,a4⟩:=HQ.out W hSw);go_simp;(try with_reducible rfl)
     try simp only[Act.put,q7_,List.set_cons_zero,List.set_cons_succ]
     refine wpAnyH_take (i:=22) (oi:={dst:=some 297,op:=Op.load 3 (Operand.tmp 296),type:=3,pos:= "law.go:82",after:=#[{on:=21,ground:=Ground.data},{on:=8,ground:=Ground.guard}],guard:=some (8,true)}) (v:= ?vq102) rfl (by kernel_rfl) (by kernel_rfl) (by kernel_rfl) (fun _ _ _ h=>h) (Or.inl ⟨by rfl, ?hq102⟩) (by assumption) ?rq102
     case hq102=>intro W hSw;(try obtain⟨a0,a1,a2,a3,a4⟩:=HQ.out W hSw);go_simp;(try with_reducible rfl)
     try simp only[Act.put,q7_,List.set_cons_zero,List.set_cons_succ]
     refine wpAnyH_take (i:=23) (oi:={dst:=some 298,op:=Op.binOp BinOp.eql 3 (Operand.tmp 292) (Operand.tmp 297) 3,type:=4,pos:= "law.go:82",after:=#[{on:=17,ground:=Ground.data},{on:=22,ground:=Ground.data},{on:=8,ground:=Ground.guard}],guard:=some (8,true)}) (v:= ?vq103) rfl (by kernel_rfl) (by kernel_rfl) (by kernel_rfl) (fun _ _ _ h=>h) (Or.inl ⟨by rfl, ?hq103⟩) (by assumption) ?rq103
     case hq103=>intro W hSw;(try obtain⟨a0,a1,a2,a3,a4⟩:=HQ.out W hSw);go_simp;(try with_reducible rfl)
     try simp only[Act.put,q7_,List.set_cons_zero,List.set_cons_succ]
     refine wpAnyH_take (i:=24) (oi:={dst:=some 299,op:=Op.pick (Operand.tmp 283) (Operand.tmp 298) (Operand.const (Value.bool false)),type:=4,pos:= "law.go:82",after:=#[{on:=8,ground:=Ground.data},{on:=23,ground:=Ground.data}],guard:=none}) (v:= ?vq104) rfl (by kernel_rfl) (by kernel_rfl) (by kernel_rfl) (fun _ _ _ h=>h) (Or.inl ⟨by rfl, ?hq104⟩) (by assumption) ?rq104
     case hq104=>intro W hSw;(try obtain⟨a0,a1,a2,a3,a4⟩:=HQ.out W hSw);go_simp;(try with_reducible rfl)
     try simp only[Act.put,q7_,List.set_cons_zero,List.set_cons_succ]
     refine wpAnyH_done (by kernel_rfl) ?_ _;go_wp2
     go_roundw
     case rel=>exact⟨m+1,by omega,by go_num,by first | exact Hfm.out | exact Fr.trans Hfm.out hY_ q4_,hst.out⟩
     case measure=>simp[intOf];omega
  ·obtain rfl:yn=m:=by omega
   clear hm;go_wp2_with fail
   try simp only[Exit.inBlock,Exit.then]
   exact⟨rfl,HQX.out Hsm.out _ _ _ _ _ _ _ _ _ _ _ _ _ _ _ _ _ _ _ _ _ _ _ _ _ _ _ _ _ _ _ _ _ _ _ _ _ _ _ Hfm.out⟩
end
end Go.Proofs.YteajonicnkpbbaaGreatDoor
