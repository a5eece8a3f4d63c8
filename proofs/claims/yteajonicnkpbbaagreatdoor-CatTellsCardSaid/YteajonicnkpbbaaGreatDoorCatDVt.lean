/- Walk of sedimentlaw23.valid: the loop over the entries' places. -/
import Derived.Test.YteajonicnkpbbaaGreatDoorReachC
namespace Go.Proofs.YteajonicnkpbbaaGreatDoor
set_option linter.all false
set_option maxHeartbeats 16000000
set_option maxRecDepth 100000
open Go.RowKit Tryz
section
variable {w W1 W2 W5 wj wq:World} {c:zbf} {pA fA tA sA eA ba ya:Option Addr} {pn pc fn fc tn tc sn sc en ec bn bc yn yc eb k j q:Nat} {id:Int} {tier shard place of_ v:Int} {bl yb:List Int} {yid ytier yshard yplace yof:Int}
theorem zqu(HC:Hid (∀ W,Fr (fun _=>False) W1 W→W.cell? ⟨w.heap.size,0,none⟩=some (.int .u64 c.gen)∧W.cell? ⟨w.heap.size,1,none⟩=some (.int .u64 c.id)∧W.cell? ⟨w.heap.size,2,none⟩=some (.int .i64 c.now)∧W.cell? ⟨w.heap.size,3,none⟩=some (.string c.nm)∧W.cell? ⟨w.heap.size,4,none⟩=some (.slice pA pn pc)∧W.cell? ⟨w.heap.size,5,none⟩=some (.slice fA fn fc)∧W.cell? ⟨w.heap.size,6,none⟩=some (.string c.nm2)∧W.cell? ⟨w.heap.size,7,none⟩=some (.slice tA tn tc)∧W.cell? ⟨w.heap.size,8,none⟩=some (.slice sA sn sc)∧W.cell? ⟨w.heap.size,9,none⟩=some (.int .i64 c.bound)∧W.cell? ⟨w.heap.size,10,none⟩=some (.int .i64 c.done)∧W.cell? ⟨w.heap.size,11,none⟩=some (.slice eA en ec)))(HRe:Hid (∀ W,Fr (fun _=>False) W1 W→Rd W 6 eA en (zbN c.es)))(Hok:Hid (∀ x∈c.es,(∀ W,Fr (fun _=>False) W1 W→Rd W 1 x.ba x.bn (za6 x.bl))∧x.bl.length=x.bn∧x.bn≤9223372036854775807))(HE:Hid (∀ W,Fr (fun _=>False) W2 W→W.cell? ⟨eb,0,none⟩=some (.int .u64 id)∧W.cell? ⟨eb,1,none⟩=some (.int .i64 tier)∧W.cell? ⟨eb,2,none⟩=some (.int .i64 shard)∧W.cell? ⟨eb,3,none⟩=some (.int .i64 place)∧W.cell? ⟨eb,4,none⟩=some (.int .i64 of_)∧W.cell? ⟨eb,5,none⟩=some (.slice ba bn bc)))(HRb:Hid (∀ W,Fr (fun _=>False) W2 W→Rd W 1 ba bn (za6 bl)))(Hbl:Hid (bl.length=bn))(Hu:Hid (c.es[k]? =some ⟨id,tier,shard,place,of_,ba,bn,bc,bl⟩))(F2:Hid (Fr (fun _=>False) W1 W2))(hlt:k<en)(hen9:en≤90)(hbm:bn≤9223372036854775807)(Hfj:Hid (Fr (fun _=>False) W2 wj)){X R:Act→World→Prop}(HQR:Hid (zbd c=false→∀ (a:Act) (W:World),a.tmps.getD 2 undef=.bool false→a.defers=[]→Fr (fun _=>False) W1 W→R a W)){u0 u2 u3 u4 u5 u6 u7 u8 u11 u12 u13 u15 u16 u17 u18 u19 u20 u21 u22 u23 u24 u25 u26 u27 u28 u29 u30 u31 u32 u33 u34 u35 u36 u37 u38 u39 u40 u41 u42 u43 u44 u45 u46 u47 u48 u49 u50 u51 u52 u53 u54 u55 u56 u57 u58 u59 u60 u61 u62 u63 u64 u65 u66 u67 u68 u69 u70 u71 u72 u73 u74 u75 u76 u77 u78 u79 u80 u81 u82 u83 u84 u85 u86 u87 u88 u89 u90 u91 u92 u93 u94 u95 u96 u97 u98 u99 u100 u101 u102 u103 u104 u105 u106 u107 u108 u109 u110 u111 u112 u113 u114 u115 u116 u117 u118 u119 u120 u121 u122 u123 u124 u125 u126 u127 u128 u129 u130 u131 u132 u133 u134 u135 u136 u137 u138 u139 u140 u141 u142 u143 u144 u145 u146 u147 u148 u149 u150 u151 u152 u153 u154 u155 u156 u157 u158 u159 u160 u161 u162 u163 u164 u165 u166 u167 u168 u169 u170 u171 u172 u173 u174 u175 u176 u177 u178 u179 u180 u181 u182 u183 u184 u185 u186 u187 u188 u189 u190 u191 u192 u193 u194 u195 u196 u197 u198 u199 u200 u201 u202 u203 u204 u205 u206 u207 u208 u209 u210 u211 u212 u213 u214 u215 u216 u217 u218 u219 u220 u221 u222 u223 u224 u225 u226 u227 u228 u229 u230 u231 u232 u233 u234 u235 u236 u237 u238 u239 u240 u241 u242 u243 u244 u245 u246 u247 u248 u249 u250 u251 u252 u253 u254 u255 u256 u257 u258 u259 u260 u261 u262 u263 u264 u265 u266 u267 u268 u269 u270 u271 u272 u273 u274 u275 u276 u277 u278 u279 u280 u281 u282 u283 u284 u285 u286 u287 u288 u289 u290 u291 u292 u293 u294 u295 u296 u297 u298 u299 u300 u301 u302 u303 u304 u305 u306 u307 u308 u309 u310 u311 u312 u313 u314 u315 u316 u317 u318 u319 u320 u321 u322 u323 u324 u325 u326 u327 u328:Value}(HQX:Hid ((∀ p<k,∀ y,c.es[p]? =some y→¬ (y.tier=tier∧y.shard=shard))→∀ (x2 x14 x300 x301 x302 x303 x304 x305 x306 x307 x308 x309 x310 x311 x312 x313 x314 x315 x316 x317 x318 x319 x320 x321 x322 x323 x324 x325 x326 x327 x328:Value) (W:World),Fr (fun _=>False) W2 W→X ⟨(List.toArray (u0:: .pointer (some ⟨w.heap.size,0,none⟩)::x2::u3::u4::u5::u6::u7::u8:: .int .i64 k:: .pointer (some ⟨eb,0,none⟩)::u11::u12::u13::x14::u15::u16::u17::u18::u19::u20::u21::u22::u23::u24::u25::u26::u27::u28::u29::u30::u31::u32::u33::u34::u35::u36::u37::u38::u39::u40::u41::u42::u43::u44::u45::u46::u47::u48::u49::u50::u51::u52::u53::u54::u55::u56::u57::u58::u59::u60::u61::u62::u63::u64::u65::u66::u67::u68::u69::u70::u71::u72::u73::u74::u75::u76::u77::u78::u79::u80::u81::u82::u83::u84::u85::u86::u87::u88::u89::u90::u91::u92::u93::u94::u95::u96::u97::u98::u99::u100::u101::u102::u103::u104::u105::u106::u107::u108::u109::u110::u111::u112::u113::u114::u115::u116::u117::u118::u119::u120::u121::u122::u123::u124::u125::u126::u127::u128::u129::u130::u131::u132::u133::u134::u135::u136::u137::u138::u139::u140::u141::u142::u143::u144::u145::u146::u147::u148::u149::u150::u151::u152::u153::u154::u155::u156::u157::u158::u159::u160::u161::u162::u163::u164::u165::u166::u167::u168::u169::u170::u171::u172::u173::u174::u175::u176::u177::u178::u179::u180::u181::u182::u183::u184::u185::u186::u187::u188::u189::u190::u191::u192::u193::u194::u195::u196::u197::u198::u199::u200::u201::u202::u203::u204::u205::u206::u207::u208::u209::u210::u211::u212::u213::u214::u215::u216::u217::u218::u219::u220::u221::u222::u223::u224::u225::u226::u227::u228::u229::u230::u231::u232::u233::u234::u235::u236::u237::u238::u239::u240::u241::u242::u243::u244::u245::u246::u247::u248::u249::u250::u251::u252::u253::u254::u255::u256::u257::u258::u259::u260::u261::u262::u263::u264::u265::u266::u267::u268::u269::u270::u271::u272::u273::u274::u275::u276::u277::u278::u279::u280::u281::u282::u283::u284::u285::u286::u287::u288::u289::u290::u291::u292::u293::u294::u295::u296::u297::u298::u299::x300::x301::x302::x303::x304::x305::x306::x307::x308::x309::x310::x311::x312::x313::x314::x315::x316::x317::x318::x319::x320::x321::x322::x323::x324::x325::x326::x327::x328::[])),[]⟩ W)):
  Code.wp prog dvT (zhE 12 X R) ⟨(List.toArray (u0:: .pointer (some ⟨w.heap.size,0,none⟩)::u2::u3::u4::u5::u6::u7::u8:: .int .i64 k:: .pointer (some ⟨eb,0,none⟩)::u11::u12::u13:: .int .i64 0::u15::u16::u17::u18::u19::u20::u21::u22::u23::u24::u25::u26::u27::u28::u29::u30::u31::u32::u33::u34::u35::u36::u37::u38::u39::u40::u41::u42::u43::u44::u45::u46::u47::u48::u49::u50::u51::u52::u53::u54::u55::u56::u57::u58::u59::u60::u61::u62::u63::u64::u65::u66::u67::u68::u69::u70::u71::u72::u73::u74::u75::u76::u77::u78::u79::u80::u81::u82::u83::u84::u85::u86::u87::u88::u89::u90::u91::u92::u93::u94::u95::u96::u97::u98::u99::u100::u101::u102::u103::u104::u105::u106::u107::u108::u109::u110::u111::u112::u113::u114::u115::u116::u117::u118::u119::u120::u121::u122::u123::u124::u125::u126::u127::u128::u129::u130::u131::u132::u133::u134::u135::u136::u137::u138::u139::u140::u141::u142::u143::u144::u145::u146::u147::u148::u149::u150::u151::u152::u153::u154::u155::u156::u157::u158::u159::u160::u161::u162::u163::u164::u165::u166::u167::u168::u169::u170::u171::u172::u173::u174::u175::u176::u177::u178::u179::u180::u181::u182::u183::u184::u185::u186::u187::u188::u189::u190::u191::u192::u193::u194::u195::u196::u197::u198::u199::u200::u201::u202::u203::u204::u205::u206::u207::u208::u209::u210::u211::u212::u213::u214::u215::u216::u217::u218::u219::u220::u221::u222::u223::u224::u225::u226::u227::u228::u229::u230::u231::u232::u233::u234::u235::u236::u237::u238::u239::u240::u241::u242::u243::u244::u245::u246::u247::u248::u249::u250::u251::u252::u253::u254::u255::u256::u257::u258::u259::u260::u261::u262::u263::u264::u265::u266::u267::u268::u269::u270::u271::u272::u273::u274::u275::u276::u277::u278::u279::u280::u281::u282::u283::u284::u285::u286::u287::u288::u289::u290::u291::u292::u293::u294::u295::u296::u297::u298::u299::u300::u301::u302::u303::u304::u305::u306::u307::u308::u309::u310::u311::u312::u313::u314::u315::u316::u317::u318::u319::u320::u321::u322::u323::u324::u325::u326::u327::u328::[])),[]⟩ wj:=by
 conv=>arg 2;whnf
 have hkI:0≤(k:Int)∧(k:Int)<(en:Int):=by omega
 go_loopw [14] (fun s wt=>∃ q:Nat,q≤k∧s=.int .i64 q∧Hid (Fr (fun _=>False) W2 wt)∧Hid (∀ p<q,∀ y,c.es[p]? =some y→¬ (y.tier=tier∧y.shard=shard))) (fun s _=>k-(intOf s).toNat)
 case atStart=>exact⟨0,Nat.zero_le _,rfl,Hfj.out,fun p h=>absurd h (Nat.not_lt_zero _)⟩
 case round=>
  obtain⟨q,hq,rfl,hfq,hsq⟩:=hrel;have Hfq:=q0_ hfq.out;have Hsq:=q0_ hsq.out;clear hfq hsq
  have hqw:IntKind.i64.wrap ((q:Int)+1)=(q:Int)+1:=by simp[IntKind.wrap,IntKind.signed,IntKind.bits];omega
  by_cases hql:q<k
  ·have hqI:(q:Int)<(k:Int):=by omega
   have hqe:q<en:=by omega
   obtain⟨ad2,⟨yid,ytier,yshard,yplace,yof,ya,yn,yc,yb⟩,hadd,hyu,y0,y1,y2,y3,y4,y5⟩:=(HRe.out _ (F2.out.trans Hfq.out q4_)).ent hqe;have Hyu:=q0_ hyu;dsimp only at y0 y1 y2 y3 y4 y5;have x9:=(HC.out _ (F2.out.trans Hfq.out q4_)).2.2.2.2.2.2.2.2.2.2.2;rw[hadd] at x9
   have hqI0:0≤(q:Int)∧(q:Int)<(en:Int):=by omega
   clear hyu y0 y3 y4 y5;obtain⟨z0,z1,z2,z3,z4,z5⟩:=HE.out _ Hfq.out;clear z0 z3 z4 z5;have HQ:=q0_ (fun (W:World) (f:Fr (fun _=>False) wr W)=>And.intro (f.cell x9 (fun h=>h)) (And.intro (f.cell y1 (fun h=>h)) (And.intro (f.cell y2 (fun h=>h)) (And.intro (f.cell z1 (fun h=>h)) (f.cell z2 (fun h=>h))))))
   by_cases r1:ytier=tier
   rotate_left
   ·have k1:(ytier==tier)=false:=by simpa using r1
    have hst:Hid (∀ p<q+1,∀ y,c.es[p]? =some y→¬ (y.tier=tier∧y.shard=shard)):=zgY Hsq.out Hyu.out (fun h=>r1 h.1);go_wp2_with fail;refine wp_region_held_drew (S:=fun W=>Fr (fun _=>False) wr W) (by kernel_rfl) ((Fr.refl _ wr).drew) (fun hY_=>?_)
    refine wpAnyH_take (i:=0) (oi:={dst:=some 305,op:=Op.fieldAddr 29 (Operand.tmp 1) 9,type:=0,pos:= "law.go:89",after:=#[],guard:=none}) (v:= ?vq105) rfl (by kernel_rfl) (by kernel_rfl) (by kernel_rfl) (fun _ _ _ h=>h) (Or.inl ⟨by rfl, ?hq105⟩) (by assumption) ?rq105
    case hq105=>intro W hSw;(try obtain⟨a0,a1,a2,a3,a4⟩:=HQ.out W hSw);go_simp;(try with_reducible rfl)
    try simp only[Act.put,q7_,List.set_cons_zero,List.set_cons_succ]
    refine wpAnyH_take (i:=1) (oi:={dst:=some 306,op:=Op.load 27 (Operand.tmp 305),type:=27,pos:= "law.go:89",after:=#[{on:=0,ground:=Ground.data}],guard:=none}) (v:= ?vq106) rfl (by kernel_rfl) (by kernel_rfl) (by kernel_rfl) (fun _ _ _ h=>h) (Or.inl ⟨by rfl, ?hq106⟩) (by assumption) ?rq106
    case hq106=>intro W hSw;(try obtain⟨a0,a1,a2,a3,a4⟩:=HQ.out W hSw);go_simp;(try with_reducible rfl)
    try simp only[Act.put,q7_,List.set_cons_zero,List.set_cons_succ]
    refine wpAnyH_take (i:=2) (oi:={dst:=some 307,op:=Op.move (Operand.tmp 14),type:=3,pos:= "law.go:89",after:=#[],guard:=none}) (v:= ?vq107) rfl (by kernel_rfl) (by kernel_rfl) (by kernel_rfl) (fun _ _ _ h=>h) (Or.inl ⟨by rfl, ?hq107⟩) (by assumption) ?rq107
    case hq107=>intro W hSw;(try obtain⟨a0,a1,a2,a3,a4⟩:=HQ.out W hSw);go_simp;(try with_reducible rfl)
    try simp only[Act.put,q7_,List.set_cons_zero,List.set_cons_succ]
    refine wpAnyH_take (i:=3) (oi:={dst:=some 308,op:=Op.indexAddr 27 (Operand.tmp 306) (Operand.tmp 307),type:=0,pos:= "law.go:89",after:=#[{on:=1,ground:=Ground.data},{on:=2,ground:=Ground.data}],guard:=none}) (v:= ?vq108) rfl (by kernel_rfl) (by kernel_rfl) (by kernel_rfl) (fun _ _ _ h=>h) (Or.inl ⟨by rfl, ?hq108⟩) (by assumption) ?rq108
    case hq108=>intro W hSw;(try obtain⟨a0,a1,a2,a3,a4⟩:=HQ.out W hSw);go_simp;(try with_reducible rfl)
    try simp only[Act.put,q7_,List.set_cons_zero,List.set_cons_succ]
    refine wpAnyH_take (i:=4) (oi:={dst:=some 309,op:=Op.fieldAddr 56 (Operand.tmp 308) 0,type:=0,pos:= "law.go:89",after:=#[{on:=3,ground:=Ground.data}],guard:=none}) (v:= ?vq109) rfl (by kernel_rfl) (by kernel_rfl) (by kernel_rfl) (fun _ _ _ h=>h) (Or.inl ⟨by rfl, ?hq109⟩) (by assumption) ?rq109
    case hq109=>intro W hSw;(try obtain⟨a0,a1,a2,a3,a4⟩:=HQ.out W hSw);go_simp;(try with_reducible rfl)
    try simp only[Act.put,q7_,List.set_cons_zero,List.set_cons_succ]
    refine wpAnyH_take (i:=5) (oi:={dst:=some 310,op:=Op.fieldAddr 54 (Operand.tmp 309) 1,type:=0,pos:= "law.go:89",after:=#[{on:=4,ground:=Ground.data}],guard:=none}) (v:= ?vq110) rfl (by kernel_rfl) (by kernel_rfl) (by kernel_rfl) (fun _ _ _ h=>h) (Or.inl ⟨by rfl, ?hq110⟩) (by assumption) ?rq110
    case hq110=>intro W hSw;(try obtain⟨a0,a1,a2,a3,a4⟩:=HQ.out W hSw);go_simp;(try with_reducible rfl)
    try simp only[Act.put,q7_,List.set_cons_zero,List.set_cons_succ]
    refine wpAnyH_take (i:=6) (oi:={dst:=some 311,op:=Op.load 3 (Operand.tmp 310),type:=3,pos:= "law.go:89",after:=#[{on:=5,ground:=Ground.data}],guard:=none}) (v:= ?vq111) rfl (by kernel_rfl) (by kernel_rfl) (by kernel_rfl) (fun _ _ _ h=>h) (Or.inl ⟨by rfl, ?hq111⟩) (by assumption) ?rq111
    case hq111=>intro W hSw;(try obtain⟨a0,a1,a2,a3,a4⟩:=HQ.out W hSw);go_simp;(try with_reducible rfl)
    try simp only[Act.put,q7_,List.set_cons_zero,List.set_cons_succ]
    refine wpAnyH_take (i:=7) (oi:={dst:=some 312,op:=Op.fieldAddr 56 (Operand.tmp 10) 0,type:=0,pos:= "law.go:89",after:=#[],guard:=none}) (v:= ?vq112) rfl (by kernel_rfl) (by kernel_rfl) (by kernel_rfl) (fun _ _ _ h=>h) (Or.inl ⟨by rfl, ?hq112⟩) (by assumption) ?rq112
    case hq112=>intro W hSw;(try obtain⟨a0,a1,a2,a3,a4⟩:=HQ.out W hSw);go_simp;(try with_reducible rfl)
    try simp only[Act.put,q7_,List.set_cons_zero,List.set_cons_succ]
    refine wpAnyH_take (i:=8) (oi:={dst:=some 313,op:=Op.fieldAddr 54 (Operand.tmp 312) 1,type:=0,pos:= "law.go:89",after:=#[{on:=7,ground:=Ground.data}],guard:=none}) (v:= ?vq113) rfl (by kernel_rfl) (by kernel_rfl) (by kernel_rfl) (fun _ _ _ h=>h) (Or.inl ⟨by rfl, ?hq113⟩) (by assumption) ?rq113
    case hq113=>intro W hSw;(try obtain⟨a0,a1,a2,a3,a4⟩:=HQ.out W hSw);go_simp;(try with_reducible rfl)
    try simp only[Act.put,q7_,List.set_cons_zero,List.set_cons_succ]
    refine wpAnyH_take (i:=9) (oi:={dst:=some 314,op:=Op.load 3 (Operand.tmp 313),type:=3,pos:= "law.go:89",after:=#[{on:=8,ground:=Ground.data}],guard:=none}) (v:= ?vq114) rfl (by kernel_rfl) (by kernel_rfl) (by kernel_rfl) (fun _ _ _ h=>h) (Or.inl ⟨by rfl, ?hq114⟩) (by assumption) ?rq114
    case hq114=>intro W hSw;(try obtain⟨a0,a1,a2,a3,a4⟩:=HQ.out W hSw);go_simp;(try with_reducible rfl)
    try simp only[Act.put,q7_,List.set_cons_zero,List.set_cons_succ]
    refine wpAnyH_take (i:=10) (oi:={dst:=some 315,op:=Op.binOp BinOp.eql 3 (Operand.tmp 311) (Operand.tmp 314) 3,type:=4,pos:= "law.go:89",after:=#[{on:=6,ground:=Ground.data},{on:=9,ground:=Ground.data}],guard:=none}) (v:= ?vq115) rfl (by kernel_rfl) (by kernel_rfl) (by kernel_rfl) (fun _ _ _ h=>h) (Or.inl ⟨by rfl, ?hq115⟩) (by assumption) ?rq115
    case hq115=>intro W hSw;(try obtain⟨a0,a1,a2,a3,a4⟩:=HQ.out W hSw);go_simp;(try with_reducible rfl)
    try simp only[Act.put,q7_,List.set_cons_zero,List.set_cons_succ]
    refine wpAnyH_take (i:=11) (oi:={dst:=some 316,op:=Op.move (Operand.tmp 315),type:=4,pos:= "law.go:89",after:=#[{on:=10,ground:=Ground.data}],guard:=none}) (v:= ?vq116) rfl (by kernel_rfl) (by kernel_rfl) (by kernel_rfl) (fun _ _ _ h=>h) (Or.inl ⟨by rfl, ?hq116⟩) (by assumption) ?rq116
    case hq116=>intro W hSw;(try obtain⟨a0,a1,a2,a3,a4⟩:=HQ.out W hSw);go_simp;(try with_reducible rfl)
    try simp only[Act.put,q7_,List.set_cons_zero,List.set_cons_succ]
    refine wpAnyH_take (i:=12) (oi:={dst:=some 317,op:=Op.fieldAddr 29 (Operand.tmp 1) 9,type:=0,pos:= "law.go:89",after:=#[{on:=11,ground:=Ground.guard}],guard:=some (11,true)}) (v:=undef) rfl (by kernel_rfl) (by kernel_rfl) (by kernel_rfl) (fun _ _ _ h=>h) (Or.inr ⟨by rfl,rfl⟩) (by assumption) ?_
    try simp only[Act.put,q7_,List.set_cons_zero,List.set_cons_succ]
    refine wpAnyH_take (i:=13) (oi:={dst:=some 318,op:=Op.load 27 (Operand.tmp 317),type:=27,pos:= "law.go:89",after:=#[{on:=12,ground:=Ground.data},{on:=11,ground:=Ground.guard}],guard:=some (11,true)}) (v:=undef) rfl (by kernel_rfl) (by kernel_rfl) (by kernel_rfl) (fun _ _ _ h=>h) (Or.inr ⟨by rfl,rfl⟩) (by assumption) ?_
    try simp only[Act.put,q7_,List.set_cons_zero,List.set_cons_succ]
    refine wpAnyH_take (i:=14) (oi:={dst:=some 319,op:=Op.move (Operand.tmp 14),type:=3,pos:= "law.go:89",after:=#[{on:=11,ground:=Ground.guard}],guard:=some (11,true)}) (v:=undef) rfl (by kernel_rfl) (by kernel_rfl) (by kernel_rfl) (fun _ _ _ h=>h) (Or.inr ⟨by rfl,rfl⟩) (by assumption) ?_
    try simp only[Act.put,q7_,List.set_cons_zero,List.set_cons_succ]
    refine wpAnyH_take (i:=15) (oi:={dst:=some 320,op:=Op.indexAddr 27 (Operand.tmp 318) (Operand.tmp 319),type:=0,pos:= "law.go:89",after:=#[{on:=13,ground:=Ground.data},{on:=14,ground:=Ground.data},{on:=11,ground:=Ground.guard}],guard:=some (11,true)}) (v:=undef) rfl (by kernel_rfl) (by kernel_rfl) (by kernel_rfl) (fun _ _ _ h=>h) (Or.inr ⟨by rfl,rfl⟩) (by assumption) ?_
    try simp only[Act.put,q7_,List.set_cons_zero,List.set_cons_succ]
    refine wpAnyH_take (i:=16) (oi:={dst:=some 321,op:=Op.fieldAddr 56 (Operand.tmp 320) 0,type:=0,pos:= "law.go:89",after:=#[{on:=15,ground:=Ground.data},{on:=11,ground:=Ground.guard}],guard:=some (11,true)}) (v:=undef) rfl (by kernel_rfl) (by kernel_rfl) (by kernel_rfl) (fun _ _ _ h=>h) (Or.inr ⟨by rfl,rfl⟩) (by assumption) ?_
    try simp only[Act.put,q7_,List.set_cons_zero,List.set_cons_succ]
    refine wpAnyH_take (i:=17) (oi:={dst:=some 322,op:=Op.fieldAddr 54 (Operand.tmp 321) 2,type:=0,pos:= "law.go:89",after:=#[{on:=16,ground:=Ground.data},{on:=11,ground:=Ground.guard}],guard:=some (11,true)}) (v:=undef) rfl (by kernel_rfl) (by kernel_rfl) (by kernel_rfl) (fun _ _ _ h=>h) (Or.inr ⟨by rfl,rfl⟩) (by assumption) ?_
    try simp only[Act.put,q7_,List.set_cons_zero,List.set_cons_succ]
    refine wpAnyH_take (i:=18) (oi:={dst:=some 323,op:=Op.load 3 (Operand.tmp 322),type:=3,pos:= "law.go:89",after:=#[{on:=17,ground:=Ground.data},{on:=11,ground:=Ground.guard}],guard:=some (11,true)}) (v:=undef) rfl (by kernel_rfl) (by kernel_rfl) (by kernel_rfl) (fun _ _ _ h=>h) (Or.inr ⟨by rfl,rfl⟩) (by assumption) ?_
    try simp only[Act.put,q7_,List.set_cons_zero,List.set_cons_succ]
    refine wpAnyH_take (i:=19) (oi:={dst:=some 324,op:=Op.fieldAddr 56 (Operand.tmp 10) 0,type:=0,pos:= "law.go:89",after:=#[{on:=11,ground:=Ground.guard}],guard:=some (11,true)}) (v:=undef) rfl (by kernel_rfl) (by kernel_rfl) (by kernel_rfl) (fun _ _ _ h=>h) (Or.inr ⟨by rfl,rfl⟩) (by assumption) ?_
    try simp only[Act.put,q7_,List.set_cons_zero,List.set_cons_succ]
    refine wpAnyH_take (i:=20) (oi:={dst:=some 325,op:=Op.fieldAddr 54 (Operand.tmp 324) 2,type:=0,pos:= "law.go:89",after:=#[{on:=19,ground:=Ground.data},{on:=11,ground:=Ground.guard}],guard:=some (11,true)}) (v:=undef) rfl (by kernel_rfl) (by kernel_rfl) (by kernel_rfl) (fun _ _ _ h=>h) (Or.inr ⟨by rfl,rfl⟩) (by assumption) ?_
    try simp only[Act.put,q7_,List.set_cons_zero,List.set_cons_succ]
    refine wpAnyH_take (i:=21) (oi:={dst:=some 326,op:=Op.load 3 (Operand.tmp 325),type:=3,pos:= "law.go:89",after:=#[{on:=20,ground:=Ground.data},{on:=11,ground:=Ground.guard}],guard:=some (11,true)}) (v:=undef) rfl (by kernel_rfl) (by kernel_rfl) (by kernel_rfl) (fun _ _ _ h=>h) (Or.inr ⟨by rfl,rfl⟩) (by assumption) ?_
    try simp only[Act.put,q7_,List.set_cons_zero,List.set_cons_succ]
    refine wpAnyH_take (i:=22) (oi:={dst:=some 327,op:=Op.binOp BinOp.eql 3 (Operand.tmp 323) (Operand.tmp 326) 3,type:=4,pos:= "law.go:89",after:=#[{on:=18,ground:=Ground.data},{on:=21,ground:=Ground.data},{on:=11,ground:=Ground.guard}],guard:=some (11,true)}) (v:=undef) rfl (by kernel_rfl) (by kernel_rfl) (by kernel_rfl) (fun _ _ _ h=>h) (Or.inr ⟨by rfl,rfl⟩) (by assumption) ?_
    try simp only[Act.put,q7_,List.set_cons_zero,List.set_cons_succ]
    refine wpAnyH_take (i:=23) (oi:={dst:=some 328,op:=Op.pick (Operand.tmp 316) (Operand.tmp 327) (Operand.const (Value.bool false)),type:=4,pos:= "law.go:89",after:=#[{on:=11,ground:=Ground.data},{on:=22,ground:=Ground.data}],guard:=none}) (v:= ?vq117) rfl (by kernel_rfl) (by kernel_rfl) (by kernel_rfl) (fun _ _ _ h=>h) (Or.inl ⟨by rfl, ?hq117⟩) (by assumption) ?rq117
    case hq117=>intro W hSw;(try obtain⟨a0,a1,a2,a3,a4⟩:=HQ.out W hSw);go_simp;(try with_reducible rfl)
    try simp only[Act.put,q7_,List.set_cons_zero,List.set_cons_succ]
    refine wpAnyH_done (by kernel_rfl) ?_ _;go_wp2
    go_roundw
    case rel=>exact⟨q+1,by omega,by go_num,by first | exact Hfq.out | exact Fr.trans Hfq.out hY_ q4_,hst.out⟩
    case measure=>simp[intOf];omega
   have k1:(ytier==tier)=true:=by simpa using r1
   by_cases r2:yshard=shard
   rotate_left
   ·have k2:(yshard==shard)=false:=by simpa using r2
    have hst:Hid (∀ p<q+1,∀ y,c.es[p]? =some y→¬ (y.tier=tier∧y.shard=shard)):=zgY Hsq.out Hyu.out (fun h=>r2 h.2);go_wp2_with fail;refine wp_region_held_drew (S:=fun W=>Fr (fun _=>False) wr W) (by kernel_rfl) ((Fr.refl _ wr).drew) (fun hY_=>?_)
    refine wpAnyH_take (i:=0) (oi:={dst:=some 305,op:=Op.fieldAddr 29 (Operand.tmp 1) 9,type:=0,pos:= "law.go:89",after:=#[],guard:=none}) (v:= ?vq118) rfl (by kernel_rfl) (by kernel_rfl) (by kernel_rfl) (fun _ _ _ h=>h) (Or.inl ⟨by rfl, ?hq118⟩) (by assumption) ?rq118
    case hq118=>intro W hSw;(try obtain⟨a0,a1,a2,a3,a4⟩:=HQ.out W hSw);go_simp;(try with_reducible rfl)
    try simp only[Act.put,q7_,List.set_cons_zero,List.set_cons_succ]
    refine wpAnyH_take (i:=1) (oi:={dst:=some 306,op:=Op.load 27 (Operand.tmp 305),type:=27,pos:= "law.go:89",after:=#[{on:=0,ground:=Ground.data}],guard:=none}) (v:= ?vq119) rfl (by kernel_rfl) (by kernel_rfl) (by kernel_rfl) (fun _ _ _ h=>h) (Or.inl ⟨by rfl, ?hq119⟩) (by assumption) ?rq119
    case hq119=>intro W hSw;(try obtain⟨a0,a1,a2,a3,a4⟩:=HQ.out W hSw);go_simp;(try with_reducible rfl)
    try simp only[Act.put,q7_,List.set_cons_zero,List.set_cons_succ]
    refine wpAnyH_take (i:=2) (oi:={dst:=some 307,op:=Op.move (Operand.tmp 14),type:=3,pos:= "law.go:89",after:=#[],guard:=none}) (v:= ?vq120) rfl (by kernel_rfl) (by kernel_rfl) (by kernel_rfl) (fun _ _ _ h=>h) (Or.inl ⟨by rfl, ?hq120⟩) (by assumption) ?rq120
    case hq120=>intro W hSw;(try obtain⟨a0,a1,a2,a3,a4⟩:=HQ.out W hSw);go_simp;(try with_reducible rfl)
    try simp only[Act.put,q7_,List.set_cons_zero,List.set_cons_succ]
    refine wpAnyH_take (i:=3) (oi:={dst:=some 308,op:=Op.indexAddr 27 (Operand.tmp 306) (Operand.tmp 307),type:=0,pos:= "law.go:89",after:=#[{on:=1,ground:=Ground.data},{on:=2,ground:=Ground.data}],guard:=none}) (v:= ?vq121) rfl (by kernel_rfl) (by kernel_rfl) (by kernel_rfl) (fun _ _ _ h=>h) (Or.inl ⟨by rfl, ?hq121⟩) (by assumption) ?rq121
    case hq121=>intro W hSw;(try obtain⟨a0,a1,a2,a3,a4⟩:=HQ.out W hSw);go_simp;(try with_reducible rfl)
    try simp only[Act.put,q7_,List.set_cons_zero,List.set_cons_succ]
    refine wpAnyH_take (i:=4) (oi:={dst:=some 309,op:=Op.fieldAddr 56 (Operand.tmp 308) 0,type:=0,pos:= "law.go:89",after:=#[{on:=3,ground:=Ground.data}],guard:=none}) (v:= ?vq122) rfl (by kernel_rfl) (by kernel_rfl) (by kernel_rfl) (fun _ _ _ h=>h) (Or.inl ⟨by rfl, ?hq122⟩) (by assumption) ?rq122
    case hq122=>intro W hSw;(try obtain⟨a0,a1,a2,a3,a4⟩:=HQ.out W hSw);go_simp;(try with_reducible rfl)
    try simp only[Act.put,q7_,List.set_cons_zero,List.set_cons_succ]
    refine wpAnyH_take (i:=5) (oi:={dst:=some 310,op:=Op.fieldAddr 54 (Operand.tmp 309) 1,type:=0,pos:= "law.go:89",after:=#[{on:=4,ground:=Ground.data}],guard:=none}) (v:= ?vq123) rfl (by kernel_rfl) (by kernel_rfl) (by kernel_rfl) (fun _ _ _ h=>h) (Or.inl ⟨by rfl, ?hq123⟩) (by assumption) ?rq123
    case hq123=>intro W hSw;(try obtain⟨a0,a1,a2,a3,a4⟩:=HQ.out W hSw);go_simp;(try with_reducible rfl)
    try simp only[Act.put,q7_,List.set_cons_zero,List.set_cons_succ]
    refine wpAnyH_take (i:=6) (oi:={dst:=some 311,op:=Op.load 3 (Operand.tmp 310),type:=3,pos:= "law.go:89",after:=#[{on:=5,ground:=Ground.data}],guard:=none}) (v:= ?vq124) rfl (by kernel_rfl) (by kernel_rfl) (by kernel_rfl) (fun _ _ _ h=>h) (Or.inl ⟨by rfl, ?hq124⟩) (by assumption) ?rq124
    case hq124=>intro W hSw;(try obtain⟨a0,a1,a2,a3,a4⟩:=HQ.out W hSw);go_simp;(try with_reducible rfl)
    try simp only[Act.put,q7_,List.set_cons_zero,List.set_cons_succ]
    refine wpAnyH_take (i:=7) (oi:={dst:=some 312,op:=Op.fieldAddr 56 (Operand.tmp 10) 0,type:=0,pos:= "law.go:89",after:=#[],guard:=none}) (v:= ?vq125) rfl (by kernel_rfl) (by kernel_rfl) (by kernel_rfl) (fun _ _ _ h=>h) (Or.inl ⟨by rfl, ?hq125⟩) (by assumption) ?rq125
    case hq125=>intro W hSw;(try obtain⟨a0,a1,a2,a3,a4⟩:=HQ.out W hSw);go_simp;(try with_reducible rfl)
    try simp only[Act.put,q7_,List.set_cons_zero,List.set_cons_succ]
    refine wpAnyH_take (i:=8) (oi:={dst:=some 313,op:=Op.fieldAddr 54 (Operand.tmp 312) 1,type:=0,pos:= "law.go:89",after:=#[{on:=7,ground:=Ground.data}],guard:=none}) (v:= ?vq126) rfl (by kernel_rfl) (by kernel_rfl) (by kernel_rfl) (fun _ _ _ h=>h) (Or.inl ⟨by rfl, ?hq126⟩) (by assumption) ?rq126
    case hq126=>intro W hSw;(try obtain⟨a0,a1,a2,a3,a4⟩:=HQ.out W hSw);go_simp;(try with_reducible rfl)
    try simp only[Act.put,q7_,List.set_cons_zero,List.set_cons_succ]
    refine wpAnyH_take (i:=9) (oi:={dst:=some 314,op:=Op.load 3 (Operand.tmp 313),type:=3,pos:= "law.go:89",after:=#[{on:=8,ground:=Ground.data}],guard:=none}) (v:= ?vq127) rfl (by kernel_rfl) (by kernel_rfl) (by kernel_rfl) (fun _ _ _ h=>h) (Or.inl ⟨by rfl, ?hq127⟩) (by assumption) ?rq127
    case hq127=>intro W hSw;(try obtain⟨a0,a1,a2,a3,a4⟩:=HQ.out W hSw);go_simp;(try with_reducible rfl)
    try simp only[Act.put,q7_,List.set_cons_zero,List.set_cons_succ]
    refine wpAnyH_take (i:=10) (oi:={dst:=some 315,op:=Op.binOp BinOp.eql 3 (Operand.tmp 311) (Operand.tmp 314) 3,type:=4,pos:= "law.go:89",after:=#[{on:=6,ground:=Ground.data},{on:=9,ground:=Ground.data}],guard:=none}) (v:= ?vq128) rfl (by kernel_rfl) (by kernel_rfl) (by kernel_rfl) (fun _ _ _ h=>h) (Or.inl ⟨by rfl, ?hq128⟩) (by assumption) ?rq128
    case hq128=>intro W hSw;(try obtain⟨a0,a1,a2,a3,a4⟩:=HQ.out W hSw);go_simp;(try with_reducible rfl)
    try simp only[Act.put,q7_,List.set_cons_zero,List.set_cons_succ]
    refine wpAnyH_take (i:=11) (oi:={dst:=some 316,op:=Op.move (Operand.tmp 315),type:=4,pos:= "law.go:89",after:=#[{on:=10,ground:=Ground.data}],guard:=none}) (v:= ?vq129) rfl (by kernel_rfl) (by kernel_rfl) (by kernel_rfl) (fun _ _ _ h=>h) (Or.inl ⟨by rfl, ?hq129⟩) (by assumption) ?rq129
    case hq129=>intro W hSw;(try obtain⟨a0,a1,a2,a3,a4⟩:=HQ.out W hSw);go_simp;(try with_reducible rfl)
    try simp only[Act.put,q7_,List.set_cons_zero,List.set_cons_succ]
    refine wpAnyH_take (i:=12) (oi:={dst:=some 317,op:=Op.fieldAddr 29 (Operand.tmp 1) 9,type:=0,pos:= "law.go:89",after:=#[{on:=11,ground:=Ground.guard}],guard:=some (11,true)}) (v:= ?vq130) rfl (by kernel_rfl) (by kernel_rfl) (by kernel_rfl) (fun _ _ _ h=>h) (Or.inl ⟨by rfl, ?hq130⟩) (by assumption) ?rq130
    case hq130=>intro W hSw;(try obtain⟨a0,a1,a2,a3,a4⟩:=HQ.out W hSw);go_simp;(try with_reducible rfl)
    try simp only[Act.put,q7_,List.set_cons_zero,List.set_cons_succ]
    refine wpAnyH_take (i:=13) (oi:={dst:=some 318,op:=Op.load 27 (Operand.tmp 317),type:=27,pos:= "law.go:89",after:=#[{on:=12,ground:=Ground.data},{on:=11,ground:=Ground.guard}],guard:=some (11,true)}) (v:= ?vq131) rfl (by kernel_rfl) (by kernel_rfl) (by kernel_rfl) (fun _ _ _ h=>h) (Or.inl ⟨by rfl, ?hq131⟩) (by assumption) ?rq131
    case hq131=>intro W hSw;(try obtain⟨a0,a1,a2,a3,a4⟩:=HQ.out W hSw);go_simp;(try with_reducible rfl)
    try simp only[Act.put,q7_,List.set_cons_zero,List.set_cons_succ]
    refine wpAnyH_take (i:=14) (oi:={dst:=some 319,op:=Op.move (Operand.tmp 14),type:=3,pos:= "law.go:89",after:=#[{on:=11,ground:=Ground.guard}],guard:=some (11,true)}) (v:= ?vq132) rfl (by kernel_rfl) (by kernel_rfl) (by kernel_rfl) (fun _ _ _ h=>h) (Or.inl ⟨by rfl, ?hq132⟩) (by assumption) ?rq132
    case hq132=>intro W hSw;(try obtain⟨a0,a1,a2,a3,a4⟩:=HQ.out W hSw);go_simp;(try with_reducible rfl)
    try simp only[Act.put,q7_,List.set_cons_zero,List.set_cons_succ]
    refine wpAnyH_take (i:=15) (oi:={dst:=some 320,op:=Op.indexAddr 27 (Operand.tmp 318) (Operand.tmp 319),type:=0,pos:= "law.go:89",after:=#[{on:=13,ground:=Ground.data},{on:=14,ground:=Ground.data},{on:=11,ground:=Ground.guard}],guard:=some (11,true)}) (v:= ?vq133) rfl (by kernel_rfl) (by kernel_rfl) (by kernel_rfl) (fun _ _ _ h=>h) (Or.inl ⟨by rfl, ?hq133⟩) (by assumption) ?rq133
    case hq133=>intro W hSw;(try obtain⟨a0,a1,a2,a3,a4⟩:=HQ.out W hSw);go_simp;(try with_reducible rfl)
    try simp only[Act.put,q7_,List.set_cons_zero,List.set_cons_succ]
    refine wpAnyH_take (i:=16) (oi:={dst:=some 321,op:=Op.fieldAddr 56 (Operand.tmp 320) 0,type:=0,pos:= "law.go:89",after:=#[{on:=15,ground:=Ground.data},{on:=11,ground:=Ground.guard}],guard:=some (11,true)}) (v:= ?vq134) rfl (by kernel_rfl) (by kernel_rfl) (by kernel_rfl) (fun _ _ _ h=>h) (Or.inl ⟨by rfl, ?hq134⟩) (by assumption) ?rq134
    case hq134=>intro W hSw;(try obtain⟨a0,a1,a2,a3,a4⟩:=HQ.out W hSw);go_simp;(try with_reducible rfl)
    try simp only[Act.put,q7_,List.set_cons_zero,List.set_cons_succ]
    refine wpAnyH_take (i:=17) (oi:={dst:=some 322,op:=Op.fieldAddr 54 (Operand.tmp 321) 2,type:=0,pos:= "law.go:89",after:=#[{on:=16,ground:=Ground.data},{on:=11,ground:=Ground.guard}],guard:=some (11,true)}) (v:= ?vq135) rfl (by kernel_rfl) (by kernel_rfl) (by kernel_rfl) (fun _ _ _ h=>h) (Or.inl ⟨by rfl, ?hq135⟩) (by assumption) ?rq135
    case hq135=>intro W hSw;(try obtain⟨a0,a1,a2,a3,a4⟩:=HQ.out W hSw);go_simp;(try with_reducible rfl)
    try simp only[Act.put,q7_,List.set_cons_zero,List.set_cons_succ]
    refine wpAnyH_take (i:=18) (oi:={dst:=some 323,op:=Op.load 3 (Operand.tmp 322),type:=3,pos:= "law.go:89",after:=#[{on:=17,ground:=Ground.data},{on:=11,ground:=Ground.guard}],guard:=some (11,true)}) (v:= ?vq136) rfl (by kernel_rfl) (by kernel_rfl) (by kernel_rfl) (fun _ _ _ h=>h) (Or.inl ⟨by rfl, ?hq136⟩) (by assumption) ?rq136
    case hq136=>intro W hSw;(try obtain⟨a0,a1,a2,a3,a4⟩:=HQ.out W hSw);go_simp;(try with_reducible rfl)
    try simp only[Act.put,q7_,List.set_cons_zero,List.set_cons_succ]
    refine wpAnyH_take (i:=19) (oi:={dst:=some 324,op:=Op.fieldAddr 56 (Operand.tmp 10) 0,type:=0,pos:= "law.go:89",after:=#[{on:=11,ground:=Ground.guard}],guard:=some (11,true)}) (v:= ?vq137) rfl (by kernel_rfl) (by kernel_rfl) (by kernel_rfl) (fun _ _ _ h=>h) (Or.inl ⟨by rfl, ?hq137⟩) (by assumption) ?rq137
    case hq137=>intro W hSw;(try obtain⟨a0,a1,a2,a3,a4⟩:=HQ.out W hSw);go_simp;(try with_reducible rfl)
    try simp only[Act.put,q7_,List.set_cons_zero,List.set_cons_succ]
    refine wpAnyH_take (i:=20) (oi:={dst:=some 325,op:=Op.fieldAddr 54 (Operand.tmp 324) 2,type:=0,pos:= "law.go:89",after:=#[{on:=19,ground:=Ground.data},{on:=11,ground:=Ground.guard}],guard:=some (11,true)}) (v:= ?vq138) rfl (by kernel_rfl) (by kernel_rfl) (by kernel_rfl) (fun _ _ _ h=>h) (Or.inl ⟨by rfl, ?hq138⟩) (by assumption) ?rq138
    case hq138=>intro W hSw;(try obtain⟨a0,a1,a2,a3,a4⟩:=HQ.out W hSw);go_simp;(try with_reducible rfl)
    try simp only[Act.put,q7_,List.set_cons_zero,List.set_cons_succ]
    refine wpAnyH_take (i:=21) (oi:={dst:=some 326,op:=Op.load 3 (Operand.tmp 325),type:=3,pos:= "law.go:89",after:=#[{on:=20,ground:=Ground.data},{on:=11,ground:=Ground.guard}],guard:=some (11,true)}) (v:= ?vq139) rfl (by kernel_rfl) (by kernel_rfl) (by kernel_rfl) (fun _ _ _ h=>h) (Or.inl ⟨by rfl, ?hq139⟩) (by assumption) ?rq139
    case hq139=>intro W hSw;(try obtain⟨a0,a1,a2,a3,a4⟩:=HQ.out W hSw);go_simp;(try with_reducible rfl)
    try simp only[Act.put,q7_,List.set_cons_zero,List.set_cons_succ]
    refine wpAnyH_take (i:=22) (oi:={dst:=some 327,op:=Op.binOp BinOp.eql 3 (Operand.tmp 323) (Operand.tmp 326) 3,type:=4,pos:= "law.go:89",after:=#[{on:=18,ground:=Ground.data},{on:=21,ground:=Ground.data},{on:=11,ground:=Ground.guard}],guard:=some (11,true)}) (v:= ?vq140) rfl (by kernel_rfl) (by kernel_rfl) (by kernel_rfl) (fun _ _ _ h=>h) (Or.inl ⟨by rfl, ?hq140⟩) (by assumption) ?rq140
    case hq140=>intro W hSw;(try obtain⟨a0,a1,a2,a3,a4⟩:=HQ.out W hSw);go_simp;(try with_reducible rfl)
    try simp only[Act.put,q7_,List.set_cons_zero,List.set_cons_succ]
    refine wpAnyH_take (i:=23) (oi:={dst:=some 328,op:=Op.pick (Operand.tmp 316) (Operand.tmp 327) (Operand.const (Value.bool false)),type:=4,pos:= "law.go:89",after:=#[{on:=11,ground:=Ground.data},{on:=22,ground:=Ground.data}],guard:=none}) (v:= ?vq141) rfl (by kernel_rfl) (by kernel_rfl) (by kernel_rfl) (fun _ _ _ h=>h) (Or.inl ⟨by rfl, ?hq141⟩) (by assumption) ?rq141
    case hq141=>intro W hSw;(try obtain⟨a0,a1,a2,a3,a4⟩:=HQ.out W hSw);go_simp;(try with_reducible rfl)
    try simp only[Act.put,q7_,List.set_cons_zero,List.set_cons_succ]
    refine wpAnyH_done (by kernel_rfl) ?_ _;go_wp2
    go_roundw
    case rel=>exact⟨q+1,by omega,by go_num,by first | exact Hfq.out | exact Fr.trans Hfq.out hY_ q4_,hst.out⟩
    case measure=>simp[intOf];omega
   have k2:(yshard==shard)=true:=by simpa using r2
   have hno:Hid (zbd c=false):=zaz fun e=>znn (zat e).2.2.2.2.1 Hyu.out Hu.out ⟨r1,r2⟩ hql;go_wp2_with fail;refine wp_region_held_drew (S:=fun W=>Fr (fun _=>False) wr W) (by kernel_rfl) ((Fr.refl _ wr).drew) (fun hY_=>?_)
   refine wpAnyH_take (i:=0) (oi:={dst:=some 305,op:=Op.fieldAddr 29 (Operand.tmp 1) 9,type:=0,pos:= "law.go:89",after:=#[],guard:=none}) (v:= ?vq142) rfl (by kernel_rfl) (by kernel_rfl) (by kernel_rfl) (fun _ _ _ h=>h) (Or.inl ⟨by rfl, ?hq142⟩) (by assumption) ?rq142
   case hq142=>intro W hSw;(try obtain⟨a0,a1,a2,a3,a4⟩:=HQ.out W hSw);go_simp;(try with_reducible rfl)
   try simp only[Act.put,q7_,List.set_cons_zero,List.set_cons_succ]
   refine wpAnyH_take (i:=1) (oi:={dst:=some 306,op:=Op.load 27 (Operand.tmp 305),type:=27,pos:= "law.go:89",after:=#[{on:=0,ground:=Ground.data}],guard:=none}) (v:= ?vq143) rfl (by kernel_rfl) (by kernel_rfl) (by kernel_rfl) (fun _ _ _ h=>h) (Or.inl ⟨by rfl, ?hq143⟩) (by assumption) ?rq143
   case hq143=>intro W hSw;(try obtain⟨a0,a1,a2,a3,a4⟩:=HQ.out W hSw);go_simp;(try with_reducible rfl)
   try simp only[Act.put,q7_,List.set_cons_zero,List.set_cons_succ]
   refine wpAnyH_take (i:=2) (oi:={dst:=some 307,op:=Op.move (Operand.tmp 14),type:=3,pos:= "law.go:89",after:=#[],guard:=none}) (v:= ?vq144) rfl (by kernel_rfl) (by kernel_rfl) (by kernel_rfl) (fun _ _ _ h=>h) (Or.inl ⟨by rfl, ?hq144⟩) (by assumption) ?rq144
   case hq144=>intro W hSw;(try obtain⟨a0,a1,a2,a3,a4⟩:=HQ.out W hSw);go_simp;(try with_reducible rfl)
   try simp only[Act.put,q7_,List.set_cons_zero,List.set_cons_succ]
   refine wpAnyH_take (i:=3) (oi:={dst:=some 308,op:=Op.indexAddr 27 (Operand.tmp 306) (Operand.tmp 307),type:=0,pos:= "law.go:89",after:=#[{on:=1,ground:=Ground.data},{on:=2,ground:=Ground.data}],guard:=none}) (v:= ?vq145) rfl (by kernel_rfl) (by kernel_rfl) (by kernel_rfl) (fun _ _ _ h=>h) (Or.inl ⟨by rfl, ?hq145⟩) (by assumption) ?rq145
   case hq145=>intro W hSw;(try obtain⟨a0,a1,a2,a3,a4⟩:=HQ.out W hSw);go_simp;(try with_reducible rfl)
   try simp only[Act.put,q7_,List.set_cons_zero,List.set_cons_succ]
   refine wpAnyH_take (i:=4) (oi:={dst:=some 309,op:=Op.fieldAddr 56 (Operand.tmp 308) 0,type:=0,pos:= "law.go:89",after:=#[{on:=3,ground:=Ground.data}],guard:=none}) (v:= ?vq146) rfl (by kernel_rfl) (by kernel_rfl) (by kernel_rfl) (fun _ _ _ h=>h) (Or.inl ⟨by rfl, ?hq146⟩) (by assumption) ?rq146
   case hq146=>intro W hSw;(try obtain⟨a0,a1,a2,a3,a4⟩:=HQ.out W hSw);go_simp;(try with_reducible rfl)
   try simp only[Act.put,q7_,List.set_cons_zero,List.set_cons_succ]
   refine wpAnyH_take (i:=5) (oi:={dst:=some 310,op:=Op.fieldAddr 54 (Operand.tmp 309) 1,type:=0,pos:= "law.go:89",after:=#[{on:=4,ground:=Ground.data}],guard:=none}) (v:= ?vq147) rfl (by kernel_rfl) (by kernel_rfl) (by kernel_rfl) (fun _ _ _ h=>h) (Or.inl ⟨by rfl, ?hq147⟩) (by assumption) ?rq147
   case hq147=>intro W hSw;(try obtain⟨a0,a1,a2,a3,a4⟩:=HQ.out W hSw);go_simp;(try with_reducible rfl)
   try simp only[Act.put,q7_,List.set_cons_zero,List.set_cons_succ]
   refine wpAnyH_take (i:=6) (oi:={dst:=some 311,op:=Op.load 3 (Operand.tmp 310),type:=3,pos:= "law.go:89",after:=#[{on:=5,ground:=Ground.data}],guard:=none}) (v:= ?vq148) rfl (by kernel_rfl) (by kernel_rfl) (by kernel_rfl) (fun _ _ _ h=>h) (Or.inl ⟨by rfl, ?hq148⟩) (by assumption) ?rq148
   case hq148=>intro W hSw;(try obtain⟨a0,a1,a2,a3,a4⟩:=HQ.out W hSw);go_simp;(try with_reducible rfl)
   try simp only[Act.put,q7_,List.set_cons_zero,List.set_cons_succ]
   refine wpAnyH_take (i:=7) (oi:={dst:=some 312,op:=Op.fieldAddr 56 (Operand.tmp 10) 0,type:=0,pos:= "law.go:89",after:=#[],guard:=none}) (v:= ?vq149) rfl (by kernel_rfl) (by kernel_rfl) (by kernel_rfl) (fun _ _ _ h=>h) (Or.inl ⟨by rfl, ?hq149⟩) (by assumption) ?rq149
   case hq149=>intro W hSw;(try obtain⟨a0,a1,a2,a3,a4⟩:=HQ.out W hSw);go_simp;(try with_reducible rfl)
   try simp only[Act.put,q7_,List.set_cons_zero,List.set_cons_succ]
   refine wpAnyH_take (i:=8) (oi:={dst:=some 313,op:=Op.fieldAddr 54 (Operand.tmp 312) 1,type:=0,pos:= "law.go:89",after:=#[{on:=7,ground:=Ground.data}],guard:=none}) (v:= ?vq150) rfl (by kernel_rfl) (by kernel_rfl) (by kernel_rfl) (fun _ _ _ h=>h) (Or.inl ⟨by rfl, ?hq150⟩) (by assumption) ?rq150
   case hq150=>intro W hSw;(try obtain⟨a0,a1,a2,a3,a4⟩:=HQ.out W hSw);go_simp;(try with_reducible rfl)
   try simp only[Act.put,q7_,List.set_cons_zero,List.set_cons_succ]
   refine wpAnyH_take (i:=9) (oi:={dst:=some 314,op:=Op.load 3 (Operand.tmp 313),type:=3,pos:= "law.go:89",after:=#[{on:=8,ground:=Ground.data}],guard:=none}) (v:= ?vq151) rfl (by kernel_rfl) (by kernel_rfl) (by kernel_rfl) (fun _ _ _ h=>h) (Or.inl ⟨by rfl, ?hq151⟩) (by assumption) ?rq151
   case hq151=>intro W hSw;(try obtain⟨a0,a1,a2,a3,a4⟩:=HQ.out W hSw);go_simp;(try with_reducible rfl)
   try simp only[Act.put,q7_,List.set_cons_zero,List.set_cons_succ]
   refine wpAnyH_take (i:=10) (oi:={dst:=some 315,op:=Op.binOp BinOp.eql 3 (Operand.tmp 311) (Operand.tmp 314) 3,type:=4,pos:= "law.go:89",after:=#[{on:=6,ground:=Ground.data},{on:=9,ground:=Ground.data}],guard:=none}) (v:= ?vq152) rfl (by kernel_rfl) (by kernel_rfl) (by kernel_rfl) (fun _ _ _ h=>h) (Or.inl ⟨by rfl, ?hq152⟩) (by assumption) ?rq152
   case hq152=>intro W hSw;(try obtain⟨a0,a1,a2,a3,a4⟩:=HQ.out W hSw);go_simp;(try with_reducible rfl)
   try simp only[Act.put,q7_,List.set_cons_zero,List.set_cons_succ]
   refine wpAnyH_take (i:=11) (oi:={dst:=some 316,op:=Op.move (Operand.tmp 315),type:=4,pos:= "law.go:89",after:=#[{on:=10,ground:=Ground.data}],guard:=none}) (v:= ?vq153) rfl (by kernel_rfl) (by kernel_rfl) (by kernel_rfl) (fun _ _ _ h=>h) (Or.inl ⟨by rfl, ?hq153⟩) (by assumption) ?rq153
   case hq153=>intro W hSw;(try obtain⟨a0,a1,a2,a3,a4⟩:=HQ.out W hSw);go_simp;(try with_reducible rfl)
   try simp only[Act.put,q7_,List.set_cons_zero,List.set_cons_succ]
   refine wpAnyH_take (i:=12) (oi:={dst:=some 317,op:=Op.fieldAddr 29 (Operand.tmp 1) 9,type:=0,pos:= "law.go:89",after:=#[{on:=11,ground:=Ground.guard}],guard:=some (11,true)}) (v:= ?vq154) rfl (by kernel_rfl) (by kernel_rfl) (by kernel_rfl) (fun _ _ _ h=>h) (Or.inl ⟨by rfl, ?hq154⟩) (by assumption) ?rq154
   case hq154=>intro W hSw;(try obtain⟨a0,a1,a2,a3,a4⟩:=HQ.out W hSw);go_simp;(try with_reducible rfl)
   try simp only[Act.put,q7_,List.set_cons_zero,List.set_cons_succ]
   refine wpAnyH_take (i:=13) (oi:={dst:=some 318,op:=Op.load 27 (Operand.tmp 317),type:=27,pos:= "law.go:89",after:=#[{on:=12,ground:=Ground.data},{on:=11,ground:=Ground.guard}],guard:=some (11,true)}) (v:= ?vq155) rfl (by kernel_rfl) (by kernel_rfl) (by kernel_rfl) (fun _ _ _ h=>h) (Or.inl ⟨by rfl, ?hq155⟩) (by assumption) ?rq155
   case hq155=>intro W hSw;(try obtain⟨a0,a1,a2,a3,a4⟩:=HQ.out W hSw);go_simp;(try with_reducible rfl)
   try simp only[Act.put,q7_,List.set_cons_zero,List.set_cons_succ]
   refine wpAnyH_take (i:=14) (oi:={dst:=some 319,op:=Op.move (Operand.tmp 14),type:=3,pos:= "law.go:89",after:=#[{on:=11,ground:=Ground.guard}],guard:=some (11,true)}) (v:= ?vq156) rfl (by kernel_rfl) (by kernel_rfl) (by kernel_rfl) (fun _ _ _ h=>h) (Or.inl ⟨by rfl, ?hq156⟩) (by assumption) ?rq156
   case hq156=>intro W hSw;(try obtain⟨a0,a1,a2,a3,a4⟩:=HQ.out W hSw);go_simp;(try with_reducible rfl)
   try simp only[Act.put,q7_,List.set_cons_zero,List.set_cons_succ]
   refine wpAnyH_take (i:=15) (oi:={dst:=some 320,op:=Op.indexAddr 27 (Operand.tmp 318) (Operand.tmp 319),type:=0,pos:= "law.go:89",after:=#[{on:=13,ground:=Ground.data},{on:=14,ground:=Ground.data},{on:=11,ground:=Ground.guard}],guard:=some (11,true)}) (v:= ?vq157) rfl (by kernel_rfl) (by kernel_rfl) (by kernel_rfl) (fun _ _ _ h=>h) (Or.inl ⟨by rfl, ?hq157⟩) (by assumption) ?rq157
   case hq157=>intro W hSw;(try obtain⟨a0,a1,a2,a3,a4⟩:=HQ.out W hSw);go_simp;(try with_reducible rfl)
   try simp only[Act.put,q7_,List.set_cons_zero,List.set_cons_succ]
   refine wpAnyH_take (i:=16) (oi:={dst:=some 321,op:=Op.fieldAddr 56 (Operand.tmp 320) 0,type:=0,pos:= "law.go:89",after:=#[{on:=15,ground:=Ground.data},{on:=11,ground:=Ground.guard}],guard:=some (11,true)}) (v:= ?vq158) rfl (by kernel_rfl) (by kernel_rfl) (by kernel_rfl) (fun _ _ _ h=>h) (Or.inl ⟨by rfl, ?hq158⟩) (by assumption) ?rq158
   case hq158=>intro W hSw;(try obtain⟨a0,a1,a2,a3,a4⟩:=HQ.out W hSw);go_simp;(try with_reducible rfl)
   try simp only[Act.put,q7_,List.set_cons_zero,List.set_cons_succ]
   refine wpAnyH_take (i:=17) (oi:={dst:=some 322,op:=Op.fieldAddr 54 (Operand.tmp 321) 2,type:=0,pos:= "law.go:89",after:=#[{on:=16,ground:=Ground.data},{on:=11,ground:=Ground.guard}],guard:=some (11,true)}) (v:= ?vq159) rfl (by kernel_rfl) (by kernel_rfl) (by kernel_rfl) (fun _ _ _ h=>h) (Or.inl ⟨by rfl, ?hq159⟩) (by assumption) ?rq159
   case hq159=>intro W hSw;(try obtain⟨a0,a1,a2,a3,a4⟩:=HQ.out W hSw);go_simp;(try with_reducible rfl)
   try simp only[Act.put,q7_,List.set_cons_zero,List.set_cons_succ]
   refine wpAnyH_take (i:=18) (oi:={dst:=some 323,op:=Op.load 3 (Operand.tmp 322),type:=3,pos:= "law.go:89",after:=#[{on:=17,ground:=Ground.data},{on:=11,ground:=Ground.guard}],guard:=some (11,true)}) (v:= ?vq160) rfl (by kernel_rfl) (by kernel_rfl) (by kernel_rfl) (fun _ _ _ h=>h) (Or.inl ⟨by rfl, ?hq160⟩) (by assumption) ?rq160
   case hq160=>intro W hSw;(try obtain⟨a0,a1,a2,a3,a4⟩:=HQ.out W hSw);go_simp;(try with_reducible rfl)
   try simp only[Act.put,q7_,List.set_cons_zero,List.set_cons_succ]
   refine wpAnyH_take (i:=19) (oi:={dst:=some 324,op:=Op.fieldAddr 56 (Operand.tmp 10) 0,type:=0,pos:= "law.go:89",after:=#[{on:=11,ground:=Ground.guard}],guard:=some (11,true)}) (v:= ?vq161) rfl (by kernel_rfl) (by kernel_rfl) (by kernel_rfl) (fun _ _ _ h=>h) (Or.inl ⟨by rfl, ?hq161⟩) (by assumption) ?rq161
   case hq161=>intro W hSw;(try obtain⟨a0,a1,a2,a3,a4⟩:=HQ.out W hSw);go_simp;(try with_reducible rfl)
   try simp only[Act.put,q7_,List.set_cons_zero,List.set_cons_succ]
   refine wpAnyH_take (i:=20) (oi:={dst:=some 325,op:=Op.fieldAddr 54 (Operand.tmp 324) 2,type:=0,pos:= "law.go:89",after:=#[{on:=19,ground:=Ground.data},{on:=11,ground:=Ground.guard}],guard:=some (11,true)}) (v:= ?vq162) rfl (by kernel_rfl) (by kernel_rfl) (by kernel_rfl) (fun _ _ _ h=>h) (Or.inl ⟨by rfl, ?hq162⟩) (by assumption) ?rq162
   case hq162=>intro W hSw;(try obtain⟨a0,a1,a2,a3,a4⟩:=HQ.out W hSw);go_simp;(try with_reducible rfl)
   try simp only[Act.put,q7_,List.set_cons_zero,List.set_cons_succ]
   refine wpAnyH_take (i:=21) (oi:={dst:=some 326,op:=Op.load 3 (Operand.tmp 325),type:=3,pos:= "law.go:89",after:=#[{on:=20,ground:=Ground.data},{on:=11,ground:=Ground.guard}],guard:=some (11,true)}) (v:= ?vq163) rfl (by kernel_rfl) (by kernel_rfl) (by kernel_rfl) (fun _ _ _ h=>h) (Or.inl ⟨by rfl, ?hq163⟩) (by assumption) ?rq163
   case hq163=>intro W hSw;(try obtain⟨a0,a1,a2,a3,a4⟩:=HQ.out W hSw);go_simp;(try with_reducible rfl)
   try simp only[Act.put,q7_,List.set_cons_zero,List.set_cons_succ]
   refine wpAnyH_take (i:=22) (oi:={dst:=some 327,op:=Op.binOp BinOp.eql 3 (Operand.tmp 323) (Operand.tmp 326) 3,type:=4,pos:= "law.go:89",after:=#[{on:=18,ground:=Ground.data},{on:=21,ground:=Ground.data},{on:=11,ground:=Ground.guard}],guard:=some (11,true)}) (v:= ?vq164) rfl (by kernel_rfl) (by kernel_rfl) (by kernel_rfl) (fun _ _ _ h=>h) (Or.inl ⟨by rfl, ?hq164⟩) (by assumption) ?rq164
   case hq164=>intro W hSw;(try obtain⟨a0,a1,a2,a3,a4⟩:=HQ.out W hSw);go_simp;(try with_reducible rfl)
   try simp only[Act.put,q7_,List.set_cons_zero,List.set_cons_succ]
   refine wpAnyH_take (i:=23) (oi:={dst:=some 328,op:=Op.pick (Operand.tmp 316) (Operand.tmp 327) (Operand.const (Value.bool false)),type:=4,pos:= "law.go:89",after:=#[{on:=11,ground:=Ground.data},{on:=22,ground:=Ground.data}],guard:=none}) (v:= ?vq165) rfl (by kernel_rfl) (by kernel_rfl) (by kernel_rfl) (fun _ _ _ h=>h) (Or.inl ⟨by rfl, ?hq165⟩) (by assumption) ?rq165
   case hq165=>intro W hSw;(try obtain⟨a0,a1,a2,a3,a4⟩:=HQ.out W hSw);go_simp;(try with_reducible rfl)
   try simp only[Act.put,q7_,List.set_cons_zero,List.set_cons_succ]
   refine wpAnyH_done (by kernel_rfl) ?_ _;go_wp2_with fail
   try simp only[Exit.inBlock,Exit.then]
   refine HQR.out hno.out _ _ rfl rfl ?_
   first | exact (F2.out.trans Hfq.out q4_) | exact Fr.trans (F2.out.trans Hfq.out q4_) hY_ q4_
  ·obtain rfl:q=k:=by omega
   have hqI:¬ (q:Int)<(q:Int):=by omega
   go_wp2_with fail
   try simp only[Exit.inBlock,Exit.then]
   exact⟨rfl,HQX.out Hsq.out _ _ _ _ _ _ _ _ _ _ _ _ _ _ _ _ _ _ _ _ _ _ _ _ _ _ _ _ _ _ _ _ Hfq.out⟩
end
end Go.Proofs.YteajonicnkpbbaaGreatDoor
