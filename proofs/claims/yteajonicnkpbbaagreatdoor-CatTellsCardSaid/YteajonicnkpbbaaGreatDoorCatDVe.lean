/- Walk of sedimentlaw23.valid: the loop over the entries. -/
import Derived.Test.YteajonicnkpbbaaGreatDoorCatDVj
import Derived.Test.YteajonicnkpbbaaGreatDoorCatDVt
namespace Go.Proofs.YteajonicnkpbbaaGreatDoor
set_option linter.all false
set_option maxHeartbeats 16000000
set_option maxRecDepth 100000
open Go.RowKit Tryz
section
variable {w W1 W2 W5 wj wq:World} {c:zbf} {pA fA tA sA eA ba ya:Option Addr} {pn pc fn fc tn tc sn sc en ec bn bc yn yc eb k j q:Nat} {id:Int} {tier shard place of_ v:Int} {bl yb:List Int} {yid ytier yshard yplace yof:Int}
theorem zqy(HC:Hid (∀ W,Fr (fun _=>False) W1 W→W.cell? ⟨w.heap.size,0,none⟩=some (.int .u64 c.gen)∧W.cell? ⟨w.heap.size,1,none⟩=some (.int .u64 c.id)∧W.cell? ⟨w.heap.size,2,none⟩=some (.int .i64 c.now)∧W.cell? ⟨w.heap.size,3,none⟩=some (.string c.nm)∧W.cell? ⟨w.heap.size,4,none⟩=some (.slice pA pn pc)∧W.cell? ⟨w.heap.size,5,none⟩=some (.slice fA fn fc)∧W.cell? ⟨w.heap.size,6,none⟩=some (.string c.nm2)∧W.cell? ⟨w.heap.size,7,none⟩=some (.slice tA tn tc)∧W.cell? ⟨w.heap.size,8,none⟩=some (.slice sA sn sc)∧W.cell? ⟨w.heap.size,9,none⟩=some (.int .i64 c.bound)∧W.cell? ⟨w.heap.size,10,none⟩=some (.int .i64 c.done)∧W.cell? ⟨w.heap.size,11,none⟩=some (.slice eA en ec)))(HRe:Hid (∀ W,Fr (fun _=>False) W1 W→Rd W 6 eA en (zbN c.es)))(Hok:Hid (∀ x∈c.es,(∀ W,Fr (fun _=>False) W1 W→Rd W 1 x.ba x.bn (za6 x.bl))∧x.bl.length=x.bn∧x.bn≤9223372036854775807))(Hle:Hid (c.es.length=en))(hme:en≤9223372036854775807)(HTop:Hid (zqB c))(HFl:Hid (c.fl.all (fun f=>inB f 4611686018427387904)=true))(HCh:Hid (zax c=true))(F5:Hid (Fr (fun _=>False) W1 W5)){X R:Act→World→Prop}(HQR:Hid (zbd c=false→∀ (a:Act) (W:World),a.tmps.getD 2 undef=.bool false→a.defers=[]→Fr (fun _=>False) W1 W→R a W)){u0 u2 u3 u4 u5 u6 u7 u8 u10 u11 u12 u13 u14 u15 u16 u17 u18 u19 u20 u21 u22 u23 u24 u25 u26 u27 u28 u29 u30 u31 u32 u33 u34 u35 u36 u37 u38 u39 u40 u41 u42 u43 u44 u45 u46 u47 u48 u49 u50 u51 u52 u53 u54 u55 u56 u57 u58 u59 u60 u61 u62 u63 u64 u65 u66 u67 u68 u69 u70 u71 u72 u73 u74 u75 u76 u77 u78 u79 u80 u81 u82 u83 u84 u85 u86 u87 u88 u89 u90 u91 u92 u93 u94 u95 u96 u97 u98 u99 u100 u101 u102 u103 u104 u105 u106 u107 u108 u109 u110 u111 u112 u113 u114 u115 u116 u117 u118 u119 u120 u121 u122 u123 u124 u125 u126 u127 u128 u129 u130 u131 u132 u133 u134 u135 u136 u137 u138 u139 u140 u141 u142 u143 u144 u145 u146 u147 u148 u149 u150 u151 u152 u153 u154 u155 u156 u157 u158 u159 u160 u161 u162 u163 u164 u165 u166 u167 u168 u169 u170 u171 u172 u173 u174 u175 u176 u177 u178 u179 u180 u181 u182 u183 u184 u185 u186 u187 u188 u189 u190 u191 u192 u193 u194 u195 u196 u197 u198 u199 u200 u201 u202 u203 u204 u205 u206 u207 u208 u209 u210 u211 u212 u213 u214 u215 u216 u217 u218 u219 u220 u221 u222 u223 u224 u225 u226 u227 u228 u229 u230 u231 u232 u233 u234 u235 u236 u237 u238 u239 u240 u241 u242 u243 u244 u245 u246 u247 u248 u249 u250 u251 u252 u253 u254 u255 u256 u257 u258 u259 u260 u261 u262 u263 u264 u265 u266 u267 u268 u269 u270 u271 u272 u273 u274 u275 u276 u277 u278 u279 u280 u281 u282 u283 u284 u285 u286 u287 u288 u289 u290 u291 u292 u293 u294 u295 u296 u297 u298 u299 u300 u301 u302 u303 u304 u305 u306 u307 u308 u309 u310 u311 u312 u313 u314 u315 u316 u317 u318 u319 u320 u321 u322 u323 u324 u325 u326 u327 u328:Value}(HQX:Hid (zbd c=true→∀ (x2 x9 x10 x11 x12 x13 x14 x163 x164 x165 x166 x167 x168 x169 x170 x171 x172 x173 x174 x175 x176 x177 x178 x179 x180 x181 x182 x183 x184 x185 x186 x187 x188 x189 x190 x191 x192 x193 x194 x195 x196 x197 x198 x199 x200 x201 x202 x203 x204 x205 x206 x207 x208 x209 x210 x211 x212 x213 x214 x215 x216 x217 x218 x219 x220 x221 x222 x223 x224 x225 x226 x227 x228 x229 x230 x231 x232 x233 x234 x235 x236 x237 x238 x239 x240 x241 x242 x243 x244 x245 x246 x247 x248 x249 x250 x251 x252 x253 x254 x255 x256 x257 x258 x259 x260 x261 x262 x263 x264 x265 x266 x267 x268 x269 x270 x271 x272 x273 x274 x275 x276 x277 x278 x279 x280 x281 x282 x283 x284 x285 x286 x287 x288 x289 x290 x291 x292 x293 x294 x295 x296 x297 x298 x299 x300 x301 x302 x303 x304 x305 x306 x307 x308 x309 x310 x311 x312 x313 x314 x315 x316 x317 x318 x319 x320 x321 x322 x323 x324 x325 x326 x327 x328:Value) (W:World),Fr (fun _=>False) W1 W→X ⟨(List.toArray (u0:: .pointer (some ⟨w.heap.size,0,none⟩)::x2::u3::u4::u5::u6::u7::u8::x9::x10::x11::x12::x13::x14::u15::u16::u17::u18::u19::u20::u21::u22::u23::u24::u25::u26::u27::u28::u29::u30::u31::u32::u33::u34::u35::u36::u37::u38::u39::u40::u41::u42::u43::u44::u45::u46::u47::u48::u49::u50::u51::u52::u53::u54::u55::u56::u57::u58::u59::u60::u61::u62::u63::u64::u65::u66::u67::u68::u69::u70::u71::u72::u73::u74::u75::u76::u77::u78::u79::u80::u81::u82::u83::u84::u85::u86::u87::u88::u89::u90::u91::u92::u93::u94::u95::u96::u97::u98::u99::u100::u101::u102::u103::u104::u105::u106::u107::u108::u109::u110::u111::u112::u113::u114::u115::u116::u117::u118::u119::u120::u121::u122::u123::u124::u125::u126::u127::u128::u129::u130::u131::u132::u133::u134::u135::u136::u137::u138::u139::u140::u141::u142::u143::u144::u145::u146::u147::u148::u149::u150::u151::u152::u153::u154::u155::u156::u157::u158::u159::u160::u161::u162::x163::x164::x165::x166::x167::x168::x169::x170::x171::x172::x173::x174::x175::x176::x177::x178::x179::x180::x181::x182::x183::x184::x185::x186::x187::x188::x189::x190::x191::x192::x193::x194::x195::x196::x197::x198::x199::x200::x201::x202::x203::x204::x205::x206::x207::x208::x209::x210::x211::x212::x213::x214::x215::x216::x217::x218::x219::x220::x221::x222::x223::x224::x225::x226::x227::x228::x229::x230::x231::x232::x233::x234::x235::x236::x237::x238::x239::x240::x241::x242::x243::x244::x245::x246::x247::x248::x249::x250::x251::x252::x253::x254::x255::x256::x257::x258::x259::x260::x261::x262::x263::x264::x265::x266::x267::x268::x269::x270::x271::x272::x273::x274::x275::x276::x277::x278::x279::x280::x281::x282::x283::x284::x285::x286::x287::x288::x289::x290::x291::x292::x293::x294::x295::x296::x297::x298::x299::x300::x301::x302::x303::x304::x305::x306::x307::x308::x309::x310::x311::x312::x313::x314::x315::x316::x317::x318::x319::x320::x321::x322::x323::x324::x325::x326::x327::x328::[])),[]⟩ W)):
  Code.wp prog dvE (zhE 4 X R) ⟨(List.toArray (u0:: .pointer (some ⟨w.heap.size,0,none⟩)::u2::u3::u4::u5::u6::u7::u8:: .int .i64 0::u10::u11::u12::u13::u14::u15::u16::u17::u18::u19::u20::u21::u22::u23::u24::u25::u26::u27::u28::u29::u30::u31::u32::u33::u34::u35::u36::u37::u38::u39::u40::u41::u42::u43::u44::u45::u46::u47::u48::u49::u50::u51::u52::u53::u54::u55::u56::u57::u58::u59::u60::u61::u62::u63::u64::u65::u66::u67::u68::u69::u70::u71::u72::u73::u74::u75::u76::u77::u78::u79::u80::u81::u82::u83::u84::u85::u86::u87::u88::u89::u90::u91::u92::u93::u94::u95::u96::u97::u98::u99::u100::u101::u102::u103::u104::u105::u106::u107::u108::u109::u110::u111::u112::u113::u114::u115::u116::u117::u118::u119::u120::u121::u122::u123::u124::u125::u126::u127::u128::u129::u130::u131::u132::u133::u134::u135::u136::u137::u138::u139::u140::u141::u142::u143::u144::u145::u146::u147::u148::u149::u150::u151::u152::u153::u154::u155::u156::u157::u158::u159::u160::u161::u162::u163::u164::u165::u166::u167::u168::u169::u170::u171::u172::u173::u174::u175::u176::u177::u178::u179::u180::u181::u182::u183::u184::u185::u186::u187::u188::u189::u190::u191::u192::u193::u194::u195::u196::u197::u198::u199::u200::u201::u202::u203::u204::u205::u206::u207::u208::u209::u210::u211::u212::u213::u214::u215::u216::u217::u218::u219::u220::u221::u222::u223::u224::u225::u226::u227::u228::u229::u230::u231::u232::u233::u234::u235::u236::u237::u238::u239::u240::u241::u242::u243::u244::u245::u246::u247::u248::u249::u250::u251::u252::u253::u254::u255::u256::u257::u258::u259::u260::u261::u262::u263::u264::u265::u266::u267::u268::u269::u270::u271::u272::u273::u274::u275::u276::u277::u278::u279::u280::u281::u282::u283::u284::u285::u286::u287::u288::u289::u290::u291::u292::u293::u294::u295::u296::u297::u298::u299::u300::u301::u302::u303::u304::u305::u306::u307::u308::u309::u310::u311::u312::u313::u314::u315::u316::u317::u318::u319::u320::u321::u322::u323::u324::u325::u326::u327::u328::[])),[]⟩ W5:=by
 conv=>arg 2;whnf
 go_loopw [9] (fun i wr=>∃ k:Nat,k≤en∧i=.int .i64 k∧Hid (Fr (fun _=>False) W1 wr)∧Hid ((c.es.take k).all (zaQ c.id)=true)∧Hid ((zaM (c.es.take k)).Nodup)∧Hid ((zai (c.es.take k)).Nodup)) (fun i _=>en-(intOf i).toNat)
 case atStart=>exact⟨0,Nat.zero_le _,rfl,F5.out,rfl,List.nodup_nil,List.nodup_nil⟩
 case round=>
  obtain⟨k,hk,rfl,hf,hall,hpl,hbk⟩:=hrel;have Hf:=q0_ hf.out;have Hall:=q0_ hall.out;have Hpl:=q0_ hpl.out;have Hbk:=q0_ hbk.out;clear hf hall hpl hbk
  have hen9:en≤90:=by have:=HTop.out.es;rw[Hle.out] at this;exact this
  have hkw:IntKind.i64.wrap ((k:Int)+1)=(k:Int)+1:=by simp[IntKind.wrap,IntKind.signed,IntKind.bits];omega
  obtain⟨-, -, -, -, -, -, -, -, -, -, -,x11⟩:=HC.out _ Hf.out
  by_cases hlt:k<en
  ·obtain⟨ad,⟨id,tier,shard,place,of_,ba,bn,bc,bl⟩,rfl,hu,d0,d1,d2,d3,d4,d5⟩:=(HRe.out _ Hf.out).ent hlt
   dsimp only at d0 d1 d2 d3 d4 d5;have Hu:=q0_ hu;have hxo:=Hok.out _ (zab hu)
   have hkI:0≤(k:Int)∧(k:Int)<(en:Int):=by omega
   clear hu
   go_upto_region 24 with fail
   obtain⟨W2,hW2⟩:∃ W2,W2=wr.alloc (.cells #[.int .u64 id,.int .i64 tier,.int .i64 shard,.int .i64 place,.int .i64 of_,.slice ba bn bc] 56):=⟨_,rfl⟩
   rw[← hW2]
   have F2:Hid (Fr (fun _=>False) W1 W2):=by show Fr _ _ _;rw[hW2];exact Hf.out.trans (Fr.none_alloc _ _) q4_
   have X2:Hid (Blk W2 wr.heap.size 56 #[.int .u64 id,.int .i64 tier,.int .i64 shard,.int .i64 place,.int .i64 of_,.slice ba bn bc]):=by show Blk _ _ _ _;rw[hW2];exact Blk.new _ _ _
   have HE:Hid (∀ W,Fr (fun _=>False) W2 W→W.cell? ⟨wr.heap.size,0,none⟩=some (.int .u64 id)∧W.cell? ⟨wr.heap.size,1,none⟩=some (.int .i64 tier)∧W.cell? ⟨wr.heap.size,2,none⟩=some (.int .i64 shard)∧W.cell? ⟨wr.heap.size,3,none⟩=some (.int .i64 place)∧W.cell? ⟨wr.heap.size,4,none⟩=some (.int .i64 of_)∧W.cell? ⟨wr.heap.size,5,none⟩=some (.slice ba bn bc)):=fun W f=>by
    have b:=X2.out.fr f (fun h=>h);exact⟨b.cell 0,b.cell 1,b.cell 2,b.cell 3,b.cell 4,b.cell 5⟩
   have HRb:=q0_ (fun (W:World) (f:Fr (fun _=>False) W2 W)=>hxo.1 W (F2.out.trans f q4_));have Hbl:=q0_ hxo.2.1;have hbm:=hxo.2.2;dsimp only at HRb Hbl hbm;have hbl2:bl.length=bn:=Hbl.out;clear hW2 X2 hxo d0 d1 d2 d3 d4 d5 x11;obtain⟨z0,z1,z2,z3,z4,z5⟩:=HE.out _ (Fr.refl _ W2);have x1:=(HC.out _ F2.out).2.1
   by_cases q2:id<1
   ·have hno:Hid (zbd c=false):=zaz fun e=>by
     have h:=zbB (List.all_eq_true.1 (zat e).2.2.2.1 _ (zab Hu.out));have h1:=zaG h.tier;have h2:=zaG h.shard;have h3:=h.id;have h4:=h.place;have h5:=h.of_;have h6:=h.lo;have h7:=h.hi;dsimp only at h1 h2 h3 h4 h5 h6 h7;omega
    as_aux_lemma=>
     go_wp2_with fail
     try simp only[Exit.inBlock,Exit.then]
     refine HQR.out hno.out _ _ rfl rfl ?_
     first | exact F2.out | exact Fr.trans F2.out hY_ q4_
   by_cases q3:c.id<id
   ·have hno:Hid (zbd c=false):=zaz fun e=>by
     have h:=zbB (List.all_eq_true.1 (zat e).2.2.2.1 _ (zab Hu.out));have h1:=zaG h.tier;have h2:=zaG h.shard;have h3:=h.id;have h4:=h.place;have h5:=h.of_;have h6:=h.lo;have h7:=h.hi;dsimp only at h1 h2 h3 h4 h5 h6 h7;omega
    as_aux_lemma=>
     go_wp2_with fail
     try simp only[Exit.inBlock,Exit.then]
     refine HQR.out hno.out _ _ rfl rfl ?_
     first | exact F2.out | exact Fr.trans F2.out hY_ q4_
   by_cases q4:tier<0
   ·have hno:Hid (zbd c=false):=zaz fun e=>by
     have h:=zbB (List.all_eq_true.1 (zat e).2.2.2.1 _ (zab Hu.out));have h1:=zaG h.tier;have h2:=zaG h.shard;have h3:=h.id;have h4:=h.place;have h5:=h.of_;have h6:=h.lo;have h7:=h.hi;dsimp only at h1 h2 h3 h4 h5 h6 h7;omega
    as_aux_lemma=>
     go_wp2_with fail
     try simp only[Exit.inBlock,Exit.then]
     refine HQR.out hno.out _ _ rfl rfl ?_
     first | exact F2.out | exact Fr.trans F2.out hY_ q4_
   by_cases q5:(9:Int)<tier
   ·have hno:Hid (zbd c=false):=zaz fun e=>by
     have h:=zbB (List.all_eq_true.1 (zat e).2.2.2.1 _ (zab Hu.out));have h1:=zaG h.tier;have h2:=zaG h.shard;have h3:=h.id;have h4:=h.place;have h5:=h.of_;have h6:=h.lo;have h7:=h.hi;dsimp only at h1 h2 h3 h4 h5 h6 h7;omega
    as_aux_lemma=>
     go_wp2_with fail
     try simp only[Exit.inBlock,Exit.then]
     refine HQR.out hno.out _ _ rfl rfl ?_
     first | exact F2.out | exact Fr.trans F2.out hY_ q4_
   by_cases q6:shard<0
   ·have hno:Hid (zbd c=false):=zaz fun e=>by
     have h:=zbB (List.all_eq_true.1 (zat e).2.2.2.1 _ (zab Hu.out));have h1:=zaG h.tier;have h2:=zaG h.shard;have h3:=h.id;have h4:=h.place;have h5:=h.of_;have h6:=h.lo;have h7:=h.hi;dsimp only at h1 h2 h3 h4 h5 h6 h7;omega
    as_aux_lemma=>
     go_wp2_with fail
     try simp only[Exit.inBlock,Exit.then]
     refine HQR.out hno.out _ _ rfl rfl ?_
     first | exact F2.out | exact Fr.trans F2.out hY_ q4_
   by_cases q7:(7:Int)<shard
   ·have hno:Hid (zbd c=false):=zaz fun e=>by
     have h:=zbB (List.all_eq_true.1 (zat e).2.2.2.1 _ (zab Hu.out));have h1:=zaG h.tier;have h2:=zaG h.shard;have h3:=h.id;have h4:=h.place;have h5:=h.of_;have h6:=h.lo;have h7:=h.hi;dsimp only at h1 h2 h3 h4 h5 h6 h7;omega
    as_aux_lemma=>
     go_wp2_with fail
     try simp only[Exit.inBlock,Exit.then]
     refine HQR.out hno.out _ _ rfl rfl ?_
     first | exact F2.out | exact Fr.trans F2.out hY_ q4_
   by_cases q8:place=0
   rotate_left
   ·have g8:(place != 0)=true:=by simp;omega
    have hno:Hid (zbd c=false):=zaz fun e=>by
     have h:=zbB (List.all_eq_true.1 (zat e).2.2.2.1 _ (zab Hu.out));have h1:=zaG h.tier;have h2:=zaG h.shard;have h3:=h.id;have h4:=h.place;have h5:=h.of_;have h6:=h.lo;have h7:=h.hi;dsimp only at h1 h2 h3 h4 h5 h6 h7;omega
    as_aux_lemma=>
     go_wp2_with fail
     try simp only[Exit.inBlock,Exit.then]
     refine HQR.out hno.out _ _ rfl rfl ?_
     first | exact F2.out | exact Fr.trans F2.out hY_ q4_
   have g8:(place != 0)=false:=by simp;omega
   have Q8:=q0_ q8;clear q8
   by_cases q9:of_=(bn:Int)
   rotate_left
   ·have g9:(of_ != (bn:Int))=true:=by simp;omega
    have hno:Hid (zbd c=false):=zaz fun e=>by
     have h:=zbB (List.all_eq_true.1 (zat e).2.2.2.1 _ (zab Hu.out));have h1:=zaG h.tier;have h2:=zaG h.shard;have h3:=h.id;have h4:=h.place;have h5:=h.of_;have h6:=h.lo;have h7:=h.hi;dsimp only at h1 h2 h3 h4 h5 h6 h7;omega
    as_aux_lemma=>
     go_wp2_with fail
     try simp only[Exit.inBlock,Exit.then]
     refine HQR.out hno.out _ _ rfl rfl ?_
     first | exact F2.out | exact Fr.trans F2.out hY_ q4_
   have g9:(of_ != (bn:Int))=false:=by simp;omega
   have Q9:=q0_ q9;clear q9
   by_cases q10:(bn:Int)<1
   ·have hno:Hid (zbd c=false):=zaz fun e=>by
     have h:=zbB (List.all_eq_true.1 (zat e).2.2.2.1 _ (zab Hu.out));have h1:=zaG h.tier;have h2:=zaG h.shard;have h3:=h.id;have h4:=h.place;have h5:=h.of_;have h6:=h.lo;have h7:=h.hi;dsimp only at h1 h2 h3 h4 h5 h6 h7;omega
    as_aux_lemma=>
     go_wp2_with fail
     try simp only[Exit.inBlock,Exit.then]
     refine HQR.out hno.out _ _ rfl rfl ?_
     first | exact F2.out | exact Fr.trans F2.out hY_ q4_
   by_cases q11:(4096:Int)<(bn:Int)
   ·have hno:Hid (zbd c=false):=zaz fun e=>by
     have h:=zbB (List.all_eq_true.1 (zat e).2.2.2.1 _ (zab Hu.out));have h1:=zaG h.tier;have h2:=zaG h.shard;have h3:=h.id;have h4:=h.place;have h5:=h.of_;have h6:=h.lo;have h7:=h.hi;dsimp only at h1 h2 h3 h4 h5 h6 h7;omega
    as_aux_lemma=>
     go_wp2_with fail
     try simp only[Exit.inBlock,Exit.then]
     refine HQR.out hno.out _ _ rfl rfl ?_
     first | exact F2.out | exact Fr.trans F2.out hY_ q4_
   have hhd:Hid (znQ c.id ⟨id,tier,shard,place,of_,ba,bn,bc,bl⟩):=⟨zi3 (show 0≤tier by omega) (show tier≤9 by omega),zi3 (show 0≤shard by omega) (show shard≤7 by omega),⟨by show 1≤id;omega,by show id≤c.id;omega⟩,Q8.out,by show of_=(bl.length:Int);have:=Q9.out;omega,by show 1≤of_;have:=Q9.out;omega,by show of_≤4096;have:=Q9.out;omega⟩
   have Hhd:=hhd;clear hhd;go_wp2_with fail;clear q2 q3 q4 q5 q6 q7 q10 q11;have F3:Hid (Fr (fun _=>False) W2 W2):=Fr.refl _ _;clear x1 z0 z1 z2 z3 z4 z5 hbl2;refine zfJ (n:=6) (zqx HC HRe Hok HE HRb Hbl Hu F2 hlt hen9 hbm Hbk (q0_ fun hn a W ha hd hf=>?_) (q0_ fun hs x2 x11 x12 x13 x238 x239 x240 x241 x242 x243 x244 x245 x246 x247 x248 x249 x250 x251 x252 x253 x254 x255 x256 x257 x258 x259 x260 x261 x262 x263 x264 x265 x266 x267 x268 x269 x270 x271 x272 x273 x274 x275 x276 x277 x278 x279 x280 x281 x282 x283 x284 x285 x286 x287 x288 x289 x290 x291 x292 x293 x294 x295 x296 x297 x298 x299 W5 hf=>?_))
   ·try simp only[Exit.inBlock,Exit.then]
    exact HQR.out hn a W ha hd hf
   ·have Hba:=q0_ hs.1
    have Hnb:=q0_ hs.2;have Hfj:=q0_ hf;clear hs hf;simp only[Exit.inBlock,Exit.then,if_true];go_wp2_with fail;refine zfJ (n:=12) (zqu HC HRe Hok HE HRb Hbl Hu F2 hlt hen9 hbm Hfj (q0_ fun hn a W ha hd hf=>?_) (q0_ fun hs x2 x14 x300 x301 x302 x303 x304 x305 x306 x307 x308 x309 x310 x311 x312 x313 x314 x315 x316 x317 x318 x319 x320 x321 x322 x323 x324 x325 x326 x327 x328 W6 hf=>?_))
    ·try simp only[Exit.inBlock,Exit.then]
     exact HQR.out hn a W ha hd hf
    ·have Hsq:=q0_ hs
     have Hfq:=q0_ hf
     have hall:Hid ((c.es.take (k+1)).all (zaQ c.id)=true):=by
      show _=_
      rw[zao Hu.out Hall.out];exact zp9 Hhd.out Hba.out
     have hpl:Hid ((zaM (c.es.take (k+1))).Nodup):=zjI Hpl.out Hu.out Hsq.out
     have hbk:Hid ((zai (c.es.take (k+1))).Nodup):=by
      show List.Nodup _
      unfold zai;rw[zan Hu.out,List.flatMap_append];simp only[List.flatMap_cons,List.flatMap_nil,List.append_nil];exact Hnb.out
     clear Hsq hs hf;simp only[Exit.inBlock,Exit.then,if_true];go_wp2
     go_roundw
     case rel=>exact⟨k+1,by omega,by go_num,F2.out.trans Hfq.out q4_,hall.out,hpl.out,hbk.out⟩
     case measure=>simp[intOf];omega
  ·obtain rfl:en=k:=by omega
   have hcat:Hid (zbd c=true):=by
    have e:c.es.take en=c.es:=List.take_of_length_le (by rw[Hle.out];exact Nat.le_refl _);have a1:=Hall.out;have a2:=Hpl.out;have a3:=Hbk.out;rw[e] at a1 a2 a3;exact zqa HTop.out HFl.out HCh.out a1 a2 a3
   clear Hall Hpl Hbk;go_wp2_with fail
   try simp only[Exit.inBlock,Exit.then]
   exact⟨rfl,HQX.out hcat.out _ _ _ _ _ _ _ _ _ _ _ _ _ _ _ _ _ _ _ _ _ _ _ _ _ _ _ _ _ _ _ _ _ _ _ _ _ _ _ _ _ _ _ _ _ _ _ _ _ _ _ _ _ _ _ _ _ _ _ _ _ _ _ _ _ _ _ _ _ _ _ _ _ _ _ _ _ _ _ _ _ _ _ _ _ _ _ _ _ _ _ _ _ _ _ _ _ _ _ _ _ _ _ _ _ _ _ _ _ _ _ _ _ _ _ _ _ _ _ _ _ _ _ _ _ _ _ _ _ _ _ _ _ _ _ _ _ _ _ _ _ _ _ _ _ _ _ _ _ _ _ _ _ _ _ _ _ _ _ _ _ _ _ _ _ _ _ _ _ _ _ _ _ _ Hf.out⟩
end
end Go.Proofs.YteajonicnkpbbaaGreatDoor
