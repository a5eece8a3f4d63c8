/- ArchNone's walk: of no state. -/
import Derived.Test.YtjhhodndlkpmhaaGreatDoorArcI
namespace Go.Proofs.YtjhhodndlkpmhaaGreatDoor
set_option linter.all false
set_option maxHeartbeats 8000000
set_option maxRecDepth 100000
open Go.RowKit Tryz
theorem ziQ(W:World):Calls prog 22 #[.pointer none] W fun r w'=>r=.returned (.pointer none)∧W=w':=by
 go_enter func22,ntmps22;go_wp2;go_ret;exact⟨by first | rfl | simp[*],rfl⟩
theorem ziC(w:World):Calls prog 10 #[.pointer none] w fun r w'=>r=.returned (.tuple #[.string {data:=#[]},.int .i64 1])∧w=w':=by
 have H:=q0_ (ziQ w);go_enter func10,ntmps10;go_wp2_with fail;refine H.out.mono ?_;rintro r w1 ⟨rfl,rfl⟩;go_wp2
 go_ret2
 exact⟨rfl,rfl⟩
theorem zlD(room:Int):zdh room []≠0:=by
 by_cases h:0≤room∧room≤4096
 ·rw[zeP h (by decide) (by decide)];decide
 ·rw[zeO h];decide
theorem anone_walk(room:Int)(w:World)(hmx:MaxL w)(htab:Tab w):Calls prog 4 #[.int .i64 room] w fun r w'=>r=.returned (.bool true)∧Below w.heap.size w w':=by
 have HX:=q0_ (ziC w)
 have HI:Hid (Calls prog 8 #[.int .i64 room,.string {data:=#[]}] w fun r w'=>(∃ e,e≠0∧r=.returned (.tuple #[.pointer none,.int .i64 e]))∧Below w.heap.size w w'):=by
  refine (zc9 room [] (by decide) w hmx htab).mono ?_;rintro r w' ⟨hr,hb⟩
  rcases hr with ⟨h0,_⟩ | ⟨h0,rfl⟩
  ·exact absurd h0 (zlD room)
  ·exact⟨⟨_,h0,rfl⟩,hb⟩
 have HA:Hid (∀ W',Fr (fun _=>False) w W'→Calls prog 6 #[] W' fun r w'=>r=.returned (.bool true)∧Below W'.heap.size W' w'):=fun W' f=>zeu W' (hmx.fr f (fun h=>h)) (htab.below (f.below q4_))
 have HV:Hid (∀ W',Fr (fun _=>False) w W'→Calls prog 9 #[.string {data:=#[]}] W' fun r w'=>r=.returned (.bool false)∧Below W'.heap.size W' w'):=fun W' f=>by
  have h:=zfE [] (by decide) W' (hmx.fr f (fun h=>h)) (htab.below (f.below q4_))
  have e:(zdh 4096 []==0)=false:=by simpa using zlD 4096
  rw[e] at h;exact h
 clear hmx htab;go_enter func4,ntmps4;go_wp2_with fail;refine HX.out.mono ?_;rintro r w1 ⟨rfl,rfl⟩;go_wp2_with fail;refine HI.out.mono ?_;rintro r w2 ⟨⟨e,he,rfl⟩,b2⟩;have F2:Hid (Fr (fun _=>False) w w2):=Fr.b0 b2
 have he1:(e==0)=false:=by simpa using he
 have he2:(e != 0)=true:=by simpa using he
 clear b2;go_wp2_with fail;refine (HA.out _ F2.out).mono ?_;rintro r w3 ⟨rfl,b3⟩;have F3:Hid (Fr (fun _=>False) w w3):=F2.out.trans (Fr.b0 b3) q4_;clear b3;go_wp2_with fail;refine (HV.out _ F3.out).mono ?_;rintro r w4 ⟨rfl,b4⟩;have F4:Hid (Fr (fun _=>False) w w4):=F3.out.trans (Fr.b0 b4) q4_;clear b4;go_wp2;go_ret;exact⟨rfl,F4.out.below q4_⟩
end Go.Proofs.YtjhhodndlkpmhaaGreatDoor
