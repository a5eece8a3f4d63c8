/- Walk of a segment block's head. -/
import Derived.Test.YtjhhodndlkpmhaaGreatDoorSame
namespace Go.Proofs.YtjhhodndlkpmhaaGreatDoor
set_option linter.all false
open Go.RowKit
theorem zjw{x:Int}(h:0≤x∧x<256):za7 1 x=true:=by unfold za7;simp;omega
theorem zoJ{x:Int}(h:0≤x∧x<65536):za7 2 x=true:=by unfold za7;simp;omega
end Go.Proofs.YtjhhodndlkpmhaaGreatDoor
