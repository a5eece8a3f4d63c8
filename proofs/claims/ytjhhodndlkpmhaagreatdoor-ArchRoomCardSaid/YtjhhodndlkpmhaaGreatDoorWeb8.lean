/- The law's first call: what its answers come to. -/
import Derived.Test.YtjhhodndlkpmhaaGreatDoorStB
namespace Go.Proofs.YtjhhodndlkpmhaaGreatDoor
set_option linter.all false
open Go.RowKit
def zq6:ByteArray:={data:=#[112,111,108,105,99,121,32,119,101,98,10,116,105,101,114,32,114,97,119,32,101,118,101,114,121,32,49,32,107,101,101,112,32,49,48,48,32,115,104,97,114,100,115,32,50,10,116,105,101,114,32,116,101,110,115,32,101,118,101,114,121,32,49,48,32,107,101,101,112,32,49,48,48,48,32,115,104,97,114,100,115,32,49,10]}
theorem ziK:(zaY zq6).1=0:=by decide+kernel
end Go.Proofs.YtjhhodndlkpmhaaGreatDoor
