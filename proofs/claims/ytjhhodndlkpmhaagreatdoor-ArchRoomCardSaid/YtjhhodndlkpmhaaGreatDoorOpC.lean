/- Walks of sedimentbook.Few, Some. -/
import Derived.Test.YtjhhodndlkpmhaaGreatDoorSame
import Derived.WalkKit
namespace Go.Proofs.YtjhhodndlkpmhaaGreatDoor
set_option linter.all false
open Go.RowKit Tryz
def zsL(few n:Nat)(r:Ending):Prop:=∃ b,r=.returned (.bool b)∧(b=true→n≤few)
theorem zpR(few:Nat)(hfew:few≤1000000)(l:List zas)(hl:∀ r∈l,r.name.size≤maxLen)(A:Option Addr)(n c:Nat)(w:World)(hr:Rd w 3 A n (zdz l))(hn:n≤9223372036854775807):
  Calls prog 12 #[.int .i64 few,.slice A n c] w fun r w'=>zsL few n r∧w=w':=by
 have Hr:=q0_ hr;have Hl:=q0_ (fun (r:zas) (h:r∈l)=>show (r.name.size:Int)≤9223372036854775807 by have:=hl r h;unfold maxLen at this;omega);clear hr hl;go_enter func12,ntmps12;go_wp2_with fail
 go_loop [5] (fun i=>∃ k:Nat,k≤n∧k≤few∧i=.int .i64 k) (fun i=>n-(intOf i).toNat)
 case atStart=>exact⟨0,Nat.zero_le _,Nat.zero_le _,rfl⟩
 case round=>
  obtain⟨k,hk,hk2,rfl⟩:=hrel
  by_cases hlt:k<n
  ·by_cases hlf:k<few
   ·obtain⟨ad,r,rfl,hu,d0,d1,d2⟩:=Hr.out.samp_ hlt
    have hsz:=Hl.out r (zab hu);clear hu
    by_cases h60:60<(r.name.size:Int)
    ·go_wp2
     go_ret;exact⟨⟨false,rfl,by simp⟩,rfl⟩
    ·go_wp2
     go_round
     case rel=>exact⟨k+1,by omega,by omega,by go_num⟩
     case measure=>simp[intOf];omega
   ·have hd:((n:Int)≤(few:Int))=False:=by simp;omega
    have hfl:¬ (k:Int)<(few:Int):=by omega
    have hfd:decide ((k:Int)<(few:Int))=false:=q9_ hfl;have hfn:decide (k<few)=false:=q9_ hlf;go_wp2;go_ret;exact⟨⟨false,by simp[*]<;>omega,by simp⟩,rfl⟩
  ·obtain rfl:k=n:=by omega
   have hkd:decide (k<k)=false:=by simp
   go_wp2;go_ret;exact⟨⟨true,by simp[*]<;>omega,fun _=>hk2⟩,rfl⟩
end Go.Proofs.YtjhhodndlkpmhaaGreatDoor
