/- Tiers and ints compared: walks of sedimentbook.SameTiers, SameInts. -/
import Derived.Test.YtjhhodndlkpmhaaGreatDoorTabNeed
namespace Go.Proofs.YtjhhodndlkpmhaaGreatDoor
set_option linter.all false
open Go.RowKit
def znI(x y:za_):Bool:=(x.name.toList==y.name.toList)&&((x.every==y.every)&&((x.keep==y.keep)&&(x.shards==y.shards)))
theorem zhl(x y:za_):znI x y=true↔x=y:=by
 obtain⟨a,b,c,d⟩:=x;obtain⟨a',b',c',d'⟩:=y;unfold znI;simp only[Bool.and_eq_true,beq_iff_eq,za_.mk.injEq];exact⟨fun h=>⟨toList_inj h.1,h.2⟩,fun h=>⟨by rw[h.1],h.2⟩⟩
instance zsv:DecidableEq za_:=fun x y=>if h:znI x y=true then isTrue ((zhl x y).1 h) else isFalse fun e=>h ((zhl x y).2 e)
theorem zh9(a b:List za_):zah (a++b)=zah a++zah b:=by simp[zah]
end Go.Proofs.YtjhhodndlkpmhaaGreatDoor
