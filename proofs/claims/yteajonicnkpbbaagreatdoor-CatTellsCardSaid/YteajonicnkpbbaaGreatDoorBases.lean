/- Walk of plan.source. -/
import Derived.Test.YteajonicnkpbbaaGreatDoorFrom
namespace Go.Proofs.YteajonicnkpbbaaGreatDoor
set_option linter.all false
open Go.RowKit Tryz
def zep(now:Int)(l:List zaa)(fl:List Int)(every:Int):Nat→Int
  | 0=> -1
  | k+1=>match l[k]? with
    | some t=>if zaA t.every every&&(decide (zep now l fl every k<0)||decide (zaF now l fl k≤zaF now l fl (zep now l fl every k).toNat)) then (k:Int) else zep now l fl every k
    | none=>zep now l fl every k
theorem zn3(now:Int)(l:List zaa)(fl:List Int)(every:Int)(k:Nat): -1≤zep now l fl every k∧zep now l fl every k<k:=by
  induction k with
  | zero=>simp[zep]
  | succ k ih=>
    simp only[zep]
    split
    · split<;>omega
    · omega
def zoi(nm:ByteArray)(A:Option Addr)(n c:Nat)(B:Option Addr)(m d:Nat):Value:=.agg #[.string nm,.slice A n c,.slice B m d]
def srcs(now:Int)(lf:List zaa)(fl:List Int)(lt:List zaa):List Int:=lt.map fun t=>zep now lf fl t.every lf.length
def zii(now:Int)(l:List zaa)(fl:List Int)(i:Int):Int:=if 0≤i∧i<l.length then zaF now l fl i.toNat else 0
theorem zoE{now:Int}{l:List zaa}{fl:List Int}(hnow:i64 now)(hl:∀ t∈l,t.wf)(hf:∀ f∈fl,i64 f)(k:Nat):i64 (zaF now l fl k):=by
  unfold zaF
  split
  · rename_i a b ha hb
    have wa:=hl a (zab ha);have hb2:=zpK (now:=now) (keep:=a.keep) (every:=b.every) hnow.2 wa.2.1.2
    split
    · rename_i f hfk
      have:=hf f (zab hfk)
      show i64 (max (zch now a.keep b.every) f)
      unfold i64 at this ⊢;omega
    · show i64 (zch now a.keep b.every)
      unfold i64;omega
  · unfold i64;omega
theorem znf(now : Int)(hnow : i64 now)(nm : ByteArray)(l : List zaa)(A : Option Addr)(n c : Nat)(fl : List Int)(B : Option Addr)(m d : Nat)(i : Int)(w : World)(hr : Rd w 4 A n (zaf l))(hf : Rd w 1 B m (za6 fl))(hwf : ∀ t ∈ l, t.wf)(hn : n ≤ 1099511627776) :
    Calls prog 110 #[zdi now nm A n c B m d,.int .i64 i] w fun r w'=>r=.returned (.int .i64 (zii now l fl i))∧Below w.heap.size w w':=by
  have hl:=hr.tiers_len;unfold zii;rw[hl]
  by_cases h:0≤i∧i<(n:Int)
  · rw[if_pos h]
    obtain⟨k,rfl⟩:=Int.eq_ofNat_of_zero_le h.1;exact ziP now hnow nm l A n c fl B m d k w hr hf hwf (by omega) hn
  · rw[if_neg h]
    exact zoC now nm A n c B m d i w (by simp;omega)
def zb8(now:Int)(lf:List zaa)(fl:List Int)(ss:List Int)(lt:List zaa):List Int:=List.zipWith (fun s t=>zgx (zii now lf fl s) t.every) ss lt
end Go.Proofs.YteajonicnkpbbaaGreatDoor
