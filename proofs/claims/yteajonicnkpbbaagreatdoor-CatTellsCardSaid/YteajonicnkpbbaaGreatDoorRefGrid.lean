/- Walk of sedimentref1.Name. -/
import Derived.Test.YteajonicnkpbbaaGreatDoorName
namespace Go.Proofs.YteajonicnkpbbaaGreatDoor
set_option linter.all false
set_option maxHeartbeats 4000000
set_option maxRecDepth 100000
open Go.RowKit Tryz
theorem zg3(s : ByteArray)(hs : s.size ≤ maxLen)(w : World) :
    Calls prog 111 #[.string s] w fun r w'=>r=.returned (.bool (zau s))∧w=w':=by
  unfold maxLen at hs
  by_cases h1:s.size<1
  · have g1:(s.size:Int)<1:=by omega
    have E:=q0_ (zf_ h1);go_enter func111,ntmps111;go_wp2;go_ret;exact⟨by rw[E.out];rfl,rfl⟩
  by_cases h2:15<s.size
  · have g1:¬ (s.size:Int)<1:=by omega
    have g2:(15:Int)<(s.size:Int):=by omega
    have E:=q0_ (zdZ h2);go_enter func111,ntmps111;go_wp2;go_ret;exact⟨by rw[E.out];rfl,rfl⟩
  have g1:¬ (s.size:Int)<1:=by omega
  have g2:¬ (15:Int)<(s.size:Int):=by omega
  go_enter func111,ntmps111;go_wp2_with fail;clear g1 g2
  go_loop [3] (fun i=>∃ k:Nat,k≤s.size∧i=.int .i64 k∧Hid (letters (s.data.toList.take k)=true)) (fun i=>s.size-(intOf i).toNat)
  case atStart=>exact⟨0,Nat.zero_le _,rfl,rfl⟩
  case round=>
    obtain⟨k,hk,rfl,hl⟩:=hrel
    by_cases hlt:k<s.size
    · have hb1:s[k].toNat<256:=s[k].toNat_lt
      have HB:=q0_ (zj6 hlt)
      have HY:Hid (zck (s[k].toNat:Int)=true→letters (s.data.toList.take (k+1))=true):=fun h=>by unfold letters;rw[zao HB.out hl.out];exact h
      have HN:Hid (zck (s[k].toNat:Int)=false→zau s=false):=fun h=>by
        unfold zau;rw[show letters s.data.toList=false from zaR (k:=k+1) (by rw[zao HB.out hl.out];exact h)];simp
      clear hl HB
      go_wp2
      all_goals
        first
        | (have hL : Hid (zck (s[k].toNat : Int) = true) := by
             show _=_
             unfold zck;simp at*;omega
           have hY:=q0_ (HY.out hL.out);clear hL HY HN
           go_round
           case rel=>exact⟨k+1,by omega,by go_num,hY.out⟩
           case measure=>simp[intOf];omega)
        | (have hL : Hid (zck (s[k].toNat : Int) = false) := by
             show _=_
             unfold zck;simp at*;omega
           have hN:=q0_ (HN.out hL.out);go_ret
           exact⟨by rw[hN.out];rfl,rfl⟩)
    · obtain rfl:k=s.size:=by omega
      have HE:Hid (zau s=true):=by
        show _=_
        have:=hl.out;rw[zbh (by rw[zcz];exact Nat.le_refl _)] at this;unfold zau;rw[this];simp;omega
      go_wp2;go_ret;exact⟨by rw[HE.out];rfl,rfl⟩
end Go.Proofs.YteajonicnkpbbaaGreatDoor
