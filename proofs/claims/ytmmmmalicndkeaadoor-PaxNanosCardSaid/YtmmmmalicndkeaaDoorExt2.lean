/- What num.Digits and num.Number answer, as plain functions of the library's own words, and that the calls come to it: whatever the world, so long as the listed variables read as laid. -/
import Derived.Test.YtmmmmalicndkeaaDoorX0
import Derived.Test.YtmmmmalicndkeaaDoorShelf
import Derived.Test.YtmmmmalicndkeaaDoorExtN
import Derived.Lib.AppendIntMem
import Derived.Lib.SmallJoins
import Derived.Lib.ItoaLen
namespace Go.Proofs.YtmmmmalicndkeaaDoor.X
open Go.RowKit Go.Proofs.YtmmmmalicndkeaaDoorW.PrintWords Go.Proofs.YtmmmmalicndkeaaDoorW.PrintLast
set_option linter.unusedVariables false
set_option linter.unusedSimpArgs false

def num_Digits.f (a0 : Int) : Option ByteArray := if -9223372036854775808 ≤ a0 then (if a0 ≤ 9223372036854775807 then some ⟨(Lib.itoa a0).toArray⟩ else none) else none
theorem num_Digits.calls (a0 : Int) (r : ByteArray) (w : World) (hG : Glob 2 w) (h : num_Digits.f a0 = some r) :
    Calls Tryd.prog 48 #[.int .i64 a0] w fun e w' => e = .returned (.string r) ∧ Below w.heap.size w w' := by
  unfold num_Digits.f at h
  split at h
  case isFalse => cases h
  rename_i h0
  split at h
  case isFalse => cases h
  rename_i h1
  obtain rfl := Option.some.inj h
  have hT := Lib.hid (hG.2.1 (by decide))
  clear h hG
  go_enter Tryd.func48, Tryd.ntmps48
  go_wp2_with (go_at_call 61; refine (Tryd.strconv_Itoa _ h0 h1 _ hT.out).mono ?_; rintro e w' ⟨rfl, k, os, rfl⟩)
  go_ret
  exact ⟨rfl, Lib.below_grow _ _ (Nat.le_refl _) _ _⟩

/-- What num.Number answers. -/
def numberOf (l : List UInt8) : Int × Bool := match Lib.atoiAll l with
  | .ok v => if Lib.itoa v = l then (v, true) else (0, false)
  | _ => (0, false)
def num_Number.f (a0 : ByteArray) : Option (Int × Bool) := if a0.size ≤ 281474976710656 then some (numberOf a0.data.toList) else none
theorem ba_toList2 (b : ByteArray) : b.toList = b.data.toList := by
  first | exact ByteArray.toList_eq b | simp
theorem num_Number.calls (a0 : ByteArray) (r1 : Int) (r2 : Bool) (w : World) (hG : Glob 3 w) (h : num_Number.f a0 = some (r1, r2)) :
    Calls Tryd.prog 57 #[.string a0] w fun e w' => e = .returned (.tuple #[.int .i64 r1, .bool r2]) ∧ Below w.heap.size w w' := by
  unfold num_Number.f at h
  split at h
  case isFalse => cases h
  rename_i hs
  have hr := Option.some.inj h
  clear h
  have HG := Lib.hid hG
  obtain ⟨hT0, hT, hE⟩ := hG
  obtain ⟨⟨te, pe, hv1⟩, te', pe', hv2⟩ := hE (Nat.le_refl _)
  clear hE hT hT0
  rcases hat : Lib.atoiAll a0.data.toList with v | _ | _
  · have hat := hat
    obtain ⟨vb0, vb1⟩ := Lib.atoiAll_bounds hat
    have hA := Tryd.strconv_Atoi_ok a0 (by omega) v hat w
    unfold numberOf at hr
    rw [hat] at hr
    simp only at hr
    clear hat hv1 hv2
    by_cases he : Lib.itoa v = a0.data.toList
    · rw [if_pos he] at hr
      obtain ⟨rfl, rfl⟩ := Prod.mk.inj hr
      have e1 : (Lib.itoa v == a0.toList) = true := by rw [ba_toList2, he]; simp
      clear he hr
      go_enter Tryd.func57, Tryd.ntmps57
      go_wp2_with (go_at_call 73; refine hA.mono ?_)
      rintro e w1 ⟨rfl, hw⟩
      have hb : Below w.heap.size w w1 := by
        rcases hw with rfl | ⟨t, rfl⟩
        · exact Below.refl _ _
        · exact Lib.bytesWorld_below _ _ _
      clear hw
      have hT := Lib.hid ((Glob.to (m := 2) (by decide) HG.out hb).2.1 (by decide))
      have HB := Lib.hid hb
      clear hb
      go_wp2_with (go_at_call 61; refine (Tryd.strconv_Itoa _ vb0 vb1 _ hT.out).mono ?_; rintro e w' ⟨rfl, k, os, rfl⟩)
      go_ret2
      exact ⟨rfl, HB.out.trans ((Lib.below_grow _ _ (Nat.le_refl _) _ _).mono HB.out.size)⟩
    · rw [if_neg he] at hr
      obtain ⟨rfl, rfl⟩ := Prod.mk.inj hr
      have e1 : (Lib.itoa v == a0.toList) = false := by rw [ba_toList2]; simpa using he
      clear he hr
      go_enter Tryd.func57, Tryd.ntmps57
      go_wp2_with (go_at_call 73; refine hA.mono ?_)
      rintro e w1 ⟨rfl, hw⟩
      have hb : Below w.heap.size w w1 := by
        rcases hw with rfl | ⟨t, rfl⟩
        · exact Below.refl _ _
        · exact Lib.bytesWorld_below _ _ _
      clear hw
      have hT := Lib.hid ((Glob.to (m := 2) (by decide) HG.out hb).2.1 (by decide))
      have HB := Lib.hid hb
      clear hb
      go_wp2_with (go_at_call 61; refine (Tryd.strconv_Itoa _ vb0 vb1 _ hT.out).mono ?_; rintro e w' ⟨rfl, k, os, rfl⟩)
      go_ret2
      exact ⟨rfl, HB.out.trans ((Lib.below_grow _ _ (Nat.le_refl _) _ _).mono HB.out.size)⟩
  · have hat := hat
    unfold numberOf at hr
    rw [hat] at hr
    simp only [Prod.mk.injEq] at hr
    obtain ⟨rfl, rfl⟩ := hr
    have hA := Any.strconv_Atoi_syntax Tryd.laysC172 a0 hs hat _ w hv1 (.inr ⟨te, pe, rfl⟩)
    clear hat hv1 hv2
    go_enter Tryd.func57, Tryd.ntmps57
    go_wp2_with (go_at_call 73; refine hA.mono ?_; rintro e w1 ⟨N, rfl, h1, h2, hb⟩)
    go_ret2
    exact ⟨rfl, hb⟩
  · have hat := hat
    unfold numberOf at hr
    rw [hat] at hr
    simp only [Prod.mk.injEq] at hr
    obtain ⟨rfl, rfl⟩ := hr
    have hA := Any.strconv_Atoi_range Tryd.laysC172 a0 hs hat _ w hv2 (.inr ⟨te', pe', rfl⟩)
    clear hat hv1 hv2
    go_enter Tryd.func57, Tryd.ntmps57
    go_wp2_with (go_at_call 73; refine hA.mono ?_; rintro e w1 ⟨N, rfl, h1, h2, hb⟩)
    go_ret2
    exact ⟨rfl, hb⟩

end Go.Proofs.YtmmmmalicndkeaaDoor.X
