/- What num.Digits, num.Number and Errno.Error answer, as plain functions of the library's own words, and that the calls come to it: whatever the world, so long as the listed variables read as laid. -/
import Derived.Test.YtbaonnlpphpakaaDoorX0
import Derived.Test.YtbaonnlpphpakaaDoorShelf
import Derived.Lib.AppendIntMem
import Derived.Lib.SmallJoins
import Derived.Lib.ItoaLen
namespace Go.Proofs.YtbaonnlpphpakaaDoor.X
open Go.RowKit Go.Proofs.YtbaonnlpphpakaaDoorW.PrintWords Go.Proofs.YtbaonnlpphpakaaDoorW.PrintLast
set_option linter.unusedVariables false
set_option linter.unusedSimpArgs false

/-- The listed variables read as laid: the table of powers of ten; from 2 on, strconv's two errors are errors. -/
def Glob (n : Nat) (w : World) : Prop :=
  Lib.TabIs Tryd.prog w "internal/strconv.uint64pow10" .u64 Lib.pow10Tab ∧
  (2 ≤ n → (∃ te pe, w.cell? ⟨0, 0, none⟩ = some (.iface te pe)) ∧ ∃ te pe, w.cell? ⟨1, 0, none⟩ = some (.iface te pe))
theorem Glob.to {m n : Nat} {w W : World} (h : m ≤ n) (hG : Glob n w) (hb : Below w.heap.size w W) : Glob m W :=
  ⟨(Lib.tabBelow_of_tabIs hG.1) W hb, fun h2 => by
    obtain ⟨⟨te, pe, h1⟩, te', pe', h3⟩ := hG.2 (Nat.le_trans h2 h)
    exact ⟨⟨te, pe, pw_cell_below hb h1⟩, te', pe', pw_cell_below hb h3⟩⟩
theorem Glob.le {m n : Nat} {w : World} (h : m ≤ n) (hG : Glob n w) : Glob m w := ⟨hG.1, fun h2 => hG.2 (Nat.le_trans h2 h)⟩

def num_Digits.f (a0 : Int) : Option ByteArray := if -9223372036854775808 ≤ a0 then (if a0 ≤ 9223372036854775807 then some ⟨(Lib.itoa a0).toArray⟩ else none) else none
theorem num_Digits.calls (a0 : Int) (r : ByteArray) (w : World) (hG : Glob 1 w) (h : num_Digits.f a0 = some r) :
    Calls Tryd.prog 20 #[.int .i64 a0] w fun e w' => e = .returned (.string r) ∧ Below w.heap.size w w' := by
  unfold num_Digits.f at h
  split at h
  case isFalse => cases h
  rename_i h0
  split at h
  case isFalse => cases h
  rename_i h1
  obtain rfl := Option.some.inj h
  have hT := Lib.hid hG.1
  clear h hG
  go_enter Tryd.func20, Tryd.ntmps20
  go_wp2_with (go_at_call 24; refine (Tryd.strconv_Itoa _ h0 h1 _ hT.out).mono ?_; rintro e w' ⟨rfl, k, os, rfl⟩)
  go_ret
  exact ⟨rfl, Lib.below_grow _ _ (Nat.le_refl _) _ _⟩

/-- What num.Number answers. -/
def numberOf (l : List UInt8) : Int × Bool := match Lib.atoiAll l with
  | .ok v => if Lib.itoa v = l then (v, true) else (0, false)
  | _ => (0, false)
def num_Number.f (a0 : ByteArray) : Option (Int × Bool) := if a0.size ≤ 281474976710656 then some (numberOf a0.data.toList) else none
theorem ba_toList (b : ByteArray) : b.toList = b.data.toList := by
  first | exact ByteArray.toList_eq b | simp
theorem num_Number.calls (a0 : ByteArray) (r1 : Int) (r2 : Bool) (w : World) (hG : Glob 2 w) (h : num_Number.f a0 = some (r1, r2)) :
    Calls Tryd.prog 22 #[.string a0] w fun e w' => e = .returned (.tuple #[.int .i64 r1, .bool r2]) ∧ Below w.heap.size w w' := by
  unfold num_Number.f at h
  split at h
  case isFalse => cases h
  rename_i hs
  have hr := Option.some.inj h
  clear h
  have HG := Lib.hid hG
  obtain ⟨hT, hE⟩ := hG
  obtain ⟨⟨te, pe, hv1⟩, te', pe', hv2⟩ := hE (Nat.le_refl _)
  clear hE hT
  rcases hat : Lib.atoiAll a0.data.toList with v | _ | _
  · have hat := hat
    obtain ⟨vb0, vb1⟩ := Lib.atoiAll_bounds hat
    have hA := Tryd.strconv_Atoi_ok a0 (by omega) v hat w
    unfold numberOf at hr
    rw [hat] at hr
    simp only at hr
    clear hat hv1 hv2
    by_cases he : Lib.itoa v = a0.data.toList
    · rw [if_pos he] at hr
      obtain ⟨rfl, rfl⟩ := Prod.mk.inj hr
      have e1 : (Lib.itoa v == a0.toList) = true := by rw [ba_toList, he]; simp
      clear he hr
      go_enter Tryd.func22, Tryd.ntmps22
      go_wp2_with (go_at_call 27; refine hA.mono ?_)
      rintro e w1 ⟨rfl, hw⟩
      have hb : Below w.heap.size w w1 := by
        rcases hw with rfl | ⟨t, rfl⟩
        · exact Below.refl _ _
        · exact Lib.bytesWorld_below _ _ _
      clear hw
      have hT := Lib.hid (Glob.to (m := 1) (by decide) HG.out hb).1
      have HB := Lib.hid hb
      clear hb
      go_wp2_with (go_at_call 24; refine (Tryd.strconv_Itoa _ vb0 vb1 _ hT.out).mono ?_; rintro e w' ⟨rfl, k, os, rfl⟩)
      go_ret2
      exact ⟨rfl, HB.out.trans ((Lib.below_grow _ _ (Nat.le_refl _) _ _).mono HB.out.size)⟩
    · rw [if_neg he] at hr
      obtain ⟨rfl, rfl⟩ := Prod.mk.inj hr
      have e1 : (Lib.itoa v == a0.toList) = false := by rw [ba_toList]; simpa using he
      clear he hr
      go_enter Tryd.func22, Tryd.ntmps22
      go_wp2_with (go_at_call 27; refine hA.mono ?_)
      rintro e w1 ⟨rfl, hw⟩
      have hb : Below w.heap.size w w1 := by
        rcases hw with rfl | ⟨t, rfl⟩
        · exact Below.refl _ _
        · exact Lib.bytesWorld_below _ _ _
      clear hw
      have hT := Lib.hid (Glob.to (m := 1) (by decide) HG.out hb).1
      have HB := Lib.hid hb
      clear hb
      go_wp2_with (go_at_call 24; refine (Tryd.strconv_Itoa _ vb0 vb1 _ hT.out).mono ?_; rintro e w' ⟨rfl, k, os, rfl⟩)
      go_ret2
      exact ⟨rfl, HB.out.trans ((Lib.below_grow _ _ (Nat.le_refl _) _ _).mono HB.out.size)⟩
  · have hat := hat
    unfold numberOf at hr
    rw [hat] at hr
    simp only [Prod.mk.injEq] at hr
    obtain ⟨rfl, rfl⟩ := hr
    have hA := Any.strconv_Atoi_syntax Tryd.laysC172 a0 hs hat _ w hv1 (.inr ⟨te, pe, rfl⟩)
    clear hat hv1 hv2
    go_enter Tryd.func22, Tryd.ntmps22
    go_wp2_with (go_at_call 27; refine hA.mono ?_; rintro e w1 ⟨N, rfl, h1, h2, hb⟩)
    go_ret2
    exact ⟨rfl, hb⟩
  · have hat := hat
    unfold numberOf at hr
    rw [hat] at hr
    simp only [Prod.mk.injEq] at hr
    obtain ⟨rfl, rfl⟩ := hr
    have hA := Any.strconv_Atoi_range Tryd.laysC172 a0 hs hat _ w hv2 (.inr ⟨te', pe', rfl⟩)
    clear hat hv1 hv2
    go_enter Tryd.func22, Tryd.ntmps22
    go_wp2_with (go_at_call 27; refine hA.mono ?_; rintro e w1 ⟨N, rfl, h1, h2, hb⟩)
    go_ret2
    exact ⟨rfl, hb⟩

def api_Errno_Error.f (a0 : Int) : Option ByteArray := if 0 ≤ a0 then (if a0 < 100 then some ((⟨#[101, 114, 114, 111, 114, 32]⟩ : ByteArray) ++ ⟨(Lib.itoa a0).toArray⟩) else none) else none
theorem api_Errno_Error.calls (a0 : Int) (r : ByteArray) (w : World) (hG : Glob 1 w) (h : api_Errno_Error.f a0 = some r) :
    Calls Tryd.prog 10 #[.int .i64 a0] w fun e w' => e = .returned (.string r) ∧ Below w.heap.size w w' := by
  unfold api_Errno_Error.f at h
  split at h
  case isFalse => cases h
  rename_i h0
  split at h
  case isFalse => cases h
  rename_i h1
  obtain rfl := Option.some.inj h
  have hT := Lib.hid hG.1
  have hl := Lib.itoa_length_le a0 (by omega) (by omega)
  clear h hG
  go_enter Tryd.func10, Tryd.ntmps10
  go_wp2_with (go_at_call 24; refine (Tryd.strconv_Itoa _ (by omega) (by omega) _ hT.out).mono ?_; rintro e w' ⟨rfl, k, os, rfl⟩)
  go_ret
  exact ⟨rfl, Lib.below_grow _ _ (Nat.le_refl _) _ _⟩
end Go.Proofs.YtbaonnlpphpakaaDoor.X
