/- What more of the library's functions answer (IndexByte of bytes, Cut, CutPrefix, TrimRight, Repeat), as plain functions of the library's own words, and that the calls come to it. -/
import Derived.Test.YtmmmmalicndkeaaDoorExtN
namespace Go.Proofs.YtmmmmalicndkeaaDoor.X
open Go.RowKit Go.Proofs.YtmmmmalicndkeaaDoorW.PrintWords Go.Proofs.YtmmmmalicndkeaaDoorW.PrintLast
set_option linter.unusedVariables false
set_option linter.unusedSimpArgs false

def bytes_IndexByte.f (l : List Int) (c : Int) : Option Int := if 0 < l.length then some (Lib.indexByte (Lib.bytesOf l) c.toNat.toUInt8) else none
theorem bytes_IndexByte.calls (A0 : Option Addr) (c0 : Nat) (l0 : List Int) (c : Int) (r : Int) (w : World) (hr0 : Kd.C (Kd.int .u8) w A0 l0.length l0) (hc0 : l0.length ≤ c0) (h : bytes_IndexByte.f l0 c = some r) :
    Calls Tryd.prog 56 #[.slice A0 l0.length c0, .int .u8 c] w fun e w' => e = .returned (.int .i64 r) ∧ Below w.heap.size w w' := by
  unfold bytes_IndexByte.f at h
  split at h
  case isFalse => cases h
  rename_i hp
  obtain rfl := Option.some.inj h
  obtain ⟨hlen, hmax, hA⟩ := hr0
  obtain ⟨ad, rfl, hc⟩ := hA (by exact hp)
  refine (Tryd.bytes_IndexByte_at ad l0.length c0 l0 c w rfl (fun i hi => ?_)).mono ?_
  · obtain ⟨cs, h1, h2, h3⟩ := hc i (l0[i]) (List.getElem?_eq_getElem hi)
    have e : cs = [Value.int .u8 l0[i]] := h2
    have h4 := h3 0 (.int .u8 l0[i]) (by rw [e]; rfl)
    have e1 : i * (Kd.int IntKind.u8).sz + 0 = i := by rw [show (Kd.int IntKind.u8).sz = 1 from rfl]; omega
    rw [e1] at h4
    rw [h4]
    simp [List.getD_eq_getElem?_getD, List.getElem?_eq_getElem hi]
  · rintro e w' ⟨rfl, rfl⟩
    exact ⟨rfl, Below.refl _ _⟩

def strings_Cut.f (s sep : ByteArray) : Option (ByteArray × ByteArray × Bool) := if s.size < 4294967281 then some (⟨(Lib.cut s.data.toList sep.data.toList).1.toArray⟩, ⟨(Lib.cut s.data.toList sep.data.toList).2.1.toArray⟩, (Lib.cut s.data.toList sep.data.toList).2.2) else none
theorem strings_Cut.calls (s sep : ByteArray) (r1 r2 : ByteArray) (r3 : Bool) (w : World) (hG : Glob 1 w) (h : strings_Cut.f s sep = some (r1, r2, r3)) :
    Calls Tryd.prog 42 #[.string s, .string sep] w fun e w' => e = .returned (.tuple #[.string r1, .string r2, .bool r3]) ∧ Below w.heap.size w w' := by
  unfold strings_Cut.f at h
  split at h
  case isFalse => cases h
  rename_i hs
  have h1 := Option.some.inj h
  simp only [Prod.mk.injEq] at h1
  obtain ⟨rfl, rfl, rfl⟩ := h1
  obtain ⟨⟨m, hm⟩, _⟩ := hG
  refine (Tryd.strings_Cut s sep m w hs hm).mono ?_
  rintro e w' ⟨rfl, n, rfl⟩
  exact ⟨rfl, (Drawn0.below ⟨n, rfl⟩)⟩

def strings_CutPrefix.f (s p : ByteArray) : Option (ByteArray × Bool) := some (⟨(Lib.trimPrefix s.data.toList p.data.toList).toArray⟩, Lib.hasPrefix s.data.toList p.data.toList)
theorem strings_CutPrefix.calls (s p : ByteArray) (r1 : ByteArray) (r2 : Bool) (w : World) (h : strings_CutPrefix.f s p = some (r1, r2)) :
    Calls Tryd.prog 41 #[.string s, .string p] w fun e w' => e = .returned (.tuple #[.string r1, .bool r2]) ∧ Drawn0 w w' := by
  unfold strings_CutPrefix.f at h
  have h1 := Option.some.inj h
  simp only [Prod.mk.injEq] at h1
  obtain ⟨rfl, rfl⟩ := h1
  refine (Tryd.strings_CutPrefix s p w).mono ?_
  rintro e w' ⟨rfl, rfl⟩
  exact ⟨rfl, 0, rfl⟩

def strings_TrimRight.f (s c : ByteArray) : Option ByteArray := if s.size ≤ 9223372036854775807 then (if c.size = 1 then (if (c.data.getD 0 0).toNat < 128 then some ⟨(Lib.trimRightB s.data.toList (c.data.getD 0 0)).toArray⟩ else none) else none) else none
theorem strings_TrimRight.calls (s c : ByteArray) (r : ByteArray) (w : World) (h : strings_TrimRight.f s c = some r) :
    Calls Tryd.prog 49 #[.string s, .string c] w fun e w' => e = .returned (.string r) ∧ Drawn0 w w' := by
  unfold strings_TrimRight.f at h
  split at h
  case isFalse => cases h
  rename_i hs
  split at h
  case isFalse => cases h
  rename_i h1
  obtain ⟨b, rfl⟩ := Lib.one_byte c h1
  split at h
  case isFalse => cases h
  rename_i hb
  obtain rfl := Option.some.inj h
  refine (Tryd.strings_TrimRight_one s b hb w hs).mono ?_
  rintro e w' ⟨rfl, rfl⟩
  exact ⟨rfl, 0, rfl⟩

def strings_Repeat.f (s : ByteArray) (c : Int) : Option ByteArray := if 0 ≤ c then (if c ≤ 9223372036854775807 then (if s.size * c.toNat ≤ 140737488355328 then some ⟨(Lib.repeatL s.data.toList c.toNat).toArray⟩ else none) else none) else none
theorem strings_Repeat.calls (s : ByteArray) (c : Int) (r : ByteArray) (w : World) (h : strings_Repeat.f s c = some r) :
    Calls Tryd.prog 60 #[.string s, .int .i64 c] w fun e w' => e = .returned (.string r) ∧ Below w.heap.size w w' := by
  unfold strings_Repeat.f at h
  split at h
  case isFalse => cases h
  rename_i h0
  split at h
  case isFalse => cases h
  rename_i h1
  split at h
  case isFalse => cases h
  rename_i h2
  obtain rfl := Option.some.inj h
  obtain ⟨n, rfl⟩ : ∃ n : Nat, c = (n : Int) := ⟨c.toNat, by omega⟩
  exact Tryd.strings_Repeat s n w (by omega) (by simpa using h2)
end Go.Proofs.YtmmmmalicndkeaaDoor.X
