/- What the library's text functions answer (IndexByte, Split, Join), as plain functions of the library's own words, and that the calls come to it; the premise on the world. -/
import Derived.Test.YtmmmmalicndkeaaDoorX0
import Derived.Test.YtmmmmalicndkeaaDoorShelf
import Derived.Lib.SmallJoins
import Derived.Lib.SplitLaws
import Derived.Lib.LaidTab
import Derived.Lib.AppendIntMem
import Derived.Lib.ItoaMem
namespace Go.Proofs.YtmmmmalicndkeaaDoor.X
open Go.RowKit Go.Proofs.YtmmmmalicndkeaaDoorW.PrintWords Go.Proofs.YtmmmmalicndkeaaDoorW.PrintLast
set_option linter.unusedVariables false
set_option linter.unusedSimpArgs false

/-- The world's package-level variables: the library's greatest length is a number; from 2 on, the table of powers of ten reads as laid; from 3 on, strconv's two errors are errors. -/
def Glob (n : Nat) (w : World) : Prop :=
  (∃ m : Int, w.cell? ⟨0, 0, none⟩ = some (.int .i64 m)) ∧
  (2 ≤ n → Lib.TabIs Tryd.prog w "internal/strconv.uint64pow10" .u64 Lib.pow10Tab) ∧
  (3 ≤ n → (∃ te pe, w.cell? ⟨3, 0, none⟩ = some (.iface te pe)) ∧ ∃ te pe, w.cell? ⟨4, 0, none⟩ = some (.iface te pe))
theorem Glob.to {m n : Nat} {w W : World} (h : m ≤ n) (hG : Glob n w) (hb : Below w.heap.size w W) : Glob m W := by
  obtain ⟨⟨x, hx⟩, h2, h3⟩ := hG
  refine ⟨⟨x, pw_cell_below hb hx⟩, fun h4 => (Lib.tabBelow_of_tabIs (h2 (Nat.le_trans h4 h))) W hb, fun h4 => ?_⟩
  obtain ⟨⟨te, pe, a⟩, te', pe', b⟩ := h3 (Nat.le_trans h4 h)
  exact ⟨⟨te, pe, pw_cell_below hb a⟩, te', pe', pw_cell_below hb b⟩
theorem Glob.le {m n : Nat} {w : World} (h : m ≤ n) (hG : Glob n w) : Glob m w := ⟨hG.1, fun h2 => hG.2.1 (Nat.le_trans h2 h), fun h3 => hG.2.2 (Nat.le_trans h3 h)⟩

def strings_IndexByte.f (s : ByteArray) (c : Int) : Option Int := some (Lib.indexByte s.data.toList c.toNat.toUInt8)
theorem strings_IndexByte.calls (s : ByteArray) (c : Int) (r : Int) (w : World) (h : strings_IndexByte.f s c = some r) :
    Calls Tryd.prog 34 #[.string s, .int .u8 c] w fun e w' => e = .returned (.int .i64 r) ∧ Drawn0 w w' := by
  unfold strings_IndexByte.f at h
  obtain rfl := Option.some.inj h
  refine (Tryd.strings_IndexByte s c w).mono ?_
  rintro e w' ⟨rfl, rfl⟩
  exact ⟨rfl, 0, rfl⟩

def strings_Split.f (s sep : ByteArray) : Option (List ByteArray) := if s.size < 4294967281 then (if 1 ≤ sep.size then some (Lib.splitB sep 0 (Lib.countB s sep) s) else none) else none
theorem strings_Split.calls (s sep : ByteArray) (r : List ByteArray) (w : World) (hG : Glob 1 w) (h : strings_Split.f s sep = some r) :
    Calls Tryd.prog 33 #[.string s, .string sep] w fun e w' => ∃ v0_ : Value, e = .returned v0_ ∧ Kd.R Kd.string 9 w' w.heap.size (fun _ => True) v0_ r ∧ Below w.heap.size w w' := by
  unfold strings_Split.f at h
  split at h
  case isFalse => cases h
  rename_i hs
  split at h
  case isFalse => cases h
  rename_i h1
  obtain rfl := Option.some.inj h
  obtain ⟨⟨m, hm⟩, _⟩ := hG
  have hl := Lib.splitB_all sep h1 0 (Lib.countB s sep) s rfl
  have hc := Lib.countB_le sep h1 s.size s (Nat.le_refl _)
  refine (Tryd.strings_Split s sep m w hs hm h1).mono ?_
  rintro e w' ⟨rfl, rfl⟩
  refine ⟨_, rfl, ?_, below_alloc (Below.refl _ _) _⟩
  have h2 := World.ownsRow_lit (base := w.heap.size) (e := 9) (size := 1) w ((Lib.splitB sep 0 (Lib.countB s sep) s).map Value.string).toArray (Lib.countB s sep + 1) (Nat.le_refl _) (by simp only [maxLen]; omega) (by simp [hl])
  refine Kd.R_of_own ?_ (fun _ _ => trivial)
  rw [hl]
  simpa [encs] using h2

def strings_Join.f (l : List ByteArray) (sep : ByteArray) : Option ByteArray := if l.length ≤ 140737488355328 then (if (Lib.join (l.map (·.data.toList)) sep.data.toList).length ≤ 140737488355328 then some ⟨(Lib.join (l.map (·.data.toList)) sep.data.toList).toArray⟩ else none) else none
theorem strings_Join.calls (A0 : Option Addr) (c0 : Nat) (l0 : List ByteArray) (sep : ByteArray) (r : ByteArray) (w : World) (hr0 : Kd.C Kd.string w A0 l0.length l0) (hc0 : l0.length ≤ c0) (h : strings_Join.f l0 sep = some r) :
    Calls Tryd.prog 37 #[.slice A0 l0.length c0, .string sep] w fun e w' => e = .returned (.string r) ∧ Below w.heap.size w w' := by
  unfold strings_Join.f at h
  split at h
  case isFalse => cases h
  rename_i hn
  split at h
  case isFalse => cases h
  rename_i hl
  obtain rfl := Option.some.inj h
  cases l0 with
  | nil =>
    refine (Tryd.strings_Join_none A0 c0 sep w).mono ?_
    rintro e w' ⟨rfl, rfl⟩
    exact ⟨by simp [Lib.join], Below.refl _ _⟩
  | cons x xs =>
    obtain ⟨hlen, hmax, hA⟩ := hr0
    obtain ⟨ad, rfl, hc⟩ := hA (by simp)
    have hcell : ∀ (j : Nat) y, (x :: xs)[j]? = some y → w.cell? (ad.add j) = some (.string y) := by
      intro j y hj
      obtain ⟨c, hc1, hc2, hc3⟩ := hc j y hj
      have e : c = [Value.string y] := hc2
      have h3 := hc3 0 (.string y) (by rw [e]; rfl)
      have e1 : j * (Kd.string).sz + 0 = j := by rw [show (Kd.string).sz = 1 from rfl]; omega
      rw [e1] at h3
      exact h3
    obtain ⟨bk, o, sp⟩ := ad
    have h0 := hcell 0 x rfl
    unfold World.cell? at h0
    have hsp : sp = none ∧ bk < w.heap.size := by
      split at h0
      · rename_i cs _ _ hq
        refine ⟨?_, ?_⟩
        · cases sp with
          | none => rfl
          | some z => simp [Addr.add] at h0
        · exact (Array.getElem?_eq_some_iff.1 hq).1
      · cases h0
    obtain ⟨rfl, hbk⟩ := hsp
    exact Tryd.strings_Join bk o c0 (x :: xs) sep w (fun j y hj => by have h3 := hcell j y hj; rwa [Lib.add_plain] at h3) hbk hn hc0 hl
end Go.Proofs.YtmmmmalicndkeaaDoor.X
