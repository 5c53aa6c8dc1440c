/- The plain law of the document's own Octal, Wide, Field and ReadNum: they answer as num's do. -/
import Derived.Test.YtbaonnlpphpakaaDoorRead
import Derived.Test.YtbaonnlpphpakaaDoorX8
import Derived.Test.YtbaonnlpphpakaaDoorX5
namespace Go.Proofs.YtbaonnlpphpakaaDoor.X
open Go.RowKit Go.Proofs.YtbaonnlpphpakaaDoorW.PrintWords Go.Proofs.YtbaonnlpphpakaaDoorW.PrintLast Go.Proofs.YtbaonnlpphpakaaDoorW.PrintMore
set_option linter.unusedVariables false
set_option linter.unusedSimpArgs false

theorem ba_ext {a b : ByteArray} (h : a.data.toList = b.data.toList) : a = b := by
  cases a; cases b
  simp only at h
  rw [Array.toList_inj.1 h]
theorem ba_append (a b : ByteArray) : (a ++ b).data.toList = a.data.toList ++ b.data.toList := by simp
theorem str_append (a b : List Int) : strOfNums a ++ strOfNums b = strOfNums (a ++ b) := by
  apply ba_ext
  rw [ba_append]
  simp [strOfNums_data]
theorem ba_assoc (a b c : ByteArray) : (a ++ b) ++ c = a ++ (b ++ c) := by
  apply ba_ext
  simp only [ba_append, List.append_assoc]
theorem ba_nil (a : ByteArray) : a ++ (⟨#[]⟩ : ByteArray) = a := by
  apply ba_ext
  rw [ba_append]
  simp
theorem nil_ba (a : ByteArray) : (⟨#[]⟩ : ByteArray) ++ a = a := by
  apply ba_ext
  rw [ba_append]
  simp
theorem oct_digit (d : Nat) (h : d < 8) : (⟨#[48, 49, 50, 51, 52, 53, 54, 55]⟩ : ByteArray).extract d (d + 1) = strOfNums [48 + (d : Int)] := by
  have : ∀ d : Fin 8, (⟨#[48, 49, 50, 51, 52, 53, 54, 55]⟩ : ByteArray).extract d.val (d.val + 1) = strOfNums [48 + (d.val : Int)] := by decide +kernel
  exact this ⟨d, h⟩

theorem roctal_l0 (w : Int) (hw0 : 0 ≤ w) (hw : w ≤ 1000) : ∀ (j n : Nat) (s : ByteArray), j ≤ w → n ≤ 9223372036854775807 → s.size + j ≤ 10000 →
    Ev (fun k => portmanteauref16_Octal.l0 k (n : Int) w s (w - j)) (strOfNums (octL j n) ++ s ++ (⟨#[0]⟩ : ByteArray), decide (n / 8 ^ j = 0))
  | 0, n, s, hj, hn, hs => by
    refine Ev.step1 fun k => ?_
    simp only [portmanteauref16_Octal.l0]
    rw [if_neg (by omega), if_pos (by omega)]
    have e : strOfNums (octL 0 n) ++ s = s := by rw [show strOfNums (octL 0 n) = (⟨#[]⟩ : ByteArray) by rfl, nil_ba]
    rw [e]
    have e2 : ((n : Int) == 0) = decide (n / 8 ^ 0 = 0) := by
      rw [Nat.pow_zero, Nat.div_one]
      by_cases h : n = 0
      · subst h; rfl
      · rw [decide_eq_false h]; simpa using h
    rw [e2]
  | j + 1, n, s, hj, hn, hs => by
    have hd : n % 8 < 8 := Nat.mod_lt _ (by decide)
    have ih := roctal_l0 w hw0 hw j (n / 8) (strOfNums [48 + ((n % 8 : Nat) : Int)] ++ s) (by omega) (by omega) (by simp [strOfNums_size]; omega)
    refine Ev.step (fun k => ?_) (ev_eq ih ?_)
    · simp only [portmanteauref16_Octal.l0]
      have e7 : bits .and .i64 (n : Int) 7 = ((n % 8 : Nat) : Int) := by rw [and7]; rfl
      rw [if_pos (by omega), e7, if_pos (by omega), w64 (by omega) (by omega), if_pos (by omega), if_pos (by omega)]
      have e1 : (((n % 8 : Nat) : Int)).toNat = n % 8 := by omega
      have e2 : (((n % 8 : Nat) : Int) + 1).toNat = n % 8 + 1 := by omega
      rw [e1, e2, oct_digit _ hd, if_pos (by rw [strOfNums_size]; simp; omega), w64 (by omega) (by omega)]
      congr 1
      omega
    · rw [Nat.div_div_eq_div_mul, show 8 * 8 ^ j = 8 ^ (j + 1) by rw [Nat.pow_succ, Nat.mul_comm]]
      simp only [octL]
      rw [← ba_assoc, str_append]
/-- What the document's Octal answers. -/
def roctalOf (n width : Int) : ByteArray × Bool :=
  if width < 2 ∨ width > 12 ∨ n < 0 then (⟨#[]⟩, false) else (strOfNums (octL (width.toNat - 1) n.toNat ++ [0]), decide (n.toNat / 8 ^ (width.toNat - 1) = 0))
theorem roctal_ev (n width : Int) (h1 : n ≤ 9223372036854775807) : Ev (fun k => portmanteauref16_Octal.f k n width) (roctalOf n width) := by
  unfold roctalOf
  by_cases hw : width < 2
  · rw [if_pos (.inl hw)]
    refine Ev.step1 fun k => ?_
    simp only [portmanteauref16_Octal.f, portmanteauref16_Octal.j0]
    rw [if_pos hw, if_pos trivial]
  by_cases hw2 : width > 12
  · rw [if_pos (.inr (.inl hw2))]
    refine Ev.step1 fun k => ?_
    simp only [portmanteauref16_Octal.f, portmanteauref16_Octal.j0]
    rw [if_neg hw, if_pos hw2, if_pos trivial]
  by_cases hn : n < 0
  · rw [if_pos (.inr (.inr hn))]
    refine Ev.step1 fun k => ?_
    simp only [portmanteauref16_Octal.f, portmanteauref16_Octal.j0]
    rw [if_neg hw, if_neg hw2, decide_eq_true hn, if_pos rfl]
  rw [if_neg (by omega)]
  obtain ⟨m, rfl⟩ : ∃ m : Nat, width = m + 1 := ⟨width.toNat - 1, by omega⟩
  obtain ⟨a, rfl⟩ : ∃ a : Nat, n = a := ⟨n.toNat, by omega⟩
  have e : ((m : Int) + 1).toNat = m + 1 := by omega
  refine Ev.step (fun k => ?_) (ev_eq (roctal_l0 ((m : Int) + 1) (by omega) (by omega) m a ⟨#[]⟩ (by omega) (by omega) (by show 0 + m ≤ 10000; omega)) ?_)
  · simp only [portmanteauref16_Octal.f, portmanteauref16_Octal.j0]
    rw [if_neg hw, if_neg hw2, decide_eq_false hn, if_neg (by decide)]
    congr 1
    omega
  · rw [ba_nil, show (⟨#[0]⟩ : ByteArray) = strOfNums [0] by rfl, str_append]
    simp [e]

theorem rwide_l0 (x w : Int) (hw0 : 0 ≤ w) (hw : w ≤ 1000) : ∀ (j : Nat) (v : Int) (s : ByteArray), j ≤ w → -9223372036854775808 ≤ v → v ≤ 9223372036854775807 → s.size + j ≤ 10000 →
    Ev (fun k => portmanteauref16_Wide.l0 k x w s v (w - j)) (if x ≥ 0 then ((⟨#[128]⟩ : ByteArray) ++ (strOfNums (wideL j v) ++ s), decide (v / 256 ^ j = 0)) else ((⟨#[255]⟩ : ByteArray) ++ (strOfNums (wideL j v) ++ s), decide (v / 256 ^ j = -1)))
  | 0, v, s, hj, h0, h1, hs => by
    refine Ev.step1 fun k => ?_
    simp only [portmanteauref16_Wide.l0]
    have e : strOfNums (wideL 0 v) ++ s = s := by rw [show strOfNums (wideL 0 v) = (⟨#[]⟩ : ByteArray) by rfl, nil_ba]
    rw [if_neg (by omega)]
    simp only [Int.pow_zero, Int.ediv_one, e]
    by_cases hx : x ≥ 0
    · rw [if_pos hx, if_pos hx, if_pos (by omega)]
      rfl
    · rw [if_neg hx, if_neg hx, if_pos (by omega)]
      rfl
  | j + 1, v, s, hj, h0, h1, hs => by
    have ih := rwide_l0 x w hw0 hw j (v / 256) (strOfNums [v % 256] ++ s) (by omega) (by omega) (by omega) (by simp [strOfNums_size]; omega)
    refine Ev.step (fun k => ?_) (ev_eq ih ?_)
    · simp only [portmanteauref16_Wide.l0, Option.bind_some]
      rw [if_pos (by omega), if_pos (by rw [strOfNums_size]; simp; omega), w64 (by omega) (by omega)]
      congr 1
      omega
    · rw [ediv_256_pow]
      simp only [wideL]
      rw [← ba_assoc (strOfNums _), str_append]
/-- What the document's Wide answers. -/
def rwideOf (n width : Int) : ByteArray × Bool :=
  if width < 2 ∨ width > 12 then (⟨#[]⟩, false)
  else if n ≥ 0 then (strOfNums (128 :: wideL (width.toNat - 1) n), decide (n / 256 ^ (width.toNat - 1) = 0)) else (strOfNums (255 :: wideL (width.toNat - 1) n), decide (n / 256 ^ (width.toNat - 1) = -1))
theorem rwide_ev (n width : Int) (h0 : -9223372036854775808 ≤ n) (h1 : n ≤ 9223372036854775807) : Ev (fun k => portmanteauref16_Wide.f k n width) (rwideOf n width) := by
  unfold rwideOf
  by_cases hw : width < 2
  · rw [if_pos (.inl hw)]
    refine Ev.step1 fun k => ?_
    simp only [portmanteauref16_Wide.f, portmanteauref16_Wide.j0]
    rw [if_pos hw, if_pos trivial]
  by_cases hw2 : width > 12
  · rw [if_pos (.inr hw2)]
    refine Ev.step1 fun k => ?_
    simp only [portmanteauref16_Wide.f, portmanteauref16_Wide.j0]
    rw [if_neg hw, decide_eq_true hw2, if_pos rfl]
  rw [if_neg (by omega)]
  obtain ⟨m, rfl⟩ : ∃ m : Nat, width = m + 1 := ⟨width.toNat - 1, by omega⟩
  have e : ((m : Int) + 1).toNat = m + 1 := by omega
  refine Ev.step (fun k => ?_) (ev_eq (rwide_l0 n ((m : Int) + 1) (by omega) (by omega) m n ⟨#[]⟩ (by omega) h0 h1 (by show 0 + m ≤ 10000; omega)) ?_)
  · simp only [portmanteauref16_Wide.f, portmanteauref16_Wide.j0]
    rw [if_neg hw, decide_eq_false hw2, if_neg (by decide)]
    congr 1
    omega
  · rw [ba_nil, show (⟨#[128]⟩ : ByteArray) = strOfNums [128] by rfl, show (⟨#[255]⟩ : ByteArray) = strOfNums [255] by rfl, str_append, str_append]
    simp [e]
/-- What the document's Field answers. -/
def rfieldOf (n width : Int) (wide : Bool) : ByteArray × Bool :=
  if (roctalOf n width).2 = true then ((roctalOf n width).1, true) else if wide = true then (if (rwideOf n width).2 = true then ((rwideOf n width).1, true) else (⟨#[]⟩, false)) else (⟨#[]⟩, false)
theorem rfield_ev (n width : Int) (wide : Bool) (h0 : -9223372036854775808 ≤ n) (h1 : n ≤ 9223372036854775807) : Ev (fun k => portmanteauref16_Field.f k n width wide) (rfieldOf n width wide) := by
  have h := roctal_ev n width h1
  have h2 := rwide_ev n width h0 h1
  unfold rfieldOf
  refine Ev.bind h ?_
  generalize roctalOf n width = p
  generalize rwideOf n width = q at h2
  obtain ⟨l, b⟩ := p
  obtain ⟨l2, b2⟩ := q
  cases b
  · cases wide
    · exact Ev.step1 fun k => by simp [portmanteauref16_Field.j0]
    · refine Ev.step (f := fun k => (portmanteauref16_Wide.f k n width).bind _) (fun k => by simp only [portmanteauref16_Field.j0]; rfl) (Ev.bind h2 ?_)
      cases b2
      · exact Ev.now _
      · exact Ev.now _
  · exact Ev.step1 fun k => by simp [portmanteauref16_Field.j0]
end Go.Proofs.YtbaonnlpphpakaaDoor.X
