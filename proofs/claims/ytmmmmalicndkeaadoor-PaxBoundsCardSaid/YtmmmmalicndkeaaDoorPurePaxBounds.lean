/- PaxBounds in plain words: it answers true, for every number. -/
import Derived.Test.YtmmmmalicndkeaaDoorX37
import Derived.Test.YtmmmmalicndkeaaDoorPaxAwake
import Derived.Test.YtmmmmalicndkeaaDoorBits
namespace Go.Proofs.YtmmmmalicndkeaaDoor.X
open Go.RowKit Go.Proofs.YtmmmmalicndkeaaDoorW.PrintWords Go.Proofs.YtmmmmalicndkeaaDoorW.PrintLast Go.Proofs.YtmmmmalicndkeaaDoorW.PrintMore
set_option linter.unusedVariables false
set_option linter.unusedSimpArgs false

theorem rep_I (n : Nat) : List.replicate n (120 : Int) = I (List.replicate n 120) := by simp [I]
theorem rep_no (c : UInt8) (hc : c ≠ 120) (n : Nat) : (List.replicate n (120 : UInt8)).contains c = false := by
  rw [Bool.eq_false_iff]
  intro h
  exact hc (List.eq_of_mem_replicate (List.contains_iff_mem.1 h))
def kvN (n : Nat) : KV := ⟨(⟨#[107]⟩ : ByteArray), (⟨(List.replicate n 120).toArray⟩ : ByteArray)⟩
theorem kvN_ok (n : Nat) : kvOk (kvN n).f0.data.toList (kvN n).f1.data.toList = true := by
  have e : (kvN n).f1.data.toList = List.replicate n 120 := by simp [kvN]
  rw [e]
  unfold kvOk
  rw [rep_no 0 (by decide) n]
  rfl
theorem nd5 (n : Nat) (h1 : 10000 ≤ n) (h2 : n < 100000) : Lib.nDigits n = 5 := Lib.nDigits_unique 4 n h1 h2
theorem kvN_len (n : Nat) (h1 : 65510 ≤ n) (h2 : n ≤ 65541) : (recL (kvN n).f0.data.toList (kvN n).f1.data.toList).length = n + 9 := by
  have e : (kvN n).f1.data.toList = List.replicate n 120 := by simp [kvN]
  have e0 : (kvN n).f0.data.toList = [107] := rfl
  have l1 : ([107] : List UInt8).length = 1 := rfl
  have l2 : (List.replicate n (120 : UInt8)).length = n := by simp
  rw [e, e0]
  obtain ⟨a, b, c⟩ := recL_len [107] (List.replicate n 120) (by omega)
  obtain ⟨g1, g2, g3⟩ := recN_spec (([107] : List UInt8).length + (List.replicate n (120 : UInt8)).length + 3) (by omega)
  have h5 := nd5 (recN (([107] : List UInt8).length + (List.replicate n (120 : UInt8)).length + 3)) (by omega) (by omega)
  omega
theorem paxbounds_tail (n : Nat) (h1 : 65510 ≤ n) (h2 : n ≤ 65541) : Ev (fun k => portmanteaulaw18_PaxBounds.l0 k (n : Int) (List.replicate n 120) (n : Int) (n : Int)) true := by
  have hlen := kvN_len n h1 h2
  have hok := kvN_ok n
  have hcat : catL [kvN n] = recL (kvN n).f0.data.toList (kvN n).f1.data.toList := by simp [catL]
  have hsz : (kvN n).f1.size = n := by simp [kvN, ByteArray.size]
  have hsz0 : (kvN n).f0.size = 1 := rfl
  have henc := encode_ev [kvN n] (by simp) (by simp only [tot]; omega)
  have heo : encOf [kvN n] = if n + 9 > 65536 then ([], false) else (I (catL [kvN n]), true) := by
    unfold encOf
    rw [encL_cat [kvN n] (by intro x hx; rw [List.mem_singleton.1 hx]; exact hok)]
    simp only [hcat, hlen]
  rw [heo] at henc
  have ew : Aside0 (wrap64 ((n : Int) + 9) = ((n + 9 : Nat) : Int)) := ⟨by rw [w64 (by omega) (by omega)]; simp⟩
  refine Ev.succ ?_
  simp only [portmanteaulaw18_PaxBounds.l0]
  refine Ev.neg (by omega) ?_
  rw [rep_I, str_I, ew.out]
  refine Ev.bind henc ?_
  by_cases hb : n + 9 > 65536
  · rw [if_pos hb]
    dsimp only
    rw [decide_eq_false (show ¬ ((n + 9 : Nat) : Int) ≤ 65536 by omega)]
    refine Ev.neg (by decide) (Ev.neg (by decide) ?_)
    refine Ev.succ ?_
    simp only [portmanteaulaw18_PaxBounds.j1]
    refine Ev.neg (by decide) (Ev.neg (by decide) (Ev.pos rfl ?_))
    exact Ev.bind awake18 (Ev.now _)
  · rw [if_neg hb]
    have hdec := decode_ev [kvN n] (by intro x hx; rw [List.mem_singleton.1 hx]; exact hok) (by intro x hx; rw [List.mem_singleton.1 hx]; omega) (by rw [hcat, hlen]; omega) (by simp)
    have hli : (I (catL [kvN n])).length = n + 9 := by rw [I_len, hcat, hlen]
    generalize I (catL [kvN n]) = L at hdec hli ⊢
    dsimp only
    rw [decide_eq_true (show ((n + 9 : Nat) : Int) ≤ 65536 by omega)]
    refine Ev.neg (by decide) (Ev.pos rfl ?_)
    have hne : (((L.length : Int)) != ((n + 9 : Nat) : Int)) = false := by rw [hli]; simp
    rw [hne]
    refine Ev.succ ?_
    simp only [portmanteaulaw18_PaxBounds.j1]
    refine Ev.neg (by decide) (Ev.pos (by first | trivial | rfl) ?_)
    refine Ev.bind hdec ?_
    refine Ev.bind (Ev.now _) (Ev.pos (by simp only [List.length_nil]; omega) ?_)
    refine Ev.bind (Ev.now _) ?_
    rw [List.nil_append]
    have ew2 : Aside0 (wrap64 (65537 - ((n + 9 : Nat) : Int)) = ((65537 - (n + 9) : Nat) : Int)) := ⟨by rw [w64 (by omega) (by omega)]; omega⟩
    rw [ew2.out]
    have ew3 : (((65537 - (n + 9) : Nat) : Int)).toNat = 65537 - (n + 9) := by omega
    rw [ew3]
    refine Ev.pos (by omega) (Ev.pos (by omega) ?_)
    have hbig : Ev (fun k => pax_Decode.f k (L ++ List.replicate (65537 - (n + 9)) 0)) (([] : List KV), 17) := by
      have hl : (L ++ List.replicate (65537 - (n + 9)) (0 : Int)).length = 65537 := by rw [List.length_append, List.length_replicate]; omega
      unfold pax_Decode.f
      rw [hl]
      exact Ev.pos (by decide) (Ev.now _)
    refine Ev.bind hbig ?_
    dsimp only
    refine Ev.pos rfl (Ev.pos rfl (Ev.pos (by simp) (Ev.pos ?_ (Ev.pos rfl ?_))))
    · show (((kvN n).f1).size : Int) = (n : Int)
      rw [hsz]
    · exact Ev.bind awake18 (Ev.now _)
theorem paxbounds_l0 (n : Nat) (h1 : 65510 ≤ n) (h2 : n ≤ 65541) : ∀ (d i : Nat), i + d = n →
    Ev (fun k => portmanteaulaw18_PaxBounds.l0 k (n : Int) (List.replicate i 120 ++ List.replicate d 0) (n : Int) (i : Int)) true := by
  intro d
  induction d with
  | zero =>
    intro i hi
    obtain rfl : i = n := by omega
    rw [List.replicate_zero, List.append_nil]
    exact paxbounds_tail i h1 h2
  | succ d ih =>
    intro i hi
    refine Ev.succ ?_
    simp only [portmanteaulaw18_PaxBounds.l0]
    have hl : (List.replicate i (120 : Int) ++ List.replicate (d + 1) (0 : Int)).length = n := by simp; omega
    refine Ev.pos (by omega) (Ev.pos (by omega) (Ev.pos (by omega) ?_))
    have e1 : ((i : Int)).toNat = i := by omega
    have e2 : wrap64 ((i : Int) + 1) = ((i + 1 : Nat) : Int) := by rw [w64 (by omega) (by omega)]; simp
    have e3 : (List.replicate i (120 : Int) ++ List.replicate (d + 1) (0 : Int)).set i 120 = List.replicate (i + 1) 120 ++ List.replicate d 0 := by
      rw [List.replicate_succ, set_at _ _ _ _ _ (by simp), List.replicate_succ', List.append_assoc]
      rfl
    rw [e1, e2, e3]
    exact ih (i + 1) (by omega)
theorem PaxBounds : portmanteaulaw18_PaxBounds.Pure := by
  intro a0 hw
  obtain ⟨n, hn, h1, h2⟩ : ∃ n : Nat, wrap64 (bits .and .i64 a0 31 + 65510) = (n : Int) ∧ 65510 ≤ n ∧ n ≤ 65541 := by
    rw [and31, w64 (by omega) (by omega)]
    exact ⟨(a0 % 32 + 65510).toNat, by omega, by omega, by omega⟩
  have e : ((n : Int)).toNat = n := by omega
  refine Ev.rounds (g := fun k => portmanteaulaw18_PaxBounds.f k a0) ?_
  unfold portmanteaulaw18_PaxBounds.f
  rw [hn, e]
  refine Ev.pos (by omega) (Ev.pos (by omega) ?_)
  refine Ev.bind (Ev.now _) ?_
  rw [List.length_replicate]
  exact paxbounds_l0 n h1 h2 n 0 (by omega)
end Go.Proofs.YtmmmmalicndkeaaDoor.X
