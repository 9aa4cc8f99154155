/- Proved here, plain arithmetic: entries ('mayp', 'wordp', 'putp') and words ('takep') answer each other; no condition but those that each theorem writes out. -/
import Derived.Test.YtdnljkjmcidlmaaHand
namespace Go.Proofs.Ytdnljkjmcidlmaa.Hand
open Go.RowKit

theorem wordp_parts {a0 a1 a2 a3 : Int} (h : mayp a0 a1 a2 a3 = true) (z : 0 ≤ a0 ∧ 0 ≤ a1 ∧ 0 ≤ a2 ∧ 0 ≤ a3) :
    0 ≤ wordp a0 a1 a2 a3 ∧ wordp a0 a1 a2 a3 < 18446744073709551616 ∧
    wordp a0 a1 a2 a3 % 8 = a0 ∧ wordp a0 a1 a2 a3 / 8 % 4 = a1 ∧ wordp a0 a1 a2 a3 / 32 % 4 = a2 ∧ wordp a0 a1 a2 a3 / 128 % 64 = a3 := by
  obtain ⟨b0, b1, b3, b2⟩ := mayp_bd h
  obtain ⟨z0, z1, z2, z3⟩ := z
  unfold wordp
  refine ⟨by omega, by omega, by omega, by omega, by omega, by omega⟩
theorem putp_ok {a0 a1 a2 a3 : Int} (h : mayp a0 a1 a2 a3 = true) (z : 0 ≤ a0 ∧ 0 ≤ a1 ∧ 0 ≤ a2 ∧ 0 ≤ a3) : putp a0 a1 a2 a3 = some (wordp a0 a1 a2 a3, 0) := by
  unfold putp; rw [if_pos h, if_pos z]
theorem putp_bad {a0 a1 a2 a3 : Int} (h : mayp a0 a1 a2 a3 = false) : putp a0 a1 a2 a3 = some (0, 2) := by
  unfold putp; rw [if_neg (by rw [h]; decide)]
theorem parts_nonneg (x : Int) : 0 ≤ x % 8 ∧ 0 ≤ x / 8 % 4 ∧ 0 ≤ x / 32 % 4 ∧ 0 ≤ x / 128 % 64 := by omega
def mayx (x : Int) : Bool := mayp (x % 8) (x / 8 % 4) (x / 32 % 4) (x / 128 % 64)
def wordx (x : Int) : Int := wordp (x % 8) (x / 8 % 4) (x / 32 % 4) (x / 128 % 64)
theorem takep_eq (x : Int) (h : 0 ≤ x ∧ x < 18446744073709551616) : takep x = if mayx x = true ∧ wordx x = x then some (x % 8, x / 8 % 4, x / 32 % 4, x / 128 % 64, 0) else some (0, 0, 0, 0, 3) := by
  unfold takep
  rw [if_pos h]
  by_cases hm : mayx x = true
  · have e := putp_ok hm (parts_nonneg x)
    rw [e, Option.bind_some]
    by_cases hw : wordx x = x
    · rw [if_pos ⟨rfl, hw⟩, if_pos ⟨hm, hw⟩]
    · rw [if_neg (fun c => hw c.2), if_neg (fun c => hw c.2)]
  · have hf : mayx x = false := by simpa using hm
    have e := putp_bad hf
    rw [e, Option.bind_some, if_neg (fun c => absurd c.1 (by decide)), if_neg (fun c => hm c.1)]
theorem takep_word {a0 a1 a2 a3 : Int} (h : mayp a0 a1 a2 a3 = true) (z : 0 ≤ a0 ∧ 0 ≤ a1 ∧ 0 ≤ a2 ∧ 0 ≤ a3) : takep (wordp a0 a1 a2 a3) = some (a0, a1, a2, a3, 0) := by
  obtain ⟨q0, q1, e0, e1, e2, e3⟩ := wordp_parts h z
  rw [takep_eq _ ⟨q0, q1⟩]
  have hm : mayx (wordp a0 a1 a2 a3) = true := by unfold mayx; rw [e0, e1, e2, e3]; exact h
  have hw : wordx (wordp a0 a1 a2 a3) = wordp a0 a1 a2 a3 := by unfold wordx; rw [e0, e1, e2, e3]
  rw [if_pos ⟨hm, hw⟩, e0, e1, e2, e3]
theorem put_wake1 : putp 1 2 0 3 = some (401, 0) := by decide +kernel
theorem put_wake2 : putp 2 0 2 1 = some (194, 0) := by decide +kernel
theorem takep_wake : takep 194 = some (2, 0, 2, 1, 0) := by
  rw [show (194 : Int) = wordp 2 0 2 1 by decide +kernel]
  exact takep_word (by decide +kernel) (by decide)
theorem mayx_zero : mayx 0 = true ∧ wordx 0 = 0 := by decide +kernel
/-- What may be, with numbers from 0 on: as the document has it. -/
theorem mayp_run {a0 a1 a2 a3 : Int} (h : mayp a0 a1 a2 a3 = true) (h2 : 0 ≤ a2) : (a0 = 2 ∨ a0 = 5 → 1 ≤ a2 ∧ a2 ≤ 3) := by
  intro c
  have hb := mayp_bd h
  unfold mayp at h
  rw [if_neg (by omega)] at h
  by_cases z : a2 = 0
  · rw [if_pos ⟨c, z⟩] at h; cases h
  · omega
end Go.Proofs.Ytdnljkjmcidlmaa.Hand
