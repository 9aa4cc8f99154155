/- Proved here, plain arithmetic: headers ('mayp', 'wordp', 'putp') and words ('takep') answer each other; no condition but those that each theorem writes out. -/
import Derived.Test.YtgjgdgdckmgfmaaHand
namespace Go.Proofs.Ytgjgdgdckmgfmaa.Hand
open Go.RowKit

theorem bit_bd (b : Bool) (n : Int) : (bit b n = 0 ∧ b = false) ∨ (bit b n = n ∧ b = true) := by
  cases b
  · exact Or.inl ⟨rfl, rfl⟩
  · exact Or.inr ⟨rfl, rfl⟩
theorem wordp_parts {a0 a1 : Int} {a2 a3 : Bool} {a4 a5 a6 : Int} (h : mayp a0 a1 a2 a3 a4 a5 a6 = true) (z : 0 ≤ a0 ∧ 0 ≤ a1 ∧ 0 ≤ a4 ∧ 0 ≤ a5 ∧ 0 ≤ a6) :
    0 ≤ wordp a0 a1 a2 a3 a4 a5 a6 ∧ wordp a0 a1 a2 a3 a4 a5 a6 < 18446744073709551616 ∧
    wordp a0 a1 a2 a3 a4 a5 a6 % 4 = a0 ∧ wordp a0 a1 a2 a3 a4 a5 a6 / 4 % 2 = a1 ∧ (wordp a0 a1 a2 a3 a4 a5 a6 / 8 % 2 == 1) = a2 ∧ (wordp a0 a1 a2 a3 a4 a5 a6 / 16 % 2 == 1) = a3 ∧
    wordp a0 a1 a2 a3 a4 a5 a6 / 32 % 64 = a4 ∧ wordp a0 a1 a2 a3 a4 a5 a6 / 2048 % 128 = a5 ∧ wordp a0 a1 a2 a3 a4 a5 a6 / 262144 % 128 = a6 := by
  obtain ⟨b0, b1, b4, b6, b5⟩ := mayp_bd h
  obtain ⟨z0, z1, z4, z5, z6⟩ := z
  have k2 := bit_bd a2 8
  have k3 := bit_bd a3 16
  unfold wordp
  generalize hb2 : bit a2 8 = c2 at k2
  generalize hb3 : bit a3 16 = c3 at k3
  refine ⟨by omega, by omega, by omega, by omega, ?_, ?_, by omega, by omega, by omega⟩
  · rcases k2 with ⟨e, rfl⟩ | ⟨e, rfl⟩
    · exact beq_eq_false_iff_ne.mpr (by omega)
    · exact beq_iff_eq.mpr (by omega)
  · rcases k3 with ⟨e, rfl⟩ | ⟨e, rfl⟩
    · exact beq_eq_false_iff_ne.mpr (by omega)
    · exact beq_iff_eq.mpr (by omega)
theorem putp_ok {a0 a1 : Int} {a2 a3 : Bool} {a4 a5 a6 : Int} (h : mayp a0 a1 a2 a3 a4 a5 a6 = true) (z : 0 ≤ a0 ∧ 0 ≤ a1 ∧ 0 ≤ a4 ∧ 0 ≤ a5 ∧ 0 ≤ a6) : putp a0 a1 a2 a3 a4 a5 a6 = some (wordp a0 a1 a2 a3 a4 a5 a6, 0) := by
  unfold putp; rw [if_pos h, if_pos z]
theorem putp_bad {a0 a1 : Int} {a2 a3 : Bool} {a4 a5 a6 : Int} (h : mayp a0 a1 a2 a3 a4 a5 a6 = false) : putp a0 a1 a2 a3 a4 a5 a6 = some (0, 2) := by
  unfold putp; rw [if_neg (by rw [h]; decide)]
theorem parts_nonneg (x : Int) : 0 ≤ x % 4 ∧ 0 ≤ x / 4 % 2 ∧ 0 ≤ x / 32 % 64 ∧ 0 ≤ x / 2048 % 128 ∧ 0 ≤ x / 262144 % 128 := by omega
def mayx (x : Int) : Bool := mayp (x % 4) (x / 4 % 2) (x / 8 % 2 == 1) (x / 16 % 2 == 1) (x / 32 % 64) (x / 2048 % 128) (x / 262144 % 128)
def wordx (x : Int) : Int := wordp (x % 4) (x / 4 % 2) (x / 8 % 2 == 1) (x / 16 % 2 == 1) (x / 32 % 64) (x / 2048 % 128) (x / 262144 % 128)
theorem takep_eq (x : Int) (h : 0 ≤ x ∧ x < 18446744073709551616) : takep x = if mayx x = true ∧ wordx x = x then some (x % 4, x / 4 % 2, x / 8 % 2 == 1, x / 16 % 2 == 1, x / 32 % 64, x / 2048 % 128, x / 262144 % 128, 0) else some (0, 0, false, false, 0, 0, 0, 3) := by
  unfold takep
  rw [if_pos h]
  by_cases hm : mayx x = true
  · have e := putp_ok hm (parts_nonneg x)
    rw [e, Option.bind_some]
    by_cases hw : wordx x = x
    · rw [if_pos ⟨rfl, hw⟩, if_pos ⟨hm, hw⟩]
    · rw [if_neg (fun c => hw c.2), if_neg (fun c => hw c.2)]
  · have hf : mayx x = false := by simpa using hm
    have e := putp_bad hf
    rw [e, Option.bind_some, if_neg (fun c => absurd c.1 (by decide)), if_neg (fun c => hm c.1)]
theorem takep_word {a0 a1 : Int} {a2 a3 : Bool} {a4 a5 a6 : Int} (h : mayp a0 a1 a2 a3 a4 a5 a6 = true) (z : 0 ≤ a0 ∧ 0 ≤ a1 ∧ 0 ≤ a4 ∧ 0 ≤ a5 ∧ 0 ≤ a6) : takep (wordp a0 a1 a2 a3 a4 a5 a6) = some (a0, a1, a2, a3, a4, a5, a6, 0) := by
  obtain ⟨q0, q1, e0, e1, e2, e3, e4, e5, e6⟩ := wordp_parts h z
  rw [takep_eq _ ⟨q0, q1⟩]
  have hm : mayx (wordp a0 a1 a2 a3 a4 a5 a6) = true := by unfold mayx; rw [e0, e1, e2, e3, e4, e5, e6]; exact h
  have hw : wordx (wordp a0 a1 a2 a3 a4 a5 a6) = wordp a0 a1 a2 a3 a4 a5 a6 := by unfold wordx; rw [e0, e1, e2, e3, e4, e5, e6]
  rw [if_pos ⟨hm, hw⟩, e0, e1, e2, e3, e4, e5, e6]
theorem takep_wake : takep 526370 = some (2, 0, false, false, 1, 1, 2, 0) := by
  rw [show (526370 : Int) = wordp 2 0 false false 1 1 2 by decide +kernel]
  exact takep_word (by decide +kernel) (by decide)
theorem put_wake1 : putp 2 0 false false 1 1 2 = some (526370, 0) := by decide +kernel
theorem put_wake2 : putp 3 1 true false 0 0 0 = some (15, 0) := by decide +kernel
theorem put_zero : putp 0 0 false false 0 0 0 = some (0, 0) := by decide +kernel
end Go.Proofs.Ytgjgdgdckmgfmaa.Hand
