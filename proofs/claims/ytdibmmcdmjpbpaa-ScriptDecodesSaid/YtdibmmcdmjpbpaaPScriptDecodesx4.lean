/- Proved here: of Go functions of this seat, what each call answers, as a Lean function of the same answers ('.f', '.calls'), or (the text Law..) the statement itself out of the text Pure..; no condition but those that each theorem writes out. Laid by a program of this session over the kit's print; by hand: demesne/script.Args, (demesne/script.Entry).May, demesne/script.Encode, demesne/script.Decode. -/
import Derived.Test.YtdibmmcdmjpbpaaPScriptDecodesx0
import Derived.Test.YtdibmmcdmjpbpaaPScriptDecodesx2
import Derived.Test.YtdibmmcdmjpbpaaPScriptDecodesx3
namespace Go.Proofs.Ytdibmmcdmjpbpaa.PScriptDecodes
open Go.RowKit Go.Proofs.YtdibmmcdmjpbpaaW.PrintWords Go.Proofs.YtdibmmcdmjpbpaaW.PrintLast Go.Proofs.YtdibmmcdmjpbpaaW.PrintMore
attribute [local go_sem] max2_int min2_int max_two min_two max_three min_three max_four min_four   -- for this text's walks alone
set_option linter.unusedVariables false
set_option linter.unusedSimpArgs false

/-! ### demesneref11_Decode: function 15 -/
mutual
def demesneref11_Decode.l0 : Nat → ByteArray → List (S31) → Int → Option ((List (S31)) × Int)
  | 0, _, _, _ => none
  | k + 1, x0, x4, x5 => if x5 < (x0.size : Int) then (if (wrap64 (x5 + 1)) ≥ (x0.size : Int) then (some (([] : List (S31)), 3)) else (if 0 ≤ x5 then (if 0 ≤ (wrap64 (x5 + 1)) then (if (wrap64 (x5 + 1)) < (x0.size : Int) then ((demesneref11_Args.f (bt x0 (wrap64 (x5 + 1)))).bind fun t121 => (if (wrap64 ((wrap64 (x5 + 2)) + t121)) > (x0.size : Int) then (some (([] : List (S31)), 3)) else (if t121 > 0 then (if 0 ≤ (wrap64 (x5 + 2)) then (if (wrap64 (x5 + 2)) < (x0.size : Int) then (demesneref11_Decode.j1 k x0 x4 x5 t121 (bt x0 x5) (bt x0 (wrap64 (x5 + 1))) (bt x0 (wrap64 (x5 + 2))) 0 0) else (none)) else (none)) else (demesneref11_Decode.j1 k x0 x4 x5 t121 (bt x0 x5) (bt x0 (wrap64 (x5 + 1))) 0 0 0)))) else (none)) else (none)) else (none))) else (some (x4, 0))
def demesneref11_Decode.j1 : Nat → ByteArray → List (S31) → Int → Int → Int → Int → Int → Int → Int → Option ((List (S31)) × Int)
  | 0, _, _, _, _, _, _, _, _, _ => none
  | k + 1, x0, x4, x5, x7, x121000, x121001, x121002, x121003, x121004 => if x7 > 1 then (if 0 ≤ (wrap64 (x5 + 3)) then (if (wrap64 (x5 + 3)) < (x0.size : Int) then (demesneref11_Decode.j2 k x0 x4 x5 x7 x121000 x121001 x121002 (bt x0 (wrap64 (x5 + 3))) x121004) else (none)) else (none)) else (demesneref11_Decode.j2 k x0 x4 x5 x7 x121000 x121001 x121002 x121003 x121004)
def demesneref11_Decode.j2 : Nat → ByteArray → List (S31) → Int → Int → Int → Int → Int → Int → Int → Option ((List (S31)) × Int)
  | 0, _, _, _, _, _, _, _, _, _ => none
  | k + 1, x0, x4, x5, x7, x121000, x121001, x121002, x121003, x121004 => if x7 > 2 then (if 0 ≤ (wrap64 (x5 + 4)) then (if (wrap64 (x5 + 4)) < (x0.size : Int) then ((demesneref11_May.f x121000 x121001 x121002 x121003 (bt x0 (wrap64 (x5 + 4)))).bind fun t122 => (if t122 = true then (if x4.length < 28147497671065 then (demesneref11_Decode.l0 k x0 (x4 ++ [(⟨x121000, x121001, x121002, x121003, bt x0 (wrap64 (x5 + 4))⟩ : S31)]) (wrap64 ((wrap64 (x5 + 2)) + x7))) else (none)) else (some (([] : List (S31)), 3)))) else (none)) else (none)) else ((demesneref11_May.f x121000 x121001 x121002 x121003 x121004).bind fun t126 => (if t126 = true then (if x4.length < 28147497671065 then (demesneref11_Decode.l0 k x0 (x4 ++ [(⟨x121000, x121001, x121002, x121003, x121004⟩ : S31)]) (wrap64 ((wrap64 (x5 + 2)) + x7))) else (none)) else (some (([] : List (S31)), 3))))
end
def demesneref11_Decode.f (k : Nat) (a0 : ByteArray) : Option ((List (S31)) × Int) := if (a0.size : Int) > 4000 then (some (([] : List (S31)), 8)) else (demesneref11_Decode.l0 k a0 ([] : List (S31)) 0)
theorem demesneref11_Decode.mono_l : ∀ k, (∀ y0 y1 y2, LeO (demesneref11_Decode.l0 k y0 y1 y2) (demesneref11_Decode.l0 (k + 1) y0 y1 y2)) ∧ (∀ y0 y1 y2 y3 y4 y5 y6 y7 y8, LeO (demesneref11_Decode.j1 k y0 y1 y2 y3 y4 y5 y6 y7 y8) (demesneref11_Decode.j1 (k + 1) y0 y1 y2 y3 y4 y5 y6 y7 y8)) ∧ (∀ y0 y1 y2 y3 y4 y5 y6 y7 y8, LeO (demesneref11_Decode.j2 k y0 y1 y2 y3 y4 y5 y6 y7 y8) (demesneref11_Decode.j2 (k + 1) y0 y1 y2 y3 y4 y5 y6 y7 y8))
  | 0 => ⟨fun _ _ _ r h => by simp [demesneref11_Decode.l0] at h, fun _ _ _ _ _ _ _ _ _ r h => by simp [demesneref11_Decode.j1] at h, fun _ _ _ _ _ _ _ _ _ r h => by simp [demesneref11_Decode.j2] at h⟩
  | k + 1 => by
    obtain ⟨ih0, ih1, ih2⟩ := demesneref11_Decode.mono_l k
    refine ⟨?_, ?_, ?_⟩
    · intro y0 y1 y2
      unfold demesneref11_Decode.l0
      repeat' first
      | (with_reducible exact ih0 _ _ _)
      | (with_reducible exact ih1 _ _ _ _ _ _ _ _ _)
      | (with_reducible exact ih2 _ _ _ _ _ _ _ _ _)
      | (with_reducible exact LeO.refl _)
      | (with_reducible exact LeO.none _)
      | (with_reducible refine LeO.ite ?_ ?_)
      | (with_reducible refine LeO.bind ?_ (fun _ => ?_))
      | exact ih0 _ _ _
      | exact ih1 _ _ _ _ _ _ _ _ _
      | exact ih2 _ _ _ _ _ _ _ _ _
      | exact LeO.none _
      | refine LeO.ite ?_ ?_
      | refine LeO.bind ?_ (fun _ => ?_)
    · intro y0 y1 y2 y3 y4 y5 y6 y7 y8
      unfold demesneref11_Decode.j1
      repeat' first
      | (with_reducible exact ih0 _ _ _)
      | (with_reducible exact ih1 _ _ _ _ _ _ _ _ _)
      | (with_reducible exact ih2 _ _ _ _ _ _ _ _ _)
      | (with_reducible exact LeO.refl _)
      | (with_reducible exact LeO.none _)
      | (with_reducible refine LeO.ite ?_ ?_)
      | (with_reducible refine LeO.bind ?_ (fun _ => ?_))
      | exact ih0 _ _ _
      | exact ih1 _ _ _ _ _ _ _ _ _
      | exact ih2 _ _ _ _ _ _ _ _ _
      | exact LeO.none _
      | refine LeO.ite ?_ ?_
      | refine LeO.bind ?_ (fun _ => ?_)
    · intro y0 y1 y2 y3 y4 y5 y6 y7 y8
      unfold demesneref11_Decode.j2
      repeat' first
      | (with_reducible exact ih0 _ _ _)
      | (with_reducible exact ih1 _ _ _ _ _ _ _ _ _)
      | (with_reducible exact ih2 _ _ _ _ _ _ _ _ _)
      | (with_reducible exact LeO.refl _)
      | (with_reducible exact LeO.none _)
      | (with_reducible refine LeO.ite ?_ ?_)
      | (with_reducible refine LeO.bind ?_ (fun _ => ?_))
      | exact ih0 _ _ _
      | exact ih1 _ _ _ _ _ _ _ _ _
      | exact ih2 _ _ _ _ _ _ _ _ _
      | exact LeO.none _
      | refine LeO.ite ?_ ?_
      | refine LeO.bind ?_ (fun _ => ?_)
theorem demesneref11_Decode.mono : ∀ a0 k, LeO (demesneref11_Decode.f k a0) (demesneref11_Decode.f (k + 1) a0) := by
  intro a0 k
  obtain ⟨ih0, ih1, ih2⟩ := demesneref11_Decode.mono_l k
  unfold demesneref11_Decode.f
  repeat' first
      | (with_reducible exact ih0 _ _ _)
      | (with_reducible exact ih1 _ _ _ _ _ _ _ _ _)
      | (with_reducible exact ih2 _ _ _ _ _ _ _ _ _)
      | (with_reducible exact LeO.refl _)
      | (with_reducible exact LeO.none _)
      | (with_reducible refine LeO.ite ?_ ?_)
      | (with_reducible refine LeO.bind ?_ (fun _ => ?_))
      | exact ih0 _ _ _
      | exact ih1 _ _ _ _ _ _ _ _ _
      | exact ih2 _ _ _ _ _ _ _ _ _
      | exact LeO.none _
      | refine LeO.ite ?_ ?_
      | refine LeO.bind ?_ (fun _ => ?_)
def demesneref11_Decode.T8 : Bool × List (List Nat × List Nat) := (true, [([], []), ([], []), ([0, 1], [0, 1]), ([], []), ([], []), ([4], [4]), ([3, 5], [3, 5]), ([2, 6], [2, 6]), ([], []), ([8, 7, 0, 1, 2, 3, 4, 5, 6, 7, 8], [7, 8])])
def demesneref11_Decode.B8 : List Nat := [0, 0, 3, 0, 0, 16, 56, 127, 0, 511]
theorem demesneref11_Decode.tab8 : rtab .any (opsOf Try.f15 8) = demesneref11_Decode.T8 := by kernel_rfl
theorem demesneref11_Decode.bits8 : waitsOk demesneref11_Decode.T8.2 demesneref11_Decode.B8 = true := by kernel_rfl
set_option maxHeartbeats 8000000 in
set_option maxRecDepth 100000 in
theorem demesneref11_Decode.calls (k : Nat) (a0 : ByteArray) (r1 : List (S31)) (r2 : Int) (w : World) (h : demesneref11_Decode.f k a0 = some (r1, r2)) :
    Calls Try.prog 15 #[.string a0] w fun e w' => ∃ v0_ : Value, e = .returned (.tuple #[v0_, .int .i64 r2]) ∧ Kd.R k31 31 w' w.heap.size (fun _ => True) v0_ r1 ∧ Below w.heap.size w w' := by
  have hu31 := Try.underlying31
  have HB := Aside0.mk (Below.refl w.heap.size w)
  have H : (if (a0.size : Int) > 4000 then (some (([] : List (S31)), 8)) else (demesneref11_Decode.l0 k a0 ([] : List (S31)) 0)) = some (r1, r2) := h
  clear h
  by_cases c2 : (a0.size : Int) > 4000
  · rw [if_pos c2] at H
    have c2b0 : decide (4000 < (a0.size : Int)) = true := decide_eq_true c2
    have c2b1 : decide (4000 < a0.size) = true := decide_eq_true (by omega)
    clear c2
    simp only [Option.some.injEq, Prod.mk.injEq] at H
    obtain ⟨rfl, rfl⟩ := H
    go_enter Try.func15, Try.ntmps15
    go_wp2
    go_ret2
    exact ⟨_, by first | rfl | (simp [errW_none, errW_some] <;> rfl) | (simp [*, errW_none, errW_some] <;> rfl), by first | exact Kd.R_nil _ _ _ _ _ | exact Kd.N_nil _ _ _ _ _ | exact Kd.V_nil _ _ _ _ _ | exact Kd.Q_nil _ _ _ _ _ | exact Kd.S_nil _ _ _ _ _, by repeat (first | (with_reducible first | exact HB.out | apply below_alloc | apply pw_below_drewN | apply below_drew1) | exact HB.out)⟩
  · rw [if_neg c2] at H
    have c2b0 : decide (4000 < (a0.size : Int)) = false := decide_eq_false c2
    have c2b1 : decide (4000 < a0.size) = false := decide_eq_false (by omega)
    clear c2
    have H' := Aside0.mk H
    clear H
    go_enter Try.func15, Try.ntmps15
    go_wp2
    go_loopg [4, 5] k (fun kq v4 v5 w' => ∃ (x4_1 : List (S31)) (x5_1 : Int), v5 = .int .i64 x5_1 ∧ Aside0 (demesneref11_Decode.l0 kq a0 x4_1 x5_1 = some (r1, r2)) ∧ Aside0 (kq ≤ k) ∧ Aside0 (Kd.R k31 31 w' w.heap.size (fun _ => True) v4 x4_1) ∧ Aside0 (Below w.heap.size w w'))
    case atStart => exact ⟨(([] : List (S31))), (0), (by first | rfl | (simp; done) | (simp [*]; done)), H', ⟨Nat.le_refl _⟩, ⟨by first | exact Kd.R_nil _ _ _ _ _ | exact Kd.N_nil _ _ _ _ _ | exact Kd.V_nil _ _ _ _ _ | exact Kd.Q_nil _ _ _ _ _ | exact Kd.S_nil _ _ _ _ _⟩, ⟨by repeat (first | (with_reducible first | exact HB.out | apply below_alloc | apply pw_below_drewN | apply below_drew1) | exact HB.out)⟩⟩
    case round =>
      clear H'
      try clear c1
      try clear c2
      try clear c2b0
      try clear c2b1
      try clear p2
      obtain ⟨x4_1, x5_1, rfl, HA, HK1, HO_4, HB⟩ := hrel
      cases gk with
      | zero => exact absurd HA.out (by simp [demesneref11_Decode.l0])
      | succ k1 =>
        have H := HA.out
        clear HA
        simp only [demesneref11_Decode.l0] at H
        by_cases c3 : x5_1 < (a0.size : Int)
        · rw [if_pos c3] at H
          have c3b0 : decide (x5_1 < (a0.size : Int)) = true := decide_eq_true c3
          clear c3
          by_cases c4 : (wrap64 (x5_1 + 1)) ≥ (a0.size : Int)
          · rw [if_pos c4] at H
            have c4b0 : decide ((a0.size : Int) ≤ (wrap64 (x5_1 + 1))) = true := decide_eq_true c4
            clear c4
            simp only [Option.some.injEq, Prod.mk.injEq] at H
            obtain ⟨rfl, rfl⟩ := H
            go_wp2
            go_ret2
            exact ⟨_, by first | rfl | (simp [errW_none, errW_some] <;> rfl) | (simp [*, errW_none, errW_some] <;> rfl), by first | exact Kd.R_nil _ _ _ _ _ | exact Kd.N_nil _ _ _ _ _ | exact Kd.V_nil _ _ _ _ _ | exact Kd.Q_nil _ _ _ _ _ | exact Kd.S_nil _ _ _ _ _, by repeat (first | (with_reducible first | exact HB.out | apply below_alloc | apply pw_below_drewN | apply below_drew1) | exact HB.out)⟩
          · rw [if_neg c4] at H
            have c4b0 : decide ((a0.size : Int) ≤ (wrap64 (x5_1 + 1))) = false := decide_eq_false c4
            clear c4
            by_cases c5 : 0 ≤ x5_1
            · rw [if_pos c5] at H
              have c5b0 : decide (0 ≤ x5_1) = true := decide_eq_true c5
              clear c5
              obtain ⟨ji7, hji7⟩ : ∃ j_ : Int, (wrap64 (x5_1 + 1)) = j_ := ⟨_, rfl⟩
              replace H : (if 0 ≤ (ji7) then (if (ji7) < (a0.size : Int) then ((demesneref11_Args.f (bt a0 (ji7))).bind fun t121 => (if (wrap64 ((wrap64 (x5_1 + 2)) + t121)) > (a0.size : Int) then (some (([] : List (S31)), 3)) else (if t121 > 0 then (if 0 ≤ (wrap64 (x5_1 + 2)) then (if (wrap64 (x5_1 + 2)) < (a0.size : Int) then (demesneref11_Decode.j1 k1 a0 x4_1 x5_1 t121 (bt a0 x5_1) (bt a0 (ji7)) (bt a0 (wrap64 (x5_1 + 2))) 0 0) else (none)) else (none)) else (demesneref11_Decode.j1 k1 a0 x4_1 x5_1 t121 (bt a0 x5_1) (bt a0 (ji7)) 0 0 0)))) else (none)) else (none)) = some (r1, r2) := by first | (rw [hji7] at H; exact H) | (simp only [hji7] at H ⊢; exact H)
              (try rw [hji7] at c4b0)
              have hji7w : (IntKind.i64.wrap (x5_1 + 1)) = ji7 := (i64_w _).trans hji7
              by_cases c8 : 0 ≤ (ji7)
              · rw [if_pos c8] at H
                have c8b0 : decide (0 ≤ (ji7)) = true := decide_eq_true c8
                clear c8
                by_cases c9 : (ji7) < (a0.size : Int)
                · rw [if_pos c9] at H
                  have c9b0 : decide ((ji7) < (a0.size : Int)) = true := decide_eq_true c9
                  clear c9
                  replace H := Option.bind_eq_some_iff.mp H
                  obtain ⟨t121, A110, H⟩ := H
                  replace H : (if (wrap64 ((wrap64 (x5_1 + 2)) + t121)) > (a0.size : Int) then (some (([] : List (S31)), 3)) else (if t121 > 0 then (if 0 ≤ (wrap64 (x5_1 + 2)) then (if (wrap64 (x5_1 + 2)) < (a0.size : Int) then (demesneref11_Decode.j1 k1 a0 x4_1 x5_1 t121 (bt a0 x5_1) (bt a0 (ji7)) (bt a0 (wrap64 (x5_1 + 2))) 0 0) else (none)) else (none)) else (demesneref11_Decode.j1 k1 a0 x4_1 x5_1 t121 (bt a0 x5_1) (bt a0 (ji7)) 0 0 0))) = some (r1, r2) := H
                  have A11 := Aside0.mk A110
                  clear A110
                  by_cases c12 : (wrap64 ((wrap64 (x5_1 + 2)) + t121)) > (a0.size : Int)
                  · rw [if_pos c12] at H
                    have c12b0 : decide ((a0.size : Int) < (wrap64 ((wrap64 (x5_1 + 2)) + t121))) = true := decide_eq_true c12
                    clear c12
                    simp only [Option.some.injEq, Prod.mk.injEq] at H
                    obtain ⟨rfl, rfl⟩ := H
                    try go_wp2
                    have n0_ := Aside0.mk (Kd.R_drew HO_4.out)
                    have n1_ := Aside0.mk (below_drew1 HB.out)
                    clear HO_4
                    clear HB
                    have HO_4 := n0_
                    have HB := n1_
                    clear n0_ n1_
                    have p6 : 0 ≤ (x5_1 : Int) := of_decide_eq_true (by first | (with_reducible assumption) | assumption)
                    have q6 : x5_1 < (a0.size : Int) := of_decide_eq_true (by first | (with_reducible assumption) | assumption)
                    have hx6 := bt_at a0 x5_1
                    replace p6 := eq_true p6
                    replace q6 := eq_true q6
                    have p10 : 0 ≤ ((ji7) : Int) := of_decide_eq_true (by first | (with_reducible assumption) | assumption)
                    have q10 : (ji7) < (a0.size : Int) := of_decide_eq_true (by first | (with_reducible assumption) | assumption)
                    have hx10 := bt_at a0 (ji7)
                    replace p10 := eq_true p10
                    replace q10 := eq_true q10
                    refine start_ (n := 10) (S := fun w' => True) (ds := []) #[false, false, false, false, false, false, false, false, false, false] (by kernel_rfl) rfl rfl trivial (fun hHeld => ?_); refine with_tabW demesneref11_Decode.tab8 demesneref11_Decode.bits8 (fun HT_ HW_ => ?_)
                    generalize wr.drew = w13 at HO_4 HB hHeld ⊢
                    refine pure_ (i := 0) (N := some 20) (v := ?_) (a' := ?_) #[true, false, false, false, false, false, false, false, false, false] rfl rfl (any_of HT_.out (by kernel_rfl)) (fun _ _ _ h => h) (Or.inl ⟨by rfl, ?_⟩) ?_ ?_
                    rotate_left
                    · intro w'
                      go_simp
                      with_reducible rfl
                    rotate_left
                    · simp only [Act.put, List.setIfInBounds_toArray, List.set_cons_zero, List.set_cons_succ, i64_w, i32_w]
                      rfl
                    refine pure_ (i := 1) (N := some 21) (v := ?_) (a' := ?_) #[true, true, false, false, false, false, false, false, false, false] rfl rfl (any_of HT_.out (by kernel_rfl)) (fun _ _ _ h => h) (Or.inl ⟨by rfl, ?_⟩) ?_ ?_
                    rotate_left
                    · intro w'
                      go_simp
                      with_reducible rfl
                    rotate_left
                    · simp only [Act.put, List.setIfInBounds_toArray, List.set_cons_zero, List.set_cons_succ, i64_w, i32_w]
                      rfl
                    refine pure_ (i := 3) (N := some 23) (v := ?_) (a' := ?_) #[true, true, false, true, false, false, false, false, false, false] rfl rfl (any_of HT_.out (by kernel_rfl)) (fun _ _ _ h => h) (Or.inl ⟨by rfl, ?_⟩) ?_ ?_
                    rotate_left
                    · intro w'
                      go_simp
                      with_reducible rfl
                    rotate_left
                    · simp only [Act.put, List.setIfInBounds_toArray, List.set_cons_zero, List.set_cons_succ, i64_w, i32_w]
                      rfl
                    refine pure_ (i := 4) (N := some 24) (v := ?_) (a' := ?_) #[true, true, false, true, true, false, false, false, false, false] rfl rfl (any_of HT_.out (by kernel_rfl)) (fun _ _ _ h => h) (Or.inl ⟨by rfl, ?_⟩) ?_ ?_
                    rotate_left
                    · intro w'
                      go_simp
                      with_reducible rfl
                    rotate_left
                    · simp only [Act.put, List.setIfInBounds_toArray, List.set_cons_zero, List.set_cons_succ, i64_w, i32_w]
                      rfl
                    refine pure_ (i := 5) (N := some 25) (v := ?_) (a' := ?_) #[true, true, false, true, true, true, false, false, false, false] rfl rfl (any_of HT_.out (by kernel_rfl)) (fun _ _ _ h => h) (Or.inl ⟨by rfl, ?_⟩) ?_ ?_
                    rotate_left
                    · intro w'
                      go_simp
                      with_reducible rfl
                    rotate_left
                    · simp only [Act.put, List.setIfInBounds_toArray, List.set_cons_zero, List.set_cons_succ, i64_w, i32_w]
                      rfl
                    refine take_ (i := 2) (N := some 22) (v := ?_) (a' := ?_) #[true, true, true, true, true, true, false, false, false, false] rfl rfl (take_ofW HT_.out HW_.out (by kernel_rfl)) (fun _ _ _ h => h) (Or.inl ⟨by rfl, ?_⟩) hHeld ?_ ?_
                    rotate_left
                    · intro w' _
                      go_simp
                      with_reducible rfl
                    rotate_left
                    · simp only [Act.put, List.setIfInBounds_toArray, List.set_cons_zero, List.set_cons_succ, i64_w, i32_w]
                      rfl
                    refine take_ (i := 6) (N := some 26) (v := ?_) (a' := ?_) #[true, true, true, true, true, true, true, false, false, false] rfl rfl (take_ofW HT_.out HW_.out (by kernel_rfl)) (fun _ _ _ h => h) (Or.inl ⟨by rfl, ?_⟩) hHeld ?_ ?_
                    rotate_left
                    · intro w' _
                      go_simp
                      with_reducible rfl
                    rotate_left
                    · simp only [Act.put, List.setIfInBounds_toArray, List.set_cons_zero, List.set_cons_succ, i64_w, i32_w]
                      rfl
                    refine pure_ (i := 7) (N := some 27) (v := ?_) (a' := ?_) #[true, true, true, true, true, true, true, true, false, false] rfl rfl (any_of HT_.out (by kernel_rfl)) (fun _ _ _ h => h) (Or.inl ⟨by rfl, ?_⟩) ?_ ?_
                    rotate_left
                    · intro w'
                      go_simp
                      with_reducible rfl
                    rotate_left
                    · simp only [Act.put, List.setIfInBounds_toArray, List.set_cons_zero, List.set_cons_succ, i64_w, i32_w]
                      rfl
                    refine one_ (i := 8) (N := some 6) #[true, true, true, true, true, true, true, true, true, false] rfl rfl (one_of HT_.out (by kernel_rfl)) (by decide) (fun K hK => ?_)
                    refine box_step ?hg (N := 6) ?hd (cs := #[.int .u8 0, .int .u8 0, .int .u8 0, .int .u8 0, .int .u8 0]) (t := 31) ?hr ?_; (case hd => rfl); (case hg => rfl); (case hr => first | (go_simp; done) | (go_simp; rfl))
                    intro gb120 hg w14 hbox hb
                    have n0_ := Aside0.mk (Kd.R_below (Kd.R_elderB (by (with_reducible repeat (first | apply Kd.R_alloc | apply Kd.R_drewN | apply Kd.R_drew)); exact HO_4.out) gb120 (Nat.le_of_eq hg.symm)) hb)
                    have n1_ := Aside0.mk (below_step (by repeat (first | (with_reducible first | exact HB.out | apply below_alloc | apply pw_below_drewN | apply below_drew1) | exact HB.out)) hb)
                    have n2_ := Aside0.mk (hbox)
                    have n3_ := Aside0.mk ((by rw [hg]; exact (below_size (by repeat (first | (with_reducible first | exact HB.out | apply below_alloc | apply pw_below_drewN | apply below_drew1) | exact HB.out))) : w.heap.size ≤ gb120))
                    have n4_ := Aside0.mk ((by rw [hg]; exact (below_size (by repeat (first | (with_reducible first | exact HB.out | apply below_alloc | apply pw_below_drewN | apply below_drew1) | exact HB.out))) : w.heap.size ≤ gb120))
                    clear HO_4
                    clear HB
                    have HO_4 := n0_
                    have HB := n1_
                    have BK120 := n2_
                    have GW120 := n3_
                    have GE120 := n4_
                    clear n0_ n1_ n2_ n3_ n4_
                    clear hb hbox hg
                    refine hK.out _ _ trivial (fun hHeld => ?_)
                    clear hK K
                    refine norm_ (a' := ?_) ?_ ?_
                    rotate_left
                    · show Act.put _ (some 6) _ = _
                      simp only [Act.put, List.setIfInBounds_toArray, List.set_cons_zero, List.set_cons_succ, i64_w, i32_w]
                      rfl
                    refine one_ (i := 9) (N := none) #[true, true, true, true, true, true, true, true, true, true] rfl rfl (one_of HT_.out (by kernel_rfl)) (by decide) (fun K hK => ?_)
                    have hs15 : w14.cell? ⟨gb120, 0, none⟩ = some (.int .u8 0) := (blk_cell BK120.out 0).trans rfl
                    have hfs15 := blk_frozen BK120.out 0
                    have hs16 : w14.cell? ⟨gb120, 1, none⟩ = some (.int .u8 0) := (blk_cell BK120.out 1).trans rfl
                    have hfs16 := blk_frozen BK120.out 1
                    have hs17 : w14.cell? ⟨gb120, 2, none⟩ = some (.int .u8 0) := (blk_cell BK120.out 2).trans rfl
                    have hfs17 := blk_frozen BK120.out 2
                    have hs18 : w14.cell? ⟨gb120, 3, none⟩ = some (.int .u8 0) := (blk_cell BK120.out 3).trans rfl
                    have hfs18 := blk_frozen BK120.out 3
                    have hs19 : w14.cell? ⟨gb120, 4, none⟩ = some (.int .u8 0) := (blk_cell BK120.out 4).trans rfl
                    have hfs19 := blk_frozen BK120.out 4
                    refine skip_ (w1 := ?_) (by rfl) rfl ?_ ?_
                    rotate_left
                    · go_simp
                      rfl
                    refine hK.out _ _ trivial (fun hHeld => ?_)
                    clear hK K
                    refine done_ (done_of HT_.out (by kernel_rfl)) ?_
                    have hcz20_0 : w14.cell? ⟨gb120, 0, none⟩ = some (.int .u8 0) := (blk_cell BK120.out 0).trans rfl
                    have hcz20_1 : w14.cell? ⟨gb120, 1, none⟩ = some (.int .u8 0) := (blk_cell BK120.out 1).trans rfl
                    have hcz20_2 : w14.cell? ⟨gb120, 2, none⟩ = some (.int .u8 0) := (blk_cell BK120.out 2).trans rfl
                    have hcz20_3 : w14.cell? ⟨gb120, 3, none⟩ = some (.int .u8 0) := (blk_cell BK120.out 3).trans rfl
                    have hcz20_4 : w14.cell? ⟨gb120, 4, none⟩ = some (.int .u8 0) := (blk_cell BK120.out 4).trans rfl
                    have hfz20_0 := blk_frozen BK120.out 0
                    have hfz20_1 := blk_frozen BK120.out 1
                    have hfz20_2 := blk_frozen BK120.out 2
                    have hfz20_3 := blk_frozen BK120.out 3
                    have hfz20_4 := blk_frozen BK120.out 4
                    try go_wp2_with (first | ((with_reducible refine gate_callee (f := 13) rfl ?_); refine goesL_ (some 30) rfl rfl Try.func13 (by kernel_rfl) rfl #[.int .u8 (bt a0 (ji7))] rfl (by (try simp only [List.map_toArray, List.map_cons, List.map_nil]); first | done | (simp only [hji7]; rfl) | rfl | (simp only [List.length_drop, List.length_take]; rfl)) ?_; (with_reducible refine (demesneref11_Args.calls (bt a0 (ji7)) t121 _ A11.out).mono ?_); rintro e w21 ⟨rfl, hb⟩; refine ⟨_, rfl, ?_⟩; have n0_ := Aside0.mk (Kd.R_below (by (with_reducible repeat (first | apply Kd.R_alloc | apply Kd.R_drewN | apply Kd.R_drew)); exact (Kd.R_mono (Kd.R_far (p := ⟨gb120, 4, none⟩) (Kd.R_far (p := ⟨gb120, 3, none⟩) (Kd.R_far (p := ⟨gb120, 2, none⟩) (Kd.R_far (p := ⟨gb120, 1, none⟩) (Kd.R_far (p := ⟨gb120, 0, none⟩) (Kd.R_mono HO_4.out (fun k_ hk => (⟨hk, hk.2⟩ : _ ∧ k_ ≠ gb120))) (fun _ hk => hk.2) (.int .u8 (bt a0 x5_1))) (fun _ hk => hk.2) (.int .u8 (bt a0 (ji7)))) (fun _ hk => hk.2) (.int .u8 0)) (fun _ hk => hk.2) (.int .u8 0)) (fun _ hk => hk.2) (.int .u8 0)) (fun _ h_ => h_.1))) hb); have n1_ := Aside0.mk (blk_below (g := gb120) (o := .cells #[.int .u8 (bt a0 x5_1), .int .u8 (bt a0 (ji7)), .int .u8 0, .int .u8 0, .int .u8 0] 31 (0, 0)) (by (with_reducible repeat (first | refine blk_drewN ?_ _ | refine blk_drew ?_ | refine blk_alloc ?_ _)); refine blk_put (cs := #[.int .u8 (bt a0 x5_1), .int .u8 (bt a0 (ji7)), .int .u8 0, .int .u8 0, .int .u8 0]) ?_ 4 _ rfl; (with_reducible repeat (first | refine blk_drewN ?_ _ | refine blk_drew ?_ | refine blk_alloc ?_ _)); refine blk_put (cs := #[.int .u8 (bt a0 x5_1), .int .u8 (bt a0 (ji7)), .int .u8 0, .int .u8 0, .int .u8 0]) ?_ 3 _ rfl; (with_reducible repeat (first | refine blk_drewN ?_ _ | refine blk_drew ?_ | refine blk_alloc ?_ _)); refine blk_put (cs := #[.int .u8 (bt a0 x5_1), .int .u8 (bt a0 (ji7)), .int .u8 0, .int .u8 0, .int .u8 0]) ?_ 2 _ rfl; (with_reducible repeat (first | refine blk_drewN ?_ _ | refine blk_drew ?_ | refine blk_alloc ?_ _)); refine blk_put (cs := #[.int .u8 (bt a0 x5_1), .int .u8 0, .int .u8 0, .int .u8 0, .int .u8 0]) ?_ 1 _ rfl; (with_reducible repeat (first | refine blk_drewN ?_ _ | refine blk_drew ?_ | refine blk_alloc ?_ _)); refine blk_put (cs := #[.int .u8 0, .int .u8 0, .int .u8 0, .int .u8 0, .int .u8 0]) ?_ 0 _ rfl; (with_reducible repeat (first | refine blk_drewN ?_ _ | refine blk_drew ?_ | refine blk_alloc ?_ _)); exact BK120.out) hb); have n2_ := Aside0.mk (below_step (by repeat (first | (with_reducible first | exact HB.out | apply below_alloc | apply pw_below_drewN | apply below_drew1 | refine below_set ?_ GE120.out) | exact HB.out)) hb); clear HO_4; clear BK120; clear HB; have HO_4 := n0_; have BK120 := n1_; have HB := n2_; clear n0_ n1_ n2_; (try clear hb); (try clear hb2); (try clear hk); (try clear hi)))
                    go_ret2
                    exact ⟨_, by first | rfl | (simp [errW_none, errW_some] <;> rfl) | (simp only [← hji7]; first | rfl | (simp [errW_none, errW_some] <;> rfl)) | (simp [*, errW_none, errW_some] <;> rfl), by first | exact Kd.R_nil _ _ _ _ _ | exact Kd.N_nil _ _ _ _ _ | exact Kd.V_nil _ _ _ _ _ | exact Kd.Q_nil _ _ _ _ _ | exact Kd.S_nil _ _ _ _ _, by repeat (first | (with_reducible first | exact HB.out | apply below_alloc | apply pw_below_drewN | apply below_drew1 | refine below_set ?_ GE120.out) | exact HB.out)⟩
                  · rw [if_neg c12] at H
                    have c12b0 : decide ((a0.size : Int) < (wrap64 ((wrap64 (x5_1 + 2)) + t121))) = false := decide_eq_false c12
                    clear c12
                    have HC22 := Aside0.mk H
                    clear H
                    try go_wp2
                    have n0_ := Aside0.mk (Kd.R_drew HO_4.out)
                    have n1_ := Aside0.mk (below_drew1 HB.out)
                    clear HO_4
                    clear HB
                    have HO_4 := n0_
                    have HB := n1_
                    clear n0_ n1_
                    have p6 : 0 ≤ (x5_1 : Int) := of_decide_eq_true (by first | (with_reducible assumption) | assumption)
                    have q6 : x5_1 < (a0.size : Int) := of_decide_eq_true (by first | (with_reducible assumption) | assumption)
                    have hx6 := bt_at a0 x5_1
                    replace p6 := eq_true p6
                    replace q6 := eq_true q6
                    have p10 : 0 ≤ ((ji7) : Int) := of_decide_eq_true (by first | (with_reducible assumption) | assumption)
                    have q10 : (ji7) < (a0.size : Int) := of_decide_eq_true (by first | (with_reducible assumption) | assumption)
                    have hx10 := bt_at a0 (ji7)
                    replace p10 := eq_true p10
                    replace q10 := eq_true q10
                    refine start_ (n := 10) (S := fun w' => True) (ds := []) #[false, false, false, false, false, false, false, false, false, false] (by kernel_rfl) rfl rfl trivial (fun hHeld => ?_); refine with_tabW demesneref11_Decode.tab8 demesneref11_Decode.bits8 (fun HT_ HW_ => ?_)
                    generalize wr.drew = w23 at HO_4 HB hHeld ⊢
                    refine pure_ (i := 0) (N := some 20) (v := ?_) (a' := ?_) #[true, false, false, false, false, false, false, false, false, false] rfl rfl (any_of HT_.out (by kernel_rfl)) (fun _ _ _ h => h) (Or.inl ⟨by rfl, ?_⟩) ?_ ?_
                    rotate_left
                    · intro w'
                      go_simp
                      with_reducible rfl
                    rotate_left
                    · simp only [Act.put, List.setIfInBounds_toArray, List.set_cons_zero, List.set_cons_succ, i64_w, i32_w]
                      rfl
                    refine pure_ (i := 1) (N := some 21) (v := ?_) (a' := ?_) #[true, true, false, false, false, false, false, false, false, false] rfl rfl (any_of HT_.out (by kernel_rfl)) (fun _ _ _ h => h) (Or.inl ⟨by rfl, ?_⟩) ?_ ?_
                    rotate_left
                    · intro w'
                      go_simp
                      with_reducible rfl
                    rotate_left
                    · simp only [Act.put, List.setIfInBounds_toArray, List.set_cons_zero, List.set_cons_succ, i64_w, i32_w]
                      rfl
                    refine pure_ (i := 3) (N := some 23) (v := ?_) (a' := ?_) #[true, true, false, true, false, false, false, false, false, false] rfl rfl (any_of HT_.out (by kernel_rfl)) (fun _ _ _ h => h) (Or.inl ⟨by rfl, ?_⟩) ?_ ?_
                    rotate_left
                    · intro w'
                      go_simp
                      with_reducible rfl
                    rotate_left
                    · simp only [Act.put, List.setIfInBounds_toArray, List.set_cons_zero, List.set_cons_succ, i64_w, i32_w]
                      rfl
                    refine pure_ (i := 4) (N := some 24) (v := ?_) (a' := ?_) #[true, true, false, true, true, false, false, false, false, false] rfl rfl (any_of HT_.out (by kernel_rfl)) (fun _ _ _ h => h) (Or.inl ⟨by rfl, ?_⟩) ?_ ?_
                    rotate_left
                    · intro w'
                      go_simp
                      with_reducible rfl
                    rotate_left
                    · simp only [Act.put, List.setIfInBounds_toArray, List.set_cons_zero, List.set_cons_succ, i64_w, i32_w]
                      rfl
                    refine pure_ (i := 5) (N := some 25) (v := ?_) (a' := ?_) #[true, true, false, true, true, true, false, false, false, false] rfl rfl (any_of HT_.out (by kernel_rfl)) (fun _ _ _ h => h) (Or.inl ⟨by rfl, ?_⟩) ?_ ?_
                    rotate_left
                    · intro w'
                      go_simp
                      with_reducible rfl
                    rotate_left
                    · simp only [Act.put, List.setIfInBounds_toArray, List.set_cons_zero, List.set_cons_succ, i64_w, i32_w]
                      rfl
                    refine take_ (i := 2) (N := some 22) (v := ?_) (a' := ?_) #[true, true, true, true, true, true, false, false, false, false] rfl rfl (take_ofW HT_.out HW_.out (by kernel_rfl)) (fun _ _ _ h => h) (Or.inl ⟨by rfl, ?_⟩) hHeld ?_ ?_
                    rotate_left
                    · intro w' _
                      go_simp
                      with_reducible rfl
                    rotate_left
                    · simp only [Act.put, List.setIfInBounds_toArray, List.set_cons_zero, List.set_cons_succ, i64_w, i32_w]
                      rfl
                    refine take_ (i := 6) (N := some 26) (v := ?_) (a' := ?_) #[true, true, true, true, true, true, true, false, false, false] rfl rfl (take_ofW HT_.out HW_.out (by kernel_rfl)) (fun _ _ _ h => h) (Or.inl ⟨by rfl, ?_⟩) hHeld ?_ ?_
                    rotate_left
                    · intro w' _
                      go_simp
                      with_reducible rfl
                    rotate_left
                    · simp only [Act.put, List.setIfInBounds_toArray, List.set_cons_zero, List.set_cons_succ, i64_w, i32_w]
                      rfl
                    refine pure_ (i := 7) (N := some 27) (v := ?_) (a' := ?_) #[true, true, true, true, true, true, true, true, false, false] rfl rfl (any_of HT_.out (by kernel_rfl)) (fun _ _ _ h => h) (Or.inl ⟨by rfl, ?_⟩) ?_ ?_
                    rotate_left
                    · intro w'
                      go_simp
                      with_reducible rfl
                    rotate_left
                    · simp only [Act.put, List.setIfInBounds_toArray, List.set_cons_zero, List.set_cons_succ, i64_w, i32_w]
                      rfl
                    refine one_ (i := 8) (N := some 6) #[true, true, true, true, true, true, true, true, true, false] rfl rfl (one_of HT_.out (by kernel_rfl)) (by decide) (fun K hK => ?_)
                    refine box_step ?hg (N := 6) ?hd (cs := #[.int .u8 0, .int .u8 0, .int .u8 0, .int .u8 0, .int .u8 0]) (t := 31) ?hr ?_; (case hd => rfl); (case hg => rfl); (case hr => first | (go_simp; done) | (go_simp; rfl))
                    intro gb120 hg w24 hbox hb
                    have n0_ := Aside0.mk (Kd.R_below (Kd.R_elderB (by (with_reducible repeat (first | apply Kd.R_alloc | apply Kd.R_drewN | apply Kd.R_drew)); exact HO_4.out) gb120 (Nat.le_of_eq hg.symm)) hb)
                    have n1_ := Aside0.mk (below_step (by repeat (first | (with_reducible first | exact HB.out | apply below_alloc | apply pw_below_drewN | apply below_drew1) | exact HB.out)) hb)
                    have n2_ := Aside0.mk (hbox)
                    have n3_ := Aside0.mk ((by rw [hg]; exact (below_size (by repeat (first | (with_reducible first | exact HB.out | apply below_alloc | apply pw_below_drewN | apply below_drew1) | exact HB.out))) : w.heap.size ≤ gb120))
                    have n4_ := Aside0.mk ((by rw [hg]; exact (below_size (by repeat (first | (with_reducible first | exact HB.out | apply below_alloc | apply pw_below_drewN | apply below_drew1) | exact HB.out))) : w.heap.size ≤ gb120))
                    clear HO_4
                    clear HB
                    have HO_4 := n0_
                    have HB := n1_
                    have BK120 := n2_
                    have GW120 := n3_
                    have GE120 := n4_
                    clear n0_ n1_ n2_ n3_ n4_
                    clear hb hbox hg
                    refine hK.out _ _ trivial (fun hHeld => ?_)
                    clear hK K
                    refine norm_ (a' := ?_) ?_ ?_
                    rotate_left
                    · show Act.put _ (some 6) _ = _
                      simp only [Act.put, List.setIfInBounds_toArray, List.set_cons_zero, List.set_cons_succ, i64_w, i32_w]
                      rfl
                    refine one_ (i := 9) (N := none) #[true, true, true, true, true, true, true, true, true, true] rfl rfl (one_of HT_.out (by kernel_rfl)) (by decide) (fun K hK => ?_)
                    have hs25 : w24.cell? ⟨gb120, 0, none⟩ = some (.int .u8 0) := (blk_cell BK120.out 0).trans rfl
                    have hfs25 := blk_frozen BK120.out 0
                    have hs26 : w24.cell? ⟨gb120, 1, none⟩ = some (.int .u8 0) := (blk_cell BK120.out 1).trans rfl
                    have hfs26 := blk_frozen BK120.out 1
                    have hs27 : w24.cell? ⟨gb120, 2, none⟩ = some (.int .u8 0) := (blk_cell BK120.out 2).trans rfl
                    have hfs27 := blk_frozen BK120.out 2
                    have hs28 : w24.cell? ⟨gb120, 3, none⟩ = some (.int .u8 0) := (blk_cell BK120.out 3).trans rfl
                    have hfs28 := blk_frozen BK120.out 3
                    have hs29 : w24.cell? ⟨gb120, 4, none⟩ = some (.int .u8 0) := (blk_cell BK120.out 4).trans rfl
                    have hfs29 := blk_frozen BK120.out 4
                    refine skip_ (w1 := ?_) (by rfl) rfl ?_ ?_
                    rotate_left
                    · go_simp
                      rfl
                    refine hK.out _ _ trivial (fun hHeld => ?_)
                    clear hK K
                    refine done_ (done_of HT_.out (by kernel_rfl)) ?_
                    have hcz30_0 : w24.cell? ⟨gb120, 0, none⟩ = some (.int .u8 0) := (blk_cell BK120.out 0).trans rfl
                    have hcz30_1 : w24.cell? ⟨gb120, 1, none⟩ = some (.int .u8 0) := (blk_cell BK120.out 1).trans rfl
                    have hcz30_2 : w24.cell? ⟨gb120, 2, none⟩ = some (.int .u8 0) := (blk_cell BK120.out 2).trans rfl
                    have hcz30_3 : w24.cell? ⟨gb120, 3, none⟩ = some (.int .u8 0) := (blk_cell BK120.out 3).trans rfl
                    have hcz30_4 : w24.cell? ⟨gb120, 4, none⟩ = some (.int .u8 0) := (blk_cell BK120.out 4).trans rfl
                    have hfz30_0 := blk_frozen BK120.out 0
                    have hfz30_1 := blk_frozen BK120.out 1
                    have hfz30_2 := blk_frozen BK120.out 2
                    have hfz30_3 := blk_frozen BK120.out 3
                    have hfz30_4 := blk_frozen BK120.out 4
                    go_upto_if 39 with (first | ((with_reducible refine gate_callee (f := 13) rfl ?_); refine goesL_ (some 30) rfl rfl Try.func13 (by kernel_rfl) rfl #[.int .u8 (bt a0 (ji7))] rfl (by (try simp only [List.map_toArray, List.map_cons, List.map_nil]); first | done | (simp only [hji7]; rfl) | rfl | (simp only [List.length_drop, List.length_take]; rfl)) ?_; (with_reducible refine (demesneref11_Args.calls (bt a0 (ji7)) t121 _ A11.out).mono ?_); rintro e w31 ⟨rfl, hb⟩; refine ⟨_, rfl, ?_⟩; have n0_ := Aside0.mk (Kd.R_below (by (with_reducible repeat (first | apply Kd.R_alloc | apply Kd.R_drewN | apply Kd.R_drew)); exact (Kd.R_mono (Kd.R_far (p := ⟨gb120, 4, none⟩) (Kd.R_far (p := ⟨gb120, 3, none⟩) (Kd.R_far (p := ⟨gb120, 2, none⟩) (Kd.R_far (p := ⟨gb120, 1, none⟩) (Kd.R_far (p := ⟨gb120, 0, none⟩) (Kd.R_mono HO_4.out (fun k_ hk => (⟨hk, hk.2⟩ : _ ∧ k_ ≠ gb120))) (fun _ hk => hk.2) (.int .u8 (bt a0 x5_1))) (fun _ hk => hk.2) (.int .u8 (bt a0 (ji7)))) (fun _ hk => hk.2) (.int .u8 0)) (fun _ hk => hk.2) (.int .u8 0)) (fun _ hk => hk.2) (.int .u8 0)) (fun _ h_ => h_.1))) hb); have n1_ := Aside0.mk (blk_below (g := gb120) (o := .cells #[.int .u8 (bt a0 x5_1), .int .u8 (bt a0 (ji7)), .int .u8 0, .int .u8 0, .int .u8 0] 31 (0, 0)) (by (with_reducible repeat (first | refine blk_drewN ?_ _ | refine blk_drew ?_ | refine blk_alloc ?_ _)); refine blk_put (cs := #[.int .u8 (bt a0 x5_1), .int .u8 (bt a0 (ji7)), .int .u8 0, .int .u8 0, .int .u8 0]) ?_ 4 _ rfl; (with_reducible repeat (first | refine blk_drewN ?_ _ | refine blk_drew ?_ | refine blk_alloc ?_ _)); refine blk_put (cs := #[.int .u8 (bt a0 x5_1), .int .u8 (bt a0 (ji7)), .int .u8 0, .int .u8 0, .int .u8 0]) ?_ 3 _ rfl; (with_reducible repeat (first | refine blk_drewN ?_ _ | refine blk_drew ?_ | refine blk_alloc ?_ _)); refine blk_put (cs := #[.int .u8 (bt a0 x5_1), .int .u8 (bt a0 (ji7)), .int .u8 0, .int .u8 0, .int .u8 0]) ?_ 2 _ rfl; (with_reducible repeat (first | refine blk_drewN ?_ _ | refine blk_drew ?_ | refine blk_alloc ?_ _)); refine blk_put (cs := #[.int .u8 (bt a0 x5_1), .int .u8 0, .int .u8 0, .int .u8 0, .int .u8 0]) ?_ 1 _ rfl; (with_reducible repeat (first | refine blk_drewN ?_ _ | refine blk_drew ?_ | refine blk_alloc ?_ _)); refine blk_put (cs := #[.int .u8 0, .int .u8 0, .int .u8 0, .int .u8 0, .int .u8 0]) ?_ 0 _ rfl; (with_reducible repeat (first | refine blk_drewN ?_ _ | refine blk_drew ?_ | refine blk_alloc ?_ _)); exact BK120.out) hb); have n2_ := Aside0.mk (below_step (by repeat (first | (with_reducible first | exact HB.out | apply below_alloc | apply pw_below_drewN | apply below_drew1 | refine below_set ?_ GE120.out) | exact HB.out)) hb); clear HO_4; clear BK120; clear HB; have HO_4 := n0_; have BK120 := n1_; have HB := n2_; clear n0_ n1_ n2_; (try clear hb); (try clear hb2); (try clear hk); (try clear hi)))
                    (try simp only [Act.put, List.setIfInBounds_toArray, List.set_cons_zero, List.set_cons_succ])
                    go_cut [] (fun wc => ∃ (kq : Nat) (x121002_21 : Int), Aside0 (demesneref11_Decode.j1 kq a0 x4_1 x5_1 t121 (bt a0 x5_1) (bt a0 (ji7)) x121002_21 0 0 = some (r1, r2)) ∧ Aside0 (kq ≤ k1) ∧ Aside0 (Kd.R k31 31 wc w.heap.size (fun k_ => k_ ≠ gb120) u4 x4_1) ∧ Aside0 (wc.heap[gb120]? = some (.cells #[.int .u8 (bt a0 x5_1), .int .u8 (bt a0 (ji7)), .int .u8 x121002_21, .int .u8 0, .int .u8 0] 31 (0, 0))) ∧ Aside0 (Below w.heap.size w wc))
                    case first =>
                      have H := HC22.out
                      clear HC22
                      by_cases c32 : t121 > 0
                      · rw [if_pos c32] at H
                        have c32b0 : decide (0 < t121) = true := decide_eq_true c32
                        clear c32
                        (first | rw [c32b0] | (simp only [i64_w, i32_w]; rw [c32b0]) | skip)
                        obtain ⟨ji33, hji33⟩ : ∃ j_ : Int, (wrap64 (x5_1 + 2)) = j_ := ⟨_, rfl⟩
                        replace H : (if 0 ≤ (ji33) then (if (ji33) < (a0.size : Int) then (demesneref11_Decode.j1 k1 a0 x4_1 x5_1 t121 (bt a0 x5_1) (bt a0 (ji7)) (bt a0 (ji33)) 0 0) else (none)) else (none)) = some (r1, r2) := by first | (rw [hji33] at H; exact H) | (simp only [hji33] at H ⊢; exact H)
                        (try rw [hji33] at c12b0)
                        have hji33w : (IntKind.i64.wrap (x5_1 + 2)) = ji33 := (i64_w _).trans hji33
                        by_cases c34 : 0 ≤ (ji33)
                        · rw [if_pos c34] at H
                          have c34b0 : decide (0 ≤ (ji33)) = true := decide_eq_true c34
                          clear c34
                          by_cases c35 : (ji33) < (a0.size : Int)
                          · rw [if_pos c35] at H
                            have c35b0 : decide ((ji33) < (a0.size : Int)) = true := decide_eq_true c35
                            clear c35
                            have H' := Aside0.mk H
                            clear H
                            have p36 : 0 ≤ ((ji33) : Int) := of_decide_eq_true (by first | (with_reducible assumption) | assumption)
                            have q36 : (ji33) < (a0.size : Int) := of_decide_eq_true (by first | (with_reducible assumption) | assumption)
                            have hx36 := bt_at a0 (ji33)
                            replace p36 := eq_true p36
                            replace q36 := eq_true q36
                            have hcz37_0 : w31.cell? ⟨gb120, 0, none⟩ = some (.int .u8 (bt a0 x5_1)) := (blk_cell BK120.out 0).trans rfl
                            have hcz37_1 : w31.cell? ⟨gb120, 1, none⟩ = some (.int .u8 (bt a0 (ji7))) := (blk_cell BK120.out 1).trans rfl
                            have hcz37_2 : w31.cell? ⟨gb120, 2, none⟩ = some (.int .u8 0) := (blk_cell BK120.out 2).trans rfl
                            have hcz37_3 : w31.cell? ⟨gb120, 3, none⟩ = some (.int .u8 0) := (blk_cell BK120.out 3).trans rfl
                            have hcz37_4 : w31.cell? ⟨gb120, 4, none⟩ = some (.int .u8 0) := (blk_cell BK120.out 4).trans rfl
                            have hfz37_0 := blk_frozen BK120.out 0
                            have hfz37_1 := blk_frozen BK120.out 1
                            have hfz37_2 := blk_frozen BK120.out 2
                            have hfz37_3 := blk_frozen BK120.out 3
                            have hfz37_4 := blk_frozen BK120.out 4
                            go_wp2
                            go_meet
                            case rel => exact ⟨_, (bt a0 (ji33)), H', ⟨by have := HK1.out; first | omega | exact Nat.le_refl _⟩, ⟨by (with_reducible repeat (first | apply Kd.R_alloc | apply Kd.R_drewN | apply Kd.R_drew)); exact Kd.R_mono (Kd.R_far (p := ⟨gb120, 2, none⟩) (Kd.R_mono HO_4.out (fun k_ hk => (⟨hk, hk.2⟩ : _ ∧ k_ ≠ gb120))) (fun _ hk => hk.2) (.int .u8 (bt a0 (ji33)))) (fun _ hk => hk.1.2)⟩, ⟨by (with_reducible repeat (first | refine blk_drewN ?_ _ | refine blk_drew ?_ | refine blk_alloc ?_ _)); refine blk_put (cs := #[.int .u8 (bt a0 x5_1), .int .u8 (bt a0 (ji7)), .int .u8 0, .int .u8 0, .int .u8 0]) ?_ 2 _ rfl; (with_reducible repeat (first | refine blk_drewN ?_ _ | refine blk_drew ?_ | refine blk_alloc ?_ _)); exact BK120.out⟩, ⟨by repeat (first | (with_reducible first | exact HB.out | apply below_alloc | apply pw_below_drewN | apply below_drew1 | refine below_set ?_ GE120.out) | exact HB.out)⟩⟩
                          · rw [if_neg c35] at H
                            exact absurd H (by simp)
                        · rw [if_neg c34] at H
                          exact absurd H (by simp)
                      · rw [if_neg c32] at H
                        have c32b0 : decide (0 < t121) = false := decide_eq_false c32
                        clear c32
                        (first | rw [c32b0] | (simp only [i64_w, i32_w]; rw [c32b0]) | skip)
                        have H' := Aside0.mk H
                        clear H
                        go_wp2
                        go_meet
                        case rel => exact ⟨_, (0), H', ⟨by have := HK1.out; first | omega | exact Nat.le_refl _⟩, ⟨by (with_reducible repeat (first | apply Kd.R_alloc | apply Kd.R_drewN | apply Kd.R_drew)); exact Kd.R_mono HO_4.out (fun _ hk => hk.2)⟩, ⟨by (with_reducible repeat (first | refine blk_drewN ?_ _ | refine blk_drew ?_ | refine blk_alloc ?_ _)); exact BK120.out⟩, ⟨by repeat (first | (with_reducible first | exact HB.out | apply below_alloc | apply pw_below_drewN | apply below_drew1 | refine below_set ?_ GE120.out) | exact HB.out)⟩⟩
                    case rest =>
                      clear HC22
                      try clear c1
                      try clear p1
                      try clear q1
                      try clear hx1
                      try clear c2
                      try clear c2b0
                      try clear c2b1
                      try clear p2
                      try clear c3
                      try clear c3b0
                      try clear p3
                      try clear q3
                      try clear hx3
                      try clear c4
                      try clear c4b0
                      try clear c5
                      try clear c5b0
                      try clear p6
                      try clear q6
                      try clear hx6
                      try clear c8
                      try clear c8b0
                      try clear c9
                      try clear c9b0
                      try clear p10
                      try clear q10
                      try clear hx10
                      try clear c12
                      try clear c12b0
                      try clear c13
                      try clear c15
                      try clear c32
                      try clear c32b0
                      try clear c34
                      try clear c34b0
                      try clear c35
                      try clear c35b0
                      try clear p36
                      try clear q36
                      try clear hx36
                      try clear hcz20_0
                      try clear hcz20_1
                      try clear hcz20_2
                      try clear hcz20_3
                      try clear hcz20_4
                      try clear hcz30_0
                      try clear hcz30_1
                      try clear hcz30_2
                      try clear hcz30_3
                      try clear hcz30_4
                      try clear hcz37_0
                      try clear hcz37_1
                      try clear hcz37_2
                      try clear hcz37_3
                      try clear hcz37_4
                      try clear hfz20_0
                      try clear hfz20_1
                      try clear hfz20_2
                      try clear hfz20_3
                      try clear hfz20_4
                      try clear hfz30_0
                      try clear hfz30_1
                      try clear hfz30_2
                      try clear hfz30_3
                      try clear hfz30_4
                      try clear hfz37_0
                      try clear hfz37_1
                      try clear hfz37_2
                      try clear hfz37_3
                      try clear hfz37_4
                      try clear p10
                      try clear p2
                      try clear p36
                      try clear p6
                      try clear q10
                      try clear q36
                      try clear q6
                      obtain ⟨kq, x121002_21, HA, HJ21, HO_4, BK120, HB⟩ := hcut
                      cases kq with
                      | zero => exact absurd HA.out (by simp [demesneref11_Decode.j1])
                      | succ kj21 =>
                        have H := HA.out
                        clear HA
                        simp only [demesneref11_Decode.j1] at H
                        have HC38 := Aside0.mk H
                        clear H
                        go_upto_if 46 with (fail)
                        go_cut [] (fun wc => ∃ (kq : Nat) (x121003_37 : Int), Aside0 (demesneref11_Decode.j2 kq a0 x4_1 x5_1 t121 (bt a0 x5_1) (bt a0 (ji7)) x121002_21 x121003_37 0 = some (r1, r2)) ∧ Aside0 (kq ≤ kj21) ∧ Aside0 (Kd.R k31 31 wc w.heap.size (fun k_ => k_ ≠ gb120) u4 x4_1) ∧ Aside0 (wc.heap[gb120]? = some (.cells #[.int .u8 (bt a0 x5_1), .int .u8 (bt a0 (ji7)), .int .u8 x121002_21, .int .u8 x121003_37, .int .u8 0] 31 (0, 0))) ∧ Aside0 (Below w.heap.size w wc))
                        case first =>
                          have H := HC38.out
                          clear HC38
                          by_cases c39 : t121 > 1
                          · rw [if_pos c39] at H
                            have c39b0 : decide (1 < t121) = true := decide_eq_true c39
                            clear c39
                            (first | rw [c39b0] | (simp only [i64_w, i32_w]; rw [c39b0]) | skip)
                            obtain ⟨ji40, hji40⟩ : ∃ j_ : Int, (wrap64 (x5_1 + 3)) = j_ := ⟨_, rfl⟩
                            replace H : (if 0 ≤ (ji40) then (if (ji40) < (a0.size : Int) then (demesneref11_Decode.j2 kj21 a0 x4_1 x5_1 t121 (bt a0 x5_1) (bt a0 (ji7)) x121002_21 (bt a0 (ji40)) 0) else (none)) else (none)) = some (r1, r2) := by first | (rw [hji40] at H; exact H) | (simp only [hji40] at H ⊢; exact H)
                            have hji40w : (IntKind.i64.wrap (x5_1 + 3)) = ji40 := (i64_w _).trans hji40
                            by_cases c41 : 0 ≤ (ji40)
                            · rw [if_pos c41] at H
                              have c41b0 : decide (0 ≤ (ji40)) = true := decide_eq_true c41
                              clear c41
                              by_cases c42 : (ji40) < (a0.size : Int)
                              · rw [if_pos c42] at H
                                have c42b0 : decide ((ji40) < (a0.size : Int)) = true := decide_eq_true c42
                                clear c42
                                have H' := Aside0.mk H
                                clear H
                                have p43 : 0 ≤ ((ji40) : Int) := of_decide_eq_true (by first | (with_reducible assumption) | assumption)
                                have q43 : (ji40) < (a0.size : Int) := of_decide_eq_true (by first | (with_reducible assumption) | assumption)
                                have hx43 := bt_at a0 (ji40)
                                replace p43 := eq_true p43
                                replace q43 := eq_true q43
                                have hcz44_0 : wc.cell? ⟨gb120, 0, none⟩ = some (.int .u8 (bt a0 x5_1)) := (blk_cell BK120.out 0).trans rfl
                                have hcz44_1 : wc.cell? ⟨gb120, 1, none⟩ = some (.int .u8 (bt a0 (ji7))) := (blk_cell BK120.out 1).trans rfl
                                have hcz44_2 : wc.cell? ⟨gb120, 2, none⟩ = some (.int .u8 x121002_21) := (blk_cell BK120.out 2).trans rfl
                                have hcz44_3 : wc.cell? ⟨gb120, 3, none⟩ = some (.int .u8 0) := (blk_cell BK120.out 3).trans rfl
                                have hcz44_4 : wc.cell? ⟨gb120, 4, none⟩ = some (.int .u8 0) := (blk_cell BK120.out 4).trans rfl
                                have hfz44_0 := blk_frozen BK120.out 0
                                have hfz44_1 := blk_frozen BK120.out 1
                                have hfz44_2 := blk_frozen BK120.out 2
                                have hfz44_3 := blk_frozen BK120.out 3
                                have hfz44_4 := blk_frozen BK120.out 4
                                go_wp2
                                go_meet
                                case rel => exact ⟨_, (bt a0 (ji40)), H', ⟨by have := HK1.out; have := HJ21.out; first | omega | exact Nat.le_refl _⟩, ⟨by (with_reducible repeat (first | apply Kd.R_alloc | apply Kd.R_drewN | apply Kd.R_drew)); exact Kd.R_mono (Kd.R_far (p := ⟨gb120, 3, none⟩) (Kd.R_mono HO_4.out (fun k_ hk => (⟨hk, hk⟩ : _ ∧ k_ ≠ gb120))) (fun _ hk => hk.2) (.int .u8 (bt a0 (ji40)))) (fun _ hk => hk.1)⟩, ⟨by (with_reducible repeat (first | refine blk_drewN ?_ _ | refine blk_drew ?_ | refine blk_alloc ?_ _)); refine blk_put (cs := #[.int .u8 (bt a0 x5_1), .int .u8 (bt a0 (ji7)), .int .u8 x121002_21, .int .u8 0, .int .u8 0]) ?_ 3 _ rfl; (with_reducible repeat (first | refine blk_drewN ?_ _ | refine blk_drew ?_ | refine blk_alloc ?_ _)); exact BK120.out⟩, ⟨by repeat (first | (with_reducible first | exact HB.out | apply below_alloc | apply pw_below_drewN | apply below_drew1 | refine below_set ?_ GE120.out) | exact HB.out)⟩⟩
                              · rw [if_neg c42] at H
                                exact absurd H (by simp)
                            · rw [if_neg c41] at H
                              exact absurd H (by simp)
                          · rw [if_neg c39] at H
                            have c39b0 : decide (1 < t121) = false := decide_eq_false c39
                            clear c39
                            (first | rw [c39b0] | (simp only [i64_w, i32_w]; rw [c39b0]) | skip)
                            have H' := Aside0.mk H
                            clear H
                            go_wp2
                            go_meet
                            case rel => exact ⟨_, (0), H', ⟨by have := HK1.out; have := HJ21.out; first | omega | exact Nat.le_refl _⟩, ⟨by (with_reducible repeat (first | apply Kd.R_alloc | apply Kd.R_drewN | apply Kd.R_drew)); exact HO_4.out⟩, ⟨by (with_reducible repeat (first | refine blk_drewN ?_ _ | refine blk_drew ?_ | refine blk_alloc ?_ _)); exact BK120.out⟩, ⟨by repeat (first | (with_reducible first | exact HB.out | apply below_alloc | apply pw_below_drewN | apply below_drew1 | refine below_set ?_ GE120.out) | exact HB.out)⟩⟩
                        case rest =>
                          clear HC38
                          try clear c1
                          try clear p1
                          try clear q1
                          try clear hx1
                          try clear c2
                          try clear c2b0
                          try clear c2b1
                          try clear p2
                          try clear c3
                          try clear c3b0
                          try clear p3
                          try clear q3
                          try clear hx3
                          try clear c4
                          try clear c4b0
                          try clear p4
                          try clear q4
                          try clear hx4
                          try clear c5
                          try clear c5b0
                          try clear p6
                          try clear q6
                          try clear hx6
                          try clear c8
                          try clear c8b0
                          try clear c9
                          try clear c9b0
                          try clear p10
                          try clear q10
                          try clear hx10
                          try clear c12
                          try clear c12b0
                          try clear c13
                          try clear c15
                          try clear c32
                          try clear c32b0
                          try clear c34
                          try clear c34b0
                          try clear c35
                          try clear c35b0
                          try clear p36
                          try clear q36
                          try clear hx36
                          try clear c39
                          try clear c39b0
                          try clear c41
                          try clear c41b0
                          try clear c42
                          try clear c42b0
                          try clear p43
                          try clear q43
                          try clear hx43
                          try clear hcz20_0
                          try clear hcz20_1
                          try clear hcz20_2
                          try clear hcz20_3
                          try clear hcz20_4
                          try clear hcz30_0
                          try clear hcz30_1
                          try clear hcz30_2
                          try clear hcz30_3
                          try clear hcz30_4
                          try clear hcz37_0
                          try clear hcz37_1
                          try clear hcz37_2
                          try clear hcz37_3
                          try clear hcz37_4
                          try clear hcz44_0
                          try clear hcz44_1
                          try clear hcz44_2
                          try clear hcz44_3
                          try clear hcz44_4
                          try clear hfz20_0
                          try clear hfz20_1
                          try clear hfz20_2
                          try clear hfz20_3
                          try clear hfz20_4
                          try clear hfz30_0
                          try clear hfz30_1
                          try clear hfz30_2
                          try clear hfz30_3
                          try clear hfz30_4
                          try clear hfz37_0
                          try clear hfz37_1
                          try clear hfz37_2
                          try clear hfz37_3
                          try clear hfz37_4
                          try clear hfz44_0
                          try clear hfz44_1
                          try clear hfz44_2
                          try clear hfz44_3
                          try clear hfz44_4
                          try clear p1
                          try clear p10
                          try clear p2
                          try clear p3
                          try clear p36
                          try clear p43
                          try clear p6
                          try clear q1
                          try clear q10
                          try clear q3
                          try clear q36
                          try clear q43
                          try clear q6
                          obtain ⟨kq, x121003_37, HA, HJ37, HO_4, BK120, HB⟩ := hcut
                          cases kq with
                          | zero => exact absurd HA.out (by simp [demesneref11_Decode.j2])
                          | succ kj37 =>
                            have H := HA.out
                            clear HA
                            simp only [demesneref11_Decode.j2] at H
                            by_cases c45 : t121 > 2
                            · rw [if_pos c45] at H
                              have c45b0 : decide (2 < t121) = true := decide_eq_true c45
                              clear c45
                              obtain ⟨ji46, hji46⟩ : ∃ j_ : Int, (wrap64 (x5_1 + 4)) = j_ := ⟨_, rfl⟩
                              replace H : (if 0 ≤ (ji46) then (if (ji46) < (a0.size : Int) then ((demesneref11_May.f (bt a0 x5_1) (bt a0 (ji7)) x121002_21 x121003_37 (bt a0 (ji46))).bind fun t122 => (if t122 = true then (if x4_1.length < 28147497671065 then (demesneref11_Decode.l0 kj37 a0 (x4_1 ++ [(⟨(bt a0 x5_1), (bt a0 (ji7)), x121002_21, x121003_37, bt a0 (ji46)⟩ : S31)]) (wrap64 ((wrap64 (x5_1 + 2)) + t121))) else (none)) else (some (([] : List (S31)), 3)))) else (none)) else (none)) = some (r1, r2) := by first | (rw [hji46] at H; exact H) | (simp only [hji46] at H ⊢; exact H)
                              have hji46w : (IntKind.i64.wrap (x5_1 + 4)) = ji46 := (i64_w _).trans hji46
                              by_cases c47 : 0 ≤ (ji46)
                              · rw [if_pos c47] at H
                                have c47b0 : decide (0 ≤ (ji46)) = true := decide_eq_true c47
                                clear c47
                                by_cases c48 : (ji46) < (a0.size : Int)
                                · rw [if_pos c48] at H
                                  have c48b0 : decide ((ji46) < (a0.size : Int)) = true := decide_eq_true c48
                                  clear c48
                                  replace H := Option.bind_eq_some_iff.mp H
                                  obtain ⟨t122, A500, H⟩ := H
                                  replace H : (if t122 = true then (if x4_1.length < 28147497671065 then (demesneref11_Decode.l0 kj37 a0 (x4_1 ++ [(⟨(bt a0 x5_1), (bt a0 (ji7)), x121002_21, x121003_37, bt a0 (ji46)⟩ : S31)]) (wrap64 ((wrap64 (x5_1 + 2)) + t121))) else (none)) else (some (([] : List (S31)), 3))) = some (r1, r2) := H
                                  have A50 := Aside0.mk A500
                                  clear A500
                                  by_cases c51 : t122 = true
                                  · subst c51
                                    have H1 : (if x4_1.length < 28147497671065 then (demesneref11_Decode.l0 kj37 a0 (x4_1 ++ [(⟨(bt a0 x5_1), (bt a0 (ji7)), x121002_21, x121003_37, bt a0 (ji46)⟩ : S31)]) (wrap64 ((wrap64 (x5_1 + 2)) + t121))) else (none)) = some (r1, r2) := by rw [if_pos rfl] at H; exact H
                                    clear H
                                    have H := H1
                                    clear H1
                                    by_cases c52 : x4_1.length < 28147497671065
                                    · rw [if_pos c52] at H
                                      have LMc52 := Aside0.mk c52
                                      clear c52
                                      obtain ⟨y123, hy123⟩ : ∃ y_ : List (S31), y_ = (x4_1 ++ [(⟨(bt a0 x5_1), (bt a0 (ji7)), x121002_21, x121003_37, bt a0 (ji46)⟩ : S31)]) := ⟨_, rfl⟩
                                      replace H : (demesneref11_Decode.l0 kj37 a0 y123 (wrap64 ((wrap64 (x5_1 + 2)) + t121))) = some (r1, r2) := by first | (rw [hy123]; with_reducible exact H) | (have H2_ := (Option.bind_some _ _).symm.trans H; rw [hy123]; with_reducible exact H2_) | (have H2_ := (Option.bind_some _ _).symm.trans H; with_reducible exact H2_) | with_reducible exact H | (rw [hy123]; exact H) | exact H
                                      have Ny123 := Aside0.mk hy123
                                      clear hy123
                                      have H' := Aside0.mk H
                                      clear H
                                      have p49 : 0 ≤ ((ji46) : Int) := of_decide_eq_true (by first | (with_reducible assumption) | assumption)
                                      have q49 : (ji46) < (a0.size : Int) := of_decide_eq_true (by first | (with_reducible assumption) | assumption)
                                      have hx49 := bt_at a0 (ji46)
                                      replace p49 := eq_true p49
                                      replace q49 := eq_true q49
                                      have hcz53_0 : wc.cell? ⟨gb120, 0, none⟩ = some (.int .u8 (bt a0 x5_1)) := (blk_cell BK120.out 0).trans rfl
                                      have hcz53_1 : wc.cell? ⟨gb120, 1, none⟩ = some (.int .u8 (bt a0 (ji7))) := (blk_cell BK120.out 1).trans rfl
                                      have hcz53_2 : wc.cell? ⟨gb120, 2, none⟩ = some (.int .u8 x121002_21) := (blk_cell BK120.out 2).trans rfl
                                      have hcz53_3 : wc.cell? ⟨gb120, 3, none⟩ = some (.int .u8 x121003_37) := (blk_cell BK120.out 3).trans rfl
                                      have hcz53_4 : wc.cell? ⟨gb120, 4, none⟩ = some (.int .u8 0) := (blk_cell BK120.out 4).trans rfl
                                      have hfz53_0 := blk_frozen BK120.out 0
                                      have hfz53_1 := blk_frozen BK120.out 1
                                      have hfz53_2 := blk_frozen BK120.out 2
                                      have hfz53_3 := blk_frozen BK120.out 3
                                      have hfz53_4 := blk_frozen BK120.out 4
                                      go_wp2_with (first | ((with_reducible refine gate_callee (f := 9) rfl ?_); refine goesL_ (some 60) rfl rfl Try.func9 (by kernel_rfl) rfl #[.agg #[.int .u8 (bt a0 x5_1), .int .u8 (bt a0 (ji7)), .int .u8 x121002_21, .int .u8 x121003_37, .int .u8 (bt a0 (ji46))]] rfl (by (try simp only [List.map_toArray, List.map_cons, List.map_nil]); first | done | (simp only [hji46, hji7]; rfl) | rfl | (simp only [List.length_drop, List.length_take]; rfl)) ?_; (with_reducible refine (demesneref11_May.calls (bt a0 x5_1) (bt a0 (ji7)) x121002_21 x121003_37 (bt a0 (ji46)) true _ A50.out).mono ?_); rintro e w54 ⟨rfl, hb⟩; refine ⟨_, rfl, ?_⟩; have n0_ := Aside0.mk (Kd.R_below (by (with_reducible repeat (first | apply Kd.R_alloc | apply Kd.R_drewN | apply Kd.R_drew)); exact (Kd.R_mono (Kd.R_far (p := ⟨gb120, 4, none⟩) (Kd.R_mono HO_4.out (fun k_ hk => (⟨hk, hk⟩ : _ ∧ k_ ≠ gb120))) (fun _ hk => hk.2) (.int .u8 (bt a0 (ji46)))) (fun _ h_ => h_.1))) hb); have n1_ := Aside0.mk (blk_below (g := gb120) (o := .cells #[.int .u8 (bt a0 x5_1), .int .u8 (bt a0 (ji7)), .int .u8 x121002_21, .int .u8 x121003_37, .int .u8 (bt a0 (ji46))] 31 (0, 0)) (by (with_reducible repeat (first | refine blk_drewN ?_ _ | refine blk_drew ?_ | refine blk_alloc ?_ _)); refine blk_put (cs := #[.int .u8 (bt a0 x5_1), .int .u8 (bt a0 (ji7)), .int .u8 x121002_21, .int .u8 x121003_37, .int .u8 0]) ?_ 4 _ rfl; (with_reducible repeat (first | refine blk_drewN ?_ _ | refine blk_drew ?_ | refine blk_alloc ?_ _)); exact BK120.out) hb); have n2_ := Aside0.mk (below_step (by repeat (first | (with_reducible first | exact HB.out | apply below_alloc | apply pw_below_drewN | apply below_drew1 | refine below_set ?_ GE120.out) | exact HB.out)) hb); clear HO_4; clear BK120; clear HB; have HO_4 := n0_; have BK120 := n1_; have HB := n2_; clear n0_ n1_ n2_; (try clear hb); (try clear hb2); (try clear hk); (try clear hi); have hcz55_0 : w54.cell? ⟨gb120, 0, none⟩ = some (.int .u8 (bt a0 x5_1)) := (blk_cell BK120.out 0).trans rfl; have hcz55_1 : w54.cell? ⟨gb120, 1, none⟩ = some (.int .u8 (bt a0 (ji7))) := (blk_cell BK120.out 1).trans rfl; have hcz55_2 : w54.cell? ⟨gb120, 2, none⟩ = some (.int .u8 x121002_21) := (blk_cell BK120.out 2).trans rfl; have hcz55_3 : w54.cell? ⟨gb120, 3, none⟩ = some (.int .u8 x121003_37) := (blk_cell BK120.out 3).trans rfl; have hcz55_4 : w54.cell? ⟨gb120, 4, none⟩ = some (.int .u8 (bt a0 (ji46))) := (blk_cell BK120.out 4).trans rfl; have hfz55_0 := blk_frozen BK120.out 0; have hfz55_1 := blk_frozen BK120.out 1; have hfz55_2 := blk_frozen BK120.out 2; have hfz55_3 := blk_frozen BK120.out 3; have hfz55_4 := blk_frozen BK120.out 4) | ((with_reducible refine gate_builtin (b := .append) (xs := #[.tmp 62, .tmp 64]) rfl ?_); at_builtin; refine Kd.R_append k31 (w0 := w) w.heap.size rfl (.tmp 62) (.tmp 64) 22 31 (.agg #[(.int .u8 0), (.int .u8 0), (.int .u8 0), (.int .u8 0), (.int .u8 0)]) 5 rfl Try.underlying22 info31 rfl (by decide) (by omega) u4 x4_1 (⟨(bt a0 x5_1), (bt a0 (ji7)), x121002_21, x121003_37, bt a0 (ji46)⟩ : S31) [.int .u8 (bt a0 x5_1), .int .u8 (bt a0 (ji7)), .int .u8 x121002_21, .int .u8 x121003_37, .int .u8 (bt a0 (ji46))] (fun k_ => k_ ≠ gb120) (fun _ => False) rfl rfl ?aP (fun _ hk => hk.elim) ?aF ?aO ?aB ?aS ?aL ?_; (case aP => exact k31_mkM _ _ _ (⟨(bt a0 x5_1), (bt a0 (ji7)), x121002_21, x121003_37, bt a0 (ji46)⟩ : S31)); (case aB => exact (by repeat (first | (with_reducible first | exact HB.out | apply below_alloc | apply pw_below_drewN | apply below_drew1 | refine below_set ?_ GE120.out) | exact HB.out))); (case aF => exact (fun k_ hk => Kd.freshB (g := gb120) (o := .cells #[.int .u8 (bt a0 x5_1), .int .u8 (bt a0 (ji7)), .int .u8 x121002_21, .int .u8 x121003_37, .int .u8 (bt a0 (ji46))] 31 (0, 0)) (by (with_reducible repeat (first | refine blk_drewN ?_ _ | refine blk_drew ?_ | refine blk_alloc ?_ _)); exact BK120.out) k_ hk)); (case aO => exact (by (with_reducible repeat (first | apply Kd.R_alloc | apply Kd.R_drewN | apply Kd.R_drew)); exact HO_4.out)); (case aS => exact (below_size (by repeat (first | (with_reducible first | exact HB.out | apply below_alloc | apply pw_below_drewN | apply below_drew1 | refine below_set ?_ GE120.out) | exact HB.out)))); (case aL => have := LMc52.out; omega); intro v124 w56 ho hb hg hat; rw [← Ny123.out] at ho; have n0_ := Aside0.mk (blk_grown (g := gb120) (o := .cells #[.int .u8 (bt a0 x5_1), .int .u8 (bt a0 (ji7)), .int .u8 x121002_21, .int .u8 x121003_37, .int .u8 (bt a0 (ji46))] 31 (0, 0)) (by (with_reducible repeat (first | refine blk_drewN ?_ _ | refine blk_drew ?_ | refine blk_alloc ?_ _)); exact BK120.out) hg (Kd.R_away HO_4.out (fun _ hk => hk))); have n1_ := Aside0.mk (hb); have n2_ := Aside0.mk (ho); clear BK120; clear HB; clear HO_4; have BK120 := n0_; have HB := n1_; have HO125 := n2_; clear n0_ n1_ n2_; clear ho hb hg hat))
                                      go_roundg kj37
                                      case measure => have := HK1.out; have := HJ21.out; have := HJ37.out; omega
                                      case rel => exact ⟨(y123), (wrap64 ((wrap64 (x5_1 + 2)) + t121)), (by first | rfl | (simp; done) | (simp [*]; done)), H', ⟨by have := HK1.out; have := HJ21.out; have := HJ37.out; omega⟩, ⟨by (with_reducible repeat (first | apply Kd.R_alloc | apply Kd.R_drewN | apply Kd.R_drew)); exact Kd.R_mono HO125.out (fun _ hk => trivial)⟩, ⟨by repeat (first | (with_reducible first | exact HB.out | apply below_alloc | apply pw_below_drewN | apply below_drew1 | refine below_set ?_ GE120.out) | exact HB.out)⟩⟩
                                    · rw [if_neg c52] at H
                                      exact absurd H (by simp)
                                  · replace c51 := Bool.eq_false_iff.mpr c51
                                    subst c51
                                    have H1 : (some (([] : List (S31)), 3)) = some (r1, r2) := by rw [if_neg (show ¬ (false = true) by decide)] at H; exact H
                                    clear H
                                    have H := H1
                                    clear H1
                                    simp only [Option.some.injEq, Prod.mk.injEq] at H
                                    obtain ⟨rfl, rfl⟩ := H
                                    have p49 : 0 ≤ ((ji46) : Int) := of_decide_eq_true (by first | (with_reducible assumption) | assumption)
                                    have q49 : (ji46) < (a0.size : Int) := of_decide_eq_true (by first | (with_reducible assumption) | assumption)
                                    have hx49 := bt_at a0 (ji46)
                                    replace p49 := eq_true p49
                                    replace q49 := eq_true q49
                                    have hcz57_0 : wc.cell? ⟨gb120, 0, none⟩ = some (.int .u8 (bt a0 x5_1)) := (blk_cell BK120.out 0).trans rfl
                                    have hcz57_1 : wc.cell? ⟨gb120, 1, none⟩ = some (.int .u8 (bt a0 (ji7))) := (blk_cell BK120.out 1).trans rfl
                                    have hcz57_2 : wc.cell? ⟨gb120, 2, none⟩ = some (.int .u8 x121002_21) := (blk_cell BK120.out 2).trans rfl
                                    have hcz57_3 : wc.cell? ⟨gb120, 3, none⟩ = some (.int .u8 x121003_37) := (blk_cell BK120.out 3).trans rfl
                                    have hcz57_4 : wc.cell? ⟨gb120, 4, none⟩ = some (.int .u8 0) := (blk_cell BK120.out 4).trans rfl
                                    have hfz57_0 := blk_frozen BK120.out 0
                                    have hfz57_1 := blk_frozen BK120.out 1
                                    have hfz57_2 := blk_frozen BK120.out 2
                                    have hfz57_3 := blk_frozen BK120.out 3
                                    have hfz57_4 := blk_frozen BK120.out 4
                                    go_wp2_with (first | ((with_reducible refine gate_callee (f := 9) rfl ?_); refine goesL_ (some 60) rfl rfl Try.func9 (by kernel_rfl) rfl #[.agg #[.int .u8 (bt a0 x5_1), .int .u8 (bt a0 (ji7)), .int .u8 x121002_21, .int .u8 x121003_37, .int .u8 (bt a0 (ji46))]] rfl (by (try simp only [List.map_toArray, List.map_cons, List.map_nil]); first | done | (simp only [hji46, hji7]; rfl) | rfl | (simp only [List.length_drop, List.length_take]; rfl)) ?_; (with_reducible refine (demesneref11_May.calls (bt a0 x5_1) (bt a0 (ji7)) x121002_21 x121003_37 (bt a0 (ji46)) false _ A50.out).mono ?_); rintro e w58 ⟨rfl, hb⟩; refine ⟨_, rfl, ?_⟩; have n0_ := Aside0.mk (Kd.R_below (by (with_reducible repeat (first | apply Kd.R_alloc | apply Kd.R_drewN | apply Kd.R_drew)); exact (Kd.R_mono (Kd.R_far (p := ⟨gb120, 4, none⟩) (Kd.R_mono HO_4.out (fun k_ hk => (⟨hk, hk⟩ : _ ∧ k_ ≠ gb120))) (fun _ hk => hk.2) (.int .u8 (bt a0 (ji46)))) (fun _ h_ => h_.1))) hb); have n1_ := Aside0.mk (blk_below (g := gb120) (o := .cells #[.int .u8 (bt a0 x5_1), .int .u8 (bt a0 (ji7)), .int .u8 x121002_21, .int .u8 x121003_37, .int .u8 (bt a0 (ji46))] 31 (0, 0)) (by (with_reducible repeat (first | refine blk_drewN ?_ _ | refine blk_drew ?_ | refine blk_alloc ?_ _)); refine blk_put (cs := #[.int .u8 (bt a0 x5_1), .int .u8 (bt a0 (ji7)), .int .u8 x121002_21, .int .u8 x121003_37, .int .u8 0]) ?_ 4 _ rfl; (with_reducible repeat (first | refine blk_drewN ?_ _ | refine blk_drew ?_ | refine blk_alloc ?_ _)); exact BK120.out) hb); have n2_ := Aside0.mk (below_step (by repeat (first | (with_reducible first | exact HB.out | apply below_alloc | apply pw_below_drewN | apply below_drew1 | refine below_set ?_ GE120.out) | exact HB.out)) hb); clear HO_4; clear BK120; clear HB; have HO_4 := n0_; have BK120 := n1_; have HB := n2_; clear n0_ n1_ n2_; (try clear hb); (try clear hb2); (try clear hk); (try clear hi)))
                                    go_ret2
                                    exact ⟨_, by first | rfl | (simp [errW_none, errW_some] <;> rfl) | (simp only [← hji7, ← hji46]; first | rfl | (simp [errW_none, errW_some] <;> rfl)) | (simp [*, errW_none, errW_some] <;> rfl), by first | exact Kd.R_nil _ _ _ _ _ | exact Kd.N_nil _ _ _ _ _ | exact Kd.V_nil _ _ _ _ _ | exact Kd.Q_nil _ _ _ _ _ | exact Kd.S_nil _ _ _ _ _, by repeat (first | (with_reducible first | exact HB.out | apply below_alloc | apply pw_below_drewN | apply below_drew1 | refine below_set ?_ GE120.out) | exact HB.out)⟩
                                · rw [if_neg c48] at H
                                  exact absurd H (by simp)
                              · rw [if_neg c47] at H
                                exact absurd H (by simp)
                            · rw [if_neg c45] at H
                              have c45b0 : decide (2 < t121) = false := decide_eq_false c45
                              clear c45
                              replace H := Option.bind_eq_some_iff.mp H
                              obtain ⟨t126, A590, H⟩ := H
                              replace H : (if t126 = true then (if x4_1.length < 28147497671065 then (demesneref11_Decode.l0 kj37 a0 (x4_1 ++ [(⟨(bt a0 x5_1), (bt a0 (ji7)), x121002_21, x121003_37, 0⟩ : S31)]) (wrap64 ((wrap64 (x5_1 + 2)) + t121))) else (none)) else (some (([] : List (S31)), 3))) = some (r1, r2) := H
                              have A59 := Aside0.mk A590
                              clear A590
                              by_cases c60 : t126 = true
                              · subst c60
                                have H1 : (if x4_1.length < 28147497671065 then (demesneref11_Decode.l0 kj37 a0 (x4_1 ++ [(⟨(bt a0 x5_1), (bt a0 (ji7)), x121002_21, x121003_37, 0⟩ : S31)]) (wrap64 ((wrap64 (x5_1 + 2)) + t121))) else (none)) = some (r1, r2) := by rw [if_pos rfl] at H; exact H
                                clear H
                                have H := H1
                                clear H1
                                by_cases c61 : x4_1.length < 28147497671065
                                · rw [if_pos c61] at H
                                  have LMc61 := Aside0.mk c61
                                  clear c61
                                  obtain ⟨y127, hy127⟩ : ∃ y_ : List (S31), y_ = (x4_1 ++ [(⟨(bt a0 x5_1), (bt a0 (ji7)), x121002_21, x121003_37, 0⟩ : S31)]) := ⟨_, rfl⟩
                                  replace H : (demesneref11_Decode.l0 kj37 a0 y127 (wrap64 ((wrap64 (x5_1 + 2)) + t121))) = some (r1, r2) := by first | (rw [hy127]; with_reducible exact H) | (have H2_ := (Option.bind_some _ _).symm.trans H; rw [hy127]; with_reducible exact H2_) | (have H2_ := (Option.bind_some _ _).symm.trans H; with_reducible exact H2_) | with_reducible exact H | (rw [hy127]; exact H) | exact H
                                  have Ny127 := Aside0.mk hy127
                                  clear hy127
                                  have H' := Aside0.mk H
                                  clear H
                                  have hcz62_0 : wc.cell? ⟨gb120, 0, none⟩ = some (.int .u8 (bt a0 x5_1)) := (blk_cell BK120.out 0).trans rfl
                                  have hcz62_1 : wc.cell? ⟨gb120, 1, none⟩ = some (.int .u8 (bt a0 (ji7))) := (blk_cell BK120.out 1).trans rfl
                                  have hcz62_2 : wc.cell? ⟨gb120, 2, none⟩ = some (.int .u8 x121002_21) := (blk_cell BK120.out 2).trans rfl
                                  have hcz62_3 : wc.cell? ⟨gb120, 3, none⟩ = some (.int .u8 x121003_37) := (blk_cell BK120.out 3).trans rfl
                                  have hcz62_4 : wc.cell? ⟨gb120, 4, none⟩ = some (.int .u8 0) := (blk_cell BK120.out 4).trans rfl
                                  have hfz62_0 := blk_frozen BK120.out 0
                                  have hfz62_1 := blk_frozen BK120.out 1
                                  have hfz62_2 := blk_frozen BK120.out 2
                                  have hfz62_3 := blk_frozen BK120.out 3
                                  have hfz62_4 := blk_frozen BK120.out 4
                                  go_wp2_with (first | ((with_reducible refine gate_callee (f := 9) rfl ?_); refine goesL_ (some 60) rfl rfl Try.func9 (by kernel_rfl) rfl #[.agg #[.int .u8 (bt a0 x5_1), .int .u8 (bt a0 (ji7)), .int .u8 x121002_21, .int .u8 x121003_37, .int .u8 0]] rfl (by (try simp only [List.map_toArray, List.map_cons, List.map_nil]); first | done | (simp only [hji7]; rfl) | rfl | (simp only [List.length_drop, List.length_take]; rfl)) ?_; (with_reducible refine (demesneref11_May.calls (bt a0 x5_1) (bt a0 (ji7)) x121002_21 x121003_37 0 true _ A59.out).mono ?_); rintro e w63 ⟨rfl, hb⟩; refine ⟨_, rfl, ?_⟩; have n0_ := Aside0.mk (Kd.R_below (by (with_reducible repeat (first | apply Kd.R_alloc | apply Kd.R_drewN | apply Kd.R_drew)); exact HO_4.out) hb); have n1_ := Aside0.mk (blk_below (g := gb120) (o := .cells #[.int .u8 (bt a0 x5_1), .int .u8 (bt a0 (ji7)), .int .u8 x121002_21, .int .u8 x121003_37, .int .u8 0] 31 (0, 0)) (by (with_reducible repeat (first | refine blk_drewN ?_ _ | refine blk_drew ?_ | refine blk_alloc ?_ _)); exact BK120.out) hb); have n2_ := Aside0.mk (below_step (by repeat (first | (with_reducible first | exact HB.out | apply below_alloc | apply pw_below_drewN | apply below_drew1 | refine below_set ?_ GE120.out) | exact HB.out)) hb); clear HO_4; clear BK120; clear HB; have HO_4 := n0_; have BK120 := n1_; have HB := n2_; clear n0_ n1_ n2_; (try clear hb); (try clear hb2); (try clear hk); (try clear hi); have hcz64_0 : w63.cell? ⟨gb120, 0, none⟩ = some (.int .u8 (bt a0 x5_1)) := (blk_cell BK120.out 0).trans rfl; have hcz64_1 : w63.cell? ⟨gb120, 1, none⟩ = some (.int .u8 (bt a0 (ji7))) := (blk_cell BK120.out 1).trans rfl; have hcz64_2 : w63.cell? ⟨gb120, 2, none⟩ = some (.int .u8 x121002_21) := (blk_cell BK120.out 2).trans rfl; have hcz64_3 : w63.cell? ⟨gb120, 3, none⟩ = some (.int .u8 x121003_37) := (blk_cell BK120.out 3).trans rfl; have hcz64_4 : w63.cell? ⟨gb120, 4, none⟩ = some (.int .u8 0) := (blk_cell BK120.out 4).trans rfl; have hfz64_0 := blk_frozen BK120.out 0; have hfz64_1 := blk_frozen BK120.out 1; have hfz64_2 := blk_frozen BK120.out 2; have hfz64_3 := blk_frozen BK120.out 3; have hfz64_4 := blk_frozen BK120.out 4) | ((with_reducible refine gate_builtin (b := .append) (xs := #[.tmp 62, .tmp 64]) rfl ?_); at_builtin; refine Kd.R_append k31 (w0 := w) w.heap.size rfl (.tmp 62) (.tmp 64) 22 31 (.agg #[(.int .u8 0), (.int .u8 0), (.int .u8 0), (.int .u8 0), (.int .u8 0)]) 5 rfl Try.underlying22 info31 rfl (by decide) (by omega) u4 x4_1 (⟨(bt a0 x5_1), (bt a0 (ji7)), x121002_21, x121003_37, 0⟩ : S31) [.int .u8 (bt a0 x5_1), .int .u8 (bt a0 (ji7)), .int .u8 x121002_21, .int .u8 x121003_37, .int .u8 0] (fun k_ => k_ ≠ gb120) (fun _ => False) rfl rfl ?aP (fun _ hk => hk.elim) ?aF ?aO ?aB ?aS ?aL ?_; (case aP => exact k31_mkM _ _ _ (⟨(bt a0 x5_1), (bt a0 (ji7)), x121002_21, x121003_37, 0⟩ : S31)); (case aB => exact (by repeat (first | (with_reducible first | exact HB.out | apply below_alloc | apply pw_below_drewN | apply below_drew1 | refine below_set ?_ GE120.out) | exact HB.out))); (case aF => exact (fun k_ hk => Kd.freshB (g := gb120) (o := .cells #[.int .u8 (bt a0 x5_1), .int .u8 (bt a0 (ji7)), .int .u8 x121002_21, .int .u8 x121003_37, .int .u8 0] 31 (0, 0)) (by (with_reducible repeat (first | refine blk_drewN ?_ _ | refine blk_drew ?_ | refine blk_alloc ?_ _)); exact BK120.out) k_ hk)); (case aO => exact (by (with_reducible repeat (first | apply Kd.R_alloc | apply Kd.R_drewN | apply Kd.R_drew)); exact HO_4.out)); (case aS => exact (below_size (by repeat (first | (with_reducible first | exact HB.out | apply below_alloc | apply pw_below_drewN | apply below_drew1 | refine below_set ?_ GE120.out) | exact HB.out)))); (case aL => have := LMc61.out; omega); intro v128 w65 ho hb hg hat; rw [← Ny127.out] at ho; have n0_ := Aside0.mk (blk_grown (g := gb120) (o := .cells #[.int .u8 (bt a0 x5_1), .int .u8 (bt a0 (ji7)), .int .u8 x121002_21, .int .u8 x121003_37, .int .u8 0] 31 (0, 0)) (by (with_reducible repeat (first | refine blk_drewN ?_ _ | refine blk_drew ?_ | refine blk_alloc ?_ _)); exact BK120.out) hg (Kd.R_away HO_4.out (fun _ hk => hk))); have n1_ := Aside0.mk (hb); have n2_ := Aside0.mk (ho); clear BK120; clear HB; clear HO_4; have BK120 := n0_; have HB := n1_; have HO129 := n2_; clear n0_ n1_ n2_; clear ho hb hg hat))
                                  go_roundg kj37
                                  case measure => have := HK1.out; have := HJ21.out; have := HJ37.out; omega
                                  case rel => exact ⟨(y127), (wrap64 ((wrap64 (x5_1 + 2)) + t121)), (by first | rfl | (simp; done) | (simp [*]; done)), H', ⟨by have := HK1.out; have := HJ21.out; have := HJ37.out; omega⟩, ⟨by (with_reducible repeat (first | apply Kd.R_alloc | apply Kd.R_drewN | apply Kd.R_drew)); exact Kd.R_mono HO129.out (fun _ hk => trivial)⟩, ⟨by repeat (first | (with_reducible first | exact HB.out | apply below_alloc | apply pw_below_drewN | apply below_drew1 | refine below_set ?_ GE120.out) | exact HB.out)⟩⟩
                                · rw [if_neg c61] at H
                                  exact absurd H (by simp)
                              · replace c60 := Bool.eq_false_iff.mpr c60
                                subst c60
                                have H1 : (some (([] : List (S31)), 3)) = some (r1, r2) := by rw [if_neg (show ¬ (false = true) by decide)] at H; exact H
                                clear H
                                have H := H1
                                clear H1
                                simp only [Option.some.injEq, Prod.mk.injEq] at H
                                obtain ⟨rfl, rfl⟩ := H
                                have hcz66_0 : wc.cell? ⟨gb120, 0, none⟩ = some (.int .u8 (bt a0 x5_1)) := (blk_cell BK120.out 0).trans rfl
                                have hcz66_1 : wc.cell? ⟨gb120, 1, none⟩ = some (.int .u8 (bt a0 (ji7))) := (blk_cell BK120.out 1).trans rfl
                                have hcz66_2 : wc.cell? ⟨gb120, 2, none⟩ = some (.int .u8 x121002_21) := (blk_cell BK120.out 2).trans rfl
                                have hcz66_3 : wc.cell? ⟨gb120, 3, none⟩ = some (.int .u8 x121003_37) := (blk_cell BK120.out 3).trans rfl
                                have hcz66_4 : wc.cell? ⟨gb120, 4, none⟩ = some (.int .u8 0) := (blk_cell BK120.out 4).trans rfl
                                have hfz66_0 := blk_frozen BK120.out 0
                                have hfz66_1 := blk_frozen BK120.out 1
                                have hfz66_2 := blk_frozen BK120.out 2
                                have hfz66_3 := blk_frozen BK120.out 3
                                have hfz66_4 := blk_frozen BK120.out 4
                                go_wp2_with (first | ((with_reducible refine gate_callee (f := 9) rfl ?_); refine goesL_ (some 60) rfl rfl Try.func9 (by kernel_rfl) rfl #[.agg #[.int .u8 (bt a0 x5_1), .int .u8 (bt a0 (ji7)), .int .u8 x121002_21, .int .u8 x121003_37, .int .u8 0]] rfl (by (try simp only [List.map_toArray, List.map_cons, List.map_nil]); first | done | (simp only [hji7]; rfl) | rfl | (simp only [List.length_drop, List.length_take]; rfl)) ?_; (with_reducible refine (demesneref11_May.calls (bt a0 x5_1) (bt a0 (ji7)) x121002_21 x121003_37 0 false _ A59.out).mono ?_); rintro e w67 ⟨rfl, hb⟩; refine ⟨_, rfl, ?_⟩; have n0_ := Aside0.mk (Kd.R_below (by (with_reducible repeat (first | apply Kd.R_alloc | apply Kd.R_drewN | apply Kd.R_drew)); exact HO_4.out) hb); have n1_ := Aside0.mk (blk_below (g := gb120) (o := .cells #[.int .u8 (bt a0 x5_1), .int .u8 (bt a0 (ji7)), .int .u8 x121002_21, .int .u8 x121003_37, .int .u8 0] 31 (0, 0)) (by (with_reducible repeat (first | refine blk_drewN ?_ _ | refine blk_drew ?_ | refine blk_alloc ?_ _)); exact BK120.out) hb); have n2_ := Aside0.mk (below_step (by repeat (first | (with_reducible first | exact HB.out | apply below_alloc | apply pw_below_drewN | apply below_drew1 | refine below_set ?_ GE120.out) | exact HB.out)) hb); clear HO_4; clear BK120; clear HB; have HO_4 := n0_; have BK120 := n1_; have HB := n2_; clear n0_ n1_ n2_; (try clear hb); (try clear hb2); (try clear hk); (try clear hi)))
                                go_ret2
                                exact ⟨_, by first | rfl | (simp [errW_none, errW_some] <;> rfl) | (simp only [← hji7]; first | rfl | (simp [errW_none, errW_some] <;> rfl)) | (simp [*, errW_none, errW_some] <;> rfl), by first | exact Kd.R_nil _ _ _ _ _ | exact Kd.N_nil _ _ _ _ _ | exact Kd.V_nil _ _ _ _ _ | exact Kd.Q_nil _ _ _ _ _ | exact Kd.S_nil _ _ _ _ _, by repeat (first | (with_reducible first | exact HB.out | apply below_alloc | apply pw_below_drewN | apply below_drew1 | refine below_set ?_ GE120.out) | exact HB.out)⟩
                · rw [if_neg c9] at H
                  exact absurd H (by simp)
              · rw [if_neg c8] at H
                exact absurd H (by simp)
            · rw [if_neg c5] at H
              exact absurd H (by simp)
        · rw [if_neg c3] at H
          have c3b0 : decide (x5_1 < (a0.size : Int)) = false := decide_eq_false c3
          clear c3
          simp only [Option.some.injEq, Prod.mk.injEq] at H
          obtain ⟨rfl, rfl⟩ := H
          go_wp2
          go_ret2
          exact ⟨_, by first | rfl | (simp [errW_none, errW_some] <;> rfl) | (simp [*, errW_none, errW_some] <;> rfl), by (with_reducible repeat (first | apply Kd.R_alloc | apply Kd.R_drewN | apply Kd.R_drew)); exact HO_4.out, by repeat (first | (with_reducible first | exact HB.out | apply below_alloc | apply pw_below_drewN | apply below_drew1) | exact HB.out)⟩

end Go.Proofs.Ytdibmmcdmjpbpaa.PScriptDecodes
