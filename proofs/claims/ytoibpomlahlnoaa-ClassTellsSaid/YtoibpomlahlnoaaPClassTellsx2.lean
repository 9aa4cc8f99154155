/- Proved here: of Go functions of this seat, what each call answers, as a Lean function of the same answers ('.f', '.calls'), or (the text Law..) the statement itself out of the text Pure..; no condition but those that each theorem writes out. Laid by a program of this session over the kit's print; by hand: demesne/class.Room. -/
import Derived.Test.YtoibpomlahlnoaaPClassTellsx0
import Derived.Test.YtoibpomlahlnoaaPClassTellsx1
namespace Go.Proofs.Ytoibpomlahlnoaa.PClassTells
open Go.RowKit Go.Proofs.YtoibpomlahlnoaaW.PrintWords Go.Proofs.YtoibpomlahlnoaaW.PrintLast Go.Proofs.YtoibpomlahlnoaaW.PrintMore
attribute [local go_sem] max2_int min2_int max_two min_two max_three min_three max_four min_four   -- for this text's walks alone
set_option linter.unusedVariables false
set_option linter.unusedSimpArgs false

/-! ### demesnelaw03_ClassTells: function 3 -/
mutual
def demesnelaw03_ClassTells.j0 : Nat → Int → Int → Bool → Option (Bool)
  | 0, _, _, _ => none
  | k + 1, x0, x1, x17 => if x17 = true then ((demesnelaw03_wakes.f k).bind fun t117 => (some t117)) else ((class_Of.f k x0).bind fun bt118 => ((class_Run.f x0).bind fun bt120 => ((demesneref03_Of.f k x0).bind fun t122 => (if (bt118.2 != (decide (t122 ≥ 0))) = true then (demesnelaw03_ClassTells.j1 k x1 true) else (if bt118.2 = true then (if bt118.1 = t122 then ((demesneref03_Run.f k x0).bind fun t123 => (if bt120.1 = t123 then (demesnelaw03_ClassTells.j1 k x1 (bt120.2 != (decide (bt120.1 > 0)))) else (demesnelaw03_ClassTells.j1 k x1 true))) else (demesnelaw03_ClassTells.j1 k x1 true)) else (if bt118.1 = 0 then ((demesneref03_Run.f k x0).bind fun t124 => (if bt120.1 = t124 then (demesnelaw03_ClassTells.j1 k x1 (bt120.2 != (decide (bt120.1 > 0)))) else (demesnelaw03_ClassTells.j1 k x1 true))) else (demesnelaw03_ClassTells.j1 k x1 true)))))))
def demesnelaw03_ClassTells.j1 : Nat → Int → Bool → Option (Bool)
  | 0, _, _ => none
  | k + 1, x1, x62 => if x62 = true then (some false) else ((demesneref03_Words.f x1).bind fun t125 => (if t125 > 0 then (demesnelaw03_ClassTells.j2 k x1 t125 (wrap64 (t125 - 1))) else (demesnelaw03_ClassTells.j2 k x1 t125 0)))
def demesnelaw03_ClassTells.j2 : Nat → Int → Int → Int → Option (Bool)
  | 0, _, _, _ => none
  | k + 1, x1, x10, x11 => (class_Words.f x1).bind fun t126 => (if t126 = x10 then ((class_Room.f x1).bind fun t127 => (if t127 = x11 then ((class_Cells.f x1).bind fun t128 => ((demesneref03_Starts.f k x1).bind fun t129 => (if t128 = (t129.length : Int) then ((demesnelaw03_wakes.f k).bind fun t132 => (some t132)) else (some false)))) else (some false))) else (some false))
end
def demesnelaw03_ClassTells.f (k : Nat) (a0 : Int) (a1 : Int) : Option (Bool) := if a0 > 1099511627776 then (demesnelaw03_ClassTells.j0 k a0 a1 true) else (demesnelaw03_ClassTells.j0 k a0 a1 (decide (a1 > 1099511627776)))
theorem demesnelaw03_ClassTells.mono_l : ∀ k, (∀ y0 y1 y2, LeO (demesnelaw03_ClassTells.j0 k y0 y1 y2) (demesnelaw03_ClassTells.j0 (k + 1) y0 y1 y2)) ∧ (∀ y0 y1, LeO (demesnelaw03_ClassTells.j1 k y0 y1) (demesnelaw03_ClassTells.j1 (k + 1) y0 y1)) ∧ (∀ y0 y1 y2, LeO (demesnelaw03_ClassTells.j2 k y0 y1 y2) (demesnelaw03_ClassTells.j2 (k + 1) y0 y1 y2))
  | 0 => ⟨fun _ _ _ r h => by simp [demesnelaw03_ClassTells.j0] at h, fun _ _ r h => by simp [demesnelaw03_ClassTells.j1] at h, fun _ _ _ r h => by simp [demesnelaw03_ClassTells.j2] at h⟩
  | k + 1 => by
    obtain ⟨ih0, ih1, ih2⟩ := demesnelaw03_ClassTells.mono_l k
    refine ⟨?_, ?_, ?_⟩
    · intro y0 y1 y2
      unfold demesnelaw03_ClassTells.j0
      repeat' first
      | (with_reducible exact ih0 _ _ _)
      | (with_reducible exact ih1 _ _)
      | (with_reducible exact ih2 _ _ _)
      | (with_reducible exact class_Of.mono _ _)
      | (with_reducible exact demesnelaw03_wakes.mono _)
      | (with_reducible exact demesneref03_Of.mono _ _)
      | (with_reducible exact demesneref03_Run.mono _ _)
      | (with_reducible exact demesneref03_Starts.mono _ _)
      | (with_reducible exact LeO.refl _)
      | (with_reducible exact LeO.none _)
      | (with_reducible refine LeO.ite ?_ ?_)
      | (with_reducible refine LeO.bind ?_ (fun _ => ?_))
      | exact ih0 _ _ _
      | exact ih1 _ _
      | exact ih2 _ _ _
      | exact class_Of.mono _ _
      | exact demesnelaw03_wakes.mono _
      | exact demesneref03_Of.mono _ _
      | exact demesneref03_Run.mono _ _
      | exact demesneref03_Starts.mono _ _
      | exact LeO.none _
      | refine LeO.ite ?_ ?_
      | refine LeO.bind ?_ (fun _ => ?_)
    · intro y0 y1
      unfold demesnelaw03_ClassTells.j1
      repeat' first
      | (with_reducible exact ih0 _ _ _)
      | (with_reducible exact ih1 _ _)
      | (with_reducible exact ih2 _ _ _)
      | (with_reducible exact class_Of.mono _ _)
      | (with_reducible exact demesnelaw03_wakes.mono _)
      | (with_reducible exact demesneref03_Of.mono _ _)
      | (with_reducible exact demesneref03_Run.mono _ _)
      | (with_reducible exact demesneref03_Starts.mono _ _)
      | (with_reducible exact LeO.refl _)
      | (with_reducible exact LeO.none _)
      | (with_reducible refine LeO.ite ?_ ?_)
      | (with_reducible refine LeO.bind ?_ (fun _ => ?_))
      | exact ih0 _ _ _
      | exact ih1 _ _
      | exact ih2 _ _ _
      | exact class_Of.mono _ _
      | exact demesnelaw03_wakes.mono _
      | exact demesneref03_Of.mono _ _
      | exact demesneref03_Run.mono _ _
      | exact demesneref03_Starts.mono _ _
      | exact LeO.none _
      | refine LeO.ite ?_ ?_
      | refine LeO.bind ?_ (fun _ => ?_)
    · intro y0 y1 y2
      unfold demesnelaw03_ClassTells.j2
      repeat' first
      | (with_reducible exact ih0 _ _ _)
      | (with_reducible exact ih1 _ _)
      | (with_reducible exact ih2 _ _ _)
      | (with_reducible exact class_Of.mono _ _)
      | (with_reducible exact demesnelaw03_wakes.mono _)
      | (with_reducible exact demesneref03_Of.mono _ _)
      | (with_reducible exact demesneref03_Run.mono _ _)
      | (with_reducible exact demesneref03_Starts.mono _ _)
      | (with_reducible exact LeO.refl _)
      | (with_reducible exact LeO.none _)
      | (with_reducible refine LeO.ite ?_ ?_)
      | (with_reducible refine LeO.bind ?_ (fun _ => ?_))
      | exact ih0 _ _ _
      | exact ih1 _ _
      | exact ih2 _ _ _
      | exact class_Of.mono _ _
      | exact demesnelaw03_wakes.mono _
      | exact demesneref03_Of.mono _ _
      | exact demesneref03_Run.mono _ _
      | exact demesneref03_Starts.mono _ _
      | exact LeO.none _
      | refine LeO.ite ?_ ?_
      | refine LeO.bind ?_ (fun _ => ?_)
theorem demesnelaw03_ClassTells.mono : ∀ a0 a1 k, LeO (demesnelaw03_ClassTells.f k a0 a1) (demesnelaw03_ClassTells.f (k + 1) a0 a1) := by
  intro a0 a1 k
  obtain ⟨ih0, ih1, ih2⟩ := demesnelaw03_ClassTells.mono_l k
  unfold demesnelaw03_ClassTells.f
  repeat' first
      | (with_reducible exact ih0 _ _ _)
      | (with_reducible exact ih1 _ _)
      | (with_reducible exact ih2 _ _ _)
      | (with_reducible exact class_Of.mono _ _)
      | (with_reducible exact demesnelaw03_wakes.mono _)
      | (with_reducible exact demesneref03_Of.mono _ _)
      | (with_reducible exact demesneref03_Run.mono _ _)
      | (with_reducible exact demesneref03_Starts.mono _ _)
      | (with_reducible exact LeO.refl _)
      | (with_reducible exact LeO.none _)
      | (with_reducible refine LeO.ite ?_ ?_)
      | (with_reducible refine LeO.bind ?_ (fun _ => ?_))
      | exact ih0 _ _ _
      | exact ih1 _ _
      | exact ih2 _ _ _
      | exact class_Of.mono _ _
      | exact demesnelaw03_wakes.mono _
      | exact demesneref03_Of.mono _ _
      | exact demesneref03_Run.mono _ _
      | exact demesneref03_Starts.mono _ _
      | exact LeO.none _
      | refine LeO.ite ?_ ?_
      | refine LeO.bind ?_ (fun _ => ?_)
set_option maxHeartbeats 8000000 in
set_option maxRecDepth 100000 in
theorem demesnelaw03_ClassTells.calls (k : Nat) (a0 : Int) (a1 : Int) (r : Bool) (w : World) (h : demesnelaw03_ClassTells.f k a0 a1 = some r) :
    Calls Try.prog 3 #[.int .i64 a0, .int .i64 a1] w fun e w' => e = .returned (.bool r) ∧ Below w.heap.size w w' := by
  have HB := Aside0.mk (Below.refl w.heap.size w)
  have H : (if a0 > 1099511627776 then (demesnelaw03_ClassTells.j0 k a0 a1 true) else (demesnelaw03_ClassTells.j0 k a0 a1 (decide (a1 > 1099511627776)))) = some r := h
  clear h
  have HC3 := Aside0.mk H
  clear H
  go_enter Try.func3, Try.ntmps3
  go_upto_region 1 with (fail)
  go_cut [17] (fun v17 wc => ∃ (kq : Nat) (x17_2 : Bool), v17 = .bool x17_2 ∧ Aside0 (demesnelaw03_ClassTells.j0 kq a0 a1 x17_2 = some r) ∧ Aside0 (kq ≤ k) ∧ Aside0 (Below w.heap.size w wc))
  case first =>
    have H := HC3.out
    clear HC3
    by_cases c4 : a0 > 1099511627776
    · rw [if_pos c4] at H
      have c4b0 : decide (1099511627776 < a0) = true := decide_eq_true c4
      clear c4
      (first | rw [c4b0] | (simp only [i64_w, i32_w]; rw [c4b0]) | skip)
      have H' := Aside0.mk H
      clear H
      go_wp2
      go_meet
      case rel => exact ⟨_, (true), (by first | rfl | (simp; done) | (simp [*]; done)), H', ⟨by first | omega | exact Nat.le_refl _⟩, ⟨by repeat (first | (with_reducible first | exact HB.out | apply below_alloc | apply pw_below_drewN | apply below_drew1) | exact HB.out)⟩⟩
    · rw [if_neg c4] at H
      have c4b0 : decide (1099511627776 < a0) = false := decide_eq_false c4
      clear c4
      (first | rw [c4b0] | (simp only [i64_w, i32_w]; rw [c4b0]) | skip)
      have H' := Aside0.mk H
      clear H
      go_wp2
      go_meet
      case rel => exact ⟨_, (decide (a1 > 1099511627776)), (by first | rfl | (simp; done) | (simp [*]; done)), H', ⟨by first | omega | exact Nat.le_refl _⟩, ⟨by repeat (first | (with_reducible first | exact HB.out | apply below_alloc | apply pw_below_drewN | apply below_drew1) | exact HB.out)⟩⟩
  case rest =>
    clear HC3
    try clear p2
    try clear c3
    try clear c4
    try clear c4b0
    obtain ⟨kq, x17_2, rfl, HA, HJ2, HB⟩ := hcut
    cases kq with
    | zero => exact absurd HA.out (by simp [demesnelaw03_ClassTells.j0])
    | succ kj2 =>
      have H := HA.out
      clear HA
      simp only [demesnelaw03_ClassTells.j0] at H
      by_cases c5 : x17_2 = true
      · subst c5
        have H1 : ((demesnelaw03_wakes.f kj2).bind fun t117 => (some t117)) = some r := by rw [if_pos rfl] at H; exact H
        clear H
        have H := H1
        clear H1
        replace H := Option.bind_eq_some_iff.mp H
        obtain ⟨t117, A60, H⟩ := H
        replace H : (some t117) = some r := H
        have A6 := Aside0.mk A60
        clear A60
        obtain rfl := Option.some.inj H
        go_wp2_with (first | ((with_reducible refine gate_callee (f := 6) rfl ?_); refine goesL_ (some 18) rfl rfl Try.func6 (by kernel_rfl) rfl #[] rfl (by (try simp only [List.map_toArray, List.map_cons, List.map_nil]); first | done | rfl | (simp only [List.length_drop, List.length_take]; rfl)) ?_; (with_reducible refine (demesnelaw03_wakes.calls kj2  t117 _ A6.out).mono ?_); rintro e w7 ⟨rfl, hb⟩; refine ⟨_, rfl, ?_⟩; have n0_ := Aside0.mk (below_step (by repeat (first | (with_reducible first | exact HB.out | apply below_alloc | apply pw_below_drewN | apply below_drew1) | exact HB.out)) hb); clear HB; have HB := n0_; clear n0_; (try clear hb); (try clear hb2); (try clear hk); (try clear hi)))
        go_ret
        exact ⟨by first | rfl | (simp [errW_none, errW_some] <;> rfl) | (simp [*, errW_none, errW_some] <;> rfl), by repeat (first | (with_reducible first | exact HB.out | apply below_alloc | apply pw_below_drewN | apply below_drew1) | exact HB.out)⟩
      · replace c5 := Bool.eq_false_iff.mpr c5
        subst c5
        have H1 : ((class_Of.f kj2 a0).bind fun bt118 => ((class_Run.f a0).bind fun bt120 => ((demesneref03_Of.f kj2 a0).bind fun t122 => (if (bt118.2 != (decide (t122 ≥ 0))) = true then (demesnelaw03_ClassTells.j1 kj2 a1 true) else (if bt118.2 = true then (if bt118.1 = t122 then ((demesneref03_Run.f kj2 a0).bind fun t123 => (if bt120.1 = t123 then (demesnelaw03_ClassTells.j1 kj2 a1 (bt120.2 != (decide (bt120.1 > 0)))) else (demesnelaw03_ClassTells.j1 kj2 a1 true))) else (demesnelaw03_ClassTells.j1 kj2 a1 true)) else (if bt118.1 = 0 then ((demesneref03_Run.f kj2 a0).bind fun t124 => (if bt120.1 = t124 then (demesnelaw03_ClassTells.j1 kj2 a1 (bt120.2 != (decide (bt120.1 > 0)))) else (demesnelaw03_ClassTells.j1 kj2 a1 true))) else (demesnelaw03_ClassTells.j1 kj2 a1 true))))))) = some r := by rw [if_neg (show ¬ (false = true) by decide)] at H; exact H
        clear H
        have H := H1
        clear H1
        replace H := Option.bind_eq_some_iff.mp H
        obtain ⟨⟨t118, t119⟩, A80, H⟩ := H
        replace H : ((class_Run.f a0).bind fun bt120 => ((demesneref03_Of.f kj2 a0).bind fun t122 => (if (t119 != (decide (t122 ≥ 0))) = true then (demesnelaw03_ClassTells.j1 kj2 a1 true) else (if t119 = true then (if t118 = t122 then ((demesneref03_Run.f kj2 a0).bind fun t123 => (if bt120.1 = t123 then (demesnelaw03_ClassTells.j1 kj2 a1 (bt120.2 != (decide (bt120.1 > 0)))) else (demesnelaw03_ClassTells.j1 kj2 a1 true))) else (demesnelaw03_ClassTells.j1 kj2 a1 true)) else (if t118 = 0 then ((demesneref03_Run.f kj2 a0).bind fun t124 => (if bt120.1 = t124 then (demesnelaw03_ClassTells.j1 kj2 a1 (bt120.2 != (decide (bt120.1 > 0)))) else (demesnelaw03_ClassTells.j1 kj2 a1 true))) else (demesnelaw03_ClassTells.j1 kj2 a1 true)))))) = some r := H
        have A8 := Aside0.mk A80
        clear A80
        replace H := Option.bind_eq_some_iff.mp H
        obtain ⟨⟨t120, t121⟩, A90, H⟩ := H
        replace H : ((demesneref03_Of.f kj2 a0).bind fun t122 => (if (t119 != (decide (t122 ≥ 0))) = true then (demesnelaw03_ClassTells.j1 kj2 a1 true) else (if t119 = true then (if t118 = t122 then ((demesneref03_Run.f kj2 a0).bind fun t123 => (if t120 = t123 then (demesnelaw03_ClassTells.j1 kj2 a1 (t121 != (decide (t120 > 0)))) else (demesnelaw03_ClassTells.j1 kj2 a1 true))) else (demesnelaw03_ClassTells.j1 kj2 a1 true)) else (if t118 = 0 then ((demesneref03_Run.f kj2 a0).bind fun t124 => (if t120 = t124 then (demesnelaw03_ClassTells.j1 kj2 a1 (t121 != (decide (t120 > 0)))) else (demesnelaw03_ClassTells.j1 kj2 a1 true))) else (demesnelaw03_ClassTells.j1 kj2 a1 true))))) = some r := H
        have A9 := Aside0.mk A90
        clear A90
        replace H := Option.bind_eq_some_iff.mp H
        obtain ⟨t122, A100, H⟩ := H
        replace H : (if (t119 != (decide (t122 ≥ 0))) = true then (demesnelaw03_ClassTells.j1 kj2 a1 true) else (if t119 = true then (if t118 = t122 then ((demesneref03_Run.f kj2 a0).bind fun t123 => (if t120 = t123 then (demesnelaw03_ClassTells.j1 kj2 a1 (t121 != (decide (t120 > 0)))) else (demesnelaw03_ClassTells.j1 kj2 a1 true))) else (demesnelaw03_ClassTells.j1 kj2 a1 true)) else (if t118 = 0 then ((demesneref03_Run.f kj2 a0).bind fun t124 => (if t120 = t124 then (demesnelaw03_ClassTells.j1 kj2 a1 (t121 != (decide (t120 > 0)))) else (demesnelaw03_ClassTells.j1 kj2 a1 true))) else (demesnelaw03_ClassTells.j1 kj2 a1 true)))) = some r := H
        have A10 := Aside0.mk A100
        clear A100
        have HC11 := Aside0.mk H
        clear H
        go_upto_region 6 with (first | ((with_reducible refine gate_callee (f := 7) rfl ?_); refine goesL_ (some 21) rfl rfl Try.func7 (by kernel_rfl) rfl #[.int .i64 a0] rfl (by (try simp only [List.map_toArray, List.map_cons, List.map_nil]); first | done | rfl | (simp only [List.length_drop, List.length_take]; rfl)) ?_; (with_reducible refine (class_Of.calls kj2 a0 t118 t119 _ A8.out).mono ?_); rintro e w12 ⟨rfl, hb⟩; refine ⟨_, rfl, ?_⟩; have n0_ := Aside0.mk (below_step (by repeat (first | (with_reducible first | exact HB.out | apply below_alloc | apply pw_below_drewN | apply below_drew1) | exact HB.out)) hb); clear HB; have HB := n0_; clear n0_; (try clear hb); (try clear hb2); (try clear hk); (try clear hi)) | ((with_reducible refine gate_callee (f := 8) rfl ?_); refine goesL_ (some 26) rfl rfl Try.func8 (by kernel_rfl) rfl #[.int .i64 a0] rfl (by (try simp only [List.map_toArray, List.map_cons, List.map_nil]); first | done | rfl | (simp only [List.length_drop, List.length_take]; rfl)) ?_; (with_reducible refine (class_Run.calls a0 t120 t121 _ A9.out).mono ?_); rintro e w' ⟨rfl, ⟨nd, rfl⟩⟩; refine ⟨_, rfl, ?_⟩) | ((with_reducible refine gate_callee (f := 9) rfl ?_); refine goesL_ (some 30) rfl rfl Try.func9 (by kernel_rfl) rfl #[.int .i64 a0] rfl (by (try simp only [List.map_toArray, List.map_cons, List.map_nil]); first | done | rfl | (simp only [List.length_drop, List.length_take]; rfl)) ?_; (with_reducible refine (demesneref03_Of.calls kj2 a0 t122 _ A10.out).mono ?_); rintro e w' ⟨rfl, ⟨nd, rfl⟩⟩; refine ⟨_, rfl, ?_⟩))
        (try simp only [Act.put, List.setIfInBounds_toArray, List.set_cons_zero, List.set_cons_succ])
        go_cut [62] (fun v62 wc => ∃ (kq : Nat) (x62_10 : Bool), v62 = .bool x62_10 ∧ Aside0 (demesnelaw03_ClassTells.j1 kq a1 x62_10 = some r) ∧ Aside0 (kq ≤ kj2) ∧ Aside0 (Below w.heap.size w wc))
        case first =>
          have H := HC11.out
          clear HC11
          by_cases c13 : (t119 != (decide (t122 ≥ 0))) = true
          · rw [if_pos c13] at H
            have c13b0 : (t119 != (decide (t122 ≥ 0))) = true := c13
            (try (have c13b1 : decide (t119 = (decide (t122 ≥ 0))) = false := by simpa using c13))
            (try (have c13b2 : (t119 == (decide (t122 ≥ 0))) = false := by simpa using c13))
            (try (have c13b3 : ¬ (t119 = (decide (t122 ≥ 0))) := by simpa using c13))
            clear c13
            (first | rw [c13b0] | (simp only [i64_w, i32_w]; rw [c13b0]) | skip)
            have H' := Aside0.mk H
            clear H
            go_wp2
            go_meet
            case rel => exact ⟨_, (true), (by first | rfl | (simp; done) | (simp [*]; done)), H', ⟨by have := HJ2.out; first | omega | exact Nat.le_refl _⟩, ⟨by repeat (first | (with_reducible first | exact HB.out | apply below_alloc | apply pw_below_drewN | apply below_drew1) | exact HB.out)⟩⟩
          · rw [if_neg c13] at H
            have c13b0 : (t119 != (decide (t122 ≥ 0))) = false := by simpa using c13
            (try (have c13b1 : decide (t119 = (decide (t122 ≥ 0))) = true := by simpa using c13))
            (try (have c13b2 : (t119 == (decide (t122 ≥ 0))) = true := by simpa using c13))
            clear c13
            (first | rw [c13b0] | (simp only [i64_w, i32_w]; rw [c13b0]) | skip)
            by_cases c14 : t119 = true
            · subst c14
              have H1 : (if t118 = t122 then ((demesneref03_Run.f kj2 a0).bind fun t123 => (if t120 = t123 then (demesnelaw03_ClassTells.j1 kj2 a1 (t121 != (decide (t120 > 0)))) else (demesnelaw03_ClassTells.j1 kj2 a1 true))) else (demesnelaw03_ClassTells.j1 kj2 a1 true)) = some r := by rw [if_pos rfl] at H; exact H
              clear H
              have H := H1
              clear H1
              by_cases c15 : t118 = t122
              · rw [if_pos c15] at H
                have c15b0 : (t118 == t122) = true := beq_iff_eq.mpr c15
                have c15b1 : (t118 != t122) = false := bne_eq_false_iff_eq.mpr c15
                clear c15
                replace H := Option.bind_eq_some_iff.mp H
                obtain ⟨t123, A160, H⟩ := H
                replace H : (if t120 = t123 then (demesnelaw03_ClassTells.j1 kj2 a1 (t121 != (decide (t120 > 0)))) else (demesnelaw03_ClassTells.j1 kj2 a1 true)) = some r := H
                have A16 := Aside0.mk A160
                clear A160
                by_cases c17 : t120 = t123
                · rw [if_pos c17] at H
                  have c17b0 : (t120 == t123) = true := beq_iff_eq.mpr c17
                  have c17b1 : (t120 != t123) = false := bne_eq_false_iff_eq.mpr c17
                  clear c17
                  have H' := Aside0.mk H
                  clear H
                  go_wp2_with (first | (go_at_call 10; (with_reducible refine (demesneref03_Run.calls kj2 a0 t123 _ A16.out).mono ?_); rintro e w' ⟨rfl, ⟨nd, rfl⟩⟩))
                  go_meet
                  case rel => exact ⟨_, ((t121 != (decide (t120 > 0)))), (by first | rfl | (simp; done) | (simp [*]; done)), H', ⟨by have := HJ2.out; first | omega | exact Nat.le_refl _⟩, ⟨by repeat (first | (with_reducible first | exact HB.out | apply below_alloc | apply pw_below_drewN | apply below_drew1) | exact HB.out)⟩⟩
                · rw [if_neg c17] at H
                  have c17b0 : (t120 == t123) = false := beq_eq_false_iff_ne.mpr c17
                  have c17b1 : (t120 != t123) = true := bne_iff_ne.mpr c17
                  have H' := Aside0.mk H
                  clear H
                  go_wp2_with (first | (go_at_call 10; (with_reducible refine (demesneref03_Run.calls kj2 a0 t123 _ A16.out).mono ?_); rintro e w' ⟨rfl, ⟨nd, rfl⟩⟩))
                  go_meet
                  case rel => exact ⟨_, (true), (by first | rfl | (simp; done) | (simp [*]; done)), H', ⟨by have := HJ2.out; first | omega | exact Nat.le_refl _⟩, ⟨by repeat (first | (with_reducible first | exact HB.out | apply below_alloc | apply pw_below_drewN | apply below_drew1) | exact HB.out)⟩⟩
              · rw [if_neg c15] at H
                have c15b0 : (t118 == t122) = false := beq_eq_false_iff_ne.mpr c15
                have c15b1 : (t118 != t122) = true := bne_iff_ne.mpr c15
                have H' := Aside0.mk H
                clear H
                go_wp2
                go_meet
                case rel => exact ⟨_, (true), (by first | rfl | (simp; done) | (simp [*]; done)), H', ⟨by have := HJ2.out; first | omega | exact Nat.le_refl _⟩, ⟨by repeat (first | (with_reducible first | exact HB.out | apply below_alloc | apply pw_below_drewN | apply below_drew1) | exact HB.out)⟩⟩
            · replace c14 := Bool.eq_false_iff.mpr c14
              subst c14
              have H1 : (if t118 = 0 then ((demesneref03_Run.f kj2 a0).bind fun t124 => (if t120 = t124 then (demesnelaw03_ClassTells.j1 kj2 a1 (t121 != (decide (t120 > 0)))) else (demesnelaw03_ClassTells.j1 kj2 a1 true))) else (demesnelaw03_ClassTells.j1 kj2 a1 true)) = some r := by rw [if_neg (show ¬ (false = true) by decide)] at H; exact H
              clear H
              have H := H1
              clear H1
              by_cases c18 : t118 = 0
              · rw [if_pos c18] at H
                have c18b0 : (t118 == 0) = true := beq_iff_eq.mpr c18
                have c18b1 : (t118 != 0) = false := bne_eq_false_iff_eq.mpr c18
                clear c18
                replace H := Option.bind_eq_some_iff.mp H
                obtain ⟨t124, A190, H⟩ := H
                replace H : (if t120 = t124 then (demesnelaw03_ClassTells.j1 kj2 a1 (t121 != (decide (t120 > 0)))) else (demesnelaw03_ClassTells.j1 kj2 a1 true)) = some r := H
                have A19 := Aside0.mk A190
                clear A190
                by_cases c20 : t120 = t124
                · rw [if_pos c20] at H
                  have c20b0 : (t120 == t124) = true := beq_iff_eq.mpr c20
                  have c20b1 : (t120 != t124) = false := bne_eq_false_iff_eq.mpr c20
                  clear c20
                  have H' := Aside0.mk H
                  clear H
                  go_wp2_with (first | (go_at_call 10; (with_reducible refine (demesneref03_Run.calls kj2 a0 t124 _ A19.out).mono ?_); rintro e w' ⟨rfl, ⟨nd, rfl⟩⟩))
                  go_meet
                  case rel => exact ⟨_, ((t121 != (decide (t120 > 0)))), (by first | rfl | (simp; done) | (simp [*]; done)), H', ⟨by have := HJ2.out; first | omega | exact Nat.le_refl _⟩, ⟨by repeat (first | (with_reducible first | exact HB.out | apply below_alloc | apply pw_below_drewN | apply below_drew1) | exact HB.out)⟩⟩
                · rw [if_neg c20] at H
                  have c20b0 : (t120 == t124) = false := beq_eq_false_iff_ne.mpr c20
                  have c20b1 : (t120 != t124) = true := bne_iff_ne.mpr c20
                  have H' := Aside0.mk H
                  clear H
                  go_wp2_with (first | (go_at_call 10; (with_reducible refine (demesneref03_Run.calls kj2 a0 t124 _ A19.out).mono ?_); rintro e w' ⟨rfl, ⟨nd, rfl⟩⟩))
                  go_meet
                  case rel => exact ⟨_, (true), (by first | rfl | (simp; done) | (simp [*]; done)), H', ⟨by have := HJ2.out; first | omega | exact Nat.le_refl _⟩, ⟨by repeat (first | (with_reducible first | exact HB.out | apply below_alloc | apply pw_below_drewN | apply below_drew1) | exact HB.out)⟩⟩
              · rw [if_neg c18] at H
                have c18b0 : (t118 == 0) = false := beq_eq_false_iff_ne.mpr c18
                have c18b1 : (t118 != 0) = true := bne_iff_ne.mpr c18
                have H' := Aside0.mk H
                clear H
                go_wp2
                go_meet
                case rel => exact ⟨_, (true), (by first | rfl | (simp; done) | (simp [*]; done)), H', ⟨by have := HJ2.out; first | omega | exact Nat.le_refl _⟩, ⟨by repeat (first | (with_reducible first | exact HB.out | apply below_alloc | apply pw_below_drewN | apply below_drew1) | exact HB.out)⟩⟩
        case rest =>
          clear HC11
          try clear c1
          try clear c2
          try clear p2
          try clear c3
          try clear c4
          try clear c4b0
          try clear c5
          try clear c6
          try clear c7
          try clear c8
          try clear c9
          try clear c13
          try clear c13b0
          try clear c13b1
          try clear c13b2
          try clear c14
          try clear c15
          try clear c15b0
          try clear c15b1
          try clear c17
          try clear c17b0
          try clear c17b1
          try clear c18
          try clear c18b0
          try clear c18b1
          try clear c20
          try clear c20b0
          try clear c20b1
          try clear p2
          obtain ⟨kq, x62_10, rfl, HA, HJ10, HB⟩ := hcut
          cases kq with
          | zero => exact absurd HA.out (by simp [demesnelaw03_ClassTells.j1])
          | succ kj10 =>
            have H := HA.out
            clear HA
            simp only [demesnelaw03_ClassTells.j1] at H
            by_cases c21 : x62_10 = true
            · subst c21
              have H1 : (some false) = some r := by rw [if_pos rfl] at H; exact H
              clear H
              have H := H1
              clear H1
              obtain rfl := Option.some.inj H
              go_wp2
              go_ret
              exact ⟨by first | rfl | (simp [errW_none, errW_some] <;> rfl) | (simp [*, errW_none, errW_some] <;> rfl), by repeat (first | (with_reducible first | exact HB.out | apply below_alloc | apply pw_below_drewN | apply below_drew1) | exact HB.out)⟩
            · replace c21 := Bool.eq_false_iff.mpr c21
              subst c21
              have H1 : ((demesneref03_Words.f a1).bind fun t125 => (if t125 > 0 then (demesnelaw03_ClassTells.j2 kj10 a1 t125 (wrap64 (t125 - 1))) else (demesnelaw03_ClassTells.j2 kj10 a1 t125 0))) = some r := by rw [if_neg (show ¬ (false = true) by decide)] at H; exact H
              clear H
              have H := H1
              clear H1
              replace H := Option.bind_eq_some_iff.mp H
              obtain ⟨t125, A220, H⟩ := H
              replace H : (if t125 > 0 then (demesnelaw03_ClassTells.j2 kj10 a1 t125 (wrap64 (t125 - 1))) else (demesnelaw03_ClassTells.j2 kj10 a1 t125 0)) = some r := H
              have A22 := Aside0.mk A220
              clear A220
              have HC23 := Aside0.mk H
              clear H
              go_upto_if 66 with (first | ((with_reducible refine gate_callee (f := 11) rfl ?_); refine goesL_ (some 64) rfl rfl Try.func11 (by kernel_rfl) rfl #[.int .i64 a1] rfl (by (try simp only [List.map_toArray, List.map_cons, List.map_nil]); first | done | rfl | (simp only [List.length_drop, List.length_take]; rfl)) ?_; (with_reducible refine (demesneref03_Words.calls a1 t125 _ A22.out).mono ?_); rintro e w' ⟨rfl, ⟨nd, rfl⟩⟩; refine ⟨_, rfl, ?_⟩))
              (try simp only [Act.put, List.setIfInBounds_toArray, List.set_cons_zero, List.set_cons_succ])
              go_cut [11] (fun v11 wc => ∃ (kq : Nat) (x11_22 : Int), v11 = .int .i64 x11_22 ∧ Aside0 (demesnelaw03_ClassTells.j2 kq a1 t125 x11_22 = some r) ∧ Aside0 (kq ≤ kj10) ∧ Aside0 (Below w.heap.size w wc))
              case first =>
                have H := HC23.out
                clear HC23
                by_cases c24 : t125 > 0
                · rw [if_pos c24] at H
                  have c24b0 : decide (0 < t125) = true := decide_eq_true c24
                  clear c24
                  (first | rw [c24b0] | (simp only [i64_w, i32_w]; rw [c24b0]) | skip)
                  have H' := Aside0.mk H
                  clear H
                  go_wp2
                  go_meet
                  case rel => exact ⟨_, (wrap64 (t125 - 1)), (by first | rfl | (simp; done) | (simp [*]; done)), H', ⟨by have := HJ2.out; have := HJ10.out; first | omega | exact Nat.le_refl _⟩, ⟨by repeat (first | (with_reducible first | exact HB.out | apply below_alloc | apply pw_below_drewN | apply below_drew1) | exact HB.out)⟩⟩
                · rw [if_neg c24] at H
                  have c24b0 : decide (0 < t125) = false := decide_eq_false c24
                  clear c24
                  (first | rw [c24b0] | (simp only [i64_w, i32_w]; rw [c24b0]) | skip)
                  have H' := Aside0.mk H
                  clear H
                  go_wp2
                  go_meet
                  case rel => exact ⟨_, (0), (by first | rfl | (simp; done) | (simp [*]; done)), H', ⟨by have := HJ2.out; have := HJ10.out; first | omega | exact Nat.le_refl _⟩, ⟨by repeat (first | (with_reducible first | exact HB.out | apply below_alloc | apply pw_below_drewN | apply below_drew1) | exact HB.out)⟩⟩
              case rest =>
                clear HC23
                try clear c1
                try clear c2
                try clear p2
                try clear c3
                try clear c4
                try clear c4b0
                try clear c5
                try clear c6
                try clear p6
                try clear c7
                try clear c8
                try clear c9
                try clear c11
                try clear c13
                try clear c13b0
                try clear c13b1
                try clear c13b2
                try clear c14
                try clear c15
                try clear c15b0
                try clear c15b1
                try clear c17
                try clear c17b0
                try clear c17b1
                try clear c18
                try clear c18b0
                try clear c18b1
                try clear c20
                try clear c20b0
                try clear c20b1
                try clear c21
                try clear c24
                try clear c24b0
                try clear p2
                obtain ⟨kq, x11_22, rfl, HA, HJ22, HB⟩ := hcut
                cases kq with
                | zero => exact absurd HA.out (by simp [demesnelaw03_ClassTells.j2])
                | succ kj22 =>
                  have H := HA.out
                  clear HA
                  simp only [demesnelaw03_ClassTells.j2] at H
                  replace H := Option.bind_eq_some_iff.mp H
                  obtain ⟨t126, A250, H⟩ := H
                  replace H : (if t126 = t125 then ((class_Room.f a1).bind fun t127 => (if t127 = x11_22 then ((class_Cells.f a1).bind fun t128 => ((demesneref03_Starts.f kj22 a1).bind fun t129 => (if t128 = (t129.length : Int) then ((demesnelaw03_wakes.f kj22).bind fun t132 => (some t132)) else (some false)))) else (some false))) else (some false)) = some r := H
                  have A25 := Aside0.mk A250
                  clear A250
                  by_cases c26 : t126 = t125
                  · rw [if_pos c26] at H
                    have c26b0 : (t126 == t125) = true := beq_iff_eq.mpr c26
                    have c26b1 : (t126 != t125) = false := bne_eq_false_iff_eq.mpr c26
                    clear c26
                    replace H := Option.bind_eq_some_iff.mp H
                    obtain ⟨t127, A270, H⟩ := H
                    replace H : (if t127 = x11_22 then ((class_Cells.f a1).bind fun t128 => ((demesneref03_Starts.f kj22 a1).bind fun t129 => (if t128 = (t129.length : Int) then ((demesnelaw03_wakes.f kj22).bind fun t132 => (some t132)) else (some false)))) else (some false)) = some r := H
                    have A27 := Aside0.mk A270
                    clear A270
                    by_cases c28 : t127 = x11_22
                    · rw [if_pos c28] at H
                      have c28b0 : (t127 == x11_22) = true := beq_iff_eq.mpr c28
                      have c28b1 : (t127 != x11_22) = false := bne_eq_false_iff_eq.mpr c28
                      clear c28
                      replace H := Option.bind_eq_some_iff.mp H
                      obtain ⟨t128, A290, H⟩ := H
                      replace H : ((demesneref03_Starts.f kj22 a1).bind fun t129 => (if t128 = (t129.length : Int) then ((demesnelaw03_wakes.f kj22).bind fun t132 => (some t132)) else (some false))) = some r := H
                      have A29 := Aside0.mk A290
                      clear A290
                      replace H := Option.bind_eq_some_iff.mp H
                      obtain ⟨t129, A300, H⟩ := H
                      replace H : (if t128 = (t129.length : Int) then ((demesnelaw03_wakes.f kj22).bind fun t132 => (some t132)) else (some false)) = some r := H
                      have A30 := Aside0.mk A300
                      clear A300
                      by_cases c31 : t128 = (t129.length : Int)
                      · rw [if_pos c31] at H
                        have c31b0 : (t128 == (t129.length : Int)) = true := beq_iff_eq.mpr c31
                        have c31b1 : (t128 != (t129.length : Int)) = false := bne_eq_false_iff_eq.mpr c31
                        clear c31
                        replace H := Option.bind_eq_some_iff.mp H
                        obtain ⟨t132, A320, H⟩ := H
                        replace H : (some t132) = some r := H
                        have A32 := Aside0.mk A320
                        clear A320
                        obtain rfl := Option.some.inj H
                        go_wp2_with (first | ((with_reducible refine gate_callee (f := 12) rfl ?_); refine goesL_ (some 70) rfl rfl Try.func12 (by kernel_rfl) rfl #[.int .i64 a1] rfl (by (try simp only [List.map_toArray, List.map_cons, List.map_nil]); first | done | rfl | (simp only [List.length_drop, List.length_take]; rfl)) ?_; (with_reducible refine (class_Words.calls a1 t126 _ A25.out).mono ?_); rintro e w33 ⟨rfl, hb⟩; refine ⟨_, rfl, ?_⟩; have n0_ := Aside0.mk (below_step (by repeat (first | (with_reducible first | exact HB.out | apply below_alloc | apply pw_below_drewN | apply below_drew1) | exact HB.out)) hb); clear HB; have HB := n0_; clear n0_; (try clear hb); (try clear hb2); (try clear hk); (try clear hi)) | (go_at_call 13; (with_reducible refine (class_Room.calls a1 t127 _ A27.out).mono ?_); rintro e w34 ⟨rfl, hb⟩; have n0_ := Aside0.mk (below_step (by repeat (first | (with_reducible first | exact HB.out | apply below_alloc | apply pw_below_drewN | apply below_drew1) | exact HB.out)) hb); clear HB; have HB := n0_; clear n0_; (try clear hb); (try clear hb2); (try clear hk); (try clear hi)) | (go_at_call 14; (with_reducible refine (class_Cells.calls a1 t128 _ A29.out).mono ?_); rintro e w35 ⟨rfl, hb⟩; have n0_ := Aside0.mk (below_step (by repeat (first | (with_reducible first | exact HB.out | apply below_alloc | apply pw_below_drewN | apply below_drew1) | exact HB.out)) hb); clear HB; have HB := n0_; clear n0_; (try clear hb); (try clear hb2); (try clear hk); (try clear hi)) | (go_at_call 15; (with_reducible refine (demesneref03_Starts.calls kj22 a1 t129 _ A30.out).mono ?_); rintro e w36 ⟨v130, rfl, ho0, hb⟩; have n0_ := Aside0.mk (Kd.R_lower ho0 (below_size (by repeat (first | (with_reducible first | exact HB.out | apply below_alloc | apply pw_below_drewN | apply below_drew1) | exact HB.out)))); have n1_ := Aside0.mk (below_step (by repeat (first | (with_reducible first | exact HB.out | apply below_alloc | apply pw_below_drewN | apply below_drew1) | exact HB.out)) hb); clear HB; have HO131 := n0_; have HB := n1_; clear n0_ n1_; (try clear hb); (try clear hb2); (try clear hk); (try clear hi); (try clear ho0); obtain ⟨Ao37, co37, eo37⟩ := Kd.R_slice HO131.out; subst eo37) | (go_at_call 6; (with_reducible refine (demesnelaw03_wakes.calls kj22  t132 _ A32.out).mono ?_); rintro e w38 ⟨rfl, hb⟩; have n0_ := Aside0.mk (Kd.R_below (by (with_reducible repeat (first | apply Kd.R_alloc | apply Kd.R_drewN | apply Kd.R_drew)); exact HO131.out) hb); have n1_ := Aside0.mk (below_step (by repeat (first | (with_reducible first | exact HB.out | apply below_alloc | apply pw_below_drewN | apply below_drew1) | exact HB.out)) hb); clear HO131; clear HB; have HO131 := n0_; have HB := n1_; clear n0_ n1_; (try clear hb); (try clear hb2); (try clear hk); (try clear hi)))
                        go_ret
                        exact ⟨by first | rfl | (simp [errW_none, errW_some] <;> rfl) | (simp [*, errW_none, errW_some] <;> rfl), by repeat (first | (with_reducible first | exact HB.out | apply below_alloc | apply pw_below_drewN | apply below_drew1) | exact HB.out)⟩
                      · rw [if_neg c31] at H
                        have c31b0 : (t128 == (t129.length : Int)) = false := beq_eq_false_iff_ne.mpr c31
                        have c31b1 : (t128 != (t129.length : Int)) = true := bne_iff_ne.mpr c31
                        obtain rfl := Option.some.inj H
                        go_wp2_with (first | ((with_reducible refine gate_callee (f := 12) rfl ?_); refine goesL_ (some 70) rfl rfl Try.func12 (by kernel_rfl) rfl #[.int .i64 a1] rfl (by (try simp only [List.map_toArray, List.map_cons, List.map_nil]); first | done | rfl | (simp only [List.length_drop, List.length_take]; rfl)) ?_; (with_reducible refine (class_Words.calls a1 t126 _ A25.out).mono ?_); rintro e w39 ⟨rfl, hb⟩; refine ⟨_, rfl, ?_⟩; have n0_ := Aside0.mk (below_step (by repeat (first | (with_reducible first | exact HB.out | apply below_alloc | apply pw_below_drewN | apply below_drew1) | exact HB.out)) hb); clear HB; have HB := n0_; clear n0_; (try clear hb); (try clear hb2); (try clear hk); (try clear hi)) | (go_at_call 13; (with_reducible refine (class_Room.calls a1 t127 _ A27.out).mono ?_); rintro e w40 ⟨rfl, hb⟩; have n0_ := Aside0.mk (below_step (by repeat (first | (with_reducible first | exact HB.out | apply below_alloc | apply pw_below_drewN | apply below_drew1) | exact HB.out)) hb); clear HB; have HB := n0_; clear n0_; (try clear hb); (try clear hb2); (try clear hk); (try clear hi)) | (go_at_call 14; (with_reducible refine (class_Cells.calls a1 t128 _ A29.out).mono ?_); rintro e w41 ⟨rfl, hb⟩; have n0_ := Aside0.mk (below_step (by repeat (first | (with_reducible first | exact HB.out | apply below_alloc | apply pw_below_drewN | apply below_drew1) | exact HB.out)) hb); clear HB; have HB := n0_; clear n0_; (try clear hb); (try clear hb2); (try clear hk); (try clear hi)) | (go_at_call 15; (with_reducible refine (demesneref03_Starts.calls kj22 a1 t129 _ A30.out).mono ?_); rintro e w42 ⟨v130, rfl, ho0, hb⟩; have n0_ := Aside0.mk (Kd.R_lower ho0 (below_size (by repeat (first | (with_reducible first | exact HB.out | apply below_alloc | apply pw_below_drewN | apply below_drew1) | exact HB.out)))); have n1_ := Aside0.mk (below_step (by repeat (first | (with_reducible first | exact HB.out | apply below_alloc | apply pw_below_drewN | apply below_drew1) | exact HB.out)) hb); clear HB; have HO131 := n0_; have HB := n1_; clear n0_ n1_; (try clear hb); (try clear hb2); (try clear hk); (try clear hi); (try clear ho0); obtain ⟨Ao43, co43, eo43⟩ := Kd.R_slice HO131.out; subst eo43))
                        go_ret
                        exact ⟨by first | rfl | (simp [errW_none, errW_some] <;> rfl) | (simp [*, errW_none, errW_some] <;> rfl), by repeat (first | (with_reducible first | exact HB.out | apply below_alloc | apply pw_below_drewN | apply below_drew1) | exact HB.out)⟩
                    · rw [if_neg c28] at H
                      have c28b0 : (t127 == x11_22) = false := beq_eq_false_iff_ne.mpr c28
                      have c28b1 : (t127 != x11_22) = true := bne_iff_ne.mpr c28
                      obtain rfl := Option.some.inj H
                      go_wp2_with (first | ((with_reducible refine gate_callee (f := 12) rfl ?_); refine goesL_ (some 70) rfl rfl Try.func12 (by kernel_rfl) rfl #[.int .i64 a1] rfl (by (try simp only [List.map_toArray, List.map_cons, List.map_nil]); first | done | rfl | (simp only [List.length_drop, List.length_take]; rfl)) ?_; (with_reducible refine (class_Words.calls a1 t126 _ A25.out).mono ?_); rintro e w44 ⟨rfl, hb⟩; refine ⟨_, rfl, ?_⟩; have n0_ := Aside0.mk (below_step (by repeat (first | (with_reducible first | exact HB.out | apply below_alloc | apply pw_below_drewN | apply below_drew1) | exact HB.out)) hb); clear HB; have HB := n0_; clear n0_; (try clear hb); (try clear hb2); (try clear hk); (try clear hi)) | (go_at_call 13; (with_reducible refine (class_Room.calls a1 t127 _ A27.out).mono ?_); rintro e w45 ⟨rfl, hb⟩; have n0_ := Aside0.mk (below_step (by repeat (first | (with_reducible first | exact HB.out | apply below_alloc | apply pw_below_drewN | apply below_drew1) | exact HB.out)) hb); clear HB; have HB := n0_; clear n0_; (try clear hb); (try clear hb2); (try clear hk); (try clear hi)))
                      go_ret
                      exact ⟨by first | rfl | (simp [errW_none, errW_some] <;> rfl) | (simp [*, errW_none, errW_some] <;> rfl), by repeat (first | (with_reducible first | exact HB.out | apply below_alloc | apply pw_below_drewN | apply below_drew1) | exact HB.out)⟩
                  · rw [if_neg c26] at H
                    have c26b0 : (t126 == t125) = false := beq_eq_false_iff_ne.mpr c26
                    have c26b1 : (t126 != t125) = true := bne_iff_ne.mpr c26
                    obtain rfl := Option.some.inj H
                    go_wp2_with (first | ((with_reducible refine gate_callee (f := 12) rfl ?_); refine goesL_ (some 70) rfl rfl Try.func12 (by kernel_rfl) rfl #[.int .i64 a1] rfl (by (try simp only [List.map_toArray, List.map_cons, List.map_nil]); first | done | rfl | (simp only [List.length_drop, List.length_take]; rfl)) ?_; (with_reducible refine (class_Words.calls a1 t126 _ A25.out).mono ?_); rintro e w46 ⟨rfl, hb⟩; refine ⟨_, rfl, ?_⟩; have n0_ := Aside0.mk (below_step (by repeat (first | (with_reducible first | exact HB.out | apply below_alloc | apply pw_below_drewN | apply below_drew1) | exact HB.out)) hb); clear HB; have HB := n0_; clear n0_; (try clear hb); (try clear hb2); (try clear hk); (try clear hi)))
                    go_ret
                    exact ⟨by first | rfl | (simp [errW_none, errW_some] <;> rfl) | (simp [*, errW_none, errW_some] <;> rfl), by repeat (first | (with_reducible first | exact HB.out | apply below_alloc | apply pw_below_drewN | apply below_drew1) | exact HB.out)⟩

/-- THE ONE PURE STATEMENT of demesnelaw03_ClassTells: yours. -/
def demesnelaw03_ClassTells.Pure : Prop := ∀ (a0 : Int) (a1 : Int), (Lit.int .i64 a0).wf = true → (Lit.int .i64 a1).wf = true → ∃ k, demesnelaw03_ClassTells.f k a0 a1 = some true
theorem demesnelaw03_ClassTells.walk (P : demesnelaw03_ClassTells.Pure) (a0 : Int) (a1 : Int) (w : World) (w0 : (Lit.int .i64 a0).wf = true) (w1 : (Lit.int .i64 a1).wf = true) :
    Calls Try.prog 3 #[.int .i64 a0, .int .i64 a1] w fun e w' => e = .returned (.bool true) ∧ Below w.heap.size w w' := by
  obtain ⟨k, h⟩ := P a0 a1 w0 w1
  refine (demesnelaw03_ClassTells.calls k a0 a1 true w h).mono ?_
  rintro e w' ⟨rfl, hd⟩
  exact ⟨rfl, hd⟩

end Go.Proofs.Ytoibpomlahlnoaa.PClassTells
