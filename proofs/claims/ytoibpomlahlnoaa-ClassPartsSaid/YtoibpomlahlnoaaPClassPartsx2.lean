/- Proved here: of Go functions of this seat, what each call answers, as a Lean function of the same answers ('.f', '.calls'), or (the text Law..) the statement itself out of the text Pure..; no condition but those that each theorem writes out. Laid by a program of this session over the kit's print; by hand: demesne/class.Room. -/
import Derived.Test.YtoibpomlahlnoaaPClassPartsx0
import Derived.Test.YtoibpomlahlnoaaPClassPartsx1
namespace Go.Proofs.Ytoibpomlahlnoaa.PClassParts
open Go.RowKit Go.Proofs.YtoibpomlahlnoaaW.PrintWords Go.Proofs.YtoibpomlahlnoaaW.PrintLast Go.Proofs.YtoibpomlahlnoaaW.PrintMore
attribute [local go_sem] max2_int min2_int max_two min_two max_three min_three max_four min_four   -- for this text's walks alone
set_option linter.unusedVariables false
set_option linter.unusedSimpArgs false

/-! ### demesnelaw03_ClassParts: function 5 -/
mutual
def demesnelaw03_ClassParts.j0 : Nat → Int → Int → Int → Bool → Option (Bool)
  | 0, _, _, _, _ => none
  | k + 1, x1, x5, x6, x27 => if x27 = true then (some false) else (demesnelaw03_ClassParts.l0 k x1 x5 x6 0 0)
def demesnelaw03_ClassParts.l0 : Nat → Int → Int → Int → Int → Int → Option (Bool)
  | 0, _, _, _, _, _ => none
  | k + 1, x1, x5, x6, x7, x8 => if x8 < 32 then ((class_Place.f x5 x8).bind fun bt116 => ((class_Cells.f x5).bind fun t118 => (if (bt116.2 != (decide (x8 < (wrap64 (t118 * x6))))) = true then (demesnelaw03_ClassParts.j2 k x1 x5 x6 x7 x8 bt116.1 bt116.2 true) else (if bt116.2 = true then (if bt116.1 > x8 then (demesnelaw03_ClassParts.j2 k x1 x5 x6 x7 x8 bt116.1 bt116.2 true) else (if (wrap64 (x8 - bt116.1)) ≥ x6 then (demesnelaw03_ClassParts.j2 k x1 x5 x6 x7 x8 bt116.1 bt116.2 true) else (if x6 = 0 then (none) else (demesnelaw03_ClassParts.j2 k x1 x5 x6 x7 x8 bt116.1 bt116.2 ((Int.tmod bt116.1 x6) != 0))))) else (demesnelaw03_ClassParts.j2 k x1 x5 x6 x7 x8 bt116.1 bt116.2 false))))) else ((class_Cells.f x5).bind fun t119 => (if x7 = t119 then (demesnelaw03_ClassParts.j3 k x1 (decide ((wrap64 (32 - (wrap64 (x7 * x6)))) ≥ x6))) else (demesnelaw03_ClassParts.j3 k x1 true)))
def demesnelaw03_ClassParts.j2 : Nat → Int → Int → Int → Int → Int → Int → Bool → Bool → Option (Bool)
  | 0, _, _, _, _, _, _, _, _ => none
  | k + 1, x1, x5, x6, x7, x8, x9, x10, x66 => if x66 = true then (some false) else (if x10 = true then (if x9 = x8 then (demesnelaw03_ClassParts.l0 k x1 x5 x6 (wrap64 (x7 + 1)) (wrap64 (x8 + 1))) else (demesnelaw03_ClassParts.l0 k x1 x5 x6 x7 (wrap64 (x8 + 1)))) else (demesnelaw03_ClassParts.l0 k x1 x5 x6 x7 (wrap64 (x8 + 1))))
def demesnelaw03_ClassParts.j3 : Nat → Int → Bool → Option (Bool)
  | 0, _, _ => none
  | k + 1, x1, x86 => if x86 = true then (some false) else ((class_Of.f k (Int.tmod (wrap64 (x1)) 96)).bind fun bt120 => ((class_Run.f (Int.tmod (wrap64 (x1)) 96)).bind fun bt122 => (if (bt120.2 == bt122.2) = true then (some false) else (if bt120.2 = true then ((class_Room.f bt120.1).bind fun t124 => (if t124 ≥ (Int.tmod (wrap64 (x1)) 96) then (if bt120.1 = 0 then ((demesnelaw03_wakes.f k).bind fun t125 => (some t125)) else ((class_Room.f (wrap64 (bt120.1 - 1))).bind fun t126 => (if t126 < (Int.tmod (wrap64 (x1)) 96) then ((demesnelaw03_wakes.f k).bind fun t127 => (some t127)) else (some false)))) else (some false))) else (if (wrap64 (bt122.1 * 32)) ≥ (wrap64 ((Int.tmod (wrap64 (x1)) 96) + 1)) then (if (wrap64 ((wrap64 (bt122.1 - 1)) * 32)) < (wrap64 ((Int.tmod (wrap64 (x1)) 96) + 1)) then (if bt122.1 ≤ 3 then ((demesnelaw03_wakes.f k).bind fun t128 => (some t128)) else (some false)) else (some false)) else (some false))))))
end
def demesnelaw03_ClassParts.f (k : Nat) (a0 : Int) (a1 : Int) : Option (Bool) := (class_Words.f (Int.tmod (wrap64 (a0)) 4)).bind fun t114 => (if t114 < 2 then (demesnelaw03_ClassParts.j0 k a1 (Int.tmod (wrap64 (a0)) 4) t114 true) else ((class_Cells.f (Int.tmod (wrap64 (a0)) 4)).bind fun t115 => (demesnelaw03_ClassParts.j0 k a1 (Int.tmod (wrap64 (a0)) 4) t114 (decide (t115 < 1)))))
theorem demesnelaw03_ClassParts.mono_l : ∀ k, (∀ y0 y1 y2 y3, LeO (demesnelaw03_ClassParts.j0 k y0 y1 y2 y3) (demesnelaw03_ClassParts.j0 (k + 1) y0 y1 y2 y3)) ∧ (∀ y0 y1 y2 y3 y4, LeO (demesnelaw03_ClassParts.l0 k y0 y1 y2 y3 y4) (demesnelaw03_ClassParts.l0 (k + 1) y0 y1 y2 y3 y4)) ∧ (∀ y0 y1 y2 y3 y4 y5 y6 y7, LeO (demesnelaw03_ClassParts.j2 k y0 y1 y2 y3 y4 y5 y6 y7) (demesnelaw03_ClassParts.j2 (k + 1) y0 y1 y2 y3 y4 y5 y6 y7)) ∧ (∀ y0 y1, LeO (demesnelaw03_ClassParts.j3 k y0 y1) (demesnelaw03_ClassParts.j3 (k + 1) y0 y1))
  | 0 => ⟨fun _ _ _ _ r h => by simp [demesnelaw03_ClassParts.j0] at h, fun _ _ _ _ _ r h => by simp [demesnelaw03_ClassParts.l0] at h, fun _ _ _ _ _ _ _ _ r h => by simp [demesnelaw03_ClassParts.j2] at h, fun _ _ r h => by simp [demesnelaw03_ClassParts.j3] at h⟩
  | k + 1 => by
    obtain ⟨ih0, ih1, ih2, ih3⟩ := demesnelaw03_ClassParts.mono_l k
    refine ⟨?_, ?_, ?_, ?_⟩
    · intro y0 y1 y2 y3
      unfold demesnelaw03_ClassParts.j0
      repeat' first
      | (with_reducible exact ih0 _ _ _ _)
      | (with_reducible exact ih1 _ _ _ _ _)
      | (with_reducible exact ih2 _ _ _ _ _ _ _ _)
      | (with_reducible exact ih3 _ _)
      | (with_reducible exact class_Of.mono _ _)
      | (with_reducible exact demesnelaw03_wakes.mono _)
      | (with_reducible exact LeO.refl _)
      | (with_reducible exact LeO.none _)
      | (with_reducible refine LeO.ite ?_ ?_)
      | (with_reducible refine LeO.bind ?_ (fun _ => ?_))
      | exact ih0 _ _ _ _
      | exact ih1 _ _ _ _ _
      | exact ih2 _ _ _ _ _ _ _ _
      | exact ih3 _ _
      | exact class_Of.mono _ _
      | exact demesnelaw03_wakes.mono _
      | exact LeO.none _
      | refine LeO.ite ?_ ?_
      | refine LeO.bind ?_ (fun _ => ?_)
    · intro y0 y1 y2 y3 y4
      unfold demesnelaw03_ClassParts.l0
      repeat' first
      | (with_reducible exact ih0 _ _ _ _)
      | (with_reducible exact ih1 _ _ _ _ _)
      | (with_reducible exact ih2 _ _ _ _ _ _ _ _)
      | (with_reducible exact ih3 _ _)
      | (with_reducible exact class_Of.mono _ _)
      | (with_reducible exact demesnelaw03_wakes.mono _)
      | (with_reducible exact LeO.refl _)
      | (with_reducible exact LeO.none _)
      | (with_reducible refine LeO.ite ?_ ?_)
      | (with_reducible refine LeO.bind ?_ (fun _ => ?_))
      | exact ih0 _ _ _ _
      | exact ih1 _ _ _ _ _
      | exact ih2 _ _ _ _ _ _ _ _
      | exact ih3 _ _
      | exact class_Of.mono _ _
      | exact demesnelaw03_wakes.mono _
      | exact LeO.none _
      | refine LeO.ite ?_ ?_
      | refine LeO.bind ?_ (fun _ => ?_)
    · intro y0 y1 y2 y3 y4 y5 y6 y7
      unfold demesnelaw03_ClassParts.j2
      repeat' first
      | (with_reducible exact ih0 _ _ _ _)
      | (with_reducible exact ih1 _ _ _ _ _)
      | (with_reducible exact ih2 _ _ _ _ _ _ _ _)
      | (with_reducible exact ih3 _ _)
      | (with_reducible exact class_Of.mono _ _)
      | (with_reducible exact demesnelaw03_wakes.mono _)
      | (with_reducible exact LeO.refl _)
      | (with_reducible exact LeO.none _)
      | (with_reducible refine LeO.ite ?_ ?_)
      | (with_reducible refine LeO.bind ?_ (fun _ => ?_))
      | exact ih0 _ _ _ _
      | exact ih1 _ _ _ _ _
      | exact ih2 _ _ _ _ _ _ _ _
      | exact ih3 _ _
      | exact class_Of.mono _ _
      | exact demesnelaw03_wakes.mono _
      | exact LeO.none _
      | refine LeO.ite ?_ ?_
      | refine LeO.bind ?_ (fun _ => ?_)
    · intro y0 y1
      unfold demesnelaw03_ClassParts.j3
      repeat' first
      | (with_reducible exact ih0 _ _ _ _)
      | (with_reducible exact ih1 _ _ _ _ _)
      | (with_reducible exact ih2 _ _ _ _ _ _ _ _)
      | (with_reducible exact ih3 _ _)
      | (with_reducible exact class_Of.mono _ _)
      | (with_reducible exact demesnelaw03_wakes.mono _)
      | (with_reducible exact LeO.refl _)
      | (with_reducible exact LeO.none _)
      | (with_reducible refine LeO.ite ?_ ?_)
      | (with_reducible refine LeO.bind ?_ (fun _ => ?_))
      | exact ih0 _ _ _ _
      | exact ih1 _ _ _ _ _
      | exact ih2 _ _ _ _ _ _ _ _
      | exact ih3 _ _
      | exact class_Of.mono _ _
      | exact demesnelaw03_wakes.mono _
      | exact LeO.none _
      | refine LeO.ite ?_ ?_
      | refine LeO.bind ?_ (fun _ => ?_)
theorem demesnelaw03_ClassParts.mono : ∀ a0 a1 k, LeO (demesnelaw03_ClassParts.f k a0 a1) (demesnelaw03_ClassParts.f (k + 1) a0 a1) := by
  intro a0 a1 k
  obtain ⟨ih0, ih1, ih2, ih3⟩ := demesnelaw03_ClassParts.mono_l k
  unfold demesnelaw03_ClassParts.f
  repeat' first
      | (with_reducible exact ih0 _ _ _ _)
      | (with_reducible exact ih1 _ _ _ _ _)
      | (with_reducible exact ih2 _ _ _ _ _ _ _ _)
      | (with_reducible exact ih3 _ _)
      | (with_reducible exact class_Of.mono _ _)
      | (with_reducible exact demesnelaw03_wakes.mono _)
      | (with_reducible exact LeO.refl _)
      | (with_reducible exact LeO.none _)
      | (with_reducible refine LeO.ite ?_ ?_)
      | (with_reducible refine LeO.bind ?_ (fun _ => ?_))
      | exact ih0 _ _ _ _
      | exact ih1 _ _ _ _ _
      | exact ih2 _ _ _ _ _ _ _ _
      | exact ih3 _ _
      | exact class_Of.mono _ _
      | exact demesnelaw03_wakes.mono _
      | exact LeO.none _
      | refine LeO.ite ?_ ?_
      | refine LeO.bind ?_ (fun _ => ?_)
set_option maxHeartbeats 8000000 in
set_option maxRecDepth 100000 in
theorem demesnelaw03_ClassParts.calls (k : Nat) (a0 : Int) (a1 : Int) (r : Bool) (w : World) (h : demesnelaw03_ClassParts.f k a0 a1 = some r) :
    Calls Try.prog 5 #[.int .u8 a0, .int .u8 a1] w fun e w' => e = .returned (.bool r) ∧ Below w.heap.size w w' := by
  have HB := Aside0.mk (Below.refl w.heap.size w)
  have H : ((class_Words.f (Int.tmod (wrap64 (a0)) 4)).bind fun t114 => (if t114 < 2 then (demesnelaw03_ClassParts.j0 k a1 (Int.tmod (wrap64 (a0)) 4) t114 true) else ((class_Cells.f (Int.tmod (wrap64 (a0)) 4)).bind fun t115 => (demesnelaw03_ClassParts.j0 k a1 (Int.tmod (wrap64 (a0)) 4) t114 (decide (t115 < 1)))))) = some r := h
  clear h
  replace H := Option.bind_eq_some_iff.mp H
  obtain ⟨t114, A30, H⟩ := H
  replace H : (if t114 < 2 then (demesnelaw03_ClassParts.j0 k a1 (Int.tmod (wrap64 (a0)) 4) t114 true) else ((class_Cells.f (Int.tmod (wrap64 (a0)) 4)).bind fun t115 => (demesnelaw03_ClassParts.j0 k a1 (Int.tmod (wrap64 (a0)) 4) t114 (decide (t115 < 1))))) = some r := H
  have A3 := Aside0.mk A30
  clear A30
  have HC4 := Aside0.mk H
  clear H
  go_enter Try.func5, Try.ntmps5
  go_upto_region 3 with (first | ((with_reducible refine gate_callee (f := 12) rfl ?_); refine goesL_ (some 20) rfl rfl Try.func12 (by kernel_rfl) rfl #[.int .i64 (Int.tmod (wrap64 (a0)) 4)] rfl (by (try simp only [List.map_toArray, List.map_cons, List.map_nil]); first | done | rfl | (simp only [List.length_drop, List.length_take]; rfl)) ?_; (with_reducible refine (class_Words.calls (Int.tmod (wrap64 (a0)) 4) t114 _ A3.out).mono ?_); rintro e w5 ⟨rfl, hb⟩; refine ⟨_, rfl, ?_⟩; have n0_ := Aside0.mk (below_step (by repeat (first | (with_reducible first | exact HB.out | apply below_alloc | apply pw_below_drewN | apply below_drew1) | exact HB.out)) hb); clear HB; have HB := n0_; clear n0_; (try clear hb); (try clear hb2); (try clear hk); (try clear hi)))
  (try simp only [Act.put, List.setIfInBounds_toArray, List.set_cons_zero, List.set_cons_succ])
  go_cut [27] (fun v27 wc => ∃ (kq : Nat) (x27_3 : Bool), v27 = .bool x27_3 ∧ Aside0 (demesnelaw03_ClassParts.j0 kq a1 (Int.tmod (wrap64 (a0)) 4) t114 x27_3 = some r) ∧ Aside0 (kq ≤ k) ∧ Aside0 (Below w.heap.size w wc))
  case first =>
    have H := HC4.out
    clear HC4
    by_cases c6 : t114 < 2
    · rw [if_pos c6] at H
      have c6b0 : decide (t114 < 2) = true := decide_eq_true c6
      clear c6
      (first | rw [c6b0] | (simp only [i64_w, i32_w]; rw [c6b0]) | skip)
      have H' := Aside0.mk H
      clear H
      go_wp2
      go_meet
      case rel => exact ⟨_, (true), (by first | rfl | (simp; done) | (simp [*]; done)), H', ⟨by first | omega | exact Nat.le_refl _⟩, ⟨by repeat (first | (with_reducible first | exact HB.out | apply below_alloc | apply pw_below_drewN | apply below_drew1) | exact HB.out)⟩⟩
    · rw [if_neg c6] at H
      have c6b0 : decide (t114 < 2) = false := decide_eq_false c6
      clear c6
      (first | rw [c6b0] | (simp only [i64_w, i32_w]; rw [c6b0]) | skip)
      replace H := Option.bind_eq_some_iff.mp H
      obtain ⟨t115, A70, H⟩ := H
      replace H : (demesnelaw03_ClassParts.j0 k a1 (Int.tmod (wrap64 (a0)) 4) t114 (decide (t115 < 1))) = some r := H
      have A7 := Aside0.mk A70
      clear A70
      have H' := Aside0.mk H
      clear H
      go_wp2_with (first | (go_at_call 14; (with_reducible refine (class_Cells.calls (Int.tmod (wrap64 (a0)) 4) t115 _ A7.out).mono ?_); rintro e w8 ⟨rfl, hb⟩; have n0_ := Aside0.mk (below_step (by repeat (first | (with_reducible first | exact HB.out | apply below_alloc | apply pw_below_drewN | apply below_drew1) | exact HB.out)) hb); clear HB; have HB := n0_; clear n0_; (try clear hb); (try clear hb2); (try clear hk); (try clear hi)))
      go_meet
      case rel => exact ⟨_, (decide (t115 < 1)), (by first | rfl | (simp; done) | (simp [*]; done)), H', ⟨by first | omega | exact Nat.le_refl _⟩, ⟨by repeat (first | (with_reducible first | exact HB.out | apply below_alloc | apply pw_below_drewN | apply below_drew1) | exact HB.out)⟩⟩
  case rest =>
    clear HC4
    try clear c1
    try clear p2
    try clear c5
    try clear c6
    try clear c6b0
    try clear p6
    obtain ⟨kq, x27_3, rfl, HA, HJ3, HB⟩ := hcut
    cases kq with
    | zero => exact absurd HA.out (by simp [demesnelaw03_ClassParts.j0])
    | succ kj3 =>
      have H := HA.out
      clear HA
      simp only [demesnelaw03_ClassParts.j0] at H
      by_cases c9 : x27_3 = true
      · subst c9
        have H1 : (some false) = some r := by rw [if_pos rfl] at H; exact H
        clear H
        have H := H1
        clear H1
        obtain rfl := Option.some.inj H
        go_wp2
        go_ret
        exact ⟨by first | rfl | (simp [errW_none, errW_some] <;> rfl) | (simp [*, errW_none, errW_some] <;> rfl), by repeat (first | (with_reducible first | exact HB.out | apply below_alloc | apply pw_below_drewN | apply below_drew1) | exact HB.out)⟩
      · replace c9 := Bool.eq_false_iff.mpr c9
        subst c9
        have H1 : (demesnelaw03_ClassParts.l0 kj3 a1 (Int.tmod (wrap64 (a0)) 4) t114 0 0) = some r := by rw [if_neg (show ¬ (false = true) by decide)] at H; exact H
        clear H
        have H := H1
        clear H1
        have H' := Aside0.mk H
        clear H
        go_wp2
        go_loopg [7, 8] kj3 (fun kq v7 v8 w' => ∃ (x7_2 : Int) (x8_2 : Int), v7 = .int .i64 x7_2 ∧ v8 = .int .i64 x8_2 ∧ Aside0 (demesnelaw03_ClassParts.l0 kq a1 (Int.tmod (wrap64 (a0)) 4) t114 x7_2 x8_2 = some r) ∧ Aside0 (kq ≤ kj3) ∧ Aside0 (Below w.heap.size w w'))
        case atStart => exact ⟨(0), (0), (by first | rfl | (simp; done) | (simp [*]; done)), (by first | rfl | (simp; done) | (simp [*]; done)), H', ⟨Nat.le_refl _⟩, ⟨by repeat (first | (with_reducible first | exact HB.out | apply below_alloc | apply pw_below_drewN | apply below_drew1) | exact HB.out)⟩⟩
        case round =>
          clear H'
          try clear c1
          try clear p2
          try clear c5
          try clear c6
          try clear c6b0
          try clear p6
          try clear c9
          try clear p2
          try clear p6
          obtain ⟨x7_2, x8_2, rfl, rfl, HA, HK2, HB⟩ := hrel
          cases gk with
          | zero => exact absurd HA.out (by simp [demesnelaw03_ClassParts.l0])
          | succ k2 =>
            have H := HA.out
            clear HA
            simp only [demesnelaw03_ClassParts.l0] at H
            by_cases c10 : x8_2 < 32
            · rw [if_pos c10] at H
              have c10b0 : decide (x8_2 < 32) = true := decide_eq_true c10
              clear c10
              replace H := Option.bind_eq_some_iff.mp H
              obtain ⟨⟨t116, t117⟩, A110, H⟩ := H
              replace H : ((class_Cells.f (Int.tmod (wrap64 (a0)) 4)).bind fun t118 => (if (t117 != (decide (x8_2 < (wrap64 (t118 * t114))))) = true then (demesnelaw03_ClassParts.j2 k2 a1 (Int.tmod (wrap64 (a0)) 4) t114 x7_2 x8_2 t116 t117 true) else (if t117 = true then (if t116 > x8_2 then (demesnelaw03_ClassParts.j2 k2 a1 (Int.tmod (wrap64 (a0)) 4) t114 x7_2 x8_2 t116 t117 true) else (if (wrap64 (x8_2 - t116)) ≥ t114 then (demesnelaw03_ClassParts.j2 k2 a1 (Int.tmod (wrap64 (a0)) 4) t114 x7_2 x8_2 t116 t117 true) else (if t114 = 0 then (none) else (demesnelaw03_ClassParts.j2 k2 a1 (Int.tmod (wrap64 (a0)) 4) t114 x7_2 x8_2 t116 t117 ((Int.tmod t116 t114) != 0))))) else (demesnelaw03_ClassParts.j2 k2 a1 (Int.tmod (wrap64 (a0)) 4) t114 x7_2 x8_2 t116 t117 false)))) = some r := H
              have A11 := Aside0.mk A110
              clear A110
              have HC12 := Aside0.mk H
              clear H
              go_upto_region 10 with (first | ((with_reducible refine gate_callee (f := 16) rfl ?_); refine goesL_ (some 35) rfl rfl Try.func16 (by kernel_rfl) rfl #[.int .i64 (Int.tmod (wrap64 (a0)) 4), .int .i64 x8_2] rfl (by (try simp only [List.map_toArray, List.map_cons, List.map_nil]); first | done | rfl | (simp only [List.length_drop, List.length_take]; rfl)) ?_; (with_reducible refine (class_Place.calls (Int.tmod (wrap64 (a0)) 4) x8_2 t116 t117 _ A11.out).mono ?_); rintro e w13 ⟨rfl, hb⟩; refine ⟨_, rfl, ?_⟩; have n0_ := Aside0.mk (below_step (by repeat (first | (with_reducible first | exact HB.out | apply below_alloc | apply pw_below_drewN | apply below_drew1) | exact HB.out)) hb); clear HB; have HB := n0_; clear n0_; (try clear hb); (try clear hb2); (try clear hk); (try clear hi)))
              (try simp only [Act.put, List.setIfInBounds_toArray, List.set_cons_zero, List.set_cons_succ])
              go_cut [66] (fun v66 wc => ∃ (kq : Nat) (x66_11 : Bool), v66 = .bool x66_11 ∧ Aside0 (demesnelaw03_ClassParts.j2 kq a1 (Int.tmod (wrap64 (a0)) 4) t114 x7_2 x8_2 t116 t117 x66_11 = some r) ∧ Aside0 (kq ≤ k2) ∧ Aside0 (Below w.heap.size w wc))
              case first =>
                have H := HC12.out
                clear HC12
                replace H := Option.bind_eq_some_iff.mp H
                obtain ⟨t118, A140, H⟩ := H
                replace H : (if (t117 != (decide (x8_2 < (wrap64 (t118 * t114))))) = true then (demesnelaw03_ClassParts.j2 k2 a1 (Int.tmod (wrap64 (a0)) 4) t114 x7_2 x8_2 t116 t117 true) else (if t117 = true then (if t116 > x8_2 then (demesnelaw03_ClassParts.j2 k2 a1 (Int.tmod (wrap64 (a0)) 4) t114 x7_2 x8_2 t116 t117 true) else (if (wrap64 (x8_2 - t116)) ≥ t114 then (demesnelaw03_ClassParts.j2 k2 a1 (Int.tmod (wrap64 (a0)) 4) t114 x7_2 x8_2 t116 t117 true) else (if t114 = 0 then (none) else (demesnelaw03_ClassParts.j2 k2 a1 (Int.tmod (wrap64 (a0)) 4) t114 x7_2 x8_2 t116 t117 ((Int.tmod t116 t114) != 0))))) else (demesnelaw03_ClassParts.j2 k2 a1 (Int.tmod (wrap64 (a0)) 4) t114 x7_2 x8_2 t116 t117 false))) = some r := H
                have A14 := Aside0.mk A140
                clear A140
                by_cases c15 : (t117 != (decide (x8_2 < (wrap64 (t118 * t114))))) = true
                · rw [if_pos c15] at H
                  have c15b0 : (t117 != (decide (x8_2 < (wrap64 (t118 * t114))))) = true := c15
                  (try (have c15b1 : decide (t117 = (decide (x8_2 < (wrap64 (t118 * t114))))) = false := by simpa using c15))
                  (try (have c15b2 : (t117 == (decide (x8_2 < (wrap64 (t118 * t114))))) = false := by simpa using c15))
                  (try (have c15b3 : ¬ (t117 = (decide (x8_2 < (wrap64 (t118 * t114))))) := by simpa using c15))
                  clear c15
                  (first | rw [c15b0] | (simp only [i64_w, i32_w]; rw [c15b0]) | skip)
                  have H' := Aside0.mk H
                  clear H
                  go_wp2_with (first | ((with_reducible refine gate_callee (f := 14) rfl ?_); refine goesL_ (some 41) rfl rfl Try.func14 (by kernel_rfl) rfl #[.int .i64 (Int.tmod (wrap64 (a0)) 4)] rfl (by (try simp only [List.map_toArray, List.map_cons, List.map_nil]); first | done | rfl | (simp only [List.length_drop, List.length_take]; rfl)) ?_; (with_reducible refine (class_Cells.calls (Int.tmod (wrap64 (a0)) 4) t118 _ A14.out).mono ?_); rintro e w16 ⟨rfl, hb⟩; refine ⟨_, rfl, ?_⟩; have n0_ := Aside0.mk (below_step (by repeat (first | (with_reducible first | exact HB.out | apply below_alloc | apply pw_below_drewN | apply below_drew1) | exact HB.out)) hb); clear HB; have HB := n0_; clear n0_; (try clear hb); (try clear hb2); (try clear hk); (try clear hi)))
                  go_meet
                  case rel => exact ⟨_, (true), (by first | rfl | (simp; done) | (simp [*]; done)), H', ⟨by have := HJ3.out; have := HK2.out; first | omega | exact Nat.le_refl _⟩, ⟨by repeat (first | (with_reducible first | exact HB.out | apply below_alloc | apply pw_below_drewN | apply below_drew1) | exact HB.out)⟩⟩
                · rw [if_neg c15] at H
                  have c15b0 : (t117 != (decide (x8_2 < (wrap64 (t118 * t114))))) = false := by simpa using c15
                  (try (have c15b1 : decide (t117 = (decide (x8_2 < (wrap64 (t118 * t114))))) = true := by simpa using c15))
                  (try (have c15b2 : (t117 == (decide (x8_2 < (wrap64 (t118 * t114))))) = true := by simpa using c15))
                  clear c15
                  (first | rw [c15b0] | (simp only [i64_w, i32_w]; rw [c15b0]) | skip)
                  by_cases c17 : t117 = true
                  · subst c17
                    have H1 : (if t116 > x8_2 then (demesnelaw03_ClassParts.j2 k2 a1 (Int.tmod (wrap64 (a0)) 4) t114 x7_2 x8_2 t116 true true) else (if (wrap64 (x8_2 - t116)) ≥ t114 then (demesnelaw03_ClassParts.j2 k2 a1 (Int.tmod (wrap64 (a0)) 4) t114 x7_2 x8_2 t116 true true) else (if t114 = 0 then (none) else (demesnelaw03_ClassParts.j2 k2 a1 (Int.tmod (wrap64 (a0)) 4) t114 x7_2 x8_2 t116 true ((Int.tmod t116 t114) != 0))))) = some r := by rw [if_pos rfl] at H; exact H
                    clear H
                    have H := H1
                    clear H1
                    by_cases c18 : t116 > x8_2
                    · rw [if_pos c18] at H
                      have c18b0 : decide (x8_2 < t116) = true := decide_eq_true c18
                      clear c18
                      have H' := Aside0.mk H
                      clear H
                      go_wp2_with (first | ((with_reducible refine gate_callee (f := 14) rfl ?_); refine goesL_ (some 41) rfl rfl Try.func14 (by kernel_rfl) rfl #[.int .i64 (Int.tmod (wrap64 (a0)) 4)] rfl (by (try simp only [List.map_toArray, List.map_cons, List.map_nil]); first | done | rfl | (simp only [List.length_drop, List.length_take]; rfl)) ?_; (with_reducible refine (class_Cells.calls (Int.tmod (wrap64 (a0)) 4) t118 _ A14.out).mono ?_); rintro e w19 ⟨rfl, hb⟩; refine ⟨_, rfl, ?_⟩; have n0_ := Aside0.mk (below_step (by repeat (first | (with_reducible first | exact HB.out | apply below_alloc | apply pw_below_drewN | apply below_drew1) | exact HB.out)) hb); clear HB; have HB := n0_; clear n0_; (try clear hb); (try clear hb2); (try clear hk); (try clear hi)))
                      go_meet
                      case rel => exact ⟨_, (true), (by first | rfl | (simp; done) | (simp [*]; done)), H', ⟨by have := HJ3.out; have := HK2.out; first | omega | exact Nat.le_refl _⟩, ⟨by repeat (first | (with_reducible first | exact HB.out | apply below_alloc | apply pw_below_drewN | apply below_drew1) | exact HB.out)⟩⟩
                    · rw [if_neg c18] at H
                      have c18b0 : decide (x8_2 < t116) = false := decide_eq_false c18
                      clear c18
                      by_cases c20 : (wrap64 (x8_2 - t116)) ≥ t114
                      · rw [if_pos c20] at H
                        have c20b0 : decide (t114 ≤ (wrap64 (x8_2 - t116))) = true := decide_eq_true c20
                        clear c20
                        have H' := Aside0.mk H
                        clear H
                        go_wp2_with (first | ((with_reducible refine gate_callee (f := 14) rfl ?_); refine goesL_ (some 41) rfl rfl Try.func14 (by kernel_rfl) rfl #[.int .i64 (Int.tmod (wrap64 (a0)) 4)] rfl (by (try simp only [List.map_toArray, List.map_cons, List.map_nil]); first | done | rfl | (simp only [List.length_drop, List.length_take]; rfl)) ?_; (with_reducible refine (class_Cells.calls (Int.tmod (wrap64 (a0)) 4) t118 _ A14.out).mono ?_); rintro e w21 ⟨rfl, hb⟩; refine ⟨_, rfl, ?_⟩; have n0_ := Aside0.mk (below_step (by repeat (first | (with_reducible first | exact HB.out | apply below_alloc | apply pw_below_drewN | apply below_drew1) | exact HB.out)) hb); clear HB; have HB := n0_; clear n0_; (try clear hb); (try clear hb2); (try clear hk); (try clear hi)))
                        go_meet
                        case rel => exact ⟨_, (true), (by first | rfl | (simp; done) | (simp [*]; done)), H', ⟨by have := HJ3.out; have := HK2.out; first | omega | exact Nat.le_refl _⟩, ⟨by repeat (first | (with_reducible first | exact HB.out | apply below_alloc | apply pw_below_drewN | apply below_drew1) | exact HB.out)⟩⟩
                      · rw [if_neg c20] at H
                        have c20b0 : decide (t114 ≤ (wrap64 (x8_2 - t116))) = false := decide_eq_false c20
                        clear c20
                        by_cases c22 : t114 = 0
                        · rw [if_pos c22] at H
                          exact absurd H (by simp)
                        · rw [if_neg c22] at H
                          have c22b0 : (t114 == 0) = false := beq_eq_false_iff_ne.mpr c22
                          have c22b1 : (t114 != 0) = true := bne_iff_ne.mpr c22
                          have H' := Aside0.mk H
                          clear H
                          go_wp2_with (first | ((with_reducible refine gate_callee (f := 14) rfl ?_); refine goesL_ (some 41) rfl rfl Try.func14 (by kernel_rfl) rfl #[.int .i64 (Int.tmod (wrap64 (a0)) 4)] rfl (by (try simp only [List.map_toArray, List.map_cons, List.map_nil]); first | done | rfl | (simp only [List.length_drop, List.length_take]; rfl)) ?_; (with_reducible refine (class_Cells.calls (Int.tmod (wrap64 (a0)) 4) t118 _ A14.out).mono ?_); rintro e w23 ⟨rfl, hb⟩; refine ⟨_, rfl, ?_⟩; have n0_ := Aside0.mk (below_step (by repeat (first | (with_reducible first | exact HB.out | apply below_alloc | apply pw_below_drewN | apply below_drew1) | exact HB.out)) hb); clear HB; have HB := n0_; clear n0_; (try clear hb); (try clear hb2); (try clear hk); (try clear hi)))
                          go_meet
                          case rel => exact ⟨_, (((Int.tmod t116 t114) != 0)), (by first | rfl | (simp; done) | (simp [*]; done)), H', ⟨by have := HJ3.out; have := HK2.out; first | omega | exact Nat.le_refl _⟩, ⟨by repeat (first | (with_reducible first | exact HB.out | apply below_alloc | apply pw_below_drewN | apply below_drew1) | exact HB.out)⟩⟩
                  · replace c17 := Bool.eq_false_iff.mpr c17
                    subst c17
                    have H1 : (demesnelaw03_ClassParts.j2 k2 a1 (Int.tmod (wrap64 (a0)) 4) t114 x7_2 x8_2 t116 false false) = some r := by rw [if_neg (show ¬ (false = true) by decide)] at H; exact H
                    clear H
                    have H := H1
                    clear H1
                    have H' := Aside0.mk H
                    clear H
                    go_wp2_with (first | ((with_reducible refine gate_callee (f := 14) rfl ?_); refine goesL_ (some 41) rfl rfl Try.func14 (by kernel_rfl) rfl #[.int .i64 (Int.tmod (wrap64 (a0)) 4)] rfl (by (try simp only [List.map_toArray, List.map_cons, List.map_nil]); first | done | rfl | (simp only [List.length_drop, List.length_take]; rfl)) ?_; (with_reducible refine (class_Cells.calls (Int.tmod (wrap64 (a0)) 4) t118 _ A14.out).mono ?_); rintro e w24 ⟨rfl, hb⟩; refine ⟨_, rfl, ?_⟩; have n0_ := Aside0.mk (below_step (by repeat (first | (with_reducible first | exact HB.out | apply below_alloc | apply pw_below_drewN | apply below_drew1) | exact HB.out)) hb); clear HB; have HB := n0_; clear n0_; (try clear hb); (try clear hb2); (try clear hk); (try clear hi)))
                    go_meet
                    case rel => exact ⟨_, (false), (by first | rfl | (simp; done) | (simp [*]; done)), H', ⟨by have := HJ3.out; have := HK2.out; first | omega | exact Nat.le_refl _⟩, ⟨by repeat (first | (with_reducible first | exact HB.out | apply below_alloc | apply pw_below_drewN | apply below_drew1) | exact HB.out)⟩⟩
              case rest =>
                clear HC12
                try clear c1
                try clear c2
                try clear p2
                try clear c5
                try clear c6
                try clear c6b0
                try clear p6
                try clear c9
                try clear c10
                try clear c10b0
                try clear c12
                try clear c14
                try clear c15
                try clear c15b0
                try clear c15b1
                try clear c15b2
                try clear c16
                try clear c17
                try clear c18
                try clear c18b0
                try clear c20
                try clear c20b0
                try clear c22
                try clear c22b0
                try clear c22b1
                try clear p2
                try clear p6
                obtain ⟨kq, x66_11, rfl, HA, HJ11, HB⟩ := hcut
                cases kq with
                | zero => exact absurd HA.out (by simp [demesnelaw03_ClassParts.j2])
                | succ kj11 =>
                  have H := HA.out
                  clear HA
                  simp only [demesnelaw03_ClassParts.j2] at H
                  by_cases c25 : x66_11 = true
                  · subst c25
                    have H1 : (some false) = some r := by rw [if_pos rfl] at H; exact H
                    clear H
                    have H := H1
                    clear H1
                    obtain rfl := Option.some.inj H
                    go_wp2
                    go_ret
                    exact ⟨by first | rfl | (simp [errW_none, errW_some] <;> rfl) | (simp [*, errW_none, errW_some] <;> rfl), by repeat (first | (with_reducible first | exact HB.out | apply below_alloc | apply pw_below_drewN | apply below_drew1) | exact HB.out)⟩
                  · replace c25 := Bool.eq_false_iff.mpr c25
                    subst c25
                    have H1 : (if t117 = true then (if t116 = x8_2 then (demesnelaw03_ClassParts.l0 kj11 a1 (Int.tmod (wrap64 (a0)) 4) t114 (wrap64 (x7_2 + 1)) (wrap64 (x8_2 + 1))) else (demesnelaw03_ClassParts.l0 kj11 a1 (Int.tmod (wrap64 (a0)) 4) t114 x7_2 (wrap64 (x8_2 + 1)))) else (demesnelaw03_ClassParts.l0 kj11 a1 (Int.tmod (wrap64 (a0)) 4) t114 x7_2 (wrap64 (x8_2 + 1)))) = some r := by rw [if_neg (show ¬ (false = true) by decide)] at H; exact H
                    clear H
                    have H := H1
                    clear H1
                    by_cases c26 : t117 = true
                    · subst c26
                      have H1 : (if t116 = x8_2 then (demesnelaw03_ClassParts.l0 kj11 a1 (Int.tmod (wrap64 (a0)) 4) t114 (wrap64 (x7_2 + 1)) (wrap64 (x8_2 + 1))) else (demesnelaw03_ClassParts.l0 kj11 a1 (Int.tmod (wrap64 (a0)) 4) t114 x7_2 (wrap64 (x8_2 + 1)))) = some r := by rw [if_pos rfl] at H; exact H
                      clear H
                      have H := H1
                      clear H1
                      by_cases c27 : t116 = x8_2
                      · rw [if_pos c27] at H
                        have c27b0 : (t116 == x8_2) = true := beq_iff_eq.mpr c27
                        have c27b1 : (t116 != x8_2) = false := bne_eq_false_iff_eq.mpr c27
                        clear c27
                        have H' := Aside0.mk H
                        clear H
                        go_wp2
                        go_roundg kj11
                        case measure => have := HJ3.out; have := HK2.out; have := HJ11.out; omega
                        case rel => exact ⟨(wrap64 (x7_2 + 1)), (wrap64 (x8_2 + 1)), (by first | rfl | (simp; done) | (simp [*]; done)), (by first | rfl | (simp; done) | (simp [*]; done)), H', ⟨by have := HJ3.out; have := HK2.out; have := HJ11.out; omega⟩, ⟨by repeat (first | (with_reducible first | exact HB.out | apply below_alloc | apply pw_below_drewN | apply below_drew1) | exact HB.out)⟩⟩
                      · rw [if_neg c27] at H
                        have c27b0 : (t116 == x8_2) = false := beq_eq_false_iff_ne.mpr c27
                        have c27b1 : (t116 != x8_2) = true := bne_iff_ne.mpr c27
                        have H' := Aside0.mk H
                        clear H
                        go_wp2
                        go_roundg kj11
                        case measure => have := HJ3.out; have := HK2.out; have := HJ11.out; omega
                        case rel => exact ⟨(x7_2), (wrap64 (x8_2 + 1)), (by first | rfl | (simp; done) | (simp [*]; done)), (by first | rfl | (simp; done) | (simp [*]; done)), H', ⟨by have := HJ3.out; have := HK2.out; have := HJ11.out; omega⟩, ⟨by repeat (first | (with_reducible first | exact HB.out | apply below_alloc | apply pw_below_drewN | apply below_drew1) | exact HB.out)⟩⟩
                    · replace c26 := Bool.eq_false_iff.mpr c26
                      subst c26
                      have H1 : (demesnelaw03_ClassParts.l0 kj11 a1 (Int.tmod (wrap64 (a0)) 4) t114 x7_2 (wrap64 (x8_2 + 1))) = some r := by rw [if_neg (show ¬ (false = true) by decide)] at H; exact H
                      clear H
                      have H := H1
                      clear H1
                      have H' := Aside0.mk H
                      clear H
                      go_wp2
                      go_roundg kj11
                      case measure => have := HJ3.out; have := HK2.out; have := HJ11.out; omega
                      case rel => exact ⟨(x7_2), (wrap64 (x8_2 + 1)), (by first | rfl | (simp; done) | (simp [*]; done)), (by first | rfl | (simp; done) | (simp [*]; done)), H', ⟨by have := HJ3.out; have := HK2.out; have := HJ11.out; omega⟩, ⟨by repeat (first | (with_reducible first | exact HB.out | apply below_alloc | apply pw_below_drewN | apply below_drew1) | exact HB.out)⟩⟩
            · rw [if_neg c10] at H
              have c10b0 : decide (x8_2 < 32) = false := decide_eq_false c10
              clear c10
              have HC28 := Aside0.mk H
              clear H
              go_upto_region 14 with (fail)
              go_cut [86] (fun v86 wc => ∃ (kq : Nat) (x86_27 : Bool), v86 = .bool x86_27 ∧ Aside0 (demesnelaw03_ClassParts.j3 kq a1 x86_27 = some r) ∧ Aside0 (kq ≤ k2) ∧ Aside0 (Below w.heap.size w wc))
              case first =>
                have H := HC28.out
                clear HC28
                replace H := Option.bind_eq_some_iff.mp H
                obtain ⟨t119, A290, H⟩ := H
                replace H : (if x7_2 = t119 then (demesnelaw03_ClassParts.j3 k2 a1 (decide ((wrap64 (32 - (wrap64 (x7_2 * t114)))) ≥ t114))) else (demesnelaw03_ClassParts.j3 k2 a1 true)) = some r := H
                have A29 := Aside0.mk A290
                clear A290
                by_cases c30 : x7_2 = t119
                · rw [if_pos c30] at H
                  have c30b0 : (x7_2 == t119) = true := beq_iff_eq.mpr c30
                  have c30b1 : (x7_2 != t119) = false := bne_eq_false_iff_eq.mpr c30
                  clear c30
                  (first | rw [c30b0] | (simp only [i64_w, i32_w]; rw [c30b0]) | skip)
                  have H' := Aside0.mk H
                  clear H
                  go_wp2_with (first | ((with_reducible refine gate_callee (f := 14) rfl ?_); refine goesL_ (some 77) rfl rfl Try.func14 (by kernel_rfl) rfl #[.int .i64 (Int.tmod (wrap64 (a0)) 4)] rfl (by (try simp only [List.map_toArray, List.map_cons, List.map_nil]); first | done | rfl | (simp only [List.length_drop, List.length_take]; rfl)) ?_; (with_reducible refine (class_Cells.calls (Int.tmod (wrap64 (a0)) 4) t119 _ A29.out).mono ?_); rintro e w31 ⟨rfl, hb⟩; refine ⟨_, rfl, ?_⟩; have n0_ := Aside0.mk (below_step (by repeat (first | (with_reducible first | exact HB.out | apply below_alloc | apply pw_below_drewN | apply below_drew1) | exact HB.out)) hb); clear HB; have HB := n0_; clear n0_; (try clear hb); (try clear hb2); (try clear hk); (try clear hi)))
                  go_meet
                  case rel => exact ⟨_, (decide ((wrap64 (32 - (wrap64 (x7_2 * t114)))) ≥ t114)), (by first | rfl | (simp; done) | (simp [*]; done)), H', ⟨by have := HJ3.out; have := HK2.out; first | omega | exact Nat.le_refl _⟩, ⟨by repeat (first | (with_reducible first | exact HB.out | apply below_alloc | apply pw_below_drewN | apply below_drew1) | exact HB.out)⟩⟩
                · rw [if_neg c30] at H
                  have c30b0 : (x7_2 == t119) = false := beq_eq_false_iff_ne.mpr c30
                  have c30b1 : (x7_2 != t119) = true := bne_iff_ne.mpr c30
                  (first | rw [c30b0] | (simp only [i64_w, i32_w]; rw [c30b0]) | skip)
                  have H' := Aside0.mk H
                  clear H
                  go_wp2_with (first | ((with_reducible refine gate_callee (f := 14) rfl ?_); refine goesL_ (some 77) rfl rfl Try.func14 (by kernel_rfl) rfl #[.int .i64 (Int.tmod (wrap64 (a0)) 4)] rfl (by (try simp only [List.map_toArray, List.map_cons, List.map_nil]); first | done | rfl | (simp only [List.length_drop, List.length_take]; rfl)) ?_; (with_reducible refine (class_Cells.calls (Int.tmod (wrap64 (a0)) 4) t119 _ A29.out).mono ?_); rintro e w32 ⟨rfl, hb⟩; refine ⟨_, rfl, ?_⟩; have n0_ := Aside0.mk (below_step (by repeat (first | (with_reducible first | exact HB.out | apply below_alloc | apply pw_below_drewN | apply below_drew1) | exact HB.out)) hb); clear HB; have HB := n0_; clear n0_; (try clear hb); (try clear hb2); (try clear hk); (try clear hi)))
                  go_meet
                  case rel => exact ⟨_, (true), (by first | rfl | (simp; done) | (simp [*]; done)), H', ⟨by have := HJ3.out; have := HK2.out; first | omega | exact Nat.le_refl _⟩, ⟨by repeat (first | (with_reducible first | exact HB.out | apply below_alloc | apply pw_below_drewN | apply below_drew1) | exact HB.out)⟩⟩
              case rest =>
                clear HC28
                try clear c1
                try clear c2
                try clear p2
                try clear c3
                try clear c5
                try clear c6
                try clear c6b0
                try clear p6
                try clear c9
                try clear c10
                try clear c10b0
                try clear c12
                try clear c14
                try clear c15
                try clear c15b0
                try clear c15b1
                try clear c15b2
                try clear c16
                try clear c17
                try clear c18
                try clear c18b0
                try clear c20
                try clear c20b0
                try clear c22
                try clear c22b0
                try clear c22b1
                try clear c25
                try clear c26
                try clear c27
                try clear c27b0
                try clear c27b1
                try clear c30
                try clear c30b0
                try clear c30b1
                try clear p2
                try clear p6
                obtain ⟨kq, x86_27, rfl, HA, HJ27, HB⟩ := hcut
                cases kq with
                | zero => exact absurd HA.out (by simp [demesnelaw03_ClassParts.j3])
                | succ kj27 =>
                  have H := HA.out
                  clear HA
                  simp only [demesnelaw03_ClassParts.j3] at H
                  by_cases c33 : x86_27 = true
                  · subst c33
                    have H1 : (some false) = some r := by rw [if_pos rfl] at H; exact H
                    clear H
                    have H := H1
                    clear H1
                    obtain rfl := Option.some.inj H
                    go_wp2
                    go_ret
                    exact ⟨by first | rfl | (simp [errW_none, errW_some] <;> rfl) | (simp [*, errW_none, errW_some] <;> rfl), by repeat (first | (with_reducible first | exact HB.out | apply below_alloc | apply pw_below_drewN | apply below_drew1) | exact HB.out)⟩
                  · replace c33 := Bool.eq_false_iff.mpr c33
                    subst c33
                    have H1 : ((class_Of.f kj27 (Int.tmod (wrap64 (a1)) 96)).bind fun bt120 => ((class_Run.f (Int.tmod (wrap64 (a1)) 96)).bind fun bt122 => (if (bt120.2 == bt122.2) = true then (some false) else (if bt120.2 = true then ((class_Room.f bt120.1).bind fun t124 => (if t124 ≥ (Int.tmod (wrap64 (a1)) 96) then (if bt120.1 = 0 then ((demesnelaw03_wakes.f kj27).bind fun t125 => (some t125)) else ((class_Room.f (wrap64 (bt120.1 - 1))).bind fun t126 => (if t126 < (Int.tmod (wrap64 (a1)) 96) then ((demesnelaw03_wakes.f kj27).bind fun t127 => (some t127)) else (some false)))) else (some false))) else (if (wrap64 (bt122.1 * 32)) ≥ (wrap64 ((Int.tmod (wrap64 (a1)) 96) + 1)) then (if (wrap64 ((wrap64 (bt122.1 - 1)) * 32)) < (wrap64 ((Int.tmod (wrap64 (a1)) 96) + 1)) then (if bt122.1 ≤ 3 then ((demesnelaw03_wakes.f kj27).bind fun t128 => (some t128)) else (some false)) else (some false)) else (some false)))))) = some r := by rw [if_neg (show ¬ (false = true) by decide)] at H; exact H
                    clear H
                    have H := H1
                    clear H1
                    replace H := Option.bind_eq_some_iff.mp H
                    obtain ⟨⟨t120, t121⟩, A340, H⟩ := H
                    replace H : ((class_Run.f (Int.tmod (wrap64 (a1)) 96)).bind fun bt122 => (if (t121 == bt122.2) = true then (some false) else (if t121 = true then ((class_Room.f t120).bind fun t124 => (if t124 ≥ (Int.tmod (wrap64 (a1)) 96) then (if t120 = 0 then ((demesnelaw03_wakes.f kj27).bind fun t125 => (some t125)) else ((class_Room.f (wrap64 (t120 - 1))).bind fun t126 => (if t126 < (Int.tmod (wrap64 (a1)) 96) then ((demesnelaw03_wakes.f kj27).bind fun t127 => (some t127)) else (some false)))) else (some false))) else (if (wrap64 (bt122.1 * 32)) ≥ (wrap64 ((Int.tmod (wrap64 (a1)) 96) + 1)) then (if (wrap64 ((wrap64 (bt122.1 - 1)) * 32)) < (wrap64 ((Int.tmod (wrap64 (a1)) 96) + 1)) then (if bt122.1 ≤ 3 then ((demesnelaw03_wakes.f kj27).bind fun t128 => (some t128)) else (some false)) else (some false)) else (some false))))) = some r := H
                    have A34 := Aside0.mk A340
                    clear A340
                    replace H := Option.bind_eq_some_iff.mp H
                    obtain ⟨⟨t122, t123⟩, A350, H⟩ := H
                    replace H : (if (t121 == t123) = true then (some false) else (if t121 = true then ((class_Room.f t120).bind fun t124 => (if t124 ≥ (Int.tmod (wrap64 (a1)) 96) then (if t120 = 0 then ((demesnelaw03_wakes.f kj27).bind fun t125 => (some t125)) else ((class_Room.f (wrap64 (t120 - 1))).bind fun t126 => (if t126 < (Int.tmod (wrap64 (a1)) 96) then ((demesnelaw03_wakes.f kj27).bind fun t127 => (some t127)) else (some false)))) else (some false))) else (if (wrap64 (t122 * 32)) ≥ (wrap64 ((Int.tmod (wrap64 (a1)) 96) + 1)) then (if (wrap64 ((wrap64 (t122 - 1)) * 32)) < (wrap64 ((Int.tmod (wrap64 (a1)) 96) + 1)) then (if t122 ≤ 3 then ((demesnelaw03_wakes.f kj27).bind fun t128 => (some t128)) else (some false)) else (some false)) else (some false)))) = some r := H
                    have A35 := Aside0.mk A350
                    clear A350
                    by_cases c36 : (t121 == t123) = true
                    · rw [if_pos c36] at H
                      have c36b0 : (t121 == t123) = true := c36
                      (try (have c36b1 : decide (t121 = t123) = true := by simpa using c36))
                      (try (have c36b2 : (t121 == t123) = true := by simpa using c36))
                      clear c36
                      obtain rfl := Option.some.inj H
                      go_wp2_with (first | ((with_reducible refine gate_callee (f := 7) rfl ?_); refine goesL_ (some 92) rfl rfl Try.func7 (by kernel_rfl) rfl #[.int .i64 (Int.tmod (wrap64 (a1)) 96)] rfl (by (try simp only [List.map_toArray, List.map_cons, List.map_nil]); first | done | rfl | (simp only [List.length_drop, List.length_take]; rfl)) ?_; (with_reducible refine (class_Of.calls kj27 (Int.tmod (wrap64 (a1)) 96) t120 t121 _ A34.out).mono ?_); rintro e w37 ⟨rfl, hb⟩; refine ⟨_, rfl, ?_⟩; have n0_ := Aside0.mk (below_step (by repeat (first | (with_reducible first | exact HB.out | apply below_alloc | apply pw_below_drewN | apply below_drew1) | exact HB.out)) hb); clear HB; have HB := n0_; clear n0_; (try clear hb); (try clear hb2); (try clear hk); (try clear hi)) | ((with_reducible refine gate_callee (f := 8) rfl ?_); refine goesL_ (some 97) rfl rfl Try.func8 (by kernel_rfl) rfl #[.int .i64 (Int.tmod (wrap64 (a1)) 96)] rfl (by (try simp only [List.map_toArray, List.map_cons, List.map_nil]); first | done | rfl | (simp only [List.length_drop, List.length_take]; rfl)) ?_; (with_reducible refine (class_Run.calls (Int.tmod (wrap64 (a1)) 96) t122 t123 _ A35.out).mono ?_); rintro e w' ⟨rfl, ⟨nd, rfl⟩⟩; refine ⟨_, rfl, ?_⟩))
                      go_ret
                      exact ⟨by first | rfl | (simp [errW_none, errW_some] <;> rfl) | (simp [*, errW_none, errW_some] <;> rfl), by repeat (first | (with_reducible first | exact HB.out | apply below_alloc | apply pw_below_drewN | apply below_drew1) | exact HB.out)⟩
                    · rw [if_neg c36] at H
                      have c36b0 : (t121 == t123) = false := by simpa using c36
                      (try (have c36b1 : decide (t121 = t123) = false := by simpa using c36))
                      (try (have c36b2 : (t121 == t123) = false := by simpa using c36))
                      (try (have c36b3 : ¬ (t121 = t123) := by simpa using c36))
                      clear c36
                      by_cases c38 : t121 = true
                      · subst c38
                        have H1 : ((class_Room.f t120).bind fun t124 => (if t124 ≥ (Int.tmod (wrap64 (a1)) 96) then (if t120 = 0 then ((demesnelaw03_wakes.f kj27).bind fun t125 => (some t125)) else ((class_Room.f (wrap64 (t120 - 1))).bind fun t126 => (if t126 < (Int.tmod (wrap64 (a1)) 96) then ((demesnelaw03_wakes.f kj27).bind fun t127 => (some t127)) else (some false)))) else (some false))) = some r := by rw [if_pos rfl] at H; exact H
                        clear H
                        have H := H1
                        clear H1
                        replace H := Option.bind_eq_some_iff.mp H
                        obtain ⟨t124, A390, H⟩ := H
                        replace H : (if t124 ≥ (Int.tmod (wrap64 (a1)) 96) then (if t120 = 0 then ((demesnelaw03_wakes.f kj27).bind fun t125 => (some t125)) else ((class_Room.f (wrap64 (t120 - 1))).bind fun t126 => (if t126 < (Int.tmod (wrap64 (a1)) 96) then ((demesnelaw03_wakes.f kj27).bind fun t127 => (some t127)) else (some false)))) else (some false)) = some r := H
                        have A39 := Aside0.mk A390
                        clear A390
                        by_cases c40 : t124 ≥ (Int.tmod (wrap64 (a1)) 96)
                        · rw [if_pos c40] at H
                          have c40b0 : decide ((Int.tmod (wrap64 (a1)) 96) ≤ t124) = true := decide_eq_true c40
                          clear c40
                          by_cases c41 : t120 = 0
                          · rw [if_pos c41] at H
                            have c41b0 : (t120 == 0) = true := beq_iff_eq.mpr c41
                            have c41b1 : (t120 != 0) = false := bne_eq_false_iff_eq.mpr c41
                            clear c41
                            replace H := Option.bind_eq_some_iff.mp H
                            obtain ⟨t125, A420, H⟩ := H
                            replace H : (some t125) = some r := H
                            have A42 := Aside0.mk A420
                            clear A420
                            obtain rfl := Option.some.inj H
                            go_wp2_with (first | ((with_reducible refine gate_callee (f := 7) rfl ?_); refine goesL_ (some 92) rfl rfl Try.func7 (by kernel_rfl) rfl #[.int .i64 (Int.tmod (wrap64 (a1)) 96)] rfl (by (try simp only [List.map_toArray, List.map_cons, List.map_nil]); first | done | rfl | (simp only [List.length_drop, List.length_take]; rfl)) ?_; (with_reducible refine (class_Of.calls kj27 (Int.tmod (wrap64 (a1)) 96) t120 true _ A34.out).mono ?_); rintro e w43 ⟨rfl, hb⟩; refine ⟨_, rfl, ?_⟩; have n0_ := Aside0.mk (below_step (by repeat (first | (with_reducible first | exact HB.out | apply below_alloc | apply pw_below_drewN | apply below_drew1) | exact HB.out)) hb); clear HB; have HB := n0_; clear n0_; (try clear hb); (try clear hb2); (try clear hk); (try clear hi)) | ((with_reducible refine gate_callee (f := 8) rfl ?_); refine goesL_ (some 97) rfl rfl Try.func8 (by kernel_rfl) rfl #[.int .i64 (Int.tmod (wrap64 (a1)) 96)] rfl (by (try simp only [List.map_toArray, List.map_cons, List.map_nil]); first | done | rfl | (simp only [List.length_drop, List.length_take]; rfl)) ?_; (with_reducible refine (class_Run.calls (Int.tmod (wrap64 (a1)) 96) t122 t123 _ A35.out).mono ?_); rintro e w' ⟨rfl, ⟨nd, rfl⟩⟩; refine ⟨_, rfl, ?_⟩) | ((with_reducible refine gate_callee (f := 13) rfl ?_); refine goesL_ (some 105) rfl rfl Try.func13 (by kernel_rfl) rfl #[.int .i64 t120] rfl (by (try simp only [List.map_toArray, List.map_cons, List.map_nil]); first | done | rfl | (simp only [List.length_drop, List.length_take]; rfl)) ?_; (with_reducible refine (class_Room.calls t120 t124 _ A39.out).mono ?_); rintro e w44 ⟨rfl, hb⟩; refine ⟨_, rfl, ?_⟩; have n0_ := Aside0.mk (below_step (by repeat (first | (with_reducible first | exact HB.out | apply below_alloc | apply pw_below_drewN | apply below_drew1) | exact HB.out)) hb); clear HB; have HB := n0_; clear n0_; (try clear hb); (try clear hb2); (try clear hk); (try clear hi)) | (go_at_call 6; (with_reducible refine (demesnelaw03_wakes.calls kj27  t125 _ A42.out).mono ?_); rintro e w45 ⟨rfl, hb⟩; have n0_ := Aside0.mk (below_step (by repeat (first | (with_reducible first | exact HB.out | apply below_alloc | apply pw_below_drewN | apply below_drew1) | exact HB.out)) hb); clear HB; have HB := n0_; clear n0_; (try clear hb); (try clear hb2); (try clear hk); (try clear hi)))
                            go_ret
                            exact ⟨by first | rfl | (simp [errW_none, errW_some] <;> rfl) | (simp [*, errW_none, errW_some] <;> rfl), by repeat (first | (with_reducible first | exact HB.out | apply below_alloc | apply pw_below_drewN | apply below_drew1) | exact HB.out)⟩
                          · rw [if_neg c41] at H
                            have c41b0 : (t120 == 0) = false := beq_eq_false_iff_ne.mpr c41
                            have c41b1 : (t120 != 0) = true := bne_iff_ne.mpr c41
                            replace H := Option.bind_eq_some_iff.mp H
                            obtain ⟨t126, A460, H⟩ := H
                            replace H : (if t126 < (Int.tmod (wrap64 (a1)) 96) then ((demesnelaw03_wakes.f kj27).bind fun t127 => (some t127)) else (some false)) = some r := H
                            have A46 := Aside0.mk A460
                            clear A460
                            by_cases c47 : t126 < (Int.tmod (wrap64 (a1)) 96)
                            · rw [if_pos c47] at H
                              have c47b0 : decide (t126 < (Int.tmod (wrap64 (a1)) 96)) = true := decide_eq_true c47
                              clear c47
                              replace H := Option.bind_eq_some_iff.mp H
                              obtain ⟨t127, A480, H⟩ := H
                              replace H : (some t127) = some r := H
                              have A48 := Aside0.mk A480
                              clear A480
                              obtain rfl := Option.some.inj H
                              go_wp2_with (first | ((with_reducible refine gate_callee (f := 7) rfl ?_); refine goesL_ (some 92) rfl rfl Try.func7 (by kernel_rfl) rfl #[.int .i64 (Int.tmod (wrap64 (a1)) 96)] rfl (by (try simp only [List.map_toArray, List.map_cons, List.map_nil]); first | done | rfl | (simp only [List.length_drop, List.length_take]; rfl)) ?_; (with_reducible refine (class_Of.calls kj27 (Int.tmod (wrap64 (a1)) 96) t120 true _ A34.out).mono ?_); rintro e w49 ⟨rfl, hb⟩; refine ⟨_, rfl, ?_⟩; have n0_ := Aside0.mk (below_step (by repeat (first | (with_reducible first | exact HB.out | apply below_alloc | apply pw_below_drewN | apply below_drew1) | exact HB.out)) hb); clear HB; have HB := n0_; clear n0_; (try clear hb); (try clear hb2); (try clear hk); (try clear hi)) | ((with_reducible refine gate_callee (f := 8) rfl ?_); refine goesL_ (some 97) rfl rfl Try.func8 (by kernel_rfl) rfl #[.int .i64 (Int.tmod (wrap64 (a1)) 96)] rfl (by (try simp only [List.map_toArray, List.map_cons, List.map_nil]); first | done | rfl | (simp only [List.length_drop, List.length_take]; rfl)) ?_; (with_reducible refine (class_Run.calls (Int.tmod (wrap64 (a1)) 96) t122 t123 _ A35.out).mono ?_); rintro e w' ⟨rfl, ⟨nd, rfl⟩⟩; refine ⟨_, rfl, ?_⟩) | ((with_reducible refine gate_callee (f := 13) rfl ?_); refine goesL_ (some 105) rfl rfl Try.func13 (by kernel_rfl) rfl #[.int .i64 t120] rfl (by (try simp only [List.map_toArray, List.map_cons, List.map_nil]); first | done | rfl | (simp only [List.length_drop, List.length_take]; rfl)) ?_; (with_reducible refine (class_Room.calls t120 t124 _ A39.out).mono ?_); rintro e w50 ⟨rfl, hb⟩; refine ⟨_, rfl, ?_⟩; have n0_ := Aside0.mk (below_step (by repeat (first | (with_reducible first | exact HB.out | apply below_alloc | apply pw_below_drewN | apply below_drew1) | exact HB.out)) hb); clear HB; have HB := n0_; clear n0_; (try clear hb); (try clear hb2); (try clear hk); (try clear hi)) | (go_at_call 13; (with_reducible refine (class_Room.calls (wrap64 (t120 - 1)) t126 _ A46.out).mono ?_); rintro e w51 ⟨rfl, hb⟩; have n0_ := Aside0.mk (below_step (by repeat (first | (with_reducible first | exact HB.out | apply below_alloc | apply pw_below_drewN | apply below_drew1) | exact HB.out)) hb); clear HB; have HB := n0_; clear n0_; (try clear hb); (try clear hb2); (try clear hk); (try clear hi)) | (go_at_call 6; (with_reducible refine (demesnelaw03_wakes.calls kj27  t127 _ A48.out).mono ?_); rintro e w52 ⟨rfl, hb⟩; have n0_ := Aside0.mk (below_step (by repeat (first | (with_reducible first | exact HB.out | apply below_alloc | apply pw_below_drewN | apply below_drew1) | exact HB.out)) hb); clear HB; have HB := n0_; clear n0_; (try clear hb); (try clear hb2); (try clear hk); (try clear hi)))
                              go_ret
                              exact ⟨by first | rfl | (simp [errW_none, errW_some] <;> rfl) | (simp [*, errW_none, errW_some] <;> rfl), by repeat (first | (with_reducible first | exact HB.out | apply below_alloc | apply pw_below_drewN | apply below_drew1) | exact HB.out)⟩
                            · rw [if_neg c47] at H
                              have c47b0 : decide (t126 < (Int.tmod (wrap64 (a1)) 96)) = false := decide_eq_false c47
                              clear c47
                              obtain rfl := Option.some.inj H
                              go_wp2_with (first | ((with_reducible refine gate_callee (f := 7) rfl ?_); refine goesL_ (some 92) rfl rfl Try.func7 (by kernel_rfl) rfl #[.int .i64 (Int.tmod (wrap64 (a1)) 96)] rfl (by (try simp only [List.map_toArray, List.map_cons, List.map_nil]); first | done | rfl | (simp only [List.length_drop, List.length_take]; rfl)) ?_; (with_reducible refine (class_Of.calls kj27 (Int.tmod (wrap64 (a1)) 96) t120 true _ A34.out).mono ?_); rintro e w53 ⟨rfl, hb⟩; refine ⟨_, rfl, ?_⟩; have n0_ := Aside0.mk (below_step (by repeat (first | (with_reducible first | exact HB.out | apply below_alloc | apply pw_below_drewN | apply below_drew1) | exact HB.out)) hb); clear HB; have HB := n0_; clear n0_; (try clear hb); (try clear hb2); (try clear hk); (try clear hi)) | ((with_reducible refine gate_callee (f := 8) rfl ?_); refine goesL_ (some 97) rfl rfl Try.func8 (by kernel_rfl) rfl #[.int .i64 (Int.tmod (wrap64 (a1)) 96)] rfl (by (try simp only [List.map_toArray, List.map_cons, List.map_nil]); first | done | rfl | (simp only [List.length_drop, List.length_take]; rfl)) ?_; (with_reducible refine (class_Run.calls (Int.tmod (wrap64 (a1)) 96) t122 t123 _ A35.out).mono ?_); rintro e w' ⟨rfl, ⟨nd, rfl⟩⟩; refine ⟨_, rfl, ?_⟩) | ((with_reducible refine gate_callee (f := 13) rfl ?_); refine goesL_ (some 105) rfl rfl Try.func13 (by kernel_rfl) rfl #[.int .i64 t120] rfl (by (try simp only [List.map_toArray, List.map_cons, List.map_nil]); first | done | rfl | (simp only [List.length_drop, List.length_take]; rfl)) ?_; (with_reducible refine (class_Room.calls t120 t124 _ A39.out).mono ?_); rintro e w54 ⟨rfl, hb⟩; refine ⟨_, rfl, ?_⟩; have n0_ := Aside0.mk (below_step (by repeat (first | (with_reducible first | exact HB.out | apply below_alloc | apply pw_below_drewN | apply below_drew1) | exact HB.out)) hb); clear HB; have HB := n0_; clear n0_; (try clear hb); (try clear hb2); (try clear hk); (try clear hi)) | (go_at_call 13; (with_reducible refine (class_Room.calls (wrap64 (t120 - 1)) t126 _ A46.out).mono ?_); rintro e w55 ⟨rfl, hb⟩; have n0_ := Aside0.mk (below_step (by repeat (first | (with_reducible first | exact HB.out | apply below_alloc | apply pw_below_drewN | apply below_drew1) | exact HB.out)) hb); clear HB; have HB := n0_; clear n0_; (try clear hb); (try clear hb2); (try clear hk); (try clear hi)))
                              go_ret
                              exact ⟨by first | rfl | (simp [errW_none, errW_some] <;> rfl) | (simp [*, errW_none, errW_some] <;> rfl), by repeat (first | (with_reducible first | exact HB.out | apply below_alloc | apply pw_below_drewN | apply below_drew1) | exact HB.out)⟩
                        · rw [if_neg c40] at H
                          have c40b0 : decide ((Int.tmod (wrap64 (a1)) 96) ≤ t124) = false := decide_eq_false c40
                          clear c40
                          obtain rfl := Option.some.inj H
                          go_wp2_with (first | ((with_reducible refine gate_callee (f := 7) rfl ?_); refine goesL_ (some 92) rfl rfl Try.func7 (by kernel_rfl) rfl #[.int .i64 (Int.tmod (wrap64 (a1)) 96)] rfl (by (try simp only [List.map_toArray, List.map_cons, List.map_nil]); first | done | rfl | (simp only [List.length_drop, List.length_take]; rfl)) ?_; (with_reducible refine (class_Of.calls kj27 (Int.tmod (wrap64 (a1)) 96) t120 true _ A34.out).mono ?_); rintro e w56 ⟨rfl, hb⟩; refine ⟨_, rfl, ?_⟩; have n0_ := Aside0.mk (below_step (by repeat (first | (with_reducible first | exact HB.out | apply below_alloc | apply pw_below_drewN | apply below_drew1) | exact HB.out)) hb); clear HB; have HB := n0_; clear n0_; (try clear hb); (try clear hb2); (try clear hk); (try clear hi)) | ((with_reducible refine gate_callee (f := 8) rfl ?_); refine goesL_ (some 97) rfl rfl Try.func8 (by kernel_rfl) rfl #[.int .i64 (Int.tmod (wrap64 (a1)) 96)] rfl (by (try simp only [List.map_toArray, List.map_cons, List.map_nil]); first | done | rfl | (simp only [List.length_drop, List.length_take]; rfl)) ?_; (with_reducible refine (class_Run.calls (Int.tmod (wrap64 (a1)) 96) t122 t123 _ A35.out).mono ?_); rintro e w' ⟨rfl, ⟨nd, rfl⟩⟩; refine ⟨_, rfl, ?_⟩) | ((with_reducible refine gate_callee (f := 13) rfl ?_); refine goesL_ (some 105) rfl rfl Try.func13 (by kernel_rfl) rfl #[.int .i64 t120] rfl (by (try simp only [List.map_toArray, List.map_cons, List.map_nil]); first | done | rfl | (simp only [List.length_drop, List.length_take]; rfl)) ?_; (with_reducible refine (class_Room.calls t120 t124 _ A39.out).mono ?_); rintro e w57 ⟨rfl, hb⟩; refine ⟨_, rfl, ?_⟩; have n0_ := Aside0.mk (below_step (by repeat (first | (with_reducible first | exact HB.out | apply below_alloc | apply pw_below_drewN | apply below_drew1) | exact HB.out)) hb); clear HB; have HB := n0_; clear n0_; (try clear hb); (try clear hb2); (try clear hk); (try clear hi)))
                          go_ret
                          exact ⟨by first | rfl | (simp [errW_none, errW_some] <;> rfl) | (simp [*, errW_none, errW_some] <;> rfl), by repeat (first | (with_reducible first | exact HB.out | apply below_alloc | apply pw_below_drewN | apply below_drew1) | exact HB.out)⟩
                      · replace c38 := Bool.eq_false_iff.mpr c38
                        subst c38
                        have H1 : (if (wrap64 (t122 * 32)) ≥ (wrap64 ((Int.tmod (wrap64 (a1)) 96) + 1)) then (if (wrap64 ((wrap64 (t122 - 1)) * 32)) < (wrap64 ((Int.tmod (wrap64 (a1)) 96) + 1)) then (if t122 ≤ 3 then ((demesnelaw03_wakes.f kj27).bind fun t128 => (some t128)) else (some false)) else (some false)) else (some false)) = some r := by rw [if_neg (show ¬ (false = true) by decide)] at H; exact H
                        clear H
                        have H := H1
                        clear H1
                        by_cases c58 : (wrap64 (t122 * 32)) ≥ (wrap64 ((Int.tmod (wrap64 (a1)) 96) + 1))
                        · rw [if_pos c58] at H
                          have c58b0 : decide ((wrap64 ((Int.tmod (wrap64 (a1)) 96) + 1)) ≤ (wrap64 (t122 * 32))) = true := decide_eq_true c58
                          clear c58
                          by_cases c59 : (wrap64 ((wrap64 (t122 - 1)) * 32)) < (wrap64 ((Int.tmod (wrap64 (a1)) 96) + 1))
                          · rw [if_pos c59] at H
                            have c59b0 : decide ((wrap64 ((wrap64 (t122 - 1)) * 32)) < (wrap64 ((Int.tmod (wrap64 (a1)) 96) + 1))) = true := decide_eq_true c59
                            clear c59
                            by_cases c60 : t122 ≤ 3
                            · rw [if_pos c60] at H
                              have c60b0 : decide (t122 ≤ 3) = true := decide_eq_true c60
                              clear c60
                              replace H := Option.bind_eq_some_iff.mp H
                              obtain ⟨t128, A610, H⟩ := H
                              replace H : (some t128) = some r := H
                              have A61 := Aside0.mk A610
                              clear A610
                              obtain rfl := Option.some.inj H
                              go_wp2_with (first | ((with_reducible refine gate_callee (f := 7) rfl ?_); refine goesL_ (some 92) rfl rfl Try.func7 (by kernel_rfl) rfl #[.int .i64 (Int.tmod (wrap64 (a1)) 96)] rfl (by (try simp only [List.map_toArray, List.map_cons, List.map_nil]); first | done | rfl | (simp only [List.length_drop, List.length_take]; rfl)) ?_; (with_reducible refine (class_Of.calls kj27 (Int.tmod (wrap64 (a1)) 96) t120 false _ A34.out).mono ?_); rintro e w62 ⟨rfl, hb⟩; refine ⟨_, rfl, ?_⟩; have n0_ := Aside0.mk (below_step (by repeat (first | (with_reducible first | exact HB.out | apply below_alloc | apply pw_below_drewN | apply below_drew1) | exact HB.out)) hb); clear HB; have HB := n0_; clear n0_; (try clear hb); (try clear hb2); (try clear hk); (try clear hi)) | ((with_reducible refine gate_callee (f := 8) rfl ?_); refine goesL_ (some 97) rfl rfl Try.func8 (by kernel_rfl) rfl #[.int .i64 (Int.tmod (wrap64 (a1)) 96)] rfl (by (try simp only [List.map_toArray, List.map_cons, List.map_nil]); first | done | rfl | (simp only [List.length_drop, List.length_take]; rfl)) ?_; (with_reducible refine (class_Run.calls (Int.tmod (wrap64 (a1)) 96) t122 t123 _ A35.out).mono ?_); rintro e w' ⟨rfl, ⟨nd, rfl⟩⟩; refine ⟨_, rfl, ?_⟩) | (go_at_call 6; (with_reducible refine (demesnelaw03_wakes.calls kj27  t128 _ A61.out).mono ?_); rintro e w63 ⟨rfl, hb⟩; have n0_ := Aside0.mk (below_step (by repeat (first | (with_reducible first | exact HB.out | apply below_alloc | apply pw_below_drewN | apply below_drew1) | exact HB.out)) hb); clear HB; have HB := n0_; clear n0_; (try clear hb); (try clear hb2); (try clear hk); (try clear hi)))
                              go_ret
                              exact ⟨by first | rfl | (simp [errW_none, errW_some] <;> rfl) | (simp [*, errW_none, errW_some] <;> rfl), by repeat (first | (with_reducible first | exact HB.out | apply below_alloc | apply pw_below_drewN | apply below_drew1) | exact HB.out)⟩
                            · rw [if_neg c60] at H
                              have c60b0 : decide (t122 ≤ 3) = false := decide_eq_false c60
                              clear c60
                              obtain rfl := Option.some.inj H
                              go_wp2_with (first | ((with_reducible refine gate_callee (f := 7) rfl ?_); refine goesL_ (some 92) rfl rfl Try.func7 (by kernel_rfl) rfl #[.int .i64 (Int.tmod (wrap64 (a1)) 96)] rfl (by (try simp only [List.map_toArray, List.map_cons, List.map_nil]); first | done | rfl | (simp only [List.length_drop, List.length_take]; rfl)) ?_; (with_reducible refine (class_Of.calls kj27 (Int.tmod (wrap64 (a1)) 96) t120 false _ A34.out).mono ?_); rintro e w64 ⟨rfl, hb⟩; refine ⟨_, rfl, ?_⟩; have n0_ := Aside0.mk (below_step (by repeat (first | (with_reducible first | exact HB.out | apply below_alloc | apply pw_below_drewN | apply below_drew1) | exact HB.out)) hb); clear HB; have HB := n0_; clear n0_; (try clear hb); (try clear hb2); (try clear hk); (try clear hi)) | ((with_reducible refine gate_callee (f := 8) rfl ?_); refine goesL_ (some 97) rfl rfl Try.func8 (by kernel_rfl) rfl #[.int .i64 (Int.tmod (wrap64 (a1)) 96)] rfl (by (try simp only [List.map_toArray, List.map_cons, List.map_nil]); first | done | rfl | (simp only [List.length_drop, List.length_take]; rfl)) ?_; (with_reducible refine (class_Run.calls (Int.tmod (wrap64 (a1)) 96) t122 t123 _ A35.out).mono ?_); rintro e w' ⟨rfl, ⟨nd, rfl⟩⟩; refine ⟨_, rfl, ?_⟩))
                              go_ret
                              exact ⟨by first | rfl | (simp [errW_none, errW_some] <;> rfl) | (simp [*, errW_none, errW_some] <;> rfl), by repeat (first | (with_reducible first | exact HB.out | apply below_alloc | apply pw_below_drewN | apply below_drew1) | exact HB.out)⟩
                          · rw [if_neg c59] at H
                            have c59b0 : decide ((wrap64 ((wrap64 (t122 - 1)) * 32)) < (wrap64 ((Int.tmod (wrap64 (a1)) 96) + 1))) = false := decide_eq_false c59
                            clear c59
                            obtain rfl := Option.some.inj H
                            go_wp2_with (first | ((with_reducible refine gate_callee (f := 7) rfl ?_); refine goesL_ (some 92) rfl rfl Try.func7 (by kernel_rfl) rfl #[.int .i64 (Int.tmod (wrap64 (a1)) 96)] rfl (by (try simp only [List.map_toArray, List.map_cons, List.map_nil]); first | done | rfl | (simp only [List.length_drop, List.length_take]; rfl)) ?_; (with_reducible refine (class_Of.calls kj27 (Int.tmod (wrap64 (a1)) 96) t120 false _ A34.out).mono ?_); rintro e w65 ⟨rfl, hb⟩; refine ⟨_, rfl, ?_⟩; have n0_ := Aside0.mk (below_step (by repeat (first | (with_reducible first | exact HB.out | apply below_alloc | apply pw_below_drewN | apply below_drew1) | exact HB.out)) hb); clear HB; have HB := n0_; clear n0_; (try clear hb); (try clear hb2); (try clear hk); (try clear hi)) | ((with_reducible refine gate_callee (f := 8) rfl ?_); refine goesL_ (some 97) rfl rfl Try.func8 (by kernel_rfl) rfl #[.int .i64 (Int.tmod (wrap64 (a1)) 96)] rfl (by (try simp only [List.map_toArray, List.map_cons, List.map_nil]); first | done | rfl | (simp only [List.length_drop, List.length_take]; rfl)) ?_; (with_reducible refine (class_Run.calls (Int.tmod (wrap64 (a1)) 96) t122 t123 _ A35.out).mono ?_); rintro e w' ⟨rfl, ⟨nd, rfl⟩⟩; refine ⟨_, rfl, ?_⟩))
                            go_ret
                            exact ⟨by first | rfl | (simp [errW_none, errW_some] <;> rfl) | (simp [*, errW_none, errW_some] <;> rfl), by repeat (first | (with_reducible first | exact HB.out | apply below_alloc | apply pw_below_drewN | apply below_drew1) | exact HB.out)⟩
                        · rw [if_neg c58] at H
                          have c58b0 : decide ((wrap64 ((Int.tmod (wrap64 (a1)) 96) + 1)) ≤ (wrap64 (t122 * 32))) = false := decide_eq_false c58
                          clear c58
                          obtain rfl := Option.some.inj H
                          go_wp2_with (first | ((with_reducible refine gate_callee (f := 7) rfl ?_); refine goesL_ (some 92) rfl rfl Try.func7 (by kernel_rfl) rfl #[.int .i64 (Int.tmod (wrap64 (a1)) 96)] rfl (by (try simp only [List.map_toArray, List.map_cons, List.map_nil]); first | done | rfl | (simp only [List.length_drop, List.length_take]; rfl)) ?_; (with_reducible refine (class_Of.calls kj27 (Int.tmod (wrap64 (a1)) 96) t120 false _ A34.out).mono ?_); rintro e w66 ⟨rfl, hb⟩; refine ⟨_, rfl, ?_⟩; have n0_ := Aside0.mk (below_step (by repeat (first | (with_reducible first | exact HB.out | apply below_alloc | apply pw_below_drewN | apply below_drew1) | exact HB.out)) hb); clear HB; have HB := n0_; clear n0_; (try clear hb); (try clear hb2); (try clear hk); (try clear hi)) | ((with_reducible refine gate_callee (f := 8) rfl ?_); refine goesL_ (some 97) rfl rfl Try.func8 (by kernel_rfl) rfl #[.int .i64 (Int.tmod (wrap64 (a1)) 96)] rfl (by (try simp only [List.map_toArray, List.map_cons, List.map_nil]); first | done | rfl | (simp only [List.length_drop, List.length_take]; rfl)) ?_; (with_reducible refine (class_Run.calls (Int.tmod (wrap64 (a1)) 96) t122 t123 _ A35.out).mono ?_); rintro e w' ⟨rfl, ⟨nd, rfl⟩⟩; refine ⟨_, rfl, ?_⟩))
                          go_ret
                          exact ⟨by first | rfl | (simp [errW_none, errW_some] <;> rfl) | (simp [*, errW_none, errW_some] <;> rfl), by repeat (first | (with_reducible first | exact HB.out | apply below_alloc | apply pw_below_drewN | apply below_drew1) | exact HB.out)⟩

/-- THE ONE PURE STATEMENT of demesnelaw03_ClassParts: yours. -/
def demesnelaw03_ClassParts.Pure : Prop := ∀ (a0 : Int) (a1 : Int), (Lit.int .u8 a0).wf = true → (Lit.int .u8 a1).wf = true → ∃ k, demesnelaw03_ClassParts.f k a0 a1 = some true
theorem demesnelaw03_ClassParts.walk (P : demesnelaw03_ClassParts.Pure) (a0 : Int) (a1 : Int) (w : World) (w0 : (Lit.int .u8 a0).wf = true) (w1 : (Lit.int .u8 a1).wf = true) :
    Calls Try.prog 5 #[.int .u8 a0, .int .u8 a1] w fun e w' => e = .returned (.bool true) ∧ Below w.heap.size w w' := by
  obtain ⟨k, h⟩ := P a0 a1 w0 w1
  refine (demesnelaw03_ClassParts.calls k a0 a1 true w h).mono ?_
  rintro e w' ⟨rfl, hd⟩
  exact ⟨rfl, hd⟩

end Go.Proofs.Ytoibpomlahlnoaa.PClassParts
