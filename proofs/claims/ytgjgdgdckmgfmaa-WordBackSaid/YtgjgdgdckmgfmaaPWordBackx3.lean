/- Proved here: of Go functions of this seat, what each call answers, as a Lean function of the same answers ('.f', '.calls'), or (the text Law..) the statement itself out of the text Pure..; no condition but those that each theorem writes out. Laid by a program of this session over the kit's print; by hand: (demesne/word.Head).may, demesne/word.Put, demesne/word.Take. -/
import Derived.Test.YtgjgdgdckmgfmaaPWordBackx0
import Derived.Test.YtgjgdgdckmgfmaaPWordBackx1
import Derived.Test.YtgjgdgdckmgfmaaPWordBackx2
namespace Go.Proofs.Ytgjgdgdckmgfmaa.PWordBack
open Go.RowKit Go.Proofs.YtgjgdgdckmgfmaaW.PrintWords Go.Proofs.YtgjgdgdckmgfmaaW.PrintLast Go.Proofs.YtgjgdgdckmgfmaaW.PrintMore
attribute [local go_sem] max2_int min2_int max_two min_two max_three min_three max_four min_four   -- for this text's walks alone
set_option linter.unusedVariables false
set_option linter.unusedSimpArgs false

attribute [local go_sem high] eqA28
/-! ### demesnelaw01_WordBack: function 5 -/
mutual
def demesnelaw01_WordBack.j0 : Nat → Int → Int → Int → Bool → Int → Int → Bool → Bool → Int → Int → Int → Option (Bool)
  | 0, _, _, _, _, _, _, _, _, _, _, _ => none
  | k + 1, x2, x7, x8, x43, x117000, x117001, x117002, x117003, x117004, x117005, x117006 => if x43 = true then (some false) else (if x8 = 0 then ((word_Take.f x7).bind fun bt122 => (if bt122.2.2.2.2.2.2.2 = 0 then (if (!(bt122.1 == x117000) || (!(bt122.2.1 == x117001) || (!(bt122.2.2.1 == x117002) || (!(bt122.2.2.2.1 == x117003) || (!(bt122.2.2.2.2.1 == x117004) || (!(bt122.2.2.2.2.2.1 == x117005) || (!(bt122.2.2.2.2.2.2.1 == x117006)))))))) = true then (some false) else (demesnelaw01_WordBack.j1 k x2)) else (some false))) else (demesnelaw01_WordBack.j1 k x2))
def demesnelaw01_WordBack.j1 : Nat → Int → Option (Bool)
  | 0, _ => none
  | k + 1, x2 => (word_Take.f x2).bind fun bt131 => ((word_Put.f 0 0 false false 0 0 0).bind fun bt140 => (if bt140.1 = 0 then (demesnelaw01_WordBack.j2 k x2 bt131.2.2.2.2.2.2.2 (bt140.2 != 0) bt131.1 bt131.2.1 bt131.2.2.1 bt131.2.2.2.1 bt131.2.2.2.2.1 bt131.2.2.2.2.2.1 bt131.2.2.2.2.2.2.1) else (demesnelaw01_WordBack.j2 k x2 bt131.2.2.2.2.2.2.2 true bt131.1 bt131.2.1 bt131.2.2.1 bt131.2.2.2.1 bt131.2.2.2.2.1 bt131.2.2.2.2.2.1 bt131.2.2.2.2.2.2.1)))
def demesnelaw01_WordBack.j2 : Nat → Int → Int → Bool → Int → Int → Bool → Bool → Int → Int → Int → Option (Bool)
  | 0, _, _, _, _, _, _, _, _, _, _ => none
  | k + 1, x2, x14, x73, x140000, x140001, x140002, x140003, x140004, x140005, x140006 => if x73 = true then (some false) else (if x14 = 0 then ((word_Put.f x140000 x140001 x140002 x140003 x140004 x140005 x140006).bind fun bt142 => (if bt142.2 = 0 then (if bt142.1 = x2 then ((demesnelaw01_wakes.f).bind fun t144 => (some t144)) else (some false)) else (some false))) else (if (x140000 == 0 && (x140001 == 0 && (!x140002 && (!x140003 && (x140004 == 0 && (x140005 == 0 && (x140006 == 0))))))) = true then ((demesnelaw01_wakes.f).bind fun t145 => (some t145)) else (some false)))
end
def demesnelaw01_WordBack.f (k : Nat) (a0_0 : Int) (a0_1 : Int) (a0_2 : Bool) (a0_3 : Bool) (a0_4 : Int) (a0_5 : Int) (a0_6 : Int) (a1_0 : Int) (a1_1 : Int) (a1_2 : Bool) (a1_3 : Bool) (a1_4 : Int) (a1_5 : Int) (a1_6 : Int) (a2 : Int) : Option (Bool) := (word_Put.f a0_0 a0_1 a0_2 a0_3 a0_4 a0_5 a0_6).bind fun bt118 => ((word_Put.f a1_0 a1_1 a1_2 a1_3 a1_4 a1_5 a1_6).bind fun bt120 => (if bt118.2 = 0 then (if bt120.2 = 0 then (demesnelaw01_WordBack.j0 k a2 bt118.1 bt118.2 ((bt118.1 == bt120.1) != (a0_0 == a1_0 && (a0_1 == a1_1 && (a0_2 == a1_2 && (a0_3 == a1_3 && (a0_4 == a1_4 && (a0_5 == a1_5 && (a0_6 == a1_6)))))))) a0_0 a0_1 a0_2 a0_3 a0_4 a0_5 a0_6) else (demesnelaw01_WordBack.j0 k a2 bt118.1 bt118.2 false a0_0 a0_1 a0_2 a0_3 a0_4 a0_5 a0_6)) else (demesnelaw01_WordBack.j0 k a2 bt118.1 bt118.2 false a0_0 a0_1 a0_2 a0_3 a0_4 a0_5 a0_6)))
theorem demesnelaw01_WordBack.mono_l : ∀ k, (∀ y0 y1 y2 y3 y4 y5 y6 y7 y8 y9 y10, LeO (demesnelaw01_WordBack.j0 k y0 y1 y2 y3 y4 y5 y6 y7 y8 y9 y10) (demesnelaw01_WordBack.j0 (k + 1) y0 y1 y2 y3 y4 y5 y6 y7 y8 y9 y10)) ∧ (∀ y0, LeO (demesnelaw01_WordBack.j1 k y0) (demesnelaw01_WordBack.j1 (k + 1) y0)) ∧ (∀ y0 y1 y2 y3 y4 y5 y6 y7 y8 y9, LeO (demesnelaw01_WordBack.j2 k y0 y1 y2 y3 y4 y5 y6 y7 y8 y9) (demesnelaw01_WordBack.j2 (k + 1) y0 y1 y2 y3 y4 y5 y6 y7 y8 y9))
  | 0 => ⟨fun _ _ _ _ _ _ _ _ _ _ _ r h => by simp [demesnelaw01_WordBack.j0] at h, fun _ r h => by simp [demesnelaw01_WordBack.j1] at h, fun _ _ _ _ _ _ _ _ _ _ r h => by simp [demesnelaw01_WordBack.j2] at h⟩
  | k + 1 => by
    obtain ⟨ih0, ih1, ih2⟩ := demesnelaw01_WordBack.mono_l k
    refine ⟨?_, ?_, ?_⟩
    · intro y0 y1 y2 y3 y4 y5 y6 y7 y8 y9 y10
      unfold demesnelaw01_WordBack.j0
      repeat' first
      | (with_reducible exact ih0 _ _ _ _ _ _ _ _ _ _ _)
      | (with_reducible exact ih1 _)
      | (with_reducible exact ih2 _ _ _ _ _ _ _ _ _ _)
      | (with_reducible exact LeO.refl _)
      | (with_reducible exact LeO.none _)
      | (with_reducible refine LeO.ite ?_ ?_)
      | (with_reducible refine LeO.bind ?_ (fun _ => ?_))
      | exact ih0 _ _ _ _ _ _ _ _ _ _ _
      | exact ih1 _
      | exact ih2 _ _ _ _ _ _ _ _ _ _
      | exact LeO.none _
      | refine LeO.ite ?_ ?_
      | refine LeO.bind ?_ (fun _ => ?_)
    · intro y0
      unfold demesnelaw01_WordBack.j1
      repeat' first
      | (with_reducible exact ih0 _ _ _ _ _ _ _ _ _ _ _)
      | (with_reducible exact ih1 _)
      | (with_reducible exact ih2 _ _ _ _ _ _ _ _ _ _)
      | (with_reducible exact LeO.refl _)
      | (with_reducible exact LeO.none _)
      | (with_reducible refine LeO.ite ?_ ?_)
      | (with_reducible refine LeO.bind ?_ (fun _ => ?_))
      | exact ih0 _ _ _ _ _ _ _ _ _ _ _
      | exact ih1 _
      | exact ih2 _ _ _ _ _ _ _ _ _ _
      | exact LeO.none _
      | refine LeO.ite ?_ ?_
      | refine LeO.bind ?_ (fun _ => ?_)
    · intro y0 y1 y2 y3 y4 y5 y6 y7 y8 y9
      unfold demesnelaw01_WordBack.j2
      repeat' first
      | (with_reducible exact ih0 _ _ _ _ _ _ _ _ _ _ _)
      | (with_reducible exact ih1 _)
      | (with_reducible exact ih2 _ _ _ _ _ _ _ _ _ _)
      | (with_reducible exact LeO.refl _)
      | (with_reducible exact LeO.none _)
      | (with_reducible refine LeO.ite ?_ ?_)
      | (with_reducible refine LeO.bind ?_ (fun _ => ?_))
      | exact ih0 _ _ _ _ _ _ _ _ _ _ _
      | exact ih1 _
      | exact ih2 _ _ _ _ _ _ _ _ _ _
      | exact LeO.none _
      | refine LeO.ite ?_ ?_
      | refine LeO.bind ?_ (fun _ => ?_)
theorem demesnelaw01_WordBack.mono : ∀ a0 a1 a2 a3 a4 a5 a6 a7 a8 a9 a10 a11 a12 a13 a14 k, LeO (demesnelaw01_WordBack.f k a0 a1 a2 a3 a4 a5 a6 a7 a8 a9 a10 a11 a12 a13 a14) (demesnelaw01_WordBack.f (k + 1) a0 a1 a2 a3 a4 a5 a6 a7 a8 a9 a10 a11 a12 a13 a14) := by
  intro a0 a1 a2 a3 a4 a5 a6 a7 a8 a9 a10 a11 a12 a13 a14 k
  obtain ⟨ih0, ih1, ih2⟩ := demesnelaw01_WordBack.mono_l k
  unfold demesnelaw01_WordBack.f
  repeat' first
      | (with_reducible exact ih0 _ _ _ _ _ _ _ _ _ _ _)
      | (with_reducible exact ih1 _)
      | (with_reducible exact ih2 _ _ _ _ _ _ _ _ _ _)
      | (with_reducible exact LeO.refl _)
      | (with_reducible exact LeO.none _)
      | (with_reducible refine LeO.ite ?_ ?_)
      | (with_reducible refine LeO.bind ?_ (fun _ => ?_))
      | exact ih0 _ _ _ _ _ _ _ _ _ _ _
      | exact ih1 _
      | exact ih2 _ _ _ _ _ _ _ _ _ _
      | exact LeO.none _
      | refine LeO.ite ?_ ?_
      | refine LeO.bind ?_ (fun _ => ?_)
set_option maxHeartbeats 8000000 in
set_option maxRecDepth 100000 in
theorem demesnelaw01_WordBack.calls (k : Nat) (a0_0 : Int) (a0_1 : Int) (a0_2 : Bool) (a0_3 : Bool) (a0_4 : Int) (a0_5 : Int) (a0_6 : Int) (a1_0 : Int) (a1_1 : Int) (a1_2 : Bool) (a1_3 : Bool) (a1_4 : Int) (a1_5 : Int) (a1_6 : Int) (a2 : Int) (r : Bool) (w : World) (h : demesnelaw01_WordBack.f k a0_0 a0_1 a0_2 a0_3 a0_4 a0_5 a0_6 a1_0 a1_1 a1_2 a1_3 a1_4 a1_5 a1_6 a2 = some r) :
    Calls Try.prog 5 #[.agg #[.int .u8 a0_0, .int .u8 a0_1, .bool a0_2, .bool a0_3, .int .u8 a0_4, .int .u8 a0_5, .int .u8 a0_6], .agg #[.int .u8 a1_0, .int .u8 a1_1, .bool a1_2, .bool a1_3, .int .u8 a1_4, .int .u8 a1_5, .int .u8 a1_6], .int .u64 a2] w fun e w' => e = .returned (.bool r) ∧ Below w.heap.size w w' := by
  have hu28 := Try.underlying28
  have HB := Aside0.mk (Below.refl w.heap.size w)
  have H : ((word_Put.f a0_0 a0_1 a0_2 a0_3 a0_4 a0_5 a0_6).bind fun bt118 => ((word_Put.f a1_0 a1_1 a1_2 a1_3 a1_4 a1_5 a1_6).bind fun bt120 => (if bt118.2 = 0 then (if bt120.2 = 0 then (demesnelaw01_WordBack.j0 k a2 bt118.1 bt118.2 ((bt118.1 == bt120.1) != (a0_0 == a1_0 && (a0_1 == a1_1 && (a0_2 == a1_2 && (a0_3 == a1_3 && (a0_4 == a1_4 && (a0_5 == a1_5 && (a0_6 == a1_6)))))))) a0_0 a0_1 a0_2 a0_3 a0_4 a0_5 a0_6) else (demesnelaw01_WordBack.j0 k a2 bt118.1 bt118.2 false a0_0 a0_1 a0_2 a0_3 a0_4 a0_5 a0_6)) else (demesnelaw01_WordBack.j0 k a2 bt118.1 bt118.2 false a0_0 a0_1 a0_2 a0_3 a0_4 a0_5 a0_6)))) = some r := h
  clear h
  replace H := Option.bind_eq_some_iff.mp H
  obtain ⟨⟨t118, t119⟩, A40, H⟩ := H
  replace H : ((word_Put.f a1_0 a1_1 a1_2 a1_3 a1_4 a1_5 a1_6).bind fun bt120 => (if t119 = 0 then (if bt120.2 = 0 then (demesnelaw01_WordBack.j0 k a2 t118 t119 ((t118 == bt120.1) != (a0_0 == a1_0 && (a0_1 == a1_1 && (a0_2 == a1_2 && (a0_3 == a1_3 && (a0_4 == a1_4 && (a0_5 == a1_5 && (a0_6 == a1_6)))))))) a0_0 a0_1 a0_2 a0_3 a0_4 a0_5 a0_6) else (demesnelaw01_WordBack.j0 k a2 t118 t119 false a0_0 a0_1 a0_2 a0_3 a0_4 a0_5 a0_6)) else (demesnelaw01_WordBack.j0 k a2 t118 t119 false a0_0 a0_1 a0_2 a0_3 a0_4 a0_5 a0_6))) = some r := H
  have A4 := Aside0.mk A40
  clear A40
  replace H := Option.bind_eq_some_iff.mp H
  obtain ⟨⟨t120, t121⟩, A50, H⟩ := H
  replace H : (if t119 = 0 then (if t121 = 0 then (demesnelaw01_WordBack.j0 k a2 t118 t119 ((t118 == t120) != (a0_0 == a1_0 && (a0_1 == a1_1 && (a0_2 == a1_2 && (a0_3 == a1_3 && (a0_4 == a1_4 && (a0_5 == a1_5 && (a0_6 == a1_6)))))))) a0_0 a0_1 a0_2 a0_3 a0_4 a0_5 a0_6) else (demesnelaw01_WordBack.j0 k a2 t118 t119 false a0_0 a0_1 a0_2 a0_3 a0_4 a0_5 a0_6)) else (demesnelaw01_WordBack.j0 k a2 t118 t119 false a0_0 a0_1 a0_2 a0_3 a0_4 a0_5 a0_6)) = some r := H
  have A5 := Aside0.mk A50
  clear A50
  have HC6 := Aside0.mk H
  clear H
  go_enter Try.func5, Try.ntmps5
  go_upto_region 3 with (first | ((with_reducible refine gate_dst (N := 3) rfl ?_); refine box_event ?hg (N := 3) ?hd (cs := #[.int .u8 a0_0, .int .u8 a0_1, .bool a0_2, .bool a0_3, .int .u8 a0_4, .int .u8 a0_5, .int .u8 a0_6]) (t := 28) ?hr ?_; (case hd => rfl); (case hg => rfl); (case hr => first | (go_simp; done) | (go_simp; rfl)); intro gb116 hg w7 hbox hb; have n0_ := Aside0.mk (below_step (by repeat (first | (with_reducible first | exact HB.out | apply below_alloc | apply pw_below_drewN | apply below_drew1) | exact HB.out)) hb); have n1_ := Aside0.mk (hbox); have n2_ := Aside0.mk ((by rw [hg]; exact (below_size (by repeat (first | (with_reducible first | exact HB.out | apply below_alloc | apply pw_below_drewN | apply below_drew1) | exact HB.out))) : w.heap.size ≤ gb116)); have n3_ := Aside0.mk ((by rw [hg]; exact (below_size (by repeat (first | (with_reducible first | exact HB.out | apply below_alloc | apply pw_below_drewN | apply below_drew1) | exact HB.out))) : w.heap.size ≤ gb116)); clear HB; have HB := n0_; have BK116 := n1_; have GW116 := n2_; have GE116 := n3_; clear n0_ n1_ n2_ n3_; clear hb hbox hg) | ((with_reducible refine gate_dst (N := 4) rfl ?_); refine box_event ?hg (N := 4) ?hd (cs := #[.int .u8 a1_0, .int .u8 a1_1, .bool a1_2, .bool a1_3, .int .u8 a1_4, .int .u8 a1_5, .int .u8 a1_6]) (t := 28) ?hr ?_; (case hd => rfl); (case hg => rfl); (case hr => first | (go_simp; done) | (go_simp; rfl)); intro gb117 hg w8 hbox hb; have n0_ := Aside0.mk (blk_below (g := gb116) (o := .cells #[.int .u8 a0_0, .int .u8 a0_1, .bool a0_2, .bool a0_3, .int .u8 a0_4, .int .u8 a0_5, .int .u8 a0_6] 28 (0, 0)) (by (with_reducible repeat (first | refine blk_drewN ?_ _ | refine blk_drew ?_ | refine blk_alloc ?_ _)); exact BK116.out) hb); have n1_ := Aside0.mk (below_step (by repeat (first | (with_reducible first | exact HB.out | apply below_alloc | apply pw_below_drewN | apply below_drew1 | refine below_set ?_ GE116.out) | exact HB.out)) hb); have n2_ := Aside0.mk (hbox); have n3_ := Aside0.mk ((by rw [hg]; exact (below_size (by repeat (first | (with_reducible first | exact HB.out | apply below_alloc | apply pw_below_drewN | apply below_drew1 | refine below_set ?_ GE116.out) | exact HB.out))) : w.heap.size ≤ gb117)); have n4_ := Aside0.mk ((by rw [hg]; exact (below_size (by repeat (first | (with_reducible first | exact HB.out | apply below_alloc | apply pw_below_drewN | apply below_drew1 | refine below_set ?_ GE116.out) | exact HB.out))) : w.heap.size ≤ gb117)); have n5_ := Aside0.mk ((by rw [hg]; exact Nat.ne_of_lt (blk_lt (g := gb116) (o := .cells #[.int .u8 a0_0, .int .u8 a0_1, .bool a0_2, .bool a0_3, .int .u8 a0_4, .int .u8 a0_5, .int .u8 a0_6] 28 (0, 0)) (by (with_reducible repeat (first | refine blk_drewN ?_ _ | refine blk_drew ?_ | refine blk_alloc ?_ _)); exact BK116.out)) : gb116 ≠ gb117)); have n6_ := Aside0.mk ((by rw [hg]; exact Nat.ne_of_gt (blk_lt (g := gb116) (o := .cells #[.int .u8 a0_0, .int .u8 a0_1, .bool a0_2, .bool a0_3, .int .u8 a0_4, .int .u8 a0_5, .int .u8 a0_6] 28 (0, 0)) (by (with_reducible repeat (first | refine blk_drewN ?_ _ | refine blk_drew ?_ | refine blk_alloc ?_ _)); exact BK116.out)) : gb117 ≠ gb116)); clear BK116; clear HB; have BK116 := n0_; have HB := n1_; have BK117 := n2_; have GW117 := n3_; have GE117 := n4_; have NB116_117 := n5_; have NB117_116 := n6_; clear n0_ n1_ n2_ n3_ n4_ n5_ n6_; clear hb hbox hg; have hnb9 := NB116_117.out; have hnc9 := NB117_116.out; have hcz10_0 : w8.cell? ⟨gb116, 0, none⟩ = some (.int .u8 a0_0) := (blk_cell BK116.out 0).trans rfl; have hcz10_1 : w8.cell? ⟨gb116, 1, none⟩ = some (.int .u8 a0_1) := (blk_cell BK116.out 1).trans rfl; have hcz10_2 : w8.cell? ⟨gb116, 2, none⟩ = some (.bool a0_2) := (blk_cell BK116.out 2).trans rfl; have hcz10_3 : w8.cell? ⟨gb116, 3, none⟩ = some (.bool a0_3) := (blk_cell BK116.out 3).trans rfl; have hcz10_4 : w8.cell? ⟨gb116, 4, none⟩ = some (.int .u8 a0_4) := (blk_cell BK116.out 4).trans rfl; have hcz10_5 : w8.cell? ⟨gb116, 5, none⟩ = some (.int .u8 a0_5) := (blk_cell BK116.out 5).trans rfl; have hcz10_6 : w8.cell? ⟨gb116, 6, none⟩ = some (.int .u8 a0_6) := (blk_cell BK116.out 6).trans rfl; have hfz10_0 := blk_frozen BK116.out 0; have hfz10_1 := blk_frozen BK116.out 1; have hfz10_2 := blk_frozen BK116.out 2; have hfz10_3 := blk_frozen BK116.out 3; have hfz10_4 := blk_frozen BK116.out 4; have hfz10_5 := blk_frozen BK116.out 5; have hfz10_6 := blk_frozen BK116.out 6) | ((with_reducible refine gate_callee (f := 6) rfl ?_); refine goesL_ (some 21) rfl rfl Try.func6 (by kernel_rfl) rfl #[.agg #[.int .u8 a0_0, .int .u8 a0_1, .bool a0_2, .bool a0_3, .int .u8 a0_4, .int .u8 a0_5, .int .u8 a0_6]] rfl (by (try simp only [List.map_toArray, List.map_cons, List.map_nil]); first | done | rfl | (simp only [List.length_drop, List.length_take]; rfl)) ?_; (with_reducible refine (word_Put.calls a0_0 a0_1 a0_2 a0_3 a0_4 a0_5 a0_6 t118 t119 _ A4.out).mono ?_); rintro e w11 ⟨rfl, hb⟩; refine ⟨_, rfl, ?_⟩; have n0_ := Aside0.mk (blk_below (g := gb116) (o := .cells #[.int .u8 a0_0, .int .u8 a0_1, .bool a0_2, .bool a0_3, .int .u8 a0_4, .int .u8 a0_5, .int .u8 a0_6] 28 (0, 0)) (by (with_reducible repeat (first | refine blk_drewN ?_ _ | refine blk_drew ?_ | refine blk_alloc ?_ _)); exact BK116.out) hb); have n1_ := Aside0.mk (blk_below (g := gb117) (o := .cells #[.int .u8 a1_0, .int .u8 a1_1, .bool a1_2, .bool a1_3, .int .u8 a1_4, .int .u8 a1_5, .int .u8 a1_6] 28 (0, 0)) (by (with_reducible repeat (first | refine blk_drewN ?_ _ | refine blk_drew ?_ | refine blk_alloc ?_ _)); exact BK117.out) hb); have n2_ := Aside0.mk (below_step (by repeat (first | (with_reducible first | exact HB.out | apply below_alloc | apply pw_below_drewN | apply below_drew1 | refine below_set ?_ GE116.out | refine below_set ?_ GE117.out) | exact HB.out)) hb); clear BK116; clear BK117; clear HB; have BK116 := n0_; have BK117 := n1_; have HB := n2_; clear n0_ n1_ n2_; (try clear hb); (try clear hb2); (try clear hk); (try clear hi); have hcz12_0 : w11.cell? ⟨gb117, 0, none⟩ = some (.int .u8 a1_0) := (blk_cell BK117.out 0).trans rfl; have hcz12_1 : w11.cell? ⟨gb117, 1, none⟩ = some (.int .u8 a1_1) := (blk_cell BK117.out 1).trans rfl; have hcz12_2 : w11.cell? ⟨gb117, 2, none⟩ = some (.bool a1_2) := (blk_cell BK117.out 2).trans rfl; have hcz12_3 : w11.cell? ⟨gb117, 3, none⟩ = some (.bool a1_3) := (blk_cell BK117.out 3).trans rfl; have hcz12_4 : w11.cell? ⟨gb117, 4, none⟩ = some (.int .u8 a1_4) := (blk_cell BK117.out 4).trans rfl; have hcz12_5 : w11.cell? ⟨gb117, 5, none⟩ = some (.int .u8 a1_5) := (blk_cell BK117.out 5).trans rfl; have hcz12_6 : w11.cell? ⟨gb117, 6, none⟩ = some (.int .u8 a1_6) := (blk_cell BK117.out 6).trans rfl; have hfz12_0 := blk_frozen BK117.out 0; have hfz12_1 := blk_frozen BK117.out 1; have hfz12_2 := blk_frozen BK117.out 2; have hfz12_3 := blk_frozen BK117.out 3; have hfz12_4 := blk_frozen BK117.out 4; have hfz12_5 := blk_frozen BK117.out 5; have hfz12_6 := blk_frozen BK117.out 6) | ((with_reducible refine gate_callee (f := 6) rfl ?_); refine goesL_ (some 26) rfl rfl Try.func6 (by kernel_rfl) rfl #[.agg #[.int .u8 a1_0, .int .u8 a1_1, .bool a1_2, .bool a1_3, .int .u8 a1_4, .int .u8 a1_5, .int .u8 a1_6]] rfl (by (try simp only [List.map_toArray, List.map_cons, List.map_nil]); first | done | rfl | (simp only [List.length_drop, List.length_take]; rfl)) ?_; (with_reducible refine (word_Put.calls a1_0 a1_1 a1_2 a1_3 a1_4 a1_5 a1_6 t120 t121 _ A5.out).mono ?_); rintro e w13 ⟨rfl, hb⟩; refine ⟨_, rfl, ?_⟩; have n0_ := Aside0.mk (blk_below (g := gb116) (o := .cells #[.int .u8 a0_0, .int .u8 a0_1, .bool a0_2, .bool a0_3, .int .u8 a0_4, .int .u8 a0_5, .int .u8 a0_6] 28 (0, 0)) (by (with_reducible repeat (first | refine blk_drewN ?_ _ | refine blk_drew ?_ | refine blk_alloc ?_ _)); exact BK116.out) hb); have n1_ := Aside0.mk (blk_below (g := gb117) (o := .cells #[.int .u8 a1_0, .int .u8 a1_1, .bool a1_2, .bool a1_3, .int .u8 a1_4, .int .u8 a1_5, .int .u8 a1_6] 28 (0, 0)) (by (with_reducible repeat (first | refine blk_drewN ?_ _ | refine blk_drew ?_ | refine blk_alloc ?_ _)); exact BK117.out) hb); have n2_ := Aside0.mk (below_step (by repeat (first | (with_reducible first | exact HB.out | apply below_alloc | apply pw_below_drewN | apply below_drew1 | refine below_set ?_ GE116.out | refine below_set ?_ GE117.out) | exact HB.out)) hb); clear BK116; clear BK117; clear HB; have BK116 := n0_; have BK117 := n1_; have HB := n2_; clear n0_ n1_ n2_; (try clear hb); (try clear hb2); (try clear hk); (try clear hi)))
  (try simp only [Act.put, List.setIfInBounds_toArray, List.set_cons_zero, List.set_cons_succ])
  go_cut [43] (fun v43 wc => ∃ (kq : Nat) (x43_5 : Bool), v43 = .bool x43_5 ∧ Aside0 (demesnelaw01_WordBack.j0 kq a2 t118 t119 x43_5 a0_0 a0_1 a0_2 a0_3 a0_4 a0_5 a0_6 = some r) ∧ Aside0 (kq ≤ k) ∧ Aside0 (wc.heap[gb116]? = some (.cells #[.int .u8 a0_0, .int .u8 a0_1, .bool a0_2, .bool a0_3, .int .u8 a0_4, .int .u8 a0_5, .int .u8 a0_6] 28 (0, 0))) ∧ Aside0 (wc.heap[gb117]? = some (.cells #[.int .u8 a1_0, .int .u8 a1_1, .bool a1_2, .bool a1_3, .int .u8 a1_4, .int .u8 a1_5, .int .u8 a1_6] 28 (0, 0))) ∧ Aside0 (Below w.heap.size w wc))
  case first =>
    have H := HC6.out
    clear HC6
    by_cases c14 : t119 = 0
    · rw [if_pos c14] at H
      have c14b0 : (t119 == 0) = true := beq_iff_eq.mpr c14
      have c14b1 : (t119 != 0) = false := bne_eq_false_iff_eq.mpr c14
      clear c14
      (first | rw [c14b0] | (simp only [i64_w, i32_w]; rw [c14b0]) | skip)
      by_cases c15 : t121 = 0
      · rw [if_pos c15] at H
        have c15b0 : (t121 == 0) = true := beq_iff_eq.mpr c15
        have c15b1 : (t121 != 0) = false := bne_eq_false_iff_eq.mpr c15
        clear c15
        have H' := Aside0.mk H
        clear H
        have hnb16 := NB116_117.out
        have hnc16 := NB117_116.out
        have hcz17_0 : w13.cell? ⟨gb116, 0, none⟩ = some (.int .u8 a0_0) := (blk_cell BK116.out 0).trans rfl
        have hcz17_1 : w13.cell? ⟨gb116, 1, none⟩ = some (.int .u8 a0_1) := (blk_cell BK116.out 1).trans rfl
        have hcz17_2 : w13.cell? ⟨gb116, 2, none⟩ = some (.bool a0_2) := (blk_cell BK116.out 2).trans rfl
        have hcz17_3 : w13.cell? ⟨gb116, 3, none⟩ = some (.bool a0_3) := (blk_cell BK116.out 3).trans rfl
        have hcz17_4 : w13.cell? ⟨gb116, 4, none⟩ = some (.int .u8 a0_4) := (blk_cell BK116.out 4).trans rfl
        have hcz17_5 : w13.cell? ⟨gb116, 5, none⟩ = some (.int .u8 a0_5) := (blk_cell BK116.out 5).trans rfl
        have hcz17_6 : w13.cell? ⟨gb116, 6, none⟩ = some (.int .u8 a0_6) := (blk_cell BK116.out 6).trans rfl
        have hfz17_0 := blk_frozen BK116.out 0
        have hfz17_1 := blk_frozen BK116.out 1
        have hfz17_2 := blk_frozen BK116.out 2
        have hfz17_3 := blk_frozen BK116.out 3
        have hfz17_4 := blk_frozen BK116.out 4
        have hfz17_5 := blk_frozen BK116.out 5
        have hfz17_6 := blk_frozen BK116.out 6
        have hcz18_0 : w13.cell? ⟨gb117, 0, none⟩ = some (.int .u8 a1_0) := (blk_cell BK117.out 0).trans rfl
        have hcz18_1 : w13.cell? ⟨gb117, 1, none⟩ = some (.int .u8 a1_1) := (blk_cell BK117.out 1).trans rfl
        have hcz18_2 : w13.cell? ⟨gb117, 2, none⟩ = some (.bool a1_2) := (blk_cell BK117.out 2).trans rfl
        have hcz18_3 : w13.cell? ⟨gb117, 3, none⟩ = some (.bool a1_3) := (blk_cell BK117.out 3).trans rfl
        have hcz18_4 : w13.cell? ⟨gb117, 4, none⟩ = some (.int .u8 a1_4) := (blk_cell BK117.out 4).trans rfl
        have hcz18_5 : w13.cell? ⟨gb117, 5, none⟩ = some (.int .u8 a1_5) := (blk_cell BK117.out 5).trans rfl
        have hcz18_6 : w13.cell? ⟨gb117, 6, none⟩ = some (.int .u8 a1_6) := (blk_cell BK117.out 6).trans rfl
        have hfz18_0 := blk_frozen BK117.out 0
        have hfz18_1 := blk_frozen BK117.out 1
        have hfz18_2 := blk_frozen BK117.out 2
        have hfz18_3 := blk_frozen BK117.out 3
        have hfz18_4 := blk_frozen BK117.out 4
        have hfz18_5 := blk_frozen BK117.out 5
        have hfz18_6 := blk_frozen BK117.out 6
        go_wp2
        go_meet
        case rel => exact ⟨_, (((t118 == t120) != (a0_0 == a1_0 && (a0_1 == a1_1 && (a0_2 == a1_2 && (a0_3 == a1_3 && (a0_4 == a1_4 && (a0_5 == a1_5 && (a0_6 == a1_6))))))))), (by first | rfl | (simp; done) | (simp [*]; done)), H', ⟨by first | omega | exact Nat.le_refl _⟩, ⟨by (with_reducible repeat (first | refine blk_drewN ?_ _ | refine blk_drew ?_ | refine blk_alloc ?_ _)); exact BK116.out⟩, ⟨by (with_reducible repeat (first | refine blk_drewN ?_ _ | refine blk_drew ?_ | refine blk_alloc ?_ _)); exact BK117.out⟩, ⟨by repeat (first | (with_reducible first | exact HB.out | apply below_alloc | apply pw_below_drewN | apply below_drew1 | refine below_set ?_ GE116.out | refine below_set ?_ GE117.out) | exact HB.out)⟩⟩
      · rw [if_neg c15] at H
        have c15b0 : (t121 == 0) = false := beq_eq_false_iff_ne.mpr c15
        have c15b1 : (t121 != 0) = true := bne_iff_ne.mpr c15
        have H' := Aside0.mk H
        clear H
        go_wp2
        go_meet
        case rel => exact ⟨_, (false), (by first | rfl | (simp; done) | (simp [*]; done)), H', ⟨by first | omega | exact Nat.le_refl _⟩, ⟨by (with_reducible repeat (first | refine blk_drewN ?_ _ | refine blk_drew ?_ | refine blk_alloc ?_ _)); exact BK116.out⟩, ⟨by (with_reducible repeat (first | refine blk_drewN ?_ _ | refine blk_drew ?_ | refine blk_alloc ?_ _)); exact BK117.out⟩, ⟨by repeat (first | (with_reducible first | exact HB.out | apply below_alloc | apply pw_below_drewN | apply below_drew1 | refine below_set ?_ GE116.out | refine below_set ?_ GE117.out) | exact HB.out)⟩⟩
    · rw [if_neg c14] at H
      have c14b0 : (t119 == 0) = false := beq_eq_false_iff_ne.mpr c14
      have c14b1 : (t119 != 0) = true := bne_iff_ne.mpr c14
      (first | rw [c14b0] | (simp only [i64_w, i32_w]; rw [c14b0]) | skip)
      have H' := Aside0.mk H
      clear H
      go_wp2
      go_meet
      case rel => exact ⟨_, (false), (by first | rfl | (simp; done) | (simp [*]; done)), H', ⟨by first | omega | exact Nat.le_refl _⟩, ⟨by (with_reducible repeat (first | refine blk_drewN ?_ _ | refine blk_drew ?_ | refine blk_alloc ?_ _)); exact BK116.out⟩, ⟨by (with_reducible repeat (first | refine blk_drewN ?_ _ | refine blk_drew ?_ | refine blk_alloc ?_ _)); exact BK117.out⟩, ⟨by repeat (first | (with_reducible first | exact HB.out | apply below_alloc | apply pw_below_drewN | apply below_drew1 | refine below_set ?_ GE116.out | refine below_set ?_ GE117.out) | exact HB.out)⟩⟩
  case rest =>
    clear HC6
    try clear c1
    try clear p2
    try clear c5
    try clear c6
    try clear c9
    try clear c14
    try clear c14b0
    try clear c14b1
    try clear c15
    try clear c15b0
    try clear c15b1
    try clear c16
    try clear hcz10_0
    try clear hcz10_1
    try clear hcz10_2
    try clear hcz10_3
    try clear hcz10_4
    try clear hcz10_5
    try clear hcz10_6
    try clear hcz12_0
    try clear hcz12_1
    try clear hcz12_2
    try clear hcz12_3
    try clear hcz12_4
    try clear hcz12_5
    try clear hcz12_6
    try clear hcz17_0
    try clear hcz17_1
    try clear hcz17_2
    try clear hcz17_3
    try clear hcz17_4
    try clear hcz17_5
    try clear hcz17_6
    try clear hcz18_0
    try clear hcz18_1
    try clear hcz18_2
    try clear hcz18_3
    try clear hcz18_4
    try clear hcz18_5
    try clear hcz18_6
    try clear hfz10_0
    try clear hfz10_1
    try clear hfz10_2
    try clear hfz10_3
    try clear hfz10_4
    try clear hfz10_5
    try clear hfz10_6
    try clear hfz12_0
    try clear hfz12_1
    try clear hfz12_2
    try clear hfz12_3
    try clear hfz12_4
    try clear hfz12_5
    try clear hfz12_6
    try clear hfz17_0
    try clear hfz17_1
    try clear hfz17_2
    try clear hfz17_3
    try clear hfz17_4
    try clear hfz17_5
    try clear hfz17_6
    try clear hfz18_0
    try clear hfz18_1
    try clear hfz18_2
    try clear hfz18_3
    try clear hfz18_4
    try clear hfz18_5
    try clear hfz18_6
    obtain ⟨kq, x43_5, rfl, HA, HJ5, BK116, BK117, HB⟩ := hcut
    cases kq with
    | zero => exact absurd HA.out (by simp [demesnelaw01_WordBack.j0])
    | succ kj5 =>
      have H := HA.out
      clear HA
      simp only [demesnelaw01_WordBack.j0] at H
      by_cases c19 : x43_5 = true
      · subst c19
        have H1 : (some false) = some r := by rw [if_pos rfl] at H; exact H
        clear H
        have H := H1
        clear H1
        obtain rfl := Option.some.inj H
        go_wp2
        go_ret
        exact ⟨by first | rfl | (simp [errW_none, errW_some] <;> rfl) | (simp [*, errW_none, errW_some] <;> rfl), by repeat (first | (with_reducible first | exact HB.out | apply below_alloc | apply pw_below_drewN | apply below_drew1 | refine below_set ?_ GE116.out | refine below_set ?_ GE117.out) | exact HB.out)⟩
      · replace c19 := Bool.eq_false_iff.mpr c19
        subst c19
        have H1 : (if t119 = 0 then ((word_Take.f t118).bind fun bt122 => (if bt122.2.2.2.2.2.2.2 = 0 then (if (!(bt122.1 == a0_0) || (!(bt122.2.1 == a0_1) || (!(bt122.2.2.1 == a0_2) || (!(bt122.2.2.2.1 == a0_3) || (!(bt122.2.2.2.2.1 == a0_4) || (!(bt122.2.2.2.2.2.1 == a0_5) || (!(bt122.2.2.2.2.2.2.1 == a0_6)))))))) = true then (some false) else (demesnelaw01_WordBack.j1 kj5 a2)) else (some false))) else (demesnelaw01_WordBack.j1 kj5 a2)) = some r := by rw [if_neg (show ¬ (false = true) by decide)] at H; exact H
        clear H
        have H := H1
        clear H1
        have HC20 := Aside0.mk H
        clear H
        go_upto_if 45 with (fail)
        go_cut [] (fun wc => ∃ (kq : Nat), Aside0 (demesnelaw01_WordBack.j1 kq a2 = some r) ∧ Aside0 (kq ≤ kj5) ∧ Aside0 (wc.heap[gb116]? = some (.cells #[.int .u8 a0_0, .int .u8 a0_1, .bool a0_2, .bool a0_3, .int .u8 a0_4, .int .u8 a0_5, .int .u8 a0_6] 28 (0, 0))) ∧ Aside0 (wc.heap[gb117]? = some (.cells #[.int .u8 a1_0, .int .u8 a1_1, .bool a1_2, .bool a1_3, .int .u8 a1_4, .int .u8 a1_5, .int .u8 a1_6] 28 (0, 0))) ∧ Aside0 (Below w.heap.size w wc))
        case first =>
          have H := HC20.out
          clear HC20
          by_cases c21 : t119 = 0
          · rw [if_pos c21] at H
            have c21b0 : (t119 == 0) = true := beq_iff_eq.mpr c21
            have c21b1 : (t119 != 0) = false := bne_eq_false_iff_eq.mpr c21
            clear c21
            (first | rw [c21b0] | (simp only [i64_w, i32_w]; rw [c21b0]) | skip)
            replace H := Option.bind_eq_some_iff.mp H
            obtain ⟨⟨t122, t123, t124, t125, t126, t127, t128, t129⟩, A220, H⟩ := H
            replace H : (if t129 = 0 then (if (!(t122 == a0_0) || (!(t123 == a0_1) || (!(t124 == a0_2) || (!(t125 == a0_3) || (!(t126 == a0_4) || (!(t127 == a0_5) || (!(t128 == a0_6)))))))) = true then (some false) else (demesnelaw01_WordBack.j1 kj5 a2)) else (some false)) = some r := H
            have A22 := Aside0.mk A220
            clear A220
            by_cases c23 : t129 = 0
            · rw [if_pos c23] at H
              have c23b0 : (t129 == 0) = true := beq_iff_eq.mpr c23
              have c23b1 : (t129 != 0) = false := bne_eq_false_iff_eq.mpr c23
              clear c23
              by_cases c24 : (!(t122 == a0_0) || (!(t123 == a0_1) || (!(t124 == a0_2) || (!(t125 == a0_3) || (!(t126 == a0_4) || (!(t127 == a0_5) || (!(t128 == a0_6)))))))) = true
              · rw [if_pos c24] at H
                have c24b0 : (!(t122 == a0_0) || (!(t123 == a0_1) || (!(t124 == a0_2) || (!(t125 == a0_3) || (!(t126 == a0_4) || (!(t127 == a0_5) || (!(t128 == a0_6)))))))) = true := c24
                clear c24
                obtain rfl := Option.some.inj H
                go_wp2_with (first | ((with_reducible refine gate_callee (f := 12) rfl ?_); refine goesL_ (some 48) rfl rfl Try.func12 (by kernel_rfl) rfl #[.int .u64 t118] rfl (by (try simp only [List.map_toArray, List.map_cons, List.map_nil]); first | done | rfl | (simp only [List.length_drop, List.length_take]; rfl)) ?_; (with_reducible refine (word_Take.calls t118 t122 t123 t124 t125 t126 t127 t128 t129 _ A22.out).mono ?_); rintro e w25 ⟨rfl, hb⟩; refine ⟨_, rfl, ?_⟩; have n0_ := Aside0.mk (blk_below (g := gb116) (o := .cells #[.int .u8 a0_0, .int .u8 a0_1, .bool a0_2, .bool a0_3, .int .u8 a0_4, .int .u8 a0_5, .int .u8 a0_6] 28 (0, 0)) (by (with_reducible repeat (first | refine blk_drewN ?_ _ | refine blk_drew ?_ | refine blk_alloc ?_ _)); exact BK116.out) hb); have n1_ := Aside0.mk (blk_below (g := gb117) (o := .cells #[.int .u8 a1_0, .int .u8 a1_1, .bool a1_2, .bool a1_3, .int .u8 a1_4, .int .u8 a1_5, .int .u8 a1_6] 28 (0, 0)) (by (with_reducible repeat (first | refine blk_drewN ?_ _ | refine blk_drew ?_ | refine blk_alloc ?_ _)); exact BK117.out) hb); have n2_ := Aside0.mk (below_step (by repeat (first | (with_reducible first | exact HB.out | apply below_alloc | apply pw_below_drewN | apply below_drew1 | refine below_set ?_ GE116.out | refine below_set ?_ GE117.out) | exact HB.out)) hb); clear BK116; clear BK117; clear HB; have BK116 := n0_; have BK117 := n1_; have HB := n2_; clear n0_ n1_ n2_; (try clear hb); (try clear hb2); (try clear hk); (try clear hi)) | ((with_reducible refine gate_dst (N := 11) rfl ?_); refine box_event ?hg (N := 11) ?hd (cs := #[.int .u8 0, .int .u8 0, .bool false, .bool false, .int .u8 0, .int .u8 0, .int .u8 0]) (t := 28) ?hr ?_; (case hd => rfl); (case hg => rfl); (case hr => first | (go_simp; done) | (go_simp; rfl)); intro gb130 hg w26 hbox hb; have n0_ := Aside0.mk (blk_below (g := gb116) (o := .cells #[.int .u8 a0_0, .int .u8 a0_1, .bool a0_2, .bool a0_3, .int .u8 a0_4, .int .u8 a0_5, .int .u8 a0_6] 28 (0, 0)) (by (with_reducible repeat (first | refine blk_drewN ?_ _ | refine blk_drew ?_ | refine blk_alloc ?_ _)); exact BK116.out) hb); have n1_ := Aside0.mk (blk_below (g := gb117) (o := .cells #[.int .u8 a1_0, .int .u8 a1_1, .bool a1_2, .bool a1_3, .int .u8 a1_4, .int .u8 a1_5, .int .u8 a1_6] 28 (0, 0)) (by (with_reducible repeat (first | refine blk_drewN ?_ _ | refine blk_drew ?_ | refine blk_alloc ?_ _)); exact BK117.out) hb); have n2_ := Aside0.mk (below_step (by repeat (first | (with_reducible first | exact HB.out | apply below_alloc | apply pw_below_drewN | apply below_drew1 | refine below_set ?_ GE116.out | refine below_set ?_ GE117.out) | exact HB.out)) hb); have n3_ := Aside0.mk (hbox); have n4_ := Aside0.mk ((by rw [hg]; exact (below_size (by repeat (first | (with_reducible first | exact HB.out | apply below_alloc | apply pw_below_drewN | apply below_drew1 | refine below_set ?_ GE116.out | refine below_set ?_ GE117.out) | exact HB.out))) : w.heap.size ≤ gb130)); have n5_ := Aside0.mk ((by rw [hg]; exact (below_size (by repeat (first | (with_reducible first | exact HB.out | apply below_alloc | apply pw_below_drewN | apply below_drew1 | refine below_set ?_ GE116.out | refine below_set ?_ GE117.out) | exact HB.out))) : w.heap.size ≤ gb130)); have n6_ := Aside0.mk ((by rw [hg]; exact Nat.ne_of_lt (blk_lt (g := gb116) (o := .cells #[.int .u8 a0_0, .int .u8 a0_1, .bool a0_2, .bool a0_3, .int .u8 a0_4, .int .u8 a0_5, .int .u8 a0_6] 28 (0, 0)) (by (with_reducible repeat (first | refine blk_drewN ?_ _ | refine blk_drew ?_ | refine blk_alloc ?_ _)); exact BK116.out)) : gb116 ≠ gb130)); have n7_ := Aside0.mk ((by rw [hg]; exact Nat.ne_of_gt (blk_lt (g := gb116) (o := .cells #[.int .u8 a0_0, .int .u8 a0_1, .bool a0_2, .bool a0_3, .int .u8 a0_4, .int .u8 a0_5, .int .u8 a0_6] 28 (0, 0)) (by (with_reducible repeat (first | refine blk_drewN ?_ _ | refine blk_drew ?_ | refine blk_alloc ?_ _)); exact BK116.out)) : gb130 ≠ gb116)); have n8_ := Aside0.mk ((by rw [hg]; exact Nat.ne_of_lt (blk_lt (g := gb117) (o := .cells #[.int .u8 a1_0, .int .u8 a1_1, .bool a1_2, .bool a1_3, .int .u8 a1_4, .int .u8 a1_5, .int .u8 a1_6] 28 (0, 0)) (by (with_reducible repeat (first | refine blk_drewN ?_ _ | refine blk_drew ?_ | refine blk_alloc ?_ _)); exact BK117.out)) : gb117 ≠ gb130)); have n9_ := Aside0.mk ((by rw [hg]; exact Nat.ne_of_gt (blk_lt (g := gb117) (o := .cells #[.int .u8 a1_0, .int .u8 a1_1, .bool a1_2, .bool a1_3, .int .u8 a1_4, .int .u8 a1_5, .int .u8 a1_6] 28 (0, 0)) (by (with_reducible repeat (first | refine blk_drewN ?_ _ | refine blk_drew ?_ | refine blk_alloc ?_ _)); exact BK117.out)) : gb130 ≠ gb117)); clear BK116; clear BK117; clear HB; have BK116 := n0_; have BK117 := n1_; have HB := n2_; have BK130 := n3_; have GW130 := n4_; have GE130 := n5_; have NB116_130 := n6_; have NB130_116 := n7_; have NB117_130 := n8_; have NB130_117 := n9_; clear n0_ n1_ n2_ n3_ n4_ n5_ n6_ n7_ n8_ n9_; clear hb hbox hg; have hnb27 := NB130_116.out; have hnc27 := NB116_130.out; have hnb28 := NB130_117.out; have hnc28 := NB117_130.out; have hcz29_0 : w26.cell? ⟨gb130, 0, none⟩ = some (.int .u8 0) := (blk_cell BK130.out 0).trans rfl; have hcz29_1 : w26.cell? ⟨gb130, 1, none⟩ = some (.int .u8 0) := (blk_cell BK130.out 1).trans rfl; have hcz29_2 : w26.cell? ⟨gb130, 2, none⟩ = some (.bool false) := (blk_cell BK130.out 2).trans rfl; have hcz29_3 : w26.cell? ⟨gb130, 3, none⟩ = some (.bool false) := (blk_cell BK130.out 3).trans rfl; have hcz29_4 : w26.cell? ⟨gb130, 4, none⟩ = some (.int .u8 0) := (blk_cell BK130.out 4).trans rfl; have hcz29_5 : w26.cell? ⟨gb130, 5, none⟩ = some (.int .u8 0) := (blk_cell BK130.out 5).trans rfl; have hcz29_6 : w26.cell? ⟨gb130, 6, none⟩ = some (.int .u8 0) := (blk_cell BK130.out 6).trans rfl; have hfz29_0 := blk_frozen BK130.out 0; have hfz29_1 := blk_frozen BK130.out 1; have hfz29_2 := blk_frozen BK130.out 2; have hfz29_3 := blk_frozen BK130.out 3; have hfz29_4 := blk_frozen BK130.out 4; have hfz29_5 := blk_frozen BK130.out 5; have hfz29_6 := blk_frozen BK130.out 6; have hnb30 := NB116_117.out; have hnc30 := NB117_116.out; have hcz31_0 : w26.cell? ⟨gb116, 0, none⟩ = some (.int .u8 a0_0) := (blk_cell BK116.out 0).trans rfl; have hcz31_1 : w26.cell? ⟨gb116, 1, none⟩ = some (.int .u8 a0_1) := (blk_cell BK116.out 1).trans rfl; have hcz31_2 : w26.cell? ⟨gb116, 2, none⟩ = some (.bool a0_2) := (blk_cell BK116.out 2).trans rfl; have hcz31_3 : w26.cell? ⟨gb116, 3, none⟩ = some (.bool a0_3) := (blk_cell BK116.out 3).trans rfl; have hcz31_4 : w26.cell? ⟨gb116, 4, none⟩ = some (.int .u8 a0_4) := (blk_cell BK116.out 4).trans rfl; have hcz31_5 : w26.cell? ⟨gb116, 5, none⟩ = some (.int .u8 a0_5) := (blk_cell BK116.out 5).trans rfl; have hcz31_6 : w26.cell? ⟨gb116, 6, none⟩ = some (.int .u8 a0_6) := (blk_cell BK116.out 6).trans rfl; have hfz31_0 := blk_frozen BK116.out 0; have hfz31_1 := blk_frozen BK116.out 1; have hfz31_2 := blk_frozen BK116.out 2; have hfz31_3 := blk_frozen BK116.out 3; have hfz31_4 := blk_frozen BK116.out 4; have hfz31_5 := blk_frozen BK116.out 5; have hfz31_6 := blk_frozen BK116.out 6))
                go_ret
                exact ⟨by first | rfl | (simp [errW_none, errW_some] <;> rfl) | (simp [*, errW_none, errW_some] <;> rfl), by repeat (first | (with_reducible first | exact HB.out | apply below_alloc | apply pw_below_drewN | apply below_drew1 | refine below_set ?_ GE116.out | refine below_set ?_ GE117.out | refine below_set ?_ GE130.out) | exact HB.out)⟩
              · rw [if_neg c24] at H
                have c24b0 : (!(t122 == a0_0) || (!(t123 == a0_1) || (!(t124 == a0_2) || (!(t125 == a0_3) || (!(t126 == a0_4) || (!(t127 == a0_5) || (!(t128 == a0_6)))))))) = false := by simpa using c24
                clear c24
                have H' := Aside0.mk H
                clear H
                go_wp2_with (first | ((with_reducible refine gate_callee (f := 12) rfl ?_); refine goesL_ (some 48) rfl rfl Try.func12 (by kernel_rfl) rfl #[.int .u64 t118] rfl (by (try simp only [List.map_toArray, List.map_cons, List.map_nil]); first | done | rfl | (simp only [List.length_drop, List.length_take]; rfl)) ?_; (with_reducible refine (word_Take.calls t118 t122 t123 t124 t125 t126 t127 t128 t129 _ A22.out).mono ?_); rintro e w32 ⟨rfl, hb⟩; refine ⟨_, rfl, ?_⟩; have n0_ := Aside0.mk (blk_below (g := gb116) (o := .cells #[.int .u8 a0_0, .int .u8 a0_1, .bool a0_2, .bool a0_3, .int .u8 a0_4, .int .u8 a0_5, .int .u8 a0_6] 28 (0, 0)) (by (with_reducible repeat (first | refine blk_drewN ?_ _ | refine blk_drew ?_ | refine blk_alloc ?_ _)); exact BK116.out) hb); have n1_ := Aside0.mk (blk_below (g := gb117) (o := .cells #[.int .u8 a1_0, .int .u8 a1_1, .bool a1_2, .bool a1_3, .int .u8 a1_4, .int .u8 a1_5, .int .u8 a1_6] 28 (0, 0)) (by (with_reducible repeat (first | refine blk_drewN ?_ _ | refine blk_drew ?_ | refine blk_alloc ?_ _)); exact BK117.out) hb); have n2_ := Aside0.mk (below_step (by repeat (first | (with_reducible first | exact HB.out | apply below_alloc | apply pw_below_drewN | apply below_drew1 | refine below_set ?_ GE116.out | refine below_set ?_ GE117.out) | exact HB.out)) hb); clear BK116; clear BK117; clear HB; have BK116 := n0_; have BK117 := n1_; have HB := n2_; clear n0_ n1_ n2_; (try clear hb); (try clear hb2); (try clear hk); (try clear hi)) | ((with_reducible refine gate_dst (N := 11) rfl ?_); refine box_event ?hg (N := 11) ?hd (cs := #[.int .u8 0, .int .u8 0, .bool false, .bool false, .int .u8 0, .int .u8 0, .int .u8 0]) (t := 28) ?hr ?_; (case hd => rfl); (case hg => rfl); (case hr => first | (go_simp; done) | (go_simp; rfl)); intro gb130 hg w33 hbox hb; have n0_ := Aside0.mk (blk_below (g := gb116) (o := .cells #[.int .u8 a0_0, .int .u8 a0_1, .bool a0_2, .bool a0_3, .int .u8 a0_4, .int .u8 a0_5, .int .u8 a0_6] 28 (0, 0)) (by (with_reducible repeat (first | refine blk_drewN ?_ _ | refine blk_drew ?_ | refine blk_alloc ?_ _)); exact BK116.out) hb); have n1_ := Aside0.mk (blk_below (g := gb117) (o := .cells #[.int .u8 a1_0, .int .u8 a1_1, .bool a1_2, .bool a1_3, .int .u8 a1_4, .int .u8 a1_5, .int .u8 a1_6] 28 (0, 0)) (by (with_reducible repeat (first | refine blk_drewN ?_ _ | refine blk_drew ?_ | refine blk_alloc ?_ _)); exact BK117.out) hb); have n2_ := Aside0.mk (below_step (by repeat (first | (with_reducible first | exact HB.out | apply below_alloc | apply pw_below_drewN | apply below_drew1 | refine below_set ?_ GE116.out | refine below_set ?_ GE117.out) | exact HB.out)) hb); have n3_ := Aside0.mk (hbox); have n4_ := Aside0.mk ((by rw [hg]; exact (below_size (by repeat (first | (with_reducible first | exact HB.out | apply below_alloc | apply pw_below_drewN | apply below_drew1 | refine below_set ?_ GE116.out | refine below_set ?_ GE117.out) | exact HB.out))) : w.heap.size ≤ gb130)); have n5_ := Aside0.mk ((by rw [hg]; exact (below_size (by repeat (first | (with_reducible first | exact HB.out | apply below_alloc | apply pw_below_drewN | apply below_drew1 | refine below_set ?_ GE116.out | refine below_set ?_ GE117.out) | exact HB.out))) : w.heap.size ≤ gb130)); have n6_ := Aside0.mk ((by rw [hg]; exact Nat.ne_of_lt (blk_lt (g := gb116) (o := .cells #[.int .u8 a0_0, .int .u8 a0_1, .bool a0_2, .bool a0_3, .int .u8 a0_4, .int .u8 a0_5, .int .u8 a0_6] 28 (0, 0)) (by (with_reducible repeat (first | refine blk_drewN ?_ _ | refine blk_drew ?_ | refine blk_alloc ?_ _)); exact BK116.out)) : gb116 ≠ gb130)); have n7_ := Aside0.mk ((by rw [hg]; exact Nat.ne_of_gt (blk_lt (g := gb116) (o := .cells #[.int .u8 a0_0, .int .u8 a0_1, .bool a0_2, .bool a0_3, .int .u8 a0_4, .int .u8 a0_5, .int .u8 a0_6] 28 (0, 0)) (by (with_reducible repeat (first | refine blk_drewN ?_ _ | refine blk_drew ?_ | refine blk_alloc ?_ _)); exact BK116.out)) : gb130 ≠ gb116)); have n8_ := Aside0.mk ((by rw [hg]; exact Nat.ne_of_lt (blk_lt (g := gb117) (o := .cells #[.int .u8 a1_0, .int .u8 a1_1, .bool a1_2, .bool a1_3, .int .u8 a1_4, .int .u8 a1_5, .int .u8 a1_6] 28 (0, 0)) (by (with_reducible repeat (first | refine blk_drewN ?_ _ | refine blk_drew ?_ | refine blk_alloc ?_ _)); exact BK117.out)) : gb117 ≠ gb130)); have n9_ := Aside0.mk ((by rw [hg]; exact Nat.ne_of_gt (blk_lt (g := gb117) (o := .cells #[.int .u8 a1_0, .int .u8 a1_1, .bool a1_2, .bool a1_3, .int .u8 a1_4, .int .u8 a1_5, .int .u8 a1_6] 28 (0, 0)) (by (with_reducible repeat (first | refine blk_drewN ?_ _ | refine blk_drew ?_ | refine blk_alloc ?_ _)); exact BK117.out)) : gb130 ≠ gb117)); clear BK116; clear BK117; clear HB; have BK116 := n0_; have BK117 := n1_; have HB := n2_; have BK130 := n3_; have GW130 := n4_; have GE130 := n5_; have NB116_130 := n6_; have NB130_116 := n7_; have NB117_130 := n8_; have NB130_117 := n9_; clear n0_ n1_ n2_ n3_ n4_ n5_ n6_ n7_ n8_ n9_; clear hb hbox hg; have hnb34 := NB130_116.out; have hnc34 := NB116_130.out; have hnb35 := NB130_117.out; have hnc35 := NB117_130.out; have hcz36_0 : w33.cell? ⟨gb130, 0, none⟩ = some (.int .u8 0) := (blk_cell BK130.out 0).trans rfl; have hcz36_1 : w33.cell? ⟨gb130, 1, none⟩ = some (.int .u8 0) := (blk_cell BK130.out 1).trans rfl; have hcz36_2 : w33.cell? ⟨gb130, 2, none⟩ = some (.bool false) := (blk_cell BK130.out 2).trans rfl; have hcz36_3 : w33.cell? ⟨gb130, 3, none⟩ = some (.bool false) := (blk_cell BK130.out 3).trans rfl; have hcz36_4 : w33.cell? ⟨gb130, 4, none⟩ = some (.int .u8 0) := (blk_cell BK130.out 4).trans rfl; have hcz36_5 : w33.cell? ⟨gb130, 5, none⟩ = some (.int .u8 0) := (blk_cell BK130.out 5).trans rfl; have hcz36_6 : w33.cell? ⟨gb130, 6, none⟩ = some (.int .u8 0) := (blk_cell BK130.out 6).trans rfl; have hfz36_0 := blk_frozen BK130.out 0; have hfz36_1 := blk_frozen BK130.out 1; have hfz36_2 := blk_frozen BK130.out 2; have hfz36_3 := blk_frozen BK130.out 3; have hfz36_4 := blk_frozen BK130.out 4; have hfz36_5 := blk_frozen BK130.out 5; have hfz36_6 := blk_frozen BK130.out 6; have hnb37 := NB116_117.out; have hnc37 := NB117_116.out; have hcz38_0 : w33.cell? ⟨gb116, 0, none⟩ = some (.int .u8 a0_0) := (blk_cell BK116.out 0).trans rfl; have hcz38_1 : w33.cell? ⟨gb116, 1, none⟩ = some (.int .u8 a0_1) := (blk_cell BK116.out 1).trans rfl; have hcz38_2 : w33.cell? ⟨gb116, 2, none⟩ = some (.bool a0_2) := (blk_cell BK116.out 2).trans rfl; have hcz38_3 : w33.cell? ⟨gb116, 3, none⟩ = some (.bool a0_3) := (blk_cell BK116.out 3).trans rfl; have hcz38_4 : w33.cell? ⟨gb116, 4, none⟩ = some (.int .u8 a0_4) := (blk_cell BK116.out 4).trans rfl; have hcz38_5 : w33.cell? ⟨gb116, 5, none⟩ = some (.int .u8 a0_5) := (blk_cell BK116.out 5).trans rfl; have hcz38_6 : w33.cell? ⟨gb116, 6, none⟩ = some (.int .u8 a0_6) := (blk_cell BK116.out 6).trans rfl; have hfz38_0 := blk_frozen BK116.out 0; have hfz38_1 := blk_frozen BK116.out 1; have hfz38_2 := blk_frozen BK116.out 2; have hfz38_3 := blk_frozen BK116.out 3; have hfz38_4 := blk_frozen BK116.out 4; have hfz38_5 := blk_frozen BK116.out 5; have hfz38_6 := blk_frozen BK116.out 6))
                go_meet
                case rel => exact ⟨_, H', ⟨by have := HJ5.out; first | omega | exact Nat.le_refl _⟩, ⟨by (with_reducible repeat (first | refine blk_drewN ?_ _ | refine blk_drew ?_ | refine blk_alloc ?_ _)); refine blk_far ?_ NB116_130.out _; (with_reducible repeat (first | refine blk_drewN ?_ _ | refine blk_drew ?_ | refine blk_alloc ?_ _)); refine blk_far ?_ NB116_130.out _; (with_reducible repeat (first | refine blk_drewN ?_ _ | refine blk_drew ?_ | refine blk_alloc ?_ _)); refine blk_far ?_ NB116_130.out _; (with_reducible repeat (first | refine blk_drewN ?_ _ | refine blk_drew ?_ | refine blk_alloc ?_ _)); refine blk_far ?_ NB116_130.out _; (with_reducible repeat (first | refine blk_drewN ?_ _ | refine blk_drew ?_ | refine blk_alloc ?_ _)); refine blk_far ?_ NB116_130.out _; (with_reducible repeat (first | refine blk_drewN ?_ _ | refine blk_drew ?_ | refine blk_alloc ?_ _)); refine blk_far ?_ NB116_130.out _; (with_reducible repeat (first | refine blk_drewN ?_ _ | refine blk_drew ?_ | refine blk_alloc ?_ _)); refine blk_far ?_ NB116_130.out _; (with_reducible repeat (first | refine blk_drewN ?_ _ | refine blk_drew ?_ | refine blk_alloc ?_ _)); exact BK116.out⟩, ⟨by (with_reducible repeat (first | refine blk_drewN ?_ _ | refine blk_drew ?_ | refine blk_alloc ?_ _)); refine blk_far ?_ NB117_130.out _; (with_reducible repeat (first | refine blk_drewN ?_ _ | refine blk_drew ?_ | refine blk_alloc ?_ _)); refine blk_far ?_ NB117_130.out _; (with_reducible repeat (first | refine blk_drewN ?_ _ | refine blk_drew ?_ | refine blk_alloc ?_ _)); refine blk_far ?_ NB117_130.out _; (with_reducible repeat (first | refine blk_drewN ?_ _ | refine blk_drew ?_ | refine blk_alloc ?_ _)); refine blk_far ?_ NB117_130.out _; (with_reducible repeat (first | refine blk_drewN ?_ _ | refine blk_drew ?_ | refine blk_alloc ?_ _)); refine blk_far ?_ NB117_130.out _; (with_reducible repeat (first | refine blk_drewN ?_ _ | refine blk_drew ?_ | refine blk_alloc ?_ _)); refine blk_far ?_ NB117_130.out _; (with_reducible repeat (first | refine blk_drewN ?_ _ | refine blk_drew ?_ | refine blk_alloc ?_ _)); refine blk_far ?_ NB117_130.out _; (with_reducible repeat (first | refine blk_drewN ?_ _ | refine blk_drew ?_ | refine blk_alloc ?_ _)); exact BK117.out⟩, ⟨by repeat (first | (with_reducible first | exact HB.out | apply below_alloc | apply pw_below_drewN | apply below_drew1 | refine below_set ?_ GE116.out | refine below_set ?_ GE117.out | refine below_set ?_ GE130.out) | exact HB.out)⟩⟩
            · rw [if_neg c23] at H
              have c23b0 : (t129 == 0) = false := beq_eq_false_iff_ne.mpr c23
              have c23b1 : (t129 != 0) = true := bne_iff_ne.mpr c23
              obtain rfl := Option.some.inj H
              go_wp2_with (first | ((with_reducible refine gate_callee (f := 12) rfl ?_); refine goesL_ (some 48) rfl rfl Try.func12 (by kernel_rfl) rfl #[.int .u64 t118] rfl (by (try simp only [List.map_toArray, List.map_cons, List.map_nil]); first | done | rfl | (simp only [List.length_drop, List.length_take]; rfl)) ?_; (with_reducible refine (word_Take.calls t118 t122 t123 t124 t125 t126 t127 t128 t129 _ A22.out).mono ?_); rintro e w39 ⟨rfl, hb⟩; refine ⟨_, rfl, ?_⟩; have n0_ := Aside0.mk (blk_below (g := gb116) (o := .cells #[.int .u8 a0_0, .int .u8 a0_1, .bool a0_2, .bool a0_3, .int .u8 a0_4, .int .u8 a0_5, .int .u8 a0_6] 28 (0, 0)) (by (with_reducible repeat (first | refine blk_drewN ?_ _ | refine blk_drew ?_ | refine blk_alloc ?_ _)); exact BK116.out) hb); have n1_ := Aside0.mk (blk_below (g := gb117) (o := .cells #[.int .u8 a1_0, .int .u8 a1_1, .bool a1_2, .bool a1_3, .int .u8 a1_4, .int .u8 a1_5, .int .u8 a1_6] 28 (0, 0)) (by (with_reducible repeat (first | refine blk_drewN ?_ _ | refine blk_drew ?_ | refine blk_alloc ?_ _)); exact BK117.out) hb); have n2_ := Aside0.mk (below_step (by repeat (first | (with_reducible first | exact HB.out | apply below_alloc | apply pw_below_drewN | apply below_drew1 | refine below_set ?_ GE116.out | refine below_set ?_ GE117.out) | exact HB.out)) hb); clear BK116; clear BK117; clear HB; have BK116 := n0_; have BK117 := n1_; have HB := n2_; clear n0_ n1_ n2_; (try clear hb); (try clear hb2); (try clear hk); (try clear hi)) | ((with_reducible refine gate_dst (N := 11) rfl ?_); refine box_event ?hg (N := 11) ?hd (cs := #[.int .u8 0, .int .u8 0, .bool false, .bool false, .int .u8 0, .int .u8 0, .int .u8 0]) (t := 28) ?hr ?_; (case hd => rfl); (case hg => rfl); (case hr => first | (go_simp; done) | (go_simp; rfl)); intro gb130 hg w40 hbox hb; have n0_ := Aside0.mk (blk_below (g := gb116) (o := .cells #[.int .u8 a0_0, .int .u8 a0_1, .bool a0_2, .bool a0_3, .int .u8 a0_4, .int .u8 a0_5, .int .u8 a0_6] 28 (0, 0)) (by (with_reducible repeat (first | refine blk_drewN ?_ _ | refine blk_drew ?_ | refine blk_alloc ?_ _)); exact BK116.out) hb); have n1_ := Aside0.mk (blk_below (g := gb117) (o := .cells #[.int .u8 a1_0, .int .u8 a1_1, .bool a1_2, .bool a1_3, .int .u8 a1_4, .int .u8 a1_5, .int .u8 a1_6] 28 (0, 0)) (by (with_reducible repeat (first | refine blk_drewN ?_ _ | refine blk_drew ?_ | refine blk_alloc ?_ _)); exact BK117.out) hb); have n2_ := Aside0.mk (below_step (by repeat (first | (with_reducible first | exact HB.out | apply below_alloc | apply pw_below_drewN | apply below_drew1 | refine below_set ?_ GE116.out | refine below_set ?_ GE117.out) | exact HB.out)) hb); have n3_ := Aside0.mk (hbox); have n4_ := Aside0.mk ((by rw [hg]; exact (below_size (by repeat (first | (with_reducible first | exact HB.out | apply below_alloc | apply pw_below_drewN | apply below_drew1 | refine below_set ?_ GE116.out | refine below_set ?_ GE117.out) | exact HB.out))) : w.heap.size ≤ gb130)); have n5_ := Aside0.mk ((by rw [hg]; exact (below_size (by repeat (first | (with_reducible first | exact HB.out | apply below_alloc | apply pw_below_drewN | apply below_drew1 | refine below_set ?_ GE116.out | refine below_set ?_ GE117.out) | exact HB.out))) : w.heap.size ≤ gb130)); have n6_ := Aside0.mk ((by rw [hg]; exact Nat.ne_of_lt (blk_lt (g := gb116) (o := .cells #[.int .u8 a0_0, .int .u8 a0_1, .bool a0_2, .bool a0_3, .int .u8 a0_4, .int .u8 a0_5, .int .u8 a0_6] 28 (0, 0)) (by (with_reducible repeat (first | refine blk_drewN ?_ _ | refine blk_drew ?_ | refine blk_alloc ?_ _)); exact BK116.out)) : gb116 ≠ gb130)); have n7_ := Aside0.mk ((by rw [hg]; exact Nat.ne_of_gt (blk_lt (g := gb116) (o := .cells #[.int .u8 a0_0, .int .u8 a0_1, .bool a0_2, .bool a0_3, .int .u8 a0_4, .int .u8 a0_5, .int .u8 a0_6] 28 (0, 0)) (by (with_reducible repeat (first | refine blk_drewN ?_ _ | refine blk_drew ?_ | refine blk_alloc ?_ _)); exact BK116.out)) : gb130 ≠ gb116)); have n8_ := Aside0.mk ((by rw [hg]; exact Nat.ne_of_lt (blk_lt (g := gb117) (o := .cells #[.int .u8 a1_0, .int .u8 a1_1, .bool a1_2, .bool a1_3, .int .u8 a1_4, .int .u8 a1_5, .int .u8 a1_6] 28 (0, 0)) (by (with_reducible repeat (first | refine blk_drewN ?_ _ | refine blk_drew ?_ | refine blk_alloc ?_ _)); exact BK117.out)) : gb117 ≠ gb130)); have n9_ := Aside0.mk ((by rw [hg]; exact Nat.ne_of_gt (blk_lt (g := gb117) (o := .cells #[.int .u8 a1_0, .int .u8 a1_1, .bool a1_2, .bool a1_3, .int .u8 a1_4, .int .u8 a1_5, .int .u8 a1_6] 28 (0, 0)) (by (with_reducible repeat (first | refine blk_drewN ?_ _ | refine blk_drew ?_ | refine blk_alloc ?_ _)); exact BK117.out)) : gb130 ≠ gb117)); clear BK116; clear BK117; clear HB; have BK116 := n0_; have BK117 := n1_; have HB := n2_; have BK130 := n3_; have GW130 := n4_; have GE130 := n5_; have NB116_130 := n6_; have NB130_116 := n7_; have NB117_130 := n8_; have NB130_117 := n9_; clear n0_ n1_ n2_ n3_ n4_ n5_ n6_ n7_ n8_ n9_; clear hb hbox hg; have hnb41 := NB130_116.out; have hnc41 := NB116_130.out; have hnb42 := NB130_117.out; have hnc42 := NB117_130.out; have hcz43_0 : w40.cell? ⟨gb130, 0, none⟩ = some (.int .u8 0) := (blk_cell BK130.out 0).trans rfl; have hcz43_1 : w40.cell? ⟨gb130, 1, none⟩ = some (.int .u8 0) := (blk_cell BK130.out 1).trans rfl; have hcz43_2 : w40.cell? ⟨gb130, 2, none⟩ = some (.bool false) := (blk_cell BK130.out 2).trans rfl; have hcz43_3 : w40.cell? ⟨gb130, 3, none⟩ = some (.bool false) := (blk_cell BK130.out 3).trans rfl; have hcz43_4 : w40.cell? ⟨gb130, 4, none⟩ = some (.int .u8 0) := (blk_cell BK130.out 4).trans rfl; have hcz43_5 : w40.cell? ⟨gb130, 5, none⟩ = some (.int .u8 0) := (blk_cell BK130.out 5).trans rfl; have hcz43_6 : w40.cell? ⟨gb130, 6, none⟩ = some (.int .u8 0) := (blk_cell BK130.out 6).trans rfl; have hfz43_0 := blk_frozen BK130.out 0; have hfz43_1 := blk_frozen BK130.out 1; have hfz43_2 := blk_frozen BK130.out 2; have hfz43_3 := blk_frozen BK130.out 3; have hfz43_4 := blk_frozen BK130.out 4; have hfz43_5 := blk_frozen BK130.out 5; have hfz43_6 := blk_frozen BK130.out 6))
              go_ret
              exact ⟨by first | rfl | (simp [errW_none, errW_some] <;> rfl) | (simp [*, errW_none, errW_some] <;> rfl), by repeat (first | (with_reducible first | exact HB.out | apply below_alloc | apply pw_below_drewN | apply below_drew1 | refine below_set ?_ GE116.out | refine below_set ?_ GE117.out | refine below_set ?_ GE130.out) | exact HB.out)⟩
          · rw [if_neg c21] at H
            have c21b0 : (t119 == 0) = false := beq_eq_false_iff_ne.mpr c21
            have c21b1 : (t119 != 0) = true := bne_iff_ne.mpr c21
            (first | rw [c21b0] | (simp only [i64_w, i32_w]; rw [c21b0]) | skip)
            have H' := Aside0.mk H
            clear H
            go_wp2
            go_meet
            case rel => exact ⟨_, H', ⟨by have := HJ5.out; first | omega | exact Nat.le_refl _⟩, ⟨by (with_reducible repeat (first | refine blk_drewN ?_ _ | refine blk_drew ?_ | refine blk_alloc ?_ _)); exact BK116.out⟩, ⟨by (with_reducible repeat (first | refine blk_drewN ?_ _ | refine blk_drew ?_ | refine blk_alloc ?_ _)); exact BK117.out⟩, ⟨by repeat (first | (with_reducible first | exact HB.out | apply below_alloc | apply pw_below_drewN | apply below_drew1 | refine below_set ?_ GE116.out | refine below_set ?_ GE117.out) | exact HB.out)⟩⟩
        case rest =>
          clear HC20
          try clear c1
          try clear c2
          try clear p2
          try clear c3
          try clear c4
          try clear c5
          try clear c6
          try clear c9
          try clear c12
          try clear c14
          try clear c14b0
          try clear c14b1
          try clear c15
          try clear c15b0
          try clear c15b1
          try clear c16
          try clear c19
          try clear c21
          try clear c21b0
          try clear c21b1
          try clear c23
          try clear c23b0
          try clear c23b1
          try clear c24
          try clear c24b0
          try clear c27
          try clear c28
          try clear c30
          try clear c34
          try clear c35
          try clear c37
          try clear c41
          try clear c42
          try clear hcz10_0
          try clear hcz10_1
          try clear hcz10_2
          try clear hcz10_3
          try clear hcz10_4
          try clear hcz10_5
          try clear hcz10_6
          try clear hcz12_0
          try clear hcz12_1
          try clear hcz12_2
          try clear hcz12_3
          try clear hcz12_4
          try clear hcz12_5
          try clear hcz12_6
          try clear hcz17_0
          try clear hcz17_1
          try clear hcz17_2
          try clear hcz17_3
          try clear hcz17_4
          try clear hcz17_5
          try clear hcz17_6
          try clear hcz18_0
          try clear hcz18_1
          try clear hcz18_2
          try clear hcz18_3
          try clear hcz18_4
          try clear hcz18_5
          try clear hcz18_6
          try clear hcz29_0
          try clear hcz29_1
          try clear hcz29_2
          try clear hcz29_3
          try clear hcz29_4
          try clear hcz29_5
          try clear hcz29_6
          try clear hcz31_0
          try clear hcz31_1
          try clear hcz31_2
          try clear hcz31_3
          try clear hcz31_4
          try clear hcz31_5
          try clear hcz31_6
          try clear hcz36_0
          try clear hcz36_1
          try clear hcz36_2
          try clear hcz36_3
          try clear hcz36_4
          try clear hcz36_5
          try clear hcz36_6
          try clear hcz38_0
          try clear hcz38_1
          try clear hcz38_2
          try clear hcz38_3
          try clear hcz38_4
          try clear hcz38_5
          try clear hcz38_6
          try clear hcz43_0
          try clear hcz43_1
          try clear hcz43_2
          try clear hcz43_3
          try clear hcz43_4
          try clear hcz43_5
          try clear hcz43_6
          try clear hfz10_0
          try clear hfz10_1
          try clear hfz10_2
          try clear hfz10_3
          try clear hfz10_4
          try clear hfz10_5
          try clear hfz10_6
          try clear hfz12_0
          try clear hfz12_1
          try clear hfz12_2
          try clear hfz12_3
          try clear hfz12_4
          try clear hfz12_5
          try clear hfz12_6
          try clear hfz17_0
          try clear hfz17_1
          try clear hfz17_2
          try clear hfz17_3
          try clear hfz17_4
          try clear hfz17_5
          try clear hfz17_6
          try clear hfz18_0
          try clear hfz18_1
          try clear hfz18_2
          try clear hfz18_3
          try clear hfz18_4
          try clear hfz18_5
          try clear hfz18_6
          try clear hfz29_0
          try clear hfz29_1
          try clear hfz29_2
          try clear hfz29_3
          try clear hfz29_4
          try clear hfz29_5
          try clear hfz29_6
          try clear hfz31_0
          try clear hfz31_1
          try clear hfz31_2
          try clear hfz31_3
          try clear hfz31_4
          try clear hfz31_5
          try clear hfz31_6
          try clear hfz36_0
          try clear hfz36_1
          try clear hfz36_2
          try clear hfz36_3
          try clear hfz36_4
          try clear hfz36_5
          try clear hfz36_6
          try clear hfz38_0
          try clear hfz38_1
          try clear hfz38_2
          try clear hfz38_3
          try clear hfz38_4
          try clear hfz38_5
          try clear hfz38_6
          try clear hfz43_0
          try clear hfz43_1
          try clear hfz43_2
          try clear hfz43_3
          try clear hfz43_4
          try clear hfz43_5
          try clear hfz43_6
          try clear p2
          obtain ⟨kq, HA, HJ19, BK116, BK117, HB⟩ := hcut
          cases kq with
          | zero => exact absurd HA.out (by simp [demesnelaw01_WordBack.j1])
          | succ kj19 =>
            have H := HA.out
            clear HA
            simp only [demesnelaw01_WordBack.j1] at H
            replace H := Option.bind_eq_some_iff.mp H
            obtain ⟨⟨t131, t132, t133, t134, t135, t136, t137, t138⟩, A440, H⟩ := H
            replace H : ((word_Put.f 0 0 false false 0 0 0).bind fun bt140 => (if bt140.1 = 0 then (demesnelaw01_WordBack.j2 kj19 a2 t138 (bt140.2 != 0) t131 t132 t133 t134 t135 t136 t137) else (demesnelaw01_WordBack.j2 kj19 a2 t138 true t131 t132 t133 t134 t135 t136 t137))) = some r := H
            have A44 := Aside0.mk A440
            clear A440
            replace H := Option.bind_eq_some_iff.mp H
            obtain ⟨⟨t140, t141⟩, A450, H⟩ := H
            replace H : (if t140 = 0 then (demesnelaw01_WordBack.j2 kj19 a2 t138 (t141 != 0) t131 t132 t133 t134 t135 t136 t137) else (demesnelaw01_WordBack.j2 kj19 a2 t138 true t131 t132 t133 t134 t135 t136 t137)) = some r := H
            have A45 := Aside0.mk A450
            clear A450
            have HC46 := Aside0.mk H
            clear H
            go_upto_region 11 with (first | ((with_reducible refine gate_callee (f := 12) rfl ?_); refine goesL_ (some 60) rfl rfl Try.func12 (by kernel_rfl) rfl #[.int .u64 a2] rfl (by (try simp only [List.map_toArray, List.map_cons, List.map_nil]); first | done | rfl | (simp only [List.length_drop, List.length_take]; rfl)) ?_; (with_reducible refine (word_Take.calls a2 t131 t132 t133 t134 t135 t136 t137 t138 _ A44.out).mono ?_); rintro e w47 ⟨rfl, hb⟩; refine ⟨_, rfl, ?_⟩; have n0_ := Aside0.mk (blk_below (g := gb116) (o := .cells #[.int .u8 a0_0, .int .u8 a0_1, .bool a0_2, .bool a0_3, .int .u8 a0_4, .int .u8 a0_5, .int .u8 a0_6] 28 (0, 0)) (by (with_reducible repeat (first | refine blk_drewN ?_ _ | refine blk_drew ?_ | refine blk_alloc ?_ _)); exact BK116.out) hb); have n1_ := Aside0.mk (blk_below (g := gb117) (o := .cells #[.int .u8 a1_0, .int .u8 a1_1, .bool a1_2, .bool a1_3, .int .u8 a1_4, .int .u8 a1_5, .int .u8 a1_6] 28 (0, 0)) (by (with_reducible repeat (first | refine blk_drewN ?_ _ | refine blk_drew ?_ | refine blk_alloc ?_ _)); exact BK117.out) hb); have n2_ := Aside0.mk (below_step (by repeat (first | (with_reducible first | exact HB.out | apply below_alloc | apply pw_below_drewN | apply below_drew1 | refine below_set ?_ GE116.out | refine below_set ?_ GE117.out) | exact HB.out)) hb); clear BK116; clear BK117; clear HB; have BK116 := n0_; have BK117 := n1_; have HB := n2_; clear n0_ n1_ n2_; (try clear hb); (try clear hb2); (try clear hk); (try clear hi)) | ((with_reducible refine gate_dst (N := 13) rfl ?_); refine box_event ?hg (N := 13) ?hd (cs := #[.int .u8 0, .int .u8 0, .bool false, .bool false, .int .u8 0, .int .u8 0, .int .u8 0]) (t := 28) ?hr ?_; (case hd => rfl); (case hg => rfl); (case hr => first | (go_simp; done) | (go_simp; rfl)); intro gb139 hg w48 hbox hb; have n0_ := Aside0.mk (blk_below (g := gb116) (o := .cells #[.int .u8 a0_0, .int .u8 a0_1, .bool a0_2, .bool a0_3, .int .u8 a0_4, .int .u8 a0_5, .int .u8 a0_6] 28 (0, 0)) (by (with_reducible repeat (first | refine blk_drewN ?_ _ | refine blk_drew ?_ | refine blk_alloc ?_ _)); exact BK116.out) hb); have n1_ := Aside0.mk (blk_below (g := gb117) (o := .cells #[.int .u8 a1_0, .int .u8 a1_1, .bool a1_2, .bool a1_3, .int .u8 a1_4, .int .u8 a1_5, .int .u8 a1_6] 28 (0, 0)) (by (with_reducible repeat (first | refine blk_drewN ?_ _ | refine blk_drew ?_ | refine blk_alloc ?_ _)); exact BK117.out) hb); have n2_ := Aside0.mk (below_step (by repeat (first | (with_reducible first | exact HB.out | apply below_alloc | apply pw_below_drewN | apply below_drew1 | refine below_set ?_ GE116.out | refine below_set ?_ GE117.out) | exact HB.out)) hb); have n3_ := Aside0.mk (hbox); have n4_ := Aside0.mk ((by rw [hg]; exact (below_size (by repeat (first | (with_reducible first | exact HB.out | apply below_alloc | apply pw_below_drewN | apply below_drew1 | refine below_set ?_ GE116.out | refine below_set ?_ GE117.out) | exact HB.out))) : w.heap.size ≤ gb139)); have n5_ := Aside0.mk ((by rw [hg]; exact (below_size (by repeat (first | (with_reducible first | exact HB.out | apply below_alloc | apply pw_below_drewN | apply below_drew1 | refine below_set ?_ GE116.out | refine below_set ?_ GE117.out) | exact HB.out))) : w.heap.size ≤ gb139)); have n6_ := Aside0.mk ((by rw [hg]; exact Nat.ne_of_lt (blk_lt (g := gb116) (o := .cells #[.int .u8 a0_0, .int .u8 a0_1, .bool a0_2, .bool a0_3, .int .u8 a0_4, .int .u8 a0_5, .int .u8 a0_6] 28 (0, 0)) (by (with_reducible repeat (first | refine blk_drewN ?_ _ | refine blk_drew ?_ | refine blk_alloc ?_ _)); exact BK116.out)) : gb116 ≠ gb139)); have n7_ := Aside0.mk ((by rw [hg]; exact Nat.ne_of_gt (blk_lt (g := gb116) (o := .cells #[.int .u8 a0_0, .int .u8 a0_1, .bool a0_2, .bool a0_3, .int .u8 a0_4, .int .u8 a0_5, .int .u8 a0_6] 28 (0, 0)) (by (with_reducible repeat (first | refine blk_drewN ?_ _ | refine blk_drew ?_ | refine blk_alloc ?_ _)); exact BK116.out)) : gb139 ≠ gb116)); have n8_ := Aside0.mk ((by rw [hg]; exact Nat.ne_of_lt (blk_lt (g := gb117) (o := .cells #[.int .u8 a1_0, .int .u8 a1_1, .bool a1_2, .bool a1_3, .int .u8 a1_4, .int .u8 a1_5, .int .u8 a1_6] 28 (0, 0)) (by (with_reducible repeat (first | refine blk_drewN ?_ _ | refine blk_drew ?_ | refine blk_alloc ?_ _)); exact BK117.out)) : gb117 ≠ gb139)); have n9_ := Aside0.mk ((by rw [hg]; exact Nat.ne_of_gt (blk_lt (g := gb117) (o := .cells #[.int .u8 a1_0, .int .u8 a1_1, .bool a1_2, .bool a1_3, .int .u8 a1_4, .int .u8 a1_5, .int .u8 a1_6] 28 (0, 0)) (by (with_reducible repeat (first | refine blk_drewN ?_ _ | refine blk_drew ?_ | refine blk_alloc ?_ _)); exact BK117.out)) : gb139 ≠ gb117)); clear BK116; clear BK117; clear HB; have BK116 := n0_; have BK117 := n1_; have HB := n2_; have BK139 := n3_; have GW139 := n4_; have GE139 := n5_; have NB116_139 := n6_; have NB139_116 := n7_; have NB117_139 := n8_; have NB139_117 := n9_; clear n0_ n1_ n2_ n3_ n4_ n5_ n6_ n7_ n8_ n9_; clear hb hbox hg; have hnb49 := NB139_116.out; have hnc49 := NB116_139.out; have hnb50 := NB139_117.out; have hnc50 := NB117_139.out; have hcz51_0 : w48.cell? ⟨gb139, 0, none⟩ = some (.int .u8 0) := (blk_cell BK139.out 0).trans rfl; have hcz51_1 : w48.cell? ⟨gb139, 1, none⟩ = some (.int .u8 0) := (blk_cell BK139.out 1).trans rfl; have hcz51_2 : w48.cell? ⟨gb139, 2, none⟩ = some (.bool false) := (blk_cell BK139.out 2).trans rfl; have hcz51_3 : w48.cell? ⟨gb139, 3, none⟩ = some (.bool false) := (blk_cell BK139.out 3).trans rfl; have hcz51_4 : w48.cell? ⟨gb139, 4, none⟩ = some (.int .u8 0) := (blk_cell BK139.out 4).trans rfl; have hcz51_5 : w48.cell? ⟨gb139, 5, none⟩ = some (.int .u8 0) := (blk_cell BK139.out 5).trans rfl; have hcz51_6 : w48.cell? ⟨gb139, 6, none⟩ = some (.int .u8 0) := (blk_cell BK139.out 6).trans rfl; have hfz51_0 := blk_frozen BK139.out 0; have hfz51_1 := blk_frozen BK139.out 1; have hfz51_2 := blk_frozen BK139.out 2; have hfz51_3 := blk_frozen BK139.out 3; have hfz51_4 := blk_frozen BK139.out 4; have hfz51_5 := blk_frozen BK139.out 5; have hfz51_6 := blk_frozen BK139.out 6) | ((with_reducible refine gate_callee (f := 6) rfl ?_); refine goesL_ (some 65) rfl rfl Try.func6 (by kernel_rfl) rfl #[.agg #[.int .u8 0, .int .u8 0, .bool false, .bool false, .int .u8 0, .int .u8 0, .int .u8 0]] rfl (by (try simp only [List.map_toArray, List.map_cons, List.map_nil]); first | done | rfl | (simp only [List.length_drop, List.length_take]; rfl)) ?_; (with_reducible refine (word_Put.calls 0 0 false false 0 0 0 t140 t141 _ A45.out).mono ?_); rintro e w52 ⟨rfl, hb⟩; refine ⟨_, rfl, ?_⟩; have n0_ := Aside0.mk (blk_below (g := gb116) (o := .cells #[.int .u8 a0_0, .int .u8 a0_1, .bool a0_2, .bool a0_3, .int .u8 a0_4, .int .u8 a0_5, .int .u8 a0_6] 28 (0, 0)) (by (with_reducible repeat (first | refine blk_drewN ?_ _ | refine blk_drew ?_ | refine blk_alloc ?_ _)); refine blk_far ?_ NB116_139.out _; (with_reducible repeat (first | refine blk_drewN ?_ _ | refine blk_drew ?_ | refine blk_alloc ?_ _)); refine blk_far ?_ NB116_139.out _; (with_reducible repeat (first | refine blk_drewN ?_ _ | refine blk_drew ?_ | refine blk_alloc ?_ _)); refine blk_far ?_ NB116_139.out _; (with_reducible repeat (first | refine blk_drewN ?_ _ | refine blk_drew ?_ | refine blk_alloc ?_ _)); refine blk_far ?_ NB116_139.out _; (with_reducible repeat (first | refine blk_drewN ?_ _ | refine blk_drew ?_ | refine blk_alloc ?_ _)); refine blk_far ?_ NB116_139.out _; (with_reducible repeat (first | refine blk_drewN ?_ _ | refine blk_drew ?_ | refine blk_alloc ?_ _)); refine blk_far ?_ NB116_139.out _; (with_reducible repeat (first | refine blk_drewN ?_ _ | refine blk_drew ?_ | refine blk_alloc ?_ _)); refine blk_far ?_ NB116_139.out _; (with_reducible repeat (first | refine blk_drewN ?_ _ | refine blk_drew ?_ | refine blk_alloc ?_ _)); exact BK116.out) hb); have n1_ := Aside0.mk (blk_below (g := gb117) (o := .cells #[.int .u8 a1_0, .int .u8 a1_1, .bool a1_2, .bool a1_3, .int .u8 a1_4, .int .u8 a1_5, .int .u8 a1_6] 28 (0, 0)) (by (with_reducible repeat (first | refine blk_drewN ?_ _ | refine blk_drew ?_ | refine blk_alloc ?_ _)); refine blk_far ?_ NB117_139.out _; (with_reducible repeat (first | refine blk_drewN ?_ _ | refine blk_drew ?_ | refine blk_alloc ?_ _)); refine blk_far ?_ NB117_139.out _; (with_reducible repeat (first | refine blk_drewN ?_ _ | refine blk_drew ?_ | refine blk_alloc ?_ _)); refine blk_far ?_ NB117_139.out _; (with_reducible repeat (first | refine blk_drewN ?_ _ | refine blk_drew ?_ | refine blk_alloc ?_ _)); refine blk_far ?_ NB117_139.out _; (with_reducible repeat (first | refine blk_drewN ?_ _ | refine blk_drew ?_ | refine blk_alloc ?_ _)); refine blk_far ?_ NB117_139.out _; (with_reducible repeat (first | refine blk_drewN ?_ _ | refine blk_drew ?_ | refine blk_alloc ?_ _)); refine blk_far ?_ NB117_139.out _; (with_reducible repeat (first | refine blk_drewN ?_ _ | refine blk_drew ?_ | refine blk_alloc ?_ _)); refine blk_far ?_ NB117_139.out _; (with_reducible repeat (first | refine blk_drewN ?_ _ | refine blk_drew ?_ | refine blk_alloc ?_ _)); exact BK117.out) hb); have n2_ := Aside0.mk (blk_below (g := gb139) (o := .cells #[.int .u8 t131, .int .u8 t132, .bool t133, .bool t134, .int .u8 t135, .int .u8 t136, .int .u8 t137] 28 (0, 0)) (by (with_reducible repeat (first | refine blk_drewN ?_ _ | refine blk_drew ?_ | refine blk_alloc ?_ _)); refine blk_put (cs := #[.int .u8 t131, .int .u8 t132, .bool t133, .bool t134, .int .u8 t135, .int .u8 t136, .int .u8 0]) ?_ 6 _ rfl; (with_reducible repeat (first | refine blk_drewN ?_ _ | refine blk_drew ?_ | refine blk_alloc ?_ _)); refine blk_put (cs := #[.int .u8 t131, .int .u8 t132, .bool t133, .bool t134, .int .u8 t135, .int .u8 0, .int .u8 0]) ?_ 5 _ rfl; (with_reducible repeat (first | refine blk_drewN ?_ _ | refine blk_drew ?_ | refine blk_alloc ?_ _)); refine blk_put (cs := #[.int .u8 t131, .int .u8 t132, .bool t133, .bool t134, .int .u8 0, .int .u8 0, .int .u8 0]) ?_ 4 _ rfl; (with_reducible repeat (first | refine blk_drewN ?_ _ | refine blk_drew ?_ | refine blk_alloc ?_ _)); refine blk_put (cs := #[.int .u8 t131, .int .u8 t132, .bool t133, .bool false, .int .u8 0, .int .u8 0, .int .u8 0]) ?_ 3 _ rfl; (with_reducible repeat (first | refine blk_drewN ?_ _ | refine blk_drew ?_ | refine blk_alloc ?_ _)); refine blk_put (cs := #[.int .u8 t131, .int .u8 t132, .bool false, .bool false, .int .u8 0, .int .u8 0, .int .u8 0]) ?_ 2 _ rfl; (with_reducible repeat (first | refine blk_drewN ?_ _ | refine blk_drew ?_ | refine blk_alloc ?_ _)); refine blk_put (cs := #[.int .u8 t131, .int .u8 0, .bool false, .bool false, .int .u8 0, .int .u8 0, .int .u8 0]) ?_ 1 _ rfl; (with_reducible repeat (first | refine blk_drewN ?_ _ | refine blk_drew ?_ | refine blk_alloc ?_ _)); refine blk_put (cs := #[.int .u8 0, .int .u8 0, .bool false, .bool false, .int .u8 0, .int .u8 0, .int .u8 0]) ?_ 0 _ rfl; (with_reducible repeat (first | refine blk_drewN ?_ _ | refine blk_drew ?_ | refine blk_alloc ?_ _)); exact BK139.out) hb); have n3_ := Aside0.mk (below_step (by repeat (first | (with_reducible first | exact HB.out | apply below_alloc | apply pw_below_drewN | apply below_drew1 | refine below_set ?_ GE116.out | refine below_set ?_ GE117.out | refine below_set ?_ GE139.out) | exact HB.out)) hb); clear BK116; clear BK117; clear BK139; clear HB; have BK116 := n0_; have BK117 := n1_; have BK139 := n2_; have HB := n3_; clear n0_ n1_ n2_ n3_; (try clear hb); (try clear hb2); (try clear hk); (try clear hi)))
            (try simp only [Act.put, List.setIfInBounds_toArray, List.set_cons_zero, List.set_cons_succ])
            go_cut [73] (fun v73 wc => ∃ (kq : Nat) (x73_45 : Bool), v73 = .bool x73_45 ∧ Aside0 (demesnelaw01_WordBack.j2 kq a2 t138 x73_45 t131 t132 t133 t134 t135 t136 t137 = some r) ∧ Aside0 (kq ≤ kj19) ∧ Aside0 (wc.heap[gb116]? = some (.cells #[.int .u8 a0_0, .int .u8 a0_1, .bool a0_2, .bool a0_3, .int .u8 a0_4, .int .u8 a0_5, .int .u8 a0_6] 28 (0, 0))) ∧ Aside0 (wc.heap[gb117]? = some (.cells #[.int .u8 a1_0, .int .u8 a1_1, .bool a1_2, .bool a1_3, .int .u8 a1_4, .int .u8 a1_5, .int .u8 a1_6] 28 (0, 0))) ∧ Aside0 (wc.heap[gb139]? = some (.cells #[.int .u8 t131, .int .u8 t132, .bool t133, .bool t134, .int .u8 t135, .int .u8 t136, .int .u8 t137] 28 (0, 0))) ∧ Aside0 (Below w.heap.size w wc))
            case first =>
              have H := HC46.out
              clear HC46
              by_cases c53 : t140 = 0
              · rw [if_pos c53] at H
                have c53b0 : (t140 == 0) = true := beq_iff_eq.mpr c53
                have c53b1 : (t140 != 0) = false := bne_eq_false_iff_eq.mpr c53
                clear c53
                (first | rw [c53b0] | (simp only [i64_w, i32_w]; rw [c53b0]) | skip)
                have H' := Aside0.mk H
                clear H
                go_wp2
                go_meet
                case rel => exact ⟨_, ((t141 != 0)), (by first | rfl | (simp; done) | (simp [*]; done)), H', ⟨by have := HJ5.out; have := HJ19.out; first | omega | exact Nat.le_refl _⟩, ⟨by (with_reducible repeat (first | refine blk_drewN ?_ _ | refine blk_drew ?_ | refine blk_alloc ?_ _)); exact BK116.out⟩, ⟨by (with_reducible repeat (first | refine blk_drewN ?_ _ | refine blk_drew ?_ | refine blk_alloc ?_ _)); exact BK117.out⟩, ⟨by (with_reducible repeat (first | refine blk_drewN ?_ _ | refine blk_drew ?_ | refine blk_alloc ?_ _)); exact BK139.out⟩, ⟨by repeat (first | (with_reducible first | exact HB.out | apply below_alloc | apply pw_below_drewN | apply below_drew1 | refine below_set ?_ GE116.out | refine below_set ?_ GE117.out | refine below_set ?_ GE139.out) | exact HB.out)⟩⟩
              · rw [if_neg c53] at H
                have c53b0 : (t140 == 0) = false := beq_eq_false_iff_ne.mpr c53
                have c53b1 : (t140 != 0) = true := bne_iff_ne.mpr c53
                (first | rw [c53b0] | (simp only [i64_w, i32_w]; rw [c53b0]) | skip)
                have H' := Aside0.mk H
                clear H
                go_wp2
                go_meet
                case rel => exact ⟨_, (true), (by first | rfl | (simp; done) | (simp [*]; done)), H', ⟨by have := HJ5.out; have := HJ19.out; first | omega | exact Nat.le_refl _⟩, ⟨by (with_reducible repeat (first | refine blk_drewN ?_ _ | refine blk_drew ?_ | refine blk_alloc ?_ _)); exact BK116.out⟩, ⟨by (with_reducible repeat (first | refine blk_drewN ?_ _ | refine blk_drew ?_ | refine blk_alloc ?_ _)); exact BK117.out⟩, ⟨by (with_reducible repeat (first | refine blk_drewN ?_ _ | refine blk_drew ?_ | refine blk_alloc ?_ _)); exact BK139.out⟩, ⟨by repeat (first | (with_reducible first | exact HB.out | apply below_alloc | apply pw_below_drewN | apply below_drew1 | refine below_set ?_ GE116.out | refine below_set ?_ GE117.out | refine below_set ?_ GE139.out) | exact HB.out)⟩⟩
            case rest =>
              clear HC46
              try clear c1
              try clear c2
              try clear p2
              try clear c3
              try clear c4
              try clear c5
              try clear c6
              try clear c9
              try clear c12
              try clear c14
              try clear c14b0
              try clear c14b1
              try clear c15
              try clear c15b0
              try clear c15b1
              try clear c16
              try clear c19
              try clear c21
              try clear c21b0
              try clear c21b1
              try clear c23
              try clear c23b0
              try clear c23b1
              try clear c24
              try clear c24b0
              try clear c27
              try clear c28
              try clear c30
              try clear c34
              try clear c35
              try clear c37
              try clear c41
              try clear c42
              try clear c49
              try clear c50
              try clear c53
              try clear c53b0
              try clear c53b1
              try clear hcz10_0
              try clear hcz10_1
              try clear hcz10_2
              try clear hcz10_3
              try clear hcz10_4
              try clear hcz10_5
              try clear hcz10_6
              try clear hcz12_0
              try clear hcz12_1
              try clear hcz12_2
              try clear hcz12_3
              try clear hcz12_4
              try clear hcz12_5
              try clear hcz12_6
              try clear hcz17_0
              try clear hcz17_1
              try clear hcz17_2
              try clear hcz17_3
              try clear hcz17_4
              try clear hcz17_5
              try clear hcz17_6
              try clear hcz18_0
              try clear hcz18_1
              try clear hcz18_2
              try clear hcz18_3
              try clear hcz18_4
              try clear hcz18_5
              try clear hcz18_6
              try clear hcz29_0
              try clear hcz29_1
              try clear hcz29_2
              try clear hcz29_3
              try clear hcz29_4
              try clear hcz29_5
              try clear hcz29_6
              try clear hcz31_0
              try clear hcz31_1
              try clear hcz31_2
              try clear hcz31_3
              try clear hcz31_4
              try clear hcz31_5
              try clear hcz31_6
              try clear hcz36_0
              try clear hcz36_1
              try clear hcz36_2
              try clear hcz36_3
              try clear hcz36_4
              try clear hcz36_5
              try clear hcz36_6
              try clear hcz38_0
              try clear hcz38_1
              try clear hcz38_2
              try clear hcz38_3
              try clear hcz38_4
              try clear hcz38_5
              try clear hcz38_6
              try clear hcz43_0
              try clear hcz43_1
              try clear hcz43_2
              try clear hcz43_3
              try clear hcz43_4
              try clear hcz43_5
              try clear hcz43_6
              try clear hcz51_0
              try clear hcz51_1
              try clear hcz51_2
              try clear hcz51_3
              try clear hcz51_4
              try clear hcz51_5
              try clear hcz51_6
              try clear hfz10_0
              try clear hfz10_1
              try clear hfz10_2
              try clear hfz10_3
              try clear hfz10_4
              try clear hfz10_5
              try clear hfz10_6
              try clear hfz12_0
              try clear hfz12_1
              try clear hfz12_2
              try clear hfz12_3
              try clear hfz12_4
              try clear hfz12_5
              try clear hfz12_6
              try clear hfz17_0
              try clear hfz17_1
              try clear hfz17_2
              try clear hfz17_3
              try clear hfz17_4
              try clear hfz17_5
              try clear hfz17_6
              try clear hfz18_0
              try clear hfz18_1
              try clear hfz18_2
              try clear hfz18_3
              try clear hfz18_4
              try clear hfz18_5
              try clear hfz18_6
              try clear hfz29_0
              try clear hfz29_1
              try clear hfz29_2
              try clear hfz29_3
              try clear hfz29_4
              try clear hfz29_5
              try clear hfz29_6
              try clear hfz31_0
              try clear hfz31_1
              try clear hfz31_2
              try clear hfz31_3
              try clear hfz31_4
              try clear hfz31_5
              try clear hfz31_6
              try clear hfz36_0
              try clear hfz36_1
              try clear hfz36_2
              try clear hfz36_3
              try clear hfz36_4
              try clear hfz36_5
              try clear hfz36_6
              try clear hfz38_0
              try clear hfz38_1
              try clear hfz38_2
              try clear hfz38_3
              try clear hfz38_4
              try clear hfz38_5
              try clear hfz38_6
              try clear hfz43_0
              try clear hfz43_1
              try clear hfz43_2
              try clear hfz43_3
              try clear hfz43_4
              try clear hfz43_5
              try clear hfz43_6
              try clear hfz51_0
              try clear hfz51_1
              try clear hfz51_2
              try clear hfz51_3
              try clear hfz51_4
              try clear hfz51_5
              try clear hfz51_6
              try clear p2
              obtain ⟨kq, x73_45, rfl, HA, HJ45, BK116, BK117, BK139, HB⟩ := hcut
              cases kq with
              | zero => exact absurd HA.out (by simp [demesnelaw01_WordBack.j2])
              | succ kj45 =>
                have H := HA.out
                clear HA
                simp only [demesnelaw01_WordBack.j2] at H
                by_cases c54 : x73_45 = true
                · subst c54
                  have H1 : (some false) = some r := by rw [if_pos rfl] at H; exact H
                  clear H
                  have H := H1
                  clear H1
                  obtain rfl := Option.some.inj H
                  go_wp2
                  go_ret
                  exact ⟨by first | rfl | (simp [errW_none, errW_some] <;> rfl) | (simp [*, errW_none, errW_some] <;> rfl), by repeat (first | (with_reducible first | exact HB.out | apply below_alloc | apply pw_below_drewN | apply below_drew1 | refine below_set ?_ GE116.out | refine below_set ?_ GE117.out | refine below_set ?_ GE139.out) | exact HB.out)⟩
                · replace c54 := Bool.eq_false_iff.mpr c54
                  subst c54
                  have H1 : (if t138 = 0 then ((word_Put.f t131 t132 t133 t134 t135 t136 t137).bind fun bt142 => (if bt142.2 = 0 then (if bt142.1 = a2 then ((demesnelaw01_wakes.f).bind fun t144 => (some t144)) else (some false)) else (some false))) else (if (t131 == 0 && (t132 == 0 && (!t133 && (!t134 && (t135 == 0 && (t136 == 0 && (t137 == 0))))))) = true then ((demesnelaw01_wakes.f).bind fun t145 => (some t145)) else (some false))) = some r := by rw [if_neg (show ¬ (false = true) by decide)] at H; exact H
                  clear H
                  have H := H1
                  clear H1
                  by_cases c55 : t138 = 0
                  · rw [if_pos c55] at H
                    have c55b0 : (t138 == 0) = true := beq_iff_eq.mpr c55
                    have c55b1 : (t138 != 0) = false := bne_eq_false_iff_eq.mpr c55
                    clear c55
                    replace H := Option.bind_eq_some_iff.mp H
                    obtain ⟨⟨t142, t143⟩, A560, H⟩ := H
                    replace H : (if t143 = 0 then (if t142 = a2 then ((demesnelaw01_wakes.f).bind fun t144 => (some t144)) else (some false)) else (some false)) = some r := H
                    have A56 := Aside0.mk A560
                    clear A560
                    by_cases c57 : t143 = 0
                    · rw [if_pos c57] at H
                      have c57b0 : (t143 == 0) = true := beq_iff_eq.mpr c57
                      have c57b1 : (t143 != 0) = false := bne_eq_false_iff_eq.mpr c57
                      clear c57
                      by_cases c58 : t142 = a2
                      · rw [if_pos c58] at H
                        have c58b0 : (t142 == a2) = true := beq_iff_eq.mpr c58
                        have c58b1 : (t142 != a2) = false := bne_eq_false_iff_eq.mpr c58
                        clear c58
                        replace H := Option.bind_eq_some_iff.mp H
                        obtain ⟨t144, A590, H⟩ := H
                        replace H : (some t144) = some r := H
                        have A59 := Aside0.mk A590
                        clear A590
                        obtain rfl := Option.some.inj H
                        have hnb60 := NB139_116.out
                        have hnc60 := NB116_139.out
                        have hnb61 := NB139_117.out
                        have hnc61 := NB117_139.out
                        have hcz62_0 : wc.cell? ⟨gb139, 0, none⟩ = some (.int .u8 t131) := (blk_cell BK139.out 0).trans rfl
                        have hcz62_1 : wc.cell? ⟨gb139, 1, none⟩ = some (.int .u8 t132) := (blk_cell BK139.out 1).trans rfl
                        have hcz62_2 : wc.cell? ⟨gb139, 2, none⟩ = some (.bool t133) := (blk_cell BK139.out 2).trans rfl
                        have hcz62_3 : wc.cell? ⟨gb139, 3, none⟩ = some (.bool t134) := (blk_cell BK139.out 3).trans rfl
                        have hcz62_4 : wc.cell? ⟨gb139, 4, none⟩ = some (.int .u8 t135) := (blk_cell BK139.out 4).trans rfl
                        have hcz62_5 : wc.cell? ⟨gb139, 5, none⟩ = some (.int .u8 t136) := (blk_cell BK139.out 5).trans rfl
                        have hcz62_6 : wc.cell? ⟨gb139, 6, none⟩ = some (.int .u8 t137) := (blk_cell BK139.out 6).trans rfl
                        have hfz62_0 := blk_frozen BK139.out 0
                        have hfz62_1 := blk_frozen BK139.out 1
                        have hfz62_2 := blk_frozen BK139.out 2
                        have hfz62_3 := blk_frozen BK139.out 3
                        have hfz62_4 := blk_frozen BK139.out 4
                        have hfz62_5 := blk_frozen BK139.out 5
                        have hfz62_6 := blk_frozen BK139.out 6
                        go_wp2_with (first | ((with_reducible refine gate_callee (f := 6) rfl ?_); refine goesL_ (some 84) rfl rfl Try.func6 (by kernel_rfl) rfl #[.agg #[.int .u8 t131, .int .u8 t132, .bool t133, .bool t134, .int .u8 t135, .int .u8 t136, .int .u8 t137]] rfl (by (try simp only [List.map_toArray, List.map_cons, List.map_nil]); first | done | rfl | (simp only [List.length_drop, List.length_take]; rfl)) ?_; (with_reducible refine (word_Put.calls t131 t132 t133 t134 t135 t136 t137 t142 t143 _ A56.out).mono ?_); rintro e w63 ⟨rfl, hb⟩; refine ⟨_, rfl, ?_⟩; have n0_ := Aside0.mk (blk_below (g := gb116) (o := .cells #[.int .u8 a0_0, .int .u8 a0_1, .bool a0_2, .bool a0_3, .int .u8 a0_4, .int .u8 a0_5, .int .u8 a0_6] 28 (0, 0)) (by (with_reducible repeat (first | refine blk_drewN ?_ _ | refine blk_drew ?_ | refine blk_alloc ?_ _)); exact BK116.out) hb); have n1_ := Aside0.mk (blk_below (g := gb117) (o := .cells #[.int .u8 a1_0, .int .u8 a1_1, .bool a1_2, .bool a1_3, .int .u8 a1_4, .int .u8 a1_5, .int .u8 a1_6] 28 (0, 0)) (by (with_reducible repeat (first | refine blk_drewN ?_ _ | refine blk_drew ?_ | refine blk_alloc ?_ _)); exact BK117.out) hb); have n2_ := Aside0.mk (blk_below (g := gb139) (o := .cells #[.int .u8 t131, .int .u8 t132, .bool t133, .bool t134, .int .u8 t135, .int .u8 t136, .int .u8 t137] 28 (0, 0)) (by (with_reducible repeat (first | refine blk_drewN ?_ _ | refine blk_drew ?_ | refine blk_alloc ?_ _)); exact BK139.out) hb); have n3_ := Aside0.mk (below_step (by repeat (first | (with_reducible first | exact HB.out | apply below_alloc | apply pw_below_drewN | apply below_drew1 | refine below_set ?_ GE116.out | refine below_set ?_ GE117.out | refine below_set ?_ GE139.out) | exact HB.out)) hb); clear BK116; clear BK117; clear BK139; clear HB; have BK116 := n0_; have BK117 := n1_; have BK139 := n2_; have HB := n3_; clear n0_ n1_ n2_ n3_; (try clear hb); (try clear hb2); (try clear hk); (try clear hi)) | (go_at_call 9; (with_reducible refine (demesnelaw01_wakes.calls  t144 _ A59.out).mono ?_); rintro e w64 ⟨rfl, hb⟩; have n0_ := Aside0.mk (blk_below (g := gb116) (o := .cells #[.int .u8 a0_0, .int .u8 a0_1, .bool a0_2, .bool a0_3, .int .u8 a0_4, .int .u8 a0_5, .int .u8 a0_6] 28 (0, 0)) (by (with_reducible repeat (first | refine blk_drewN ?_ _ | refine blk_drew ?_ | refine blk_alloc ?_ _)); exact BK116.out) hb); have n1_ := Aside0.mk (blk_below (g := gb117) (o := .cells #[.int .u8 a1_0, .int .u8 a1_1, .bool a1_2, .bool a1_3, .int .u8 a1_4, .int .u8 a1_5, .int .u8 a1_6] 28 (0, 0)) (by (with_reducible repeat (first | refine blk_drewN ?_ _ | refine blk_drew ?_ | refine blk_alloc ?_ _)); exact BK117.out) hb); have n2_ := Aside0.mk (blk_below (g := gb139) (o := .cells #[.int .u8 t131, .int .u8 t132, .bool t133, .bool t134, .int .u8 t135, .int .u8 t136, .int .u8 t137] 28 (0, 0)) (by (with_reducible repeat (first | refine blk_drewN ?_ _ | refine blk_drew ?_ | refine blk_alloc ?_ _)); exact BK139.out) hb); have n3_ := Aside0.mk (below_step (by repeat (first | (with_reducible first | exact HB.out | apply below_alloc | apply pw_below_drewN | apply below_drew1 | refine below_set ?_ GE116.out | refine below_set ?_ GE117.out | refine below_set ?_ GE139.out) | exact HB.out)) hb); clear BK116; clear BK117; clear BK139; clear HB; have BK116 := n0_; have BK117 := n1_; have BK139 := n2_; have HB := n3_; clear n0_ n1_ n2_ n3_; (try clear hb); (try clear hb2); (try clear hk); (try clear hi)))
                        go_ret
                        exact ⟨by first | rfl | (simp [errW_none, errW_some] <;> rfl) | (simp [*, errW_none, errW_some] <;> rfl), by repeat (first | (with_reducible first | exact HB.out | apply below_alloc | apply pw_below_drewN | apply below_drew1 | refine below_set ?_ GE116.out | refine below_set ?_ GE117.out | refine below_set ?_ GE139.out) | exact HB.out)⟩
                      · rw [if_neg c58] at H
                        have c58b0 : (t142 == a2) = false := beq_eq_false_iff_ne.mpr c58
                        have c58b1 : (t142 != a2) = true := bne_iff_ne.mpr c58
                        obtain rfl := Option.some.inj H
                        have hnb65 := NB139_116.out
                        have hnc65 := NB116_139.out
                        have hnb66 := NB139_117.out
                        have hnc66 := NB117_139.out
                        have hcz67_0 : wc.cell? ⟨gb139, 0, none⟩ = some (.int .u8 t131) := (blk_cell BK139.out 0).trans rfl
                        have hcz67_1 : wc.cell? ⟨gb139, 1, none⟩ = some (.int .u8 t132) := (blk_cell BK139.out 1).trans rfl
                        have hcz67_2 : wc.cell? ⟨gb139, 2, none⟩ = some (.bool t133) := (blk_cell BK139.out 2).trans rfl
                        have hcz67_3 : wc.cell? ⟨gb139, 3, none⟩ = some (.bool t134) := (blk_cell BK139.out 3).trans rfl
                        have hcz67_4 : wc.cell? ⟨gb139, 4, none⟩ = some (.int .u8 t135) := (blk_cell BK139.out 4).trans rfl
                        have hcz67_5 : wc.cell? ⟨gb139, 5, none⟩ = some (.int .u8 t136) := (blk_cell BK139.out 5).trans rfl
                        have hcz67_6 : wc.cell? ⟨gb139, 6, none⟩ = some (.int .u8 t137) := (blk_cell BK139.out 6).trans rfl
                        have hfz67_0 := blk_frozen BK139.out 0
                        have hfz67_1 := blk_frozen BK139.out 1
                        have hfz67_2 := blk_frozen BK139.out 2
                        have hfz67_3 := blk_frozen BK139.out 3
                        have hfz67_4 := blk_frozen BK139.out 4
                        have hfz67_5 := blk_frozen BK139.out 5
                        have hfz67_6 := blk_frozen BK139.out 6
                        go_wp2_with (first | ((with_reducible refine gate_callee (f := 6) rfl ?_); refine goesL_ (some 84) rfl rfl Try.func6 (by kernel_rfl) rfl #[.agg #[.int .u8 t131, .int .u8 t132, .bool t133, .bool t134, .int .u8 t135, .int .u8 t136, .int .u8 t137]] rfl (by (try simp only [List.map_toArray, List.map_cons, List.map_nil]); first | done | rfl | (simp only [List.length_drop, List.length_take]; rfl)) ?_; (with_reducible refine (word_Put.calls t131 t132 t133 t134 t135 t136 t137 t142 t143 _ A56.out).mono ?_); rintro e w68 ⟨rfl, hb⟩; refine ⟨_, rfl, ?_⟩; have n0_ := Aside0.mk (blk_below (g := gb116) (o := .cells #[.int .u8 a0_0, .int .u8 a0_1, .bool a0_2, .bool a0_3, .int .u8 a0_4, .int .u8 a0_5, .int .u8 a0_6] 28 (0, 0)) (by (with_reducible repeat (first | refine blk_drewN ?_ _ | refine blk_drew ?_ | refine blk_alloc ?_ _)); exact BK116.out) hb); have n1_ := Aside0.mk (blk_below (g := gb117) (o := .cells #[.int .u8 a1_0, .int .u8 a1_1, .bool a1_2, .bool a1_3, .int .u8 a1_4, .int .u8 a1_5, .int .u8 a1_6] 28 (0, 0)) (by (with_reducible repeat (first | refine blk_drewN ?_ _ | refine blk_drew ?_ | refine blk_alloc ?_ _)); exact BK117.out) hb); have n2_ := Aside0.mk (blk_below (g := gb139) (o := .cells #[.int .u8 t131, .int .u8 t132, .bool t133, .bool t134, .int .u8 t135, .int .u8 t136, .int .u8 t137] 28 (0, 0)) (by (with_reducible repeat (first | refine blk_drewN ?_ _ | refine blk_drew ?_ | refine blk_alloc ?_ _)); exact BK139.out) hb); have n3_ := Aside0.mk (below_step (by repeat (first | (with_reducible first | exact HB.out | apply below_alloc | apply pw_below_drewN | apply below_drew1 | refine below_set ?_ GE116.out | refine below_set ?_ GE117.out | refine below_set ?_ GE139.out) | exact HB.out)) hb); clear BK116; clear BK117; clear BK139; clear HB; have BK116 := n0_; have BK117 := n1_; have BK139 := n2_; have HB := n3_; clear n0_ n1_ n2_ n3_; (try clear hb); (try clear hb2); (try clear hk); (try clear hi)))
                        go_ret
                        exact ⟨by first | rfl | (simp [errW_none, errW_some] <;> rfl) | (simp [*, errW_none, errW_some] <;> rfl), by repeat (first | (with_reducible first | exact HB.out | apply below_alloc | apply pw_below_drewN | apply below_drew1 | refine below_set ?_ GE116.out | refine below_set ?_ GE117.out | refine below_set ?_ GE139.out) | exact HB.out)⟩
                    · rw [if_neg c57] at H
                      have c57b0 : (t143 == 0) = false := beq_eq_false_iff_ne.mpr c57
                      have c57b1 : (t143 != 0) = true := bne_iff_ne.mpr c57
                      obtain rfl := Option.some.inj H
                      have hnb69 := NB139_116.out
                      have hnc69 := NB116_139.out
                      have hnb70 := NB139_117.out
                      have hnc70 := NB117_139.out
                      have hcz71_0 : wc.cell? ⟨gb139, 0, none⟩ = some (.int .u8 t131) := (blk_cell BK139.out 0).trans rfl
                      have hcz71_1 : wc.cell? ⟨gb139, 1, none⟩ = some (.int .u8 t132) := (blk_cell BK139.out 1).trans rfl
                      have hcz71_2 : wc.cell? ⟨gb139, 2, none⟩ = some (.bool t133) := (blk_cell BK139.out 2).trans rfl
                      have hcz71_3 : wc.cell? ⟨gb139, 3, none⟩ = some (.bool t134) := (blk_cell BK139.out 3).trans rfl
                      have hcz71_4 : wc.cell? ⟨gb139, 4, none⟩ = some (.int .u8 t135) := (blk_cell BK139.out 4).trans rfl
                      have hcz71_5 : wc.cell? ⟨gb139, 5, none⟩ = some (.int .u8 t136) := (blk_cell BK139.out 5).trans rfl
                      have hcz71_6 : wc.cell? ⟨gb139, 6, none⟩ = some (.int .u8 t137) := (blk_cell BK139.out 6).trans rfl
                      have hfz71_0 := blk_frozen BK139.out 0
                      have hfz71_1 := blk_frozen BK139.out 1
                      have hfz71_2 := blk_frozen BK139.out 2
                      have hfz71_3 := blk_frozen BK139.out 3
                      have hfz71_4 := blk_frozen BK139.out 4
                      have hfz71_5 := blk_frozen BK139.out 5
                      have hfz71_6 := blk_frozen BK139.out 6
                      go_wp2_with (first | ((with_reducible refine gate_callee (f := 6) rfl ?_); refine goesL_ (some 84) rfl rfl Try.func6 (by kernel_rfl) rfl #[.agg #[.int .u8 t131, .int .u8 t132, .bool t133, .bool t134, .int .u8 t135, .int .u8 t136, .int .u8 t137]] rfl (by (try simp only [List.map_toArray, List.map_cons, List.map_nil]); first | done | rfl | (simp only [List.length_drop, List.length_take]; rfl)) ?_; (with_reducible refine (word_Put.calls t131 t132 t133 t134 t135 t136 t137 t142 t143 _ A56.out).mono ?_); rintro e w72 ⟨rfl, hb⟩; refine ⟨_, rfl, ?_⟩; have n0_ := Aside0.mk (blk_below (g := gb116) (o := .cells #[.int .u8 a0_0, .int .u8 a0_1, .bool a0_2, .bool a0_3, .int .u8 a0_4, .int .u8 a0_5, .int .u8 a0_6] 28 (0, 0)) (by (with_reducible repeat (first | refine blk_drewN ?_ _ | refine blk_drew ?_ | refine blk_alloc ?_ _)); exact BK116.out) hb); have n1_ := Aside0.mk (blk_below (g := gb117) (o := .cells #[.int .u8 a1_0, .int .u8 a1_1, .bool a1_2, .bool a1_3, .int .u8 a1_4, .int .u8 a1_5, .int .u8 a1_6] 28 (0, 0)) (by (with_reducible repeat (first | refine blk_drewN ?_ _ | refine blk_drew ?_ | refine blk_alloc ?_ _)); exact BK117.out) hb); have n2_ := Aside0.mk (blk_below (g := gb139) (o := .cells #[.int .u8 t131, .int .u8 t132, .bool t133, .bool t134, .int .u8 t135, .int .u8 t136, .int .u8 t137] 28 (0, 0)) (by (with_reducible repeat (first | refine blk_drewN ?_ _ | refine blk_drew ?_ | refine blk_alloc ?_ _)); exact BK139.out) hb); have n3_ := Aside0.mk (below_step (by repeat (first | (with_reducible first | exact HB.out | apply below_alloc | apply pw_below_drewN | apply below_drew1 | refine below_set ?_ GE116.out | refine below_set ?_ GE117.out | refine below_set ?_ GE139.out) | exact HB.out)) hb); clear BK116; clear BK117; clear BK139; clear HB; have BK116 := n0_; have BK117 := n1_; have BK139 := n2_; have HB := n3_; clear n0_ n1_ n2_ n3_; (try clear hb); (try clear hb2); (try clear hk); (try clear hi)))
                      go_ret
                      exact ⟨by first | rfl | (simp [errW_none, errW_some] <;> rfl) | (simp [*, errW_none, errW_some] <;> rfl), by repeat (first | (with_reducible first | exact HB.out | apply below_alloc | apply pw_below_drewN | apply below_drew1 | refine below_set ?_ GE116.out | refine below_set ?_ GE117.out | refine below_set ?_ GE139.out) | exact HB.out)⟩
                  · rw [if_neg c55] at H
                    have c55b0 : (t138 == 0) = false := beq_eq_false_iff_ne.mpr c55
                    have c55b1 : (t138 != 0) = true := bne_iff_ne.mpr c55
                    by_cases c73 : (t131 == 0 && (t132 == 0 && (!t133 && (!t134 && (t135 == 0 && (t136 == 0 && (t137 == 0))))))) = true
                    · rw [if_pos c73] at H
                      have c73b0 : (t131 == 0 && (t132 == 0 && (!t133 && (!t134 && (t135 == 0 && (t136 == 0 && (t137 == 0))))))) = true := c73
                      (try (have c73b1 : decide (t131 = 0 && (t132 == 0 && (!t133 && (!t134 && (t135 == 0 && (t136 == 0 && (t137 == 0))))))) = true := by simpa using c73))
                      (try (have c73b2 : (t131 == 0 && (t132 == 0 && (!t133 && (!t134 && (t135 == 0 && (t136 == 0 && (t137 == 0))))))) = true := by simpa using c73))
                      clear c73
                      replace H := Option.bind_eq_some_iff.mp H
                      obtain ⟨t145, A740, H⟩ := H
                      replace H : (some t145) = some r := H
                      have A74 := Aside0.mk A740
                      clear A740
                      obtain rfl := Option.some.inj H
                      have hnb75 := NB139_116.out
                      have hnc75 := NB116_139.out
                      have hnb76 := NB139_117.out
                      have hnc76 := NB117_139.out
                      have hcz77_0 : wc.cell? ⟨gb139, 0, none⟩ = some (.int .u8 t131) := (blk_cell BK139.out 0).trans rfl
                      have hcz77_1 : wc.cell? ⟨gb139, 1, none⟩ = some (.int .u8 t132) := (blk_cell BK139.out 1).trans rfl
                      have hcz77_2 : wc.cell? ⟨gb139, 2, none⟩ = some (.bool t133) := (blk_cell BK139.out 2).trans rfl
                      have hcz77_3 : wc.cell? ⟨gb139, 3, none⟩ = some (.bool t134) := (blk_cell BK139.out 3).trans rfl
                      have hcz77_4 : wc.cell? ⟨gb139, 4, none⟩ = some (.int .u8 t135) := (blk_cell BK139.out 4).trans rfl
                      have hcz77_5 : wc.cell? ⟨gb139, 5, none⟩ = some (.int .u8 t136) := (blk_cell BK139.out 5).trans rfl
                      have hcz77_6 : wc.cell? ⟨gb139, 6, none⟩ = some (.int .u8 t137) := (blk_cell BK139.out 6).trans rfl
                      have hfz77_0 := blk_frozen BK139.out 0
                      have hfz77_1 := blk_frozen BK139.out 1
                      have hfz77_2 := blk_frozen BK139.out 2
                      have hfz77_3 := blk_frozen BK139.out 3
                      have hfz77_4 := blk_frozen BK139.out 4
                      have hfz77_5 := blk_frozen BK139.out 5
                      have hfz77_6 := blk_frozen BK139.out 6
                      go_wp2_with (first | (go_at_call 9; (with_reducible refine (demesnelaw01_wakes.calls  t145 _ A74.out).mono ?_); rintro e w78 ⟨rfl, hb⟩; have n0_ := Aside0.mk (blk_below (g := gb116) (o := .cells #[.int .u8 a0_0, .int .u8 a0_1, .bool a0_2, .bool a0_3, .int .u8 a0_4, .int .u8 a0_5, .int .u8 a0_6] 28 (0, 0)) (by (with_reducible repeat (first | refine blk_drewN ?_ _ | refine blk_drew ?_ | refine blk_alloc ?_ _)); exact BK116.out) hb); have n1_ := Aside0.mk (blk_below (g := gb117) (o := .cells #[.int .u8 a1_0, .int .u8 a1_1, .bool a1_2, .bool a1_3, .int .u8 a1_4, .int .u8 a1_5, .int .u8 a1_6] 28 (0, 0)) (by (with_reducible repeat (first | refine blk_drewN ?_ _ | refine blk_drew ?_ | refine blk_alloc ?_ _)); exact BK117.out) hb); have n2_ := Aside0.mk (blk_below (g := gb139) (o := .cells #[.int .u8 t131, .int .u8 t132, .bool t133, .bool t134, .int .u8 t135, .int .u8 t136, .int .u8 t137] 28 (0, 0)) (by (with_reducible repeat (first | refine blk_drewN ?_ _ | refine blk_drew ?_ | refine blk_alloc ?_ _)); exact BK139.out) hb); have n3_ := Aside0.mk (below_step (by repeat (first | (with_reducible first | exact HB.out | apply below_alloc | apply pw_below_drewN | apply below_drew1 | refine below_set ?_ GE116.out | refine below_set ?_ GE117.out | refine below_set ?_ GE139.out) | exact HB.out)) hb); clear BK116; clear BK117; clear BK139; clear HB; have BK116 := n0_; have BK117 := n1_; have BK139 := n2_; have HB := n3_; clear n0_ n1_ n2_ n3_; (try clear hb); (try clear hb2); (try clear hk); (try clear hi)))
                      go_ret
                      exact ⟨by first | rfl | (simp [errW_none, errW_some] <;> rfl) | (simp [*, errW_none, errW_some] <;> rfl), by repeat (first | (with_reducible first | exact HB.out | apply below_alloc | apply pw_below_drewN | apply below_drew1 | refine below_set ?_ GE116.out | refine below_set ?_ GE117.out | refine below_set ?_ GE139.out) | exact HB.out)⟩
                    · rw [if_neg c73] at H
                      have c73b0 : (t131 == 0 && (t132 == 0 && (!t133 && (!t134 && (t135 == 0 && (t136 == 0 && (t137 == 0))))))) = false := by simpa using c73
                      (try (have c73b1 : decide (t131 = 0 && (t132 == 0 && (!t133 && (!t134 && (t135 == 0 && (t136 == 0 && (t137 == 0))))))) = false := by simpa using c73))
                      (try (have c73b2 : (t131 == 0 && (t132 == 0 && (!t133 && (!t134 && (t135 == 0 && (t136 == 0 && (t137 == 0))))))) = false := by simpa using c73))
                      (try (have c73b3 : ¬ (t131 = 0 && (t132 == 0 && (!t133 && (!t134 && (t135 == 0 && (t136 == 0 && (t137 == 0))))))) := by simpa using c73))
                      clear c73
                      obtain rfl := Option.some.inj H
                      have hnb79 := NB139_116.out
                      have hnc79 := NB116_139.out
                      have hnb80 := NB139_117.out
                      have hnc80 := NB117_139.out
                      have hcz81_0 : wc.cell? ⟨gb139, 0, none⟩ = some (.int .u8 t131) := (blk_cell BK139.out 0).trans rfl
                      have hcz81_1 : wc.cell? ⟨gb139, 1, none⟩ = some (.int .u8 t132) := (blk_cell BK139.out 1).trans rfl
                      have hcz81_2 : wc.cell? ⟨gb139, 2, none⟩ = some (.bool t133) := (blk_cell BK139.out 2).trans rfl
                      have hcz81_3 : wc.cell? ⟨gb139, 3, none⟩ = some (.bool t134) := (blk_cell BK139.out 3).trans rfl
                      have hcz81_4 : wc.cell? ⟨gb139, 4, none⟩ = some (.int .u8 t135) := (blk_cell BK139.out 4).trans rfl
                      have hcz81_5 : wc.cell? ⟨gb139, 5, none⟩ = some (.int .u8 t136) := (blk_cell BK139.out 5).trans rfl
                      have hcz81_6 : wc.cell? ⟨gb139, 6, none⟩ = some (.int .u8 t137) := (blk_cell BK139.out 6).trans rfl
                      have hfz81_0 := blk_frozen BK139.out 0
                      have hfz81_1 := blk_frozen BK139.out 1
                      have hfz81_2 := blk_frozen BK139.out 2
                      have hfz81_3 := blk_frozen BK139.out 3
                      have hfz81_4 := blk_frozen BK139.out 4
                      have hfz81_5 := blk_frozen BK139.out 5
                      have hfz81_6 := blk_frozen BK139.out 6
                      go_wp2
                      go_ret
                      exact ⟨by first | rfl | (simp [errW_none, errW_some] <;> rfl) | (simp [*, errW_none, errW_some] <;> rfl), by repeat (first | (with_reducible first | exact HB.out | apply below_alloc | apply pw_below_drewN | apply below_drew1 | refine below_set ?_ GE116.out | refine below_set ?_ GE117.out | refine below_set ?_ GE139.out) | exact HB.out)⟩

end Go.Proofs.Ytgjgdgdckmgfmaa.PWordBack
