/- Proved here: what BitmapTells answers, for any map, number of blocks, place and run; no condition but those that each theorem writes out. -/
import Derived.Test.YtbmddfkmlhmbgaaPBitmapTellsx1
import Derived.Test.YtbmddfkmlhmbgaaPop
import Derived.OpenShut
namespace Go.Proofs.Ytbmddfkmlhmbgaa.TellsWalk
open Go Go.RowKit Go.Proofs.Ytbmddfkmlhmbgaa Go.Proofs.Ytbmddfkmlhmbgaa.PBitmapTells Go.Proofs.YtbmddfkmlhmbgaaW.PrintWords Go.Proofs.YtbmddfkmlhmbgaaW.PrintLast Go.Proofs.YtbmddfkmlhmbgaaW.PrintMore
set_option linter.unusedVariables false
set_option linter.unusedSimpArgs false
theorem wk : demesnelaw04_wakes.f = some true := by decide +kernel
theorem ones_f (a : Int) : bits_OnesCount64.f a = some (Pop.ones a) := rfl
theorem count_f (x : Nat) (hx : x < 18446744073709551616) : bitmap_Count.f (x : Int) = some (Pop.cnt x 64 : Int) := by
  unfold bitmap_Count.f
  rw [ones_f, Option.bind_some, Pop.ones_eq x hx]
theorem has_in (x j : Nat) (hx : x < 18446744073709551616) (hj : j < 64) : bitmap_Has.f (x : Int) (j : Int) = some (x.testBit j) := by
  unfold bitmap_Has.f
  rw [if_pos (by omega), if_pos (by omega), if_pos (by omega), Pop.bit_n x j hx hj]
  cases x.testBit j <;> rfl
theorem has_out (x a : Int) (h : a < 0 ∨ a > 63) : bitmap_Has.f x a = some false := by
  unfold bitmap_Has.f
  by_cases c : a ≥ 0
  · rw [if_pos c, if_neg (by omega)]
  · rw [if_neg c]
theorem all_f (b : Int) : bitmap_All.f b = demesneref04_All.f b := by
  unfold bitmap_All.f demesneref04_All.f
  refine congrArg some ?_
  obtain ⟨m, hm⟩ : ∃ m : Nat, (m : Int) = mx 0 (mn b 64) := ⟨(mx 0 (mn b 64)).toNat, by unfold mx mn; split <;> split <;> omega⟩
  have hm64 : m ≤ 64 := by unfold mx mn at hm; split at hm <;> split at hm <;> omega
  have hmb : ∀ j : Nat, j < 64 → (j < m ↔ (j : Int) < b) := by
    intro j hj
    unfold mx mn at hm
    split at hm <;> split at hm <;> omega
  rw [← hm, show (64 - (m : Int)).toNat = 64 - m from by omega]
  have hv : (18446744073709551615 : Int) / 2 ^ (64 - m) = (((2 ^ 64 - 1) / 2 ^ (64 - m) : Nat) : Int) := by simp
  rw [hv]
  have hlt : (2 ^ 64 - 1) / 2 ^ (64 - m) < 2 ^ 64 := Nat.lt_of_le_of_lt (Nat.div_le_self _ _) (by decide)
  refine (Hand.wordB_eq _ _ hlt (fun j hj => ?_)).symm
  rw [Nat.testBit_div_two_pow, Nat.testBit_two_pow_sub_one]
  have e : (Hand.allL b 64).getD j false = (decide (j < 64) && decide ((j : Int) < b)) := by simp [Hand.allL, hj]
  rw [e, decide_eq_true hj, Bool.true_and, decide_eq_decide, ← hmb j hj]
  omega
theorem is_eq (x a n : Int) (f : Bool) (h : 0 ≤ x ∧ x < 18446744073709551616) : demesneref04_Is.f x a n f = some (Hand.isP x a n f) := by
  unfold demesneref04_Is.f; rw [if_pos h]
theorem ref_loop (x n : Int) (h : 0 ≤ x ∧ x < 18446744073709551616) : ∀ (r i k : Nat), i + r = 64 → r < k → (∀ j : Nat, j < i → Hand.isP x (j : Int) n true = false) →
    ∃ v, demesneref04_Find.l0 k x n (i : Int) = some v ∧ (v < 0 ∧ findP x n = (0, false) ∨ 0 ≤ v ∧ findP x n = (v, true))
  | 0, i, k, hi, hk, hp => by
    obtain ⟨k, rfl⟩ : ∃ q, k = q + 1 := ⟨k - 1, by omega⟩
    refine ⟨-1, ?_, .inl ⟨by decide, findP_none x n (fun j hj => hp j (by omega))⟩⟩
    simp only [demesneref04_Find.l0]
    rw [if_neg (by omega)]
  | r + 1, i, k, hi, hk, hp => by
    obtain ⟨k, rfl⟩ : ∃ q, k = q + 1 := ⟨k - 1, by omega⟩
    simp only [demesneref04_Find.l0]
    rw [if_pos (by omega), is_eq x _ n true h, Option.bind_some]
    cases hb : Hand.isP x (i : Int) n true with
    | true =>
      refine ⟨(i : Int), by rw [if_pos rfl], .inr ⟨by omega, findP_at x n i (by omega) hp hb⟩⟩
    | false =>
      rw [if_neg (by decide), show wrap64 ((i : Int) + 1) = ((i + 1 : Nat) : Int) from by unfold wrap64; omega]
      refine ref_loop x n h r (i + 1) k (by omega) (by omega) (fun j hj => ?_)
      by_cases e : j = i
      · subst e; exact hb
      · exact hp j (by omega)
/-- What the program's Find and the document's answer. -/
theorem finds (x n : Int) (h : 0 ≤ x ∧ x < 18446744073709551616) : ∃ r1 r2 v, bitmap_Find.f x n = some (r1, r2) ∧ demesneref04_Find.f 100 x n = some v ∧ (v < 0 ∧ r1 = 0 ∧ r2 = false ∨ 0 ≤ v ∧ r1 = v ∧ r2 = true) := by
  obtain ⟨v, h1, h2⟩ := ref_loop x n h 64 0 100 rfl (by decide) (fun j hj => absurd hj (Nat.not_lt_zero j))
  refine ⟨(findP x n).1, (findP x n).2, v, by unfold bitmap_Find.f; rw [if_pos h], h1, ?_⟩
  rcases h2 with ⟨a, b⟩ | ⟨a, b⟩ <;> rw [b]
  · exact .inl ⟨a, rfl, rfl⟩
  · exact .inr ⟨a, rfl, rfl⟩
set_option maxRecDepth 100000 in
set_option maxHeartbeats 8000000 in
theorem tells_any (x : Nat) (blocks a run : Int) (w : World) (hx : x < 18446744073709551616) :
    Calls Try.prog 3 #[.int .u64 (x : Int), .int .i64 blocks, .int .i64 a, .int .i64 run] w fun e w' => e = .returned (.bool true) ∧ Below w.heap.size w w' := by
  have HX := Lib.hid hx
  clear hx
  go_enter Try.func3, Try.ntmps3
  go_wp2_with fail
  refine (Hand.bits_any (x : Int) _ (by omega) (by have := HX.out; omega)).mono ?_
  rintro e w1 ⟨rfl, hb1⟩
  have HB1 := Lib.hid hb1
  have HLE := Lib.hid hb1.size
  clear hb1
  go_wp2_with (first | (refine wpList_store_row rfl 23 _ _ rfl w1.heap.size (Hand.cellsB (Hand.bitL (x : Int) 64)) rfl rfl 23 _ (heap_alloc_new _ _) ?h2 ?h3 (Hand.cellsB_one _) ?_; (case h2 => rw [Hand.cellsB_size, Hand.bitL_len]; exact Hand.info23); (case h3 => rw [Hand.cellsB_size, Hand.bitL_len]; rfl)))
  go_loopw [10, 11] (fun v10 v11 wr => ∃ (i : Nat), i ≤ 64 ∧ v10 = .int .i64 (Pop.cnt x i) ∧ v11 = .int .i64 i ∧ Hid (wr.heap[w1.heap.size]? = some (.cells (Hand.cellsB (Hand.bitL (x : Int) 64)) 23 (0, 0))) ∧ Hid (Below w.heap.size w wr)) (fun _ v11 _ => 64 - (intOf v11).toNat)
  case atStart =>
    exact ⟨0, by omega, rfl, rfl, Lib.hid (setRow_heap _ _ _ _ _ _ (heap_alloc_new _ _)), Lib.hid (Hand.below_setRow (HB1.out.alloc HLE.out _) _ HLE.out _)⟩
  case round =>
    obtain ⟨i, hi, rfl, rfl, HC, HB⟩ := hrel
    by_cases hlt : i < 64
    · have hc : wr.cell? ⟨w1.heap.size, i, none⟩ = some (.bool (x.testBit i)) := by
        refine ((cell_of_row _ _ _ _ _ _ HC.out).trans (Hand.cellsB_at _ i (by rw [Hand.bitL_len]; exact hlt))).trans ?_
        have := Hand.bitL_get x i hlt
        rw [List.getD_eq_getElem?_getD, List.getElem?_eq_getElem (by rw [Hand.bitL_len]; exact hlt)] at this
        rw [show (Hand.bitL (x : Int) 64)[i]'(by rw [Hand.bitL_len]; exact hlt) = x.testBit i from this]
      have hw : wrap64 ((i : Int) + 1) = ((i + 1 : Nat) : Int) := by unfold wrap64; omega
      have p1 : (0:Int) ≤ (i : Int) := by omega
      have q1 : (i : Int) < 64 := by omega
      have hdi : decide ((i : Int) < 64) = true := decide_eq_true q1
      replace p1 := eq_true p1
      replace q1 := eq_true q1
      have q2 : (i < 64) = True := eq_true hlt
      have HI := Lib.hid hlt
      clear hlt hi
      have hcs : Pop.cnt x (i + 1) = Pop.cnt x i + (x.testBit i).toNat := rfl
      have hbb : bitmap_Has.f (x : Int) (i : Int) = some (x.testBit i) := has_in x i HX.out HI.out
      have hc64 := Pop.cnt_le x i
      have HCN := Lib.hid hc64
      clear hc64
      generalize x.testBit i = b at hc hcs hbb
      have HCS := Lib.hid hcs
      have HBB := Lib.hid hbb
      clear hcs hbb
      cases b with
      | true =>
        go_wp2
        refine start_ (n := 7) (S := fun w' => w'.cell? ⟨w1.heap.size, i, none⟩ = some (.bool true)) (ds := []) #[false, false, false, false, false, false, false] (by kernel_rfl) rfl rfl hc (fun hHeld => ?_)
        refine pure_ (i := 0) (N := some 26) (v := ?_) (a' := ?_) #[true, false, false, false, false, false, false] rfl rfl (by kernel_rfl) (fun _ _ _ h => h) (Or.inl ⟨by rfl, ?_⟩) ?_ ?_
        rotate_left
        · intro w'
          go_simp
          with_reducible rfl
        rotate_left
        · simp only [Act.put, List.setIfInBounds_toArray, List.set_cons_zero, List.set_cons_succ, i64_w, i32_w]
          rfl
        refine pure_ (i := 1) (N := some 27) (v := ?_) (a' := ?_) #[true, true, false, false, false, false, false] rfl rfl (by kernel_rfl) (fun _ _ _ h => h) (Or.inl ⟨by rfl, ?_⟩) ?_ ?_
        rotate_left
        · intro w'
          go_simp
          with_reducible rfl
        rotate_left
        · simp only [Act.put, List.setIfInBounds_toArray, List.set_cons_zero, List.set_cons_succ, i64_w, i32_w]
          rfl
        refine pure_ (i := 3) (N := some 29) (v := ?_) (a' := ?_) #[true, true, false, true, false, false, false] rfl rfl (by kernel_rfl) (fun _ _ _ h => h) (Or.inl ⟨by rfl, ?_⟩) ?_ ?_
        rotate_left
        · intro w'
          go_simp
          with_reducible rfl
        rotate_left
        · simp only [Act.put, List.setIfInBounds_toArray, List.set_cons_zero, List.set_cons_succ, i64_w, i32_w]
          rfl
        refine pure_ (i := 4) (N := some 30) (v := ?_) (a' := ?_) #[true, true, false, true, true, false, false] rfl rfl (by kernel_rfl) (fun _ _ _ h => h) (Or.inl ⟨by rfl, ?_⟩) ?_ ?_
        rotate_left
        · intro w'
          go_simp
          with_reducible rfl
        rotate_left
        · simp only [Act.put, List.setIfInBounds_toArray, List.set_cons_zero, List.set_cons_succ, i64_w, i32_w]
          rfl
        refine take_ (i := 5) (N := some 31) (v := ?_) (a' := ?_) #[true, true, false, true, true, true, false] rfl rfl (by kernel_rfl) (fun _ _ _ h => h) (Or.inl ⟨by rfl, ?_⟩) hHeld ?_ ?_
        rotate_left
        · intro w' hcell
          go_simp
          with_reducible rfl
        rotate_left
        · simp only [Act.put, List.setIfInBounds_toArray, List.set_cons_zero, List.set_cons_succ, i64_w, i32_w]
          rfl
        refine one_ (i := 2) (N := some 28) #[true, true, true, true, true, true, false] rfl rfl (by kernel_rfl) (by decide) (fun K hK => ?_)
        refine goes_ Try.func7 (by kernel_rfl) rfl #[.int .u64 (x : Int), .int .i64 (i : Int)] (by rfl) rfl rfl (by (try simp only [List.map_toArray, List.map_cons, List.map_nil]); first | done | rfl) ?_
        refine (bitmap_Has.calls (x : Int) (i : Int) true _ HBB.out).mono ?_
        rintro e w2 ⟨rfl, hb⟩
        refine ⟨_, rfl, ?_⟩
        have hbl := hb.below
        have hc2 : w2.cell? ⟨w1.heap.size, i, none⟩ = some (.bool true) := (hbl.cell (World.block_lt_of_cell? _ _ hHeld)).trans hHeld
        have HC2 := Lib.hid (blk_below (blk_drew HC.out) hbl)
        have HB2 := Lib.hid (below_step (below_drew1 HB.out) hbl)
        clear hb hbl hc
        refine hK.out _ _ hc2 (fun hHeld => ?_)
        clear hK K
        refine norm_ (a' := ?_) ?_ ?_
        rotate_left
        · show Act.put _ (some 28) _ = _
          simp only [Act.put, List.setIfInBounds_toArray, List.set_cons_zero, List.set_cons_succ, i64_w, i32_w]
          rfl
        refine pure_ (i := 6) (N := some 32) (v := ?_) (a' := ?_) #[true, true, true, true, true, true, true] rfl rfl (by kernel_rfl) (fun _ _ _ h => h) (Or.inl ⟨by rfl, ?_⟩) ?_ ?_
        rotate_left
        · intro w'
          go_simp
          with_reducible rfl
        rotate_left
        · simp only [Act.put, List.setIfInBounds_toArray, List.set_cons_zero, List.set_cons_succ, i64_w, i32_w]
          rfl
        refine done_ (by kernel_rfl) ?_
        go_wp2
        refine ⟨⟨i + 1, by have := HI.out; omega, congrArg (Value.int .i64) ?_, congrArg (Value.int .i64) hw, HC2, HB2⟩, ?_⟩
        · rw [HCS.out]
          have := HCN.out
          have := HI.out
          simp only [Bool.toNat_true, Bool.toNat_false]
          first
            | (unfold wrap64; omega)
            | omega
        · rw [hw]
          have := HI.out
          simp only [intOf, Int.toNat_natCast]
          omega
      | false =>
        go_wp2
        refine start_ (n := 7) (S := fun w' => w'.cell? ⟨w1.heap.size, i, none⟩ = some (.bool false)) (ds := []) #[false, false, false, false, false, false, false] (by kernel_rfl) rfl rfl hc (fun hHeld => ?_)
        refine pure_ (i := 0) (N := some 26) (v := ?_) (a' := ?_) #[true, false, false, false, false, false, false] rfl rfl (by kernel_rfl) (fun _ _ _ h => h) (Or.inl ⟨by rfl, ?_⟩) ?_ ?_
        rotate_left
        · intro w'
          go_simp
          with_reducible rfl
        rotate_left
        · simp only [Act.put, List.setIfInBounds_toArray, List.set_cons_zero, List.set_cons_succ, i64_w, i32_w]
          rfl
        refine pure_ (i := 1) (N := some 27) (v := ?_) (a' := ?_) #[true, true, false, false, false, false, false] rfl rfl (by kernel_rfl) (fun _ _ _ h => h) (Or.inl ⟨by rfl, ?_⟩) ?_ ?_
        rotate_left
        · intro w'
          go_simp
          with_reducible rfl
        rotate_left
        · simp only [Act.put, List.setIfInBounds_toArray, List.set_cons_zero, List.set_cons_succ, i64_w, i32_w]
          rfl
        refine pure_ (i := 3) (N := some 29) (v := ?_) (a' := ?_) #[true, true, false, true, false, false, false] rfl rfl (by kernel_rfl) (fun _ _ _ h => h) (Or.inl ⟨by rfl, ?_⟩) ?_ ?_
        rotate_left
        · intro w'
          go_simp
          with_reducible rfl
        rotate_left
        · simp only [Act.put, List.setIfInBounds_toArray, List.set_cons_zero, List.set_cons_succ, i64_w, i32_w]
          rfl
        refine pure_ (i := 4) (N := some 30) (v := ?_) (a' := ?_) #[true, true, false, true, true, false, false] rfl rfl (by kernel_rfl) (fun _ _ _ h => h) (Or.inl ⟨by rfl, ?_⟩) ?_ ?_
        rotate_left
        · intro w'
          go_simp
          with_reducible rfl
        rotate_left
        · simp only [Act.put, List.setIfInBounds_toArray, List.set_cons_zero, List.set_cons_succ, i64_w, i32_w]
          rfl
        refine take_ (i := 5) (N := some 31) (v := ?_) (a' := ?_) #[true, true, false, true, true, true, false] rfl rfl (by kernel_rfl) (fun _ _ _ h => h) (Or.inl ⟨by rfl, ?_⟩) hHeld ?_ ?_
        rotate_left
        · intro w' hcell
          go_simp
          with_reducible rfl
        rotate_left
        · simp only [Act.put, List.setIfInBounds_toArray, List.set_cons_zero, List.set_cons_succ, i64_w, i32_w]
          rfl
        refine one_ (i := 2) (N := some 28) #[true, true, true, true, true, true, false] rfl rfl (by kernel_rfl) (by decide) (fun K hK => ?_)
        refine goes_ Try.func7 (by kernel_rfl) rfl #[.int .u64 (x : Int), .int .i64 (i : Int)] (by rfl) rfl rfl (by (try simp only [List.map_toArray, List.map_cons, List.map_nil]); first | done | rfl) ?_
        refine (bitmap_Has.calls (x : Int) (i : Int) false _ HBB.out).mono ?_
        rintro e w2 ⟨rfl, hb⟩
        refine ⟨_, rfl, ?_⟩
        have hbl := hb.below
        have hc2 : w2.cell? ⟨w1.heap.size, i, none⟩ = some (.bool false) := (hbl.cell (World.block_lt_of_cell? _ _ hHeld)).trans hHeld
        have HC2 := Lib.hid (blk_below (blk_drew HC.out) hbl)
        have HB2 := Lib.hid (below_step (below_drew1 HB.out) hbl)
        clear hb hbl hc
        refine hK.out _ _ hc2 (fun hHeld => ?_)
        clear hK K
        refine norm_ (a' := ?_) ?_ ?_
        rotate_left
        · show Act.put _ (some 28) _ = _
          simp only [Act.put, List.setIfInBounds_toArray, List.set_cons_zero, List.set_cons_succ, i64_w, i32_w]
          rfl
        refine pure_ (i := 6) (N := some 32) (v := ?_) (a' := ?_) #[true, true, true, true, true, true, true] rfl rfl (by kernel_rfl) (fun _ _ _ h => h) (Or.inl ⟨by rfl, ?_⟩) ?_ ?_
        rotate_left
        · intro w'
          go_simp
          with_reducible rfl
        rotate_left
        · simp only [Act.put, List.setIfInBounds_toArray, List.set_cons_zero, List.set_cons_succ, i64_w, i32_w]
          rfl
        refine done_ (by kernel_rfl) ?_
        go_wp2
        refine ⟨⟨i + 1, by have := HI.out; omega, congrArg (Value.int .i64) ?_, congrArg (Value.int .i64) hw, HC2, HB2⟩, ?_⟩
        · rw [HCS.out]
          have := HCN.out
          have := HI.out
          simp only [Bool.toNat_true, Bool.toNat_false]
          first
            | (unfold wrap64; omega)
            | omega
        · rw [hw]
          have := HI.out
          simp only [intOf, Int.toNat_natCast]
          omega
    · obtain rfl : i = 64 := by omega
      clear hlt hi
      have HCNT := Lib.hid (count_f x HX.out)
      have HWK := Lib.hid wk
      obtain ⟨r1, r2, v, e1, e2, hv⟩ := finds (x : Int) run ⟨by omega, by have := HX.out; omega⟩
      have HF1 := Lib.hid e1
      have HF2 := Lib.hid e2
      have HHO : a < 0 ∨ a > 63 → Hid (bitmap_Has.f (x : Int) a = some false) := fun h => Lib.hid (has_out _ a h)
      obtain ⟨y, hy⟩ : ∃ y, demesneref04_All.f blocks = some y := ⟨_, rfl⟩
      have HA1 := Lib.hid hy
      have HA2 := Lib.hid ((all_f blocks).trans hy)
      clear e1 e2 hy HC
      have hc64 : Hid (Pop.cnt x 64 ≤ 64) := Lib.hid (Pop.cnt_le x 64)
      by_cases c1 : a < 0
      · have d1 : decide (a < 0) = true := decide_eq_true c1
        have HH := HHO (.inl c1)
        clear c1
        rcases hv with ⟨hv, rfl, rfl⟩ | ⟨hv, rfl, rfl⟩
        · have hv0 : decide (0 ≤ v) = false := decide_eq_false (by omega)
          clear hv
          go_wp2_with (first | (go_at_call 7; (with_reducible refine (bitmap_Has.calls (x : Int) a false _ HH.out).mono ?_); rintro e w' ⟨rfl, hb⟩; have n1_ := Lib.hid (below_step HB.out hb.below); clear hb HB; have HB := n1_; clear n1_) | (go_at_call 8; (with_reducible refine (bitmap_Find.calls (x : Int) run _ _ _ HF1.out).mono ?_); rintro e w' ⟨rfl, hb⟩; have n1_ := Lib.hid (below_step HB.out hb); clear hb HB; have HB := n1_; clear n1_) | (go_at_call 9; (with_reducible refine (demesneref04_Find.calls 100 (x : Int) run _ _ HF2.out).mono ?_); rintro e w' ⟨rfl, hb⟩; have n1_ := Lib.hid (below_step HB.out hb); clear hb HB; have HB := n1_; clear n1_) | (go_at_call 10; (with_reducible refine (bitmap_Count.calls (x : Int) _ _ HCNT.out).mono ?_); rintro e w' ⟨rfl, hb⟩; have n1_ := Lib.hid (below_step HB.out hb.below); clear hb HB; have HB := n1_; clear n1_) | (go_at_call 11; (with_reducible refine (bitmap_All.calls blocks _ _ HA2.out).mono ?_); rintro e w' ⟨rfl, hb⟩; have n1_ := Lib.hid (below_step HB.out hb); clear hb HB; have HB := n1_; clear n1_) | (go_at_call 12; (with_reducible refine (demesneref04_All.calls blocks _ _ HA1.out).mono ?_); rintro e w' ⟨rfl, hb⟩; have n1_ := Lib.hid (below_step HB.out hb); clear hb HB; have HB := n1_; clear n1_) | (go_at_call 13; (with_reducible refine (demesnelaw04_wakes.calls true _ HWK.out).mono ?_); rintro e w' ⟨rfl, hb⟩; have n1_ := Lib.hid (below_step HB.out hb); clear hb HB; have HB := n1_; clear n1_))
          go_ret
          exact ⟨rfl, HB.out⟩
        · have hv0 : decide (0 ≤ r1) = true := decide_eq_true hv
          clear hv
          go_wp2_with (first | (go_at_call 7; (with_reducible refine (bitmap_Has.calls (x : Int) a false _ HH.out).mono ?_); rintro e w' ⟨rfl, hb⟩; have n1_ := Lib.hid (below_step HB.out hb.below); clear hb HB; have HB := n1_; clear n1_) | (go_at_call 8; (with_reducible refine (bitmap_Find.calls (x : Int) run _ _ _ HF1.out).mono ?_); rintro e w' ⟨rfl, hb⟩; have n1_ := Lib.hid (below_step HB.out hb); clear hb HB; have HB := n1_; clear n1_) | (go_at_call 9; (with_reducible refine (demesneref04_Find.calls 100 (x : Int) run _ _ HF2.out).mono ?_); rintro e w' ⟨rfl, hb⟩; have n1_ := Lib.hid (below_step HB.out hb); clear hb HB; have HB := n1_; clear n1_) | (go_at_call 10; (with_reducible refine (bitmap_Count.calls (x : Int) _ _ HCNT.out).mono ?_); rintro e w' ⟨rfl, hb⟩; have n1_ := Lib.hid (below_step HB.out hb.below); clear hb HB; have HB := n1_; clear n1_) | (go_at_call 11; (with_reducible refine (bitmap_All.calls blocks _ _ HA2.out).mono ?_); rintro e w' ⟨rfl, hb⟩; have n1_ := Lib.hid (below_step HB.out hb); clear hb HB; have HB := n1_; clear n1_) | (go_at_call 12; (with_reducible refine (demesneref04_All.calls blocks _ _ HA1.out).mono ?_); rintro e w' ⟨rfl, hb⟩; have n1_ := Lib.hid (below_step HB.out hb); clear hb HB; have HB := n1_; clear n1_) | (go_at_call 13; (with_reducible refine (demesnelaw04_wakes.calls true _ HWK.out).mono ?_); rintro e w' ⟨rfl, hb⟩; have n1_ := Lib.hid (below_step HB.out hb); clear hb HB; have HB := n1_; clear n1_))
          go_ret
          exact ⟨rfl, HB.out⟩
      · have d1 : decide (a < 0) = false := decide_eq_false c1
        by_cases c2 : 63 < a
        · have d2 : decide (63 < a) = true := decide_eq_true c2
          have HH := HHO (.inr c2)
          clear c1 c2
          rcases hv with ⟨hv, rfl, rfl⟩ | ⟨hv, rfl, rfl⟩
          · have hv0 : decide (0 ≤ v) = false := decide_eq_false (by omega)
            clear hv
            go_wp2_with (first | (go_at_call 7; (with_reducible refine (bitmap_Has.calls (x : Int) a false _ HH.out).mono ?_); rintro e w' ⟨rfl, hb⟩; have n1_ := Lib.hid (below_step HB.out hb.below); clear hb HB; have HB := n1_; clear n1_) | (go_at_call 8; (with_reducible refine (bitmap_Find.calls (x : Int) run _ _ _ HF1.out).mono ?_); rintro e w' ⟨rfl, hb⟩; have n1_ := Lib.hid (below_step HB.out hb); clear hb HB; have HB := n1_; clear n1_) | (go_at_call 9; (with_reducible refine (demesneref04_Find.calls 100 (x : Int) run _ _ HF2.out).mono ?_); rintro e w' ⟨rfl, hb⟩; have n1_ := Lib.hid (below_step HB.out hb); clear hb HB; have HB := n1_; clear n1_) | (go_at_call 10; (with_reducible refine (bitmap_Count.calls (x : Int) _ _ HCNT.out).mono ?_); rintro e w' ⟨rfl, hb⟩; have n1_ := Lib.hid (below_step HB.out hb.below); clear hb HB; have HB := n1_; clear n1_) | (go_at_call 11; (with_reducible refine (bitmap_All.calls blocks _ _ HA2.out).mono ?_); rintro e w' ⟨rfl, hb⟩; have n1_ := Lib.hid (below_step HB.out hb); clear hb HB; have HB := n1_; clear n1_) | (go_at_call 12; (with_reducible refine (demesneref04_All.calls blocks _ _ HA1.out).mono ?_); rintro e w' ⟨rfl, hb⟩; have n1_ := Lib.hid (below_step HB.out hb); clear hb HB; have HB := n1_; clear n1_) | (go_at_call 13; (with_reducible refine (demesnelaw04_wakes.calls true _ HWK.out).mono ?_); rintro e w' ⟨rfl, hb⟩; have n1_ := Lib.hid (below_step HB.out hb); clear hb HB; have HB := n1_; clear n1_))
            go_ret
            exact ⟨rfl, HB.out⟩
          · have hv0 : decide (0 ≤ r1) = true := decide_eq_true hv
            clear hv
            go_wp2_with (first | (go_at_call 7; (with_reducible refine (bitmap_Has.calls (x : Int) a false _ HH.out).mono ?_); rintro e w' ⟨rfl, hb⟩; have n1_ := Lib.hid (below_step HB.out hb.below); clear hb HB; have HB := n1_; clear n1_) | (go_at_call 8; (with_reducible refine (bitmap_Find.calls (x : Int) run _ _ _ HF1.out).mono ?_); rintro e w' ⟨rfl, hb⟩; have n1_ := Lib.hid (below_step HB.out hb); clear hb HB; have HB := n1_; clear n1_) | (go_at_call 9; (with_reducible refine (demesneref04_Find.calls 100 (x : Int) run _ _ HF2.out).mono ?_); rintro e w' ⟨rfl, hb⟩; have n1_ := Lib.hid (below_step HB.out hb); clear hb HB; have HB := n1_; clear n1_) | (go_at_call 10; (with_reducible refine (bitmap_Count.calls (x : Int) _ _ HCNT.out).mono ?_); rintro e w' ⟨rfl, hb⟩; have n1_ := Lib.hid (below_step HB.out hb.below); clear hb HB; have HB := n1_; clear n1_) | (go_at_call 11; (with_reducible refine (bitmap_All.calls blocks _ _ HA2.out).mono ?_); rintro e w' ⟨rfl, hb⟩; have n1_ := Lib.hid (below_step HB.out hb); clear hb HB; have HB := n1_; clear n1_) | (go_at_call 12; (with_reducible refine (demesneref04_All.calls blocks _ _ HA1.out).mono ?_); rintro e w' ⟨rfl, hb⟩; have n1_ := Lib.hid (below_step HB.out hb); clear hb HB; have HB := n1_; clear n1_) | (go_at_call 13; (with_reducible refine (demesnelaw04_wakes.calls true _ HWK.out).mono ?_); rintro e w' ⟨rfl, hb⟩; have n1_ := Lib.hid (below_step HB.out hb); clear hb HB; have HB := n1_; clear n1_))
            go_ret
            exact ⟨rfl, HB.out⟩
        · have d2 : decide (63 < a) = false := decide_eq_false c2
          have HH := Lib.hid True.intro
          clear c1 c2
          rcases hv with ⟨hv, rfl, rfl⟩ | ⟨hv, rfl, rfl⟩
          · have hv0 : decide (0 ≤ v) = false := decide_eq_false (by omega)
            clear hv
            go_wp2_with (first | (go_at_call 7; (with_reducible refine (bitmap_Has.calls (x : Int) a false _ HH.out).mono ?_); rintro e w' ⟨rfl, hb⟩; have n1_ := Lib.hid (below_step HB.out hb.below); clear hb HB; have HB := n1_; clear n1_) | (go_at_call 8; (with_reducible refine (bitmap_Find.calls (x : Int) run _ _ _ HF1.out).mono ?_); rintro e w' ⟨rfl, hb⟩; have n1_ := Lib.hid (below_step HB.out hb); clear hb HB; have HB := n1_; clear n1_) | (go_at_call 9; (with_reducible refine (demesneref04_Find.calls 100 (x : Int) run _ _ HF2.out).mono ?_); rintro e w' ⟨rfl, hb⟩; have n1_ := Lib.hid (below_step HB.out hb); clear hb HB; have HB := n1_; clear n1_) | (go_at_call 10; (with_reducible refine (bitmap_Count.calls (x : Int) _ _ HCNT.out).mono ?_); rintro e w' ⟨rfl, hb⟩; have n1_ := Lib.hid (below_step HB.out hb.below); clear hb HB; have HB := n1_; clear n1_) | (go_at_call 11; (with_reducible refine (bitmap_All.calls blocks _ _ HA2.out).mono ?_); rintro e w' ⟨rfl, hb⟩; have n1_ := Lib.hid (below_step HB.out hb); clear hb HB; have HB := n1_; clear n1_) | (go_at_call 12; (with_reducible refine (demesneref04_All.calls blocks _ _ HA1.out).mono ?_); rintro e w' ⟨rfl, hb⟩; have n1_ := Lib.hid (below_step HB.out hb); clear hb HB; have HB := n1_; clear n1_) | (go_at_call 13; (with_reducible refine (demesnelaw04_wakes.calls true _ HWK.out).mono ?_); rintro e w' ⟨rfl, hb⟩; have n1_ := Lib.hid (below_step HB.out hb); clear hb HB; have HB := n1_; clear n1_))
            go_ret
            exact ⟨rfl, HB.out⟩
          · have hv0 : decide (0 ≤ r1) = true := decide_eq_true hv
            clear hv
            go_wp2_with (first | (go_at_call 7; (with_reducible refine (bitmap_Has.calls (x : Int) a false _ HH.out).mono ?_); rintro e w' ⟨rfl, hb⟩; have n1_ := Lib.hid (below_step HB.out hb.below); clear hb HB; have HB := n1_; clear n1_) | (go_at_call 8; (with_reducible refine (bitmap_Find.calls (x : Int) run _ _ _ HF1.out).mono ?_); rintro e w' ⟨rfl, hb⟩; have n1_ := Lib.hid (below_step HB.out hb); clear hb HB; have HB := n1_; clear n1_) | (go_at_call 9; (with_reducible refine (demesneref04_Find.calls 100 (x : Int) run _ _ HF2.out).mono ?_); rintro e w' ⟨rfl, hb⟩; have n1_ := Lib.hid (below_step HB.out hb); clear hb HB; have HB := n1_; clear n1_) | (go_at_call 10; (with_reducible refine (bitmap_Count.calls (x : Int) _ _ HCNT.out).mono ?_); rintro e w' ⟨rfl, hb⟩; have n1_ := Lib.hid (below_step HB.out hb.below); clear hb HB; have HB := n1_; clear n1_) | (go_at_call 11; (with_reducible refine (bitmap_All.calls blocks _ _ HA2.out).mono ?_); rintro e w' ⟨rfl, hb⟩; have n1_ := Lib.hid (below_step HB.out hb); clear hb HB; have HB := n1_; clear n1_) | (go_at_call 12; (with_reducible refine (demesneref04_All.calls blocks _ _ HA1.out).mono ?_); rintro e w' ⟨rfl, hb⟩; have n1_ := Lib.hid (below_step HB.out hb); clear hb HB; have HB := n1_; clear n1_) | (go_at_call 13; (with_reducible refine (demesnelaw04_wakes.calls true _ HWK.out).mono ?_); rintro e w' ⟨rfl, hb⟩; have n1_ := Lib.hid (below_step HB.out hb); clear hb HB; have HB := n1_; clear n1_))
            go_ret
            exact ⟨rfl, HB.out⟩
theorem bounds_ (a0 a1 a2 a3 : Int) (w0 : (Lit.int .u64 a0).wf = true) (w1 : (Lit.int .i64 a1).wf = true) (w2 : (Lit.int .i64 a2).wf = true) (w3 : (Lit.int .i64 a3).wf = true) : ∃ k : Nat, 0 ≤ a0 ∧ a0 < 18446744073709551616 := by
  have b := bounds_u64 w0
  exact ⟨0, by omega⟩
theorem walk_ (k : Nat) (a0 a1 a2 a3 : Int) (r : Bool) (W : World) (h : 0 ≤ a0 ∧ a0 < 18446744073709551616) :
    Calls Try.prog 3 #[.int .u64 a0, .int .i64 a1, .int .i64 a2, .int .i64 a3] W fun e w' => e = .returned (.bool true) ∧ Below W.heap.size W w' := by
  obtain ⟨x, rfl⟩ := Int.eq_ofNat_of_zero_le h.1
  exact tells_any x a1 a2 a3 W (by omega)
end Go.Proofs.Ytbmddfkmlhmbgaa.TellsWalk
