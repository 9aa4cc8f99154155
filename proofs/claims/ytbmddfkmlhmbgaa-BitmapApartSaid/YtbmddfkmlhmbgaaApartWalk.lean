/- Proved here: what BitmapApart answers, for any map and runs of bytes; no condition but those that each theorem writes out. -/
import Derived.Test.YtbmddfkmlhmbgaaPBitmapApartx1
import Derived.Test.YtbmddfkmlhmbgaaPop
import Derived.OpenShut
namespace Go.Proofs.Ytbmddfkmlhmbgaa.ApartWalk
open Go Go.RowKit Go.Proofs.Ytbmddfkmlhmbgaa Go.Proofs.Ytbmddfkmlhmbgaa.PBitmapApart Go.Proofs.YtbmddfkmlhmbgaaW.PrintWords Go.Proofs.YtbmddfkmlhmbgaaW.PrintLast Go.Proofs.YtbmddfkmlhmbgaaW.PrintMore
set_option linter.unusedVariables false
set_option linter.unusedSimpArgs false
theorem wk : demesnelaw04_wakes.f = some true := by decide +kernel
theorem ones_f (a : Int) : bits_OnesCount64.f a = some (Pop.ones a) := rfl
theorem count_f (x : Nat) (hx : x < 18446744073709551616) : bitmap_Count.f (x : Int) = some (Pop.cnt x 64 : Int) := by
  unfold bitmap_Count.f
  rw [ones_f, Option.bind_some, Pop.ones_eq x hx]
/-! ### runs, and who owns a block -/
def inL (L : List (Nat × Nat)) (j : Nat) : Bool := L.any fun p => decide (p.1 ≤ j) && decide (j < p.1 + p.2)
theorem inL_append (L M : List (Nat × Nat)) (j : Nat) : inL (L ++ M) j = (inL L j || inL M j) := List.any_append
theorem inL_one (b k j : Nat) : inL [(b, k)] j = (decide (b ≤ j) && decide (j < b + k)) := by simp [inL]
theorem inL_cons (p : Nat × Nat) (L : List (Nat × Nat)) (j : Nat) : inL (p :: L) j = ((decide (p.1 ≤ j) && decide (j < p.1 + p.2)) || inL L j) := rfl
theorem inL_true {L : List (Nat × Nat)} {j : Nat} (h : inL L j = true) : ∃ p ∈ L, p.1 ≤ j ∧ j < p.1 + p.2 := by
  unfold inL at h
  rw [List.any_eq_true] at h
  obtain ⟨p, hp, h⟩ := h
  rw [Bool.and_eq_true, decide_eq_true_eq, decide_eq_true_eq] at h
  exact ⟨p, hp, h⟩
structure Inv (w : Nat) (L : List (Nat × Nat)) (now : Nat) : Prop where
  lt : now < 18446744073709551616
  bit : ∀ j, j < 64 → now.testBit j = (w.testBit j && !inL L j)
  sub : ∀ j, inL L j = true → w.testBit j = true
  fit : ∀ p ∈ L, 1 ≤ p.2 ∧ p.2 ≤ 3 ∧ p.1 + p.2 ≤ 64
  apart : L.Pairwise fun p q => ∀ j, ¬ ((p.1 ≤ j ∧ j < p.1 + p.2) ∧ (q.1 ≤ j ∧ j < q.1 + q.2))
theorem Inv.nil (w : Nat) (h : w < 18446744073709551616) : Inv w [] w := ⟨h, fun j _ => by simp [inL], fun j h => (by cases h), fun p hp => absurd hp List.not_mem_nil, List.Pairwise.nil⟩
/-- What lies in a run that can be taken belongs to nobody. -/
theorem Inv.free {w now : Nat} {L : List (Nat × Nat)} (h : Inv w L now) {b k : Nat} (hbk : b + k ≤ 64) (hm : now &&& Hand.maskN b k = Hand.maskN b k) {j : Nat} (h1 : b ≤ j) (h2 : j < b + k) : inL L j = false ∧ w.testBit j = true := by
  have e := Pop.mask_sub now b k hm j h1 h2
  rw [h.bit j (by omega), Bool.and_eq_true] at e
  exact ⟨by simpa using e.2, e.1⟩
theorem Inv.snoc {w now : Nat} {L : List (Nat × Nat)} (h : Inv w L now) {b k : Nat} (h1 : 1 ≤ k) (h3 : k ≤ 3) (hbk : b + k ≤ 64) (hm : now &&& Hand.maskN b k = Hand.maskN b k) : Inv w (L ++ [(b, k)]) (Pop.takeN now b k) where
  lt := Pop.takeN_lt now b k h.lt
  bit := fun j hj => by
    rw [Pop.takeN_bit now b k j hbk hj, h.bit j hj, inL_append, inL_one]
    cases w.testBit j <;> cases inL L j <;> simp
  sub := fun j hj => by
    rw [inL_append, Bool.or_eq_true] at hj
    rcases hj with hj | hj
    · exact h.sub j hj
    · rw [inL_one, Bool.and_eq_true, decide_eq_true_eq, decide_eq_true_eq] at hj
      exact (h.free hbk hm hj.1 hj.2).2
  fit := fun p hp => by
    rcases List.mem_append.mp hp with hp | hp
    · exact h.fit p hp
    · rw [List.mem_singleton] at hp
      subst hp
      exact ⟨h1, h3, hbk⟩
  apart := by
    rw [List.pairwise_append]
    refine ⟨h.apart, List.pairwise_singleton _ _, fun p hp q hq j hj => ?_⟩
    rw [List.mem_singleton] at hq
    subst hq
    have e := (h.free hbk hm hj.2.1 hj.2.2).1
    have : inL L j = true := by
      unfold inL
      rw [List.any_eq_true]
      exact ⟨p, hp, by rw [Bool.and_eq_true, decide_eq_true_eq, decide_eq_true_eq]; exact hj.1⟩
    rw [this] at e
    cases e
/-- The map while the runs are given back: the runs from i on are still taken. -/
def Back (w : Nat) (L : List (Nat × Nat)) (i cur : Nat) : Prop := cur < 18446744073709551616 ∧ ∀ j, j < 64 → cur.testBit j = (w.testBit j && !inL (L.drop i) j)
theorem Back.start {w now : Nat} {L : List (Nat × Nat)} (h : Inv w L now) : Back w L 0 now := ⟨h.lt, fun j hj => by rw [List.drop_zero]; exact h.bit j hj⟩
theorem Back.step {w now : Nat} {L : List (Nat × Nat)} (h : Inv w L now) {i cur b k : Nat} (hb : Back w L i cur) (hi : i < L.length) (he : L[i] = (b, k)) : cur &&& Hand.maskN b k = 0 ∧ Back w L (i + 1) (cur ||| Hand.maskN b k) := by
  have hf := h.fit (b, k) (he ▸ List.getElem_mem hi)
  simp only at hf
  have hd : L.drop i = (b, k) :: L.drop (i + 1) := by rw [List.drop_eq_getElem_cons hi, he]
  have hap : ∀ j, b ≤ j → j < b + k → inL (L.drop (i + 1)) j = false := by
    intro j h1 h2
    rw [← Bool.not_eq_true]
    intro hin
    obtain ⟨q, hq, hq2⟩ := inL_true hin
    have hp := h.apart.sublist (List.drop_sublist i L)
    rw [hd, List.pairwise_cons] at hp
    exact hp.1 q hq j ⟨⟨h1, h2⟩, hq2⟩
  refine ⟨Pop.mask_none _ _ _ (fun j h1 h2 => ?_), ?_, fun j hj => ?_⟩
  · rw [hb.2 j (by omega), hd, inL_cons, decide_eq_true h1, decide_eq_true h2]
    simp
  · exact Nat.or_lt_two_pow (n := 64) hb.1 (Hand.maskN_lt b k hf.2.2)
  · rw [Nat.testBit_or, Hand.maskN_bit, hb.2 j hj, hd, inL_cons]
    by_cases c : b ≤ j ∧ j < b + k
    · have hs : w.testBit j = true := by
        refine h.sub j ?_
        unfold inL
        rw [List.any_eq_true]
        exact ⟨(b, k), he ▸ List.getElem_mem hi, by rw [Bool.and_eq_true, decide_eq_true_eq, decide_eq_true_eq]; exact c⟩
      rw [decide_eq_true c.1, decide_eq_true c.2, hap j c.1 c.2, hs]
      rfl
    · have hn : (decide (b ≤ j) && decide (j < b + k)) = false := by
        rw [← Bool.not_eq_true, Bool.and_eq_true, decide_eq_true_eq, decide_eq_true_eq]
        exact c
      simp only [hn, Bool.false_or, Bool.or_false]
theorem Back.done {w cur : Nat} {L : List (Nat × Nat)} (hw : w < 18446744073709551616) (h : Back w L L.length cur) : cur = w := by
  apply Nat.eq_of_testBit_eq
  intro j
  by_cases hj : j < 64
  · rw [h.2 j hj, List.drop_length]
    simp [inL]
  · rw [Pop.bit_high cur j h.1 (by omega), Pop.bit_high w j hw (by omega)]
/-- The owners' row. -/
def cellsI (l : List Int) : Array Value := (l.map (Value.int .i64)).toArray
theorem cellsI_at (l : List Int) (k : Nat) (h : k < l.length) : (cellsI l)[k]? = some (.int .i64 (l.getD k 0)) := by simp [cellsI, h]
def Ow (L : List (Nat × Nat)) (ow : List Int) : Prop := ow.length = 64 ∧ ∀ j, j < 64 → (ow.getD j 0 = 0 ↔ inL L j = false)
def withO (ow : List Int) (b m : Nat) (v : Int) : List Int := (List.range 64).map fun j => if b ≤ j ∧ j < b + m then v else ow.getD j 0
theorem withO_len (ow : List Int) (b m : Nat) (v : Int) : (withO ow b m v).length = 64 := by simp [withO]
theorem withO_get (ow : List Int) (b m : Nat) (v : Int) (j : Nat) (hj : j < 64) : (withO ow b m v).getD j 0 = if b ≤ j ∧ j < b + m then v else ow.getD j 0 := by
  simp [withO, hj]
theorem withO_zero (ow : List Int) (b : Nat) (v : Int) (h : ow.length = 64) : withO ow b 0 v = ow := by
  apply List.ext_getElem
  · rw [withO_len, h]
  · intro i h1 h2
    have e := withO_get ow b 0 v i (by omega)
    rw [if_neg (by omega)] at e
    rw [List.getD_eq_getElem?_getD, List.getD_eq_getElem?_getD, List.getElem?_eq_getElem h1, List.getElem?_eq_getElem h2] at e
    exact e
theorem withO_set (ow : List Int) (b m : Nat) (v : Int) : (cellsI (withO ow b m v)).setIfInBounds (b + m) (.int .i64 v) = cellsI (withO ow b (m + 1) v) := by
  unfold cellsI withO
  apply Array.ext'
  simp only [List.setIfInBounds_toArray]
  apply List.ext_getElem
  · simp
  · intro i h1 h2
    simp only [List.getElem_set, List.getElem_map, List.getElem_range]
    by_cases c : b + m = i
    · subst c
      rw [if_pos rfl, if_pos (show b ≤ b + m ∧ b + m < b + (m + 1) from by omega)]
    · rw [if_neg c]
      have e : (b ≤ i ∧ i < b + m) ↔ (b ≤ i ∧ i < b + (m + 1)) := by omega
      simp only [e]
theorem Ow.nil : Ow [] (List.replicate 64 0) := ⟨List.length_replicate, fun j hj => by
  rw [List.getD_eq_getElem?_getD, List.getElem?_replicate, if_pos hj]
  exact ⟨fun _ => rfl, fun _ => rfl⟩⟩
theorem Ow.snoc {L : List (Nat × Nat)} {ow : List Int} (h : Ow L ow) (b k : Nat) (v : Int) (hv : v ≠ 0) : Ow (L ++ [(b, k)]) (withO ow b k v) := by
  refine ⟨withO_len _ _ _ _, fun j hj => ?_⟩
  rw [withO_get _ _ _ _ _ hj, inL_append, inL_one]
  by_cases c : b ≤ j ∧ j < b + k
  · rw [if_pos c, decide_eq_true c.1, decide_eq_true c.2]
    simp [hv]
  · have hn : (decide (b ≤ j) && decide (j < b + k)) = false := by
      rw [← Bool.not_eq_true, Bool.and_eq_true, decide_eq_true_eq, decide_eq_true_eq]
      exact c
    rw [if_neg c, hn, Bool.or_false]
    exact h.2 j hj
/-! ### what is found, taken and given -/
theorem find_ok (x k : Nat) (hx : x < 18446744073709551616) (h1 : 1 ≤ k) (h3 : k ≤ 3) : ∃ r1 r2, bitmap_Find.f (x : Int) (k : Int) = some (r1, r2) ∧ (r2 = false ∨ r2 = true ∧ ∃ b : Nat, r1 = (b : Int) ∧ b + k ≤ 64 ∧ x &&& Hand.maskN b k = Hand.maskN b k) := by
  refine ⟨(findP (x : Int) (k : Int)).1, (findP (x : Int) (k : Int)).2, by unfold bitmap_Find.f; rw [if_pos (by omega)], ?_⟩
  unfold findP
  cases hf : (List.range 64).find? (fun i : Nat => Hand.isP (x : Int) (i : Int) (k : Int) true) with
  | none => exact .inl rfl
  | some b =>
    refine .inr ⟨rfl, b, rfl, ?_⟩
    have hp := List.find?_some hf
    by_cases c : (k : Int) < 1 ∨ (k : Int) > 3 ∨ (b : Int) < 0 ∨ (b : Int) > 63 ∨ (b : Int) + (k : Int) > 64
    · rw [isP_out _ _ _ _ c] at hp
      cases hp
    · have hbk : b + k ≤ 64 := by omega
      rw [isP_in x b k h1 h3 hbk, beq_iff_eq] at hp
      exact ⟨hbk, hp⟩
theorem take_ok (x b k : Nat) (hx : x < 18446744073709551616) (h1 : 1 ≤ k) (h3 : k ≤ 3) (hbk : b + k ≤ 64) (hm : x &&& Hand.maskN b k = Hand.maskN b k) : bitmap_Take.f (x : Int) (b : Int) (k : Int) = some ((Pop.takeN x b k : Int), true) := by
  unfold bitmap_Take.f
  rw [mask_in b k h1 h3 hbk, Option.bind_some, if_pos rfl, Hand.and_n x _ hx (Hand.maskN_lt b k hbk), if_pos (by rw [hm]), Hand.andNot_n x _ hx (Hand.maskN_lt b k hbk)]
  rfl
theorem give_ok (x b k : Nat) (hx : x < 18446744073709551616) (h1 : 1 ≤ k) (h3 : k ≤ 3) (hbk : b + k ≤ 64) (hm : x &&& Hand.maskN b k = 0) : bitmap_Give.f (x : Int) (b : Int) (k : Int) = some (((x ||| Hand.maskN b k : Nat) : Int), true) := by
  unfold bitmap_Give.f
  rw [mask_in b k h1 h3 hbk, Option.bind_some, if_pos rfl, Hand.and_n x _ hx (Hand.maskN_lt b k hbk), if_pos (by rw [hm]; rfl), Hand.or_n x _ hx (Hand.maskN_lt b k hbk)]
theorem row_at {w : World} {A0 : Option Addr} {l : List Int} (h : Kd.C (Kd.int .i64) w A0 l.length l) (i : Nat) (hi : i < l.length) : ∃ ad, A0 = some ad ∧ w.cell? (ad.add i) = some (.int .i64 (l.getD i 0)) := by
  obtain ⟨_, _, hc⟩ := Kd.reads_of_C (d := (0 : Int)) h
  obtain ⟨ad, e, hc⟩ := hc (by omega)
  exact ⟨ad, e, hc i hi⟩
theorem infoI64 : (Try.prog.info? 3).map (fun i => (i.zero, i.size, i.bytes)) = some (some (.int .i64 0), 1, 8) := by kernel_rfl
/-- The row of one's own that another row's growth leaves. -/
theorem two_rows {w w1 : World} {base g : Nat} {v u : Value} {xs ys : List Int} (h : Kd.R (Kd.int .i64) 3 w base (fun k => k ≠ g) v xs) (hu : Kd.R (Kd.int .i64) 3 w base (fun k => k ≠ g ∧ some k ≠ v.ownBlock) u ys) (hg : w.grownBy w1 u.ownBlock) :
    Kd.R (Kd.int .i64) 3 w1 base (fun k => k ≠ g) v xs := by
  have h2 : Kd.R (Kd.int .i64) 3 w base (fun k => k ≠ g ∧ some k ≠ u.ownBlock) v xs := Kd.R_of_own (Kd.own_of_R h) (fun k hk => ⟨h.1 k hk, fun he => (hu.1 k he.symm).2 hk.symm⟩)
  exact Kd.R_mono (Kd.R_grown h2 hg (fun k hk => hk.2)) (fun k hk => hk.1)
theorem elem_at {w : World} {A0 : Option Addr} {l : List Int} (h : Kd.C (Kd.int .u8) w A0 l.length l) (i : Nat) (hi : i < l.length) : ∃ ad, A0 = some ad ∧ w.cell? (ad.add i) = some (.int .u8 (l.getD i 0)) := by
  obtain ⟨_, _, hc⟩ := Kd.reads_of_C (d := (0 : Int)) h
  obtain ⟨ad, e, hc⟩ := hc (by omega)
  exact ⟨ad, e, hc i hi⟩
set_option maxRecDepth 100000 in
set_option maxHeartbeats 16000000 in
theorem apart_any (x : Nat) (A0 : Option Addr) (c0 : Nat) (l : List Int) (w : World) (hx : x < 18446744073709551616) (hr0 : Kd.C (Kd.int .u8) w A0 l.length l) (hc0 : l.length ≤ c0) (hu : ∀ n ∈ l, 0 ≤ n ∧ n ≤ 255) :
    Calls Try.prog 5 #[.int .u64 (x : Int), .slice A0 l.length c0] w fun e w' => e = .returned (.bool true) ∧ Below w.heap.size w w' := by
  have HX := Lib.hid hx
  have HR := Lib.hid hr0
  have HU := Lib.hid hu
  have HC0 := Lib.hid hc0
  have HWK := Lib.hid wk
  clear hx hr0 hu hc0
  by_cases c : (l.length : Int) > 40
  · have d1 : decide (40 < (l.length : Int)) = true := decide_eq_true c
    have d2 : decide (40 < l.length) = true := decide_eq_true (by omega)
    clear c
    go_enter Try.func5, Try.ntmps5
    go_wp2_with (first | (go_at_call 13; (with_reducible refine (demesnelaw04_wakes.calls true _ HWK.out).mono ?_); rintro e w' ⟨rfl, hb⟩))
    go_ret
    exact ⟨rfl, hb⟩
  have d1 : decide (40 < (l.length : Int)) = false := decide_eq_false c
  have d2 : decide (40 < l.length) = false := decide_eq_false (by omega)
  have HL : Hid (l.length ≤ 40) := Lib.hid (by omega)
  clear c
  go_enter Try.func5, Try.ntmps5
  go_wp2
  go_loopw [5, 6, 8, 9] (fun v5 v6 v8 v9 wr => ∃ (i now : Nat) (L : List (Nat × Nat)) (ow : List Int), i ≤ l.length ∧ v8 = .int .u64 now ∧ v9 = .int .i64 i ∧ Hid (L.length ≤ i) ∧ Hid (Inv x L now) ∧ Hid (Ow L ow) ∧ Hid (wr.heap[w.heap.size]? = some (.cells (cellsI ow) 40 (0, 0))) ∧ Hid (Kd.R (Kd.int .i64) 3 wr w.heap.size (fun k => k ≠ w.heap.size) v5 (L.map fun p => (p.1 : Int))) ∧ Hid (Kd.R (Kd.int .i64) 3 wr w.heap.size (fun k => k ≠ w.heap.size ∧ some k ≠ v5.ownBlock) v6 (L.map fun p => (p.2 : Int))) ∧ Hid (Below w.heap.size w wr)) (fun _ _ _ v9 _ => l.length - (intOf v9).toNat)
  case atStart =>
    exact ⟨0, x, [], List.replicate 64 0, Nat.zero_le _, rfl, rfl, Lib.hid (Nat.le_refl _), Lib.hid (Inv.nil x HX.out), Lib.hid Ow.nil, Lib.hid (heap_alloc_new _ _), Lib.hid (Kd.R_nil _ _ _ _ _), Lib.hid (Kd.R_nil _ _ _ _ _), Lib.hid (below_alloc (Below.refl _ _) _)⟩
  case round =>
    obtain ⟨i, now, L, ow, hi, rfl, rfl, HLL, HI, HO, HC, HA, HN, HB⟩ := hrel
    by_cases hlt : i < l.length
    · obtain ⟨ad, e0, hcell⟩ := elem_at HR.out i hlt
      cases e0
      replace hcell := (HB.out.cell (World.block_lt_of_cell? _ _ hcell)).trans hcell
      have hur := HU.out (l.getD i 0) (by rw [List.getD_eq_getElem?_getD, List.getElem?_eq_getElem hlt]; exact List.getElem_mem hlt)
      generalize l.getD i 0 = u at hcell hur
      obtain ⟨k, hk⟩ : ∃ k : Nat, (k : Int) = 1 + Int.tmod u 3 := ⟨(1 + u % 3).toNat, by rw [Int.tmod_eq_emod_of_nonneg hur.1]; omega⟩
      have hk3 : 1 ≤ k ∧ k ≤ 3 := by rw [Int.tmod_eq_emod_of_nonneg hur.1] at hk; omega
      have HK := Lib.hid hk3
      have hwu : IntKind.i64.wrap u = u := by rw [IntKind.wrap_i64]; omega
      have hwu2 : wrap64 u = u := by unfold wrap64; omega
      have hwt : wrap64 (Int.tmod u 3) = Int.tmod u 3 := by rw [Int.tmod_eq_emod_of_nonneg hur.1]; unfold wrap64; omega
      have hwk : wrap64 (1 + Int.tmod u 3) = (k : Int) := by rw [← hk]; unfold wrap64; omega
      clear hk hk3 hur
      have p1 : (0:Int) ≤ (i : Int) := by omega
      have q1 : (i : Int) < (l.length : Int) := by omega
      have hdi : decide ((i : Int) < (l.length : Int)) = true := decide_eq_true q1
      have q2 : (i < l.length) = True := eq_true hlt
      replace p1 := eq_true p1
      replace q1 := eq_true q1
      have HLT := Lib.hid hlt
      clear hlt hi
      go_wp2_with fail
      obtain ⟨r1, r2, hf, hcase⟩ := find_ok now k HI.out.lt HK.out.1 HK.out.2
      refine (bitmap_Find.calls _ _ _ _ _ hf).mono ?_
      clear hf hcell
      rintro e w1 ⟨rfl, hb⟩
      have HC1 := Lib.hid (blk_below HC.out hb)
      have HA1 := Lib.hid (Kd.R_below HA.out hb)
      have HN1 := Lib.hid (Kd.R_below HN.out hb)
      have HB1 := Lib.hid (below_step HB.out hb)
      clear hb HC HA HN HB
      have hw1 : wrap64 ((i : Int) + 1) = ((i + 1 : Nat) : Int) := by have := HLT.out; have := HL.out; unfold wrap64; omega
      rcases hcase with rfl | ⟨rfl, b, rfl, hbk, hm⟩
      · go_wp2
        refine ⟨⟨i + 1, now, L, ow, HLT.out, rfl, congrArg (Value.int .i64) hw1, Lib.hid (Nat.le_succ_of_le HLL.out), HI, HO, HC1, HA1, HN1, HB1⟩, ?_⟩
        rw [hw1]
        have := HLT.out
        simp only [intOf, Int.toNat_natCast]
        omega
      · have HBK := Lib.hid hbk
        have HM := Lib.hid hm
        clear hbk hm
        have hwbk : wrap64 ((b : Int) + (k : Int)) = (b : Int) + (k : Int) := by have := HBK.out; unfold wrap64; omega
        have hd1 : decide ((b : Int) < 0) = false := decide_eq_false (by omega)
        have hd2 : decide (64 < (b : Int) + (k : Int)) = false := decide_eq_false (by have := HBK.out; omega)
        have HT := Lib.hid (take_ok now b k HI.out.lt HK.out.1 HK.out.2 HBK.out HM.out)
        have HI2 := Lib.hid (HI.out.snoc HK.out.1 HK.out.2 HBK.out HM.out)
        have hq := Pop.cnt_taken now b k HBK.out HM.out
        have hq2 := Pop.cnt_le now 64
        have HCT := Lib.hid (count_f _ HI2.out.lt)
        have HCN := Lib.hid (count_f now HI.out.lt)
        generalize Pop.cnt (Pop.takeN now b k) 64 = n1 at HCT hq
        generalize Pop.cnt now 64 = n0 at HCN hq hq2
        have hcnt : wrap64 ((n0 : Int) - (k : Int)) = (n1 : Int) := by
          have := HK.out.2
          unfold wrap64
          omega
        clear hq hq2
        generalize Pop.takeN now b k = nx at HT HI2 HCT
        go_wp2_with (first | (go_at_call 14; (with_reducible refine (bitmap_Take.calls (now : Int) (b : Int) (k : Int) _ _ _ HT.out).mono ?_); rintro e w2 ⟨rfl, hb⟩; have n1_ := Lib.hid (blk_below HC1.out hb); have n2_ := Lib.hid (Kd.R_below HA1.out hb); have n3_ := Lib.hid (Kd.R_below HN1.out hb); have n4_ := Lib.hid (below_step HB1.out hb); clear hb HC1 HA1 HN1 HB1; have HC1 := n1_; have HA1 := n2_; have HN1 := n3_; have HB1 := n4_; clear n1_ n2_ n3_ n4_) | (go_at_call 10; (first | (with_reducible refine (bitmap_Count.calls (nx : Int) _ _ HCT.out).mono ?_) | (with_reducible refine (bitmap_Count.calls (now : Int) _ _ HCN.out).mono ?_)); rintro e w2 ⟨rfl, hb⟩; have n1_ := Lib.hid (blk_below HC1.out hb.below); have n2_ := Lib.hid (Kd.R_below HA1.out hb.below); have n3_ := Lib.hid (Kd.R_below HN1.out hb.below); have n4_ := Lib.hid (below_step HB1.out hb.below); clear hb HC1 HA1 HN1 HB1; have HC1 := n1_; have HA1 := n2_; have HN1 := n3_; have HB1 := n4_; clear n1_ n2_ n3_ n4_))
        go_loopw [15] (fun v15 wr2 => ∃ (m : Nat), m ≤ k ∧ v15 = .int .i64 ((b : Int) + (m : Int)) ∧ Hid (wr2.heap[w.heap.size]? = some (.cells (cellsI (withO ow b m ((i : Int) + 1))) 40 (0, 0))) ∧ Hid (Kd.R (Kd.int .i64) 3 wr2 w.heap.size (fun k => k ≠ w.heap.size) u5 (L.map fun p => (p.1 : Int))) ∧ Hid (Kd.R (Kd.int .i64) 3 wr2 w.heap.size (fun k => k ≠ w.heap.size ∧ some k ≠ u5.ownBlock) u6 (L.map fun p => (p.2 : Int))) ∧ Hid (Below w.heap.size w wr2)) (fun v15 _ => b + k - (intOf v15).toNat)
        case atStart =>
          refine ⟨0, Nat.zero_le _, by simp, Lib.hid ?_, HA1, HN1, HB1⟩
          rw [withO_zero _ _ _ HO.out.1]
          exact HC1.out
        case round =>
          clear HC1 HA1 HN1 HB1
          obtain ⟨m, hmk, rfl, HC1, HA1, HN1, HB1⟩ := hrel
          by_cases hlt : m < k
          · have hfr := HI.out.free HBK.out HM.out (j := b + m) (by omega) (by omega)
            have hown := (HO.out.2 (b + m) (by have := HBK.out; omega)).mpr hfr.1
            have hval : (withO ow b m ((i : Int) + 1)).getD (b + m) 0 = 0 := by rw [withO_get _ _ _ _ _ (by have := HBK.out; omega), if_neg (by omega)]; exact hown
            have hc : wr.cell? ⟨w.heap.size, b + m, none⟩ = some (.int .i64 0) := by
              refine ((cell_of_row _ _ _ _ _ _ HC1.out).trans (cellsI_at _ _ (by rw [withO_len]; have := HBK.out; omega))).trans ?_
              rw [hval]
            have hf : wr.frozen? ⟨w.heap.size, b + m, none⟩ = false := frozen_of_row _ _ _ _ _ HC1.out
            have hbit := Pop.bit_n x (b + m) HX.out (by have := HBK.out; omega)
            rw [hfr.2, Pop.shr_n x (b + m) (by have := HBK.out; omega)] at hbit
            have hbit2 : (bits .and .u64 ((x : Int) / 2 ^ (b + m)) 1 == 0) = false := by
              rw [show ((x : Int) / 2 ^ (b + m)) = ((x / 2 ^ (b + m) : Nat) : Int) from by simp, hbit]
              rfl
            clear hbit
            have hj1 : (b : Int) + (m : Int) < (b : Int) + (k : Int) := by omega
            have hj2 : decide ((b : Int) + (m : Int) < (b : Int) + (k : Int)) = true := decide_eq_true hj1
            have hj3 : decide ((m : Int) < (k : Int)) = true := decide_eq_true (by omega)
            have hj4 : (b : Int) + (m : Int) < 64 := by have := HBK.out; omega
            have hj5 : (0 : Int) ≤ (b : Int) + (m : Int) := by omega
            have HMK := Lib.hid hlt
            clear hown hval hfr hmk hlt
            go_wp2
            refine ⟨⟨m + 1, HMK.out, congrArg (Value.int .i64) (by omega), Lib.hid (by rw [heap_setCell_same _ _ _ _ _ _ HC1.out, withO_set]), Lib.hid (Kd.R_far (p := ⟨w.heap.size, b + m, none⟩) HA1.out (fun k hk => hk) _), Lib.hid (Kd.R_far (p := ⟨w.heap.size, b + m, none⟩) HN1.out (fun k hk => hk.1) _), Lib.hid (HB1.out.setCell (Nat.le_refl _) _)⟩, ?_⟩
            have := HMK.out
            simp only [intOf]
            omega
          · obtain rfl : m = k := by omega
            clear hlt hmk
            have hj2 : decide ((b : Int) + (m : Int) < (b : Int) + (m : Int)) = false := decide_eq_false (by omega)
            have hgl : w.heap.size < wr.heap.size := blk_lt HC1.out
            go_wp2_with (first | ((with_reducible refine gate_builtin (b := .append) (xs := #[.tmp 96, .tmp 98]) rfl ?_); at_builtin; refine Kd.R_append (Kd.int .i64) (w0 := w) w.heap.size rfl (.tmp 96) (.tmp 98) 39 3 (.int .i64 0) 8 rfl Try.underlying39 infoI64 rfl (by decide) (by decide) u5 (L.map fun p => (p.1 : Int)) (b : Int) [.int .i64 (b : Int)] (fun k => k ≠ w.heap.size) (fun _ => False) rfl rfl ?aP (fun _ hk => hk.elim) ?aF HA1.out HB1.out (below_size HB1.out) ?aL ?_; (case aP => exact (show Kd.M (Kd.int .i64) _ _ _ (b : Int) [.int .i64 (b : Int)] from rfl)); (case aF => exact fun k hk => by omega); (case aL => have := HLL.out; have := HLT.out; have := HL.out; rw [List.length_map]; omega); intro v5 w3 ho hb hg hat; have n1_ := Lib.hid (blk_grown HC1.out hg (Kd.R_away HA1.out (fun _ hk => hk))); have n3_ := Lib.hid (Kd.R_after HN1.out hg hat); clear HC1 HA1 HN1 HB1 hgl; have HC1 := n1_; have HA1 := Lib.hid ho; have HN1 := n3_; have HB1 := Lib.hid hb; clear n1_ n3_ ho hb hg hat) | ((with_reducible refine gate_builtin (b := .append) (xs := #[.tmp 100, .tmp 102]) rfl ?_); at_builtin; refine Kd.R_append (Kd.int .i64) (w0 := w) w.heap.size rfl (.tmp 100) (.tmp 102) 39 3 (.int .i64 0) 8 rfl Try.underlying39 infoI64 rfl (by decide) (by decide) u6 (L.map fun p => (p.2 : Int)) (m : Int) [.int .i64 (m : Int)] (fun k => k ≠ w.heap.size ∧ some k ≠ v5.ownBlock) (fun _ => False) rfl rfl ?bP (fun _ hk => hk.elim) ?bF HN1.out HB1.out (below_size HB1.out) ?bL ?_; (case bP => exact (show Kd.M (Kd.int .i64) _ _ _ (m : Int) [.int .i64 (m : Int)] from rfl)); (case bF => exact fun k hk => ⟨by have := blk_lt HC1.out; omega, fun he => by have := Kd.R_lt HA1.out k he.symm; omega⟩); (case bL => have := HLL.out; have := HLT.out; have := HL.out; rw [List.length_map]; omega); intro v6 w4 ho hb hg hat; have n1_ := Lib.hid (blk_grown HC1.out hg (Kd.R_away HN1.out (fun _ hk => hk.1))); have n2_ := Lib.hid (two_rows HA1.out HN1.out hg); clear HC1 HA1 HN1 HB1; have HC1 := n1_; have HA1 := n2_; have HN1 := Lib.hid ho; have HB1 := Lib.hid hb; clear n1_ n2_ ho hb hg hat))
            refine ⟨⟨i + 1, nx, L ++ [(b, m)], withO ow b m ((i : Int) + 1), HLT.out, rfl, congrArg (Value.int .i64) hw1, Lib.hid (by rw [List.length_append]; exact Nat.succ_le_succ HLL.out), HI2, Lib.hid (HO.out.snoc b m _ (by omega)), HC1, Lib.hid (by rw [List.map_append]; exact HA1.out), Lib.hid (by rw [List.map_append]; exact HN1.out), HB1⟩, ?_⟩
            have := HLT.out
            rw [hw1]
            simp only [intOf, Int.toNat_natCast]
            omega
    · obtain rfl : i = l.length := by omega
      clear hlt hi
      have HOWN := HO
      clear HO HC
      obtain ⟨A5, c5, e5⟩ := Kd.R_slice HA.out
      obtain ⟨A6, c6, e6⟩ := Kd.R_slice HN.out
      rw [List.length_map] at e5 e6
      subst e5
      subst e6
      go_wp2
      go_loopw [8, 16] (fun v8 v16 wr2 => ∃ (i2 cur : Nat), i2 ≤ L.length ∧ v8 = .int .u64 cur ∧ v16 = .int .i64 i2 ∧ Hid (Back x L i2 cur) ∧ Hid (Kd.R (Kd.int .i64) 3 wr2 w.heap.size (fun k => k ≠ w.heap.size) (.slice A5 L.length c5) (L.map fun p => (p.1 : Int))) ∧ Hid (Kd.R (Kd.int .i64) 3 wr2 w.heap.size (fun k => k ≠ w.heap.size ∧ some k ≠ (Value.slice A5 L.length c5).ownBlock) (.slice A6 L.length c6) (L.map fun p => (p.2 : Int))) ∧ Hid (Below w.heap.size w wr2)) (fun _ v16 _ => L.length - (intOf v16).toNat)
      case atStart => exact ⟨0, now, Nat.zero_le _, rfl, rfl, Lib.hid (Back.start HI.out), HA, HN, HB⟩
      case round =>
        clear HA HN HB
        obtain ⟨i, cur, hi, rfl, rfl, HBK, HA, HN, HB⟩ := hrel
        by_cases hlt : i < L.length
        · obtain ⟨ad5, f5, hc5⟩ := row_at (Kd.R_reads' HA.out).2.2 i (by rw [List.length_map]; exact hlt)
          obtain ⟨ad6, f6, hc6⟩ := row_at (Kd.R_reads' HN.out).2.2 i (by rw [List.length_map]; exact hlt)
          cases f5
          cases f6
          obtain ⟨b, k, hbk⟩ : ∃ b k, L[i] = (b, k) := ⟨_, _, rfl⟩
          have g5 : (L.map fun p => (p.1 : Int)).getD i 0 = (b : Int) := by simp [hlt, hbk]
          have g6 : (L.map fun p => (p.2 : Int)).getD i 0 = (k : Int) := by simp [hlt, hbk]
          rw [g5] at hc5
          rw [g6] at hc6
          obtain ⟨hz, hst⟩ := HBK.out.step HI.out hlt hbk
          have hfit := HI.out.fit (b, k) (hbk ▸ List.getElem_mem hlt)
          have HG := Lib.hid (give_ok cur b k HBK.out.1 hfit.1 hfit.2.1 hfit.2.2 hz)
          have HST := Lib.hid hst
          generalize cur ||| Hand.maskN b k = nx at HG HST
          have p1 : (0:Int) ≤ (i : Int) := by omega
          have q1 : (i : Int) < (L.length : Int) := by omega
          have hdi : decide ((i : Int) < (L.length : Int)) = true := decide_eq_true q1
          have q2 : (i < L.length) = True := eq_true hlt
          replace p1 := eq_true p1
          replace q1 := eq_true q1
          have HLT := Lib.hid hlt
          have hw1 : wrap64 ((i : Int) + 1) = ((i + 1 : Nat) : Int) := by have := HLT.out; have := HLL.out; have := HL.out; unfold wrap64; omega
          clear g5 g6 hz hst hfit hbk hlt hi
          go_wp2
          refine start_ (n := 15) (S := fun w' => w'.cell? (ad5.add i) = some (.int .i64 (b : Int)) ∧ w'.cell? (ad6.add i) = some (.int .i64 (k : Int))) (ds := []) #[false, false, false, false, false, false, false, false, false, false, false, false, false, false, false] (by kernel_rfl) rfl rfl ⟨hc5, hc6⟩ (fun hHeld => ?_)
          refine pure_ (i := 0) (N := some 112) (v := ?_) (a' := ?_) #[true, false, false, false, false, false, false, false, false, false, false, false, false, false, false] rfl rfl (by kernel_rfl) (fun _ _ _ h => h) (Or.inl ⟨by rfl, ?_⟩) ?_ ?_
          rotate_left
          · intro w'
            go_simp
            with_reducible rfl
          rotate_left
          · simp only [Act.put, List.setIfInBounds_toArray, List.set_cons_zero, List.set_cons_succ, i64_w, i32_w]
            rfl
          refine pure_ (i := 1) (N := some 113) (v := ?_) (a' := ?_) #[true, true, false, false, false, false, false, false, false, false, false, false, false, false, false] rfl rfl (by kernel_rfl) (fun _ _ _ h => h) (Or.inl ⟨by rfl, ?_⟩) ?_ ?_
          rotate_left
          · intro w'
            go_simp
            with_reducible rfl
          rotate_left
          · simp only [Act.put, List.setIfInBounds_toArray, List.set_cons_zero, List.set_cons_succ, i64_w, i32_w]
            rfl
          refine pure_ (i := 2) (N := some 114) (v := ?_) (a' := ?_) #[true, true, true, false, false, false, false, false, false, false, false, false, false, false, false] rfl rfl (by kernel_rfl) (fun _ _ _ h => h) (Or.inl ⟨by rfl, ?_⟩) ?_ ?_
          rotate_left
          · intro w'
            go_simp
            with_reducible rfl
          rotate_left
          · simp only [Act.put, List.setIfInBounds_toArray, List.set_cons_zero, List.set_cons_succ, i64_w, i32_w]
            rfl
          refine pure_ (i := 3) (N := some 115) (v := ?_) (a' := ?_) #[true, true, true, true, false, false, false, false, false, false, false, false, false, false, false] rfl rfl (by kernel_rfl) (fun _ _ _ h => h) (Or.inl ⟨by rfl, ?_⟩) ?_ ?_
          rotate_left
          · intro w'
            go_simp
            with_reducible rfl
          rotate_left
          · simp only [Act.put, List.setIfInBounds_toArray, List.set_cons_zero, List.set_cons_succ, i64_w, i32_w]
            rfl
          refine pure_ (i := 5) (N := some 117) (v := ?_) (a' := ?_) #[true, true, true, true, false, true, false, false, false, false, false, false, false, false, false] rfl rfl (by kernel_rfl) (fun _ _ _ h => h) (Or.inl ⟨by rfl, ?_⟩) ?_ ?_
          rotate_left
          · intro w'
            go_simp
            with_reducible rfl
          rotate_left
          · simp only [Act.put, List.setIfInBounds_toArray, List.set_cons_zero, List.set_cons_succ, i64_w, i32_w]
            rfl
          refine pure_ (i := 6) (N := some 118) (v := ?_) (a' := ?_) #[true, true, true, true, false, true, true, false, false, false, false, false, false, false, false] rfl rfl (by kernel_rfl) (fun _ _ _ h => h) (Or.inl ⟨by rfl, ?_⟩) ?_ ?_
          rotate_left
          · intro w'
            go_simp
            with_reducible rfl
          rotate_left
          · simp only [Act.put, List.setIfInBounds_toArray, List.set_cons_zero, List.set_cons_succ, i64_w, i32_w]
            rfl
          refine pure_ (i := 7) (N := some 119) (v := ?_) (a' := ?_) #[true, true, true, true, false, true, true, true, false, false, false, false, false, false, false] rfl rfl (by kernel_rfl) (fun _ _ _ h => h) (Or.inl ⟨by rfl, ?_⟩) ?_ ?_
          rotate_left
          · intro w'
            go_simp
            with_reducible rfl
          rotate_left
          · simp only [Act.put, List.setIfInBounds_toArray, List.set_cons_zero, List.set_cons_succ, i64_w, i32_w]
            rfl
          refine take_ (i := 4) (N := some 116) (v := ?_) (a' := ?_) #[true, true, true, true, true, true, true, true, false, false, false, false, false, false, false] rfl rfl (by kernel_rfl) (fun _ _ _ h => h) (Or.inl ⟨by rfl, ?_⟩) hHeld ?_ ?_
          rotate_left
          · rintro w' ⟨hc5, hc6⟩
            go_simp
            with_reducible rfl
          rotate_left
          · simp only [Act.put, List.setIfInBounds_toArray, List.set_cons_zero, List.set_cons_succ, i64_w, i32_w]
            rfl
          refine take_ (i := 8) (N := some 120) (v := ?_) (a' := ?_) #[true, true, true, true, true, true, true, true, true, false, false, false, false, false, false] rfl rfl (by kernel_rfl) (fun _ _ _ h => h) (Or.inl ⟨by rfl, ?_⟩) hHeld ?_ ?_
          rotate_left
          · rintro w' ⟨hc5, hc6⟩
            go_simp
            with_reducible rfl
          rotate_left
          · simp only [Act.put, List.setIfInBounds_toArray, List.set_cons_zero, List.set_cons_succ, i64_w, i32_w]
            rfl
          refine one_ (i := 9) (N := some 121) #[true, true, true, true, true, true, true, true, true, true, false, false, false, false, false] rfl rfl (by kernel_rfl) (by decide) (fun K hK => ?_)
          refine goes_ Try.func15 (by kernel_rfl) rfl #[.int .u64 (cur : Int), .int .i64 (b : Int), .int .i64 (k : Int)] (by rfl) rfl rfl (by (try simp only [List.map_toArray, List.map_cons, List.map_nil]); first | done | rfl) ?_
          refine (bitmap_Give.calls (cur : Int) (b : Int) (k : Int) _ _ _ HG.out).mono ?_
          rintro e w2 ⟨rfl, hb⟩
          refine ⟨_, rfl, ?_⟩
          have hS2 : w2.cell? (ad5.add i) = some (.int .i64 (b : Int)) ∧ w2.cell? (ad6.add i) = some (.int .i64 (k : Int)) := ⟨(hb.cell (World.block_lt_of_cell? _ _ hHeld.1)).trans hHeld.1, (hb.cell (World.block_lt_of_cell? _ _ hHeld.2)).trans hHeld.2⟩
          have HA2 := Lib.hid (Kd.R_below (Kd.R_drew HA.out) hb)
          have HN2 := Lib.hid (Kd.R_below (Kd.R_drew HN.out) hb)
          have HB2 := Lib.hid (below_step (below_drew1 HB.out) hb)
          clear hb hc5 hc6
          refine hK.out _ _ hS2 (fun hHeld => ?_)
          clear hK K
          refine norm_ (a' := ?_) ?_ ?_
          rotate_left
          · show Act.put _ (some 121) _ = _
            simp only [Act.put, List.setIfInBounds_toArray, List.set_cons_zero, List.set_cons_succ, i64_w, i32_w]
            rfl
          refine pure_ (i := 10) (N := some 111) (v := ?_) (a' := ?_) #[true, true, true, true, true, true, true, true, true, true, true, false, false, false, false] rfl rfl (by kernel_rfl) (fun _ _ _ h => h) (Or.inl ⟨by rfl, ?_⟩) ?_ ?_
          rotate_left
          · intro w'
            go_simp
            with_reducible rfl
          rotate_left
          · simp only [Act.put, List.setIfInBounds_toArray, List.set_cons_zero, List.set_cons_succ, i64_w, i32_w]
            rfl
          refine pure_ (i := 11) (N := some 122) (v := ?_) (a' := ?_) #[true, true, true, true, true, true, true, true, true, true, true, true, false, false, false] rfl rfl (by kernel_rfl) (fun _ _ _ h => h) (Or.inl ⟨by rfl, ?_⟩) ?_ ?_
          rotate_left
          · intro w'
            go_simp
            with_reducible rfl
          rotate_left
          · simp only [Act.put, List.setIfInBounds_toArray, List.set_cons_zero, List.set_cons_succ, i64_w, i32_w]
            rfl
          refine pure_ (i := 12) (N := some 123) (v := ?_) (a' := ?_) #[true, true, true, true, true, true, true, true, true, true, true, true, true, false, false] rfl rfl (by kernel_rfl) (fun _ _ _ h => h) (Or.inl ⟨by rfl, ?_⟩) ?_ ?_
          rotate_left
          · intro w'
            go_simp
            with_reducible rfl
          rotate_left
          · simp only [Act.put, List.setIfInBounds_toArray, List.set_cons_zero, List.set_cons_succ, i64_w, i32_w]
            rfl
          refine pure_ (i := 13) (N := some 17) (v := ?_) (a' := ?_) #[true, true, true, true, true, true, true, true, true, true, true, true, true, true, false] rfl rfl (by kernel_rfl) (fun _ _ _ h => h) (Or.inl ⟨by rfl, ?_⟩) ?_ ?_
          rotate_left
          · intro w'
            go_simp
            with_reducible rfl
          rotate_left
          · simp only [Act.put, List.setIfInBounds_toArray, List.set_cons_zero, List.set_cons_succ, i64_w, i32_w]
            rfl
          refine pure_ (i := 14) (N := some 18) (v := ?_) (a' := ?_) #[true, true, true, true, true, true, true, true, true, true, true, true, true, true, true] rfl rfl (by kernel_rfl) (fun _ _ _ h => h) (Or.inl ⟨by rfl, ?_⟩) ?_ ?_
          rotate_left
          · intro w'
            go_simp
            with_reducible rfl
          rotate_left
          · simp only [Act.put, List.setIfInBounds_toArray, List.set_cons_zero, List.set_cons_succ, i64_w, i32_w]
            rfl
          refine done_ (by kernel_rfl) ?_
          go_wp2
          refine ⟨⟨i + 1, nx, HLT.out, rfl, congrArg (Value.int .i64) hw1, HST, HA2, HN2, HB2⟩, ?_⟩
          have := HLT.out
          rw [hw1]
          simp only [intOf, Int.toNat_natCast]
          omega
        · obtain rfl : i = L.length := by omega
          clear hlt hi
          obtain rfl : cur = x := Back.done HX.out HBK.out
          go_wp2_with (first | (go_at_call 13; (with_reducible refine (demesnelaw04_wakes.calls true _ HWK.out).mono ?_); rintro e w' ⟨rfl, hb⟩))
          go_ret
          exact ⟨rfl, below_step HB.out hb⟩
def Rows8 (w : World) (a : Option Addr) (len cap : Nat) (zs : List Int) : Prop :=
  (a = none ∧ len = 0 ∧ cap = 0 ∧ zs = []) ∨ ∃ x, a = some x ∧ len ≤ cap ∧ cap ≤ maxLen ∧ zs.length = cap ∧ (∀ i, i < zs.length → w.cell? (x.add i) = some (.int .u8 (zs.getD i 0))) ∧ ∀ n ∈ zs, (Lit.int .u8 n).wf = true
theorem walk_ (a0 : Int) (a1 : Option Addr) (len1 cap1 : Nat) (z1 : List Int) (W : World) (w0 : (Lit.int .u64 a0).wf = true) (w1 : Rows8 W a1 len1 cap1 z1) :
    Calls Try.prog 5 #[.int .u64 a0, .slice a1 len1 cap1] W fun e w' => e = .returned (.bool true) ∧ Below W.heap.size W w' := by
  have b := bounds_u64 w0
  obtain ⟨x, rfl⟩ := Int.eq_ofNat_of_zero_le b.1
  obtain ⟨l1, rfl, hr1, hm1, hw1, hc1⟩ := ReadsInt.ofRowC w1
  exact apart_any x a1 cap1 l1 W (by omega) (Kd.C_of_reads (d := (0 : Int)) (h1 := fun _ => rfl) hr1) hc1 (fun n hn => by have := bounds_u8 (hw1 n hn); omega)
end Go.Proofs.Ytbmddfkmlhmbgaa.ApartWalk
