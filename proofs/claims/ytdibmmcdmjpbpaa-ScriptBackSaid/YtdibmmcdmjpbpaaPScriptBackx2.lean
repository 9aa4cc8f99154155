/- Proved here: of Go functions of this seat, what each call answers, as a Lean function of the same answers ('.f', '.calls'), or (the text Law..) the statement itself out of the text Pure..; no condition but those that each theorem writes out. Laid by a program of this session over the kit's print; by hand: demesne/script.Args, (demesne/script.Entry).May, demesne/script.Encode, demesne/script.Decode. -/
import Derived.Test.YtdibmmcdmjpbpaaPScriptBackx0
import Derived.Test.YtdibmmcdmjpbpaaPScriptBackx1
namespace Go.Proofs.Ytdibmmcdmjpbpaa.PScriptBack
open Go.RowKit Go.Proofs.YtdibmmcdmjpbpaaW.PrintWords Go.Proofs.YtdibmmcdmjpbpaaW.PrintLast Go.Proofs.YtdibmmcdmjpbpaaW.PrintMore
attribute [local go_sem] max2_int min2_int max_two min_two max_three min_three max_four min_four   -- for this text's walks alone
set_option linter.unusedVariables false
set_option linter.unusedSimpArgs false

attribute [local go_sem high] eqA28
/-! ### script_Args: function 12 (by hand) -/
def script_Args.f (a0 : Int) : Option (Int) := some (Hand.argsp a0)
theorem script_Args.calls (a0 : Int) (r : Int) (w : World) (h : script_Args.f a0 = some r) :
    Calls Try.prog 12 #[.int .u8 a0] w fun e w' => e = .returned (.int .i64 r) ∧ Drawn0 w w' := by
  obtain rfl := Option.some.inj h
  refine (Hand.args_any a0 w).mono ?_
  rintro e w' ⟨rfl, rfl⟩
  exact ⟨rfl, Drawn0.refl _⟩

/-! ### script_Entry_May: function 8 (by hand) -/
def script_Entry_May.f (a0_0 : Int) (a0_1 : Int) (a0_2 : Int) (a0_3 : Int) (a0_4 : Int) : Option (Bool) := some (Hand.mayp a0_0 a0_1 a0_2 a0_3 a0_4)
theorem script_Entry_May.calls (a0_0 : Int) (a0_1 : Int) (a0_2 : Int) (a0_3 : Int) (a0_4 : Int) (r : Bool) (w : World) (h : script_Entry_May.f a0_0 a0_1 a0_2 a0_3 a0_4 = some r) :
    Calls Try.prog 8 #[.agg #[.int .u8 a0_0, .int .u8 a0_1, .int .u8 a0_2, .int .u8 a0_3, .int .u8 a0_4]] w fun e w' => e = .returned (.bool r) ∧ Below w.heap.size w w' := by
  obtain rfl := Option.some.inj h
  exact Hand.may_any _ _ _ _ _ w

/-! ### script_Encode: function 11 (by hand) -/
def ofS28 (e : S28) : Hand.I5 := (e.f0, e.f1.f0, e.f1.f1, e.f1.f2, e.f1.f3)
def script_Encode.f (l0 : List (S28)) : Option (ByteArray × Int) := if l0.length < 1000000 then some (Hand.encR (l0.map ofS28)) else none
theorem infoU8 : (Try.prog.info? 5).map (fun i => (i.zero, i.size, i.bytes)) = some (some (.int .u8 0), 1, 1) := by kernel_rfl
theorem C_head (W : World) (g : Nat) (vs : List Int) (t : TypeId) (m : Nat) (h : W.heap[g]? = some (.cells (vs.map (Value.int .u8)).toArray t (0, 0))) (hm : m ≤ vs.length) (hx : vs.length ≤ 9223372036854775807) :
    (Kd.int .u8).C W (some ⟨g, 0, none⟩) m (vs.take m) := by
  refine Kd.C_of_reads (enc := Value.int .u8) (d := (0 : Int)) ⟨by rw [List.length_take]; omega, by omega, fun _ => ⟨_, rfl, fun j hj => ?_⟩⟩
  rw [show (⟨g, 0, none⟩ : Addr).add j = ⟨g, j, none⟩ from by unfold Addr.add; split <;> simp_all, blk_cell h j]
  have h1 : j < vs.length := by omega
  rw [List.getElem?_toArray, List.getElem?_map, List.getElem?_eq_getElem h1, List.getD_eq_getElem?_getD, List.getElem?_take, if_pos hj, List.getElem?_eq_getElem h1]
  rfl
theorem meas_i (n i : Nat) (u : Int) (hw : u = ((i + 1 : Nat) : Int)) (h : i < n) : n - (intOf (Value.int .i64 u)).toNat < n - (intOf (Value.int .i64 (i : Int))).toNat := by
  subst hw
  simp only [intOf, Int.toNat_natCast]
  omega
theorem encL_cons {l0 : List S28} {i : Nat} {E : S28} (h : i < l0.length) (hE : rd_T28 l0 (i : Int) = E) : (l0.drop i).map ofS28 = ofS28 E :: (l0.drop (i + 1)).map ofS28 := by
  rw [List.drop_eq_getElem_cons h, List.map_cons, ← hE]
  congr 2
  unfold rd_T28
  simp [h]
set_option maxHeartbeats 8000000 in
set_option maxRecDepth 100000 in
theorem script_Encode.calls (A0 : Option Addr) (c0 : Nat) (l0 : List (S28)) (r1 : ByteArray) (r2 : Int) (w : World) (hr0 : Kd.C k28 w A0 l0.length l0) (hc0 : l0.length ≤ c0) (h : script_Encode.f l0 = some (r1, r2)) :
    Calls Try.prog 11 #[.slice A0 l0.length c0] w fun e w' => e = .returned (.tuple #[.string r1, .int .i64 r2]) ∧ Below w.heap.size w w' := by
  have HR0 := Aside0.mk hr0
  have HC0 := Aside0.mk hc0
  clear hr0 hc0
  have HB := Aside0.mk (Below.refl w.heap.size w)
  have HLN : Aside0 (l0.length < 1000000 ∧ Hand.encR (l0.map ofS28) = (r1, r2)) := by
    unfold script_Encode.f at h
    by_cases hl : l0.length < 1000000
    · rw [if_pos hl] at h
      exact ⟨hl, Option.some.inj h⟩
    · rw [if_neg hl] at h
      cases h
  clear h
  go_enter Try.func11, Try.ntmps11
  go_wp2
  go_loopw [4, 10] (fun v4 v10 w' => ∃ (i : Nat) (bs : List Int), v10 = .int .i64 i ∧ Aside0 (i ≤ l0.length) ∧ Aside0 (bs.length ≤ 5 * i) ∧ Aside0 (Hand.encL (l0.map ofS28) = (Hand.encL ((l0.drop i).map ofS28)).map (bs ++ ·)) ∧ Aside0 (Kd.R (Kd.int .u8) 5 w' w.heap.size (fun _ => True) v4 bs) ∧ Aside0 (Below w.heap.size w w')) (fun _ v10 _ => l0.length - (intOf v10).toNat)
  case atStart => exact ⟨0, [], rfl, ⟨Nat.zero_le _⟩, ⟨Nat.zero_le _⟩, ⟨by simp⟩, ⟨Kd.R_nil _ _ _ _ _⟩, HB⟩
  case round =>
    clear HB
    obtain ⟨i, bs, rfl, HI, HBS, HEQ, HO, HB⟩ := hrel
    by_cases hlt : i < l0.length
    · have p1 : (0:Int) ≤ (i : Int) := by omega
      have q1 : (i : Int) < (l0.length : Int) := by omega
      have hdi : decide ((i : Int) < (l0.length : Int)) = true := decide_eq_true q1
      obtain ⟨ad, e0, hx0, hx1, hx2, hx3, hx4⟩ := at_T28 HR0.out i p1 q1
      cases e0
      replace hx0 := (HB.out.cell (World.block_lt_of_cell? w _ hx0)).trans hx0
      replace hx1 := (HB.out.cell (World.block_lt_of_cell? w _ hx1)).trans hx1
      replace hx2 := (HB.out.cell (World.block_lt_of_cell? w _ hx2)).trans hx2
      replace hx3 := (HB.out.cell (World.block_lt_of_cell? w _ hx3)).trans hx3
      replace hx4 := (HB.out.cell (World.block_lt_of_cell? w _ hx4)).trans hx4
      generalize hE : rd_T28 l0 i = E at hx0 hx1 hx2 hx3 hx4
      have HEE := Aside0.mk (encL_cons hlt hE)
      clear hE
      have HLT := Aside0.mk hlt
      clear hlt
      simp only [Int.toNat_natCast] at hx0 hx1 hx2 hx3 hx4
      replace p1 := eq_true p1
      replace q1 := eq_true q1
      go_wp2_with fail
      refine (Hand.may_any E.f0 E.f1.f0 E.f1.f1 E.f1.f2 E.f1.f3 _).mono ?_
      rintro e w1 ⟨rfl, hb⟩
      clear hx0 hx1 hx2 hx3 hx4
      have BK := blk_below (blk_new wr _) hb
      have HO1 := Aside0.mk (Kd.R_below (Kd.R_alloc HO.out _) hb)
      have HB1 := Aside0.mk (below_step (below_alloc HB.out _) hb)
      clear hb HO HB
      generalize wr.heap.size = g at BK ⊢
      have HBK := Aside0.mk BK
      clear BK
      by_cases hm : Hand.mayp E.f0 E.f1.f0 E.f1.f1 E.f1.f2 E.f1.f3 = true
      · have HM := Aside0.mk hm
        rw [hm]
        clear hm
        have k0 := (blk_cell HBK.out 0).trans rfl
        have k1 := (blk_cell HBK.out 1).trans rfl
        have k2 := (blk_cell HBK.out 2).trans rfl
        have k3 := (blk_cell HBK.out 3).trans rfl
        have k4 := (blk_cell HBK.out 4).trans rfl
        have k5 : ∀ o, (w1.alloc o).cell? ⟨g, 1, none⟩ = some (.int .u8 E.f1.f0) := fun o => (blk_cell (blk_alloc HBK.out o) 1).trans rfl
        have HLAST : ∀ m : Nat, m = (2 + Hand.argsp E.f1.f0).toNat → Aside0 (Hand.encL (l0.map ofS28) = (Hand.encL ((l0.drop (i + 1)).map ofS28)).map ((bs ++ [E.f0, E.f1.f0, E.f1.f1, E.f1.f2, E.f1.f3].take m) ++ ·)) := fun m hm => ⟨by
          rw [HEQ.out, HEE.out, Hand.encL, if_pos (show Hand.may5 (ofS28 E) = true from HM.out), hm]
          cases Hand.encL ((l0.drop (i + 1)).map ofS28) with
          | none => rfl
          | some z => simp only [Option.map_some, List.append_assoc]; rfl⟩
        have HA := Lib.hid (Hand.args_any E.f1.f0)
        rcases Hand.argsp_cases E.f1.f0 with en | en | en | en
        · rw [en] at HA HLAST
          have HLL := HLAST 2 rfl
          clear en HLAST
          go_wp2_with (first | (go_at_call 12; (with_reducible refine (HA.out _).mono ?_); rintro e w' ⟨rfl, rfl⟩) | ((with_reducible refine gate_builtin (b := .append) (xs := #[.tmp 32, .tmp 38]) rfl ?_); at_builtin; refine Kd.R_append_row (Value.int .u8) (0 : Int) (w0 := w) w.heap.size rfl (.tmp 32) (.tmp 38) 47 5 (.int .u8 0) 1 rfl Try.underlying47 infoU8 rfl (by decide) u4 bs ([E.f0, E.f1.f0, E.f1.f1, E.f1.f2, E.f1.f3].take 2) (some ⟨w1.heap.size, 0, none⟩) 2 5 (fun _ => True) rfl rfl (fun _ _ => trivial) (Kd.R_alloc HO1.out _) (C_head _ _ _ 48 2 (blk_new w1 _) (show 2 ≤ 5 by decide) (show 5 ≤ 9223372036854775807 by decide)) (below_alloc HB1.out _) (below_size (below_alloc HB1.out _)) (by have := HBS.out; have := HLT.out; have := HLN.out.1; omega) ?_; intro v1 w2 HO2' HB2' hg hat; have HO2 := Aside0.mk HO2'; have HB2 := Aside0.mk HB2'; clear HO2' HB2' hg hat))
          clear k0 k1 k2 k3 k4 k5
          go_wp2
          have hw : wrap64 ((i : Int) + 1) = ((i + 1 : Nat) : Int) := by have := HLT.out; have := HLN.out.1; unfold wrap64; omega
          go_roundw
          case rel => exact ⟨i + 1, bs ++ [E.f0, E.f1.f0, E.f1.f1, E.f1.f2, E.f1.f3].take 2, congrArg (Value.int .i64) hw, ⟨HLT.out⟩, ⟨by have := HBS.out; rw [List.length_append]; simp; omega⟩, HLL, HO2, HB2⟩
          case measure =>
            show l0.length - (intOf (Value.int .i64 (wrap64 ((i : Int) + 1)))).toNat < l0.length - (intOf (Value.int .i64 (i : Int))).toNat
            exact meas_i _ _ _ hw HLT.out
        · rw [en] at HA HLAST
          have HLL := HLAST 3 rfl
          clear en HLAST
          go_wp2_with (first | (go_at_call 12; (with_reducible refine (HA.out _).mono ?_); rintro e w' ⟨rfl, rfl⟩) | ((with_reducible refine gate_builtin (b := .append) (xs := #[.tmp 32, .tmp 38]) rfl ?_); at_builtin; refine Kd.R_append_row (Value.int .u8) (0 : Int) (w0 := w) w.heap.size rfl (.tmp 32) (.tmp 38) 47 5 (.int .u8 0) 1 rfl Try.underlying47 infoU8 rfl (by decide) u4 bs ([E.f0, E.f1.f0, E.f1.f1, E.f1.f2, E.f1.f3].take 3) (some ⟨w1.heap.size, 0, none⟩) 3 5 (fun _ => True) rfl rfl (fun _ _ => trivial) (Kd.R_alloc HO1.out _) (C_head _ _ _ 48 3 (blk_new w1 _) (show 3 ≤ 5 by decide) (show 5 ≤ 9223372036854775807 by decide)) (below_alloc HB1.out _) (below_size (below_alloc HB1.out _)) (by have := HBS.out; have := HLT.out; have := HLN.out.1; omega) ?_; intro v1 w2 HO2' HB2' hg hat; have HO2 := Aside0.mk HO2'; have HB2 := Aside0.mk HB2'; clear HO2' HB2' hg hat))
          clear k0 k1 k2 k3 k4 k5
          go_wp2
          have hw : wrap64 ((i : Int) + 1) = ((i + 1 : Nat) : Int) := by have := HLT.out; have := HLN.out.1; unfold wrap64; omega
          go_roundw
          case rel => exact ⟨i + 1, bs ++ [E.f0, E.f1.f0, E.f1.f1, E.f1.f2, E.f1.f3].take 3, congrArg (Value.int .i64) hw, ⟨HLT.out⟩, ⟨by have := HBS.out; rw [List.length_append]; simp; omega⟩, HLL, HO2, HB2⟩
          case measure =>
            show l0.length - (intOf (Value.int .i64 (wrap64 ((i : Int) + 1)))).toNat < l0.length - (intOf (Value.int .i64 (i : Int))).toNat
            exact meas_i _ _ _ hw HLT.out
        · rw [en] at HA HLAST
          have HLL := HLAST 4 rfl
          clear en HLAST
          go_wp2_with (first | (go_at_call 12; (with_reducible refine (HA.out _).mono ?_); rintro e w' ⟨rfl, rfl⟩) | ((with_reducible refine gate_builtin (b := .append) (xs := #[.tmp 32, .tmp 38]) rfl ?_); at_builtin; refine Kd.R_append_row (Value.int .u8) (0 : Int) (w0 := w) w.heap.size rfl (.tmp 32) (.tmp 38) 47 5 (.int .u8 0) 1 rfl Try.underlying47 infoU8 rfl (by decide) u4 bs ([E.f0, E.f1.f0, E.f1.f1, E.f1.f2, E.f1.f3].take 4) (some ⟨w1.heap.size, 0, none⟩) 4 5 (fun _ => True) rfl rfl (fun _ _ => trivial) (Kd.R_alloc HO1.out _) (C_head _ _ _ 48 4 (blk_new w1 _) (show 4 ≤ 5 by decide) (show 5 ≤ 9223372036854775807 by decide)) (below_alloc HB1.out _) (below_size (below_alloc HB1.out _)) (by have := HBS.out; have := HLT.out; have := HLN.out.1; omega) ?_; intro v1 w2 HO2' HB2' hg hat; have HO2 := Aside0.mk HO2'; have HB2 := Aside0.mk HB2'; clear HO2' HB2' hg hat))
          clear k0 k1 k2 k3 k4 k5
          go_wp2
          have hw : wrap64 ((i : Int) + 1) = ((i + 1 : Nat) : Int) := by have := HLT.out; have := HLN.out.1; unfold wrap64; omega
          go_roundw
          case rel => exact ⟨i + 1, bs ++ [E.f0, E.f1.f0, E.f1.f1, E.f1.f2, E.f1.f3].take 4, congrArg (Value.int .i64) hw, ⟨HLT.out⟩, ⟨by have := HBS.out; rw [List.length_append]; simp; omega⟩, HLL, HO2, HB2⟩
          case measure =>
            show l0.length - (intOf (Value.int .i64 (wrap64 ((i : Int) + 1)))).toNat < l0.length - (intOf (Value.int .i64 (i : Int))).toNat
            exact meas_i _ _ _ hw HLT.out
        · rw [en] at HA HLAST
          have HLL := HLAST 5 rfl
          clear en HLAST
          go_wp2_with (first | (go_at_call 12; (with_reducible refine (HA.out _).mono ?_); rintro e w' ⟨rfl, rfl⟩) | ((with_reducible refine gate_builtin (b := .append) (xs := #[.tmp 32, .tmp 38]) rfl ?_); at_builtin; refine Kd.R_append_row (Value.int .u8) (0 : Int) (w0 := w) w.heap.size rfl (.tmp 32) (.tmp 38) 47 5 (.int .u8 0) 1 rfl Try.underlying47 infoU8 rfl (by decide) u4 bs ([E.f0, E.f1.f0, E.f1.f1, E.f1.f2, E.f1.f3].take 5) (some ⟨w1.heap.size, 0, none⟩) 5 5 (fun _ => True) rfl rfl (fun _ _ => trivial) (Kd.R_alloc HO1.out _) (C_head _ _ _ 48 5 (blk_new w1 _) (show 5 ≤ 5 by decide) (show 5 ≤ 9223372036854775807 by decide)) (below_alloc HB1.out _) (below_size (below_alloc HB1.out _)) (by have := HBS.out; have := HLT.out; have := HLN.out.1; omega) ?_; intro v1 w2 HO2' HB2' hg hat; have HO2 := Aside0.mk HO2'; have HB2 := Aside0.mk HB2'; clear HO2' HB2' hg hat))
          clear k0 k1 k2 k3 k4 k5
          go_wp2
          have hw : wrap64 ((i : Int) + 1) = ((i + 1 : Nat) : Int) := by have := HLT.out; have := HLN.out.1; unfold wrap64; omega
          go_roundw
          case rel => exact ⟨i + 1, bs ++ [E.f0, E.f1.f0, E.f1.f1, E.f1.f2, E.f1.f3].take 5, congrArg (Value.int .i64) hw, ⟨HLT.out⟩, ⟨by have := HBS.out; rw [List.length_append]; simp; omega⟩, HLL, HO2, HB2⟩
          case measure =>
            show l0.length - (intOf (Value.int .i64 (wrap64 ((i : Int) + 1)))).toNat < l0.length - (intOf (Value.int .i64 (i : Int))).toNat
            exact meas_i _ _ _ hw HLT.out
      · replace hm : Hand.mayp E.f0 E.f1.f0 E.f1.f1 E.f1.f2 E.f1.f3 = false := by simpa using hm
        have HM := Aside0.mk hm
        rw [hm]
        clear hm
        obtain ⟨rfl, rfl⟩ : r1 = ByteArray.empty ∧ r2 = 3 := by
          have e1 := HLN.out.2
          have e2 := HEQ.out
          rw [HEE.out] at e2
          have e3 : Hand.encL (ofS28 E :: (l0.drop (i + 1)).map ofS28) = none := by
            unfold Hand.encL
            rw [show Hand.may5 (ofS28 E) = false from HM.out]
            rfl
          rw [e3] at e2
          unfold Hand.encR at e1
          rw [e2] at e1
          injection e1 with a b
          exact ⟨a.symm, b.symm⟩
        go_wp2
        go_ret2
        exact ⟨rfl, HB1.out⟩
    · obtain rfl : i = l0.length := by have := HI.out; omega
      clear hlt
      have hbs : r1 = strOfNums bs ∧ r2 = 0 := by
        have e1 := HLN.out.2
        have e2 := HEQ.out
        rw [List.drop_length, List.map_nil] at e2
        unfold Hand.encR at e1
        rw [e2] at e1
        simp only [Hand.encL, Option.map_some, List.append_nil] at e1
        injection e1 with a b
        exact ⟨a.symm, b.symm⟩
      obtain ⟨rfl, rfl⟩ := hbs
      have hcv : (convert 47 9 u4).run Try.prog wr = .ok (.string (strOfNums bs)) wr := own_string Try.underlying47 Try.underlying5 Try.underlying9 (Kd.own_of_R HO.out)
      go_wp2
      go_ret2
      exact ⟨rfl, HB.out⟩

/-! ### script_Decode: function 14 (by hand) -/
def toS28 (e : Hand.I5) : S28 := ⟨e.1, ⟨e.2.1, e.2.2.1, e.2.2.2.1, e.2.2.2.2⟩⟩
def script_Decode.f (a0 : ByteArray) : Option ((List (S28)) × Int) := some ((Hand.decR a0).1.map toS28, (Hand.decR a0).2)
theorem infoU8c : (Try.prog.info? 5).map (·.size) = some 1 := by kernel_rfl
theorem infoE28 : (Try.prog.info? 28).map (fun i => (i.zero, i.size, i.bytes)) = some (some (.agg #[(.int .u8 0), (.int .u8 0), (.int .u8 0), (.int .u8 0), (.int .u8 0)]), 5, 5) := by kernel_rfl
/-- The cells of five bytes, of which the first are y's. -/
def five (l : List Int) : Array Value := #[.int .u8 (l.getD 0 0), .int .u8 (l.getD 1 0), .int .u8 (l.getD 2 0), .int .u8 (l.getD 3 0), .int .u8 (l.getD 4 0)]
theorem five_zero : five [] = #[.int .u8 0, .int .u8 0, .int .u8 0, .int .u8 0, .int .u8 0] := rfl
theorem five_of (l : List Int) (h : l.length ≤ 5) : (l.map (Value.int .u8)) ++ (five []).toList.drop l.length = (five l).toList := by
  rcases l with _ | ⟨a, _ | ⟨b, _ | ⟨c, _ | ⟨d, _ | ⟨e, _ | ⟨f, r⟩⟩⟩⟩⟩⟩ <;> first | rfl | (simp only [List.length_cons] at h; omega)
theorem copy5_step {P : Program} {ops : Array Oper} {o : Oper} {a : Act} {Q : Exit → Act → World → Prop} {Kc : Act → World → Prop} {W : World} (hw : Region.wanted o (yielded ops a.tmps) = true) (s x : Operand) (t t' e et : TypeId)
    (ho : o.op = .call { callee := .builtin .copy, args := #[s, x], argTypes := #[t, t'] }) (ht : P.underlying t = some (.slice e)) (hinfo : (P.info? e).map (·.size) = some 1)
    (g : Nat) (y : ByteArray) (hm5 : y.size ≤ 5) (hs : a.eval s = .slice (some ⟨g, 0, none⟩) 5 5) (hx : a.eval x = .string y) (hh : W.heap[g]? = some (.cells (five []) et (0, 0)))
    (h : ∀ w1, w1.heap[g]? = some (.cells (five (bytesOf y)) et (0, 0)) → (∀ B w0, B ≤ g → Below B w0 W → Below B w0 w1) → Kc (a.put o.dst (.int .i64 (y.size : Int))) w1) :
    if Region.wanted o (yielded ops a.tmps) = true then Oper.wp P o a W Kc Q else Kc (a.put o.dst undef) W := by
  have hlen : (bytesOf y).length = y.size := bytesOf_length y
  have hcl : List.take y.size (List.map (fun b => Value.int IntKind.u8 b.toNat) y.data.toList) = List.map (Value.int .u8) (bytesOf y) := by
    rw [List.take_of_length_le (by simp), bytesOf, List.map_map]
    rfl
  have hst := run_storeCells_cells (P := P) g 0 ((bytesOf y).map (Value.int .u8)) 0 W
    (fun j hj => by rw [cell_of_row W g _ (five []) et (0, 0) hh]; rw [List.length_map, hlen] at hj; simp [five]; omega)
    (fun j _ => blk_frozen hh _) (by intro v hv; rw [List.mem_map] at hv; obtain ⟨q, _, rfl⟩ := hv; rfl)
  have hmin : Nat.min y.size 5 = y.size := Nat.min_eq_left hm5
  obtain ⟨cur', h3, h4, h5⟩ := setCells_row ((bytesOf y).map (Value.int .u8)) 0 W (five []) hh (by rw [List.length_map, hlen]; simp [five]; omega)
  have hcur : cur' = five (bytesOf y) := by
    apply Array.toList_inj.mp
    rw [h5, List.take_zero, List.nil_append, List.length_map, Nat.zero_add, five_of _ (by rw [hlen]; exact hm5)]
  subst hcur
  cases hq : P.info? e with
  | none => simp [hq] at hinfo
  | some i =>
    have hi : i.size = 1 := by simpa [hq] using hinfo
    have hrun : (Builtin.copy_ #[t, t'] o.type #[.slice (some ⟨g, 0, none⟩) 5 5, .string y]).run P W = .ok (goInt (y.size : Int)) (W.setCells g 0 ((bytesOf y).map (Value.int .u8))) := by
      simp [Builtin.copy_, run_underlying ht, Builtin.lenOf, Builtin.firstCells, sizeOf, typeInfo, hq, hi, hmin, hcl, hst]
    refine event_step (w1 := W.setCells g 0 ((bytesOf y).map (Value.int .u8))) (v := .int .i64 (y.size : Int)) hw ?_ (h _ h3 (fun B w0 hB hb => ?_))
    · unfold execOp
      simp only [ho, resolve, invoke, builtin, Sem.run_bind, Sem.run_pure, Result.andThen_ok, List.map_toArray, List.map_cons, List.map_nil, hs, hx, hrun]
      rfl
    obtain ⟨s1, s2, s3, s4⟩ := setCells_same g ((bytesOf y).map (Value.int .u8)) 0 W
    exact ⟨s1.trans hb.os, s2.trans hb.tape, s3.trans hb.output, by rw [s4]; exact hb.size, fun k hk => (setCells_far _ _ k (by omega)).trans (hb.block k hk)⟩
theorem decL_nil (k : Nat) : Hand.decL k [] = some [] := by cases k <;> simp [Hand.decL]
theorem decL_step (k : Nat) (b : List Int) (h0 : b ≠ []) : Hand.decL (k + 1) b = if (b.length : Int) < 2 ∨ (b.length : Int) < 2 + Hand.argsp (b.getD 1 0) then none
    else if Hand.may5 (Hand.head5 b) then (Hand.decL k (b.drop (2 + Hand.argsp (b.getD 1 0)).toNat)).map (Hand.head5 b :: ·) else none := by
  rw [Hand.decL, if_neg h0]
theorem argsp_range (d : Int) : 0 ≤ Hand.argsp d ∧ Hand.argsp d ≤ 3 := by
  rcases Hand.argsp_cases d with h | h | h | h <;> rw [h] <;> omega
theorem decL_fuel : ∀ (n : Nat) (b : List Int) (k k' : Nat), b.length ≤ n → b.length ≤ k → b.length ≤ k' → Hand.decL k b = Hand.decL k' b
  | 0, b, k, k', hn, _, _ => by
    obtain rfl : b = [] := List.length_eq_zero_iff.mp (by omega)
    rw [decL_nil, decL_nil]
  | n + 1, b, k, k', hn, hk, hk' => by
    by_cases h0 : b = []
    · subst h0; rw [decL_nil, decL_nil]
    have hp : 0 < b.length := List.length_pos_iff.mpr h0
    obtain ⟨k, rfl⟩ : ∃ j, k = j + 1 := ⟨k - 1, by omega⟩
    obtain ⟨k', rfl⟩ : ∃ j, k' = j + 1 := ⟨k' - 1, by omega⟩
    rw [decL_step _ _ h0, decL_step _ _ h0]
    have hr := argsp_range (b.getD 1 0)
    have hd : (b.drop (2 + Hand.argsp (b.getD 1 0)).toNat).length ≤ b.length - 2 := by rw [List.length_drop]; omega
    rw [decL_fuel n _ k k' (by omega) (by omega) (by omega)]
theorem bytesOf_extract (s : ByteArray) (m : Nat) : bytesOf (s.extract 0 m) = (bytesOf s).take m := by
  unfold bytesOf
  rw [ByteArray.data_extract, Array.toList_extract, List.extract_eq_take_drop, List.drop_zero, Nat.sub_zero, List.map_take]
theorem bytesOf_rest (s : ByteArray) (m : Nat) : bytesOf (s.extract m s.size) = (bytesOf s).drop m := by
  unfold bytesOf
  rw [ByteArray.data_extract, Array.toList_extract, List.extract_eq_take_drop, List.map_take, List.map_drop, List.take_of_length_le]
  rw [List.length_drop, List.length_map, Array.length_toList]
  exact Nat.le_refl _
theorem bytesOf_one (s : ByteArray) : (bytesOf s).getD 1 0 = bt s 1 := by rw [← rd_bytesOf]; rfl
/-- One more entry is read. -/
theorem decR_more (a0 sv : ByteArray) (out : List Hand.I5) (m : Nat) (E : Hand.I5) (hm : (m : Int) = 2 + Hand.argsp (bt sv 1)) (hs : m ≤ sv.size) (hE : E = Hand.head5 (bytesOf sv)) (hy : Hand.may5 E = true)
    (h : Hand.decL a0.size (bytesOf a0) = (Hand.decL sv.size (bytesOf sv)).map (out ++ ·)) :
    Hand.decL a0.size (bytesOf a0) = (Hand.decL (sv.extract m sv.size).size (bytesOf (sv.extract m sv.size))).map ((out ++ [E]) ++ ·) := by
  have hr := argsp_range (bt sv 1)
  have hl := bytesOf_length sv
  have h0 : bytesOf sv ≠ [] := fun e => by rw [e] at hl; simp at hl; omega
  rw [h, decL_fuel _ (bytesOf sv) sv.size (sv.size - 1 + 1) (Nat.le_refl _) (by omega) (by omega), decL_step _ _ h0, bytesOf_one, if_neg (by omega), ← hE, if_pos hy, bytesOf_rest, ← hm, Int.toNat_natCast,
    decL_fuel _ ((bytesOf sv).drop m) (sv.extract m sv.size).size (sv.size - 1) (Nat.le_refl _) (by rw [List.length_drop, hl, ByteArray.size_extract]; omega) (by rw [List.length_drop]; omega), Option.map_map]
  congr 1
  funext z
  simp
/-- There is no entry. -/
theorem decR_none (a0 sv : ByteArray) (out : List Hand.I5) (hs : sv.size ≠ 0) (hb : (sv.size : Int) < 2 ∨ (sv.size : Int) < 2 + Hand.argsp (bt sv 1) ∨ Hand.may5 (Hand.head5 (bytesOf sv)) = false)
    (h : Hand.decL a0.size (bytesOf a0) = (Hand.decL sv.size (bytesOf sv)).map (out ++ ·)) : Hand.decL a0.size (bytesOf a0) = none := by
  have hl := bytesOf_length sv
  have h0 : bytesOf sv ≠ [] := fun e => by rw [e] at hl; simp at hl; omega
  rw [h, decL_fuel _ (bytesOf sv) sv.size (sv.size - 1 + 1) (Nat.le_refl _) (by omega) (by omega), decL_step _ _ h0, bytesOf_one]
  by_cases c : ((bytesOf sv).length : Int) < 2 ∨ ((bytesOf sv).length : Int) < 2 + Hand.argsp (bt sv 1)
  · rw [if_pos c]; rfl
  · rw [if_neg c, if_neg (by rcases hb with hb | hb | hb <;> first | omega | simp [hb])]
    rfl
theorem decF_none {a0 : ByteArray} {r1 : List S28} {r2 : Int} (h : script_Decode.f a0 = some (r1, r2)) (hs : ¬ 4000 < a0.size) (e : Hand.decL a0.size (bytesOf a0) = none) : r1 = [] ∧ r2 = 3 := by
  unfold script_Decode.f Hand.decR at h
  rw [if_neg hs, e] at h
  simp only [Option.some.injEq, Prod.mk.injEq, List.map_nil] at h
  exact ⟨h.1.symm, h.2.symm⟩
theorem decF_some {a0 : ByteArray} {r1 : List S28} {r2 : Int} {out : List Hand.I5} (h : script_Decode.f a0 = some (r1, r2)) (hs : ¬ 4000 < a0.size) (e : Hand.decL a0.size (bytesOf a0) = some out) : r1 = out.map toS28 ∧ r2 = 0 := by
  unfold script_Decode.f Hand.decR at h
  rw [if_neg hs, e] at h
  simp only [Option.some.injEq, Prod.mk.injEq] at h
  exact ⟨h.1.symm, h.2.symm⟩
def strLen : Value → Nat | .string s => s.size | _ => 0
set_option maxHeartbeats 8000000 in
set_option maxRecDepth 100000 in
theorem script_Decode.calls (a0 : ByteArray) (r1 : List (S28)) (r2 : Int) (w : World) (h : script_Decode.f a0 = some (r1, r2)) :
    Calls Try.prog 14 #[.string a0] w fun e w' => ∃ v0_ : Value, e = .returned (.tuple #[v0_, .int .i64 r2]) ∧ Kd.R k28 28 w' w.heap.size (fun _ => True) v0_ r1 ∧ Below w.heap.size w w' := by
  have HB := Aside0.mk (Below.refl w.heap.size w)
  have HF := Aside0.mk h
  clear h
  by_cases c2 : (a0.size : Int) > 4000
  · have c2b0 : decide (4000 < (a0.size : Int)) = true := decide_eq_true c2
    go_enter Try.func14, Try.ntmps14
    go_wp2
    go_step3
    go_wp2
    rw [Exit.noGoto_ret]
    go_ret2
    have e := HF.out
    unfold script_Decode.f Hand.decR at e
    rw [if_pos (by omega)] at e
    simp only [Option.some.injEq, Prod.mk.injEq, List.map_nil] at e
    obtain ⟨rfl, rfl⟩ := e
    exact ⟨_, rfl, Kd.R_nil _ _ _ _ _, HB.out⟩
  · have c2b0 : decide (4000 < (a0.size : Int)) = false := decide_eq_false c2
    have C2 : Aside0 (¬ 4000 < a0.size) := ⟨by omega⟩
    clear c2
    go_enter Try.func14, Try.ntmps14
    go_wp2
    go_step3
    go_wp2
    go_step3
    go_wp2
    go_loopw [0, 4] (fun v0 v4 w' => ∃ (sv : ByteArray) (out : List Hand.I5), v0 = .string sv ∧ Aside0 (out.length + sv.size ≤ 4000) ∧ Aside0 (Hand.decL a0.size (bytesOf a0) = (Hand.decL sv.size (bytesOf sv)).map (out ++ ·)) ∧ Aside0 (Kd.R k28 28 w' w.heap.size (fun _ => True) v4 (out.map toS28)) ∧ Aside0 (Below w.heap.size w w')) (fun v0 _ _ => strLen v0)
    case atStart => exact ⟨a0, [], rfl, ⟨by have := C2.out; simp only [List.length_nil]; omega⟩, ⟨by simp⟩, ⟨Kd.R_nil _ _ _ _ _⟩, HB⟩
    case round =>
      clear HB c2b0
      obtain ⟨sv, out, rfl, HL, HEQ, HO, HB⟩ := hrel
      by_cases h0 : (sv.size : Int) = 0
      · have h0b : ((sv.size : Int) == 0) = true := beq_iff_eq.mpr h0
        have H0 := Aside0.mk h0
        clear h0
        go_wp2
        rw [Exit.noGoto_ret]
        go_ret2
        have e0 : bytesOf sv = [] := by have := H0.out; have := bytesOf_length sv; exact List.length_eq_zero_iff.mp (by omega)
        have e := HEQ.out
        rw [e0, decL_nil] at e
        simp only [Option.map_some, List.append_nil] at e
        obtain ⟨rfl, rfl⟩ := decF_some HF.out C2.out e
        exact ⟨_, rfl, Kd.R_alloc HO.out _, below_alloc HB.out _⟩
      · have h0b : ((sv.size : Int) == 0) = false := beq_eq_false_iff_ne.mpr h0
        have H0 : Aside0 (sv.size ≠ 0) := ⟨by omega⟩
        clear h0
        by_cases h2 : (sv.size : Int) < 2
        · have h2b : decide ((sv.size : Int) < 2) = true := decide_eq_true h2
          have H2 := Aside0.mk h2
          clear h2
          go_wp2
          rw [Exit.noGoto_ret]
          go_ret2
          obtain ⟨rfl, rfl⟩ := decF_none HF.out C2.out (decR_none a0 sv out H0.out (.inl H2.out) HEQ.out)
          exact ⟨_, rfl, Kd.R_nil _ _ _ _ _, below_alloc HB.out _⟩
        · have h2b : decide ((sv.size : Int) < 2) = false := decide_eq_false h2
          have H2 : Aside0 (2 ≤ sv.size) := ⟨by omega⟩
          clear h2
          have p1 : (0:Int) ≤ 1 := by omega
          have q1 : (1:Int) < (sv.size : Int) := by have := H2.out; omega
          have hx1 : ∀ h : 1 < sv.size, ((sv[1]'h).toNat : Int) = bt sv 1 := bt_at sv 1
          replace p1 := eq_true p1
          replace q1 := eq_true q1
          obtain ⟨m, hm⟩ : ∃ m : Nat, (m : Int) = 2 + Hand.argsp (bt sv 1) := ⟨(2 + Hand.argsp (bt sv 1)).toNat, by have := argsp_range (bt sv 1); omega⟩
          have HM := Aside0.mk hm
          have HM5 : Aside0 (m ≤ 5) := ⟨by have := argsp_range (bt sv 1); omega⟩
          have hw : IntKind.i64.wrap (2 + Hand.argsp (bt sv 1)) = (m : Int) := by
            rw [← hm, i64_w]
            have := HM5.out
            unfold wrap64
            omega
          clear hm
          have HA := Lib.hid (Hand.args_any (bt sv 1))
          by_cases h3 : (sv.size : Int) < (m : Int)
          · have h3b : decide ((sv.size : Int) < (m : Int)) = true := decide_eq_true h3
            have h3c : (sv.size < m) = True := eq_true (by omega)
            have H3 := Aside0.mk h3
            clear h3
            go_wp2_with (first | (go_at_call 12; (with_reducible refine (HA.out _).mono ?_); rintro e w' ⟨rfl, rfl⟩))
            rw [Exit.noGoto_ret]
            go_ret2
            obtain ⟨rfl, rfl⟩ := decF_none HF.out C2.out (decR_none a0 sv out H0.out (.inr (.inl (by have := H3.out; have := HM.out; omega))) HEQ.out)
            exact ⟨_, rfl, Kd.R_nil _ _ _ _ _, below_alloc HB.out _⟩
          · have h3b : decide ((sv.size : Int) < (m : Int)) = false := decide_eq_false h3
            have h3c : (sv.size < m) = False := eq_false (by omega)
            have H3 : Aside0 (m ≤ sv.size) := ⟨by omega⟩
            clear h3
            go_wp2_with (first | (go_at_call 12; (with_reducible refine (HA.out _).mono ?_); rintro e w' ⟨rfl, rfl⟩))
            have bk := blk_drew (blk_new wr (.cells #[.int .u8 0, .int .u8 0, .int .u8 0, .int .u8 0, .int .u8 0] 48 (0, 0)))
            have bb := below_drew1 (below_alloc (Below.refl wr.heap.size wr) (.cells #[.int .u8 0, .int .u8 0, .int .u8 0, .int .u8 0, .int .u8 0] 48 (0, 0)))
            obtain ⟨g, hg⟩ : ∃ g, g = wr.heap.size := ⟨_, rfl⟩
            rw [← hg] at bk ⊢
            have HG := Aside0.mk hg
            clear hg
            have p2 : (0:Int) ≤ (m : Int) := by omega
            have q2 : (m : Int) ≤ (sv.size : Int) := by have := H3.out; omega
            have q3 : m ≤ sv.size := H3.out
            replace p2 := eq_true p2
            replace q2 := eq_true q2
            replace q3 := eq_true q3
            refine start_ (n := 5) (S := fun w' => True) (ds := []) #[false, false, false, false, false] (by kernel_rfl) rfl rfl trivial (fun hHeld => ?_)
            generalize (wr.alloc (.cells #[.int .u8 0, .int .u8 0, .int .u8 0, .int .u8 0, .int .u8 0] 48 (0, 0))).drew = w1 at bk bb
            have BK : Aside0 (w1.heap[g]? = some (.cells (five []) 48 (0, 0))) := Aside0.mk bk
            have BB := Aside0.mk bb
            clear bk bb
            refine pure_ (i := 0) (N := some 32) (v := ?_) (a' := ?_) #[true, false, false, false, false] rfl rfl (by kernel_rfl) (fun _ _ _ h => h) (Or.inl ⟨by rfl, ?_⟩) ?_ ?_
            rotate_left
            · intro w'
              go_simp
              with_reducible rfl
            rotate_left
            · simp only [Act.put, List.setIfInBounds_toArray, List.set_cons_zero, List.set_cons_succ, i64_w, i32_w]
              rfl
            refine pure_ (i := 1) (N := some 33) (v := ?_) (a' := ?_) #[true, true, false, false, false] rfl rfl (by kernel_rfl) (fun _ _ _ h => h) (Or.inl ⟨by rfl, ?_⟩) ?_ ?_
            rotate_left
            · intro w'
              go_simp
              with_reducible rfl
            rotate_left
            · simp only [Act.put, List.setIfInBounds_toArray, List.set_cons_zero, List.set_cons_succ, i64_w, i32_w]
              rfl
            refine pure_ (i := 2) (N := some 34) (v := ?_) (a' := ?_) #[true, true, true, false, false] rfl rfl (by kernel_rfl) (fun _ _ _ h => h) (Or.inl ⟨by rfl, ?_⟩) ?_ ?_
            rotate_left
            · intro w'
              go_simp
              with_reducible rfl
            rotate_left
            · simp only [Act.put, List.setIfInBounds_toArray, List.set_cons_zero, List.set_cons_succ, i64_w, i32_w]
              rfl
            refine pure_ (i := 3) (N := some 35) (v := ?_) (a' := ?_) #[true, true, true, true, false] rfl rfl (by kernel_rfl) (fun _ _ _ h => h) (Or.inl ⟨by rfl, ?_⟩) ?_ ?_
            rotate_left
            · intro w'
              go_simp
              with_reducible rfl
            rotate_left
            · simp only [Act.put, List.setIfInBounds_toArray, List.set_cons_zero, List.set_cons_succ, i64_w, i32_w]
              rfl
            refine one_ (i := 4) (N := some 36) #[true, true, true, true, true] rfl rfl (by kernel_rfl) (by decide) (fun K hK => ?_)
            refine copy5_step (by rfl) (.tmp 32) (.tmp 35) 47 9 5 48 rfl Try.underlying47 infoU8c g (sv.extract 0 m) (by have := HM5.out; rw [ByteArray.size_extract]; omega) rfl rfl BK.out ?_
            intro w2 bk2 bb2
            rw [bytesOf_extract] at bk2
            have BK2 := Aside0.mk bk2
            have BB2 := Aside0.mk (bb2 _ _ (Nat.le_of_eq HG.out.symm) BB.out)
            clear bk2 bb2 BB BK
            refine hK.out _ _ trivial (fun hHeld => ?_)
            clear hK K
            refine norm_ (a' := ?_) ?_ ?_
            rotate_left
            · show Act.put _ (some 36) _ = _
              simp only [Act.put, List.setIfInBounds_toArray, List.set_cons_zero, List.set_cons_succ, i64_w, i32_w]
              rfl
            refine done_ (by kernel_rfl) ?_
            obtain ⟨E, hE⟩ : ∃ E, E = Hand.head5 (bytesOf sv) := ⟨_, rfl⟩
            have hf : five ((bytesOf sv).take m) = #[.int .u8 E.1, .int .u8 E.2.1, .int .u8 E.2.2.1, .int .u8 E.2.2.2.1, .int .u8 E.2.2.2.2] := by
              subst hE
              unfold five Hand.head5
              rw [bytesOf_one, ← HM.out, Int.toNat_natCast]
            have HE := Aside0.mk hE
            clear hE
            have bk2 := BK2.out
            rw [hf] at bk2
            clear hf BK2
            obtain ⟨e0, e1, e2, e3, e4⟩ := E
            have k0 := (blk_cell bk2 0).trans rfl
            have k1 := (blk_cell bk2 1).trans rfl
            have k2 := (blk_cell bk2 2).trans rfl
            have k3 := (blk_cell bk2 3).trans rfl
            have k4 := (blk_cell bk2 4).trans rfl
            clear bk2
            replace k0 : w2.cell? ⟨g, 0, none⟩ = some (.int .u8 e0) := k0
            replace k1 : w2.cell? ⟨g, 1, none⟩ = some (.int .u8 e1) := k1
            replace k2 : w2.cell? ⟨g, 2, none⟩ = some (.int .u8 e2) := k2
            replace k3 : w2.cell? ⟨g, 3, none⟩ = some (.int .u8 e3) := k3
            replace k4 : w2.cell? ⟨g, 4, none⟩ = some (.int .u8 e4) := k4
            go_wp2_with fail
            refine (Hand.may_any e0 e1 e2 e3 e4 _).mono ?_
            rintro e w3 ⟨rfl, hb⟩
            clear k0 k1 k2 k3 k4
            have bk3 := blk_below (blk_new w2 _) hb
            have bb3 := below_step (below_alloc BB2.out _) hb
            clear hb
            generalize w2.heap.size = g2 at bk3 ⊢
            by_cases hm : Hand.mayp e0 e1 e2 e3 e4 = true
            · have HMY := Aside0.mk hm
              rw [hm]
              clear hm
              have bk4 := blk_drew bk3
              have bb4 := below_drew1 bb3
              have BK3 := Aside0.mk bk3
              clear bk3 bb3
              go_wp2
              refine start_ (n := 9) (S := fun w' => True) (ds := []) #[false, false, false, false, false, false, false, false, false] (by kernel_rfl) rfl rfl trivial (fun hHeld => ?_)
              generalize w3.drew = w4 at bk4 bb4
              have BK4 := Aside0.mk bk4
              have BB4 := Aside0.mk bb4
              clear bk4 bb4
              refine pure_ (i := 0) (N := some 52) (v := ?_) (a' := ?_) #[true, false, false, false, false, false, false, false, false] rfl rfl (by kernel_rfl) (fun _ _ _ h => h) (Or.inl ⟨by rfl, ?_⟩) ?_ ?_
              rotate_left
              · intro w'
                go_simp
                with_reducible rfl
              rotate_left
              · simp only [Act.put, List.setIfInBounds_toArray, List.set_cons_zero, List.set_cons_succ, i64_w, i32_w]
                rfl
              refine pure_ (i := 4) (N := some 56) (v := ?_) (a' := ?_) #[true, false, false, false, true, false, false, false, false] rfl rfl (by kernel_rfl) (fun _ _ _ h => h) (Or.inl ⟨by rfl, ?_⟩) ?_ ?_
              rotate_left
              · intro w'
                go_simp
                with_reducible rfl
              rotate_left
              · simp only [Act.put, List.setIfInBounds_toArray, List.set_cons_zero, List.set_cons_succ, i64_w, i32_w]
                rfl
              refine pure_ (i := 5) (N := some 57) (v := ?_) (a' := ?_) #[true, false, false, false, true, true, false, false, false] rfl rfl (by kernel_rfl) (fun _ _ _ h => h) (Or.inl ⟨by rfl, ?_⟩) ?_ ?_
              rotate_left
              · intro w'
                go_simp
                with_reducible rfl
              rotate_left
              · simp only [Act.put, List.setIfInBounds_toArray, List.set_cons_zero, List.set_cons_succ, i64_w, i32_w]
                rfl
              refine pure_ (i := 6) (N := some 58) (v := ?_) (a' := ?_) #[true, false, false, false, true, true, true, false, false] rfl rfl (by kernel_rfl) (fun _ _ _ h => h) (Or.inl ⟨by rfl, ?_⟩) ?_ ?_
              rotate_left
              · intro w'
                go_simp
                with_reducible rfl
              rotate_left
              · simp only [Act.put, List.setIfInBounds_toArray, List.set_cons_zero, List.set_cons_succ, i64_w, i32_w]
                rfl
              refine one_ (i := 1) (N := some 53) #[true, true, false, false, true, true, true, false, false] rfl rfl (by kernel_rfl) (by decide) (fun K hK => ?_)
              have k0 : w4.cell? ⟨g2, 0, none⟩ = some (.int .u8 e0) := (blk_cell BK4.out 0).trans rfl
              have k1 : w4.cell? ⟨g2, 1, none⟩ = some (.int .u8 e1) := (blk_cell BK4.out 1).trans rfl
              have k2 : w4.cell? ⟨g2, 2, none⟩ = some (.int .u8 e2) := (blk_cell BK4.out 2).trans rfl
              have k3 : w4.cell? ⟨g2, 3, none⟩ = some (.int .u8 e3) := (blk_cell BK4.out 3).trans rfl
              have k4 : w4.cell? ⟨g2, 4, none⟩ = some (.int .u8 e4) := (blk_cell BK4.out 4).trans rfl
              refine event_step (w1 := w4) (v := .agg #[.int .u8 e0, .int .u8 e1, .int .u8 e2, .int .u8 e3, .int .u8 e4]) (by rfl) (by go_simp) ?_
              clear k0 k1 k2 k3 k4
              refine hK.out _ _ trivial (fun hHeld => ?_)
              clear hK K
              refine norm_ (a' := ?_) ?_ ?_
              rotate_left
              · show Act.put _ (some 53) _ = _
                simp only [Act.put, List.setIfInBounds_toArray, List.set_cons_zero, List.set_cons_succ, i64_w, i32_w]
                rfl
              refine one_ (i := 2) (N := some 54) #[true, true, true, false, true, true, true, false, false] rfl rfl (by kernel_rfl) (by decide) (fun K hK => ?_)
              refine event_step (w1 := w4.alloc (.cells #[.int .u8 e0, .int .u8 e1, .int .u8 e2, .int .u8 e3, .int .u8 e4] 28)) (v := .slice (some ⟨w4.heap.size, 0, none⟩) 1 1) (by rfl) (by go_simp) ?_
              refine hK.out _ _ trivial (fun hHeld => ?_)
              clear hK K
              refine norm_ (a' := ?_) ?_ ?_
              rotate_left
              · show Act.put _ (some 54) _ = _
                simp only [Act.put, List.setIfInBounds_toArray, List.set_cons_zero, List.set_cons_succ, i64_w, i32_w]
                rfl
              refine one_ (i := 3) (N := some 55) #[true, true, true, true, true, true, true, false, false] rfl rfl (by kernel_rfl) (by decide) (fun K hK => ?_)
              refine Kd.R_append_step k28 (w0 := w) w.heap.size (by rfl) (.tmp 52) (.tmp 54) 24 28 (.agg #[(.int .u8 0), (.int .u8 0), (.int .u8 0), (.int .u8 0), (.int .u8 0)]) 5 rfl Try.underlying24 infoE28 rfl (by decide) (by omega) u4 (out.map toS28) (⟨e0, ⟨e1, e2, e3, e4⟩⟩ : S28) [.int .u8 e0, .int .u8 e1, .int .u8 e2, .int .u8 e3, .int .u8 e4] (fun _ => True) (fun _ => False) rfl rfl (k28_mkM _ _ _ _) (fun _ hk => hk.elim) (fun _ _ => trivial) (Kd.R_below HO.out BB4.out) (below_step HB.out BB4.out) (below_size (below_step HB.out BB4.out)) (by have := HL.out; rw [List.length_map]; omega) ?_
              intro v1 w5 ho hb hg hat
              have HO5 := Aside0.mk ho
              have HB5 := Aside0.mk hb
              clear ho hb hg hat
              refine hK.out _ _ trivial (fun hHeld => ?_)
              clear hK K
              refine norm_ (a' := ?_) ?_ ?_
              rotate_left
              · show Act.put _ (some 55) _ = _
                simp only [Act.put, List.setIfInBounds_toArray, List.set_cons_zero, List.set_cons_succ, i64_w, i32_w]
                rfl
              refine pure_ (i := 7) (N := some 4) (v := ?_) (a' := ?_) #[true, true, true, true, true, true, true, true, false] rfl rfl (by kernel_rfl) (fun _ _ _ h => h) (Or.inl ⟨by rfl, ?_⟩) ?_ ?_
              rotate_left
              · intro w'
                go_simp
                with_reducible rfl
              rotate_left
              · simp only [Act.put, List.setIfInBounds_toArray, List.set_cons_zero, List.set_cons_succ, i64_w, i32_w]
                rfl
              refine pure_ (i := 8) (N := some 0) (v := ?_) (a' := ?_) #[true, true, true, true, true, true, true, true, true] rfl rfl (by kernel_rfl) (fun _ _ _ h => h) (Or.inl ⟨by rfl, ?_⟩) ?_ ?_
              rotate_left
              · intro w'
                go_simp
                with_reducible rfl
              rotate_left
              · simp only [Act.put, List.setIfInBounds_toArray, List.set_cons_zero, List.set_cons_succ, i64_w, i32_w]
                rfl
              refine done_ (by kernel_rfl) ?_
              go_wp2
              refine ⟨⟨sv.extract m sv.size, out ++ [(e0, e1, e2, e3, e4)], rfl, ⟨?_⟩, ⟨?_⟩, ⟨?_⟩, HB5⟩, ?_⟩
              · have := HL.out
                have := H2.out
                have := HM.out
                have := argsp_range (bt sv 1)
                rw [List.length_append, ByteArray.size_extract]
                simp only [List.length_cons, List.length_nil]
                omega
              · exact decR_more a0 sv out m (e0, e1, e2, e3, e4) HM.out H3.out HE.out HMY.out HEQ.out
              · rw [List.map_append]
                exact HO5.out
              · show (sv.extract m sv.size).size < sv.size
                have := H2.out
                have := HM.out
                have := argsp_range (bt sv 1)
                rw [ByteArray.size_extract]
                omega
            · replace hm : Hand.mayp e0 e1 e2 e3 e4 = false := by simpa using hm
              have HMN := Aside0.mk hm
              rw [hm]
              have BB3 := Aside0.mk bb3
              clear hm bk3 bb3
              go_wp2
              rw [Exit.noGoto_ret]
              go_ret2
              obtain ⟨rfl, rfl⟩ := decF_none HF.out C2.out (decR_none a0 sv out H0.out (.inr (.inr (by rw [← HE.out]; exact HMN.out))) HEQ.out)
              exact ⟨_, rfl, Kd.R_nil _ _ _ _ _, below_step HB.out BB3.out⟩

/-! ### demesnelaw11_wakes: function 6 -/
def demesnelaw11_wakes.f  : Option (Bool) := (script_Decode.f (⟨#[0, 1, 2, 1, 3, 0, 0, 255, 13]⟩ : ByteArray)).bind fun bt101 => (if bt101.2 = 0 then (if (bt101.1.length : Int) = 3 then ((script_Encode.f bt101.1).bind fun bt105 => (if 0 < (bt101.1.length : Int) then (if (((rd_T28 bt101.1 0).f0) == 0 && ((((rd_T28 bt101.1 0).f1.f0) == 1 && (((rd_T28 bt101.1 0).f1.f1) == 2 && (((rd_T28 bt101.1 0).f1.f2) == 1 && (((rd_T28 bt101.1 0).f1.f3) == 3)))))) = true then (if 1 < (bt101.1.length : Int) then (if (((rd_T28 bt101.1 1).f0) == 0 && ((((rd_T28 bt101.1 1).f1.f0) == 0 && (((rd_T28 bt101.1 1).f1.f1) == 0 && (((rd_T28 bt101.1 1).f1.f2) == 0 && (((rd_T28 bt101.1 1).f1.f3) == 0)))))) = true then (if 2 < (bt101.1.length : Int) then (if (((rd_T28 bt101.1 2).f0) == 255 && ((((rd_T28 bt101.1 2).f1.f0) == 13 && (((rd_T28 bt101.1 2).f1.f1) == 0 && (((rd_T28 bt101.1 2).f1.f2) == 0 && (((rd_T28 bt101.1 2).f1.f3) == 0)))))) = true then (if bt105.2 = 0 then (some ((bt105.1.size : Int) == 9)) else (some false)) else (some false)) else (none)) else (some false)) else (none)) else (some false)) else (none))) else (some false)) else (some false))
set_option maxHeartbeats 8000000 in
set_option maxRecDepth 100000 in
theorem demesnelaw11_wakes.calls  (r : Bool) (w : World) (h : demesnelaw11_wakes.f  = some r) :
    Calls Try.prog 6 #[] w fun e w' => e = .returned (.bool r) ∧ Below w.heap.size w w' := by
  have hu28 := Try.underlying28
  have hu26 := Try.underlying26
  have HB := Aside0.mk (Below.refl w.heap.size w)
  have H : ((script_Decode.f (⟨#[0, 1, 2, 1, 3, 0, 0, 255, 13]⟩ : ByteArray)).bind fun bt101 => (if bt101.2 = 0 then (if (bt101.1.length : Int) = 3 then ((script_Encode.f bt101.1).bind fun bt105 => (if 0 < (bt101.1.length : Int) then (if (((rd_T28 bt101.1 0).f0) == 0 && ((((rd_T28 bt101.1 0).f1.f0) == 1 && (((rd_T28 bt101.1 0).f1.f1) == 2 && (((rd_T28 bt101.1 0).f1.f2) == 1 && (((rd_T28 bt101.1 0).f1.f3) == 3)))))) = true then (if 1 < (bt101.1.length : Int) then (if (((rd_T28 bt101.1 1).f0) == 0 && ((((rd_T28 bt101.1 1).f1.f0) == 0 && (((rd_T28 bt101.1 1).f1.f1) == 0 && (((rd_T28 bt101.1 1).f1.f2) == 0 && (((rd_T28 bt101.1 1).f1.f3) == 0)))))) = true then (if 2 < (bt101.1.length : Int) then (if (((rd_T28 bt101.1 2).f0) == 255 && ((((rd_T28 bt101.1 2).f1.f0) == 13 && (((rd_T28 bt101.1 2).f1.f1) == 0 && (((rd_T28 bt101.1 2).f1.f2) == 0 && (((rd_T28 bt101.1 2).f1.f3) == 0)))))) = true then (if bt105.2 = 0 then (some ((bt105.1.size : Int) == 9)) else (some false)) else (some false)) else (none)) else (some false)) else (none)) else (some false)) else (none))) else (some false)) else (some false))) = some r := h
  clear h
  replace H := Option.bind_eq_some_iff.mp H
  obtain ⟨⟨t101, t102⟩, A10, H⟩ := H
  replace H : (if t102 = 0 then (if (t101.length : Int) = 3 then ((script_Encode.f t101).bind fun bt105 => (if 0 < (t101.length : Int) then (if (((rd_T28 t101 0).f0) == 0 && ((((rd_T28 t101 0).f1.f0) == 1 && (((rd_T28 t101 0).f1.f1) == 2 && (((rd_T28 t101 0).f1.f2) == 1 && (((rd_T28 t101 0).f1.f3) == 3)))))) = true then (if 1 < (t101.length : Int) then (if (((rd_T28 t101 1).f0) == 0 && ((((rd_T28 t101 1).f1.f0) == 0 && (((rd_T28 t101 1).f1.f1) == 0 && (((rd_T28 t101 1).f1.f2) == 0 && (((rd_T28 t101 1).f1.f3) == 0)))))) = true then (if 2 < (t101.length : Int) then (if (((rd_T28 t101 2).f0) == 255 && ((((rd_T28 t101 2).f1.f0) == 13 && (((rd_T28 t101 2).f1.f1) == 0 && (((rd_T28 t101 2).f1.f2) == 0 && (((rd_T28 t101 2).f1.f3) == 0)))))) = true then (if bt105.2 = 0 then (some ((bt105.1.size : Int) == 9)) else (some false)) else (some false)) else (none)) else (some false)) else (none)) else (some false)) else (none))) else (some false)) else (some false)) = some r := H
  have A1 := Aside0.mk A10
  clear A10
  by_cases c2 : t102 = 0
  · rw [if_pos c2] at H
    have c2b0 : (t102 == 0) = true := beq_iff_eq.mpr c2
    have c2b1 : (t102 != 0) = false := bne_eq_false_iff_eq.mpr c2
    clear c2
    by_cases c3 : (t101.length : Int) = 3
    · rw [if_pos c3] at H
      have c3b0 : ((t101.length : Int) == 3) = true := beq_iff_eq.mpr c3
      have c3b1 : ((t101.length : Int) != 3) = false := bne_eq_false_iff_eq.mpr c3
      clear c3
      replace H := Option.bind_eq_some_iff.mp H
      obtain ⟨⟨t105, t106⟩, A40, H⟩ := H
      replace H : (if 0 < (t101.length : Int) then (if (((rd_T28 t101 0).f0) == 0 && ((((rd_T28 t101 0).f1.f0) == 1 && (((rd_T28 t101 0).f1.f1) == 2 && (((rd_T28 t101 0).f1.f2) == 1 && (((rd_T28 t101 0).f1.f3) == 3)))))) = true then (if 1 < (t101.length : Int) then (if (((rd_T28 t101 1).f0) == 0 && ((((rd_T28 t101 1).f1.f0) == 0 && (((rd_T28 t101 1).f1.f1) == 0 && (((rd_T28 t101 1).f1.f2) == 0 && (((rd_T28 t101 1).f1.f3) == 0)))))) = true then (if 2 < (t101.length : Int) then (if (((rd_T28 t101 2).f0) == 255 && ((((rd_T28 t101 2).f1.f0) == 13 && (((rd_T28 t101 2).f1.f1) == 0 && (((rd_T28 t101 2).f1.f2) == 0 && (((rd_T28 t101 2).f1.f3) == 0)))))) = true then (if t106 = 0 then (some ((t105.size : Int) == 9)) else (some false)) else (some false)) else (none)) else (some false)) else (none)) else (some false)) else (none)) = some r := H
      have A4 := Aside0.mk A40
      clear A40
      by_cases c5 : 0 < (t101.length : Int)
      · rw [if_pos c5] at H
        have c5b0 : decide (0 < (t101.length : Int)) = true := decide_eq_true c5
        have c5b1 : decide (0 < t101.length) = true := decide_eq_true (by omega)
        clear c5
        by_cases c6 : (((rd_T28 t101 0).f0) == 0 && ((((rd_T28 t101 0).f1.f0) == 1 && (((rd_T28 t101 0).f1.f1) == 2 && (((rd_T28 t101 0).f1.f2) == 1 && (((rd_T28 t101 0).f1.f3) == 3)))))) = true
        · rw [if_pos c6] at H
          have c6b0 : (((rd_T28 t101 0).f0) == 0 && ((((rd_T28 t101 0).f1.f0) == 1 && (((rd_T28 t101 0).f1.f1) == 2 && (((rd_T28 t101 0).f1.f2) == 1 && (((rd_T28 t101 0).f1.f3) == 3)))))) = true := c6
          (try (have c6b1 : decide (((rd_T28 t101 0).f0) = 0 && ((((rd_T28 t101 0).f1.f0) == 1 && (((rd_T28 t101 0).f1.f1) == 2 && (((rd_T28 t101 0).f1.f2) == 1 && (((rd_T28 t101 0).f1.f3) == 3)))))) = true := by simpa using c6))
          (try (have c6b2 : (((rd_T28 t101 0).f0) == 0 && ((((rd_T28 t101 0).f1.f0) == 1 && (((rd_T28 t101 0).f1.f1) == 2 && (((rd_T28 t101 0).f1.f2) == 1 && (((rd_T28 t101 0).f1.f3) == 3)))))) = true := by simpa using c6))
          clear c6
          by_cases c7 : 1 < (t101.length : Int)
          · rw [if_pos c7] at H
            have c7b0 : decide (1 < (t101.length : Int)) = true := decide_eq_true c7
            have c7b1 : decide (1 < t101.length) = true := decide_eq_true (by omega)
            clear c7
            by_cases c8 : (((rd_T28 t101 1).f0) == 0 && ((((rd_T28 t101 1).f1.f0) == 0 && (((rd_T28 t101 1).f1.f1) == 0 && (((rd_T28 t101 1).f1.f2) == 0 && (((rd_T28 t101 1).f1.f3) == 0)))))) = true
            · rw [if_pos c8] at H
              have c8b0 : (((rd_T28 t101 1).f0) == 0 && ((((rd_T28 t101 1).f1.f0) == 0 && (((rd_T28 t101 1).f1.f1) == 0 && (((rd_T28 t101 1).f1.f2) == 0 && (((rd_T28 t101 1).f1.f3) == 0)))))) = true := c8
              (try (have c8b1 : decide (((rd_T28 t101 1).f0) = 0 && ((((rd_T28 t101 1).f1.f0) == 0 && (((rd_T28 t101 1).f1.f1) == 0 && (((rd_T28 t101 1).f1.f2) == 0 && (((rd_T28 t101 1).f1.f3) == 0)))))) = true := by simpa using c8))
              (try (have c8b2 : (((rd_T28 t101 1).f0) == 0 && ((((rd_T28 t101 1).f1.f0) == 0 && (((rd_T28 t101 1).f1.f1) == 0 && (((rd_T28 t101 1).f1.f2) == 0 && (((rd_T28 t101 1).f1.f3) == 0)))))) = true := by simpa using c8))
              clear c8
              by_cases c9 : 2 < (t101.length : Int)
              · rw [if_pos c9] at H
                have c9b0 : decide (2 < (t101.length : Int)) = true := decide_eq_true c9
                have c9b1 : decide (2 < t101.length) = true := decide_eq_true (by omega)
                clear c9
                by_cases c10 : (((rd_T28 t101 2).f0) == 255 && ((((rd_T28 t101 2).f1.f0) == 13 && (((rd_T28 t101 2).f1.f1) == 0 && (((rd_T28 t101 2).f1.f2) == 0 && (((rd_T28 t101 2).f1.f3) == 0)))))) = true
                · rw [if_pos c10] at H
                  have c10b0 : (((rd_T28 t101 2).f0) == 255 && ((((rd_T28 t101 2).f1.f0) == 13 && (((rd_T28 t101 2).f1.f1) == 0 && (((rd_T28 t101 2).f1.f2) == 0 && (((rd_T28 t101 2).f1.f3) == 0)))))) = true := c10
                  (try (have c10b1 : decide (((rd_T28 t101 2).f0) = 255 && ((((rd_T28 t101 2).f1.f0) == 13 && (((rd_T28 t101 2).f1.f1) == 0 && (((rd_T28 t101 2).f1.f2) == 0 && (((rd_T28 t101 2).f1.f3) == 0)))))) = true := by simpa using c10))
                  (try (have c10b2 : (((rd_T28 t101 2).f0) == 255 && ((((rd_T28 t101 2).f1.f0) == 13 && (((rd_T28 t101 2).f1.f1) == 0 && (((rd_T28 t101 2).f1.f2) == 0 && (((rd_T28 t101 2).f1.f3) == 0)))))) = true := by simpa using c10))
                  clear c10
                  by_cases c11 : t106 = 0
                  · rw [if_pos c11] at H
                    have c11b0 : (t106 == 0) = true := beq_iff_eq.mpr c11
                    have c11b1 : (t106 != 0) = false := bne_eq_false_iff_eq.mpr c11
                    clear c11
                    obtain rfl := Option.some.inj H
                    go_enter Try.func6, Try.ntmps6
                    go_wp2_with (first | ((with_reducible refine gate_callee (f := 14) rfl ?_); refine goesL_ (some 6) rfl rfl Try.func14 (by kernel_rfl) rfl #[.string (⟨#[0, 1, 2, 1, 3, 0, 0, 255, 13]⟩ : ByteArray)] rfl (by (try simp only [List.map_toArray, List.map_cons, List.map_nil]); first | done | rfl | (simp only [List.length_drop, List.length_take]; rfl)) ?_; (with_reducible refine (script_Decode.calls (⟨#[0, 1, 2, 1, 3, 0, 0, 255, 13]⟩ : ByteArray) t101 t102 _ A1.out).mono ?_); rintro e w12 ⟨v103, rfl, ho0, hb⟩; refine ⟨_, rfl, ?_⟩; have n0_ := Aside0.mk (Kd.R_lower ho0 (below_size (by repeat (first | (with_reducible first | exact HB.out | apply below_alloc | apply pw_below_drewN | apply below_drew1) | exact HB.out)))); have n1_ := Aside0.mk (below_step (by repeat (first | (with_reducible first | exact HB.out | apply below_alloc | apply pw_below_drewN | apply below_drew1) | exact HB.out)) hb); clear HB; have HO104 := n0_; have HB := n1_; clear n0_ n1_; (try clear hb); (try clear hb2); (try clear hk); (try clear hi); (try clear ho0); obtain ⟨Ao13, co13, eo13⟩ := Kd.R_slice HO104.out; subst eo13) | ((with_reducible refine gate_callee (f := 11) rfl ?_); refine goesL_ (some 18) rfl rfl Try.func11 (by kernel_rfl) rfl #[.slice Ao13 t101.length co13] rfl (by (try simp only [List.map_toArray, List.map_cons, List.map_nil]); first | done | rfl | (simp only [List.length_drop, List.length_take]; rfl)) ?_; (with_reducible refine (script_Encode.calls _ _ t101 t105 t106 _ ?side1 ?side2 A4.out).mono ?_); (case side1 => repeat (first | exact (Kd.R_reads' HO104.out).2.2 | (with_reducible refine Kd.C_alloc ?_ _) | (with_reducible refine Kd.C_drewN ?_ _) | (with_reducible refine Kd.C_drew ?_))); (case side2 => exact (Kd.R_reads' HO104.out).2.1); rintro e w14 ⟨rfl, hb⟩; refine ⟨_, rfl, ?_⟩; have n0_ := Aside0.mk (Kd.R_below (by (with_reducible repeat (first | apply Kd.R_alloc | apply Kd.R_drewN | apply Kd.R_drew)); exact HO104.out) hb); have n1_ := Aside0.mk (below_step (by repeat (first | (with_reducible first | exact HB.out | apply below_alloc | apply pw_below_drewN | apply below_drew1) | exact HB.out)) hb); clear HO104; clear HB; have HO104 := n0_; have HB := n1_; clear n0_ n1_; (try clear hb); (try clear hb2); (try clear hk); (try clear hi); have p107 : 0 ≤ (0 : Int) := (by omega); have q107 : 0 < (t101.length : Int) := of_decide_eq_true (by first | (with_reducible assumption) | assumption); obtain ⟨ad107, e107, hx107_0, hx107_1, hx107_2, hx107_3, hx107_4⟩ := at_T28 (Kd.R_reads' HO104.out).2.2 0 p107 q107; cases e107; have qi107 : (0 < t101.length) = True := eq_true (by omega); (try rw [show ((0 : Int)).toNat = 0 from rfl] at hx107_0); (try rw [show 0 * 5 = 0 from rfl] at hx107_0); (try rw [Addr.add_zero'] at hx107_0); (try rw [show ((0 : Int)).toNat = 0 from rfl] at hx107_1); (try rw [show 0 * 5 = 0 from rfl] at hx107_1); (try rw [Addr.add_zero'] at hx107_1); (try rw [show ((0 : Int)).toNat = 0 from rfl] at hx107_2); (try rw [show 0 * 5 = 0 from rfl] at hx107_2); (try rw [Addr.add_zero'] at hx107_2); (try rw [show ((0 : Int)).toNat = 0 from rfl] at hx107_3); (try rw [show 0 * 5 = 0 from rfl] at hx107_3); (try rw [Addr.add_zero'] at hx107_3); (try rw [show ((0 : Int)).toNat = 0 from rfl] at hx107_4); (try rw [show 0 * 5 = 0 from rfl] at hx107_4); (try rw [Addr.add_zero'] at hx107_4); replace p107 := eq_true p107; replace q107 := eq_true q107; have p108 : 0 ≤ (1 : Int) := (by omega); have q108 : 1 < (t101.length : Int) := of_decide_eq_true (by first | (with_reducible assumption) | assumption); obtain ⟨ad108, e108, hx108_0, hx108_1, hx108_2, hx108_3, hx108_4⟩ := at_T28 (Kd.R_reads' HO104.out).2.2 1 p108 q108; obtain rfl : ad107 = ad108 := (by injection e108); (try simp only [show (1 : Int).toNat = 1 from rfl, Nat.reduceMul, Nat.reduceEqDiff, Go.Addr.add, ↓reduceIte] at hx108_0); (try simp only [show (1 : Int).toNat = 1 from rfl, Nat.reduceMul, Nat.reduceEqDiff, Go.Addr.add, ↓reduceIte] at hx108_1); (try simp only [show (1 : Int).toNat = 1 from rfl, Nat.reduceMul, Nat.reduceEqDiff, Go.Addr.add, ↓reduceIte] at hx108_2); (try simp only [show (1 : Int).toNat = 1 from rfl, Nat.reduceMul, Nat.reduceEqDiff, Go.Addr.add, ↓reduceIte] at hx108_3); (try simp only [show (1 : Int).toNat = 1 from rfl, Nat.reduceMul, Nat.reduceEqDiff, Go.Addr.add, ↓reduceIte] at hx108_4); have qi108 : (1 < t101.length) = True := eq_true (by omega); (try rw [show ((1 : Int)).toNat = 1 from rfl] at hx108_0); (try rw [show 1 * 5 = 5 from rfl] at hx108_0); (try rw [show ((1 : Int)).toNat = 1 from rfl] at hx108_1); (try rw [show 1 * 5 = 5 from rfl] at hx108_1); (try rw [show ((1 : Int)).toNat = 1 from rfl] at hx108_2); (try rw [show 1 * 5 = 5 from rfl] at hx108_2); (try rw [show ((1 : Int)).toNat = 1 from rfl] at hx108_3); (try rw [show 1 * 5 = 5 from rfl] at hx108_3); (try rw [show ((1 : Int)).toNat = 1 from rfl] at hx108_4); (try rw [show 1 * 5 = 5 from rfl] at hx108_4); replace p108 := eq_true p108; replace q108 := eq_true q108; have p109 : 0 ≤ (2 : Int) := (by omega); have q109 : 2 < (t101.length : Int) := of_decide_eq_true (by first | (with_reducible assumption) | assumption); obtain ⟨ad109, e109, hx109_0, hx109_1, hx109_2, hx109_3, hx109_4⟩ := at_T28 (Kd.R_reads' HO104.out).2.2 2 p109 q109; obtain rfl : ad107 = ad109 := (by injection e109); (try simp only [show (2 : Int).toNat = 2 from rfl, Nat.reduceMul, Nat.reduceEqDiff, Go.Addr.add, ↓reduceIte] at hx109_0); (try simp only [show (2 : Int).toNat = 2 from rfl, Nat.reduceMul, Nat.reduceEqDiff, Go.Addr.add, ↓reduceIte] at hx109_1); (try simp only [show (2 : Int).toNat = 2 from rfl, Nat.reduceMul, Nat.reduceEqDiff, Go.Addr.add, ↓reduceIte] at hx109_2); (try simp only [show (2 : Int).toNat = 2 from rfl, Nat.reduceMul, Nat.reduceEqDiff, Go.Addr.add, ↓reduceIte] at hx109_3); (try simp only [show (2 : Int).toNat = 2 from rfl, Nat.reduceMul, Nat.reduceEqDiff, Go.Addr.add, ↓reduceIte] at hx109_4); have qi109 : (2 < t101.length) = True := eq_true (by omega); (try rw [show ((2 : Int)).toNat = 2 from rfl] at hx109_0); (try rw [show 2 * 5 = 10 from rfl] at hx109_0); (try rw [show ((2 : Int)).toNat = 2 from rfl] at hx109_1); (try rw [show 2 * 5 = 10 from rfl] at hx109_1); (try rw [show ((2 : Int)).toNat = 2 from rfl] at hx109_2); (try rw [show 2 * 5 = 10 from rfl] at hx109_2); (try rw [show ((2 : Int)).toNat = 2 from rfl] at hx109_3); (try rw [show 2 * 5 = 10 from rfl] at hx109_3); (try rw [show ((2 : Int)).toNat = 2 from rfl] at hx109_4); (try rw [show 2 * 5 = 10 from rfl] at hx109_4); replace p109 := eq_true p109; replace q109 := eq_true q109))
                    go_ret
                    exact ⟨by first | rfl | (simp [errW_none, errW_some] <;> rfl) | (simp [*, errW_none, errW_some] <;> rfl), by repeat (first | (with_reducible first | exact HB.out | apply below_alloc | apply pw_below_drewN | apply below_drew1) | exact HB.out)⟩
                  · rw [if_neg c11] at H
                    have c11b0 : (t106 == 0) = false := beq_eq_false_iff_ne.mpr c11
                    have c11b1 : (t106 != 0) = true := bne_iff_ne.mpr c11
                    obtain rfl := Option.some.inj H
                    go_enter Try.func6, Try.ntmps6
                    go_wp2_with (first | ((with_reducible refine gate_callee (f := 14) rfl ?_); refine goesL_ (some 6) rfl rfl Try.func14 (by kernel_rfl) rfl #[.string (⟨#[0, 1, 2, 1, 3, 0, 0, 255, 13]⟩ : ByteArray)] rfl (by (try simp only [List.map_toArray, List.map_cons, List.map_nil]); first | done | rfl | (simp only [List.length_drop, List.length_take]; rfl)) ?_; (with_reducible refine (script_Decode.calls (⟨#[0, 1, 2, 1, 3, 0, 0, 255, 13]⟩ : ByteArray) t101 t102 _ A1.out).mono ?_); rintro e w15 ⟨v103, rfl, ho0, hb⟩; refine ⟨_, rfl, ?_⟩; have n0_ := Aside0.mk (Kd.R_lower ho0 (below_size (by repeat (first | (with_reducible first | exact HB.out | apply below_alloc | apply pw_below_drewN | apply below_drew1) | exact HB.out)))); have n1_ := Aside0.mk (below_step (by repeat (first | (with_reducible first | exact HB.out | apply below_alloc | apply pw_below_drewN | apply below_drew1) | exact HB.out)) hb); clear HB; have HO104 := n0_; have HB := n1_; clear n0_ n1_; (try clear hb); (try clear hb2); (try clear hk); (try clear hi); (try clear ho0); obtain ⟨Ao16, co16, eo16⟩ := Kd.R_slice HO104.out; subst eo16) | ((with_reducible refine gate_callee (f := 11) rfl ?_); refine goesL_ (some 18) rfl rfl Try.func11 (by kernel_rfl) rfl #[.slice Ao16 t101.length co16] rfl (by (try simp only [List.map_toArray, List.map_cons, List.map_nil]); first | done | rfl | (simp only [List.length_drop, List.length_take]; rfl)) ?_; (with_reducible refine (script_Encode.calls _ _ t101 t105 t106 _ ?side1 ?side2 A4.out).mono ?_); (case side1 => repeat (first | exact (Kd.R_reads' HO104.out).2.2 | (with_reducible refine Kd.C_alloc ?_ _) | (with_reducible refine Kd.C_drewN ?_ _) | (with_reducible refine Kd.C_drew ?_))); (case side2 => exact (Kd.R_reads' HO104.out).2.1); rintro e w17 ⟨rfl, hb⟩; refine ⟨_, rfl, ?_⟩; have n0_ := Aside0.mk (Kd.R_below (by (with_reducible repeat (first | apply Kd.R_alloc | apply Kd.R_drewN | apply Kd.R_drew)); exact HO104.out) hb); have n1_ := Aside0.mk (below_step (by repeat (first | (with_reducible first | exact HB.out | apply below_alloc | apply pw_below_drewN | apply below_drew1) | exact HB.out)) hb); clear HO104; clear HB; have HO104 := n0_; have HB := n1_; clear n0_ n1_; (try clear hb); (try clear hb2); (try clear hk); (try clear hi); have p107 : 0 ≤ (0 : Int) := (by omega); have q107 : 0 < (t101.length : Int) := of_decide_eq_true (by first | (with_reducible assumption) | assumption); obtain ⟨ad107, e107, hx107_0, hx107_1, hx107_2, hx107_3, hx107_4⟩ := at_T28 (Kd.R_reads' HO104.out).2.2 0 p107 q107; cases e107; have qi107 : (0 < t101.length) = True := eq_true (by omega); (try rw [show ((0 : Int)).toNat = 0 from rfl] at hx107_0); (try rw [show 0 * 5 = 0 from rfl] at hx107_0); (try rw [Addr.add_zero'] at hx107_0); (try rw [show ((0 : Int)).toNat = 0 from rfl] at hx107_1); (try rw [show 0 * 5 = 0 from rfl] at hx107_1); (try rw [Addr.add_zero'] at hx107_1); (try rw [show ((0 : Int)).toNat = 0 from rfl] at hx107_2); (try rw [show 0 * 5 = 0 from rfl] at hx107_2); (try rw [Addr.add_zero'] at hx107_2); (try rw [show ((0 : Int)).toNat = 0 from rfl] at hx107_3); (try rw [show 0 * 5 = 0 from rfl] at hx107_3); (try rw [Addr.add_zero'] at hx107_3); (try rw [show ((0 : Int)).toNat = 0 from rfl] at hx107_4); (try rw [show 0 * 5 = 0 from rfl] at hx107_4); (try rw [Addr.add_zero'] at hx107_4); replace p107 := eq_true p107; replace q107 := eq_true q107; have p108 : 0 ≤ (1 : Int) := (by omega); have q108 : 1 < (t101.length : Int) := of_decide_eq_true (by first | (with_reducible assumption) | assumption); obtain ⟨ad108, e108, hx108_0, hx108_1, hx108_2, hx108_3, hx108_4⟩ := at_T28 (Kd.R_reads' HO104.out).2.2 1 p108 q108; obtain rfl : ad107 = ad108 := (by injection e108); (try simp only [show (1 : Int).toNat = 1 from rfl, Nat.reduceMul, Nat.reduceEqDiff, Go.Addr.add, ↓reduceIte] at hx108_0); (try simp only [show (1 : Int).toNat = 1 from rfl, Nat.reduceMul, Nat.reduceEqDiff, Go.Addr.add, ↓reduceIte] at hx108_1); (try simp only [show (1 : Int).toNat = 1 from rfl, Nat.reduceMul, Nat.reduceEqDiff, Go.Addr.add, ↓reduceIte] at hx108_2); (try simp only [show (1 : Int).toNat = 1 from rfl, Nat.reduceMul, Nat.reduceEqDiff, Go.Addr.add, ↓reduceIte] at hx108_3); (try simp only [show (1 : Int).toNat = 1 from rfl, Nat.reduceMul, Nat.reduceEqDiff, Go.Addr.add, ↓reduceIte] at hx108_4); have qi108 : (1 < t101.length) = True := eq_true (by omega); (try rw [show ((1 : Int)).toNat = 1 from rfl] at hx108_0); (try rw [show 1 * 5 = 5 from rfl] at hx108_0); (try rw [show ((1 : Int)).toNat = 1 from rfl] at hx108_1); (try rw [show 1 * 5 = 5 from rfl] at hx108_1); (try rw [show ((1 : Int)).toNat = 1 from rfl] at hx108_2); (try rw [show 1 * 5 = 5 from rfl] at hx108_2); (try rw [show ((1 : Int)).toNat = 1 from rfl] at hx108_3); (try rw [show 1 * 5 = 5 from rfl] at hx108_3); (try rw [show ((1 : Int)).toNat = 1 from rfl] at hx108_4); (try rw [show 1 * 5 = 5 from rfl] at hx108_4); replace p108 := eq_true p108; replace q108 := eq_true q108; have p109 : 0 ≤ (2 : Int) := (by omega); have q109 : 2 < (t101.length : Int) := of_decide_eq_true (by first | (with_reducible assumption) | assumption); obtain ⟨ad109, e109, hx109_0, hx109_1, hx109_2, hx109_3, hx109_4⟩ := at_T28 (Kd.R_reads' HO104.out).2.2 2 p109 q109; obtain rfl : ad107 = ad109 := (by injection e109); (try simp only [show (2 : Int).toNat = 2 from rfl, Nat.reduceMul, Nat.reduceEqDiff, Go.Addr.add, ↓reduceIte] at hx109_0); (try simp only [show (2 : Int).toNat = 2 from rfl, Nat.reduceMul, Nat.reduceEqDiff, Go.Addr.add, ↓reduceIte] at hx109_1); (try simp only [show (2 : Int).toNat = 2 from rfl, Nat.reduceMul, Nat.reduceEqDiff, Go.Addr.add, ↓reduceIte] at hx109_2); (try simp only [show (2 : Int).toNat = 2 from rfl, Nat.reduceMul, Nat.reduceEqDiff, Go.Addr.add, ↓reduceIte] at hx109_3); (try simp only [show (2 : Int).toNat = 2 from rfl, Nat.reduceMul, Nat.reduceEqDiff, Go.Addr.add, ↓reduceIte] at hx109_4); have qi109 : (2 < t101.length) = True := eq_true (by omega); (try rw [show ((2 : Int)).toNat = 2 from rfl] at hx109_0); (try rw [show 2 * 5 = 10 from rfl] at hx109_0); (try rw [show ((2 : Int)).toNat = 2 from rfl] at hx109_1); (try rw [show 2 * 5 = 10 from rfl] at hx109_1); (try rw [show ((2 : Int)).toNat = 2 from rfl] at hx109_2); (try rw [show 2 * 5 = 10 from rfl] at hx109_2); (try rw [show ((2 : Int)).toNat = 2 from rfl] at hx109_3); (try rw [show 2 * 5 = 10 from rfl] at hx109_3); (try rw [show ((2 : Int)).toNat = 2 from rfl] at hx109_4); (try rw [show 2 * 5 = 10 from rfl] at hx109_4); replace p109 := eq_true p109; replace q109 := eq_true q109))
                    go_ret
                    exact ⟨by first | rfl | (simp [errW_none, errW_some] <;> rfl) | (simp [*, errW_none, errW_some] <;> rfl), by repeat (first | (with_reducible first | exact HB.out | apply below_alloc | apply pw_below_drewN | apply below_drew1) | exact HB.out)⟩
                · rw [if_neg c10] at H
                  have c10b0 : (((rd_T28 t101 2).f0) == 255 && ((((rd_T28 t101 2).f1.f0) == 13 && (((rd_T28 t101 2).f1.f1) == 0 && (((rd_T28 t101 2).f1.f2) == 0 && (((rd_T28 t101 2).f1.f3) == 0)))))) = false := by simpa using c10
                  (try (have c10b1 : decide (((rd_T28 t101 2).f0) = 255 && ((((rd_T28 t101 2).f1.f0) == 13 && (((rd_T28 t101 2).f1.f1) == 0 && (((rd_T28 t101 2).f1.f2) == 0 && (((rd_T28 t101 2).f1.f3) == 0)))))) = false := by simpa using c10))
                  (try (have c10b2 : (((rd_T28 t101 2).f0) == 255 && ((((rd_T28 t101 2).f1.f0) == 13 && (((rd_T28 t101 2).f1.f1) == 0 && (((rd_T28 t101 2).f1.f2) == 0 && (((rd_T28 t101 2).f1.f3) == 0)))))) = false := by simpa using c10))
                  (try (have c10b3 : ¬ (((rd_T28 t101 2).f0) = 255 && ((((rd_T28 t101 2).f1.f0) == 13 && (((rd_T28 t101 2).f1.f1) == 0 && (((rd_T28 t101 2).f1.f2) == 0 && (((rd_T28 t101 2).f1.f3) == 0)))))) := by simpa using c10))
                  clear c10
                  obtain rfl := Option.some.inj H
                  go_enter Try.func6, Try.ntmps6
                  go_wp2_with (first | ((with_reducible refine gate_callee (f := 14) rfl ?_); refine goesL_ (some 6) rfl rfl Try.func14 (by kernel_rfl) rfl #[.string (⟨#[0, 1, 2, 1, 3, 0, 0, 255, 13]⟩ : ByteArray)] rfl (by (try simp only [List.map_toArray, List.map_cons, List.map_nil]); first | done | rfl | (simp only [List.length_drop, List.length_take]; rfl)) ?_; (with_reducible refine (script_Decode.calls (⟨#[0, 1, 2, 1, 3, 0, 0, 255, 13]⟩ : ByteArray) t101 t102 _ A1.out).mono ?_); rintro e w18 ⟨v103, rfl, ho0, hb⟩; refine ⟨_, rfl, ?_⟩; have n0_ := Aside0.mk (Kd.R_lower ho0 (below_size (by repeat (first | (with_reducible first | exact HB.out | apply below_alloc | apply pw_below_drewN | apply below_drew1) | exact HB.out)))); have n1_ := Aside0.mk (below_step (by repeat (first | (with_reducible first | exact HB.out | apply below_alloc | apply pw_below_drewN | apply below_drew1) | exact HB.out)) hb); clear HB; have HO104 := n0_; have HB := n1_; clear n0_ n1_; (try clear hb); (try clear hb2); (try clear hk); (try clear hi); (try clear ho0); obtain ⟨Ao19, co19, eo19⟩ := Kd.R_slice HO104.out; subst eo19) | ((with_reducible refine gate_callee (f := 11) rfl ?_); refine goesL_ (some 18) rfl rfl Try.func11 (by kernel_rfl) rfl #[.slice Ao19 t101.length co19] rfl (by (try simp only [List.map_toArray, List.map_cons, List.map_nil]); first | done | rfl | (simp only [List.length_drop, List.length_take]; rfl)) ?_; (with_reducible refine (script_Encode.calls _ _ t101 t105 t106 _ ?side1 ?side2 A4.out).mono ?_); (case side1 => repeat (first | exact (Kd.R_reads' HO104.out).2.2 | (with_reducible refine Kd.C_alloc ?_ _) | (with_reducible refine Kd.C_drewN ?_ _) | (with_reducible refine Kd.C_drew ?_))); (case side2 => exact (Kd.R_reads' HO104.out).2.1); rintro e w20 ⟨rfl, hb⟩; refine ⟨_, rfl, ?_⟩; have n0_ := Aside0.mk (Kd.R_below (by (with_reducible repeat (first | apply Kd.R_alloc | apply Kd.R_drewN | apply Kd.R_drew)); exact HO104.out) hb); have n1_ := Aside0.mk (below_step (by repeat (first | (with_reducible first | exact HB.out | apply below_alloc | apply pw_below_drewN | apply below_drew1) | exact HB.out)) hb); clear HO104; clear HB; have HO104 := n0_; have HB := n1_; clear n0_ n1_; (try clear hb); (try clear hb2); (try clear hk); (try clear hi); have p107 : 0 ≤ (0 : Int) := (by omega); have q107 : 0 < (t101.length : Int) := of_decide_eq_true (by first | (with_reducible assumption) | assumption); obtain ⟨ad107, e107, hx107_0, hx107_1, hx107_2, hx107_3, hx107_4⟩ := at_T28 (Kd.R_reads' HO104.out).2.2 0 p107 q107; cases e107; have qi107 : (0 < t101.length) = True := eq_true (by omega); (try rw [show ((0 : Int)).toNat = 0 from rfl] at hx107_0); (try rw [show 0 * 5 = 0 from rfl] at hx107_0); (try rw [Addr.add_zero'] at hx107_0); (try rw [show ((0 : Int)).toNat = 0 from rfl] at hx107_1); (try rw [show 0 * 5 = 0 from rfl] at hx107_1); (try rw [Addr.add_zero'] at hx107_1); (try rw [show ((0 : Int)).toNat = 0 from rfl] at hx107_2); (try rw [show 0 * 5 = 0 from rfl] at hx107_2); (try rw [Addr.add_zero'] at hx107_2); (try rw [show ((0 : Int)).toNat = 0 from rfl] at hx107_3); (try rw [show 0 * 5 = 0 from rfl] at hx107_3); (try rw [Addr.add_zero'] at hx107_3); (try rw [show ((0 : Int)).toNat = 0 from rfl] at hx107_4); (try rw [show 0 * 5 = 0 from rfl] at hx107_4); (try rw [Addr.add_zero'] at hx107_4); replace p107 := eq_true p107; replace q107 := eq_true q107; have p108 : 0 ≤ (1 : Int) := (by omega); have q108 : 1 < (t101.length : Int) := of_decide_eq_true (by first | (with_reducible assumption) | assumption); obtain ⟨ad108, e108, hx108_0, hx108_1, hx108_2, hx108_3, hx108_4⟩ := at_T28 (Kd.R_reads' HO104.out).2.2 1 p108 q108; obtain rfl : ad107 = ad108 := (by injection e108); (try simp only [show (1 : Int).toNat = 1 from rfl, Nat.reduceMul, Nat.reduceEqDiff, Go.Addr.add, ↓reduceIte] at hx108_0); (try simp only [show (1 : Int).toNat = 1 from rfl, Nat.reduceMul, Nat.reduceEqDiff, Go.Addr.add, ↓reduceIte] at hx108_1); (try simp only [show (1 : Int).toNat = 1 from rfl, Nat.reduceMul, Nat.reduceEqDiff, Go.Addr.add, ↓reduceIte] at hx108_2); (try simp only [show (1 : Int).toNat = 1 from rfl, Nat.reduceMul, Nat.reduceEqDiff, Go.Addr.add, ↓reduceIte] at hx108_3); (try simp only [show (1 : Int).toNat = 1 from rfl, Nat.reduceMul, Nat.reduceEqDiff, Go.Addr.add, ↓reduceIte] at hx108_4); have qi108 : (1 < t101.length) = True := eq_true (by omega); (try rw [show ((1 : Int)).toNat = 1 from rfl] at hx108_0); (try rw [show 1 * 5 = 5 from rfl] at hx108_0); (try rw [show ((1 : Int)).toNat = 1 from rfl] at hx108_1); (try rw [show 1 * 5 = 5 from rfl] at hx108_1); (try rw [show ((1 : Int)).toNat = 1 from rfl] at hx108_2); (try rw [show 1 * 5 = 5 from rfl] at hx108_2); (try rw [show ((1 : Int)).toNat = 1 from rfl] at hx108_3); (try rw [show 1 * 5 = 5 from rfl] at hx108_3); (try rw [show ((1 : Int)).toNat = 1 from rfl] at hx108_4); (try rw [show 1 * 5 = 5 from rfl] at hx108_4); replace p108 := eq_true p108; replace q108 := eq_true q108; have p109 : 0 ≤ (2 : Int) := (by omega); have q109 : 2 < (t101.length : Int) := of_decide_eq_true (by first | (with_reducible assumption) | assumption); obtain ⟨ad109, e109, hx109_0, hx109_1, hx109_2, hx109_3, hx109_4⟩ := at_T28 (Kd.R_reads' HO104.out).2.2 2 p109 q109; obtain rfl : ad107 = ad109 := (by injection e109); (try simp only [show (2 : Int).toNat = 2 from rfl, Nat.reduceMul, Nat.reduceEqDiff, Go.Addr.add, ↓reduceIte] at hx109_0); (try simp only [show (2 : Int).toNat = 2 from rfl, Nat.reduceMul, Nat.reduceEqDiff, Go.Addr.add, ↓reduceIte] at hx109_1); (try simp only [show (2 : Int).toNat = 2 from rfl, Nat.reduceMul, Nat.reduceEqDiff, Go.Addr.add, ↓reduceIte] at hx109_2); (try simp only [show (2 : Int).toNat = 2 from rfl, Nat.reduceMul, Nat.reduceEqDiff, Go.Addr.add, ↓reduceIte] at hx109_3); (try simp only [show (2 : Int).toNat = 2 from rfl, Nat.reduceMul, Nat.reduceEqDiff, Go.Addr.add, ↓reduceIte] at hx109_4); have qi109 : (2 < t101.length) = True := eq_true (by omega); (try rw [show ((2 : Int)).toNat = 2 from rfl] at hx109_0); (try rw [show 2 * 5 = 10 from rfl] at hx109_0); (try rw [show ((2 : Int)).toNat = 2 from rfl] at hx109_1); (try rw [show 2 * 5 = 10 from rfl] at hx109_1); (try rw [show ((2 : Int)).toNat = 2 from rfl] at hx109_2); (try rw [show 2 * 5 = 10 from rfl] at hx109_2); (try rw [show ((2 : Int)).toNat = 2 from rfl] at hx109_3); (try rw [show 2 * 5 = 10 from rfl] at hx109_3); (try rw [show ((2 : Int)).toNat = 2 from rfl] at hx109_4); (try rw [show 2 * 5 = 10 from rfl] at hx109_4); replace p109 := eq_true p109; replace q109 := eq_true q109))
                  go_ret
                  exact ⟨by first | rfl | (simp [errW_none, errW_some] <;> rfl) | (simp [*, errW_none, errW_some] <;> rfl), by repeat (first | (with_reducible first | exact HB.out | apply below_alloc | apply pw_below_drewN | apply below_drew1) | exact HB.out)⟩
              · rw [if_neg c9] at H
                exact absurd H (by simp)
            · rw [if_neg c8] at H
              have c8b0 : (((rd_T28 t101 1).f0) == 0 && ((((rd_T28 t101 1).f1.f0) == 0 && (((rd_T28 t101 1).f1.f1) == 0 && (((rd_T28 t101 1).f1.f2) == 0 && (((rd_T28 t101 1).f1.f3) == 0)))))) = false := by simpa using c8
              (try (have c8b1 : decide (((rd_T28 t101 1).f0) = 0 && ((((rd_T28 t101 1).f1.f0) == 0 && (((rd_T28 t101 1).f1.f1) == 0 && (((rd_T28 t101 1).f1.f2) == 0 && (((rd_T28 t101 1).f1.f3) == 0)))))) = false := by simpa using c8))
              (try (have c8b2 : (((rd_T28 t101 1).f0) == 0 && ((((rd_T28 t101 1).f1.f0) == 0 && (((rd_T28 t101 1).f1.f1) == 0 && (((rd_T28 t101 1).f1.f2) == 0 && (((rd_T28 t101 1).f1.f3) == 0)))))) = false := by simpa using c8))
              (try (have c8b3 : ¬ (((rd_T28 t101 1).f0) = 0 && ((((rd_T28 t101 1).f1.f0) == 0 && (((rd_T28 t101 1).f1.f1) == 0 && (((rd_T28 t101 1).f1.f2) == 0 && (((rd_T28 t101 1).f1.f3) == 0)))))) := by simpa using c8))
              clear c8
              obtain rfl := Option.some.inj H
              go_enter Try.func6, Try.ntmps6
              go_wp2_with (first | ((with_reducible refine gate_callee (f := 14) rfl ?_); refine goesL_ (some 6) rfl rfl Try.func14 (by kernel_rfl) rfl #[.string (⟨#[0, 1, 2, 1, 3, 0, 0, 255, 13]⟩ : ByteArray)] rfl (by (try simp only [List.map_toArray, List.map_cons, List.map_nil]); first | done | rfl | (simp only [List.length_drop, List.length_take]; rfl)) ?_; (with_reducible refine (script_Decode.calls (⟨#[0, 1, 2, 1, 3, 0, 0, 255, 13]⟩ : ByteArray) t101 t102 _ A1.out).mono ?_); rintro e w21 ⟨v103, rfl, ho0, hb⟩; refine ⟨_, rfl, ?_⟩; have n0_ := Aside0.mk (Kd.R_lower ho0 (below_size (by repeat (first | (with_reducible first | exact HB.out | apply below_alloc | apply pw_below_drewN | apply below_drew1) | exact HB.out)))); have n1_ := Aside0.mk (below_step (by repeat (first | (with_reducible first | exact HB.out | apply below_alloc | apply pw_below_drewN | apply below_drew1) | exact HB.out)) hb); clear HB; have HO104 := n0_; have HB := n1_; clear n0_ n1_; (try clear hb); (try clear hb2); (try clear hk); (try clear hi); (try clear ho0); obtain ⟨Ao22, co22, eo22⟩ := Kd.R_slice HO104.out; subst eo22) | ((with_reducible refine gate_callee (f := 11) rfl ?_); refine goesL_ (some 18) rfl rfl Try.func11 (by kernel_rfl) rfl #[.slice Ao22 t101.length co22] rfl (by (try simp only [List.map_toArray, List.map_cons, List.map_nil]); first | done | rfl | (simp only [List.length_drop, List.length_take]; rfl)) ?_; (with_reducible refine (script_Encode.calls _ _ t101 t105 t106 _ ?side1 ?side2 A4.out).mono ?_); (case side1 => repeat (first | exact (Kd.R_reads' HO104.out).2.2 | (with_reducible refine Kd.C_alloc ?_ _) | (with_reducible refine Kd.C_drewN ?_ _) | (with_reducible refine Kd.C_drew ?_))); (case side2 => exact (Kd.R_reads' HO104.out).2.1); rintro e w23 ⟨rfl, hb⟩; refine ⟨_, rfl, ?_⟩; have n0_ := Aside0.mk (Kd.R_below (by (with_reducible repeat (first | apply Kd.R_alloc | apply Kd.R_drewN | apply Kd.R_drew)); exact HO104.out) hb); have n1_ := Aside0.mk (below_step (by repeat (first | (with_reducible first | exact HB.out | apply below_alloc | apply pw_below_drewN | apply below_drew1) | exact HB.out)) hb); clear HO104; clear HB; have HO104 := n0_; have HB := n1_; clear n0_ n1_; (try clear hb); (try clear hb2); (try clear hk); (try clear hi); have p107 : 0 ≤ (0 : Int) := (by omega); have q107 : 0 < (t101.length : Int) := of_decide_eq_true (by first | (with_reducible assumption) | assumption); obtain ⟨ad107, e107, hx107_0, hx107_1, hx107_2, hx107_3, hx107_4⟩ := at_T28 (Kd.R_reads' HO104.out).2.2 0 p107 q107; cases e107; have qi107 : (0 < t101.length) = True := eq_true (by omega); (try rw [show ((0 : Int)).toNat = 0 from rfl] at hx107_0); (try rw [show 0 * 5 = 0 from rfl] at hx107_0); (try rw [Addr.add_zero'] at hx107_0); (try rw [show ((0 : Int)).toNat = 0 from rfl] at hx107_1); (try rw [show 0 * 5 = 0 from rfl] at hx107_1); (try rw [Addr.add_zero'] at hx107_1); (try rw [show ((0 : Int)).toNat = 0 from rfl] at hx107_2); (try rw [show 0 * 5 = 0 from rfl] at hx107_2); (try rw [Addr.add_zero'] at hx107_2); (try rw [show ((0 : Int)).toNat = 0 from rfl] at hx107_3); (try rw [show 0 * 5 = 0 from rfl] at hx107_3); (try rw [Addr.add_zero'] at hx107_3); (try rw [show ((0 : Int)).toNat = 0 from rfl] at hx107_4); (try rw [show 0 * 5 = 0 from rfl] at hx107_4); (try rw [Addr.add_zero'] at hx107_4); replace p107 := eq_true p107; replace q107 := eq_true q107; have p108 : 0 ≤ (1 : Int) := (by omega); have q108 : 1 < (t101.length : Int) := of_decide_eq_true (by first | (with_reducible assumption) | assumption); obtain ⟨ad108, e108, hx108_0, hx108_1, hx108_2, hx108_3, hx108_4⟩ := at_T28 (Kd.R_reads' HO104.out).2.2 1 p108 q108; obtain rfl : ad107 = ad108 := (by injection e108); (try simp only [show (1 : Int).toNat = 1 from rfl, Nat.reduceMul, Nat.reduceEqDiff, Go.Addr.add, ↓reduceIte] at hx108_0); (try simp only [show (1 : Int).toNat = 1 from rfl, Nat.reduceMul, Nat.reduceEqDiff, Go.Addr.add, ↓reduceIte] at hx108_1); (try simp only [show (1 : Int).toNat = 1 from rfl, Nat.reduceMul, Nat.reduceEqDiff, Go.Addr.add, ↓reduceIte] at hx108_2); (try simp only [show (1 : Int).toNat = 1 from rfl, Nat.reduceMul, Nat.reduceEqDiff, Go.Addr.add, ↓reduceIte] at hx108_3); (try simp only [show (1 : Int).toNat = 1 from rfl, Nat.reduceMul, Nat.reduceEqDiff, Go.Addr.add, ↓reduceIte] at hx108_4); have qi108 : (1 < t101.length) = True := eq_true (by omega); (try rw [show ((1 : Int)).toNat = 1 from rfl] at hx108_0); (try rw [show 1 * 5 = 5 from rfl] at hx108_0); (try rw [show ((1 : Int)).toNat = 1 from rfl] at hx108_1); (try rw [show 1 * 5 = 5 from rfl] at hx108_1); (try rw [show ((1 : Int)).toNat = 1 from rfl] at hx108_2); (try rw [show 1 * 5 = 5 from rfl] at hx108_2); (try rw [show ((1 : Int)).toNat = 1 from rfl] at hx108_3); (try rw [show 1 * 5 = 5 from rfl] at hx108_3); (try rw [show ((1 : Int)).toNat = 1 from rfl] at hx108_4); (try rw [show 1 * 5 = 5 from rfl] at hx108_4); replace p108 := eq_true p108; replace q108 := eq_true q108))
              go_ret
              exact ⟨by first | rfl | (simp [errW_none, errW_some] <;> rfl) | (simp [*, errW_none, errW_some] <;> rfl), by repeat (first | (with_reducible first | exact HB.out | apply below_alloc | apply pw_below_drewN | apply below_drew1) | exact HB.out)⟩
          · rw [if_neg c7] at H
            exact absurd H (by simp)
        · rw [if_neg c6] at H
          have c6b0 : (((rd_T28 t101 0).f0) == 0 && ((((rd_T28 t101 0).f1.f0) == 1 && (((rd_T28 t101 0).f1.f1) == 2 && (((rd_T28 t101 0).f1.f2) == 1 && (((rd_T28 t101 0).f1.f3) == 3)))))) = false := by simpa using c6
          (try (have c6b1 : decide (((rd_T28 t101 0).f0) = 0 && ((((rd_T28 t101 0).f1.f0) == 1 && (((rd_T28 t101 0).f1.f1) == 2 && (((rd_T28 t101 0).f1.f2) == 1 && (((rd_T28 t101 0).f1.f3) == 3)))))) = false := by simpa using c6))
          (try (have c6b2 : (((rd_T28 t101 0).f0) == 0 && ((((rd_T28 t101 0).f1.f0) == 1 && (((rd_T28 t101 0).f1.f1) == 2 && (((rd_T28 t101 0).f1.f2) == 1 && (((rd_T28 t101 0).f1.f3) == 3)))))) = false := by simpa using c6))
          (try (have c6b3 : ¬ (((rd_T28 t101 0).f0) = 0 && ((((rd_T28 t101 0).f1.f0) == 1 && (((rd_T28 t101 0).f1.f1) == 2 && (((rd_T28 t101 0).f1.f2) == 1 && (((rd_T28 t101 0).f1.f3) == 3)))))) := by simpa using c6))
          clear c6
          obtain rfl := Option.some.inj H
          go_enter Try.func6, Try.ntmps6
          go_wp2_with (first | ((with_reducible refine gate_callee (f := 14) rfl ?_); refine goesL_ (some 6) rfl rfl Try.func14 (by kernel_rfl) rfl #[.string (⟨#[0, 1, 2, 1, 3, 0, 0, 255, 13]⟩ : ByteArray)] rfl (by (try simp only [List.map_toArray, List.map_cons, List.map_nil]); first | done | rfl | (simp only [List.length_drop, List.length_take]; rfl)) ?_; (with_reducible refine (script_Decode.calls (⟨#[0, 1, 2, 1, 3, 0, 0, 255, 13]⟩ : ByteArray) t101 t102 _ A1.out).mono ?_); rintro e w24 ⟨v103, rfl, ho0, hb⟩; refine ⟨_, rfl, ?_⟩; have n0_ := Aside0.mk (Kd.R_lower ho0 (below_size (by repeat (first | (with_reducible first | exact HB.out | apply below_alloc | apply pw_below_drewN | apply below_drew1) | exact HB.out)))); have n1_ := Aside0.mk (below_step (by repeat (first | (with_reducible first | exact HB.out | apply below_alloc | apply pw_below_drewN | apply below_drew1) | exact HB.out)) hb); clear HB; have HO104 := n0_; have HB := n1_; clear n0_ n1_; (try clear hb); (try clear hb2); (try clear hk); (try clear hi); (try clear ho0); obtain ⟨Ao25, co25, eo25⟩ := Kd.R_slice HO104.out; subst eo25) | ((with_reducible refine gate_callee (f := 11) rfl ?_); refine goesL_ (some 18) rfl rfl Try.func11 (by kernel_rfl) rfl #[.slice Ao25 t101.length co25] rfl (by (try simp only [List.map_toArray, List.map_cons, List.map_nil]); first | done | rfl | (simp only [List.length_drop, List.length_take]; rfl)) ?_; (with_reducible refine (script_Encode.calls _ _ t101 t105 t106 _ ?side1 ?side2 A4.out).mono ?_); (case side1 => repeat (first | exact (Kd.R_reads' HO104.out).2.2 | (with_reducible refine Kd.C_alloc ?_ _) | (with_reducible refine Kd.C_drewN ?_ _) | (with_reducible refine Kd.C_drew ?_))); (case side2 => exact (Kd.R_reads' HO104.out).2.1); rintro e w26 ⟨rfl, hb⟩; refine ⟨_, rfl, ?_⟩; have n0_ := Aside0.mk (Kd.R_below (by (with_reducible repeat (first | apply Kd.R_alloc | apply Kd.R_drewN | apply Kd.R_drew)); exact HO104.out) hb); have n1_ := Aside0.mk (below_step (by repeat (first | (with_reducible first | exact HB.out | apply below_alloc | apply pw_below_drewN | apply below_drew1) | exact HB.out)) hb); clear HO104; clear HB; have HO104 := n0_; have HB := n1_; clear n0_ n1_; (try clear hb); (try clear hb2); (try clear hk); (try clear hi); have p107 : 0 ≤ (0 : Int) := (by omega); have q107 : 0 < (t101.length : Int) := of_decide_eq_true (by first | (with_reducible assumption) | assumption); obtain ⟨ad107, e107, hx107_0, hx107_1, hx107_2, hx107_3, hx107_4⟩ := at_T28 (Kd.R_reads' HO104.out).2.2 0 p107 q107; cases e107; have qi107 : (0 < t101.length) = True := eq_true (by omega); (try rw [show ((0 : Int)).toNat = 0 from rfl] at hx107_0); (try rw [show 0 * 5 = 0 from rfl] at hx107_0); (try rw [Addr.add_zero'] at hx107_0); (try rw [show ((0 : Int)).toNat = 0 from rfl] at hx107_1); (try rw [show 0 * 5 = 0 from rfl] at hx107_1); (try rw [Addr.add_zero'] at hx107_1); (try rw [show ((0 : Int)).toNat = 0 from rfl] at hx107_2); (try rw [show 0 * 5 = 0 from rfl] at hx107_2); (try rw [Addr.add_zero'] at hx107_2); (try rw [show ((0 : Int)).toNat = 0 from rfl] at hx107_3); (try rw [show 0 * 5 = 0 from rfl] at hx107_3); (try rw [Addr.add_zero'] at hx107_3); (try rw [show ((0 : Int)).toNat = 0 from rfl] at hx107_4); (try rw [show 0 * 5 = 0 from rfl] at hx107_4); (try rw [Addr.add_zero'] at hx107_4); replace p107 := eq_true p107; replace q107 := eq_true q107))
          go_ret
          exact ⟨by first | rfl | (simp [errW_none, errW_some] <;> rfl) | (simp [*, errW_none, errW_some] <;> rfl), by repeat (first | (with_reducible first | exact HB.out | apply below_alloc | apply pw_below_drewN | apply below_drew1) | exact HB.out)⟩
      · rw [if_neg c5] at H
        exact absurd H (by simp)
    · rw [if_neg c3] at H
      have c3b0 : ((t101.length : Int) == 3) = false := beq_eq_false_iff_ne.mpr c3
      have c3b1 : ((t101.length : Int) != 3) = true := bne_iff_ne.mpr c3
      obtain rfl := Option.some.inj H
      go_enter Try.func6, Try.ntmps6
      go_wp2_with (first | ((with_reducible refine gate_callee (f := 14) rfl ?_); refine goesL_ (some 6) rfl rfl Try.func14 (by kernel_rfl) rfl #[.string (⟨#[0, 1, 2, 1, 3, 0, 0, 255, 13]⟩ : ByteArray)] rfl (by (try simp only [List.map_toArray, List.map_cons, List.map_nil]); first | done | rfl | (simp only [List.length_drop, List.length_take]; rfl)) ?_; (with_reducible refine (script_Decode.calls (⟨#[0, 1, 2, 1, 3, 0, 0, 255, 13]⟩ : ByteArray) t101 t102 _ A1.out).mono ?_); rintro e w27 ⟨v103, rfl, ho0, hb⟩; refine ⟨_, rfl, ?_⟩; have n0_ := Aside0.mk (Kd.R_lower ho0 (below_size (by repeat (first | (with_reducible first | exact HB.out | apply below_alloc | apply pw_below_drewN | apply below_drew1) | exact HB.out)))); have n1_ := Aside0.mk (below_step (by repeat (first | (with_reducible first | exact HB.out | apply below_alloc | apply pw_below_drewN | apply below_drew1) | exact HB.out)) hb); clear HB; have HO104 := n0_; have HB := n1_; clear n0_ n1_; (try clear hb); (try clear hb2); (try clear hk); (try clear hi); (try clear ho0); obtain ⟨Ao28, co28, eo28⟩ := Kd.R_slice HO104.out; subst eo28))
      go_ret
      exact ⟨by first | rfl | (simp [errW_none, errW_some] <;> rfl) | (simp [*, errW_none, errW_some] <;> rfl), by repeat (first | (with_reducible first | exact HB.out | apply below_alloc | apply pw_below_drewN | apply below_drew1) | exact HB.out)⟩
  · rw [if_neg c2] at H
    have c2b0 : (t102 == 0) = false := beq_eq_false_iff_ne.mpr c2
    have c2b1 : (t102 != 0) = true := bne_iff_ne.mpr c2
    obtain rfl := Option.some.inj H
    go_enter Try.func6, Try.ntmps6
    go_wp2_with (first | ((with_reducible refine gate_callee (f := 14) rfl ?_); refine goesL_ (some 6) rfl rfl Try.func14 (by kernel_rfl) rfl #[.string (⟨#[0, 1, 2, 1, 3, 0, 0, 255, 13]⟩ : ByteArray)] rfl (by (try simp only [List.map_toArray, List.map_cons, List.map_nil]); first | done | rfl | (simp only [List.length_drop, List.length_take]; rfl)) ?_; (with_reducible refine (script_Decode.calls (⟨#[0, 1, 2, 1, 3, 0, 0, 255, 13]⟩ : ByteArray) t101 t102 _ A1.out).mono ?_); rintro e w29 ⟨v103, rfl, ho0, hb⟩; refine ⟨_, rfl, ?_⟩; have n0_ := Aside0.mk (Kd.R_lower ho0 (below_size (by repeat (first | (with_reducible first | exact HB.out | apply below_alloc | apply pw_below_drewN | apply below_drew1) | exact HB.out)))); have n1_ := Aside0.mk (below_step (by repeat (first | (with_reducible first | exact HB.out | apply below_alloc | apply pw_below_drewN | apply below_drew1) | exact HB.out)) hb); clear HB; have HO104 := n0_; have HB := n1_; clear n0_ n1_; (try clear hb); (try clear hb2); (try clear hk); (try clear hi); (try clear ho0)))
    go_ret
    exact ⟨by first | rfl | (simp [errW_none, errW_some] <;> rfl) | (simp [*, errW_none, errW_some] <;> rfl), by repeat (first | (with_reducible first | exact HB.out | apply below_alloc | apply pw_below_drewN | apply below_drew1) | exact HB.out)⟩

/-! ### demesnelaw11_Of: function 7 -/
def demesnelaw11_Of.f (a0_0 : Int) (a0_1 : Int) (a0_2 : Int) (a0_3 : Int) (a0_4 : Int) : Option (Int × Int × Int × Int × Int) := some (a0_0, a0_1, a0_2, a0_3, a0_4)
set_option maxHeartbeats 8000000 in
set_option maxRecDepth 100000 in
theorem demesnelaw11_Of.calls (a0_0 : Int) (a0_1 : Int) (a0_2 : Int) (a0_3 : Int) (a0_4 : Int) (r1 : Int) (r2 : Int) (r3 : Int) (r4 : Int) (r5 : Int) (w : World) (h : demesnelaw11_Of.f a0_0 a0_1 a0_2 a0_3 a0_4 = some (r1, r2, r3, r4, r5)) :
    Calls Try.prog 7 #[.agg #[.int .u8 a0_0, .int .u8 a0_1, .int .u8 a0_2, .int .u8 a0_3, .int .u8 a0_4]] w fun e w' => e = .returned (.agg #[.int .u8 r1, .int .u8 r2, .int .u8 r3, .int .u8 r4, .int .u8 r5]) ∧ Below w.heap.size w w' := by
  have hu31 := Try.underlying31
  have hu28 := Try.underlying28
  have hu26 := Try.underlying26
  have HB := Aside0.mk (Below.refl w.heap.size w)
  have H : (some (a0_0, a0_1, a0_2, a0_3, a0_4)) = some (r1, r2, r3, r4, r5) := h
  clear h
  simp only [Option.some.injEq, Prod.mk.injEq] at H
  obtain ⟨rfl, rfl, rfl, rfl, rfl⟩ := H
  go_enter Try.func7, Try.ntmps7
  go_wp2_with (first | ((with_reducible refine gate_dst (N := 1) rfl ?_); refine box_event ?hg (N := 1) ?hd (cs := #[.int .u8 a0_0, .int .u8 a0_1, .int .u8 a0_2, .int .u8 a0_3, .int .u8 a0_4]) (t := 31) ?hr ?_; (case hd => rfl); (case hg => rfl); (case hr => first | (go_simp; done) | (go_simp; rfl)); intro gb110 hg w2 hbox hb; have n0_ := Aside0.mk (below_step (by repeat (first | (with_reducible first | exact HB.out | apply below_alloc | apply pw_below_drewN | apply below_drew1) | exact HB.out)) hb); have n1_ := Aside0.mk (hbox); have n2_ := Aside0.mk ((by rw [hg]; exact (below_size (by repeat (first | (with_reducible first | exact HB.out | apply below_alloc | apply pw_below_drewN | apply below_drew1) | exact HB.out))) : w.heap.size ≤ gb110)); have n3_ := Aside0.mk ((by rw [hg]; exact (below_size (by repeat (first | (with_reducible first | exact HB.out | apply below_alloc | apply pw_below_drewN | apply below_drew1) | exact HB.out))) : w.heap.size ≤ gb110)); clear HB; have HB := n0_; have BK110 := n1_; have GW110 := n2_; have GE110 := n3_; clear n0_ n1_ n2_ n3_; clear hb hbox hg) | ((with_reducible refine gate_dst (N := 2) rfl ?_); refine box_event ?hg (N := 2) ?hd (cs := #[.int .u8 0, .int .u8 0, .int .u8 0, .int .u8 0, .int .u8 0]) (t := 28) ?hr ?_; (case hd => rfl); (case hg => rfl); (case hr => first | (go_simp; done) | (go_simp; rfl)); intro gb111 hg w3 hbox hb; have n0_ := Aside0.mk (blk_below (g := gb110) (o := .cells #[.int .u8 a0_0, .int .u8 a0_1, .int .u8 a0_2, .int .u8 a0_3, .int .u8 a0_4] 31 (0, 0)) (by (with_reducible repeat (first | refine blk_drewN ?_ _ | refine blk_drew ?_ | refine blk_alloc ?_ _)); exact BK110.out) hb); have n1_ := Aside0.mk (below_step (by repeat (first | (with_reducible first | exact HB.out | apply below_alloc | apply pw_below_drewN | apply below_drew1 | refine below_set ?_ GE110.out) | exact HB.out)) hb); have n2_ := Aside0.mk (hbox); have n3_ := Aside0.mk ((by rw [hg]; exact (below_size (by repeat (first | (with_reducible first | exact HB.out | apply below_alloc | apply pw_below_drewN | apply below_drew1 | refine below_set ?_ GE110.out) | exact HB.out))) : w.heap.size ≤ gb111)); have n4_ := Aside0.mk ((by rw [hg]; exact (below_size (by repeat (first | (with_reducible first | exact HB.out | apply below_alloc | apply pw_below_drewN | apply below_drew1 | refine below_set ?_ GE110.out) | exact HB.out))) : w.heap.size ≤ gb111)); have n5_ := Aside0.mk ((by rw [hg]; exact Nat.ne_of_lt (blk_lt (g := gb110) (o := .cells #[.int .u8 a0_0, .int .u8 a0_1, .int .u8 a0_2, .int .u8 a0_3, .int .u8 a0_4] 31 (0, 0)) (by (with_reducible repeat (first | refine blk_drewN ?_ _ | refine blk_drew ?_ | refine blk_alloc ?_ _)); exact BK110.out)) : gb110 ≠ gb111)); have n6_ := Aside0.mk ((by rw [hg]; exact Nat.ne_of_gt (blk_lt (g := gb110) (o := .cells #[.int .u8 a0_0, .int .u8 a0_1, .int .u8 a0_2, .int .u8 a0_3, .int .u8 a0_4] 31 (0, 0)) (by (with_reducible repeat (first | refine blk_drewN ?_ _ | refine blk_drew ?_ | refine blk_alloc ?_ _)); exact BK110.out)) : gb111 ≠ gb110)); clear BK110; clear HB; have BK110 := n0_; have HB := n1_; have BK111 := n2_; have GW111 := n3_; have GE111 := n4_; have NB110_111 := n5_; have NB111_110 := n6_; clear n0_ n1_ n2_ n3_ n4_ n5_ n6_; clear hb hbox hg; have hnb4 := NB110_111.out; have hnc4 := NB111_110.out; have hcz5_0 : w3.cell? ⟨gb110, 0, none⟩ = some (.int .u8 a0_0) := (blk_cell BK110.out 0).trans rfl; have hcz5_1 : w3.cell? ⟨gb110, 1, none⟩ = some (.int .u8 a0_1) := (blk_cell BK110.out 1).trans rfl; have hcz5_2 : w3.cell? ⟨gb110, 2, none⟩ = some (.int .u8 a0_2) := (blk_cell BK110.out 2).trans rfl; have hcz5_3 : w3.cell? ⟨gb110, 3, none⟩ = some (.int .u8 a0_3) := (blk_cell BK110.out 3).trans rfl; have hcz5_4 : w3.cell? ⟨gb110, 4, none⟩ = some (.int .u8 a0_4) := (blk_cell BK110.out 4).trans rfl; have hfz5_0 := blk_frozen BK110.out 0; have hfz5_1 := blk_frozen BK110.out 1; have hfz5_2 := blk_frozen BK110.out 2; have hfz5_3 := blk_frozen BK110.out 3; have hfz5_4 := blk_frozen BK110.out 4; have hcz6_0 : w3.cell? ⟨gb111, 0, none⟩ = some (.int .u8 0) := (blk_cell BK111.out 0).trans rfl; have hcz6_1 : w3.cell? ⟨gb111, 1, none⟩ = some (.int .u8 0) := (blk_cell BK111.out 1).trans rfl; have hcz6_2 : w3.cell? ⟨gb111, 2, none⟩ = some (.int .u8 0) := (blk_cell BK111.out 2).trans rfl; have hcz6_3 : w3.cell? ⟨gb111, 3, none⟩ = some (.int .u8 0) := (blk_cell BK111.out 3).trans rfl; have hcz6_4 : w3.cell? ⟨gb111, 4, none⟩ = some (.int .u8 0) := (blk_cell BK111.out 4).trans rfl; have hfz6_0 := blk_frozen BK111.out 0; have hfz6_1 := blk_frozen BK111.out 1; have hfz6_2 := blk_frozen BK111.out 2; have hfz6_3 := blk_frozen BK111.out 3; have hfz6_4 := blk_frozen BK111.out 4))
  refine bodyPost_ret (results_cell_row rfl _ _ gb111 28 #[.int .u8 a0_0, .int .u8 a0_1, .int .u8 a0_2, .int .u8 a0_3, .int .u8 a0_4] (0, 0) _ rfl (by (with_reducible repeat (first | refine blk_drewN ?_ _ | refine blk_drew ?_ | refine blk_alloc ?_ _)); refine blk_put (cs := #[.int .u8 a0_0, .int .u8 a0_1, .int .u8 a0_2, .int .u8 a0_3, .int .u8 0]) ?_ 4 _ rfl; (with_reducible repeat (first | refine blk_drewN ?_ _ | refine blk_drew ?_ | refine blk_alloc ?_ _)); refine blk_put (cs := #[.int .u8 a0_0, .int .u8 a0_1, .int .u8 a0_2, .int .u8 0, .int .u8 0]) ?_ 3 _ rfl; (with_reducible repeat (first | refine blk_drewN ?_ _ | refine blk_drew ?_ | refine blk_alloc ?_ _)); refine blk_put (cs := #[.int .u8 a0_0, .int .u8 a0_1, .int .u8 0, .int .u8 0, .int .u8 0]) ?_ 2 _ rfl; (with_reducible repeat (first | refine blk_drewN ?_ _ | refine blk_drew ?_ | refine blk_alloc ?_ _)); refine blk_put (cs := #[.int .u8 a0_0, .int .u8 0, .int .u8 0, .int .u8 0, .int .u8 0]) ?_ 1 _ rfl; (with_reducible repeat (first | refine blk_drewN ?_ _ | refine blk_drew ?_ | refine blk_alloc ?_ _)); refine blk_put (cs := #[.int .u8 0, .int .u8 0, .int .u8 0, .int .u8 0, .int .u8 0]) ?_ 0 _ rfl; (with_reducible repeat (first | refine blk_drewN ?_ _ | refine blk_drew ?_ | refine blk_alloc ?_ _)); exact BK111.out) Try.underlying28 rfl (by kernel_rfl)) rfl ?_
  exact ⟨by first | rfl | (simp [errW_none, errW_some] <;> rfl) | (simp [*, errW_none, errW_some] <;> rfl), by repeat (first | (with_reducible first | exact HB.out | apply below_alloc | apply pw_below_drewN | apply below_drew1 | refine below_set ?_ GE110.out | refine below_set ?_ GE111.out) | exact HB.out)⟩

end Go.Proofs.Ytdibmmcdmjpbpaa.PScriptBack
