/- Proved here: the statement ScriptBackSaid, for every input; no condition. -/
import Derived.Test.YtdibmmcdmjpbpaaRows
import Derived.Test.YtdibmmcdmjpbpaaPScriptBackx3
import Derived.Test.YtdibmmcdmjpbpaaPureScriptBack
import Derived.WalkKit
import Derived.ProofKit
import Derived.OpenShut
import Derived.ShutString
import Derived.ChangeOld
import Derived.Below
import Derived.SizedLaws
import Derived.Deep.Slices
import Derived.Deep.Fields
namespace Go.Proofs.Ytdibmmcdmjpbpaa.scriptBack
open Go.ChangeShapes Go.WideShapes Go.ChangeAt Go.RowKit Go.Deep Go.Proofs.YtdibmmcdmjpbpaaW.PrintWords
open Go.ChangeMaps (open_string shut_string)
open Go.Proofs.Ytdibmmcdmjpbpaa.PScriptBack (S31 k31)
set_option linter.unusedVariables false
theorem own : ownKnob Try.prog.godebug = none := by kernel_rfl
theorem laidOut : laidOutB Try.prog = true := by kernel_rfl
/-- An entry's numbers are bytes. -/
def wf31 (e : S31) : Prop := (Lit.int .u8 e.f0).wf = true ∧ (Lit.int .u8 e.f1).wf = true ∧ (Lit.int .u8 e.f2).wf = true ∧ (Lit.int .u8 e.f3).wf = true ∧ (Lit.int .u8 e.f4).wf = true
section
variable {H : Type} {enc : TypeId × Value → H} {w : World} {base : Nat} {spare : Nat → Bool} {held : Bool}
theorem open_entry {fuel : Nat} {cs : List Value} {x : DataW H × List MemPlace} (hl : cs.length = 5) (h : DataW.trod enc Try.prog w base spare held fuel 31 cs = some x) :
    ∃ e : S31, cs = [.int .u8 e.f0, .int .u8 e.f1, .int .u8 e.f2, .int .u8 e.f3, .int .u8 e.f4] ∧ wf31 e := by
  match cs, hl with
  | [c0, c1, c2, c3, c4], _ =>
    obtain ⟨xs, n, _, hx, _, hlen, hg⟩ := DataW.trod_struct Try.underlying31 h
    have k : Try.prog.cellsOf 5 = 1 := by kernel_rfl
    match xs, hlen with
    | [y0, y1, y2, y3, y4], _ =>
      have g0 : DataW.trod enc Try.prog w base spare held n 5 [c0] = some y0 := by simpa [k] using hg 0 _ rfl
      have g1 : DataW.trod enc Try.prog w base spare held n 5 [c1] = some y1 := by simpa [k] using hg 1 _ rfl
      have g2 : DataW.trod enc Try.prog w base spare held n 5 [c2] = some y2 := by simpa [k] using hg 2 _ rfl
      have g3 : DataW.trod enc Try.prog w base spare held n 5 [c3] = some y3 := by simpa [k] using hg 3 _ rfl
      have g4 : DataW.trod enc Try.prog w base spare held n 5 [c4] = some y4 := by simpa [k] using hg 4 _ rfl
      obtain ⟨n0, e0, _, w0⟩ := DataW.trod_int Try.underlying5 g0
      obtain ⟨n1, e1, _, w1⟩ := DataW.trod_int Try.underlying5 g1
      obtain ⟨n2, e2, _, w2⟩ := DataW.trod_int Try.underlying5 g2
      obtain ⟨n3, e3, _, w3⟩ := DataW.trod_int Try.underlying5 g3
      obtain ⟨n4, e4, _, w4⟩ := DataW.trod_int Try.underlying5 g4
      simp only [List.cons.injEq, and_true] at e0 e1 e2 e3 e4
      subst e0 e1 e2 e3 e4
      exact ⟨⟨n0, n1, n2, n3, n4⟩, rfl, w0, w1, w2, w3, w4⟩
theorem list_of {P : Nat → S31 → Prop} : ∀ n : Nat, (∀ i, i < n → ∃ e, P i e) → ∃ l : List S31, l.length = n ∧ ∀ i (h : i < l.length), P i l[i]
  | 0, _ => ⟨[], rfl, fun i h => absurd h (Nat.not_lt_zero i)⟩
  | n + 1, h => by
    obtain ⟨l, hl, hp⟩ := list_of n (fun i hi => h i (by omega))
    obtain ⟨e, he⟩ := h n (by omega)
    refine ⟨l ++ [e], by rw [List.length_append, hl]; rfl, fun i hi => ?_⟩
    rw [List.length_append] at hi
    simp only [List.length_cons, List.length_nil] at hi
    by_cases c : i < l.length
    · rw [List.getElem_append_left c]
      exact hp i c
    · obtain rfl : i = l.length := by omega
      rw [List.getElem_append_right (Nat.le_refl _)]
      simp only [Nat.sub_self, List.getElem_cons_zero]
      rw [hl]
      exact he
theorem open_entries {fuel : Nat} {a : Option Addr} {len cap : Nat} {x : DataW H × List MemPlace} (h : DataW.trod enc Try.prog w base (fun _ => true) held fuel 22 [.slice a len cap] = some x) :
    ∃ l : List S31, len = l.length ∧ l.length ≤ cap ∧ Kd.C k31 w a l.length l ∧ ∀ e ∈ l, wf31 e := by
  rcases open_slice Try.underlying22 h with ⟨h0, _⟩ | ⟨ad, len', cap', m, n, D, Pl, hcs, hb, hl, hm, hmm, hx, hi⟩
  · simp only [List.cons.injEq, and_true] at h0
    injection h0 with e1 e2 e3
    subst e1 e2 e3
    exact ⟨[], rfl, Nat.le_refl _, Kd.C_nil _ _, fun e he => absurd he (List.not_mem_nil)⟩
  · simp only [List.cons.injEq, and_true] at hcs
    injection hcs with e1 e2 e3
    subst e1 e2 e3
    have hC : Try.prog.cellsOf 31 = 5 := by kernel_rfl
    rw [hC] at hi
    have hmc : m = cap := by rw [hmm]; exact if_pos rfl
    subst hmc
    have hel : ∀ i, i < len → ∃ e : S31, wf31 e ∧ ∀ j v, [Value.int .u8 e.f0, .int .u8 e.f1, .int .u8 e.f2, .int .u8 e.f3, .int .u8 e.f4][j]? = some v → w.cell? (ad.add (i * 5 + j)) = some v := by
      intro i hlt
      obtain ⟨cs', hc, ht⟩ := hi i (by omega)
      obtain ⟨_, hcl, hat⟩ := World.cells?_some hc
      obtain ⟨e, rfl, hw⟩ := open_entry hcl ht
      refine ⟨e, hw, fun j v hj => ?_⟩
      have hjl : j < 5 := by
        rcases Nat.lt_or_ge j 5 with c | c
        · exact c
        · rw [List.getElem?_eq_none (by simpa using c)] at hj
          cases hj
      rw [← Go.Deep.add_add, hat j hjl]
      exact hj
    obtain ⟨l, hll, hlp⟩ := list_of len hel
    subst hll
    refine ⟨l, rfl, hl, ⟨rfl, ?_, fun _ => ⟨ad, rfl, fun i p hp => ?_⟩⟩, fun e he => ?_⟩
    · have : maxLen ≤ 9223372036854775807 := by decide
      omega
    · have hil : i < l.length := (List.getElem?_eq_some_iff.1 hp).1
      have hp' : l[i] = p := by rw [List.getElem?_eq_getElem hil] at hp; exact Option.some.inj hp
      subst hp'
      exact ⟨_, rfl, PScriptBack.k31_mk w l[i], (hlp i hil).2⟩
    · obtain ⟨i, hil, rfl⟩ := List.getElem_of_mem he
      exact (hlp i hil).1
end
theorem okOf {e : S31} (h : wf31 e) : PureScriptBack.ok5 (PureScriptBack.of31 e) := by
  obtain ⟨h0, h1, h2, h3, h4⟩ := h
  have b0 := bounds_u8 h0
  have b1 := bounds_u8 h1
  have b2 := bounds_u8 h2
  have b3 := bounds_u8 h3
  have b4 := bounds_u8 h4
  exact ⟨b0, b1, b2, b3, b4⟩
set_option maxRecDepth 100000 in
theorem lifted (os : Os) (started : os.Started) (H : Type) (enc : TypeId × Value → H) :
    ReturnsInHanded {} Try.checked os 5 .any (Rows.scriptBackSpec.pre6 enc Try.prog Try.f5 Rows.scriptBackRow.domain false) (Rows.scriptBackSpec.post enc Try.prog Try.f5 false true false false) := by
  refine returnsInHanded_of_change_sized (C := Try.checked) own started (by kernel_rfl) Try.func5
    (ChangeSpec.witness6 (enc := enc) (C := Try.checked) false ⟨#[], #[.slice none 0 0, .string ByteArray.empty, .int .u16 0], []⟩ 8 (by kernel_rfl) (by kernel_rfl) (by kernel_rfl) (by kernel_rfl)) ?_
  intro W base args ds gs before hval0 hW hcnd hsz0 _
  have hval : ∀ (j : Nat) t v, Try.f5.params[j]? = some t → args[j]? = some v → Value.okWide Try.prog W .any base t v := hval0
  have hW' := hW
  obtain ⟨p, q, hA0, hV, rfl, hfz, hnd⟩ := hW
  have hA : DataW.TrodAll enc Try.prog W 0 (fun _ => true) true Try.f5.params.toList args.toList ds p := hA0
  rw [Try.params5] at hA hval
  obtain ⟨v0, vs0, d0, ds0, p0, q0, hargs, rfl, rfl, h0, r0⟩ := trodAll_cons hA
  obtain ⟨v1, vs1, d1, ds1, p1, q1, rfl, rfl, rfl, h1, r1⟩ := trodAll_cons r0
  obtain ⟨v2, vs2, d2, ds2, p2, q2, rfl, rfl, rfl, h2, r2⟩ := trodAll_cons r1
  obtain ⟨rfl, rfl, rfl⟩ := trodAll_nil r2
  obtain rfl : args = #[v0, v1, v2] := by cases args; simp_all
  obtain ⟨rfl, rfl⟩ := trodVars_none hV
  obtain ⟨a0, len0, cap0, rfl⟩ := okWide_slice Try.underlying22 (hval 0 22 v0 rfl rfl)
  have k0 := h0
  have lt0 : ∀ x ∈ p0, x.block < W.heap.size := by obtain ⟨m, hm⟩ := k0; exact DataW.trod_lt m _ _ _ hm
  obtain ⟨l0, rfl, hc0, hr0, w0⟩ : ∃ l : List S31, len0 = l.length ∧ l.length ≤ cap0 ∧ Kd.C k31 W a0 l.length l ∧ ∀ e ∈ l, wf31 e := by
    obtain ⟨fuel, hf⟩ := h0
    exact open_entries (by simpa [Value.cells] using hf)
  obtain ⟨a1, rfl, rfl, rfl, y1⟩ := open_string Try.underlying9 (hval 1 9 v1 rfl rfl) h1
  obtain ⟨a2, rfl, rfl, rfl, w2⟩ := open_int Try.underlying44 (hval 2 44 v2 rfl rfl) h2
  clear hA0 hval0 hsz0
  obtain ⟨k, hk⟩ := PureScriptBack.pure_holds l0 a1 a2 (fun e he => okOf (w0 e he)) w2
  refine (PScriptBack.demesnelaw11_ScriptBack.calls k _ _ l0 a1 a2 true W hr0 hc0 hk).mono fun e W' ⟨he, bel⟩ => ?_
  subst he
  exact ⟨_, rfl, _, _, _, [], _, [], hW', trodAll_mk1 (shut_bool Try.underlying4 _), (trodAll_cons_mk (Below.trod laidOut (by kernel_rfl) (of_decide_eq_true (by kernel_rfl)) k0 bel lt0) (trodAll_cons_mk (shut_string Try.underlying9 y1) (trodAll_cons_mk (shut_int Try.underlying44 w2) trodAll_mk0))), rfl, bel.frame _, fun h => by cases h⟩
theorem over : Rows.scriptBackRow.holds Try.pinned (OpenSpec.ofChange Rows.scriptBackSpec) :=
  OpenClaim.holds_of_wide 5 Try.f5 rfl rfl rfl rfl rfl rfl rfl ⟨rfl, rfl, rfl, rfl, rfl⟩ rfl rfl rfl rfl rfl (by kernel_rfl) Try.func5 (by kernel_rfl)
    (of_decide_eq_true (by kernel_rfl)) (by unfold Func.isWrapper; first | (rw [if_pos (by decide +kernel)]; kernel_rfl) | (rw [if_neg (by decide +kernel)]; exact ⟨rfl, rfl⟩))
    (fun os started H enc _ => lifted os started H enc)
theorem proved : Rows.ScriptBackSaid := over
#print axioms proved
end Go.Proofs.Ytdibmmcdmjpbpaa.scriptBack
namespace Go.Proofs.Ytdibmmcdmjpbpaa
/-- The row, under a short name, for the claim. -/
theorem scriptBack_holds : Rows.ScriptBackSaid := scriptBack.proved
end Go.Proofs.Ytdibmmcdmjpbpaa
