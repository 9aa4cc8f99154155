/- The pure law of ClassParts: for any two bytes the statement's function, as the print tells it, answers true. No condition. -/
import Derived.Test.YtoibpomlahlnoaaPClassPartsx2
import Derived.OpenShut
namespace Go.Proofs.Ytoibpomlahlnoaa.Pure
open Go.RowKit Go.Proofs.Ytoibpomlahlnoaa.PClassParts Go.Proofs.YtoibpomlahlnoaaW.PrintWords Go.Proofs.YtoibpomlahlnoaaW.PrintLast
theorem all : (List.range 4).all (fun c => (List.range 256).all fun x => demesnelaw03_ClassParts.f 80 (c : Int) (x : Int) == some true) = true := by decide +kernel
theorem ClassParts : demesnelaw03_ClassParts.Pure := by
  intro a b ha hb
  have ha' := bounds_u8 ha
  have hb' := bounds_u8 hb
  refine ⟨80, ?_⟩
  have e : demesnelaw03_ClassParts.f 80 a b = demesnelaw03_ClassParts.f 80 (a % 4) b := by
    have e1 : Int.tmod (wrap64 a) 4 = a % 4 := by
      rw [show wrap64 a = a by unfold wrap64; omega, Int.tmod_eq_emod_of_nonneg (by omega)]
    have e2 : Int.tmod (wrap64 (a % 4)) 4 = a % 4 := by
      rw [show wrap64 (a % 4) = a % 4 by unfold wrap64; omega, Int.tmod_eq_emod_of_nonneg (by omega)]; omega
    unfold demesnelaw03_ClassParts.f
    rw [e1, e2]
  rw [e]
  have := List.all_eq_true.mp (List.all_eq_true.mp all (a % 4).toNat (List.mem_range.mpr (by omega))) b.toNat (List.mem_range.mpr (by omega))
  rw [show (((a % 4).toNat : Nat) : Int) = a % 4 by omega, show ((b.toNat : Nat) : Int) = b by omega] at this
  exact beq_iff_eq.mp this
end Go.Proofs.Ytoibpomlahlnoaa.Pure
