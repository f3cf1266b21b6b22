/- Lists that are told place by place, and slices of structs laid open place by place: for the rows of laws that take such slices. -/
import Derived.Deep.Slices
import Derived.ChangeArms
import Derived.ChangeShapes
namespace Go.Proofs.YtmgljagkmaoopaaGreat.Open
open Go Go.ChangeShapes Go.WideShapes
theorem rows_of {α : Type} (Q : Nat → α → Prop) : ∀ (n : Nat), (∀ i, i < n → ∃ x, Q i x) → ∃ zs : List α, zs.length = n ∧ ∀ i p, zs[i]? = some p → Q i p
  | 0, _ => ⟨[], rfl, fun i p h => by simp at h⟩
  | n + 1, h => by
    obtain ⟨zs, hl, hz⟩ := rows_of Q n (fun i hi => h i (by omega))
    obtain ⟨x, hx⟩ := h n (by omega)
    refine ⟨zs ++ [x], by simp [hl], fun i p hp => ?_⟩
    by_cases hi : i < zs.length
    · rw [List.getElem?_append_left hi] at hp; exact hz i p hp
    · rw [List.getElem?_append_right (by omega)] at hp
      have e : i - zs.length = 0 := by
        by_cases e : i - zs.length = 0
        · exact e
        · obtain ⟨m, hm⟩ : ∃ m, i - zs.length = m + 1 := ⟨i - zs.length - 1, by omega⟩
          rw [hm] at hp; simp at hp
      rw [e] at hp
      obtain rfl : x = p := by simpa using hp
      obtain rfl : i = n := by omega
      exact hx
end Go.Proofs.YtmgljagkmaoopaaGreat.Open
