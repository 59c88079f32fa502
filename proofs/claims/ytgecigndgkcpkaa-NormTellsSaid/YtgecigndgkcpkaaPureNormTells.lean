import Derived.Test.YtgecigndgkcpkaaPAllx
import Derived.Test.YtgecigndgkcpkaaBridge
set_option linter.unusedVariables false
set_option linter.unusedSimpArgs false
namespace Go.Proofs.Ytgecigndgkcpkaa.Pure
open Go Go.RowKit Go.Proofs.Ytgecigndgkcpkaa.PAll Go.Proofs.YtgecigndgkcpkaaW.PrintWords Go.Proofs.YtgecigndgkcpkaaW.PrintLast Go.Proofs.Ytgecigndgkcpkaa.Bridge Go.Proofs.Ytgecigndgkcpkaa.NormM Go.Proofs.Ytgecigndgkcpkaa.Pen

theorem tells_lives (x y : ByteArray) : ∃ K, ∀ k, K ≤ k → warrantorlaw18_NormTells.j0 k x y true = some true := by
  obtain ⟨K, hK⟩ := lives_ev
  refine ⟨K + 1, fun k hk => ?_⟩
  obtain ⟨k, rfl⟩ : ∃ m, k = m + 1 := ⟨k - 1, by omega⟩
  have h : warrantorlaw18_lives.f k = some true := hK k (by omega)
  rw [warrantorlaw18_NormTells.j0, if_pos rfl, h]
  rfl
theorem tells_main (x y : ByteArray) (hx : x.size ≤ 1000) (hy : y.size ≤ 1000) : ∃ K, ∀ k, K ≤ k → warrantorlaw18_NormTells.j0 k x y false = some true := by
  obtain ⟨K0, h0⟩ := lives_ev
  obtain ⟨K1, h1⟩ := rparts_ev x (by omega)
  obtain ⟨K2, h2⟩ := rparts_ev y (by omega)
  obtain ⟨K3, h3⟩ := same_ev (partsOf x) (partsOf y) (by have := partsOf_len x; omega)
  obtain ⟨K4, h4⟩ := same_ev (partsOf x) (partsOf x) (by have := partsOf_len x; omega)
  obtain ⟨K5, h5⟩ := rnorm_ev x (by omega)
  obtain ⟨K6, h6⟩ := nsame_ev x y (by omega) (by omega)
  refine ⟨K0 + K1 + K2 + K3 + K4 + K5 + K6 + 1, fun k hk => ?_⟩
  obtain ⟨k, rfl⟩ : ∃ m, k = m + 1 := ⟨k - 1, by omega⟩
  have e0 : warrantorlaw18_lives.f k = some true := h0 k (by omega)
  have e1 : warrantorref18_Parts.f k x = some (partsOf x) := h1 k (by omega)
  have e2 : warrantorref18_Parts.f k y = some (partsOf y) := h2 k (by omega)
  have e3 : warrantorref05_Same.f k (partsOf x) (partsOf y) = some (decide (partsOf x = partsOf y)) := h3 k (by omega)
  have e4 : warrantorref05_Same.f k (partsOf x) (partsOf x) = some (decide (partsOf x = partsOf x)) := h4 k (by omega)
  have e5 : warrantorref18_Norm.f k x = some (normOf x) := h5 k (by omega)
  have e6 : norm_Same.f k x y = some (decide (partsOf x = partsOf y)) := h6 k (by omega)
  rw [warrantorlaw18_NormTells.j0, if_neg (by simp), norm_at x (by omega), Option.bind_some, norm_at y (by omega), Option.bind_some, e1, Option.bind_some, e2, Option.bind_some, e3, Option.bind_some, e0, Option.bind_some, if_pos rfl, parts_at x (by omega), Option.bind_some, Option.bind_some, e4, Option.bind_some, if_pos (by simp), e5, Option.bind_some, if_pos rfl, e6, Option.bind_some, if_pos (by simp)]
  congr 1
  have hb : ((normOf x).toList == (normOf y).toList) = decide (partsOf x = partsOf y) := by
    rw [Bool.eq_iff_iff, beq_iff_eq, decide_eq_true_iff, toList_inj, normOf_eq]
  rw [hb]
  simp
theorem NormTells : warrantorlaw18_NormTells.Pure := by
  intro x y _ _
  by_cases hx : (x.size : Int) > 1000
  · obtain ⟨K, hK⟩ := tells_lives x y
    refine ⟨K, ?_⟩
    unfold warrantorlaw18_NormTells.f
    rw [if_pos hx, hK K (Nat.le_refl _)]
  · by_cases hy : (y.size : Int) > 1000
    · obtain ⟨K, hK⟩ := tells_lives x y
      refine ⟨K, ?_⟩
      unfold warrantorlaw18_NormTells.f
      rw [if_neg hx, decide_eq_true hy, hK K (Nat.le_refl _)]
    · obtain ⟨K, hK⟩ := tells_main x y (by omega) (by omega)
      refine ⟨K, ?_⟩
      unfold warrantorlaw18_NormTells.f
      rw [if_neg hx, decide_eq_false hy, hK K (Nat.le_refl _)]

end Go.Proofs.Ytgecigndgkcpkaa.Pure
