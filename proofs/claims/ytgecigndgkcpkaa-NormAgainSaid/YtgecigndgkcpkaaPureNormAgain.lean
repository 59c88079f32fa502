import Derived.Test.YtgecigndgkcpkaaPAllx
import Derived.Test.YtgecigndgkcpkaaBridge
set_option linter.unusedVariables false
set_option linter.unusedSimpArgs false
namespace Go.Proofs.Ytgecigndgkcpkaa.Pure
open Go Go.RowKit Go.Proofs.Ytgecigndgkcpkaa.PAll Go.Proofs.YtgecigndgkcpkaaW.PrintWords Go.Proofs.YtgecigndgkcpkaaW.PrintLast Go.Proofs.Ytgecigndgkcpkaa.Bridge Go.Proofs.Ytgecigndgkcpkaa.NormM Go.Proofs.Ytgecigndgkcpkaa.Pen

theorem spaced_at (x : ByteArray) {s : List UInt8} (hx : x.data.toList = norm s) (i : Nat) (h : i < x.size) (hb : bt x (i : Int) = 32) : i ≠ 0 ∧ i + 1 < x.size ∧ bt x ((i + 1 : Nat) : Int) ≠ 32 := by
  have hsp := join_spaced (parts s) (parts_good s) false
  have hh := join_head (parts s) (parts_good s)
  have hl := len_of x hx
  have at_ : ∀ j : Nat, j < x.size → ∃ c, (norm s)[j]? = some c ∧ bt x (j : Int) = (c.toNat : Int) := by
    intro j hj
    obtain ⟨c, hc, hb⟩ := at_drop x hx j hj
    refine ⟨c, ?_, hb⟩
    have := congrArg List.head? hc
    simpa using this
  obtain ⟨c, hc, hbc⟩ := at_ i h
  have hc32 : c = 32 := byte_eq c 32 (by omega) (by rw [← hbc]; exact hb)
  subst hc32
  obtain ⟨d, hd, hd32⟩ := hsp i hc
  have hd2 : i + 1 < (norm s).length := (List.getElem?_eq_some_iff.1 hd).1
  refine ⟨?_, by omega, ?_⟩
  · rintro rfl
    exact hh hc
  · intro hbd
    obtain ⟨e, he, hbe⟩ := at_ (i + 1) (by omega)
    have hed : d = e := Option.some.inj (hd.symm.trans he)
    subst hed
    exact hd32 (byte_eq d 32 (by omega) (by rw [← hbe]; exact hbd))
theorem again_loop (x : ByteArray) {s : List UInt8} (hx : x.data.toList = norm s) (hs : x.size ≤ 1000000) : ∀ (d i k : Nat), i + d = x.size → d < k → warrantorlaw18_NormAgain.l0 k x (i : Int) = some true
  | 0, i, k, h, hk => by
    obtain ⟨k, rfl⟩ : ∃ m, k = m + 1 := ⟨k - 1, by omega⟩
    simp only [warrantorlaw18_NormAgain.l0]
    rw [if_neg (by omega)]
  | d + 1, i, k, h, hk => by
    obtain ⟨k, rfl⟩ : ∃ m, k = m + 1 := ⟨k - 1, by omega⟩
    have ih := again_loop x hx hs d (i + 1) k (by omega) (by omega)
    simp only [warrantorlaw18_NormAgain.l0]
    rw [if_pos (by omega), if_pos (by omega), w64 (by omega)]
    by_cases hb : bt x (i : Int) = 32
    · obtain ⟨h0, h1, h2⟩ := spaced_at x hx i (by omega) hb
      have hw : wrap64 ((x.size : Int) - 1) = ((x.size - 1 : Nat) : Int) := by unfold wrap64; omega
      rw [if_pos hb, if_neg (by omega), hw, if_neg (by omega), if_pos (by omega), if_pos (by omega), if_neg h2]
      exact ih
    · rw [if_neg hb]
      exact ih
theorem NormAgain : warrantorlaw18_NormAgain.Pure := by
  intro a _
  obtain ⟨K0, h0⟩ := lives_ev
  by_cases ha : (a.size : Int) > 1000
  · refine ⟨K0, ?_⟩
    have e0 : warrantorlaw18_lives.f K0 = some true := h0 K0 (Nat.le_refl _)
    unfold warrantorlaw18_NormAgain.f
    rw [if_pos ha, e0]
    rfl
  · have hn := normOf_size a
    have hnn : normOf (normOf a) = normOf a := by
      have := norm_norm a.data.toList
      show mk (norm (normOf a).data.toList) = _
      rw [normOf_data, this]
      rfl
    have hpp : partsOf (normOf a) = partsOf a := (normOf_eq _ _).1 hnn
    obtain ⟨K1, h1⟩ := nsame_ev (normOf a) a (by omega) (by omega)
    obtain ⟨k, hk⟩ : ∃ k, k = K0 + K1 + a.size + 2 := ⟨_, rfl⟩
    refine ⟨k, ?_⟩
    have e0 : warrantorlaw18_lives.f k = some true := h0 k (by omega)
    have e1 : norm_Same.f k (normOf a) a = some (decide (partsOf (normOf a) = partsOf a)) := h1 k (by omega)
    unfold warrantorlaw18_NormAgain.f
    rw [if_neg ha, norm_at a (by omega), Option.bind_some, e0, Option.bind_some, if_pos rfl, norm_at (normOf a) (by omega), Option.bind_some, hnn, if_pos rfl, if_neg (by omega), e1, Option.bind_some, decide_eq_true hpp]
    obtain ⟨m, rfl⟩ : ∃ m, k = m + 1 := ⟨k - 1, by omega⟩
    simp only [warrantorlaw18_NormAgain.j0]
    rw [if_neg (by simp)]
    exact again_loop (normOf a) (normOf_data a) (by omega) (normOf a).size 0 m (by omega) (by omega)

end Go.Proofs.Ytgecigndgkcpkaa.Pure
