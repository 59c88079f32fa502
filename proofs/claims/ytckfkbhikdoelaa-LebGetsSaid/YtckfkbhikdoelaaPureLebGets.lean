/- LebGets: of any bytes the number with which they begin, how many bytes it has, or why there is none, as the document has it; and that number is put as these bytes. No condition. -/
import Derived.Test.YtckfkbhikdoelaaPAllx3
import Derived.Test.YtckfkbhikdoelaaBridge
namespace Go.Proofs.Ytckfkbhikdoelaa.Pure
open Go Go.RowKit Go.Proofs.Ytckfkbhikdoelaa.PAll Go.Proofs.YtckfkbhikdoelaaW.PrintWords Go.Proofs.YtckfkbhikdoelaaW.PrintLast
open Go.Proofs.Ytckfkbhikdoelaa.LebM Go.Proofs.Ytckfkbhikdoelaa.Bridge

theorem LebGets : warrantorlaw01_LebGets.Pure := by
  intro l _ _ hb
  have hb := bytes_of hb
  obtain ⟨K1, e1⟩ := get_ev hb
  obtain ⟨K2, e2⟩ := rget_ev hb
  obtain ⟨K5, e5⟩ := lives_ev
  rcases hg : getS l 0 1 0 with ⟨v, j, e⟩
  rw [hg] at e1 e2
  have hput : e = 0 → ∃ K, ∀ k, K ≤ k → leb_Put.f k v = some (putN 9 v) := by
    intro h0
    subst h0
    have := put_get0 hb hg
    exact put_ev this.1 this.2.1
  obtain ⟨K3, e3⟩ : ∃ K, e = 0 → ∀ k, K ≤ k → leb_Put.f k v = some (putN 9 v) := by
    by_cases h0 : e = 0
    · obtain ⟨K, h⟩ := hput h0
      exact ⟨K, fun _ => h⟩
    · exact ⟨0, fun h => absurd h h0⟩
  refine ⟨K1 + K2 + K3 + K5, ?_⟩
  have e1 : leb_Get.f (K1 + K2 + K3 + K5) l = _ := e1 _ (by omega)
  have e2 : warrantorref01_Get.f (K1 + K2 + K3 + K5) l = _ := e2 _ (by omega)
  have e3 : e = 0 → leb_Put.f (K1 + K2 + K3 + K5) v = _ := fun h => e3 h _ (by omega)
  have e5 : warrantorlaw01_lives.f (K1 + K2 + K3 + K5) = _ := e5 _ (by omega)
  generalize K1 + K2 + K3 + K5 = k at *
  unfold warrantorlaw01_LebGets.f
  by_cases hl : (l.length : Int) > 1000
  · rw [if_pos hl, e5]; rfl
  · rw [if_neg hl, e1]
    simp only [Option.bind_some]
    rw [e2]
    simp only [Option.bind_some]
    rw [e5]
    simp only [Option.bind_some, if_true]
    by_cases h0 : e = 0
    · rw [if_pos h0, e3 h0]
      subst h0
      have := put_get0 hb hg
      simp only [Option.bind_some]
      rw [if_pos (by omega), if_pos (by omega), this.2.2.2.2]
      simp
    · rw [if_neg h0]

end Go.Proofs.Ytckfkbhikdoelaa.Pure
