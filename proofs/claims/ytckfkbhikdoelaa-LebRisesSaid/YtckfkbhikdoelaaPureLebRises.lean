/- LebRises: a smaller number has no more bytes; no number's bytes are the beginning of another one's. No condition. -/
import Derived.Test.YtckfkbhikdoelaaPAllx5
import Derived.Test.YtckfkbhikdoelaaBridge
namespace Go.Proofs.Ytckfkbhikdoelaa.Pure
open Go Go.RowKit Go.Proofs.Ytckfkbhikdoelaa.PAll Go.Proofs.YtckfkbhikdoelaaW.PrintWords Go.Proofs.YtckfkbhikdoelaaW.PrintLast
open Go.Proofs.Ytckfkbhikdoelaa.LebM Go.Proofs.Ytckfkbhikdoelaa.Bridge

theorem LebRises : warrantorlaw01_LebRises.Pure := by
  intro a b ha hb
  have ha := u64_of ha
  have hb := u64_of hb
  obtain ⟨K1, e1⟩ := put_ev ha.1 ha.2
  obtain ⟨K2, e2⟩ := put_ev hb.1 hb.2
  obtain ⟨K3, e3⟩ := size_ev ha.1 ha.2
  obtain ⟨K4, e4⟩ := size_ev hb.1 hb.2
  obtain ⟨K5, e5⟩ := lives_ev
  refine ⟨K1 + K2 + K3 + K4 + K5, ?_⟩
  have e1 : leb_Put.f (K1 + K2 + K3 + K4 + K5) a = _ := e1 _ (by omega)
  have e2 : leb_Put.f (K1 + K2 + K3 + K4 + K5) b = _ := e2 _ (by omega)
  have e3 : leb_Size.f (K1 + K2 + K3 + K4 + K5) a = _ := e3 _ (by omega)
  have e4 : leb_Size.f (K1 + K2 + K3 + K4 + K5) b = _ := e4 _ (by omega)
  have e5 : warrantorlaw01_lives.f (K1 + K2 + K3 + K4 + K5) = _ := e5 _ (by omega)
  generalize K1 + K2 + K3 + K4 + K5 = k at *
  have htail : (if a = b then (some true) else (if ((putN 9 a).length : Int) > ((putN 9 b).length : Int) then (some true) else (if 0 ≤ ((putN 9 a).length : Int) then (if ((putN 9 a).length : Int) ≤ ((putN 9 b).length : Int) then (some ((strOfNums ((putN 9 b).take (((putN 9 a).length : Int) : Int).toNat)).toList != (strOfNums (putN 9 a)).toList)) else (none)) else (none)))) = some true := by
    by_cases hab : a = b
    · rw [if_pos hab]
    · rw [if_neg hab]
      by_cases hl : ((putN 9 a).length : Int) > ((putN 9 b).length : Int)
      · rw [if_pos hl]
      · rw [if_neg hl, if_pos (by omega), if_pos (by omega), Option.some.injEq, bne_iff_ne]
        intro h
        have := str_inj (fun x hx => putN_byte 9 b hb.1 (by omega) x (List.mem_of_mem_take hx)) (putN_byte 9 a ha.1 (by omega)) h
        rw [Int.toNat_natCast] at this
        exact hab (prefix_free ha hb this)
  unfold warrantorlaw01_LebRises.f
  rw [e1]
  simp only [Option.bind_some]
  rw [e2]
  simp only [Option.bind_some]
  rw [e5]
  simp only [Option.bind_some, if_true]
  by_cases hab : a ≤ b
  · rw [if_pos hab, e3]
    simp only [Option.bind_some]
    rw [e4]
    simp only [Option.bind_some]
    have := putN_len_mono 9 a b ha.1 hab
    rw [if_neg (by omega)]
    exact htail
  · rw [if_neg hab]
    exact htail

end Go.Proofs.Ytckfkbhikdoelaa.Pure
