import Derived.Test.YtgecigndgkcpkaaPAllx
import Derived.Test.YtgecigndgkcpkaaBridge
set_option linter.unusedVariables false
set_option linter.unusedSimpArgs false
namespace Go.Proofs.Ytgecigndgkcpkaa.Pure
open Go Go.RowKit Go.Proofs.Ytgecigndgkcpkaa.PAll Go.Proofs.YtgecigndgkcpkaaW.PrintWords Go.Proofs.YtgecigndgkcpkaaW.PrintLast Go.Proofs.Ytgecigndgkcpkaa.Bridge Go.Proofs.Ytgecigndgkcpkaa.NormM Go.Proofs.Ytgecigndgkcpkaa.Pen

theorem blanks_lives (x : ByteArray) (p n : Int) : ∃ K, ∀ k, K ≤ k → warrantorlaw18_NormBlanks.j0 k x p n true = some true := by
  obtain ⟨K, hK⟩ := lives_ev
  refine ⟨K + 1, fun k hk => ?_⟩
  obtain ⟨k, rfl⟩ : ∃ m, k = m + 1 := ⟨k - 1, by omega⟩
  have h : warrantorlaw18_lives.f k = some true := hK k (by omega)
  rw [warrantorlaw18_NormBlanks.j0, if_pos rfl, h]
  rfl
/-- the parts of the text with the blanks in it -/
theorem gap_iff (x : ByteArray) (p n : Nat) : partsOf x = partsOf (mk (x.data.toList.take p ++ List.replicate n 32) ++ mk (x.data.toList.drop p)) ↔ ¬ (0 < n ∧ NormM.lastW (x.data.toList.take p) = true ∧ headW (x.data.toList.drop p) = true) := by
  rw [← mk_app, partsOf_inj, data_mk, ← parts_gap_iff (x.data.toList.take p) (x.data.toList.drop p) n, List.take_append_drop, List.append_assoc]
  exact ⟨fun h => h.symm, fun h => h.symm⟩
theorem last_take (x : ByteArray) (p : Nat) (hp : 0 < p) (h : p ≤ x.size) : NormM.lastW (x.data.toList.take p) = wordN (bt x ((p - 1 : Nat) : Int)).toNat := by
  obtain ⟨c, hc, hb⟩ := at_drop x rfl (p - 1) (by omega)
  have hi1 : p - 1 < x.data.toList.length := by rw [data_length]; omega
  have e1 : x.data.toList[p - 1] = c := by
    have := List.drop_eq_getElem_cons hi1
    rw [hc] at this
    exact (List.cons.inj this).1.symm
  have e2 : x.data.toList.take p = x.data.toList.take (p - 1) ++ [c] := by
    rw [← e1, ← take_snoc x.data.toList (p - 1) hi1]
    congr 1
    omega
  rw [e2, lastW_snoc, hb]
  rfl
theorem head_drop (x : ByteArray) (p : Nat) : headW (x.data.toList.drop p) = (decide (p < x.size) && wordN (bt x (p : Int)).toNat) := by
  by_cases h : p < x.size
  · obtain ⟨c, hc, hb⟩ := at_drop x rfl p h
    rw [hc, hb, decide_eq_true h]
    rfl
  · rw [List.drop_eq_nil_of_le (by rw [data_length]; omega), decide_eq_false h]
    rfl
theorem blanks_end (x : ByteArray) (hx : x.size ≤ 1000) (p n : Nat) (hp : p ≤ x.size) (hn : n ≤ 100) : ∃ K, ∀ k, K ≤ k → warrantorlaw18_NormBlanks.l0 k x (p : Int) (n : Int) (mk (x.data.toList.take p ++ List.replicate n 32)) (n : Int) = some true := by
  have hsz : (mk (x.data.toList.take p ++ List.replicate n 32)).size ≤ 1100 := by rw [size_mk]; simp; omega
  have hex : x.extract ((p : Int)).toNat x.size = mk (x.data.toList.drop p) := by
    rw [Int.toNat_natCast, extract_mk', List.take_of_length_le (by simp [data_length])]
  have hsz2 : (mk (x.data.toList.drop p)).size ≤ 1000 := by rw [size_mk, List.length_drop, data_length]; omega
  obtain ⟨K0, h0⟩ := lives_ev
  obtain ⟨K1, h1⟩ := nsame_ev x (mk (x.data.toList.take p ++ List.replicate n 32) ++ mk (x.data.toList.drop p)) (by omega) (by rw [ByteArray.size_append]; omega)
  obtain ⟨b, hb⟩ : ∃ b, decide (partsOf x = partsOf (mk (x.data.toList.take p ++ List.replicate n 32) ++ mk (x.data.toList.drop p))) = b := ⟨_, rfl⟩
  have hb2 : b = !(decide (0 < n) && (NormM.lastW (x.data.toList.take p) && headW (x.data.toList.drop p))) := by
    rw [← hb, Bool.eq_iff_iff, decide_eq_true_iff, gap_iff]
    generalize NormM.lastW (x.data.toList.take p) = u
    generalize headW (x.data.toList.drop p) = v
    cases u <;> cases v <;> simp
  rw [hb] at h1
  by_cases hp0 : 0 < p
  · by_cases hp1 : p < x.size
    · have hw1 : wrap64 ((p : Int) - 1) = ((p - 1 : Nat) : Int) := by unfold wrap64; omega
      have hw2 : wrap64 ((p : Int) + 1) = ((p + 1 : Nat) : Int) := by unfold wrap64; omega
      obtain ⟨c, hc, hbc⟩ := at_drop x rfl (p - 1) (by omega)
      obtain ⟨d, hd, hbd⟩ := at_drop x rfl p hp1
      have hcd : x.data.toList.drop (p - 1) = c :: d :: x.data.toList.drop (p + 1) := by rw [hc, show p - 1 + 1 = p by omega, hd]
      have htwo : x.extract ((((p - 1 : Nat) : Int))).toNat ((((p + 1 : Nat) : Int))).toNat = mk [c, d] := by
        rw [Int.toNat_natCast, Int.toNat_natCast, extract_mk', hcd, show p + 1 - (p - 1) = 2 by omega]
        rfl
      obtain ⟨K2, h2⟩ := rparts_ev (mk [c, d]) (by rw [size_mk]; simp)
      refine ⟨K0 + K1 + K2 + 1, fun k hk => ?_⟩
      obtain ⟨k, rfl⟩ : ∃ m, k = m + 1 := ⟨k - 1, by omega⟩
      have e0 : warrantorlaw18_lives.f k = some true := h0 k (by omega)
      have e1 : norm_Same.f k x (mk (x.data.toList.take p ++ List.replicate n 32) ++ mk (x.data.toList.drop p)) = some b := h1 k (by omega)
      have e2 : warrantorref18_Parts.f k (mk [c, d]) = some (partsOf (mk [c, d])) := h2 k (by omega)
      have hlen : (partsOf (mk [c, d])).length = (parts [c, d]).length := by unfold partsOf; rw [List.length_map, data_mk]
      have hlw : NormM.lastW (x.data.toList.take p) = wordB c := by rw [last_take x p hp0 hp, hbc]; rfl
      have hhw : headW (x.data.toList.drop p) = wordB d := by rw [hd]; rfl
      rw [hlw, hhw] at hb2
      rw [warrantorlaw18_NormBlanks.l0, if_neg (by omega), if_pos (by omega), if_pos (by omega), hex, if_pos (by omega), if_pos (by omega), if_pos (by omega), hw1, hw2, if_pos (by omega), if_pos (by omega), if_pos (by omega), htwo, e2, Option.bind_some, hlen, e0, e1, hbc, hbd]
      have hc1 : ((c.toNat : Int) = 32) ↔ c = 32 := ⟨fun h => byte_eq c 32 (by omega) h, fun h => by rw [h]; rfl⟩
      have hd1 : ((d.toNat : Int) = 32) ↔ d = 32 := ⟨fun h => byte_eq d 32 (by omega) h, fun h => by rw [h]; rfl⟩
      by_cases hone : (parts [c, d]).length = 1
      · rw [if_pos (by omega), if_pos (by omega)]
        by_cases hc32 : c = 32
        · have hbt : b = true := by rw [hb2, hc32, word_blank]; simp
          rw [if_pos (hc1.2 hc32), Option.bind_some, if_pos rfl, Option.bind_some, hbt]
          rfl
        · rw [if_neg (fun h => hc32 (hc1.1 h)), Option.bind_some, if_pos rfl]
          by_cases hd32 : d = 32
          · have hbt : b = true := by rw [hb2, hd32, word_blank]; simp
            rw [if_pos (hd1.2 hd32), Option.bind_some, hbt]
            rfl
          · have hww := (parts_two c d hc32 hd32).1 hone
            rw [if_neg (fun h => hd32 (hd1.1 h)), Option.bind_some, hb2, hww.1, hww.2]
            congr 1
            simp
      · have hnw : ¬ (wordB c = true ∧ wordB d = true) := by
          intro hw
          exact hone ((parts_two c d (word_ne hw.1) (word_ne hw.2)).2 hw)
        have hbt : b = true := by
          rw [hb2]
          cases g1 : wordB c
          · simp
          · cases g2 : wordB d
            · simp
            · exact absurd ⟨g1, g2⟩ hnw
        rw [if_neg (by omega), Option.bind_some, if_pos rfl, Option.bind_some, hbt]
        rfl
    · refine ⟨K0 + K1 + 1, fun k hk => ?_⟩
      obtain ⟨k, rfl⟩ : ∃ m, k = m + 1 := ⟨k - 1, by omega⟩
      have e0 : warrantorlaw18_lives.f k = some true := h0 k (by omega)
      have e1 : norm_Same.f k x (mk (x.data.toList.take p ++ List.replicate n 32) ++ mk (x.data.toList.drop p)) = some b := h1 k (by omega)
      have hbt : b = true := by rw [hb2, head_drop, decide_eq_false hp1]; simp
      rw [warrantorlaw18_NormBlanks.l0, if_neg (by omega), if_pos (by omega), if_pos (by omega), hex, if_pos (by omega), if_pos (by omega), if_neg (by omega), e0, Option.bind_some, if_pos rfl, e1, Option.bind_some, hbt]
      rfl
  · refine ⟨K0 + K1 + 1, fun k hk => ?_⟩
    obtain ⟨k, rfl⟩ : ∃ m, k = m + 1 := ⟨k - 1, by omega⟩
    have e0 : warrantorlaw18_lives.f k = some true := h0 k (by omega)
    have e1 : norm_Same.f k x (mk (x.data.toList.take p ++ List.replicate n 32) ++ mk (x.data.toList.drop p)) = some b := h1 k (by omega)
    have hbt : b = true := by rw [hb2, show p = 0 by omega]; simp [NormM.lastW]
    rw [warrantorlaw18_NormBlanks.l0, if_neg (by omega), if_pos (by omega), if_pos (by omega), hex, if_pos (by omega), if_neg (by omega), e0, Option.bind_some, if_pos rfl, e1, Option.bind_some, hbt]
    rfl
theorem blanks_loop (x : ByteArray) (hx : x.size ≤ 1000) (p n : Nat) (hp : p ≤ x.size) (hn : n ≤ 100) : ∀ (d i : Nat), i + d = n → ∃ K, ∀ k, K ≤ k → warrantorlaw18_NormBlanks.l0 k x (p : Int) (n : Int) (mk (x.data.toList.take p ++ List.replicate i 32)) (i : Int) = some true
  | 0, i, h => by
    obtain rfl : i = n := by omega
    exact blanks_end x hx p i hp hn
  | d + 1, i, h => by
    obtain ⟨K, hK⟩ := blanks_loop x hx p n hp hn d (i + 1) (by omega)
    refine ⟨K + 1, fun k hk => ?_⟩
    obtain ⟨k, rfl⟩ : ∃ m, k = m + 1 := ⟨k - 1, by omega⟩
    have hsz : (mk (x.data.toList.take p ++ List.replicate i 32)).size ≤ 1100 := by rw [size_mk]; simp; omega
    have e : (⟨#[32]⟩ : ByteArray) = mk [32] := rfl
    rw [warrantorlaw18_NormBlanks.l0, if_pos (by omega), if_pos (by omega), e, ← mk_app, w64 (by omega), List.append_assoc, show List.replicate i (32 : UInt8) ++ [32] = List.replicate (i + 1) 32 from (List.replicate_succ' ..).symm]
    exact hK k (by omega)
theorem NormBlanks : warrantorlaw18_NormBlanks.Pure := by
  intro x p n _ hp hn
  obtain ⟨Kl, hl⟩ := blanks_lives x p n
  have hlk := hl Kl (Nat.le_refl _)
  by_cases h1 : (x.size : Int) > 1000
  · exact ⟨Kl, by unfold warrantorlaw18_NormBlanks.f; rw [if_pos h1, hlk]⟩
  · by_cases h2 : p < 0
    · exact ⟨Kl, by unfold warrantorlaw18_NormBlanks.f; rw [if_neg h1, if_pos h2, hlk]⟩
    · by_cases h3 : p > (x.size : Int)
      · exact ⟨Kl, by unfold warrantorlaw18_NormBlanks.f; rw [if_neg h1, if_neg h2, if_pos h3, hlk]⟩
      · by_cases h4 : n < 0
        · exact ⟨Kl, by unfold warrantorlaw18_NormBlanks.f; rw [if_neg h1, if_neg h2, if_neg h3, if_pos h4, hlk]⟩
        · by_cases h5 : n > 100
          · exact ⟨Kl, by unfold warrantorlaw18_NormBlanks.f; rw [if_neg h1, if_neg h2, if_neg h3, if_neg h4, decide_eq_true h5, hlk]⟩
          · obtain ⟨q, rfl⟩ : ∃ q : Nat, p = (q : Int) := ⟨p.toNat, by omega⟩
            obtain ⟨m, rfl⟩ : ∃ m : Nat, n = (m : Int) := ⟨n.toNat, by omega⟩
            obtain ⟨K, hK⟩ := blanks_loop x (by omega) q m (by omega) (by omega) m 0 (by omega)
            refine ⟨K + 1, ?_⟩
            unfold warrantorlaw18_NormBlanks.f
            rw [if_neg h1, if_neg h2, if_neg h3, if_neg h4, decide_eq_false h5, warrantorlaw18_NormBlanks.j0, if_neg (by simp), if_pos (by omega), if_pos (by omega)]
            have := hK K (Nat.le_refl _)
            rw [List.replicate_zero, List.append_nil] at this
            rw [extract_mk', List.drop_zero, Int.toNat_natCast, Nat.sub_zero]
            exact this

end Go.Proofs.Ytgecigndgkcpkaa.Pure
