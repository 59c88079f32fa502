import Derived.Test.YtgecigndgkcpkaaPAllx
import Derived.Test.YtgecigndgkcpkaaBridge
set_option linter.unusedVariables false
set_option linter.unusedSimpArgs false
namespace Go.Proofs.Ytgecigndgkcpkaa.Pure
open Go Go.RowKit Go.Proofs.Ytgecigndgkcpkaa.PAll Go.Proofs.YtgecigndgkcpkaaW.PrintWords Go.Proofs.YtgecigndgkcpkaaW.PrintLast Go.Proofs.Ytgecigndgkcpkaa.Bridge Go.Proofs.Ytgecigndgkcpkaa.NormM Go.Proofs.Ytgecigndgkcpkaa.Pen

open Go.Proofs.Ytgecigndgkcpkaa.LebM (putN prefix_free get_put0 str_inj putN_byte)
theorem keys_lives (a : Int) (b c : ByteArray) (d : Int) (e f : ByteArray) : ∃ K, ∀ k, K ≤ k → warrantorlaw18_NormKeys.j0 k a b c d e f true = some true := by
  obtain ⟨K, hK⟩ := lives_ev
  refine ⟨K + 1, fun k hk => ?_⟩
  obtain ⟨k, rfl⟩ : ∃ m, k = m + 1 := ⟨k - 1, by omega⟩
  have h : warrantorlaw18_lives.f k = some true := hK k (by omega)
  rw [warrantorlaw18_NormKeys.j0, if_pos rfl, h]
  rfl
theorem key_at (a : Int) (ha : -9223372036854775808 ≤ a ∧ a < 9223372036854775808) (b c : ByteArray) (hb : b.size ≤ 1000) (hc : c.size ≤ 1000) : norm_Key.f a b c = some (keyL (putN 9) a b c) := by
  unfold norm_Key.f
  rw [if_pos ⟨by omega, by omega, ha.1, ha.2⟩]
theorem rkey_ev (a : Int) (ha : -9223372036854775808 ≤ a ∧ a < 9223372036854775808) (b c : ByteArray) (hb : b.size ≤ 1000) (hc : c.size ≤ 1000) : Ev (fun k => warrantorref18_Key.f k a b c) (keyL (putN 9) a b c) := by
  have hm : 0 ≤ max a 0 ∧ max a 0 < 18446744073709551616 := by omega
  obtain ⟨K1, h1⟩ := rput_ev hm.1 hm.2
  obtain ⟨K2, h2⟩ := rnorm_ev c (by omega)
  have hn := normOf_size c
  have hl : ∀ n, (putN 9 n).length ≤ 10 := fun n => putN_le 9 n
  have ht : ∀ s : ByteArray, (textL (putN 9) s).length ≤ 10 + s.size := fun s => by
    unfold textL
    rw [List.length_append, bytesOf_length]
    have := hl s.size
    omega
  have key : ∀ k, K1 + K2 ≤ k → warrantorref18_Key.j0 (k + 1) (max a 0) b c = some (keyL (putN 9) a b c) := by
    intro k hk
    have e1 : warrantorref01_Put.f k (max a 0) = some (putN 9 (max a 0)) := h1 k (by omega)
    have e2 : warrantorref18_Norm.f k c = some (normOf c) := h2 k (by omega)
    have e3 : warrantorref02_Num.f k (max a 0) = some (putN 9 (max a 0)) := by
      unfold warrantorref02_Num.f
      rw [show IntKind.u64.wrap (max a 0) = max a 0 by rw [IntKind.wrap_u64]; omega, e1]
      rfl
    have t1 : warrantorref02_Text.f b = some (textL (putN 9) b) := by unfold warrantorref02_Text.f; rw [if_pos (by omega)]
    have t2 : warrantorref02_Text.f (normOf c) = some (textL (putN 9) (normOf c)) := by unfold warrantorref02_Text.f; rw [if_pos (by omega)]
    have l1 := hl (max a 0)
    have l2 := ht b
    have l3 := ht (normOf c)
    rw [warrantorref18_Key.j0, e3, Option.bind_some, t1, Option.bind_some, if_pos (by omega), Option.bind_some, e2, Option.bind_some, t2, Option.bind_some, if_pos (by rw [List.length_append]; omega)]
    rfl
  refine ⟨K1 + K2 + 1, fun k hk => ?_⟩
  obtain ⟨k, rfl⟩ : ∃ m, k = m + 1 := ⟨k - 1, by omega⟩
  have := key k (by omega)
  show warrantorref18_Key.f (k + 1) a b c = _
  unfold warrantorref18_Key.f
  by_cases h : a < 0
  · rw [if_pos h]
    rw [show max a 0 = 0 by omega] at this
    exact this
  · rw [if_neg h]
    rw [show max a 0 = a by omega] at this
    exact this

/-- what stands behind a number tells the number and the rest -/
theorem put_cut {a b : Int} (ha : 0 ≤ a ∧ a < 18446744073709551616) (hb : 0 ≤ b ∧ b < 18446744073709551616) {r s : List Int} (h : putN 9 a ++ r = putN 9 b ++ s) : a = b ∧ r = s := by
  have h1 := get_put0 r ha.1 ha.2
  have h2 := get_put0 s hb.1 hb.2
  rw [h, h2] at h1
  have e : a = b := (congrArg Prod.fst h1).symm
  subst e
  exact ⟨rfl, List.append_cancel_left h⟩
theorem bytes_inj {s t : ByteArray} (h : bytesOf s = bytesOf t) : s = t := by
  apply ByteArray.ext
  apply Array.ext'
  unfold bytesOf at h
  exact (List.map_inj_right (fun x y hxy => UInt8.toNat_inj.1 (Int.ofNat.inj hxy))).1 h
theorem text_cut {s t : ByteArray} (hs : s.size ≤ 1000) (ht : t.size ≤ 1000) {r q : List Int} (h : textL (putN 9) s ++ r = textL (putN 9) t ++ q) : s = t ∧ r = q := by
  unfold textL at h
  rw [List.append_assoc, List.append_assoc] at h
  obtain ⟨e, h⟩ := put_cut ⟨by omega, by omega⟩ ⟨by omega, by omega⟩ h
  have hl : (bytesOf s).length = (bytesOf t).length := by rw [bytesOf_length, bytesOf_length]; omega
  obtain ⟨e1, e2⟩ := List.append_inj h hl
  exact ⟨bytes_inj e1, e2⟩
theorem key_inj {a d : Int} (ha : 0 ≤ a ∧ a < 9223372036854775808) (hd : 0 ≤ d ∧ d < 9223372036854775808) {b c e f : ByteArray} (hb : b.size ≤ 1000) (hc : c.size ≤ 1000) (he : e.size ≤ 1000) (hf : f.size ≤ 1000) (h : keyL (putN 9) a b c = keyL (putN 9) d e f) : a = d ∧ b = e ∧ normOf c = normOf f := by
  unfold keyL at h
  rw [List.append_assoc, List.append_assoc] at h
  obtain ⟨h1, h⟩ := put_cut ⟨by omega, by omega⟩ ⟨by omega, by omega⟩ h
  obtain ⟨h2, h⟩ := text_cut hb he h
  have n1 := normOf_size c
  have n2 := normOf_size f
  obtain ⟨h3, _⟩ := text_cut (s := normOf c) (t := normOf f) (r := []) (q := []) (by omega) (by omega) (by rw [List.append_nil, List.append_nil]; exact h)
  exact ⟨by omega, h2, h3⟩
theorem bytesOf_byte (s : ByteArray) : ∀ x ∈ bytesOf s, 0 ≤ x ∧ x < 256 := by
  intro x hx
  unfold bytesOf at hx
  obtain ⟨c, _, rfl⟩ := List.mem_map.1 hx
  have := c.toNat_lt
  omega
theorem key_byte (a : Int) (ha : a < 9223372036854775808) (b c : ByteArray) (hb : b.size ≤ 1000) (hc : c.size ≤ 1000) : ∀ x ∈ keyL (putN 9) a b c, 0 ≤ x ∧ x < 256 := by
  have n1 := normOf_size c
  have hp : ∀ n : Int, 0 ≤ n → n < 18446744073709551616 → ∀ x ∈ putN 9 n, 0 ≤ x ∧ x < 256 := fun n h0 h1 => putN_byte 9 n h0 (by omega)
  intro x hx
  unfold keyL textL at hx
  simp only [List.mem_append] at hx
  rcases hx with (hx | hx | hx) | hx | hx
  · exact hp _ (by omega) (by omega) x hx
  · exact hp _ (by omega) (by omega) x hx
  · exact bytesOf_byte b x hx
  · exact hp _ (by omega) (by omega) x hx
  · exact bytesOf_byte _ x hx

theorem keys_main (a : Int) (b c : ByteArray) (d : Int) (e f : ByteArray) (ha : -9223372036854775808 ≤ a ∧ a < 9223372036854775808) (hd : -9223372036854775808 ≤ d ∧ d < 9223372036854775808) (hb : b.size ≤ 300) (hc : c.size ≤ 300) (he : e.size ≤ 300) (hf : f.size ≤ 300) : ∃ K, ∀ k, K ≤ k → warrantorlaw18_NormKeys.j0 k a b c d e f false = some true := by
  obtain ⟨K0, h0⟩ := lives_ev
  obtain ⟨K1, h1⟩ := rkey_ev a ha b c (by omega) (by omega)
  obtain ⟨K2, h2⟩ := nsame_ev c f (by omega) (by omega)
  refine ⟨K0 + K1 + K2 + 1, fun k hk => ?_⟩
  obtain ⟨k, rfl⟩ : ∃ m, k = m + 1 := ⟨k - 1, by omega⟩
  have e0 : warrantorlaw18_lives.f k = some true := h0 k (by omega)
  have e1 : warrantorref18_Key.f k a b c = some (keyL (putN 9) a b c) := h1 k (by omega)
  have e2 : norm_Same.f k c f = some (decide (partsOf c = partsOf f)) := h2 k (by omega)
  have heq : ((strOfNums (keyL (putN 9) a b c)).toList = (strOfNums (keyL (putN 9) d e f)).toList) ↔ keyL (putN 9) a b c = keyL (putN 9) d e f :=
    ⟨fun h => str_inj (key_byte a ha.2 b c (by omega) (by omega)) (key_byte d hd.2 e f (by omega) (by omega)) h, fun h => by rw [h]⟩
  rw [warrantorlaw18_NormKeys.j0, if_neg (by simp), key_at a ha b c (by omega) (by omega), Option.bind_some, key_at d hd e f (by omega) (by omega), Option.bind_some, e0, Option.bind_some, if_pos rfl, e1, Option.bind_some, if_pos rfl]
  by_cases hbe : b.toList = e.toList
  · have hbe2 := (toList_inj b e).1 hbe
    rw [if_pos hbe, e2, Option.bind_some]
    by_cases ha0 : a < 0
    · rw [if_pos ha0]
    · rw [if_neg ha0]
      by_cases hd0 : d < 0
      · rw [if_pos hd0]
      · rw [if_neg hd0]
        by_cases hp : partsOf c = partsOf f
        · rw [decide_eq_true hp, if_pos rfl]
          congr 1
          have hn := (normOf_eq c f).2 hp
          have : ((strOfNums (keyL (putN 9) a b c)).toList == (strOfNums (keyL (putN 9) d e f)).toList) = (a == d) := by
            rw [Bool.eq_iff_iff, beq_iff_eq, beq_iff_eq, heq]
            constructor
            · intro h; exact (key_inj ⟨by omega, ha.2⟩ ⟨by omega, hd.2⟩ (by omega) (by omega) (by omega) (by omega) h).1
            · intro h; unfold keyL; rw [h, hbe2, hn]
          rw [this]
          simp
        · rw [decide_eq_false hp, if_neg (by simp)]
          congr 1
          have : ((strOfNums (keyL (putN 9) a b c)).toList == (strOfNums (keyL (putN 9) d e f)).toList) = false := by
            rw [beq_eq_false_iff_ne, ne_eq, heq]
            intro h
            exact hp ((normOf_eq c f).1 (key_inj ⟨by omega, ha.2⟩ ⟨by omega, hd.2⟩ (by omega) (by omega) (by omega) (by omega) h).2.2)
          rw [this]
          rfl
  · rw [if_neg hbe]
    by_cases ha0 : a < 0
    · rw [if_pos ha0]
    · rw [if_neg ha0]
      by_cases hd0 : d < 0
      · rw [if_pos hd0]
      · rw [if_neg hd0]
        congr 1
        have : ((strOfNums (keyL (putN 9) a b c)).toList == (strOfNums (keyL (putN 9) d e f)).toList) = false := by
          rw [beq_eq_false_iff_ne, ne_eq, heq]
          intro h
          exact hbe ((toList_inj b e).2 (key_inj ⟨by omega, ha.2⟩ ⟨by omega, hd.2⟩ (by omega) (by omega) (by omega) (by omega) h).2.1)
        rw [this]
        rfl
theorem NormKeys : warrantorlaw18_NormKeys.Pure := by
  intro a b c d e f ha _ _ hd _ _
  obtain ⟨Kl, hl⟩ := keys_lives a b c d e f
  have hlk := hl Kl (Nat.le_refl _)
  by_cases h1 : (b.size : Int) > 300
  · exact ⟨Kl, by unfold warrantorlaw18_NormKeys.f; rw [if_pos h1, hlk]⟩
  · by_cases h2 : (c.size : Int) > 300
    · exact ⟨Kl, by unfold warrantorlaw18_NormKeys.f; rw [if_neg h1, if_pos h2, hlk]⟩
    · by_cases h3 : (e.size : Int) > 300
      · exact ⟨Kl, by unfold warrantorlaw18_NormKeys.f; rw [if_neg h1, if_neg h2, if_pos h3, hlk]⟩
      · by_cases h4 : (f.size : Int) > 300
        · exact ⟨Kl, by unfold warrantorlaw18_NormKeys.f; rw [if_neg h1, if_neg h2, if_neg h3, decide_eq_true h4, hlk]⟩
        · obtain ⟨K, hK⟩ := keys_main a b c d e f (i64_of ha) (i64_of hd) (by omega) (by omega) (by omega) (by omega)
          exact ⟨K, by unfold warrantorlaw18_NormKeys.f; rw [if_neg h1, if_neg h2, if_neg h3, decide_eq_false h4, hK K (Nat.le_refl _)]⟩

end Go.Proofs.Ytgecigndgkcpkaa.Pure
