/- The reference's Show and Large. -/
import Derived.Test.YtdgholodogcemaaPAllx3
import Derived.Test.YtdgholodogcemaaMsh
set_option linter.unusedVariables false
set_option linter.unusedSimpArgs false
namespace Go.Proofs.Ytdgholodogcemaa.Lex
open Go Go.RowKit Go.Proofs.Ytdgholodogcemaa.PAll Go.Proofs.YtdgholodogcemaaW.PrintWords Go.Proofs.YtdgholodogcemaaW.PrintLast Go.Proofs.YtdgholodogcemaaW.PrintMore
theorem ref_plain (s : ByteArray) (hs : s.size ≤ 1000000000) : ∀ (d i k : Nat), i + d = s.size → d < k → warrantorref23_plain.l0 k s (i : Int) = some (((bytesN s).drop i).all plainB)
  | 0, i, k, h, hk => by
    obtain ⟨k, rfl⟩ : ∃ m, k = m + 1 := ⟨k - 1, by omega⟩
    simp only [warrantorref23_plain.l0]
    rw [if_neg (by omega), bytesN_end (by omega)]
    simp
  | d + 1, i, k, h, hk => by
    obtain ⟨k, rfl⟩ : ∃ m, k = m + 1 := ⟨k - 1, by omega⟩
    have h1 : i < s.size := by omega
    simp only [warrantorref23_plain.l0]
    rw [if_pos (by omega), if_pos (by omega), bt_nat s h1, drop_at s h1, List.all_cons]
    by_cases ha : (s[i]'h1).toNat < 32
    · rw [if_pos (by omega), show plainB (s[i]'h1).toNat = false by unfold plainB; rw [decide_eq_false (by omega)]; rfl]
      rfl
    rw [if_neg (by omega)]
    by_cases hb : 126 < (s[i]'h1).toNat
    · rw [if_pos (by omega), show plainB (s[i]'h1).toNat = false by unfold plainB; rw [decide_eq_false (show ¬ (s[i]'h1).toNat ≤ 126 by omega), Bool.and_false]]
      rfl
    rw [if_neg (by omega), w64n (by omega), ref_plain s hs d (i + 1) k (by omega) (by omega), show plainB (s[i]'h1).toNat = true by unfold plainB; rw [decide_eq_true (show 32 ≤ (s[i]'h1).toNat by omega), decide_eq_true (show (s[i]'h1).toNat ≤ 126 by omega)]; rfl]
    rfl
theorem ref_plain_f (s : ByteArray) (hs : s.size ≤ 1000000000) {k : Nat} (hk : s.size < k) : warrantorref23_plain.f k s = some ((bytesN s).all plainB) := by
  unfold warrantorref23_plain.f
  rw [show (0 : Int) = ((0 : Nat) : Int) from rfl, ref_plain s hs s.size 0 k (by omega) hk, List.drop_zero]
theorem flat_ge : ∀ (l : List Nat), l.all plainB = true → l.length ≤ (l.flatMap qb).length
  | [], _ => Nat.le_refl _
  | c :: l, h => by
    rw [List.all_cons, Bool.and_eq_true] at h
    have ih := flat_ge l h.2
    have h1 : 1 ≤ (qb c).length := by unfold qb; rw [if_pos h.1]; split <;> simp
    rw [List.flatMap_cons, List.length_append, List.length_cons]
    omega
theorem quote_ge {s : ByteArray} (h : (bytesN s).all plainB = true) : s.size + 2 ≤ (quoteM s).length := by
  have := flat_ge _ h
  rw [bytesN_len] at this
  simp only [quoteM, List.length_append, List.length_cons, List.length_nil]
  omega
def showR : Option (List Int × Bool) → ByteArray × Bool
  | none => (⟨#[]⟩, false)
  | some r => (strOfNums r.1, r.2)
theorem app_text (acc : List Int) (t : ByteArray) : strOfNums acc ++ t = strOfNums (acc ++ bytesOf t) := by rw [← str_app, str_of_bytes]
theorem wr2 {n : Nat} (h : n ≤ 1000000000) : wrap64 ((n : Int) + 2) = ((n + 2 : Nat) : Int) := by unfold wrap64; omega
theorem ref_show (l : List S36) (hW : weight l ≤ 1000000000) (hl : l.length ≤ 1000000000) : ∀ (d i k : Nat) (acc : List Int) (first : Bool), i + d = l.length → 4 * d + 2 * weight l + 20 ≤ k → acc.length + weight (l.drop i) ≤ 1000000000 →
    warrantorref23_Show.l0 k l (strOfNums acc) first (i : Int) = some (showR (showL (l.drop i) first acc))
  | 0, i, k, acc, first, h, hk, ha => by
    obtain ⟨k, rfl⟩ : ∃ m, k = m + 1 := ⟨k - 1, by omega⟩
    simp only [warrantorref23_Show.l0]
    rw [if_neg (by omega), List.drop_eq_nil_of_le (by omega)]
    rfl
  | d + 1, i, k, acc, first, h, hk, ha => by
    obtain ⟨k, rfl⟩ : ∃ m, k = m + 4 := ⟨k - 4, by omega⟩
    have h1 : i < l.length := by omega
    have hd := List.drop_eq_getElem_cons h1
    have hx := weight_drop hd
    have hr : rd_T36 l (i : Int) = l[i] := by simp [rd_T36, h1]
    rw [hd] at ha ⊢
    generalize l[i] = x at hd hx hr ha ⊢
    obtain ⟨kd, ln, cl, t⟩ := x
    simp only at hx
    have hwt : weight ((⟨kd, ln, cl, t⟩ : S36) :: l.drop (i + 1)) = 2 * t.size + 3 + weight (l.drop (i + 1)) := rfl
    rw [hwt] at ha
    have ih := fun k acc first hk ha => ref_show l hW hl d (i + 1) k acc first (by omega) hk ha
    have ht : t.size ≤ 1000000000 := by omega
    have hbl := body_len kd t
    have hql := quote_len t
    have hsep : (sepI first).length ≤ 1 := by unfold sepI; split <;> simp
    have J3 : ∀ k, 4 * d + 2 * weight l + 20 ≤ k → kd = 1 ∨ kd = 2 → warrantorref23_Show.j3 (k + 1) l (strOfNums acc) first (i : Int) kd ln cl t = some (showR (showL (l.drop (i + 1)) false (acc ++ sepI first ++ bodyM kd t))) := by
      intro k hk hkd
      simp only [warrantorref23_Show.j3]
      rw [w64n (by omega), show (⟨#[32]⟩ : ByteArray) = strOfNums [32] from rfl]
      cases first with
      | true =>
        rw [if_pos rfl]
        rcases hkd with rfl | rfl
        · rw [if_pos (by rfl), strOfNums_size, if_pos (by omega), app_text, ih _ _ _ hk (by simp only [List.length_append, bytesOf_length]; omega)]
          simp [sepI, bodyM]
        · rw [if_neg (by decide), ref_quote_f t ht (by omega), Option.bind_some, strOfNums_size, strOfNums_size, if_pos (by omega), str_app, ih _ _ _ hk (by simp only [List.length_append]; omega)]
          simp [sepI, bodyM]
      | false =>
        rw [if_neg (by decide), strOfNums_size, if_pos (by omega), str_app]
        rcases hkd with rfl | rfl
        · rw [if_pos (by rfl), strOfNums_size, if_pos (by simp only [List.length_append, List.length_cons, List.length_nil]; omega), app_text, ih _ _ _ hk (by simp only [List.length_append, bytesOf_length, List.length_cons, List.length_nil]; omega)]
          simp [sepI, bodyM]
        · rw [if_neg (by decide), ref_quote_f t ht (by omega), Option.bind_some, strOfNums_size, strOfNums_size, if_pos (by simp only [List.length_append, List.length_cons, List.length_nil]; omega), str_app, ih _ _ _ hk (by simp only [List.length_append, List.length_cons, List.length_nil]; omega)]
          simp [sepI, bodyM]
    have hsl : showL ((⟨kd, ln, cl, t⟩ : S36) :: l.drop (i + 1)) first acc = if rightM kd t first then (if kd = 3 then showL (l.drop (i + 1)) true (acc ++ [10]) else showL (l.drop (i + 1)) false (acc ++ sepI first ++ bodyM kd t)) else none := rfl
    rw [hsl]
    have J1 : ∀ b : Bool, b = (decide (kd = 3) && (decide (t.size = 0) && !first)) → warrantorref23_Show.j1 (k + 3) l (strOfNums acc) first (i : Int) b kd ln cl t = some (showR (if rightM kd t first then (if kd = 3 then showL (l.drop (i + 1)) true (acc ++ [10]) else showL (l.drop (i + 1)) false (acc ++ sepI first ++ bodyM kd t)) else none)) := by
      intro b hb
      simp only [warrantorref23_Show.j1]
      by_cases h3 : kd = 3
      · subst h3
        have hb2 : b = rightM 3 t first := by
          rw [hb]
          show _ = (!first && decide (t.size = 0))
          cases first <;> simp
        rw [← hb2]
        cases b with
        | true =>
          rw [if_pos rfl, if_pos rfl, if_pos rfl, strOfNums_size, if_pos (by omega), show (⟨#[10]⟩ : ByteArray) = strOfNums [10] from rfl, str_app, w64n (by omega), ih _ _ _ (by omega) (by simp only [List.length_append, List.length_cons, List.length_nil]; omega)]
        | false =>
          rw [if_neg (by decide), if_neg (by decide), if_neg (by decide)]
          simp only [warrantorref23_Show.j2]
          rw [if_neg (by decide), if_neg (by decide)]
          rfl
      · have hb2 : b = false := by rw [hb, decide_eq_false h3]; rfl
        subst hb2
        rw [if_neg (by decide), if_neg h3]
        by_cases hk1 : kd = 1
        · subst hk1
          rw [if_pos (show (1 : Int) = 1 from rfl), ref_word_f t ht (by omega), Option.bind_some]
          simp only [warrantorref23_Show.j2]
          have hr1 : rightM 1 t first = wordT t := rfl
          rw [hr1]
          by_cases hw : wordT t = true
          · rw [if_pos hw, if_pos hw, J3 _ (by omega) (.inl rfl)]
          · rw [if_neg hw, if_neg hw, if_neg (by decide)]
            rfl
        · rw [if_neg hk1]
          simp only [warrantorref23_Show.j2]
          rw [if_neg (by decide)]
          by_cases hk2 : kd = 2
          · subst hk2
            have hr2 : rightM 2 t first = (bytesN t).all plainB := rfl
            rw [if_pos (show (2 : Int) = 2 from rfl), ref_quote_f t ht (by omega), Option.bind_some, strOfNums_size, wr2 ht, hr2]
            by_cases hp : (bytesN t).all plainB = true
            · have := quote_ge hp
              rw [if_pos (by omega), ref_plain_f t ht (by omega), Option.bind_some, if_pos hp, if_pos hp, J3 _ (by omega) (.inr rfl)]
            · rw [if_neg hp, ref_plain_f t ht (by omega), Option.bind_some, if_neg hp]
              split <;> rfl
          · rw [if_neg hk2, show rightM kd t first = false by unfold rightM; rw [if_neg hk1, if_neg hk2, if_neg h3]]
            rfl
    simp only [warrantorref23_Show.l0]
    rw [if_pos (by omega), if_pos (by omega), hr]
    simp only
    by_cases h3 : kd = 3
    · rw [if_pos h3]
      by_cases he : t.toList = ([] : List UInt8)
      · have hz : t.size = 0 := by rw [← toList_len, he]; rfl
        rw [if_pos he, J1 _ (by rw [decide_eq_true h3, decide_eq_true hz]; simp)]
      · have hz : t.size ≠ 0 := fun h => he (List.eq_nil_of_length_eq_zero (by rw [toList_len, h]))
        rw [if_neg he, J1 _ (by rw [decide_eq_false hz]; simp)]
    · rw [if_neg h3, J1 _ (by rw [decide_eq_false h3]; rfl)]
theorem ref_show_f (l : List S36) (hW : weight l ≤ 1000000000) (hl : l.length ≤ 1000000000) {k : Nat} (hk : 4 * l.length + 2 * weight l + 20 ≤ k) : warrantorref23_Show.f k l = some (showR (showL l true [])) := by
  unfold warrantorref23_Show.f
  have := ref_show l hW hl l.length 0 k [] true (by omega) hk (by simpa using hW)
  rw [List.drop_zero] at this
  exact this
/-! ### how much there is -/
def sizes : List S36 → Nat
  | [] => 0
  | x :: l => x.f3.size + sizes l
theorem sizes_weight (l : List S36) : weight l = 2 * sizes l + 3 * l.length := by
  induction l with
  | nil => rfl
  | cons x l ih => simp only [weight, sizes, List.length_cons, ih]; omega
theorem sizes_le (l : List S36) (h : ∀ x ∈ l, x.f3.size ≤ 140737488351232) : sizes l ≤ 140737488351232 * l.length := by
  induction l with
  | nil => exact Nat.le_refl _
  | cons x l ih =>
    have h1 := h x (by simp)
    have h2 := ih fun y hy => h y (by simp [hy])
    simp only [sizes, List.length_cons]
    omega
theorem large_long (l : List S36) (hl : l.length ≤ 4000000000000000) (hb : 500 < l.length) : ∀ (d i k : Nat) (a : Int), i + d = l.length → d < k → warrantorref23_Large.l0 k l a (i : Int) = some true
  | 0, i, k, a, h, hk => by
    obtain ⟨k, rfl⟩ : ∃ m, k = m + 1 := ⟨k - 1, by omega⟩
    simp only [warrantorref23_Large.l0]
    rw [if_neg (by omega)]
    split
    · rfl
    · rw [decide_eq_true (by omega)]
  | d + 1, i, k, a, h, hk => by
    obtain ⟨k, rfl⟩ : ∃ m, k = m + 1 := ⟨k - 1, by omega⟩
    simp only [warrantorref23_Large.l0]
    rw [if_pos (by omega), if_pos (by omega), w64n (by omega)]
    exact large_long l hl hb d (i + 1) k _ (by omega) (by omega)
theorem large_short (l : List S36) (hb : l.length ≤ 500) (h : ∀ x ∈ l, x.f3.size ≤ 140737488351232) : ∀ (d i k : Nat) (a : Nat), i + d = l.length → d < k → a + sizes (l.drop i) ≤ 140737488351232 * 500 → warrantorref23_Large.l0 k l (a : Int) (i : Int) = some (decide (5000 < a + sizes (l.drop i)))
  | 0, i, k, a, hd, hk, ha => by
    obtain ⟨k, rfl⟩ : ∃ m, k = m + 1 := ⟨k - 1, by omega⟩
    simp only [warrantorref23_Large.l0]
    rw [if_neg (by omega), List.drop_eq_nil_of_le (by omega)]
    rw [show a + sizes [] = a from rfl]
    by_cases hc : 5000 < a
    · rw [if_pos (by omega), decide_eq_true hc]
    · rw [if_neg (by omega), decide_eq_false hc, decide_eq_false (by omega)]
  | d + 1, i, k, a, hd, hk, ha => by
    obtain ⟨k, rfl⟩ : ∃ m, k = m + 1 := ⟨k - 1, by omega⟩
    have h1 : i < l.length := by omega
    have hr : rd_T36 l (i : Int) = l[i] := by simp [rd_T36, h1]
    rw [List.drop_eq_getElem_cons h1] at ha ⊢
    simp only [sizes] at ha ⊢
    simp only [warrantorref23_Large.l0]
    have hw : wrap64 ((a : Int) + ((l[i].f3).size : Int)) = ((a + l[i].f3.size : Nat) : Int) := by unfold wrap64; omega
    rw [if_pos (by omega), if_pos (by omega), hr, hw, w64n (by omega), large_short l hb h d (i + 1) k _ (by omega) (by omega) (by omega)]
    congr 1
    exact decide_eq_decide.2 (by omega)
end Go.Proofs.Ytdgholodogcemaa.Lex
