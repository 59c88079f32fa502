/- What the functions of layer 18, as the print tells them, come to: the plain mathematics of the text Math. -/
import Derived.Test.YtgecigndgkcpkaaPAllx
set_option linter.unusedVariables false
set_option linter.unusedSimpArgs false
namespace Go.Proofs.Ytgecigndgkcpkaa.Bridge
open Go Go.RowKit Go.Proofs.Ytgecigndgkcpkaa.PAll Go.Proofs.YtgecigndgkcpkaaW.PrintWords Go.Proofs.YtgecigndgkcpkaaW.PrintLast Go.Proofs.YtgecigndgkcpkaaW.PrintMore Go.Proofs.Ytgecigndgkcpkaa.NormM Go.Proofs.Ytgecigndgkcpkaa.Pen
open Go.Proofs.Ytgecigndgkcpkaa.LebM (toList_data putN)

theorem lives_ev : Ev (fun k => warrantorlaw18_lives.f k) true :=
  Ev.of (fun k => warrantorlaw18_lives.mono k) (k := 40) (by decide +kernel)

theorem word_all : ∀ c : Fin 256, warrantorref18_word.f 10 ((c.val : Nat) : Int) = some (wordN c.val) := by decide +kernel
theorem word_at {c : Int} (h0 : 0 ≤ c) (h1 : c < 256) {k : Nat} (hk : 10 ≤ k) : warrantorref18_word.f k c = some (wordN c.toNat) := by
  have := word_all ⟨c.toNat, by omega⟩
  simp only [Int.toNat_of_nonneg h0] at this
  exact at_rounds (fun k => warrantorref18_word.mono c k) hk this

theorem rd_at (a : List ByteArray) (i : Nat) (h : i < a.length) : rdOf ByteArray.empty a (i : Int) = a[i] := by simp [rdOf, h]
theorem w64 {i : Nat} (h : i < 9223372036854775807) : wrap64 ((i : Int) + 1) = ((i + 1 : Nat) : Int) := by unfold wrap64; omega
theorem toList_inj (a b : ByteArray) : a.toList = b.toList ↔ a = b :=
  ⟨fun h => by rw [toList_data, toList_data] at h; exact ByteArray.ext (Array.ext' h), fun h => by rw [h]⟩

theorem same_loop (a b : List ByteArray) (hl : a.length = b.length) (hm : a.length < 9223372036854775807) : ∀ (d i k : Nat), i + d = a.length → d < k → warrantorref05_Same.l0 k a b (i : Int) = some (decide (a.drop i = b.drop i))
  | 0, i, k, h, hk => by
    obtain ⟨k, rfl⟩ : ∃ m, k = m + 1 := ⟨k - 1, by omega⟩
    simp only [warrantorref05_Same.l0]
    rw [if_neg (by omega), List.drop_eq_nil_of_le (by omega), List.drop_eq_nil_of_le (by omega)]
    simp
  | d + 1, i, k, h, hk => by
    obtain ⟨k, rfl⟩ : ∃ m, k = m + 1 := ⟨k - 1, by omega⟩
    have h1 : i < a.length := by omega
    have h2 : i < b.length := by omega
    simp only [warrantorref05_Same.l0]
    rw [if_pos (by omega), if_pos (by omega), if_pos (by omega), rd_at a i h1, rd_at b i h2, w64 (by omega), same_loop a b hl hm d (i + 1) k (by omega) (by omega), List.drop_eq_getElem_cons h1, List.drop_eq_getElem_cons h2]
    by_cases he : a[i] = b[i]
    · rw [if_pos (by rw [he]), he]; simp only [List.cons.injEq, true_and]
    · rw [if_neg (fun hh => he ((toList_inj _ _).1 hh))]; simp only [List.cons.injEq, he, false_and, decide_false]
theorem same_ev (a b : List ByteArray) (hm : a.length < 9223372036854775807) : Ev (fun k => warrantorref05_Same.f k a b) (decide (a = b)) := by
  refine ⟨a.length + 1, fun k hk => ?_⟩
  show warrantorref05_Same.f k a b = _
  unfold warrantorref05_Same.f
  by_cases hl : a.length = b.length
  · rw [if_pos (by omega)]
    exact same_loop a b hl hm a.length 0 k (by omega) (by omega)
  · rw [if_neg (by omega), decide_eq_false (fun h => hl (by rw [h]))]
theorem equal_loop (a b : List ByteArray) (hl : a.length = b.length) (hm : a.length < 9223372036854775807) : ∀ (d i k : Nat), i + d = a.length → d < k → slices_Equal_string_string.l0 k a b (a.length : Int) (i : Int) = some (decide (a.drop i = b.drop i))
  | 0, i, k, h, hk => by
    obtain ⟨k, rfl⟩ : ∃ m, k = m + 1 := ⟨k - 1, by omega⟩
    simp only [slices_Equal_string_string.l0]
    rw [if_neg (by omega), List.drop_eq_nil_of_le (by omega), List.drop_eq_nil_of_le (by omega)]
    simp
  | d + 1, i, k, h, hk => by
    obtain ⟨k, rfl⟩ : ∃ m, k = m + 1 := ⟨k - 1, by omega⟩
    have h1 : i < a.length := by omega
    have h2 : i < b.length := by omega
    simp only [slices_Equal_string_string.l0]
    rw [if_pos (by omega), if_pos (by omega), if_pos (by omega), if_pos (by omega), rd_at a i h1, rd_at b i h2, w64 (by omega), equal_loop a b hl hm d (i + 1) k (by omega) (by omega), List.drop_eq_getElem_cons h1, List.drop_eq_getElem_cons h2]
    by_cases he : a[i] = b[i]
    · rw [if_pos (by rw [he]), he]; simp only [List.cons.injEq, true_and]
    · rw [if_neg (fun hh => he ((toList_inj _ _).1 hh))]; simp only [List.cons.injEq, he, false_and, decide_false]
theorem equal_ev (a b : List ByteArray) (hm : a.length < 9223372036854775807) : Ev (fun k => slices_Equal_string_string.f k a b) (decide (a = b)) := by
  refine ⟨a.length + 1, fun k hk => ?_⟩
  show slices_Equal_string_string.f k a b = _
  unfold slices_Equal_string_string.f
  by_cases hl : a.length = b.length
  · rw [if_pos (by omega)]
    exact equal_loop a b hl hm a.length 0 k (by omega) (by omega)
  · rw [if_neg (by omega), decide_eq_false (fun h => hl (by rw [h]))]

theorem mk_inj {a b : List UInt8} (h : mk a = mk b) : a = b := by
  have := congrArg (fun s : ByteArray => s.data.toList) h
  simpa [mk] using this
theorem partsOf_inj (s t : ByteArray) : partsOf s = partsOf t ↔ parts s.data.toList = parts t.data.toList := by
  unfold partsOf
  constructor
  · intro h
    exact (List.map_inj_right (fun x y hxy => mk_inj hxy)).1 h
  · intro h; rw [h]
theorem partsOf_len (s : ByteArray) : (partsOf s).length ≤ s.size := by
  unfold partsOf
  rw [List.length_map, ← data_length]
  exact parts_count _

theorem parts_at (s : ByteArray) (h : s.size ≤ 1000000) : norm_Parts.f s = some (partsOf s) := by unfold norm_Parts.f; rw [if_pos (by omega)]
theorem norm_at (s : ByteArray) (h : s.size ≤ 1000000) : norm_Norm.f s = some (normOf s) := by unfold norm_Norm.f; rw [if_pos (by omega)]
theorem nsame_ev (s t : ByteArray) (hs : s.size ≤ 1000000) (ht : t.size ≤ 1000000) : Ev (fun k => norm_Same.f k s t) (decide (partsOf s = partsOf t)) := by
  obtain ⟨K, hK⟩ := equal_ev (partsOf s) (partsOf t) (by have := partsOf_len s; omega)
  refine ⟨K, fun k hk => ?_⟩
  show norm_Same.f k s t = _
  unfold norm_Same.f
  rw [parts_at s hs, Option.bind_some, parts_at t ht, Option.bind_some]
  have := hK k hk
  dsimp only at this
  rw [this]
  rfl

theorem take_snoc (L : List UInt8) (i : Nat) (h : i < L.length) : L.take (i + 1) = L.take i ++ [L[i]] := by rw [List.take_add_one, List.getElem?_eq_getElem h]; rfl
/-! ### the reference's parts -/
theorem rparts_loop (s : ByteArray) {L : List UInt8} (hL : s.data.toList = L) (hs : s.size ≤ 1000000) : ∀ (d i k : Nat), i + d = s.size → 11 + d < k → warrantorref18_Parts.l0 k s ((parts (L.take i)).map mk) (i : Int) = some ((parts L).map mk)
  | 0, i, k, h, hk => by
    obtain ⟨k, rfl⟩ : ∃ m, k = m + 1 := ⟨k - 1, by omega⟩
    simp only [warrantorref18_Parts.l0]
    rw [if_neg (by omega), List.take_of_length_le (by rw [len_of s hL]; omega)]
  | d + 1, i, k, h, hk => by
    obtain ⟨k, rfl⟩ : ∃ m, k = m + 1 := ⟨k - 1, by omega⟩
    have hi : i < s.size := by omega
    have hiL : i < L.length := by rw [len_of s hL]; exact hi
    obtain ⟨c, hc, hb⟩ := at_drop s hL i hi
    have hci : L[i] = c := by
      have := List.drop_eq_getElem_cons hiL
      rw [hc] at this
      exact (List.cons.inj this).1.symm
    have ht : L.take (i + 1) = L.take i ++ [c] := by rw [← hci]; exact take_snoc L i hiL
    have hext : s.extract ((i : Int)).toNat (wrap64 ((i : Int) + 1)).toNat = mk [c] := by
      rw [w64 (by omega), Int.toNat_natCast, Int.toNat_natCast, extract_mk s hL, hc]
      simp
    have ih := rparts_loop s hL hs d (i + 1) k (by omega) (by omega)
    rw [ht] at ih
    have hlen : (parts (L.take i)).length ≤ i := Nat.le_trans (parts_count _) (by simp; omega)
    have c256 : (c.toNat : Int) < 256 := by have := c.toNat_lt; omega
    simp only [warrantorref18_Parts.l0]
    rw [if_pos (by omega), if_pos (by omega), hext, w64 (by omega), hb]
    by_cases h32 : (c.toNat : Int) = 32
    · have : c = 32 := byte_eq c 32 (by omega) h32
      rw [if_pos h32]
      rw [this, parts_snoc_blank] at ih
      exact ih
    · have hc32 : c ≠ 32 := by rintro rfl; exact h32 rfl
      rw [if_neg h32, word_at (by omega) c256 (by omega), Option.bind_some]
      have hnew : ¬ (lastW (L.take i) = true ∧ wordB c = true) → (if (i : Int) ≤ ((i + 1 : Nat) : Int) then if ((i + 1 : Nat) : Int) ≤ (s.size : Int) then if ((parts (L.take i)).map mk).length < 8796093022208 then warrantorref18_Parts.l0 k s ((parts (L.take i)).map mk ++ [mk [c]]) ((i + 1 : Nat) : Int) else none else none else none) = some ((parts L).map mk) := by
        intro hn
        rw [parts_snoc_new _ _ hc32 hn, List.map_append] at ih
        rw [if_pos (by omega), if_pos (by omega), if_pos (by rw [List.length_map]; omega)]
        exact ih
      by_cases hw : wordB c = true
      · rw [if_pos (show wordN ((c.toNat : Int)).toNat = true from hw)]
        by_cases hi0 : (i : Int) > 0
        · have hwi : wrap64 ((i : Int) - 1) = ((i - 1 : Nat) : Int) := by unfold wrap64; omega
          obtain ⟨c', hc', hb'⟩ := at_drop s hL (i - 1) (by omega)
          have hlast : lastW (L.take i) = wordB c' := by
            have hi1 : i - 1 < L.length := by omega
            have e1 : L[i - 1] = c' := by
              have := List.drop_eq_getElem_cons hi1
              rw [hc'] at this
              exact (List.cons.inj this).1.symm
            have e2 : L.take i = L.take (i - 1) ++ [c'] := by
              rw [← e1, ← take_snoc L (i - 1) hi1]
              congr 1
              omega
            rw [e2, lastW_snoc]
          have c256' : (c'.toNat : Int) < 256 := by have := c'.toNat_lt; omega
          rw [if_pos hi0, hwi, if_pos (by omega), if_pos (by omega), hb', word_at (by omega) c256' (by omega), Option.bind_some]
          by_cases hw' : wordB c' = true
          · rw [if_pos (show wordN ((c'.toNat : Int)).toNat = true from hw')]
            obtain ⟨xs, p, e1, e2⟩ := parts_snoc_join c hw (L.take i) (hlast.trans hw')
            rw [e2] at ih
            rw [e1] at hlen ⊢
            have hwl : wrap64 (((List.map mk (xs ++ [p])).length : Int) - 1) = ((xs.length : Nat) : Int) := by simp; unfold wrap64; simp at hlen; omega
            have hrd : rdOf ByteArray.empty (List.map mk (xs ++ [p])) ((xs.length : Nat) : Int) = mk p := by rw [rd_at _ _ (by simp)]; simp
            have hpl : p.length ≤ 1000000 := by
              have hp : p ∈ parts (L.take i) := by rw [e1]; simp
              have : ∀ (s : List UInt8), ∀ p ∈ parts s, p.length ≤ s.length := by
                intro s
                induction s with
                | nil => simp [parts]
                | cons x s ih =>
                  by_cases h0 : x = 32
                  · subst h0; rw [parts_blank]; intro p hp; have := ih p hp; simp; omega
                  · by_cases hw : wordB x = true ∧ headW s = true
                    · rw [parts_yes x s hw.1 hw.2]
                      obtain ⟨q, qs, hq, _⟩ := parts_head s hw.2
                      rw [hq] at ih ⊢
                      intro p hp
                      simp only [consHead, List.mem_cons] at hp
                      rcases hp with rfl | hp
                      · have := ih q (by simp); simp; omega
                      · have := ih p (by simp [hp]); simp; omega
                    · rw [parts_no x s h0 hw]
                      intro p hp
                      simp only [List.mem_cons] at hp
                      rcases hp with rfl | hp
                      · simp
                      · have := ih p hp; simp; omega
              have := this _ p hp
              simp at this
              omega
            rw [hwl, if_pos (by omega), if_pos (by simp; omega), if_pos (by omega), if_pos (by omega), hrd, if_pos (by simp [size_mk]; omega), Int.toNat_natCast]
            have hset : (List.map mk (xs ++ [p])).set xs.length (mk p ++ mk [c]) = List.map mk (xs ++ [p ++ [c]]) := by
              rw [← mk_app]
              simp
            rw [hset]
            exact ih
          · rw [if_neg (show ¬ wordN ((c'.toNat : Int)).toNat = true from hw')]
            exact hnew (by rw [hlast]; exact fun hh => hw' hh.1)
        · rw [if_neg hi0]
          have : i = 0 := by omega
          exact hnew (by rw [this]; simp [NormM.lastW])
      · rw [if_neg (show ¬ wordN ((c.toNat : Int)).toNat = true from hw)]
        exact hnew (fun hh => hw hh.2)
theorem rparts_ev (s : ByteArray) (hs : s.size ≤ 1000000) : Ev (fun k => warrantorref18_Parts.f k s) (partsOf s) := by
  refine ⟨s.size + 12, fun k hk => ?_⟩
  show warrantorref18_Parts.f k s = _
  unfold warrantorref18_Parts.f
  exact rparts_loop s rfl hs s.size 0 k (by omega) (by omega)

/-! ### the reference's norm -/
theorem rnorm_loop (s : ByteArray) {ps : List (List UInt8)} (hps : parts s.data.toList = ps) : ∀ (d i k : Nat) (acc : List UInt8) (last : Bool), i + d = ps.length → ps.length ≤ 1000000 → acc.length + (joinP last (ps.drop i)).length ≤ 1000000 → 11 + d < k →
    warrantorref18_Norm.l0 k (mk acc) last (partsOf s) (i : Int) = some (mk (acc ++ joinP last (ps.drop i)))
  | 0, i, k, acc, last, h, hm, hl, hk => by
    obtain ⟨k, rfl⟩ : ∃ m, k = m + 1 := ⟨k - 1, by omega⟩
    have hlen : (partsOf s).length = ps.length := by unfold partsOf; rw [List.length_map, hps]
    simp only [warrantorref18_Norm.l0]
    rw [if_neg (by omega), List.drop_eq_nil_of_le (by omega)]
    simp [joinP]
  | d + 1, i, k, acc, last, h, hm, hl, hk => by
    obtain ⟨k, rfl⟩ : ∃ m, k = m + 1 := ⟨k - 1, by omega⟩
    have hlen : (partsOf s).length = ps.length := by unfold partsOf; rw [List.length_map, hps]
    obtain ⟨p, hd, hrd, hg⟩ := rd_parts s i (by rw [hps]; omega)
    rw [hps] at hd
    rw [hd] at hl ⊢
    have hp0 : 0 < p.length := List.length_pos_iff.2 hg.ne
    have hb := bt_range (mk p) 0
    have hbm := bt_mk p hg.ne
    simp only [warrantorref18_Norm.l0]
    rw [if_pos (by omega), if_pos (by omega), hrd, if_pos (by rw [size_mk]; omega), word_at hb.1 (by omega) (by omega), Option.bind_some, hbm, w64 (by omega)]
    have ih := fun acc' => rnorm_loop s hps d (i + 1) k acc' (headW p) (by omega) hm
    have hplain : ∀ l, ¬ (l = true ∧ headW p = true) → joinP l (p :: ps.drop (i + 1)) = p ++ joinP (headW p) (ps.drop (i + 1)) := fun l hn => by rw [joinP, if_neg hn]
    have hstep : ∀ l, ¬ (l = true ∧ headW p = true) → acc.length + (joinP l (p :: ps.drop (i + 1))).length ≤ 1000000 → (if (mk acc).size + (mk p).size ≤ 9223372036854775807 then warrantorref18_Norm.l0 k (mk acc ++ mk p) (headW p) (partsOf s) ((i + 1 : Nat) : Int) else none) = some (mk (acc ++ joinP l (p :: ps.drop (i + 1)))) := by
      intro l hn hl
      rw [hplain l hn] at hl ⊢
      rw [List.length_append] at hl
      rw [if_pos (by rw [size_mk, size_mk]; omega), ← mk_app, ih (acc ++ p) (by rw [List.length_append]; omega) (by omega), List.append_assoc]
    cases last with
    | false =>
      rw [if_neg (by simp)]
      exact hstep false (by simp) hl
    | true =>
      rw [if_pos rfl]
      by_cases hw : headW p = true
      · have hj : joinP true (p :: ps.drop (i + 1)) = 32 :: (p ++ joinP true (ps.drop (i + 1))) := by rw [joinP, if_pos ⟨rfl, hw⟩, hw]; rfl
        have e : (⟨#[32]⟩ : ByteArray) = mk [32] := rfl
        rw [hj] at hl ⊢
        rw [List.length_cons, List.length_append] at hl
        rw [hw] at ih ⊢
        rw [if_pos rfl, if_pos (by rw [size_mk]; omega), e, ← mk_app, if_pos (by rw [size_mk, size_mk, List.length_append, List.length_singleton]; omega), ← mk_app, ih _ (by rw [List.length_append, List.length_append, List.length_singleton]; omega) (by omega)]
        simp
      · rw [if_neg hw]
        exact hstep true (fun hh => hw hh.2) hl
theorem rnorm_ev (s : ByteArray) (hs : s.size ≤ 1000000) : Ev (fun k => warrantorref18_Norm.f k s) (normOf s) := by
  obtain ⟨K, hK⟩ := rparts_ev s hs
  have h1 := partsOf_len s
  have h2 : (partsOf s).length = (parts s.data.toList).length := by unfold partsOf; rw [List.length_map]
  have h3 := norm_len s.data.toList
  rw [data_length] at h3
  refine ⟨K + s.size + 20, fun k hk => ?_⟩
  show warrantorref18_Norm.f k s = _
  unfold warrantorref18_Norm.f
  have hK' : warrantorref18_Parts.f k s = some (partsOf s) := hK k (by omega)
  rw [hK', Option.bind_some]
  have := rnorm_loop s rfl (parts s.data.toList).length 0 k [] false (by omega) (by omega) (by simpa [norm] using Nat.le_trans h3 hs) (by omega)
  have e : mk [] = (⟨#[]⟩ : ByteArray) := rfl
  rw [e] at this
  simpa [normOf, norm] using this
theorem normOf_size (s : ByteArray) : (normOf s).size ≤ s.size := by have := norm_len s.data.toList; rw [data_length] at this; exact this
theorem normOf_data (s : ByteArray) : (normOf s).data.toList = norm s.data.toList := by simp [normOf, mk]
theorem normOf_eq (s t : ByteArray) : normOf s = normOf t ↔ partsOf s = partsOf t := by
  rw [partsOf_inj, ← norm_eq]
  exact ⟨fun h => mk_inj h, fun h => by unfold normOf; rw [h]⟩
theorem i64_of {n : Int} (h : (Lit.int .i64 n).wf = true) : -9223372036854775808 ≤ n ∧ n < 9223372036854775808 := by
  simp only [Lit.wf, Bool.and_eq_true, decide_eq_true_eq] at h
  have h1 : IntKind.i64.min = -9223372036854775808 := rfl
  have h2 : IntKind.i64.max = 9223372036854775807 := rfl
  omega

theorem extract_mk' (s : ByteArray) (a b : Nat) : s.extract a b = mk ((s.data.toList.drop a).take (b - a)) := extract_mk s rfl a b
theorem mk_of (s : ByteArray) : mk s.data.toList = s := mk_data s
theorem data_mk (l : List UInt8) : (mk l).data.toList = l := by simp [mk]
end Go.Proofs.Ytgecigndgkcpkaa.Bridge
