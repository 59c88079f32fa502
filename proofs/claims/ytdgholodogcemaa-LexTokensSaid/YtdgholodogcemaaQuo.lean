/- Quote, right, Show, walked. -/
import Derived.Test.YtdgholodogcemaaAll
set_option linter.unusedVariables false
set_option linter.unusedSimpArgs false
set_option maxRecDepth 20000
namespace Go.Proofs.Ytdgholodogcemaa.Lex
open Go Go.RowKit Go.Proofs.YtdgholodogcemaaW.PrintWords Go.Proofs.YtdgholodogcemaaW.PrintLast
open Go.Proofs.Ytdgholodogcemaa.PAll (S36 k36 z36 rd_T36 at_T36)

/-- what says a byte, and a text -/
def qb (c : Nat) : List Int := if plainB c then (if c = 34 ∨ c = 92 then [92, (c : Int)] else [(c : Int)]) else []
def quoteM (s : ByteArray) : List Int := (34 :: (bytesN s).flatMap qb) ++ [34]
theorem bytesN_len (s : ByteArray) : (bytesN s).length = s.size := by unfold bytesN; rw [List.length_map]; simp
theorem bytesN_lt {s : ByteArray} : ∀ c ∈ bytesN s, c < 256 := fun c hc => by
  unfold bytesN at hc
  obtain ⟨b, _, rfl⟩ := List.mem_map.1 hc
  exact b.toNat_lt
theorem qb_le (c : Nat) : (qb c).length ≤ 2 := by
  unfold qb
  split
  · split <;> simp
  · simp
theorem qb_range {c : Nat} (h : c < 256) : ∀ x ∈ qb c, 0 ≤ x ∧ x < 256 := by
  intro x hx
  unfold qb at hx
  split at hx
  · split at hx
    · simp at hx; omega
    · simp at hx; omega
  · cases hx
theorem flat_le (l : List Nat) : (l.flatMap qb).length ≤ 2 * l.length := by
  induction l with
  | nil => simp
  | cons c l ih =>
    have := qb_le c
    simp only [List.flatMap_cons, List.length_append, List.length_cons]
    omega
theorem quote_range (s : ByteArray) : ∀ x ∈ quoteM s, 0 ≤ x ∧ x < 256 := by
  intro x hx
  unfold quoteM at hx
  rcases List.mem_append.1 hx with hx | hx
  · rcases List.mem_cons.1 hx with rfl | hx
    · omega
    · obtain ⟨c, hc, hx⟩ := List.mem_flatMap.1 hx
      exact qb_range (bytesN_lt c hc) x hx
  · rw [List.mem_singleton] at hx; omega
theorem quote_len (s : ByteArray) : (quoteM s).length ≤ 2 * s.size + 2 := by
  have := flat_le (bytesN s)
  rw [bytesN_len] at this
  unfold quoteM
  rw [List.length_append, List.length_cons, List.length_singleton]
  omega
theorem flat_snoc {l : List Nat} {j : Nat} {c : Nat} {r : List Nat} (hd : l.drop j = c :: r) : (l.take (j + 1)).flatMap qb = (l.take j).flatMap qb ++ qb c := by
  have hj : j < l.length := by
    refine Classical.byContradiction fun hn => ?_
    rw [List.drop_eq_nil_of_le (by omega)] at hd
    cases hd
  have : l[j] = c := by
    rw [List.drop_eq_getElem_cons hj] at hd
    injection hd
  rw [List.take_succ_eq_append_getElem hj, List.flatMap_append, this]
  simp
theorem wrap_u8 {c : Nat} (h : c < 256) : IntKind.i32.wrap (c : Int) = (c : Int) := by simp [IntKind.wrap, IntKind.bits, IntKind.signed]; omega
set_option maxHeartbeats 4000000 in
theorem quote_calls (s : ByteArray) (hs : s.size ≤ 1000000000000) (w : World) : Calls Try.prog 15 #[.string s] w fun e w' => e = .returned (.string (strOfNums (quoteM s))) ∧ Below w.heap.size w w' := by
  have HS := Aside0.mk hs
  have BA := Aside0.mk (below_alloc (Below.refl w.heap.size w) (.cells #[.pointer none, .slice none 0 0] 43))
  have X0 := Aside0.mk (show BldA (w.alloc (.cells #[.pointer none, .slice none 0 0] 43)) w.heap.size w.heap.size (.slice none 0 0) [] from ⟨_, .inl rfl, blk_new w _, Kd.R_nil _ _ _ _ _, Nat.le_refl _, by simp⟩)
  clear hs
  go_enter Try.func15, Try.ntmps15
  go_wp2_with (go_at_call 22; (with_reducible refine (wbA_calls X0.out 34 (by decide)).mono ?_); rintro e w1 ⟨rfl, v1, h1, h2, h3⟩; have X1 := Aside0.mk h1; have B1 := Aside0.mk (BA.out.trans h3); clear h1 h2 h3)
  go_loopg [9] s.size (fun gk v9 w' => ∃ j : Nat, v9 = .int .i64 (j : Int) ∧ Aside0 (j + gk = s.size) ∧ Aside0 (∃ v, BldA w' w.heap.size w.heap.size v (34 :: ((bytesN s).take j).flatMap qb)) ∧ Aside0 (Below w.heap.size w w'))
  case atStart => exact ⟨0, rfl, ⟨by omega⟩, ⟨_, X1.out⟩, B1⟩
  case round =>
    obtain ⟨j, rfl, HJ, HX, HBl⟩ := hrel
    have HLN := Aside0.mk (show (34 :: ((bytesN s).take j).flatMap qb : List Int).length ≤ 2 * s.size + 1 by
      have h1 := flat_le ((bytesN s).take j)
      have h2 := bytesN_len s
      rw [List.length_take] at h1
      rw [List.length_cons]
      omega)
    obtain ⟨xs, hxs⟩ : ∃ xs, (34 :: ((bytesN s).take j).flatMap qb : List Int) = xs := ⟨_, rfl⟩
    rw [hxs] at HX HLN
    obtain ⟨v, hv⟩ := HX.out
    have X := Aside0.mk hv
    clear hv
    by_cases hj : j < s.size
    · obtain ⟨c, hc⟩ : ∃ c, (s[j]'hj).toNat = c := ⟨_, rfl⟩
      have hc256 : c < 256 := by rw [← hc]; exact (s[j]'hj).toNat_lt
      have HDR := bytesN_drop hj
      rw [hc] at HDR
      have HSN := Aside0.mk (show (34 :: ((bytesN s).take (j + 1)).flatMap qb : List Int) = xs ++ qb c by rw [flat_snoc HDR, ← hxs]; rfl)
      have HJ2 := Aside0.mk hj
      have d1 : decide ((j : Int) < (s.size : Int)) = true := decide_eq_true (by omega)
      have d1n : decide (j < s.size) = true := decide_eq_true hj
      have p1 : 0 ≤ (j : Int) := by omega
      have hw : wrap64 ((j : Int) + 1) = ((j + 1 : Nat) : Int) := by unfold wrap64; have := HS.out; omega
      have HW := Aside0.mk hw
      have e1 := wrap_u8 hc256
      clear hxs HDR hc256
      cases hp : plainB c with
      | false =>
        have HPL := Aside0.mk hp
        have HQ := Aside0.mk (show qb c = [] by unfold qb; rw [hp]; rfl)
        clear hp
        go_wp2_with (go_at_call 27; (with_reducible refine (plain_is HPL.out _).mono ?_); rintro e w_ ⟨rfl, rfl⟩)
        go_roundg (gk - 1)
        case measure => have := HJ.out; have := HJ2.out; omega
        case rel => exact ⟨j + 1, by first | rw [HW.out] | go_num, ⟨by have := HJ.out; have := HJ2.out; omega⟩, ⟨v, by rw [HSN.out, HQ.out, List.append_nil]; exact X.out⟩, HBl⟩
      | true =>
        have HPL := Aside0.mk hp
        by_cases h3 : c = 34 ∨ c = 92
        · have HQ := Aside0.mk (show qb c = [92, (c : Int)] by unfold qb; rw [hp, if_pos rfl, if_pos h3])
          clear hp
          by_cases h4 : c = 34
          · have b1 : ((c : Int) == 34) = true := by rw [h4]; rfl
            clear h3 h4
            go_wp2_with (first
              | (go_at_call 27; (with_reducible refine (plain_is HPL.out _).mono ?_); rintro e w_ ⟨rfl, rfl⟩)
              | (go_at_call 22; (with_reducible refine (wbA_calls X.out 92 (by have := HLN.out; have := HS.out; omega)).mono ?_); rintro e w2 ⟨rfl, v2, h1, h2, h3⟩; have X2 := Aside0.mk h1; have B2 := Aside0.mk (HBl.out.trans h3); clear h1 h2 h3)
              | (go_at_call 22; (with_reducible refine (wbA_calls X2.out (c : Int) (by have := HLN.out; have := HS.out; simp; omega)).mono ?_); rintro e w3 ⟨rfl, v3, h1, h2, h3⟩; rw [List.append_assoc] at h1; have X3 := Aside0.mk h1; have B3 := Aside0.mk (B2.out.trans h3); clear h1 h2 h3))
            go_roundg (gk - 1)
            case measure => have := HJ.out; have := HJ2.out; omega
            case rel => exact ⟨j + 1, by first | rw [HW.out] | go_num, ⟨by have := HJ.out; have := HJ2.out; omega⟩, ⟨v3, by rw [HSN.out, HQ.out]; exact X3.out⟩, B3⟩
          · have b1 : ((c : Int) == 34) = false := beq_eq_false_iff_ne.mpr (by omega)
            have b2 : ((c : Int) == 92) = true := by rcases h3 with h | h; (exact absurd h h4); (rw [h]; rfl)
            clear h3 h4
            go_wp2_with (first
              | (go_at_call 27; (with_reducible refine (plain_is HPL.out _).mono ?_); rintro e w_ ⟨rfl, rfl⟩)
              | (go_at_call 22; (with_reducible refine (wbA_calls X.out 92 (by have := HLN.out; have := HS.out; omega)).mono ?_); rintro e w2 ⟨rfl, v2, h1, h2, h3⟩; have X2 := Aside0.mk h1; have B2 := Aside0.mk (HBl.out.trans h3); clear h1 h2 h3)
              | (go_at_call 22; (with_reducible refine (wbA_calls X2.out (c : Int) (by have := HLN.out; have := HS.out; simp; omega)).mono ?_); rintro e w3 ⟨rfl, v3, h1, h2, h3⟩; rw [List.append_assoc] at h1; have X3 := Aside0.mk h1; have B3 := Aside0.mk (B2.out.trans h3); clear h1 h2 h3))
            go_roundg (gk - 1)
            case measure => have := HJ.out; have := HJ2.out; omega
            case rel => exact ⟨j + 1, by first | rw [HW.out] | go_num, ⟨by have := HJ.out; have := HJ2.out; omega⟩, ⟨v3, by rw [HSN.out, HQ.out]; exact X3.out⟩, B3⟩
        · have HQ := Aside0.mk (show qb c = [(c : Int)] by unfold qb; rw [hp, if_pos rfl, if_neg h3])
          have b1 : ((c : Int) == 34) = false := beq_eq_false_iff_ne.mpr (by omega)
          have b2 : ((c : Int) == 92) = false := beq_eq_false_iff_ne.mpr (by omega)
          clear hp h3
          go_wp2_with (first
            | (go_at_call 27; (with_reducible refine (plain_is HPL.out _).mono ?_); rintro e w_ ⟨rfl, rfl⟩)
            | (go_at_call 22; (with_reducible refine (wbA_calls X.out (c : Int) (by have := HLN.out; have := HS.out; omega)).mono ?_); rintro e w2 ⟨rfl, v2, h1, h2, h3⟩; have X2 := Aside0.mk h1; have B2 := Aside0.mk (HBl.out.trans h3); clear h1 h2 h3))
          go_roundg (gk - 1)
          case measure => have := HJ.out; have := HJ2.out; omega
          case rel => exact ⟨j + 1, by first | rw [HW.out] | go_num, ⟨by have := HJ.out; have := HJ2.out; omega⟩, ⟨v2, by rw [HSN.out, HQ.out]; exact X2.out⟩, B2⟩
    · have d1 : decide ((j : Int) < (s.size : Int)) = false := decide_eq_false (by omega)
      have d1n : decide (j < s.size) = false := decide_eq_false hj
      have HXE := Aside0.mk (show xs ++ [34] = quoteM s by
        have h := bytesN_len s
        have h2 := HJ.out
        rw [← hxs, List.take_of_length_le (by omega)]
        rfl)
      clear hj hxs
      go_wp2_with (first
        | (go_at_call 22; (with_reducible refine (wbA_calls X.out 34 (by have := HLN.out; have := HS.out; omega)).mono ?_); rintro e w2 ⟨rfl, v2, h1, h2, h3⟩; rw [HXE.out, str_bytes (quote_range s)] at h1; have X2 := Aside0.mk h1; have B2 := Aside0.mk (HBl.out.trans h3); clear h1 h2 h3)
        | (go_at_call 25; (with_reducible refine (strA_calls (strOfNums (quoteM s)) X2.out).mono ?_); rintro e w3 ⟨rfl, h1, h2⟩; have B3 := Aside0.mk (B2.out.trans h2); clear h1 h2))
      go_ret
      exact ⟨rfl, B3.out⟩
end Go.Proofs.Ytdgholodogcemaa.Lex
