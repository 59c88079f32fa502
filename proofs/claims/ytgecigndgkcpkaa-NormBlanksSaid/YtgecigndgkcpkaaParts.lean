/- The walk of norm.Parts: whatever the text, the parts. -/
import Derived.Test.YtgecigndgkcpkaaWord
set_option linter.unusedVariables false
set_option linter.unusedSimpArgs false
namespace Go.Proofs.Ytgecigndgkcpkaa.Pen
open Go Go.RowKit Go.Proofs.YtgecigndgkcpkaaW.PrintWords NormM

def mk (l : List UInt8) : ByteArray := ⟨l.toArray⟩
def partsOf (s : ByteArray) : List ByteArray := (parts s.data.toList).map mk

theorem extract_mk (s : ByteArray) {L : List UInt8} (hL : s.data.toList = L) (a b : Nat) : s.extract a b = mk ((L.drop a).take (b - a)) := by
  apply ByteArray.ext
  apply Array.ext'
  rw [ByteArray.data_extract, Array.toList_extract, hL]
  simp [mk, List.extract_eq_take_drop]
theorem at_drop (s : ByteArray) {L : List UInt8} (hL : s.data.toList = L) (i : Nat) (h : i < s.size) : ∃ c, L.drop i = c :: L.drop (i + 1) ∧ bt s (i : Int) = (c.toNat : Int) := by
  have h2 : i < L.length := by rw [← hL, data_length]; exact h
  refine ⟨L[i], List.drop_eq_getElem_cons h2, ?_⟩
  rw [← bt_at s (i : Int) h]
  subst hL
  rfl
theorem len_of (s : ByteArray) {L : List UInt8} (hL : s.data.toList = L) : L.length = s.size := by rw [← hL, data_length]
theorem byte_eq (c : UInt8) (n : Nat) (hn : n < 256) (h : (c.toNat : Int) = (n : Int)) : c = UInt8.ofNat n := by
  apply UInt8.toNat_inj.1
  simp
  omega
theorem run_step (s : ByteArray) {L : List UInt8} (hL : s.data.toList = L) (i j : Nat) (hi : i < j) (hj : j ≤ s.size) (hw : ∀ m : Nat, i ≤ m → m < j → wordN (bt s (m : Int)).toNat = true) (hn : j < s.size → wordN (bt s (j : Int)).toNat = false) :
    parts (L.drop i) = (L.drop i).take (j - i) :: parts (L.drop j) := by
  have e : L.drop i = (L.drop i).take (j - i) ++ L.drop j := by
    have := (List.take_append_drop (j - i) (L.drop i)).symm
    rw [List.drop_drop, show i + (j - i) = j by omega] at this
    exact this
  have hl := len_of s hL
  have h1 : headW (L.drop j) = false := by
    by_cases h : j < s.size
    · obtain ⟨c, hc, hb⟩ := at_drop s hL j h
      have := hn h
      rw [hb] at this
      rw [hc]
      exact this
    · rw [List.drop_eq_nil_of_le (by omega)]
      rfl
  have h2 : (L.drop i).take (j - i) ≠ [] := by
    intro h
    have := congrArg List.length h
    simp at this
    omega
  have h3 : ∀ c ∈ (L.drop i).take (j - i), wordB c = true := by
    intro c hc
    obtain ⟨m, hm, hcm⟩ := List.getElem_of_mem hc
    have hm' : m < j - i := by simp at hm; omega
    rw [List.getElem_take, List.getElem_drop] at hcm
    obtain ⟨d, hd, hb⟩ := at_drop s hL (i + m) (by omega)
    have hd2 : d = L[i + m]'(by omega) := by
      have := List.drop_eq_getElem_cons (l := L) (i := i + m) (by omega)
      rw [hd] at this
      exact (List.cons.inj this).1
    have := hw (i + m) (by omega) (by omega)
    rw [hb] at this
    rw [← hcm, ← hd2]
    exact this
  have := parts_run (L.drop j) h1 _ h2 h3
  rw [← e] at this
  exact this

set_option maxHeartbeats 4000000 in
theorem parts_calls (s : ByteArray) (hs : s.size ≤ 1099511627776) (w : World) :
    Calls Try.prog 11 #[.string s] w fun e w' => ∃ v, e = .returned v ∧ Kd.R Kd.string 9 w' w.heap.size (fun _ => True) v (partsOf s) ∧ Below w.heap.size w w' := by
  have HB := Aside0.mk (Below.refl w.heap.size w)
  obtain ⟨L, hL⟩ : ∃ L, s.data.toList = L := ⟨_, rfl⟩
  have HL := Aside0.mk hL
  have HS := Aside0.mk hs
  clear hL hs
  go_enter Try.func11, Try.ntmps11
  go_wp2
  go_step3
  go_wp2
  go_step3
  go_wp2
  go_loopg [3, 4] s.size (fun g v3 v4 w' => ∃ (ks : List (List UInt8)) (i : Nat), v4 = .int .i64 (i : Int) ∧ Aside0 (i + g = s.size) ∧ Aside0 (ks ++ parts (L.drop i) = parts L) ∧ Aside0 (ks.length ≤ i) ∧ Aside0 (Kd.R Kd.string 9 w' w.heap.size (fun _ => True) v3 (ks.map mk)) ∧ Aside0 (Below w.heap.size w w'))
  case atStart => exact ⟨[], 0, rfl, ⟨by omega⟩, ⟨by simp⟩, ⟨by simp⟩, ⟨Kd.R_nil _ _ _ _ _⟩, HB⟩
  case round =>
    obtain ⟨ks, i, rfl, HI, HK, HN, HR, HB⟩ := hrel
    by_cases hi : i < s.size
    · have c1 : decide ((i : Int) < (s.size : Int)) = true := decide_eq_true (by omega)
      have p4 : 0 ≤ (i : Int) := by omega
      have q4 : (i : Int) < (s.size : Int) := by omega
      have hx4 : ∀ h : i < s.size, ((s[i]'h).toNat : Int) = bt s i := fun h => bt_at s i h
      have P4 := Aside0.mk p4
      have Q4 := Aside0.mk q4
      have HI2 := Aside0.mk hi
      have hb0 := Aside0.mk (bt_range s i).1
      replace p4 := eq_true p4
      replace q4 := eq_true q4
      clear hi
      obtain ⟨wd, hwd⟩ : ∃ b, wordN (bt s i).toNat = b := ⟨_, rfl⟩
      have HW := Aside0.mk (show wrap64 ((i : Int) + 1) = ((i + 1 : Nat) : Int) by have := HI2.out; have := HS.out; unfold wrap64; omega)
      have c20 : ((i : Int) ≤ wrap64 ((i : Int) + 1)) = True := eq_true (by rw [HW.out]; omega)
      have c21 : (wrap64 ((i : Int) + 1) ≤ (s.size : Int)) = True := eq_true (by have := HI2.out; rw [HW.out]; omega)
      cases wd
      · by_cases hbl : bt s i = 32
        · have b1 : ((bt s i) != 32) = false := bne_eq_false_iff_eq.mpr hbl
          have HBL := Aside0.mk hbl
          clear hbl
          go_wp2_with (first | (go_at_call 16; (with_reducible refine (word_calls' _ hb0.out _).mono ?_); rintro e w1 ⟨rfl, rfl⟩; rw [hwd]))
          go_roundg (gk - 1)
          case measure => have := HI.out; have := HI2.out; omega
          case rel =>
            refine ⟨ks, i + 1, by rw [HW.out], ⟨by have := HI.out; have := HI2.out; omega⟩, ⟨?_⟩, ⟨by have := HN.out; omega⟩, HR, HB⟩
            obtain ⟨c, hc, hb⟩ := at_drop s HL.out i HI2.out
            have hc32 : c = 32 := byte_eq c 32 (by omega) (by rw [← hb]; exact HBL.out)
            rw [← HK.out, hc, hc32, parts_blank]
        · have b1 : ((bt s i) != 32) = true := bne_iff_ne.mpr hbl
          have HBL := Aside0.mk hbl
          have HWD := Aside0.mk hwd
          clear hbl
          go_wp2_with (first | (go_at_call 16; (with_reducible refine (word_calls' _ hb0.out _).mono ?_); rintro e w1 ⟨rfl, rfl⟩; rw [hwd]) | (at_builtin; refine Kd.R_append Kd.string (w0 := w) w.heap.size rfl (.tmp 22) (.tmp 27) 25 9 (.string ⟨#[]⟩) 16 rfl Try.underlying25 info9 rfl (by decide) (by omega) _ _ _ [_] (fun _ => True) (fun _ => False) rfl rfl rfl (fun _ h => h.elim) (fun _ _ => trivial) HR.out HB.out HB.out.size (by rw [List.length_map]; have := HN.out; have := HI2.out; have := HS.out; omega) ?_; intro v2 w2 h1 h2 h3 h4; have H1 := Aside0.mk h1; have H2 := Aside0.mk h2; clear h1 h2 h3 h4))
          go_roundg (gk - 1)
          case measure => have := HI.out; have := HI2.out; omega
          case rel =>
            obtain ⟨c, hc, hb⟩ := at_drop s HL.out i HI2.out
            have hwc : wordB c = false := by have := HWD.out; rw [hb] at this; exact this
            have hc32 : c ≠ 32 := by rintro rfl; exact HBL.out hb
            have he : s.extract ((i : Int)).toNat (wrap64 ((i : Int) + 1)).toNat = mk [c] := by
              rw [HW.out, Int.toNat_natCast, Int.toNat_natCast, extract_mk s HL.out, hc]
              simp
            refine ⟨ks ++ [[c]], i + 1, by rw [HW.out], ⟨by have := HI.out; have := HI2.out; omega⟩, ⟨?_⟩, ⟨by have := HN.out; simp; omega⟩, ⟨?_⟩, H2⟩
            · rw [← HK.out, hc, parts_no c _ hc32 (by rw [hwc]; simp)]
              simp
            · have := H1.out
              rw [List.map_append]
              show Kd.R _ _ _ _ _ _ (ks.map mk ++ [mk [c]])
              rw [← he]
              exact this
      · have HWD := Aside0.mk hwd
        clear c20 c21
        go_wp2_with (first | (go_at_call 16; (with_reducible refine (word_calls' _ hb0.out _).mono ?_); rintro e w1 ⟨rfl, rfl⟩; rw [hwd]))
        clear p4 q4 hx4 c1 hwd
        go_loopg [3, 4] (s.size - i) (fun g v3 v4 w' => ∃ j : Nat, v4 = .int .i64 (j : Int) ∧ Aside0 (j + g = s.size) ∧ Aside0 (i ≤ j) ∧ Aside0 (∀ m : Nat, i ≤ m → m < j → wordN (bt s (m : Int)).toNat = true) ∧ v3 = u3 ∧ w' = wr)
        case atStart => exact ⟨i, rfl, ⟨by have := HI2.out; omega⟩, ⟨Nat.le_refl _⟩, ⟨fun m h1 h2 => by omega⟩, rfl, rfl⟩
        case round =>
          obtain ⟨j, rfl, HJ, HIJ, HA, rfl, rfl⟩ := hrel
          by_cases hj : j < s.size
          · have c1 : decide ((j : Int) < (s.size : Int)) = true := decide_eq_true (by omega)
            have p4 : 0 ≤ (j : Int) := by omega
            have q4 : (j : Int) < (s.size : Int) := by omega
            have hx4 : ∀ h : j < s.size, ((s[j]'h).toNat : Int) = bt s j := fun h => bt_at s j h
            have HJ2 := Aside0.mk hj
            have hb1 := Aside0.mk (bt_range s j).1
            replace p4 := eq_true p4
            replace q4 := eq_true q4
            have HW2 := Aside0.mk (show wrap64 ((j : Int) + 1) = ((j + 1 : Nat) : Int) by have := HJ2.out; have := HS.out; unfold wrap64; omega)
            clear hj
            obtain ⟨we, hwe⟩ : ∃ b, wordN (bt s j).toNat = b := ⟨_, rfl⟩
            cases we
            · have HWE := Aside0.mk hwe
              have c20 : ((i : Int) ≤ (j : Int)) = True := eq_true (by have := HIJ.out; omega)
              have c21 : ((j : Int) ≤ (s.size : Int)) = True := eq_true (by have := HJ2.out; omega)
              have c22 : (i ≤ j) = True := eq_true HIJ.out
              have c23 : (j ≤ s.size) = True := eq_true (Nat.le_of_lt HJ2.out)
              have c24 : (0 ≤ (i : Int)) = True := eq_true (by omega)
              go_wp2_with (first | (go_at_call 16; (with_reducible refine (word_calls' _ hb1.out _).mono ?_); rintro e w1 ⟨rfl, rfl⟩; rw [hwe]) | (at_builtin; refine Kd.R_append Kd.string (w0 := w) w.heap.size rfl (.tmp 40) (.tmp 45) 25 9 (.string ⟨#[]⟩) 16 rfl Try.underlying25 info9 rfl (by decide) (by omega) _ _ _ [_] (fun _ => True) (fun _ => False) rfl rfl rfl (fun _ h => h.elim) (fun _ _ => trivial) HR.out HB.out HB.out.size (by rw [List.length_map]; have := HN.out; have := HI2.out; have := HS.out; omega) ?_; intro v2 w2 h1 h2 h3 h4; have H1 := Aside0.mk h1; have H2 := Aside0.mk h2; clear h1 h2 h3 h4))
              have hij : i < j := by
                rcases Nat.lt_or_ge i j with h | h
                · exact h
                · exfalso
                  have h2 : i = j := Nat.le_antisymm HIJ.out h
                  have h3 := HWE.out
                  rw [← h2, HWD.out] at h3
                  cases h3
              go_roundg (s.size - j)
              case measure => have := HI.out; have := HJ2.out; have := hij; omega
              case rel =>
                have hr := run_step s HL.out i j hij (Nat.le_of_lt HJ2.out) HA.out (fun _ => HWE.out)
                refine ⟨ks ++ [(L.drop i).take (j - i)], j, rfl, ⟨by have := HJ2.out; omega⟩, ⟨?_⟩, ⟨by have := HN.out; simp; omega⟩, ⟨?_⟩, H2⟩
                · rw [← HK.out, hr]; simp
                · have := H1.out
                  rw [List.map_append]
                  show Kd.R _ _ _ _ _ _ (ks.map mk ++ [mk ((L.drop i).take (j - i))])
                  rw [← extract_mk s HL.out]
                  exact this
            · have HWE := Aside0.mk hwe
              go_wp2_with (first | (go_at_call 16; (with_reducible refine (word_calls' _ hb1.out _).mono ?_); rintro e w1 ⟨rfl, rfl⟩; rw [hwe]))
              go_roundg (s.size - (j + 1))
              case measure => have := HJ.out; have := HJ2.out; omega
              case rel =>
                refine ⟨j + 1, by rw [HW2.out], ⟨by have := HJ2.out; omega⟩, ⟨by have := HIJ.out; omega⟩, ⟨fun m h1 h2 => ?_⟩, rfl, rfl⟩
                rcases Nat.lt_or_ge m j with h | h
                · exact HA.out m h1 h
                · obtain rfl : m = j := by omega
                  exact HWE.out
          · have c1 : decide ((j : Int) < (s.size : Int)) = false := decide_eq_false (by omega)
            have c22 : (i ≤ s.size) = True := eq_true (Nat.le_of_lt HI2.out)
            have c20 : ((i : Int) ≤ (s.size : Int)) = True := eq_true (by have := HI2.out; omega)
            have c24 : (0 ≤ (i : Int)) = True := eq_true (by omega)
            have HJ3 := Aside0.mk hj
            have c1n : (j < s.size) = False := eq_false hj
            clear hj
            go_wp2_with (first | (at_builtin; refine Kd.R_append Kd.string (w0 := w) w.heap.size rfl (.tmp 47) (.tmp 51) 25 9 (.string ⟨#[]⟩) 16 rfl Try.underlying25 info9 rfl (by decide) (by omega) _ _ _ [_] (fun _ => True) (fun _ => False) rfl rfl rfl (fun _ h => h.elim) (fun _ _ => trivial) HR.out HB.out HB.out.size (by rw [List.length_map]; have := HN.out; have := HI2.out; have := HS.out; omega) ?_; intro v2 w2 h1 h2 h3 h4; have H1 := Aside0.mk h1; have H2 := Aside0.mk h2; clear h1 h2 h3 h4))
            go_roundg 0
            case measure => have := HI.out; have := HI2.out; omega
            case rel =>
              have hjs : j = s.size := by have := HJ.out; have := HJ3.out; omega
              subst hjs
              have hr := run_step s HL.out i s.size HI2.out (Nat.le_refl _) HA.out (fun h => absurd h (Nat.lt_irrefl _))
              refine ⟨ks ++ [(L.drop i).take (s.size - i)], s.size, rfl, ⟨by omega⟩, ⟨?_⟩, ⟨by have := HN.out; have := HI2.out; simp; omega⟩, ⟨?_⟩, H2⟩
              · rw [← HK.out, hr]; simp
              · have := H1.out
                rw [List.map_append]
                show Kd.R _ _ _ _ _ _ (ks.map mk ++ [mk ((L.drop i).take (s.size - i))])
                rw [← extract_mk s HL.out]
                exact this
    · have c1 : decide ((i : Int) < (s.size : Int)) = false := decide_eq_false (by omega)
      go_wp2
      rw [Exit.noGoto_ret]
      go_ret
      refine ⟨_, rfl, ?_, HB.out⟩
      have := HK.out
      rw [List.drop_eq_nil_of_le (by rw [len_of s HL.out]; omega)] at this
      have h2 : partsOf s = ks.map mk := by unfold partsOf; rw [HL.out, ← this]; simp [parts]
      rw [h2]
      exact HR.out
end Go.Proofs.Ytgecigndgkcpkaa.Pen
