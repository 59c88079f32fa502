/- The reference's Tokens is the machine. -/
import Derived.Test.YtdgholodogcemaaTks
import Derived.Test.YtdgholodogcemaaMsh
set_option linter.unusedVariables false
set_option linter.unusedSimpArgs false
namespace Go.Proofs.Ytdgholodogcemaa.Lex
open Go Go.RowKit Go.Proofs.Ytdgholodogcemaa.PAll Go.Proofs.YtdgholodogcemaaW.PrintWords Go.Proofs.YtdgholodogcemaaW.PrintLast Go.Proofs.YtdgholodogcemaaW.PrintMore
/-- the bytes of a text from a place to another -/
def partN (s : ByteArray) (i j : Nat) : List Nat := ((bytesN s).drop i).take (j - i)
theorem part_extract (s : ByteArray) {i j : Nat} (h1 : i ≤ j) (h2 : j ≤ s.size) : s.extract i j = strOfNums ((partN s i j).map (fun c : Nat => (c : Int))) := by
  apply ByteArray.ext
  apply Array.ext'
  simp [strOfNums, partN, bytesN, Function.comp_def, List.extract]
theorem part_drop (s : ByteArray) {i j : Nat} (h : i ≤ j) : (bytesN s).drop i = partN s i j ++ (bytesN s).drop j := by
  unfold partN
  have e : (bytesN s).drop j = ((bytesN s).drop i).drop (j - i) := by rw [List.drop_drop]; congr 1; omega
  rw [e, List.take_append_drop]
theorem part_snoc (s : ByteArray) {i j : Nat} (h : i ≤ j) (hj : j < s.size) : partN s i (j + 1) = partN s i j ++ [(s[j]'hj).toNat] := by
  have e1 := part_drop s (i := i) (j := j + 1) (by omega)
  rw [part_drop s h, drop_at s hj] at e1
  have e2 : partN s i j ++ (s[j]'hj).toNat :: (bytesN s).drop (j + 1) = (partN s i j ++ [(s[j]'hj).toNat]) ++ (bytesN s).drop (j + 1) := by simp
  rw [e2] at e1
  exact (List.append_cancel_right e1).symm
/-- a text, from behind its first sign on -/
def TextPost (s : ByteArray) (i : Nat) (m : M) (text : ByteArray) (next : Nat) (ok : Bool) : Prop :=
  i ≤ next ∧ next ≤ s.size ∧ (ok = true → ∃ m', runM ((bytesN s).drop i) m = runM ((bytesN s).drop next) m' ∧ m'.st = 4 ∧ m'.out = m.out ++ [⟨m.tk, m.tl, m.tc, text⟩] ∧ m'.li = m.li ∧ m'.co = m.co + (next - i)) ∧
  (ok = false → runM ((bytesN s).drop i) m = ([], m.li, m.co + (next - i), 230))
theorem TextPost.on {s : ByteArray} {i j : Nat} {m m1 : M} {text : ByteArray} {next : Nat} {ok : Bool} (h : TextPost s j m1 text next ok) (hij : i ≤ j) (hr : runM ((bytesN s).drop i) m = runM ((bytesN s).drop j) m1) (ho : m1.out = m.out) (hl : m1.li = m.li) (hc : m1.co = m.co + (j - i)) (h1 : m1.tk = m.tk) (h2 : m1.tl = m.tl) (h3 : m1.tc = m.tc) : TextPost s i m text next ok := by
  obtain ⟨a, b, c, d⟩ := h
  refine ⟨by omega, b, fun hk => ?_, fun hk => ?_⟩
  · obtain ⟨m', e, q1, q2, q3, q4⟩ := c hk
    exact ⟨m', hr.trans e, q1, by rw [q2, ho, h1, h2, h3], by rw [q3, hl], by rw [q4, hc]; omega⟩
  · rw [hr, d hk, hl, hc]
    congr 3
    omega
theorem run_nil {m : M} (h : 2 ≤ m.co) : runM [] m = ([], m.li, m.co, 230) := by
  simp only [runM]
  rw [if_pos (by omega)]
theorem wrap_nat {i : Nat} (h : i ≤ 1000000000) : wrap64 ((i : Int) + 1) = ((i + 1 : Nat) : Int) := w64n (by omega)
theorem text_loop (s : ByteArray) (hs : s.size ≤ 1000000) : ∀ (d i k : Nat) (m : M) (xs : List Int), s.size - i ≤ d → i ≤ s.size → d < k → m.st = 2 → m.xs = xs → xs.length ≤ i → 2 ≤ m.co →
    ∃ (text : ByteArray) (next : Nat) (ok : Bool), warrantorref23_token.l0 k s (i : Int) 2 0 0 (strOfNums xs) = some (2, 0, 0, text, (next : Int), ok) ∧ TextPost s i m text next ok := by
  intro d
  induction d using Nat.strongRecOn with
  | ind d ih =>
  intro i k m xs hd hi hk hst hxs hxl hco
  obtain ⟨k, rfl⟩ : ∃ j, k = j + 1 := ⟨k - 1, by omega⟩
  simp only [warrantorref23_token.l0]
  by_cases h1 : i < s.size
  · have hdr := drop_at s h1
    have hbt := bt_nat s h1
    have hlt := UInt8.toNat_lt (s[i]'h1)
    rw [if_pos (by omega), if_pos (by omega), hbt, wrap_nat (by omega)]
    generalize (s[i]'h1).toNat = c at *
    have ez : ((i : Int)).toNat = i := by omega
    have ez1 : (((i + 1 : Nat) : Int)).toNat = i + 1 := by omega
    by_cases c34 : c = 34
    · rw [if_pos (by omega)]
      refine ⟨_, i + 1, true, rfl, by omega, by omega, fun _ => ?_, fun h => by cases h⟩
      rw [hdr, runM_step (step_of (.q2 hst c34))]
      exact ⟨_, rfl, rfl, by simp [nextM, M.tok, hxs], rfl, by simp only [nextM]; omega⟩
    rw [if_neg (by omega)]
    by_cases c92 : c = 92
    · rw [if_pos (by omega)]
      have st3 := step_of (.s2 hst c92)
      by_cases h2 : i + 1 < s.size
      · have hdr2 := drop_at s h2
        have hbt2 := bt_nat s h2
        have ez2 : (((i + 2 : Nat) : Int)).toNat = i + 2 := by omega
        rw [if_neg (by omega), if_pos (by omega), if_pos (by omega), hbt2, wrap_nat (by omega), ez1, show (((i + 1 + 1 : Nat) : Int)).toNat = i + 1 + 1 from rfl, ext1 s h2]
        generalize (s[i + 1]'h2).toNat = e at *
        have esc : (e = 34 ∨ e = 92) → ∃ (text : ByteArray) (next : Nat) (ok : Bool), warrantorref23_token.l0 k s ((i + 1 + 1 : Nat) : Int) 2 0 0 (strOfNums xs ++ strOfNums [(e : Int)]) = some (2, 0, 0, text, (next : Int), ok) ∧ TextPost s i m text next ok := by
          intro he
          rw [str_app]
          obtain ⟨text, next, ok, q, hp⟩ := ih (d - 1) (by omega) (i + 1 + 1) k (nextM { nextM { m with st := 3 } with st := 2, xs := m.xs ++ [(e : Int)] }) (xs ++ [(e : Int)]) (by omega) (by omega) (by omega) rfl (by simp [nextM, hxs]) (by simp; omega) (by simp only [nextM]; omega)
          refine ⟨text, next, ok, q, hp.on (by omega) ?_ rfl rfl (by simp only [nextM]; omega) rfl rfl rfl⟩
          rw [hdr, hdr2, runM_step st3, runM_step (step_of (.e3 rfl he))]
          rfl
        by_cases e34 : e = 34
        · rw [if_pos (by omega), if_pos (by omega), if_pos (by omega), strOfNums_size, strOfNums_size, if_pos (by simp; omega)]
          exact esc (.inl e34)
        rw [if_neg (by omega)]
        by_cases e92 : e = 92
        · rw [if_pos (by omega), if_pos (by omega), if_pos (by omega), strOfNums_size, strOfNums_size, if_pos (by simp; omega)]
          exact esc (.inr e92)
        rw [if_neg (by omega)]
        refine ⟨_, i + 1, false, rfl, by omega, by omega, fun h => (by cases h), fun _ => ?_⟩
        have en : stepM (nextM { m with st := 3 }) e = none := by
          simp only [stepM, nextM]
          rw [if_neg (fun h => h.elim e34 e92)]
        rw [hdr, hdr2, runM_step st3, runM_none en]
        simp only [nextM]
        congr 3
        omega
      · rw [if_pos (by omega)]
        refine ⟨_, i + 1, false, rfl, by omega, by omega, fun h => (by cases h), fun _ => ?_⟩
        rw [hdr, bytesN_end h2, runM_step st3, run_nil (by simp only [nextM]; omega)]
        simp only [nextM]
        congr 3
        omega
    rw [if_neg (by omega)]
    have bad : plainB c = false → runM ((bytesN s).drop i) m = ([], m.li, m.co + ((i : Int) - i), 230) := by
      intro hp
      have en : stepM m c = none := by
        simp only [stepM, hst]
        rw [if_neg c34, if_neg c92, hp, if_neg (by decide)]
      rw [hdr, runM_none en]
      congr 3
      omega
    by_cases c32 : c < 32
    · rw [if_pos (by omega)]
      exact ⟨_, i, false, rfl, by omega, by omega, fun h => (by cases h), fun _ => bad (by unfold plainB; rw [decide_eq_false (by omega)]; rfl)⟩
    rw [if_neg (by omega)]
    by_cases c126 : 126 < c
    · rw [if_pos (by omega)]
      exact ⟨_, i, false, rfl, by omega, by omega, fun h => (by cases h), fun _ => bad (by unfold plainB; rw [decide_eq_false (show ¬ c ≤ 126 by omega), Bool.and_false])⟩
    rw [if_neg (by omega), if_pos (by omega), if_pos (by omega), ez, ez1]
    have hx : s.extract i (i + 1) = strOfNums [(c : Int)] := by
      have := ext1 s h1
      rw [this]
      congr 2
      have h3 := drop_at s h1
      rw [hdr] at h3
      injection h3 with h3 _
      omega
    have hp : plainB c = true := by unfold plainB; rw [decide_eq_true (show 32 ≤ c by omega), decide_eq_true (show c ≤ 126 by omega)]; rfl
    rw [hx, strOfNums_size, strOfNums_size, if_pos (by simp; omega), str_app]
    obtain ⟨text, next, ok, q, hpst⟩ := ih (d - 1) (by omega) (i + 1) k (nextM { m with xs := m.xs ++ [(c : Int)] }) (xs ++ [(c : Int)]) (by omega) (by omega) (by omega) hst (by simp [nextM, hxs]) (by simp; omega) (by simp only [nextM]; omega)
    refine ⟨text, next, ok, q, hpst.on (by omega) ?_ rfl rfl (by simp only [nextM]; omega) rfl rfl rfl⟩
    rw [hdr, runM_step (step_of (.p2 hst c34 c92 hp))]
  · rw [if_neg (by omega)]
    obtain rfl : i = s.size := by omega
    refine ⟨_, s.size, false, rfl, by omega, by omega, fun h => (by cases h), fun _ => ?_⟩
    rw [bytesN_end h1, run_nil hco]
    congr 3
    omega
theorem word_loop (s : ByteArray) (hs : s.size ≤ 1000000) (at0 : Nat) : ∀ (d i k : Nat), s.size - i ≤ d → at0 ≤ i → i ≤ s.size → d < k → (∀ c ∈ partN s at0 i, wordB c = true) →
    ∃ next : Nat, warrantorref23_token.l1 k s (at0 : Int) (i : Int) = some (1, 0, 0, strOfNums ((partN s at0 next).map (fun c : Nat => (c : Int))), (next : Int), decide (at0 < next)) ∧ i ≤ next ∧ next ≤ s.size ∧ (∀ c ∈ partN s at0 next, wordB c = true) ∧ (∀ h : next < s.size, wordB (s[next]'h).toNat = false) := by
  intro d
  induction d with
  | zero =>
    intro i k hd ha hi hk hw
    obtain ⟨k, rfl⟩ : ∃ j, k = j + 1 := ⟨k - 1, by omega⟩
    simp only [warrantorref23_token.l1]
    have ez : ((i : Int)).toNat = i := by omega
    have ez1 : ((at0 : Int)).toNat = at0 := by omega
    rw [if_neg (by omega), if_pos (by omega), if_pos (by omega), if_pos (by omega), ez, ez1, part_extract s ha hi]
    refine ⟨i, ?_, by omega, hi, hw, fun h => by omega⟩
    congr 6
    exact decide_eq_decide.2 (by omega)
  | succ d ih =>
    intro i k hd ha hi hk hw
    obtain ⟨k, rfl⟩ : ∃ j, k = j + 1 := ⟨k - 1, by omega⟩
    simp only [warrantorref23_token.l1]
    have ez : ((i : Int)).toNat = i := by omega
    have ez1 : ((at0 : Int)).toNat = at0 := by omega
    by_cases h1 : i < s.size
    · rw [if_pos (by omega), if_pos (by omega), bt_nat s h1, rword (UInt8.toNat_lt _), Option.bind_some]
      by_cases hb : wordB (s[i]'h1).toNat = true
      · rw [if_pos hb, wrap_nat (by omega)]
        obtain ⟨next, q, a, b, c, e⟩ := ih (i + 1) k (by omega) (by omega) (by omega) (by omega) (fun x hx => by
          rw [part_snoc s ha h1] at hx
          rcases List.mem_append.1 hx with hx | hx
          · exact hw x hx
          · rw [List.mem_singleton] at hx; rw [hx]; exact hb)
        exact ⟨next, q, by omega, b, c, e⟩
      · rw [if_neg hb, if_pos (by omega), if_pos (by omega), if_pos (by omega), ez, ez1, part_extract s ha hi]
        refine ⟨i, ?_, by omega, hi, hw, fun h => Bool.eq_false_iff.mpr hb⟩
        congr 6
        exact decide_eq_decide.2 (by omega)
    · rw [if_neg (by omega), if_pos (by omega), if_pos (by omega), if_pos (by omega), ez, ez1, part_extract s ha hi]
      refine ⟨i, ?_, by omega, hi, hw, fun h => absurd h h1⟩
      congr 6
      exact decide_eq_decide.2 (by omega)
end Go.Proofs.Ytdgholodogcemaa.Lex
