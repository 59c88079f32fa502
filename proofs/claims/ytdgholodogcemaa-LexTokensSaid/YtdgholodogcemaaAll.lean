/- Whether a text has only such runes; whether it is a word. -/
import Derived.Test.YtdgholodogcemaaTok
set_option linter.unusedVariables false
set_option linter.unusedSimpArgs false
set_option maxRecDepth 20000
namespace Go.Proofs.Ytdgholodogcemaa.Lex
open Go Go.RowKit Go.Proofs.YtdgholodogcemaaW.PrintWords Go.Proofs.YtdgholodogcemaaW.PrintLast
open Go.Proofs.Ytdgholodogcemaa.PAll (S36 k36)

/-- the runes that a function takes -/
def mayB (n : Nat) (c : Nat) : Bool := if n = 27 then plainB c else wordB c
theorem may_hi {n c : Nat} (h : 128 ≤ c) : mayB n c = false := by unfold mayB; rw [plain_hi h, word_hi h]; split <;> rfl
theorem may_calls {n : Nat} (hn : n = 27 ∨ n = 29) {c : Nat} {r : Bool} (h : mayB n c = r) (w : World) : Calls Try.prog n #[.int .i32 (c : Int)] w fun e w' => e = .returned (.bool r) ∧ w = w' := by
  unfold mayB at h
  rcases hn with rfl | rfl
  · exact plain_is (by simpa using h) w
  · exact word_is (by simpa using h) w
theorem all1_calls {n : Nat} (hn : n = 27 ∨ n = 29) {c : Nat} {r : Bool} (h : mayB n c = r) {w : World} {q : Nat} (hq : w.cell? ⟨q, 0, none⟩ = some (.func (.func n) #[] #[])) : Calls Try.prog 34 #[.int .i32 (c : Int), .pointer (some ⟨q, 0, none⟩)] w fun e w' => e = .returned (.bool (!r)) ∧ w = w' := by
  have HN := Aside0.mk hn
  have H := Aside0.mk h
  have HN2 := Aside0.mk hn
  clear h
  rcases hn with rfl | rfl
  · go_enter Try.func34, Try.ntmps34
    go_wp2_with (go_at_call 27; (with_reducible refine (may_calls HN.out H.out _).mono ?_); rintro e w_ ⟨rfl, rfl⟩)
    go_ret
    exact ⟨by first | rfl | simp, rfl⟩
  · go_enter Try.func34, Try.ntmps34
    go_wp2_with (go_at_call 29; (with_reducible refine (may_calls HN.out H.out _).mono ?_); rintro e w_ ⟨rfl, rfl⟩)
    go_ret
    exact ⟨by first | rfl | simp, rfl⟩
theorem allB_snoc {p : Nat → Bool} {l : List Nat} {j : Nat} {c : Nat} {r : List Nat} (hd : l.drop j = c :: r) (h : (l.take j).all p = true) (hc : p c = true) : (l.take (j + 1)).all p = true := by
  have hj : j < l.length := by
    refine Classical.byContradiction fun hn => ?_
    rw [List.drop_eq_nil_of_le (by omega)] at hd
    cases hd
  rw [List.take_succ_eq_append_getElem hj, List.all_append, h, Bool.true_and]
  have : l[j] = c := by
    rw [List.drop_eq_getElem_cons hj] at hd
    injection hd
  rw [this]
  simp [hc]
theorem allB_no {p : Nat → Bool} {l : List Nat} {j : Nat} {c : Nat} {r : List Nat} (hd : l.drop j = c :: r) (hc : p c = false) : l.all p = false := by
  rw [← List.take_append_drop j l, hd, List.all_append, List.all_cons, hc]
  simp
set_option maxHeartbeats 4000000 in
theorem index_calls {n : Nat} (hn : n = 27 ∨ n = 29) (s : ByteArray) {w : World} {q : Nat} (hq : w.cell? ⟨q, 0, none⟩ = some (.func (.func n) #[] #[])) {r : Bool} (hr : (bytesN s).all (mayB n) = r) :
    Calls Try.prog 46 #[.string s, .func (.func 34) #[] #[.pointer (some ⟨q, 0, none⟩)], .bool true] w fun e w' => (∃ z : Int, e = .returned (.int .i64 z) ∧ decide (0 ≤ z) = !r) ∧ Below w.heap.size w w' := by
  have HN := Aside0.mk hn
  have HR := Aside0.mk hr
  have HQ := Aside0.mk hq
  clear hn hr hq
  go_enter Try.func46, Try.ntmps46
  go_wp2
  go_loopg [] s.size (fun gk w' => ∃ pos : Nat, Aside0 (gk = s.size - pos ∧ pos ≤ s.size) ∧ Aside0 (((bytesN s).take pos).all (mayB n) = true) ∧ Aside0 (w'.heap[w.heap.size]? = some (.stringIter s pos)) ∧ Aside0 (Below w.heap.size w w'))
  case atStart => exact ⟨0, ⟨by omega, Nat.zero_le _⟩, ⟨rfl⟩, ⟨World.iter_heap w s 0⟩, ⟨(Below.refl _ w).alloc (Nat.le_refl _) _⟩⟩
  case round =>
    obtain ⟨pos, HGK, HA, HIT, HBl⟩ := hrel
    have hit := HIT.out
    by_cases hp : pos < s.size
    · have HP := Aside0.mk hp
      by_cases ha : (s[pos]'hp).toNat < 128
      · have hnx : ∀ ty, (Instr.next (.pointer (some ⟨w.heap.size, 0, none⟩)) true ty).run Try.prog wr = _ := fun ty => Lib.run_next_ascii_at wr w.heap.size s pos ty hit hp ha
        obtain ⟨c, hc⟩ : ∃ c, (s[pos]'hp).toNat = c := ⟨_, rfl⟩
        rw [hc] at ha hnx
        have HDR := Aside0.mk (show (bytesN s).drop pos = c :: (bytesN s).drop (pos + 1) by rw [bytesN_drop hp, hc])
        have B2 := Aside0.mk (show Below w.heap.size w (wr.iterAt w.heap.size s (pos + 1)) from Lib.below_iterAt HBl.out (Nat.le_refl _) s _)
        have IT2 := Aside0.mk (Lib.iterAt_heap wr w.heap.size s pos (pos + 1) hit)
        obtain ⟨W2, hW2⟩ : ∃ W, wr.iterAt w.heap.size s (pos + 1) = W := ⟨_, rfl⟩
        rw [hW2] at B2 IT2 hnx
        have Q2 := Aside0.mk ((B2.out.cell (World.block_lt_of_cell? w _ HQ.out)).trans HQ.out)
        clear hit hc hW2 hp
        cases hm : mayB n c with
        | true =>
          have HM := Aside0.mk hm
          clear hm
          go_wp2_with (go_at_call 34; (with_reducible refine (all1_calls HN.out HM.out Q2.out).mono ?_); rintro e w_ ⟨rfl, rfl⟩)
          go_roundg (s.size - (pos + 1))
          case measure => have := HGK.out; have := HP.out; omega
          case rel => exact ⟨pos + 1, ⟨rfl, HP.out⟩, ⟨allB_snoc HDR.out HA.out HM.out⟩, IT2, B2⟩
        | false =>
          have HM := Aside0.mk hm
          have HF := Aside0.mk (show r = false by rw [← HR.out]; exact allB_no HDR.out hm)
          clear hm
          go_wp2_with (go_at_call 34; (with_reducible refine (all1_calls HN.out HM.out Q2.out).mono ?_); rintro e w_ ⟨rfl, rfl⟩)
          go_ret
          refine ⟨⟨_, rfl, ?_⟩, B2.out⟩
          rw [HF.out]
          exact decide_eq_true (by omega)
      · have hd := decode_high s pos hp (by omega)
        have hnx : ∀ ty, (Instr.next (.pointer (some ⟨w.heap.size, 0, none⟩)) true ty).run Try.prog wr = _ := fun ty => Lib.run_next_any_at wr w.heap.size s pos ty hit hp
        obtain ⟨c, hc⟩ : ∃ c, (Utf8.decode s pos).1 = c := ⟨_, rfl⟩
        obtain ⟨d, hdd⟩ : ∃ c, (Utf8.decode s pos).2 = c := ⟨_, rfl⟩
        rw [hc, hdd] at hnx
        rw [hc] at hd
        have HM := Aside0.mk (may_hi (n := n) hd.1)
        have HF := Aside0.mk (show r = false by rw [← HR.out]; exact allB_no (bytesN_drop hp) (may_hi (by omega)))
        have B2 := Aside0.mk (show Below w.heap.size w (wr.iterAt w.heap.size s (pos + d)) from Lib.below_iterAt HBl.out (Nat.le_refl _) s _)
        obtain ⟨W2, hW2⟩ : ∃ W, wr.iterAt w.heap.size s (pos + d) = W := ⟨_, rfl⟩
        rw [hW2] at B2 hnx
        have Q2 := Aside0.mk ((B2.out.cell (World.block_lt_of_cell? w _ HQ.out)).trans HQ.out)
        clear hit hc hW2 hp hd hdd ha
        go_wp2_with (go_at_call 34; (with_reducible refine (all1_calls HN.out HM.out Q2.out).mono ?_); rintro e w_ ⟨rfl, rfl⟩)
        go_ret
        refine ⟨⟨_, rfl, ?_⟩, B2.out⟩
        rw [HF.out]
        exact decide_eq_true (by omega)
    · have hnx : ∀ ty, (Instr.next (.pointer (some ⟨w.heap.size, 0, none⟩)) true ty).run Try.prog wr = _ := fun ty => Lib.run_next_end_at wr w.heap.size s pos ty hit hp
      have HT := Aside0.mk (show r = true by
        have h := HA.out
        have hl : (bytesN s).length = s.size := by unfold bytesN; rw [List.length_map]; simp
        rw [List.take_of_length_le (by omega)] at h
        rw [← HR.out, h])
      clear hit hp
      go_wp2
      go_ret
      refine ⟨⟨_, rfl, ?_⟩, HBl.out⟩
      rw [HT.out]
      rfl
theorem index2_calls {n : Nat} (hn : n = 27 ∨ n = 29) (s : ByteArray) {w : World} {q : Nat} (hq : w.cell? ⟨q, 0, none⟩ = some (.func (.func n) #[] #[])) {r : Bool} (hr : (bytesN s).all (mayB n) = r) :
    Calls Try.prog 40 #[.string s, .func (.func 34) #[] #[.pointer (some ⟨q, 0, none⟩)]] w fun e w' => (∃ z : Int, e = .returned (.int .i64 z) ∧ decide (0 ≤ z) = !r) ∧ Below w.heap.size w w' := by
  have HI := Aside0.mk (index_calls hn s hq hr)
  clear hn hr hq
  go_enter Try.func40, Try.ntmps40
  go_wp2_with (go_at_call 46; (with_reducible refine (HI.out).mono ?_); rintro e w1 ⟨⟨z, rfl, hz⟩, h1⟩; have B1 := Aside0.mk h1; have HZ := Aside0.mk hz; clear h1 hz)
  go_ret
  exact ⟨⟨z, rfl, HZ.out⟩, B1.out⟩
theorem contains_calls {n : Nat} (hn : n = 27 ∨ n = 29) (s : ByteArray) {w : World} {q : Nat} (hq : w.cell? ⟨q, 0, none⟩ = some (.func (.func n) #[] #[])) {r : Bool} (hr : (bytesN s).all (mayB n) = r) :
    Calls Try.prog 33 #[.string s, .func (.func 34) #[] #[.pointer (some ⟨q, 0, none⟩)]] w fun e w' => e = .returned (.bool (!r)) ∧ Below w.heap.size w w' := by
  have HI := Aside0.mk (index2_calls hn s hq hr)
  clear hn hr hq
  go_enter Try.func33, Try.ntmps33
  go_wp2_with (go_at_call 40; (with_reducible refine (HI.out).mono ?_); rintro e w1 ⟨⟨z, rfl, hz⟩, h1⟩; have B1 := Aside0.mk h1; have HZ := Aside0.mk hz; clear h1 hz)
  go_ret
  exact ⟨by rw [← HZ.out]; first | rfl | simp, B1.out⟩
set_option maxHeartbeats 1000000 in
theorem all_calls {n : Nat} (hn : n = 27 ∨ n = 29) (s : ByteArray) {r : Bool} (hr : (bytesN s).all (mayB n) = r) (w : World) :
    Calls Try.prog 28 #[.string s, .func (.func n) #[] #[]] w fun e w' => e = .returned (.bool r) ∧ Below w.heap.size w w' := by
  have hmf : ∀ (fn : Fn) (first cap : Array Value) (w : World), (Instr.makeFunc fn first cap).run Try.prog w = .ok (.func fn first cap) w := fun _ _ _ _ => rfl
  have BA := Aside0.mk (below_alloc (Below.refl w.heap.size w) (.cells #[.func (.func n) #[] #[]] 58))
  have Q := Aside0.mk (show (w.alloc (.cells #[.func (.func n) #[] #[]] 58)).cell? ⟨w.heap.size, 0, none⟩ = some (.func (.func n) #[] #[]) from (blk_cell (blk_new w _) 0).trans rfl)
  have HN := Aside0.mk hn
  have HR := Aside0.mk hr
  clear hn hr
  go_enter Try.func28, Try.ntmps28
  go_wp2_with (go_at_call 33; (with_reducible refine (contains_calls HN.out s Q.out HR.out).mono ?_); rintro e w1 ⟨rfl, h1⟩; have B1 := Aside0.mk (below_then BA.out BA.out.size h1); clear h1)
  go_ret
  exact ⟨by first | rfl | simp, B1.out⟩
/-- a word -/
def wordT (s : ByteArray) : Bool := decide (s.size ≠ 0) && (bytesN s).all wordB
theorem all_plain (s : ByteArray) {r : Bool} (hr : (bytesN s).all plainB = r) (w : World) : Calls Try.prog 28 #[.string s, .func (.func 27) #[] #[]] w fun e w' => e = .returned (.bool r) ∧ Below w.heap.size w w' := by
  refine all_calls (.inl rfl) s ?_ w
  rw [← hr]
  rfl
theorem all_word (s : ByteArray) {r : Bool} (hr : (bytesN s).all wordB = r) (w : World) : Calls Try.prog 28 #[.string s, .func (.func 29) #[] #[]] w fun e w' => e = .returned (.bool r) ∧ Below w.heap.size w w' := by
  refine all_calls (.inr rfl) s ?_ w
  rw [← hr]
  rfl
theorem toList_len (s : ByteArray) : s.toList.length = s.size := by
  obtain ⟨⟨l⟩⟩ := s
  simp
  rfl
theorem empty_toList {s : ByteArray} (h : s.size = 0) : s = ⟨#[]⟩ := by
  cases s with | mk d => cases d with | mk l => cases l with | nil => rfl | cons a b => simp [ByteArray.size] at h
set_option maxHeartbeats 1000000 in
theorem word_calls (s : ByteArray) (w : World) : Calls Try.prog 17 #[.string s] w fun e w' => e = .returned (.bool (wordT s)) ∧ Below w.heap.size w w' := by
  unfold wordT
  by_cases h : s.size = 0
  · rw [decide_eq_false (fun h2 => h2 h), Bool.false_and]
    obtain rfl := empty_toList h
    clear h
    go_enter Try.func17, Try.ntmps17
    go_wp2
    go_ret
    exact ⟨by first | rfl | simp, Below.refl _ _⟩
  · rw [decide_eq_true (show s.size ≠ 0 from h), Bool.true_and]
    obtain ⟨r, hr⟩ : ∃ r, (bytesN s).all wordB = r := ⟨_, rfl⟩
    rw [hr]
    have HR := Aside0.mk hr
    have e1 : s ≠ ⟨#[]⟩ := fun e => h (by rw [e]; rfl)
    have e2 : ¬ s.toList = [] := fun e => h (by have h2 := toList_len s; rw [e] at h2; simpa using h2.symm)
    have e3 : s.data ≠ #[] := fun e => h (by have : s.size = s.data.size := rfl; rw [this, e]; rfl)
    clear h hr
    go_enter Try.func17, Try.ntmps17
    go_wp2_with (go_at_call 28; (with_reducible refine (all_word s HR.out _).mono ?_); rintro e w1 ⟨rfl, h1⟩; have B1 := Aside0.mk h1; clear h1)
    go_ret
    exact ⟨by first | rfl | (simp; done) | (simp; exact fun _ => e2), B1.out⟩
end Go.Proofs.Ytdgholodogcemaa.Lex
