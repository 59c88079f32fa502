/- Functions of the translation as plain Lean functions, and for each the proof that the machine's call does what that function says (laid by wip/tools/myprint.py of this session, by way of the print). -/
import Derived.Test.YtdgholodogcemaaPAllx0
import Derived.Test.YtdgholodogcemaaSam
namespace Go.Proofs.Ytdgholodogcemaa.PAll
open Go.RowKit Go.Proofs.YtdgholodogcemaaW.PrintWords Go.Proofs.YtdgholodogcemaaW.PrintLast Go.Proofs.YtdgholodogcemaaW.PrintMore
attribute [local go_sem] max2_int min2_int max_two min_two max_three min_three max_four min_four   -- for this text's walks alone
set_option linter.unusedVariables false
set_option linter.unusedSimpArgs false

/-! ### lex_plain: function 27 -/
def lex_plain.f (a0 : Int) : Option (Bool) := if a0 ≥ 32 then (some (decide (a0 ≤ 126))) else (some false)
set_option maxHeartbeats 8000000 in
set_option maxRecDepth 100000 in
theorem lex_plain.calls (a0 : Int) (r : Bool) (w : World) (h : lex_plain.f a0 = some r) :
    Calls Try.prog 27 #[.int .i32 a0] w fun e w' => e = .returned (.bool r) ∧ Drawn0 w w' := by
  have H : (if a0 ≥ 32 then (some (decide (a0 ≤ 126))) else (some false)) = some r := h
  clear h
  by_cases c2 : a0 ≥ 32
  · rw [if_pos c2] at H
    have c2b0 : decide (32 ≤ a0) = true := decide_eq_true c2
    clear c2
    obtain rfl := Option.some.inj H
    go_enter Try.func27, Try.ntmps27
    go_wp2
    go_ret
    exact ⟨by first | rfl | (simp; done) | (simp [*]; done), by repeat (first | exact Drawn0.refl _ | apply Drawn0.step)⟩
  · rw [if_neg c2] at H
    have c2b0 : decide (32 ≤ a0) = false := decide_eq_false c2
    clear c2
    obtain rfl := Option.some.inj H
    go_enter Try.func27, Try.ntmps27
    go_wp2
    go_ret
    exact ⟨by first | rfl | (simp; done) | (simp [*]; done), by repeat (first | exact Drawn0.refl _ | apply Drawn0.step)⟩

/-! ### lex_word: function 29 -/
def lex_word.f (a0 : Int) : Option (Bool) := (lex_plain.f a0).bind fun t101 => (if t101 = true then (if a0 = 32 then (some false) else (some (a0 != 34))) else (some false))
set_option maxHeartbeats 8000000 in
set_option maxRecDepth 100000 in
theorem lex_word.calls (a0 : Int) (r : Bool) (w : World) (h : lex_word.f a0 = some r) :
    Calls Try.prog 29 #[.int .i32 a0] w fun e w' => e = .returned (.bool r) ∧ Drawn0 w w' := by
  have H : ((lex_plain.f a0).bind fun t101 => (if t101 = true then (if a0 = 32 then (some false) else (some (a0 != 34))) else (some false))) = some r := h
  clear h
  replace H := Option.bind_eq_some_iff.mp H
  obtain ⟨t101, A20, H⟩ := H
  replace H : (if t101 = true then (if a0 = 32 then (some false) else (some (a0 != 34))) else (some false)) = some r := H
  have A2 := Aside0.mk A20
  clear A20
  by_cases c3 : t101 = true
  · subst c3
    have H1 : (if a0 = 32 then (some false) else (some (a0 != 34))) = some r := by rw [if_pos rfl] at H; exact H
    clear H
    have H := H1
    clear H1
    by_cases c4 : a0 = 32
    · rw [if_pos c4] at H
      have c4b0 : (a0 == 32) = true := beq_iff_eq.mpr c4
      have c4b1 : (a0 != 32) = false := bne_eq_false_iff_eq.mpr c4
      clear c4
      obtain rfl := Option.some.inj H
      go_enter Try.func29, Try.ntmps29
      go_wp2_with (first | ((with_reducible refine gate_callee (f := 27) rfl ?_); refine goesL_ (some 4) rfl rfl Try.func27 (by kernel_rfl) rfl #[.int .i32 a0] rfl (by (try simp only [List.map_toArray, List.map_cons, List.map_nil]); first | done | rfl | (simp only [List.length_drop, List.length_take]; rfl)) ?_; (with_reducible refine (lex_plain.calls a0 true _ A2.out).mono ?_); rintro e w' ⟨rfl, ⟨nd, rfl⟩⟩; refine ⟨_, rfl, ?_⟩))
      go_ret
      exact ⟨by first | rfl | (simp; done) | (simp [*]; done), by repeat (first | exact Drawn0.refl _ | apply Drawn0.step)⟩
    · rw [if_neg c4] at H
      have c4b0 : (a0 == 32) = false := beq_eq_false_iff_ne.mpr c4
      have c4b1 : (a0 != 32) = true := bne_iff_ne.mpr c4
      obtain rfl := Option.some.inj H
      go_enter Try.func29, Try.ntmps29
      go_wp2_with (first | ((with_reducible refine gate_callee (f := 27) rfl ?_); refine goesL_ (some 4) rfl rfl Try.func27 (by kernel_rfl) rfl #[.int .i32 a0] rfl (by (try simp only [List.map_toArray, List.map_cons, List.map_nil]); first | done | rfl | (simp only [List.length_drop, List.length_take]; rfl)) ?_; (with_reducible refine (lex_plain.calls a0 true _ A2.out).mono ?_); rintro e w' ⟨rfl, ⟨nd, rfl⟩⟩; refine ⟨_, rfl, ?_⟩))
      go_ret
      exact ⟨by first | rfl | (simp; done) | (simp [*]; done), by repeat (first | exact Drawn0.refl _ | apply Drawn0.step)⟩
  · replace c3 := Bool.eq_false_iff.mpr c3
    subst c3
    have H1 : (some false) = some r := by rw [if_neg (show ¬ (false = true) by decide)] at H; exact H
    clear H
    have H := H1
    clear H1
    obtain rfl := Option.some.inj H
    go_enter Try.func29, Try.ntmps29
    go_wp2_with (first | ((with_reducible refine gate_callee (f := 27) rfl ?_); refine goesL_ (some 4) rfl rfl Try.func27 (by kernel_rfl) rfl #[.int .i32 a0] rfl (by (try simp only [List.map_toArray, List.map_cons, List.map_nil]); first | done | rfl | (simp only [List.length_drop, List.length_take]; rfl)) ?_; (with_reducible refine (lex_plain.calls a0 false _ A2.out).mono ?_); rintro e w' ⟨rfl, ⟨nd, rfl⟩⟩; refine ⟨_, rfl, ?_⟩))
    go_ret
    exact ⟨by first | rfl | (simp; done) | (simp [*]; done), by repeat (first | exact Drawn0.refl _ | apply Drawn0.step)⟩

-- NOT PRINTED: function 41 (strings_Builder_Reset)

-- NOT PRINTED: function 35 (lex_lexer_begin)

-- NOT PRINTED: function 39 (abi_NoEscape)

-- NOT PRINTED: function 32 (strings_Builder_copyCheck)


/-! ### utf8_appendRuneNonASCII: function 47 -/


/-! ### utf8_AppendRune: function 45 -/

-- NOT PRINTED: function 37 (strings_Builder_WriteRune)

-- NOT PRINTED: function 25 (strings_Builder_String)

-- NOT PRINTED: function 42 (lex_lexer_end)

-- NOT PRINTED: function 43 (lex_behind)

-- NOT PRINTED: function 44 (lex_escaped)

-- NOT PRINTED: function 36 (lex_within)

-- NOT PRINTED: function 38 (lex_goes)

-- NOT PRINTED: function 31 (lex_fresh)

-- NOT PRINTED: function 19 (lex_start)


/-! ### lex_Tokens: function 9 -/
def lex_Tokens.f (a0 : ByteArray) : Option ((List (S36)) × Int × Int × Int) := if a0.size ≤ 140737488351232 then some (Go.Proofs.Ytdgholodogcemaa.Lex.tokensM a0) else none
theorem lex_Tokens.calls (a0 : ByteArray) (r1 : List (S36)) (r2 : Int) (r3 : Int) (r4 : Int) (w : World) (h : lex_Tokens.f a0 = some (r1, r2, r3, r4)) :
    Calls Try.prog 9 #[.string a0] w fun e w' => ∃ v0_ : Value, e = .returned (.tuple #[v0_, .int .i64 r2, .int .i64 r3, .int .i64 r4]) ∧ Kd.R k36 36 w' w.heap.size (fun _ => True) v0_ r1 ∧ Below w.heap.size w w' := by
  unfold lex_Tokens.f at h
  split at h
  · rename_i hb
    have e := Option.some.inj h
    refine (Go.Proofs.Ytdgholodogcemaa.Lex.tokens_calls a0 w hb).mono fun e1 w1 h1 => ?_
    rw [e] at h1
    obtain ⟨⟨v, h2, h3⟩, h4⟩ := h1
    exact ⟨v, h2, h3, h4⟩
  · cases h


/-! ### warrantorref23_Same: function 11 -/
def warrantorref23_Same.f (l0 : List (S36)) (l1 : List (S36)) (a2 : Bool) : Option (Bool) := if l0.length ≤ 1000000000000 then some (Go.Proofs.Ytdgholodogcemaa.Lex.sameT l0 l1 a2) else none
theorem warrantorref23_Same.calls (A0 : Option Addr) (c0 : Nat) (l0 : List (S36)) (A1 : Option Addr) (c1 : Nat) (l1 : List (S36)) (a2 : Bool) (r : Bool) (w : World) (hr0 : Kd.C k36 w A0 l0.length l0) (hc0 : l0.length ≤ c0) (hr1 : Kd.C k36 w A1 l1.length l1) (hc1 : l1.length ≤ c1) (h : warrantorref23_Same.f l0 l1 a2 = some r) :
    Calls Try.prog 11 #[.slice A0 l0.length c0, .slice A1 l1.length c1, .bool a2] w fun e w' => e = .returned (.bool r) ∧ Below w.heap.size w w' := by
  unfold warrantorref23_Same.f at h
  split at h
  · rename_i hb
    obtain rfl := Option.some.inj h
    exact Go.Proofs.Ytdgholodogcemaa.Lex.rsame_calls a2 hr0 hc0 hr1 hc1 hb
  · cases h

-- NOT PRINTED: function 22 (strings_Builder_WriteByte)


/-! ### lex_Quote: function 15 -/
def lex_Quote.f (a0 : ByteArray) : Option (ByteArray) := if a0.size ≤ 1000000000000 then some (strOfNums (Go.Proofs.Ytdgholodogcemaa.Lex.quoteM a0)) else none
theorem lex_Quote.calls (a0 : ByteArray) (r : ByteArray) (w : World) (h : lex_Quote.f a0 = some r) :
    Calls Try.prog 15 #[.string a0] w fun e w' => e = .returned (.string r) ∧ Below w.heap.size w w' := by
  unfold lex_Quote.f at h
  split at h
  · rename_i hb
    obtain rfl := Option.some.inj h
    exact Go.Proofs.Ytdgholodogcemaa.Lex.quote_calls a0 hb w
  · cases h

-- NOT PRINTED: function 46 (strings_indexFunc)

-- NOT PRINTED: function 40 (strings_IndexFunc)

-- NOT PRINTED: function 33 (strings_ContainsFunc)

-- NOT PRINTED: function 28 (lex_all)


/-! ### lex_Word: function 17 -/
def lex_Word.f (a0 : ByteArray) : Option (Bool) := some (Go.Proofs.Ytdgholodogcemaa.Lex.wordT a0)
theorem lex_Word.calls (a0 : ByteArray) (r : Bool) (w : World) (h : lex_Word.f a0 = some r) :
    Calls Try.prog 17 #[.string a0] w fun e w' => e = .returned (.bool r) ∧ Below w.heap.size w w' := by
  obtain rfl := Option.some.inj h
  exact Go.Proofs.Ytdgholodogcemaa.Lex.word_calls a0 w

-- NOT PRINTED: function 21 (lex_right)

-- NOT PRINTED: function 23 (strings_Builder_WriteString)

-- NOT PRINTED: function 24 (strings_Builder_Len)


/-! ### lex_Show: function 12 -/
def lex_Show.f (l0 : List (S36)) : Option (ByteArray × Int) := if Go.Proofs.Ytdgholodogcemaa.Lex.weight l0 ≤ 1000000000000 then some (Go.Proofs.Ytdgholodogcemaa.Lex.showM l0) else none
theorem lex_Show.calls (A0 : Option Addr) (c0 : Nat) (l0 : List (S36)) (r1 : ByteArray) (r2 : Int) (w : World) (hr0 : Kd.C k36 w A0 l0.length l0) (hc0 : l0.length ≤ c0) (h : lex_Show.f l0 = some (r1, r2)) :
    Calls Try.prog 12 #[.slice A0 l0.length c0] w fun e w' => e = .returned (.tuple #[.string r1, .int .i64 r2]) ∧ Below w.heap.size w w' := by
  unfold lex_Show.f at h
  split at h
  · rename_i hb
    have e := Option.some.inj h
    have h1 := Go.Proofs.Ytdgholodogcemaa.Lex.show_calls hr0 hc0 hb
    rw [e] at h1
    exact h1
  · cases h

/-! ### warrantorlaw23_lives: function 8 -/
def warrantorlaw23_lives.f  : Option (Bool) := (lex_Tokens.f (⟨#[97, 32, 34, 98, 32, 99, 34, 10, 100, 10]⟩ : ByteArray)).bind fun bt104 => ((lex_Tokens.f (⟨#[97, 98, 10, 99, 32, 32, 100, 10]⟩ : ByteArray)).bind fun bt110 => ((lex_Show.f bt104.1).bind fun bt116 => ((lex_Show.f (([(⟨3, 0, 0, (⟨#[]⟩ : ByteArray)⟩ : S36)] : List (S36)))).bind fun bt121 => (if bt104.2.2.2 = 0 then (if bt104.2.1 = 2 then (if bt104.2.2.1 = 0 then ((warrantorref23_Same.f bt104.1 (([(⟨1, 1, 1, (⟨#[97]⟩ : ByteArray)⟩ : S36), (⟨2, 1, 3, (⟨#[98, 32, 99]⟩ : ByteArray)⟩ : S36), (⟨3, 1, 8, (⟨#[]⟩ : ByteArray)⟩ : S36), (⟨1, 2, 1, (⟨#[100]⟩ : ByteArray)⟩ : S36), (⟨3, 2, 2, (⟨#[]⟩ : ByteArray)⟩ : S36)] : List (S36))) true).bind fun t126 => (if t126 = true then (if bt110.2.2.2 = 230 then (if bt110.2.1 = 2 then (if bt110.2.2.1 = 3 then (if bt116.2 = 0 then (if bt116.1.toList = ([97, 32, 34, 98, 32, 99, 34, 10, 100, 10] : List UInt8) then (if bt121.2 = 1 then ((lex_Quote.f (⟨#[34]⟩ : ByteArray)).bind fun t127 => (if t127.toList = ([34, 92, 34, 34] : List UInt8) then ((lex_Word.f (⟨#[120]⟩ : ByteArray)).bind fun t128 => (if t128 = true then ((lex_Word.f (⟨#[120, 32, 121]⟩ : ByteArray)).bind fun t129 => (some (!t129))) else (none))) else (none))) else (none)) else (none)) else (none)) else (none)) else (none)) else (none)) else (none))) else (none)) else (none)) else (none)))))
set_option maxHeartbeats 8000000 in
set_option maxRecDepth 100000 in
theorem warrantorlaw23_lives.calls  (r : Bool) (w : World) (h : warrantorlaw23_lives.f  = some r) :
    Calls Try.prog 8 #[] w fun e w' => e = .returned (.bool r) ∧ Below w.heap.size w w' := by
  have hu36 := Try.underlying36
  have HB := Aside0.mk (Below.refl w.heap.size w)
  have H : ((lex_Tokens.f (⟨#[97, 32, 34, 98, 32, 99, 34, 10, 100, 10]⟩ : ByteArray)).bind fun bt104 => ((lex_Tokens.f (⟨#[97, 98, 10, 99, 32, 32, 100, 10]⟩ : ByteArray)).bind fun bt110 => ((lex_Show.f bt104.1).bind fun bt116 => ((lex_Show.f (([(⟨3, 0, 0, (⟨#[]⟩ : ByteArray)⟩ : S36)] : List (S36)))).bind fun bt121 => (if bt104.2.2.2 = 0 then (if bt104.2.1 = 2 then (if bt104.2.2.1 = 0 then ((warrantorref23_Same.f bt104.1 (([(⟨1, 1, 1, (⟨#[97]⟩ : ByteArray)⟩ : S36), (⟨2, 1, 3, (⟨#[98, 32, 99]⟩ : ByteArray)⟩ : S36), (⟨3, 1, 8, (⟨#[]⟩ : ByteArray)⟩ : S36), (⟨1, 2, 1, (⟨#[100]⟩ : ByteArray)⟩ : S36), (⟨3, 2, 2, (⟨#[]⟩ : ByteArray)⟩ : S36)] : List (S36))) true).bind fun t126 => (if t126 = true then (if bt110.2.2.2 = 230 then (if bt110.2.1 = 2 then (if bt110.2.2.1 = 3 then (if bt116.2 = 0 then (if bt116.1.toList = ([97, 32, 34, 98, 32, 99, 34, 10, 100, 10] : List UInt8) then (if bt121.2 = 1 then ((lex_Quote.f (⟨#[34]⟩ : ByteArray)).bind fun t127 => (if t127.toList = ([34, 92, 34, 34] : List UInt8) then ((lex_Word.f (⟨#[120]⟩ : ByteArray)).bind fun t128 => (if t128 = true then ((lex_Word.f (⟨#[120, 32, 121]⟩ : ByteArray)).bind fun t129 => (some (!t129))) else (none))) else (none))) else (none)) else (none)) else (none)) else (none)) else (none)) else (none)) else (none))) else (none)) else (none)) else (none)))))) = some r := h
  clear h
  replace H := Option.bind_eq_some_iff.mp H
  obtain ⟨⟨t104, t105, t106, t107⟩, A10, H⟩ := H
  replace H : ((lex_Tokens.f (⟨#[97, 98, 10, 99, 32, 32, 100, 10]⟩ : ByteArray)).bind fun bt110 => ((lex_Show.f t104).bind fun bt116 => ((lex_Show.f (([(⟨3, 0, 0, (⟨#[]⟩ : ByteArray)⟩ : S36)] : List (S36)))).bind fun bt121 => (if t107 = 0 then (if t105 = 2 then (if t106 = 0 then ((warrantorref23_Same.f t104 (([(⟨1, 1, 1, (⟨#[97]⟩ : ByteArray)⟩ : S36), (⟨2, 1, 3, (⟨#[98, 32, 99]⟩ : ByteArray)⟩ : S36), (⟨3, 1, 8, (⟨#[]⟩ : ByteArray)⟩ : S36), (⟨1, 2, 1, (⟨#[100]⟩ : ByteArray)⟩ : S36), (⟨3, 2, 2, (⟨#[]⟩ : ByteArray)⟩ : S36)] : List (S36))) true).bind fun t126 => (if t126 = true then (if bt110.2.2.2 = 230 then (if bt110.2.1 = 2 then (if bt110.2.2.1 = 3 then (if bt116.2 = 0 then (if bt116.1.toList = ([97, 32, 34, 98, 32, 99, 34, 10, 100, 10] : List UInt8) then (if bt121.2 = 1 then ((lex_Quote.f (⟨#[34]⟩ : ByteArray)).bind fun t127 => (if t127.toList = ([34, 92, 34, 34] : List UInt8) then ((lex_Word.f (⟨#[120]⟩ : ByteArray)).bind fun t128 => (if t128 = true then ((lex_Word.f (⟨#[120, 32, 121]⟩ : ByteArray)).bind fun t129 => (some (!t129))) else (none))) else (none))) else (none)) else (none)) else (none)) else (none)) else (none)) else (none)) else (none))) else (none)) else (none)) else (none))))) = some r := H
  have A1 := Aside0.mk A10
  clear A10
  replace H := Option.bind_eq_some_iff.mp H
  obtain ⟨⟨t110, t111, t112, t113⟩, A20, H⟩ := H
  replace H : ((lex_Show.f t104).bind fun bt116 => ((lex_Show.f (([(⟨3, 0, 0, (⟨#[]⟩ : ByteArray)⟩ : S36)] : List (S36)))).bind fun bt121 => (if t107 = 0 then (if t105 = 2 then (if t106 = 0 then ((warrantorref23_Same.f t104 (([(⟨1, 1, 1, (⟨#[97]⟩ : ByteArray)⟩ : S36), (⟨2, 1, 3, (⟨#[98, 32, 99]⟩ : ByteArray)⟩ : S36), (⟨3, 1, 8, (⟨#[]⟩ : ByteArray)⟩ : S36), (⟨1, 2, 1, (⟨#[100]⟩ : ByteArray)⟩ : S36), (⟨3, 2, 2, (⟨#[]⟩ : ByteArray)⟩ : S36)] : List (S36))) true).bind fun t126 => (if t126 = true then (if t113 = 230 then (if t111 = 2 then (if t112 = 3 then (if bt116.2 = 0 then (if bt116.1.toList = ([97, 32, 34, 98, 32, 99, 34, 10, 100, 10] : List UInt8) then (if bt121.2 = 1 then ((lex_Quote.f (⟨#[34]⟩ : ByteArray)).bind fun t127 => (if t127.toList = ([34, 92, 34, 34] : List UInt8) then ((lex_Word.f (⟨#[120]⟩ : ByteArray)).bind fun t128 => (if t128 = true then ((lex_Word.f (⟨#[120, 32, 121]⟩ : ByteArray)).bind fun t129 => (some (!t129))) else (none))) else (none))) else (none)) else (none)) else (none)) else (none)) else (none)) else (none)) else (none))) else (none)) else (none)) else (none)))) = some r := H
  have A2 := Aside0.mk A20
  clear A20
  replace H := Option.bind_eq_some_iff.mp H
  obtain ⟨⟨t116, t117⟩, A30, H⟩ := H
  replace H : ((lex_Show.f (([(⟨3, 0, 0, (⟨#[]⟩ : ByteArray)⟩ : S36)] : List (S36)))).bind fun bt121 => (if t107 = 0 then (if t105 = 2 then (if t106 = 0 then ((warrantorref23_Same.f t104 (([(⟨1, 1, 1, (⟨#[97]⟩ : ByteArray)⟩ : S36), (⟨2, 1, 3, (⟨#[98, 32, 99]⟩ : ByteArray)⟩ : S36), (⟨3, 1, 8, (⟨#[]⟩ : ByteArray)⟩ : S36), (⟨1, 2, 1, (⟨#[100]⟩ : ByteArray)⟩ : S36), (⟨3, 2, 2, (⟨#[]⟩ : ByteArray)⟩ : S36)] : List (S36))) true).bind fun t126 => (if t126 = true then (if t113 = 230 then (if t111 = 2 then (if t112 = 3 then (if t117 = 0 then (if t116.toList = ([97, 32, 34, 98, 32, 99, 34, 10, 100, 10] : List UInt8) then (if bt121.2 = 1 then ((lex_Quote.f (⟨#[34]⟩ : ByteArray)).bind fun t127 => (if t127.toList = ([34, 92, 34, 34] : List UInt8) then ((lex_Word.f (⟨#[120]⟩ : ByteArray)).bind fun t128 => (if t128 = true then ((lex_Word.f (⟨#[120, 32, 121]⟩ : ByteArray)).bind fun t129 => (some (!t129))) else (none))) else (none))) else (none)) else (none)) else (none)) else (none)) else (none)) else (none)) else (none))) else (none)) else (none)) else (none))) = some r := H
  have A3 := Aside0.mk A30
  clear A30
  obtain ⟨y118, hy118⟩ : ∃ y_ : List (S36), y_ = (([(⟨3, 0, 0, (⟨#[]⟩ : ByteArray)⟩ : S36)] : List (S36))) := ⟨_, rfl⟩
  replace H : ((lex_Show.f y118).bind fun bt121 => (if t107 = 0 then (if t105 = 2 then (if t106 = 0 then ((warrantorref23_Same.f t104 (([(⟨1, 1, 1, (⟨#[97]⟩ : ByteArray)⟩ : S36), (⟨2, 1, 3, (⟨#[98, 32, 99]⟩ : ByteArray)⟩ : S36), (⟨3, 1, 8, (⟨#[]⟩ : ByteArray)⟩ : S36), (⟨1, 2, 1, (⟨#[100]⟩ : ByteArray)⟩ : S36), (⟨3, 2, 2, (⟨#[]⟩ : ByteArray)⟩ : S36)] : List (S36))) true).bind fun t126 => (if t126 = true then (if t113 = 230 then (if t111 = 2 then (if t112 = 3 then (if t117 = 0 then (if t116.toList = ([97, 32, 34, 98, 32, 99, 34, 10, 100, 10] : List UInt8) then (if bt121.2 = 1 then ((lex_Quote.f (⟨#[34]⟩ : ByteArray)).bind fun t127 => (if t127.toList = ([34, 92, 34, 34] : List UInt8) then ((lex_Word.f (⟨#[120]⟩ : ByteArray)).bind fun t128 => (if t128 = true then ((lex_Word.f (⟨#[120, 32, 121]⟩ : ByteArray)).bind fun t129 => (some (!t129))) else (none))) else (none))) else (none)) else (none)) else (none)) else (none)) else (none)) else (none)) else (none))) else (none)) else (none)) else (none))) = some r := by first | (rw [hy118]; with_reducible exact H) | (have H2_ := (Option.bind_some _ _).symm.trans H; rw [hy118]; with_reducible exact H2_) | (have H2_ := (Option.bind_some _ _).symm.trans H; with_reducible exact H2_) | with_reducible exact H | (rw [hy118]; exact H) | exact H
  have Ny118 := Aside0.mk hy118
  clear hy118
  replace H := Option.bind_eq_some_iff.mp H
  obtain ⟨⟨t121, t122⟩, A40, H⟩ := H
  replace H : (if t107 = 0 then (if t105 = 2 then (if t106 = 0 then ((warrantorref23_Same.f t104 (([(⟨1, 1, 1, (⟨#[97]⟩ : ByteArray)⟩ : S36), (⟨2, 1, 3, (⟨#[98, 32, 99]⟩ : ByteArray)⟩ : S36), (⟨3, 1, 8, (⟨#[]⟩ : ByteArray)⟩ : S36), (⟨1, 2, 1, (⟨#[100]⟩ : ByteArray)⟩ : S36), (⟨3, 2, 2, (⟨#[]⟩ : ByteArray)⟩ : S36)] : List (S36))) true).bind fun t126 => (if t126 = true then (if t113 = 230 then (if t111 = 2 then (if t112 = 3 then (if t117 = 0 then (if t116.toList = ([97, 32, 34, 98, 32, 99, 34, 10, 100, 10] : List UInt8) then (if t122 = 1 then ((lex_Quote.f (⟨#[34]⟩ : ByteArray)).bind fun t127 => (if t127.toList = ([34, 92, 34, 34] : List UInt8) then ((lex_Word.f (⟨#[120]⟩ : ByteArray)).bind fun t128 => (if t128 = true then ((lex_Word.f (⟨#[120, 32, 121]⟩ : ByteArray)).bind fun t129 => (some (!t129))) else (none))) else (none))) else (none)) else (none)) else (none)) else (none)) else (none)) else (none)) else (none))) else (none)) else (none)) else (none)) = some r := H
  have A4 := Aside0.mk A40
  clear A40
  obtain ⟨y123, hy123⟩ : ∃ y_ : List (S36), y_ = (([(⟨1, 1, 1, (⟨#[97]⟩ : ByteArray)⟩ : S36), (⟨2, 1, 3, (⟨#[98, 32, 99]⟩ : ByteArray)⟩ : S36), (⟨3, 1, 8, (⟨#[]⟩ : ByteArray)⟩ : S36), (⟨1, 2, 1, (⟨#[100]⟩ : ByteArray)⟩ : S36), (⟨3, 2, 2, (⟨#[]⟩ : ByteArray)⟩ : S36)] : List (S36))) := ⟨_, rfl⟩
  replace H : (if t107 = 0 then (if t105 = 2 then (if t106 = 0 then ((warrantorref23_Same.f t104 y123 true).bind fun t126 => (if t126 = true then (if t113 = 230 then (if t111 = 2 then (if t112 = 3 then (if t117 = 0 then (if t116.toList = ([97, 32, 34, 98, 32, 99, 34, 10, 100, 10] : List UInt8) then (if t122 = 1 then ((lex_Quote.f (⟨#[34]⟩ : ByteArray)).bind fun t127 => (if t127.toList = ([34, 92, 34, 34] : List UInt8) then ((lex_Word.f (⟨#[120]⟩ : ByteArray)).bind fun t128 => (if t128 = true then ((lex_Word.f (⟨#[120, 32, 121]⟩ : ByteArray)).bind fun t129 => (some (!t129))) else (none))) else (none))) else (none)) else (none)) else (none)) else (none)) else (none)) else (none)) else (none))) else (none)) else (none)) else (none)) = some r := by first | (rw [hy123]; with_reducible exact H) | (have H2_ := (Option.bind_some _ _).symm.trans H; rw [hy123]; with_reducible exact H2_) | (have H2_ := (Option.bind_some _ _).symm.trans H; with_reducible exact H2_) | with_reducible exact H | (rw [hy123]; exact H) | exact H
  have Ny123 := Aside0.mk hy123
  clear hy123
  by_cases c5 : t107 = 0
  · rw [if_pos c5] at H
    have c5b0 : (t107 == 0) = true := beq_iff_eq.mpr c5
    have c5b1 : (t107 != 0) = false := bne_eq_false_iff_eq.mpr c5
    clear c5
    by_cases c6 : t105 = 2
    · rw [if_pos c6] at H
      have c6b0 : (t105 == 2) = true := beq_iff_eq.mpr c6
      have c6b1 : (t105 != 2) = false := bne_eq_false_iff_eq.mpr c6
      clear c6
      by_cases c7 : t106 = 0
      · rw [if_pos c7] at H
        have c7b0 : (t106 == 0) = true := beq_iff_eq.mpr c7
        have c7b1 : (t106 != 0) = false := bne_eq_false_iff_eq.mpr c7
        clear c7
        replace H := Option.bind_eq_some_iff.mp H
        obtain ⟨t126, A80, H⟩ := H
        replace H : (if t126 = true then (if t113 = 230 then (if t111 = 2 then (if t112 = 3 then (if t117 = 0 then (if t116.toList = ([97, 32, 34, 98, 32, 99, 34, 10, 100, 10] : List UInt8) then (if t122 = 1 then ((lex_Quote.f (⟨#[34]⟩ : ByteArray)).bind fun t127 => (if t127.toList = ([34, 92, 34, 34] : List UInt8) then ((lex_Word.f (⟨#[120]⟩ : ByteArray)).bind fun t128 => (if t128 = true then ((lex_Word.f (⟨#[120, 32, 121]⟩ : ByteArray)).bind fun t129 => (some (!t129))) else (none))) else (none))) else (none)) else (none)) else (none)) else (none)) else (none)) else (none)) else (none)) = some r := H
        have A8 := Aside0.mk A80
        clear A80
        by_cases c9 : t126 = true
        · subst c9
          have H1 : (if t113 = 230 then (if t111 = 2 then (if t112 = 3 then (if t117 = 0 then (if t116.toList = ([97, 32, 34, 98, 32, 99, 34, 10, 100, 10] : List UInt8) then (if t122 = 1 then ((lex_Quote.f (⟨#[34]⟩ : ByteArray)).bind fun t127 => (if t127.toList = ([34, 92, 34, 34] : List UInt8) then ((lex_Word.f (⟨#[120]⟩ : ByteArray)).bind fun t128 => (if t128 = true then ((lex_Word.f (⟨#[120, 32, 121]⟩ : ByteArray)).bind fun t129 => (some (!t129))) else (none))) else (none))) else (none)) else (none)) else (none)) else (none)) else (none)) else (none)) = some r := by rw [if_pos rfl] at H; exact H
          clear H
          have H := H1
          clear H1
          by_cases c10 : t113 = 230
          · rw [if_pos c10] at H
            have c10b0 : (t113 == 230) = true := beq_iff_eq.mpr c10
            have c10b1 : (t113 != 230) = false := bne_eq_false_iff_eq.mpr c10
            clear c10
            by_cases c11 : t111 = 2
            · rw [if_pos c11] at H
              have c11b0 : (t111 == 2) = true := beq_iff_eq.mpr c11
              have c11b1 : (t111 != 2) = false := bne_eq_false_iff_eq.mpr c11
              clear c11
              by_cases c12 : t112 = 3
              · rw [if_pos c12] at H
                have c12b0 : (t112 == 3) = true := beq_iff_eq.mpr c12
                have c12b1 : (t112 != 3) = false := bne_eq_false_iff_eq.mpr c12
                clear c12
                by_cases c13 : t117 = 0
                · rw [if_pos c13] at H
                  have c13b0 : (t117 == 0) = true := beq_iff_eq.mpr c13
                  have c13b1 : (t117 != 0) = false := bne_eq_false_iff_eq.mpr c13
                  clear c13
                  by_cases c14 : t116.toList = ([97, 32, 34, 98, 32, 99, 34, 10, 100, 10] : List UInt8)
                  · rw [if_pos c14] at H
                    have c14b0 : (t116.toList == ([97, 32, 34, 98, 32, 99, 34, 10, 100, 10] : List UInt8)) = true := beq_iff_eq.mpr c14
                    have c14b1 : (t116.toList != ([97, 32, 34, 98, 32, 99, 34, 10, 100, 10] : List UInt8)) = false := bne_eq_false_iff_eq.mpr c14
                    clear c14
                    by_cases c15 : t122 = 1
                    · rw [if_pos c15] at H
                      have c15b0 : (t122 == 1) = true := beq_iff_eq.mpr c15
                      have c15b1 : (t122 != 1) = false := bne_eq_false_iff_eq.mpr c15
                      clear c15
                      replace H := Option.bind_eq_some_iff.mp H
                      obtain ⟨t127, A160, H⟩ := H
                      replace H : (if t127.toList = ([34, 92, 34, 34] : List UInt8) then ((lex_Word.f (⟨#[120]⟩ : ByteArray)).bind fun t128 => (if t128 = true then ((lex_Word.f (⟨#[120, 32, 121]⟩ : ByteArray)).bind fun t129 => (some (!t129))) else (none))) else (none)) = some r := H
                      have A16 := Aside0.mk A160
                      clear A160
                      by_cases c17 : t127.toList = ([34, 92, 34, 34] : List UInt8)
                      · rw [if_pos c17] at H
                        have c17b0 : (t127.toList == ([34, 92, 34, 34] : List UInt8)) = true := beq_iff_eq.mpr c17
                        have c17b1 : (t127.toList != ([34, 92, 34, 34] : List UInt8)) = false := bne_eq_false_iff_eq.mpr c17
                        clear c17
                        replace H := Option.bind_eq_some_iff.mp H
                        obtain ⟨t128, A180, H⟩ := H
                        replace H : (if t128 = true then ((lex_Word.f (⟨#[120, 32, 121]⟩ : ByteArray)).bind fun t129 => (some (!t129))) else (none)) = some r := H
                        have A18 := Aside0.mk A180
                        clear A180
                        by_cases c19 : t128 = true
                        · subst c19
                          have H1 : ((lex_Word.f (⟨#[120, 32, 121]⟩ : ByteArray)).bind fun t129 => (some (!t129))) = some r := by rw [if_pos rfl] at H; exact H
                          clear H
                          have H := H1
                          clear H1
                          replace H := Option.bind_eq_some_iff.mp H
                          obtain ⟨t129, A200, H⟩ := H
                          replace H : (some (!t129)) = some r := H
                          have A20 := Aside0.mk A200
                          clear A200
                          obtain rfl := Option.some.inj H
                          go_enter Try.func8, Try.ntmps8
                          go_wp2_with (first | ((with_reducible refine gate_callee (f := 9) rfl ?_); refine goesL_ (some 15) rfl rfl Try.func9 (by kernel_rfl) rfl #[.string (⟨#[97, 32, 34, 98, 32, 99, 34, 10, 100, 10]⟩ : ByteArray)] rfl (by (try simp only [List.map_toArray, List.map_cons, List.map_nil]); first | done | rfl | (simp only [List.length_drop, List.length_take]; rfl)) ?_; (with_reducible refine (lex_Tokens.calls (⟨#[97, 32, 34, 98, 32, 99, 34, 10, 100, 10]⟩ : ByteArray) t104 t105 t106 t107 _ A1.out).mono ?_); rintro e w21 ⟨v108, rfl, ho0, hb⟩; refine ⟨_, rfl, ?_⟩; have n0_ := Aside0.mk (Kd.R_lower ho0 (below_size (by repeat (first | (with_reducible first | exact HB.out | apply below_alloc | apply pw_below_drewN | apply below_drew1) | exact HB.out)))); have n1_ := Aside0.mk (below_step (by repeat (first | (with_reducible first | exact HB.out | apply below_alloc | apply pw_below_drewN | apply below_drew1) | exact HB.out)) hb); clear HB; have HO109 := n0_; have HB := n1_; clear n0_ n1_; (try clear hb); (try clear hb2); (try clear hk); (try clear hi); (try clear ho0)) | ((with_reducible refine gate_callee (f := 9) rfl ?_); refine goesL_ (some 21) rfl rfl Try.func9 (by kernel_rfl) rfl #[.string (⟨#[97, 98, 10, 99, 32, 32, 100, 10]⟩ : ByteArray)] rfl (by (try simp only [List.map_toArray, List.map_cons, List.map_nil]); first | done | rfl | (simp only [List.length_drop, List.length_take]; rfl)) ?_; (with_reducible refine (lex_Tokens.calls (⟨#[97, 98, 10, 99, 32, 32, 100, 10]⟩ : ByteArray) t110 t111 t112 t113 _ A2.out).mono ?_); rintro e w22 ⟨v114, rfl, ho0, hb⟩; refine ⟨_, rfl, ?_⟩; have n0_ := Aside0.mk (Kd.R_elder' (by (with_reducible repeat (first | apply Kd.R_alloc | apply Kd.R_drewN | apply Kd.R_drew)); exact HO109.out) (Kd.R_base ho0) hb); have n1_ := Aside0.mk (Kd.R_lower (Kd.R_new' ho0 (Kd.R_lt (by (with_reducible repeat (first | apply Kd.R_alloc | apply Kd.R_drewN | apply Kd.R_drew)); exact HO109.out))) (below_size (by repeat (first | (with_reducible first | exact HB.out | apply below_alloc | apply pw_below_drewN | apply below_drew1) | exact HB.out)))); have n2_ := Aside0.mk (below_step (by repeat (first | (with_reducible first | exact HB.out | apply below_alloc | apply pw_below_drewN | apply below_drew1) | exact HB.out)) hb); clear HO109; clear HB; have HO109 := n0_; have HO115 := n1_; have HB := n2_; clear n0_ n1_ n2_; (try clear hb); (try clear hb2); (try clear hk); (try clear hi); (try clear ho0); obtain ⟨Ao23, co23, eo23⟩ := Kd.R_slice HO109.out; subst eo23) | ((with_reducible refine gate_callee (f := 12) rfl ?_); refine goesL_ (some 28) rfl rfl Try.func12 (by kernel_rfl) rfl #[.slice Ao23 t104.length co23] rfl (by (try simp only [List.map_toArray, List.map_cons, List.map_nil]); first | done | rfl | (simp only [List.length_drop, List.length_take]; rfl)) ?_; (with_reducible refine (lex_Show.calls _ _ t104 t116 t117 _ ?side1 ?side2 A3.out).mono ?_); (case side1 => repeat (first | exact (Kd.R_reads' HO109.out).2.2 | (with_reducible refine Kd.C_alloc ?_ _) | (with_reducible refine Kd.C_drewN ?_ _) | (with_reducible refine Kd.C_drew ?_))); (case side2 => exact (Kd.R_reads' HO109.out).2.1); rintro e w24 ⟨rfl, hb⟩; refine ⟨_, rfl, ?_⟩; have n0_ := Aside0.mk (Kd.R_below (by (with_reducible repeat (first | apply Kd.R_alloc | apply Kd.R_drewN | apply Kd.R_drew)); exact HO109.out) hb); have n1_ := Aside0.mk (Kd.R_below (by (with_reducible repeat (first | apply Kd.R_alloc | apply Kd.R_drewN | apply Kd.R_drew)); exact HO115.out) hb); have n2_ := Aside0.mk (below_step (by repeat (first | (with_reducible first | exact HB.out | apply below_alloc | apply pw_below_drewN | apply below_drew1) | exact HB.out)) hb); clear HO109; clear HO115; clear HB; have HO109 := n0_; have HO115 := n1_; have HB := n2_; clear n0_ n1_ n2_; (try clear hb); (try clear hb2); (try clear hk); (try clear hi)) | ((with_reducible refine gate_dst (N := 33) rfl ?_); refine Kd.R_lit k36 _ 36 ?hg (N := 33) ?hd (xs := ([(⟨3, 0, 0, (⟨#[]⟩ : ByteArray)⟩ : S36)] : List (S36))) (inner := [.int .i64 3, .int .i64 0, .int .i64 0, .string (⟨#[]⟩ : ByteArray)]) (ok := fun _ => True) (okp := fun _ => True) ?hr ?hp (fun _ hk => hk) trivial (Below.refl _ _) (Nat.le_refl _) (by simp) ?_; (case hd => rfl); (case hg => rfl); (case hr => first | (go_simp; done) | (go_simp; rfl)); (case hp => exact (Reps.c4 (show Kd.M k36 _ _ _ (⟨3, 0, 0, (⟨#[]⟩ : ByteArray)⟩ : S36) [.int .i64 3, .int .i64 0, .int .i64 0, .string (⟨#[]⟩ : ByteArray)] from (k36_mkM _ _ _ (⟨3, 0, 0, (⟨#[]⟩ : ByteArray)⟩ : S36) )) (Reps.none _ _))); intro v119 w25 ho26 hb hg_ hnew_; clear hg_ hnew_; (first | rw [← Ny118.out] at ho26 | (simp only [Int.reduceToNat] at ho26; rw [← Ny118.out] at ho26)); have n0_ := Aside0.mk (Kd.R_elder' (by (with_reducible repeat (first | apply Kd.R_alloc | apply Kd.R_drewN | apply Kd.R_drew)); exact HO109.out) (Kd.R_base ho26) hb); have n1_ := Aside0.mk (Kd.R_elder' (by (with_reducible repeat (first | apply Kd.R_alloc | apply Kd.R_drewN | apply Kd.R_drew)); exact HO115.out) (Kd.R_base ho26) hb); have n2_ := Aside0.mk (Kd.R_lower (Kd.R_new' (Kd.R_new' ho26 (Kd.R_lt (by (with_reducible repeat (first | apply Kd.R_alloc | apply Kd.R_drewN | apply Kd.R_drew)); exact HO109.out))) (Kd.R_lt (by (with_reducible repeat (first | apply Kd.R_alloc | apply Kd.R_drewN | apply Kd.R_drew)); exact HO115.out))) (below_size (by repeat (first | (with_reducible first | exact HB.out | apply below_alloc | apply pw_below_drewN | apply below_drew1) | exact HB.out)))); have n3_ := Aside0.mk (below_step (by repeat (first | (with_reducible first | exact HB.out | apply below_alloc | apply pw_below_drewN | apply below_drew1) | exact HB.out)) hb); clear HO109; clear HO115; clear HB; have HO109 := n0_; have HO115 := n1_; have HO120 := n2_; have HB := n3_; clear n0_ n1_ n2_ n3_; clear hb ho26; obtain ⟨Ao27, co27, eo27⟩ := Kd.R_slice HO120.out; subst eo27) | ((with_reducible refine gate_callee (f := 12) rfl ?_); refine goesL_ (some 34) rfl rfl Try.func12 (by kernel_rfl) rfl #[.slice Ao27 y118.length co27] rfl (by (try simp only [List.map_toArray, List.map_cons, List.map_nil]); first | done | rfl | (simp only [List.length_drop, List.length_take]; rfl)) ?_; (with_reducible refine (lex_Show.calls _ _ y118 t121 t122 _ ?side1 ?side2 A4.out).mono ?_); (case side1 => repeat (first | exact (Kd.R_reads' HO120.out).2.2 | (with_reducible refine Kd.C_alloc ?_ _) | (with_reducible refine Kd.C_drewN ?_ _) | (with_reducible refine Kd.C_drew ?_))); (case side2 => exact (Kd.R_reads' HO120.out).2.1); rintro e w28 ⟨rfl, hb⟩; refine ⟨_, rfl, ?_⟩; have n0_ := Aside0.mk (Kd.R_below (by (with_reducible repeat (first | apply Kd.R_alloc | apply Kd.R_drewN | apply Kd.R_drew)); exact HO109.out) hb); have n1_ := Aside0.mk (Kd.R_below (by (with_reducible repeat (first | apply Kd.R_alloc | apply Kd.R_drewN | apply Kd.R_drew)); exact HO115.out) hb); have n2_ := Aside0.mk (Kd.R_below (by (with_reducible repeat (first | apply Kd.R_alloc | apply Kd.R_drewN | apply Kd.R_drew)); exact HO120.out) hb); have n3_ := Aside0.mk (below_step (by repeat (first | (with_reducible first | exact HB.out | apply below_alloc | apply pw_below_drewN | apply below_drew1) | exact HB.out)) hb); clear HO109; clear HO115; clear HO120; clear HB; have HO109 := n0_; have HO115 := n1_; have HO120 := n2_; have HB := n3_; clear n0_ n1_ n2_ n3_; (try clear hb); (try clear hb2); (try clear hk); (try clear hi)) | ((with_reducible refine gate_dst (N := 42) rfl ?_); refine Kd.R_lit k36 _ 36 ?hg (N := 42) ?hd (xs := ([(⟨1, 1, 1, (⟨#[97]⟩ : ByteArray)⟩ : S36), (⟨2, 1, 3, (⟨#[98, 32, 99]⟩ : ByteArray)⟩ : S36), (⟨3, 1, 8, (⟨#[]⟩ : ByteArray)⟩ : S36), (⟨1, 2, 1, (⟨#[100]⟩ : ByteArray)⟩ : S36), (⟨3, 2, 2, (⟨#[]⟩ : ByteArray)⟩ : S36)] : List (S36))) (inner := [.int .i64 1, .int .i64 1, .int .i64 1, .string (⟨#[97]⟩ : ByteArray), .int .i64 2, .int .i64 1, .int .i64 3, .string (⟨#[98, 32, 99]⟩ : ByteArray), .int .i64 3, .int .i64 1, .int .i64 8, .string (⟨#[]⟩ : ByteArray), .int .i64 1, .int .i64 2, .int .i64 1, .string (⟨#[100]⟩ : ByteArray), .int .i64 3, .int .i64 2, .int .i64 2, .string (⟨#[]⟩ : ByteArray)]) (ok := fun _ => True) (okp := fun _ => True) ?hr ?hp (fun _ hk => hk) trivial (Below.refl _ _) (Nat.le_refl _) (by simp) ?_; (case hd => rfl); (case hg => rfl); (case hr => first | (go_simp; done) | (go_simp; rfl)); (case hp => exact (Reps.c4 (show Kd.M k36 _ _ _ (⟨1, 1, 1, (⟨#[97]⟩ : ByteArray)⟩ : S36) [.int .i64 1, .int .i64 1, .int .i64 1, .string (⟨#[97]⟩ : ByteArray)] from (k36_mkM _ _ _ (⟨1, 1, 1, (⟨#[97]⟩ : ByteArray)⟩ : S36) )) (Reps.c4 (show Kd.M k36 _ _ _ (⟨2, 1, 3, (⟨#[98, 32, 99]⟩ : ByteArray)⟩ : S36) [.int .i64 2, .int .i64 1, .int .i64 3, .string (⟨#[98, 32, 99]⟩ : ByteArray)] from (k36_mkM _ _ _ (⟨2, 1, 3, (⟨#[98, 32, 99]⟩ : ByteArray)⟩ : S36) )) (Reps.c4 (show Kd.M k36 _ _ _ (⟨3, 1, 8, (⟨#[]⟩ : ByteArray)⟩ : S36) [.int .i64 3, .int .i64 1, .int .i64 8, .string (⟨#[]⟩ : ByteArray)] from (k36_mkM _ _ _ (⟨3, 1, 8, (⟨#[]⟩ : ByteArray)⟩ : S36) )) (Reps.c4 (show Kd.M k36 _ _ _ (⟨1, 2, 1, (⟨#[100]⟩ : ByteArray)⟩ : S36) [.int .i64 1, .int .i64 2, .int .i64 1, .string (⟨#[100]⟩ : ByteArray)] from (k36_mkM _ _ _ (⟨1, 2, 1, (⟨#[100]⟩ : ByteArray)⟩ : S36) )) (Reps.c4 (show Kd.M k36 _ _ _ (⟨3, 2, 2, (⟨#[]⟩ : ByteArray)⟩ : S36) [.int .i64 3, .int .i64 2, .int .i64 2, .string (⟨#[]⟩ : ByteArray)] from (k36_mkM _ _ _ (⟨3, 2, 2, (⟨#[]⟩ : ByteArray)⟩ : S36) )) (Reps.none _ _))))))); intro v124 w29 ho30 hb hg_ hnew_; clear hg_ hnew_; (first | rw [← Ny123.out] at ho30 | (simp only [Int.reduceToNat] at ho30; rw [← Ny123.out] at ho30)); have n0_ := Aside0.mk (Kd.R_elder' (by (with_reducible repeat (first | apply Kd.R_alloc | apply Kd.R_drewN | apply Kd.R_drew)); exact HO109.out) (Kd.R_base ho30) hb); have n1_ := Aside0.mk (Kd.R_elder' (by (with_reducible repeat (first | apply Kd.R_alloc | apply Kd.R_drewN | apply Kd.R_drew)); exact HO115.out) (Kd.R_base ho30) hb); have n2_ := Aside0.mk (Kd.R_elder' (by (with_reducible repeat (first | apply Kd.R_alloc | apply Kd.R_drewN | apply Kd.R_drew)); exact HO120.out) (Kd.R_base ho30) hb); have n3_ := Aside0.mk (Kd.R_lower (Kd.R_new' (Kd.R_new' (Kd.R_new' ho30 (Kd.R_lt (by (with_reducible repeat (first | apply Kd.R_alloc | apply Kd.R_drewN | apply Kd.R_drew)); exact HO109.out))) (Kd.R_lt (by (with_reducible repeat (first | apply Kd.R_alloc | apply Kd.R_drewN | apply Kd.R_drew)); exact HO115.out))) (Kd.R_lt (by (with_reducible repeat (first | apply Kd.R_alloc | apply Kd.R_drewN | apply Kd.R_drew)); exact HO120.out))) (below_size (by repeat (first | (with_reducible first | exact HB.out | apply below_alloc | apply pw_below_drewN | apply below_drew1) | exact HB.out)))); have n4_ := Aside0.mk (below_step (by repeat (first | (with_reducible first | exact HB.out | apply below_alloc | apply pw_below_drewN | apply below_drew1) | exact HB.out)) hb); clear HO109; clear HO115; clear HO120; clear HB; have HO109 := n0_; have HO115 := n1_; have HO120 := n2_; have HO125 := n3_; have HB := n4_; clear n0_ n1_ n2_ n3_ n4_; clear hb ho30; obtain ⟨Ao31, co31, eo31⟩ := Kd.R_slice HO125.out; subst eo31) | (go_at_call 11; (with_reducible refine (warrantorref23_Same.calls _ _ t104 _ _ y123 true true _ ?side1 ?side2 ?side3 ?side4 A8.out).mono ?_); (case side1 => repeat (first | exact (Kd.R_reads' HO109.out).2.2 | (with_reducible refine Kd.C_alloc ?_ _) | (with_reducible refine Kd.C_drewN ?_ _) | (with_reducible refine Kd.C_drew ?_))); (case side2 => exact (Kd.R_reads' HO109.out).2.1); (case side3 => repeat (first | exact (Kd.R_reads' HO125.out).2.2 | (with_reducible refine Kd.C_alloc ?_ _) | (with_reducible refine Kd.C_drewN ?_ _) | (with_reducible refine Kd.C_drew ?_))); (case side4 => exact (Kd.R_reads' HO125.out).2.1); rintro e w32 ⟨rfl, hb⟩; have n0_ := Aside0.mk (Kd.R_below (by (with_reducible repeat (first | apply Kd.R_alloc | apply Kd.R_drewN | apply Kd.R_drew)); exact HO109.out) hb); have n1_ := Aside0.mk (Kd.R_below (by (with_reducible repeat (first | apply Kd.R_alloc | apply Kd.R_drewN | apply Kd.R_drew)); exact HO115.out) hb); have n2_ := Aside0.mk (Kd.R_below (by (with_reducible repeat (first | apply Kd.R_alloc | apply Kd.R_drewN | apply Kd.R_drew)); exact HO120.out) hb); have n3_ := Aside0.mk (Kd.R_below (by (with_reducible repeat (first | apply Kd.R_alloc | apply Kd.R_drewN | apply Kd.R_drew)); exact HO125.out) hb); have n4_ := Aside0.mk (below_step (by repeat (first | (with_reducible first | exact HB.out | apply below_alloc | apply pw_below_drewN | apply below_drew1) | exact HB.out)) hb); clear HO109; clear HO115; clear HO120; clear HO125; clear HB; have HO109 := n0_; have HO115 := n1_; have HO120 := n2_; have HO125 := n3_; have HB := n4_; clear n0_ n1_ n2_ n3_ n4_; (try clear hb); (try clear hb2); (try clear hk); (try clear hi)) | (go_at_call 15; (with_reducible refine (lex_Quote.calls (⟨#[34]⟩ : ByteArray) t127 _ A16.out).mono ?_); rintro e w33 ⟨rfl, hb⟩; have n0_ := Aside0.mk (Kd.R_below (by (with_reducible repeat (first | apply Kd.R_alloc | apply Kd.R_drewN | apply Kd.R_drew)); exact HO109.out) hb); have n1_ := Aside0.mk (Kd.R_below (by (with_reducible repeat (first | apply Kd.R_alloc | apply Kd.R_drewN | apply Kd.R_drew)); exact HO115.out) hb); have n2_ := Aside0.mk (Kd.R_below (by (with_reducible repeat (first | apply Kd.R_alloc | apply Kd.R_drewN | apply Kd.R_drew)); exact HO120.out) hb); have n3_ := Aside0.mk (Kd.R_below (by (with_reducible repeat (first | apply Kd.R_alloc | apply Kd.R_drewN | apply Kd.R_drew)); exact HO125.out) hb); have n4_ := Aside0.mk (below_step (by repeat (first | (with_reducible first | exact HB.out | apply below_alloc | apply pw_below_drewN | apply below_drew1) | exact HB.out)) hb); clear HO109; clear HO115; clear HO120; clear HO125; clear HB; have HO109 := n0_; have HO115 := n1_; have HO120 := n2_; have HO125 := n3_; have HB := n4_; clear n0_ n1_ n2_ n3_ n4_; (try clear hb); (try clear hb2); (try clear hk); (try clear hi)) | (go_at_call 17; (with_reducible refine (lex_Word.calls (⟨#[120]⟩ : ByteArray) true _ A18.out).mono ?_); rintro e w34 ⟨rfl, hb⟩; have n0_ := Aside0.mk (Kd.R_below (by (with_reducible repeat (first | apply Kd.R_alloc | apply Kd.R_drewN | apply Kd.R_drew)); exact HO109.out) hb); have n1_ := Aside0.mk (Kd.R_below (by (with_reducible repeat (first | apply Kd.R_alloc | apply Kd.R_drewN | apply Kd.R_drew)); exact HO115.out) hb); have n2_ := Aside0.mk (Kd.R_below (by (with_reducible repeat (first | apply Kd.R_alloc | apply Kd.R_drewN | apply Kd.R_drew)); exact HO120.out) hb); have n3_ := Aside0.mk (Kd.R_below (by (with_reducible repeat (first | apply Kd.R_alloc | apply Kd.R_drewN | apply Kd.R_drew)); exact HO125.out) hb); have n4_ := Aside0.mk (below_step (by repeat (first | (with_reducible first | exact HB.out | apply below_alloc | apply pw_below_drewN | apply below_drew1) | exact HB.out)) hb); clear HO109; clear HO115; clear HO120; clear HO125; clear HB; have HO109 := n0_; have HO115 := n1_; have HO120 := n2_; have HO125 := n3_; have HB := n4_; clear n0_ n1_ n2_ n3_ n4_; (try clear hb); (try clear hb2); (try clear hk); (try clear hi)) | (go_at_call 17; (with_reducible refine (lex_Word.calls (⟨#[120, 32, 121]⟩ : ByteArray) t129 _ A20.out).mono ?_); rintro e w35 ⟨rfl, hb⟩; have n0_ := Aside0.mk (Kd.R_below (by (with_reducible repeat (first | apply Kd.R_alloc | apply Kd.R_drewN | apply Kd.R_drew)); exact HO109.out) hb); have n1_ := Aside0.mk (Kd.R_below (by (with_reducible repeat (first | apply Kd.R_alloc | apply Kd.R_drewN | apply Kd.R_drew)); exact HO115.out) hb); have n2_ := Aside0.mk (Kd.R_below (by (with_reducible repeat (first | apply Kd.R_alloc | apply Kd.R_drewN | apply Kd.R_drew)); exact HO120.out) hb); have n3_ := Aside0.mk (Kd.R_below (by (with_reducible repeat (first | apply Kd.R_alloc | apply Kd.R_drewN | apply Kd.R_drew)); exact HO125.out) hb); have n4_ := Aside0.mk (below_step (by repeat (first | (with_reducible first | exact HB.out | apply below_alloc | apply pw_below_drewN | apply below_drew1) | exact HB.out)) hb); clear HO109; clear HO115; clear HO120; clear HO125; clear HB; have HO109 := n0_; have HO115 := n1_; have HO120 := n2_; have HO125 := n3_; have HB := n4_; clear n0_ n1_ n2_ n3_ n4_; (try clear hb); (try clear hb2); (try clear hk); (try clear hi)))
                          go_ret
                          exact ⟨by first | rfl | (simp [errW_none, errW_some] <;> rfl) | (simp [*, errW_none, errW_some] <;> rfl), by repeat (first | (with_reducible first | exact HB.out | apply below_alloc | apply pw_below_drewN | apply below_drew1) | exact HB.out)⟩
                        · replace c19 := Bool.eq_false_iff.mpr c19
                          subst c19
                          have H1 : (none) = some r := by rw [if_neg (show ¬ (false = true) by decide)] at H; exact H
                          clear H
                          have H := H1
                          clear H1
                          exact absurd H (by simp)
                      · rw [if_neg c17] at H
                        exact absurd H (by simp)
                    · rw [if_neg c15] at H
                      exact absurd H (by simp)
                  · rw [if_neg c14] at H
                    exact absurd H (by simp)
                · rw [if_neg c13] at H
                  exact absurd H (by simp)
              · rw [if_neg c12] at H
                exact absurd H (by simp)
            · rw [if_neg c11] at H
              exact absurd H (by simp)
          · rw [if_neg c10] at H
            exact absurd H (by simp)
        · replace c9 := Bool.eq_false_iff.mpr c9
          subst c9
          have H1 : (none) = some r := by rw [if_neg (show ¬ (false = true) by decide)] at H; exact H
          clear H
          have H := H1
          clear H1
          exact absurd H (by simp)
      · rw [if_neg c7] at H
        exact absurd H (by simp)
    · rw [if_neg c6] at H
      exact absurd H (by simp)
  · rw [if_neg c5] at H
    exact absurd H (by simp)

/-! ### warrantorref23_Large: function 13 -/
def warrantorref23_Large.l0 : Nat → List (S36) → Int → Int → Option (Bool)
  | 0, _, _, _ => none
  | k + 1, x0, x3, x4 => if x4 < (x0.length : Int) then (if 0 ≤ x4 then (warrantorref23_Large.l0 k x0 (wrap64 (x3 + (((rd_T36 x0 x4).f3).size : Int))) (wrap64 (x4 + 1))) else (none)) else (if x3 > 5000 then (some true) else (some (decide ((x0.length : Int) > 500))))
def warrantorref23_Large.f (k : Nat) (l0 : List (S36)) : Option (Bool) := warrantorref23_Large.l0 k l0 0 0
theorem warrantorref23_Large.mono_l : ∀ k, (∀ y0 y1 y2, LeO (warrantorref23_Large.l0 k y0 y1 y2) (warrantorref23_Large.l0 (k + 1) y0 y1 y2))
  | 0 => fun _ _ _ r h => by simp [warrantorref23_Large.l0] at h
  | k + 1 => by
    have ih0 := warrantorref23_Large.mono_l k
    · intro y0 y1 y2
      unfold warrantorref23_Large.l0
      repeat' first
      | (with_reducible exact ih0 _ _ _)
      | (with_reducible exact LeO.refl _)
      | (with_reducible exact LeO.none _)
      | (with_reducible refine LeO.ite ?_ ?_)
      | (with_reducible refine LeO.bind ?_ (fun _ => ?_))
      | exact ih0 _ _ _
      | exact LeO.none _
      | refine LeO.ite ?_ ?_
      | refine LeO.bind ?_ (fun _ => ?_)
theorem warrantorref23_Large.mono : ∀ a0 k, LeO (warrantorref23_Large.f k a0) (warrantorref23_Large.f (k + 1) a0) := by
  intro a0 k
  have ih0 := warrantorref23_Large.mono_l k
  unfold warrantorref23_Large.f
  repeat' first
      | (with_reducible exact ih0 _ _ _)
      | (with_reducible exact LeO.refl _)
      | (with_reducible exact LeO.none _)
      | (with_reducible refine LeO.ite ?_ ?_)
      | (with_reducible refine LeO.bind ?_ (fun _ => ?_))
      | exact ih0 _ _ _
      | exact LeO.none _
      | refine LeO.ite ?_ ?_
      | refine LeO.bind ?_ (fun _ => ?_)
set_option maxHeartbeats 8000000 in
set_option maxRecDepth 100000 in
theorem warrantorref23_Large.calls (k : Nat) (A0 : Option Addr) (c0 : Nat) (l0 : List (S36)) (r : Bool) (w : World) (hr0 : Kd.C k36 w A0 l0.length l0) (hc0 : l0.length ≤ c0) (h : warrantorref23_Large.f k l0 = some r) :
    Calls Try.prog 13 #[.slice A0 l0.length c0] w fun e w' => e = .returned (.bool r) ∧ Drawn0 w w' := by
  have HR0 := Aside0.mk hr0
  have HC0 := Aside0.mk hc0
  clear hr0 hc0
  have H : (warrantorref23_Large.l0 k l0 0 0) = some r := h
  clear h
  have H' := Aside0.mk H
  clear H
  go_enter Try.func13, Try.ntmps13
  go_wp2
  go_loopg [3, 4] k (fun kq v3 v4 w' => ∃ (x3_1 : Int) (x4_1 : Int), v3 = .int .i64 x3_1 ∧ v4 = .int .i64 x4_1 ∧ Aside0 (warrantorref23_Large.l0 kq l0 x3_1 x4_1 = some r) ∧ Aside0 (kq ≤ k) ∧ Drawn0 w w')
  case atStart => exact ⟨(0), (0), (by first | rfl | (simp; done) | (simp [*]; done)), (by first | rfl | (simp; done) | (simp [*]; done)), H', ⟨Nat.le_refl _⟩, by repeat (first | exact Drawn0.refl _ | apply Drawn0.step)⟩
  case round =>
    clear H'
    try clear c1
    obtain ⟨x3_1, x4_1, rfl, rfl, HA, HK1, ⟨m1, rfl⟩⟩ := hrel
    cases gk with
    | zero => exact absurd HA.out (by simp [warrantorref23_Large.l0])
    | succ k1 =>
      have H := HA.out
      clear HA
      simp only [warrantorref23_Large.l0] at H
      by_cases c2 : x4_1 < (l0.length : Int)
      · rw [if_pos c2] at H
        have c2b0 : decide (x4_1 < (l0.length : Int)) = true := decide_eq_true c2
        clear c2
        by_cases c3 : 0 ≤ x4_1
        · rw [if_pos c3] at H
          have c3b0 : decide (0 ≤ x4_1) = true := decide_eq_true c3
          clear c3
          have H' := Aside0.mk H
          clear H
          have p130 : 0 ≤ (x4_1 : Int) := of_decide_eq_true (by first | (with_reducible assumption) | assumption)
          have q130 : x4_1 < (l0.length : Int) := of_decide_eq_true (by first | (with_reducible assumption) | assumption)
          obtain ⟨ad130, e130, hx130_0, hx130_1, hx130_2, hx130_3⟩ := at_T36 HR0.out x4_1 p130 q130
          cases e130
          replace p130 := eq_true p130
          replace q130 := eq_true q130
          go_wp2
          go_roundg k1
          case measure => have := HK1.out; omega
          case rel => exact ⟨(wrap64 (x3_1 + (((rd_T36 l0 x4_1).f3).size : Int))), (wrap64 (x4_1 + 1)), (by first | rfl | (simp; done) | (simp [*]; done)), (by first | rfl | (simp; done) | (simp [*]; done)), H', ⟨by have := HK1.out; omega⟩, by repeat (first | exact Drawn0.refl _ | apply Drawn0.step)⟩
        · rw [if_neg c3] at H
          exact absurd H (by simp)
      · rw [if_neg c2] at H
        have c2b0 : decide (x4_1 < (l0.length : Int)) = false := decide_eq_false c2
        clear c2
        by_cases c4 : x3_1 > 5000
        · rw [if_pos c4] at H
          have c4b0 : decide (5000 < x3_1) = true := decide_eq_true c4
          clear c4
          obtain rfl := Option.some.inj H
          go_wp2
          go_ret
          exact ⟨by first | rfl | (simp; done) | (simp [*]; done), by repeat (first | exact Drawn0.refl _ | apply Drawn0.step)⟩
        · rw [if_neg c4] at H
          have c4b0 : decide (5000 < x3_1) = false := decide_eq_false c4
          clear c4
          obtain rfl := Option.some.inj H
          go_wp2
          go_ret
          exact ⟨by first | rfl | (simp; done) | (simp [*]; done), by repeat (first | exact Drawn0.refl _ | apply Drawn0.step)⟩

/-! ### warrantorref23_Quote: function 16 -/
mutual
def warrantorref23_Quote.l0 : Nat → ByteArray → ByteArray → Int → Option (ByteArray)
  | 0, _, _, _ => none
  | k + 1, x0, x3, x4 => if x4 < (x0.size : Int) then (if 0 ≤ x4 then (if (bt x0 x4) = 34 then (warrantorref23_Quote.j1 k x0 x3 x4 true) else (warrantorref23_Quote.j1 k x0 x3 x4 ((bt x0 x4) == 92))) else (none)) else (if x3.size + 1 ≤ 9223372036854775807 then (some (x3 ++ (⟨#[34]⟩ : ByteArray))) else (none))
def warrantorref23_Quote.j1 : Nat → ByteArray → ByteArray → Int → Bool → Option (ByteArray)
  | 0, _, _, _, _ => none
  | k + 1, x0, x3, x4, x11 => if x11 = true then (if x3.size + 1 ≤ 9223372036854775807 then (if 0 ≤ x4 then (if x4 ≤ (wrap64 (x4 + 1)) then (if (wrap64 (x4 + 1)) ≤ (x0.size : Int) then (if (x3 ++ (⟨#[92]⟩ : ByteArray)).size + (x0.extract (x4 : Int).toNat ((wrap64 (x4 + 1)) : Int).toNat).size ≤ 9223372036854775807 then (warrantorref23_Quote.l0 k x0 ((x3 ++ (⟨#[92]⟩ : ByteArray)) ++ (x0.extract (x4 : Int).toNat ((wrap64 (x4 + 1)) : Int).toNat)) (wrap64 (x4 + 1))) else (none)) else (none)) else (none)) else (none)) else (none)) else (if 0 ≤ x4 then (if x4 < (x0.size : Int) then (if (bt x0 x4) ≥ 32 then (if (bt x0 x4) ≤ 126 then (if x4 ≤ (wrap64 (x4 + 1)) then (if (wrap64 (x4 + 1)) ≤ (x0.size : Int) then (if x3.size + (x0.extract (x4 : Int).toNat ((wrap64 (x4 + 1)) : Int).toNat).size ≤ 9223372036854775807 then (warrantorref23_Quote.l0 k x0 (x3 ++ (x0.extract (x4 : Int).toNat ((wrap64 (x4 + 1)) : Int).toNat)) (wrap64 (x4 + 1))) else (none)) else (none)) else (none)) else (warrantorref23_Quote.l0 k x0 x3 (wrap64 (x4 + 1)))) else (warrantorref23_Quote.l0 k x0 x3 (wrap64 (x4 + 1)))) else (none)) else (none))
end
def warrantorref23_Quote.f (k : Nat) (a0 : ByteArray) : Option (ByteArray) := warrantorref23_Quote.l0 k a0 (⟨#[34]⟩ : ByteArray) 0
theorem warrantorref23_Quote.mono_l : ∀ k, (∀ y0 y1 y2, LeO (warrantorref23_Quote.l0 k y0 y1 y2) (warrantorref23_Quote.l0 (k + 1) y0 y1 y2)) ∧ (∀ y0 y1 y2 y3, LeO (warrantorref23_Quote.j1 k y0 y1 y2 y3) (warrantorref23_Quote.j1 (k + 1) y0 y1 y2 y3))
  | 0 => ⟨fun _ _ _ r h => by simp [warrantorref23_Quote.l0] at h, fun _ _ _ _ r h => by simp [warrantorref23_Quote.j1] at h⟩
  | k + 1 => by
    obtain ⟨ih0, ih1⟩ := warrantorref23_Quote.mono_l k
    refine ⟨?_, ?_⟩
    · intro y0 y1 y2
      unfold warrantorref23_Quote.l0
      repeat' first
      | (with_reducible exact ih0 _ _ _)
      | (with_reducible exact ih1 _ _ _ _)
      | (with_reducible exact LeO.refl _)
      | (with_reducible exact LeO.none _)
      | (with_reducible refine LeO.ite ?_ ?_)
      | (with_reducible refine LeO.bind ?_ (fun _ => ?_))
      | exact ih0 _ _ _
      | exact ih1 _ _ _ _
      | exact LeO.none _
      | refine LeO.ite ?_ ?_
      | refine LeO.bind ?_ (fun _ => ?_)
    · intro y0 y1 y2 y3
      unfold warrantorref23_Quote.j1
      repeat' first
      | (with_reducible exact ih0 _ _ _)
      | (with_reducible exact ih1 _ _ _ _)
      | (with_reducible exact LeO.refl _)
      | (with_reducible exact LeO.none _)
      | (with_reducible refine LeO.ite ?_ ?_)
      | (with_reducible refine LeO.bind ?_ (fun _ => ?_))
      | exact ih0 _ _ _
      | exact ih1 _ _ _ _
      | exact LeO.none _
      | refine LeO.ite ?_ ?_
      | refine LeO.bind ?_ (fun _ => ?_)
theorem warrantorref23_Quote.mono : ∀ a0 k, LeO (warrantorref23_Quote.f k a0) (warrantorref23_Quote.f (k + 1) a0) := by
  intro a0 k
  obtain ⟨ih0, ih1⟩ := warrantorref23_Quote.mono_l k
  unfold warrantorref23_Quote.f
  repeat' first
      | (with_reducible exact ih0 _ _ _)
      | (with_reducible exact ih1 _ _ _ _)
      | (with_reducible exact LeO.refl _)
      | (with_reducible exact LeO.none _)
      | (with_reducible refine LeO.ite ?_ ?_)
      | (with_reducible refine LeO.bind ?_ (fun _ => ?_))
      | exact ih0 _ _ _
      | exact ih1 _ _ _ _
      | exact LeO.none _
      | refine LeO.ite ?_ ?_
      | refine LeO.bind ?_ (fun _ => ?_)
set_option maxHeartbeats 8000000 in
set_option maxRecDepth 100000 in
theorem warrantorref23_Quote.calls (k : Nat) (a0 : ByteArray) (r : ByteArray) (w : World) (h : warrantorref23_Quote.f k a0 = some r) :
    Calls Try.prog 16 #[.string a0] w fun e w' => e = .returned (.string r) ∧ Drawn0 w w' := by
  have H : (warrantorref23_Quote.l0 k a0 (⟨#[34]⟩ : ByteArray) 0) = some r := h
  clear h
  have H' := Aside0.mk H
  clear H
  go_enter Try.func16, Try.ntmps16
  go_wp2
  go_loopg [3, 4] k (fun kq v3 v4 w' => ∃ (x3_1 : ByteArray) (x4_1 : Int), v3 = .string x3_1 ∧ v4 = .int .i64 x4_1 ∧ Aside0 (warrantorref23_Quote.l0 kq a0 x3_1 x4_1 = some r) ∧ Aside0 (kq ≤ k) ∧ Drawn0 w w')
  case atStart => exact ⟨((⟨#[34]⟩ : ByteArray)), (0), (by first | rfl | (simp; done) | (simp [*]; done)), (by first | rfl | (simp; done) | (simp [*]; done)), H', ⟨Nat.le_refl _⟩, by repeat (first | exact Drawn0.refl _ | apply Drawn0.step)⟩
  case round =>
    clear H'
    try clear c1
    obtain ⟨x3_1, x4_1, rfl, rfl, HA, HK1, ⟨m1, rfl⟩⟩ := hrel
    cases gk with
    | zero => exact absurd HA.out (by simp [warrantorref23_Quote.l0])
    | succ k1 =>
      have H := HA.out
      clear HA
      simp only [warrantorref23_Quote.l0] at H
      by_cases c2 : x4_1 < (a0.size : Int)
      · rw [if_pos c2] at H
        have c2b0 : decide (x4_1 < (a0.size : Int)) = true := decide_eq_true c2
        clear c2
        have HC3 := Aside0.mk H
        clear H
        go_upto_region 5 with (fail)
        go_cut [11] (fun v11 wc => ∃ (kq : Nat) (x11_2 : Bool), v11 = .bool x11_2 ∧ Aside0 (warrantorref23_Quote.j1 kq a0 x3_1 x4_1 x11_2 = some r) ∧ Aside0 (kq ≤ k1) ∧ Drawn0 w wc)
        case first =>
          have H := HC3.out
          clear HC3
          by_cases c4 : 0 ≤ x4_1
          · rw [if_pos c4] at H
            have c4b0 : decide (0 ≤ x4_1) = true := decide_eq_true c4
            clear c4
            (first | rw [c4b0] | (simp only [i64_w, i32_w]; rw [c4b0]) | skip)
            by_cases c6 : (bt a0 x4_1) = 34
            · rw [if_pos c6] at H
              have c6b0 : ((bt a0 x4_1) == 34) = true := beq_iff_eq.mpr c6
              have c6b1 : ((bt a0 x4_1) != 34) = false := bne_eq_false_iff_eq.mpr c6
              clear c6
              have H' := Aside0.mk H
              clear H
              have p5 : 0 ≤ (x4_1 : Int) := of_decide_eq_true (by first | (with_reducible assumption) | assumption)
              have q5 : x4_1 < (a0.size : Int) := of_decide_eq_true (by first | (with_reducible assumption) | assumption)
              have hx5 := bt_at a0 x4_1
              replace p5 := eq_true p5
              replace q5 := eq_true q5
              go_wp2
              go_meet
              case rel => exact ⟨_, (true), (by first | rfl | (simp; done) | (simp [*]; done)), H', ⟨by have := HK1.out; first | omega | exact Nat.le_refl _⟩, by repeat (first | exact Drawn0.refl _ | apply Drawn0.step)⟩
            · rw [if_neg c6] at H
              have c6b0 : ((bt a0 x4_1) == 34) = false := beq_eq_false_iff_ne.mpr c6
              have c6b1 : ((bt a0 x4_1) != 34) = true := bne_iff_ne.mpr c6
              have H' := Aside0.mk H
              clear H
              have p5 : 0 ≤ (x4_1 : Int) := of_decide_eq_true (by first | (with_reducible assumption) | assumption)
              have q5 : x4_1 < (a0.size : Int) := of_decide_eq_true (by first | (with_reducible assumption) | assumption)
              have hx5 := bt_at a0 x4_1
              replace p5 := eq_true p5
              replace q5 := eq_true q5
              have p7 : 0 ≤ (x4_1 : Int) := of_decide_eq_true (by first | (with_reducible assumption) | assumption)
              have q7 : x4_1 < (a0.size : Int) := of_decide_eq_true (by first | (with_reducible assumption) | assumption)
              have hx7 := bt_at a0 x4_1
              replace p7 := eq_true p7
              replace q7 := eq_true q7
              go_wp2
              go_meet
              case rel => exact ⟨_, (((bt a0 x4_1) == 92)), (by first | rfl | (simp; done) | (simp [*]; done)), H', ⟨by have := HK1.out; first | omega | exact Nat.le_refl _⟩, by repeat (first | exact Drawn0.refl _ | apply Drawn0.step)⟩
          · rw [if_neg c4] at H
            exact absurd H (by simp)
        case rest =>
          clear HC3
          try clear c1
          try clear c2
          try clear c2b0
          try clear p2
          try clear c4
          try clear c4b0
          try clear p5
          try clear q5
          try clear hx5
          try clear c6
          try clear c6b0
          try clear c6b1
          try clear p7
          try clear q7
          try clear hx7
          try clear p5
          try clear p7
          try clear q5
          try clear q7
          obtain ⟨kq, x11_2, rfl, HA, HJ2, ⟨mc2, rfl⟩⟩ := hcut
          cases kq with
          | zero => exact absurd HA.out (by simp [warrantorref23_Quote.j1])
          | succ kj2 =>
            have H := HA.out
            clear HA
            simp only [warrantorref23_Quote.j1] at H
            by_cases c8 : x11_2 = true
            · subst c8
              have H1 : (if x3_1.size + 1 ≤ 9223372036854775807 then (if 0 ≤ x4_1 then (if x4_1 ≤ (wrap64 (x4_1 + 1)) then (if (wrap64 (x4_1 + 1)) ≤ (a0.size : Int) then (if (x3_1 ++ (⟨#[92]⟩ : ByteArray)).size + (a0.extract (x4_1 : Int).toNat ((wrap64 (x4_1 + 1)) : Int).toNat).size ≤ 9223372036854775807 then (warrantorref23_Quote.l0 kj2 a0 ((x3_1 ++ (⟨#[92]⟩ : ByteArray)) ++ (a0.extract (x4_1 : Int).toNat ((wrap64 (x4_1 + 1)) : Int).toNat)) (wrap64 (x4_1 + 1))) else (none)) else (none)) else (none)) else (none)) else (none)) = some r := by rw [if_pos rfl] at H; exact H
              clear H
              have H := H1
              clear H1
              by_cases c9 : x3_1.size + 1 ≤ 9223372036854775807
              · rw [if_pos c9] at H
                have c9b0 := eq_true c9
                have c9b1 : decide (x3_1.size + 1 ≤ 9223372036854775807) = true := decide_eq_true c9
                try have c9b2 : (9223372036854775807 < x3_1.size + 1) = False := eq_false (Nat.not_lt.2 c9)
                by_cases c10 : 0 ≤ x4_1
                · rw [if_pos c10] at H
                  have c10b0 := eq_true c10
                  have c10b1 : decide (0 ≤ x4_1) = true := decide_eq_true c10
                  clear c10
                  by_cases c11 : x4_1 ≤ (wrap64 (x4_1 + 1))
                  · rw [if_pos c11] at H
                    have c11b0 := eq_true c11
                    have c11b1 : decide (x4_1 ≤ (wrap64 (x4_1 + 1))) = true := decide_eq_true c11
                    by_cases c12 : (wrap64 (x4_1 + 1)) ≤ (a0.size : Int)
                    · rw [if_pos c12] at H
                      have c12b0 := eq_true c12
                      have c12b1 : decide ((wrap64 (x4_1 + 1)) ≤ (a0.size : Int)) = true := decide_eq_true c12
                      by_cases c13 : (x3_1 ++ (⟨#[92]⟩ : ByteArray)).size + (a0.extract (x4_1 : Int).toNat ((wrap64 (x4_1 + 1)) : Int).toNat).size ≤ 9223372036854775807
                      · rw [if_pos c13] at H
                        have c13b0 := eq_true c13
                        have c13b1 : decide ((x3_1 ++ (⟨#[92]⟩ : ByteArray)).size + (a0.extract (x4_1 : Int).toNat ((wrap64 (x4_1 + 1)) : Int).toNat).size ≤ 9223372036854775807) = true := decide_eq_true c13
                        try have c13b2 : (9223372036854775807 < (x3_1 ++ (⟨#[92]⟩ : ByteArray)).size + (a0.extract (x4_1 : Int).toNat ((wrap64 (x4_1 + 1)) : Int).toNat).size) = False := eq_false (Nat.not_lt.2 c13)
                        have c13b3 : (9223372036854775807 < (x3_1 ++ (⟨#[92]⟩ : ByteArray)).size + (((wrap64 (x4_1 + 1)) : Int).toNat - (x4_1 : Int).toNat)) = False := eq_false (by have h := c13; rw [ByteArray.size_extract, Nat.min_eq_left (by omega)] at h; omega)
                        have H' := Aside0.mk H
                        clear H
                        go_wp2
                        go_roundg kj2
                        case measure => have := HK1.out; have := HJ2.out; omega
                        case rel => exact ⟨((x3_1 ++ (⟨#[92]⟩ : ByteArray)) ++ (a0.extract (x4_1 : Int).toNat ((wrap64 (x4_1 + 1)) : Int).toNat)), (wrap64 (x4_1 + 1)), (by first | rfl | (simp; done) | (simp [*]; done)), (by first | rfl | (simp; done) | (simp [*]; done)), H', ⟨by have := HK1.out; have := HJ2.out; omega⟩, by repeat (first | exact Drawn0.refl _ | apply Drawn0.step)⟩
                      · rw [if_neg c13] at H
                        exact absurd H (by simp)
                    · rw [if_neg c12] at H
                      exact absurd H (by simp)
                  · rw [if_neg c11] at H
                    exact absurd H (by simp)
                · rw [if_neg c10] at H
                  exact absurd H (by simp)
              · rw [if_neg c9] at H
                exact absurd H (by simp)
            · replace c8 := Bool.eq_false_iff.mpr c8
              subst c8
              have H1 : (if 0 ≤ x4_1 then (if x4_1 < (a0.size : Int) then (if (bt a0 x4_1) ≥ 32 then (if (bt a0 x4_1) ≤ 126 then (if x4_1 ≤ (wrap64 (x4_1 + 1)) then (if (wrap64 (x4_1 + 1)) ≤ (a0.size : Int) then (if x3_1.size + (a0.extract (x4_1 : Int).toNat ((wrap64 (x4_1 + 1)) : Int).toNat).size ≤ 9223372036854775807 then (warrantorref23_Quote.l0 kj2 a0 (x3_1 ++ (a0.extract (x4_1 : Int).toNat ((wrap64 (x4_1 + 1)) : Int).toNat)) (wrap64 (x4_1 + 1))) else (none)) else (none)) else (none)) else (warrantorref23_Quote.l0 kj2 a0 x3_1 (wrap64 (x4_1 + 1)))) else (warrantorref23_Quote.l0 kj2 a0 x3_1 (wrap64 (x4_1 + 1)))) else (none)) else (none)) = some r := by rw [if_neg (show ¬ (false = true) by decide)] at H; exact H
              clear H
              have H := H1
              clear H1
              by_cases c14 : 0 ≤ x4_1
              · rw [if_pos c14] at H
                have c14b0 : decide (0 ≤ x4_1) = true := decide_eq_true c14
                clear c14
                by_cases c15 : x4_1 < (a0.size : Int)
                · rw [if_pos c15] at H
                  have c15b0 : decide (x4_1 < (a0.size : Int)) = true := decide_eq_true c15
                  clear c15
                  by_cases c17 : (bt a0 x4_1) ≥ 32
                  · rw [if_pos c17] at H
                    have c17b0 : decide (32 ≤ (bt a0 x4_1)) = true := decide_eq_true c17
                    clear c17
                    by_cases c19 : (bt a0 x4_1) ≤ 126
                    · rw [if_pos c19] at H
                      have c19b0 : decide ((bt a0 x4_1) ≤ 126) = true := decide_eq_true c19
                      clear c19
                      have c20b0 := eq_true (of_decide_eq_true (by first | (with_reducible assumption) | assumption) : 0 ≤ x4_1)
                      by_cases c21 : x4_1 ≤ (wrap64 (x4_1 + 1))
                      · rw [if_pos c21] at H
                        have c21b0 := eq_true c21
                        have c21b1 : decide (x4_1 ≤ (wrap64 (x4_1 + 1))) = true := decide_eq_true c21
                        by_cases c22 : (wrap64 (x4_1 + 1)) ≤ (a0.size : Int)
                        · rw [if_pos c22] at H
                          have c22b0 := eq_true c22
                          have c22b1 : decide ((wrap64 (x4_1 + 1)) ≤ (a0.size : Int)) = true := decide_eq_true c22
                          by_cases c23 : x3_1.size + (a0.extract (x4_1 : Int).toNat ((wrap64 (x4_1 + 1)) : Int).toNat).size ≤ 9223372036854775807
                          · rw [if_pos c23] at H
                            have c23b0 := eq_true c23
                            have c23b1 : decide (x3_1.size + (a0.extract (x4_1 : Int).toNat ((wrap64 (x4_1 + 1)) : Int).toNat).size ≤ 9223372036854775807) = true := decide_eq_true c23
                            try have c23b2 : (9223372036854775807 < x3_1.size + (a0.extract (x4_1 : Int).toNat ((wrap64 (x4_1 + 1)) : Int).toNat).size) = False := eq_false (Nat.not_lt.2 c23)
                            have c23b3 : (9223372036854775807 < x3_1.size + (((wrap64 (x4_1 + 1)) : Int).toNat - (x4_1 : Int).toNat)) = False := eq_false (by have h := c23; rw [ByteArray.size_extract, Nat.min_eq_left (by omega)] at h; omega)
                            have H' := Aside0.mk H
                            clear H
                            have p16 : 0 ≤ (x4_1 : Int) := of_decide_eq_true (by first | (with_reducible assumption) | assumption)
                            have q16 : x4_1 < (a0.size : Int) := of_decide_eq_true (by first | (with_reducible assumption) | assumption)
                            have hx16 := bt_at a0 x4_1
                            replace p16 := eq_true p16
                            replace q16 := eq_true q16
                            have p18 : 0 ≤ (x4_1 : Int) := of_decide_eq_true (by first | (with_reducible assumption) | assumption)
                            have q18 : x4_1 < (a0.size : Int) := of_decide_eq_true (by first | (with_reducible assumption) | assumption)
                            have hx18 := bt_at a0 x4_1
                            replace p18 := eq_true p18
                            replace q18 := eq_true q18
                            go_wp2
                            go_roundg kj2
                            case measure => have := HK1.out; have := HJ2.out; omega
                            case rel => exact ⟨(x3_1 ++ (a0.extract (x4_1 : Int).toNat ((wrap64 (x4_1 + 1)) : Int).toNat)), (wrap64 (x4_1 + 1)), (by first | rfl | (simp; done) | (simp [*]; done)), (by first | rfl | (simp; done) | (simp [*]; done)), H', ⟨by have := HK1.out; have := HJ2.out; omega⟩, by repeat (first | exact Drawn0.refl _ | apply Drawn0.step)⟩
                          · rw [if_neg c23] at H
                            exact absurd H (by simp)
                        · rw [if_neg c22] at H
                          exact absurd H (by simp)
                      · rw [if_neg c21] at H
                        exact absurd H (by simp)
                    · rw [if_neg c19] at H
                      have c19b0 : decide ((bt a0 x4_1) ≤ 126) = false := decide_eq_false c19
                      clear c19
                      have H' := Aside0.mk H
                      clear H
                      have p16 : 0 ≤ (x4_1 : Int) := of_decide_eq_true (by first | (with_reducible assumption) | assumption)
                      have q16 : x4_1 < (a0.size : Int) := of_decide_eq_true (by first | (with_reducible assumption) | assumption)
                      have hx16 := bt_at a0 x4_1
                      replace p16 := eq_true p16
                      replace q16 := eq_true q16
                      have p18 : 0 ≤ (x4_1 : Int) := of_decide_eq_true (by first | (with_reducible assumption) | assumption)
                      have q18 : x4_1 < (a0.size : Int) := of_decide_eq_true (by first | (with_reducible assumption) | assumption)
                      have hx18 := bt_at a0 x4_1
                      replace p18 := eq_true p18
                      replace q18 := eq_true q18
                      go_wp2
                      go_roundg kj2
                      case measure => have := HK1.out; have := HJ2.out; omega
                      case rel => exact ⟨(x3_1), (wrap64 (x4_1 + 1)), (by first | rfl | (simp; done) | (simp [*]; done)), (by first | rfl | (simp; done) | (simp [*]; done)), H', ⟨by have := HK1.out; have := HJ2.out; omega⟩, by repeat (first | exact Drawn0.refl _ | apply Drawn0.step)⟩
                  · rw [if_neg c17] at H
                    have c17b0 : decide (32 ≤ (bt a0 x4_1)) = false := decide_eq_false c17
                    clear c17
                    have H' := Aside0.mk H
                    clear H
                    have p16 : 0 ≤ (x4_1 : Int) := of_decide_eq_true (by first | (with_reducible assumption) | assumption)
                    have q16 : x4_1 < (a0.size : Int) := of_decide_eq_true (by first | (with_reducible assumption) | assumption)
                    have hx16 := bt_at a0 x4_1
                    replace p16 := eq_true p16
                    replace q16 := eq_true q16
                    go_wp2
                    go_roundg kj2
                    case measure => have := HK1.out; have := HJ2.out; omega
                    case rel => exact ⟨(x3_1), (wrap64 (x4_1 + 1)), (by first | rfl | (simp; done) | (simp [*]; done)), (by first | rfl | (simp; done) | (simp [*]; done)), H', ⟨by have := HK1.out; have := HJ2.out; omega⟩, by repeat (first | exact Drawn0.refl _ | apply Drawn0.step)⟩
                · rw [if_neg c15] at H
                  exact absurd H (by simp)
              · rw [if_neg c14] at H
                exact absurd H (by simp)
      · rw [if_neg c2] at H
        have c2b0 : decide (x4_1 < (a0.size : Int)) = false := decide_eq_false c2
        clear c2
        by_cases c24 : x3_1.size + 1 ≤ 9223372036854775807
        · rw [if_pos c24] at H
          have c24b0 := eq_true c24
          have c24b1 : decide (x3_1.size + 1 ≤ 9223372036854775807) = true := decide_eq_true c24
          try have c24b2 : (9223372036854775807 < x3_1.size + 1) = False := eq_false (Nat.not_lt.2 c24)
          obtain rfl := Option.some.inj H
          go_wp2
          go_ret
          exact ⟨by first | rfl | (simp; done) | (simp [*]; done), by repeat (first | exact Drawn0.refl _ | apply Drawn0.step)⟩
        · rw [if_neg c24] at H
          exact absurd H (by simp)

/-! ### warrantorref23_word: function 30 -/
def warrantorref23_word.f (a0 : Int) : Option (Bool) := if a0 ≥ 33 then (if a0 ≤ 126 then (some (a0 != 34)) else (some false)) else (some false)
set_option maxHeartbeats 8000000 in
set_option maxRecDepth 100000 in
theorem warrantorref23_word.calls (a0 : Int) (r : Bool) (w : World) (h : warrantorref23_word.f a0 = some r) :
    Calls Try.prog 30 #[.int .u8 a0] w fun e w' => e = .returned (.bool r) ∧ Drawn0 w w' := by
  have H : (if a0 ≥ 33 then (if a0 ≤ 126 then (some (a0 != 34)) else (some false)) else (some false)) = some r := h
  clear h
  by_cases c2 : a0 ≥ 33
  · rw [if_pos c2] at H
    have c2b0 : decide (33 ≤ a0) = true := decide_eq_true c2
    clear c2
    by_cases c3 : a0 ≤ 126
    · rw [if_pos c3] at H
      have c3b0 : decide (a0 ≤ 126) = true := decide_eq_true c3
      clear c3
      obtain rfl := Option.some.inj H
      go_enter Try.func30, Try.ntmps30
      go_wp2
      go_ret
      exact ⟨by first | rfl | (simp; done) | (simp [*]; done), by repeat (first | exact Drawn0.refl _ | apply Drawn0.step)⟩
    · rw [if_neg c3] at H
      have c3b0 : decide (a0 ≤ 126) = false := decide_eq_false c3
      clear c3
      obtain rfl := Option.some.inj H
      go_enter Try.func30, Try.ntmps30
      go_wp2
      go_ret
      exact ⟨by first | rfl | (simp; done) | (simp [*]; done), by repeat (first | exact Drawn0.refl _ | apply Drawn0.step)⟩
  · rw [if_neg c2] at H
    have c2b0 : decide (33 ≤ a0) = false := decide_eq_false c2
    clear c2
    obtain rfl := Option.some.inj H
    go_enter Try.func30, Try.ntmps30
    go_wp2
    go_ret
    exact ⟨by first | rfl | (simp; done) | (simp [*]; done), by repeat (first | exact Drawn0.refl _ | apply Drawn0.step)⟩

/-! ### warrantorref23_Word: function 18 -/
def warrantorref23_Word.l0 : Nat → ByteArray → Int → Option (Bool)
  | 0, _, _ => none
  | k + 1, x0, x3 => if x3 < (x0.size : Int) then (if 0 ≤ x3 then ((warrantorref23_word.f (bt x0 x3)).bind fun t131 => (if t131 = true then (warrantorref23_Word.l0 k x0 (wrap64 (x3 + 1))) else (some false))) else (none)) else (some (decide ((x0.size : Int) > 0)))
def warrantorref23_Word.f (k : Nat) (a0 : ByteArray) : Option (Bool) := warrantorref23_Word.l0 k a0 0
theorem warrantorref23_Word.mono_l : ∀ k, (∀ y0 y1, LeO (warrantorref23_Word.l0 k y0 y1) (warrantorref23_Word.l0 (k + 1) y0 y1))
  | 0 => fun _ _ r h => by simp [warrantorref23_Word.l0] at h
  | k + 1 => by
    have ih0 := warrantorref23_Word.mono_l k
    · intro y0 y1
      unfold warrantorref23_Word.l0
      repeat' first
      | (with_reducible exact ih0 _ _)
      | (with_reducible exact LeO.refl _)
      | (with_reducible exact LeO.none _)
      | (with_reducible refine LeO.ite ?_ ?_)
      | (with_reducible refine LeO.bind ?_ (fun _ => ?_))
      | exact ih0 _ _
      | exact LeO.none _
      | refine LeO.ite ?_ ?_
      | refine LeO.bind ?_ (fun _ => ?_)
theorem warrantorref23_Word.mono : ∀ a0 k, LeO (warrantorref23_Word.f k a0) (warrantorref23_Word.f (k + 1) a0) := by
  intro a0 k
  have ih0 := warrantorref23_Word.mono_l k
  unfold warrantorref23_Word.f
  repeat' first
      | (with_reducible exact ih0 _ _)
      | (with_reducible exact LeO.refl _)
      | (with_reducible exact LeO.none _)
      | (with_reducible refine LeO.ite ?_ ?_)
      | (with_reducible refine LeO.bind ?_ (fun _ => ?_))
      | exact ih0 _ _
      | exact LeO.none _
      | refine LeO.ite ?_ ?_
      | refine LeO.bind ?_ (fun _ => ?_)
set_option maxHeartbeats 8000000 in
set_option maxRecDepth 100000 in
theorem warrantorref23_Word.calls (k : Nat) (a0 : ByteArray) (r : Bool) (w : World) (h : warrantorref23_Word.f k a0 = some r) :
    Calls Try.prog 18 #[.string a0] w fun e w' => e = .returned (.bool r) ∧ Drawn0 w w' := by
  have H : (warrantorref23_Word.l0 k a0 0) = some r := h
  clear h
  have H' := Aside0.mk H
  clear H
  go_enter Try.func18, Try.ntmps18
  go_wp2
  go_loopg [3] k (fun kq v3 w' => ∃ (x3_1 : Int), v3 = .int .i64 x3_1 ∧ Aside0 (warrantorref23_Word.l0 kq a0 x3_1 = some r) ∧ Aside0 (kq ≤ k) ∧ Drawn0 w w')
  case atStart => exact ⟨(0), (by first | rfl | (simp; done) | (simp [*]; done)), H', ⟨Nat.le_refl _⟩, by repeat (first | exact Drawn0.refl _ | apply Drawn0.step)⟩
  case round =>
    clear H'
    try clear c1
    obtain ⟨x3_1, rfl, HA, HK1, ⟨m1, rfl⟩⟩ := hrel
    cases gk with
    | zero => exact absurd HA.out (by simp [warrantorref23_Word.l0])
    | succ k1 =>
      have H := HA.out
      clear HA
      simp only [warrantorref23_Word.l0] at H
      by_cases c2 : x3_1 < (a0.size : Int)
      · rw [if_pos c2] at H
        have c2b0 : decide (x3_1 < (a0.size : Int)) = true := decide_eq_true c2
        clear c2
        by_cases c3 : 0 ≤ x3_1
        · rw [if_pos c3] at H
          have c3b0 : decide (0 ≤ x3_1) = true := decide_eq_true c3
          clear c3
          replace H := Option.bind_eq_some_iff.mp H
          obtain ⟨t131, A50, H⟩ := H
          replace H : (if t131 = true then (warrantorref23_Word.l0 k1 a0 (wrap64 (x3_1 + 1))) else (some false)) = some r := H
          have A5 := Aside0.mk A50
          clear A50
          by_cases c6 : t131 = true
          · subst c6
            have H1 : (warrantorref23_Word.l0 k1 a0 (wrap64 (x3_1 + 1))) = some r := by rw [if_pos rfl] at H; exact H
            clear H
            have H := H1
            clear H1
            have H' := Aside0.mk H
            clear H
            have p4 : 0 ≤ (x3_1 : Int) := of_decide_eq_true (by first | (with_reducible assumption) | assumption)
            have q4 : x3_1 < (a0.size : Int) := of_decide_eq_true (by first | (with_reducible assumption) | assumption)
            have hx4 := bt_at a0 x3_1
            replace p4 := eq_true p4
            replace q4 := eq_true q4
            go_wp2_with (first | ((with_reducible refine gate_callee (f := 30) rfl ?_); refine goesL_ (some 13) rfl rfl Try.func30 (by kernel_rfl) rfl #[.int .u8 (bt a0 x3_1)] rfl (by (try simp only [List.map_toArray, List.map_cons, List.map_nil]); first | done | rfl | (simp only [List.length_drop, List.length_take]; rfl)) ?_; (with_reducible refine (warrantorref23_word.calls (bt a0 x3_1) true _ A5.out).mono ?_); rintro e w' ⟨rfl, ⟨nd, rfl⟩⟩; refine ⟨_, rfl, ?_⟩))
            go_roundg k1
            case measure => have := HK1.out; omega
            case rel => exact ⟨(wrap64 (x3_1 + 1)), (by first | rfl | (simp; done) | (simp [*]; done)), H', ⟨by have := HK1.out; omega⟩, by repeat (first | exact Drawn0.refl _ | apply Drawn0.step)⟩
          · replace c6 := Bool.eq_false_iff.mpr c6
            subst c6
            have H1 : (some false) = some r := by rw [if_neg (show ¬ (false = true) by decide)] at H; exact H
            clear H
            have H := H1
            clear H1
            obtain rfl := Option.some.inj H
            have p4 : 0 ≤ (x3_1 : Int) := of_decide_eq_true (by first | (with_reducible assumption) | assumption)
            have q4 : x3_1 < (a0.size : Int) := of_decide_eq_true (by first | (with_reducible assumption) | assumption)
            have hx4 := bt_at a0 x3_1
            replace p4 := eq_true p4
            replace q4 := eq_true q4
            go_wp2_with (first | ((with_reducible refine gate_callee (f := 30) rfl ?_); refine goesL_ (some 13) rfl rfl Try.func30 (by kernel_rfl) rfl #[.int .u8 (bt a0 x3_1)] rfl (by (try simp only [List.map_toArray, List.map_cons, List.map_nil]); first | done | rfl | (simp only [List.length_drop, List.length_take]; rfl)) ?_; (with_reducible refine (warrantorref23_word.calls (bt a0 x3_1) false _ A5.out).mono ?_); rintro e w' ⟨rfl, ⟨nd, rfl⟩⟩; refine ⟨_, rfl, ?_⟩))
            go_ret
            exact ⟨by first | rfl | (simp; done) | (simp [*]; done), by repeat (first | exact Drawn0.refl _ | apply Drawn0.step)⟩
        · rw [if_neg c3] at H
          exact absurd H (by simp)
      · rw [if_neg c2] at H
        have c2b0 : decide (x3_1 < (a0.size : Int)) = false := decide_eq_false c2
        clear c2
        obtain rfl := Option.some.inj H
        go_wp2
        go_ret
        exact ⟨by first | rfl | (simp; done) | (simp [*]; done), by repeat (first | exact Drawn0.refl _ | apply Drawn0.step)⟩

end Go.Proofs.Ytdgholodogcemaa.PAll
