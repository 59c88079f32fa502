/- Bytes that are written behind each other into a row of a struct's (a pen, a builder): what is told of them, and the walks of the pen's methods. -/
import Derived.Test.YtnohflfpahokiaaProg
import Derived.Test.YtnohflfpahokiaaMine
import Derived.Test.YtnohflfpahokiaaWMore
import Derived.Test.YtnohflfpahokiaaWRepsOne
import Derived.Lib.SliceRun
import Derived.Laws.IdiomStrings
set_option linter.unusedVariables false
set_option linter.unusedSimpArgs false
namespace Go.Proofs.Ytnohflfpahokiaa.Pen
open Go Go.RowKit Go.Proofs.YtnohflfpahokiaaW.PrintWords

theorem info5 : (Try.prog.info? 5).map (fun i => (i.zero, i.size, i.bytes)) = some (some (.int .u8 0), 1, 1) := by kernel_rfl

/-- the block g holds cells cs, and v is a row of bytes of its own, from base on -/
structure Buf (w : World) (T : TypeId) (cs : Array Value) (g base : Nat) (v : Value) (xs : List Int) : Prop where
  blk : w.heap[g]? = some (.cells cs T (0, 0))
  row : (Kd.int .u8).R 5 w base (fun k => k ≠ g) v xs
  low : base ≤ g
  size : base ≤ w.heap.size

/-- where a row lies behind an append: where it lay, or in a new block -/
def Moved (w : World) (v v' : Value) : Prop := v'.ownBlock = v.ownBlock ∨ ∃ b, v'.ownBlock = some b ∧ w.heap.size ≤ b

theorem moved_trans {w w2 : World} {v v1 v' : Value} (h : Moved w v v1) (hs : w.heap.size ≤ w2.heap.size) (k : Moved w2 v1 v') : Moved w v v' := by
  rcases k with k | ⟨b, k, hb⟩
  · rcases h with h | ⟨b, h, hb⟩
    · exact .inl (k.trans h)
    · exact .inr ⟨b, k.trans h, hb⟩
  · exact .inr ⟨b, k, Nat.le_trans hs hb⟩

theorem Buf.ne {w : World} {T : TypeId} {cs : Array Value} {g base : Nat} {v : Value} {xs : List Int} (h : Buf w T cs g base v xs) : some g ≠ v.ownBlock := fun e => h.row.1 g e.symm rfl

set_option maxHeartbeats 1000000 in
theorem put_calls {w : World} {g base : Nat} {v : Value} {xs ys : List Int} {A : Option Addr} {c : Nat} (h : Buf w 85 #[v] g base v xs) (hr : (Kd.int .u8).C w A ys.length ys) (hc : ys.length ≤ c) (hl : xs.length + ys.length ≤ 140737488355328) :
    Calls Try.prog 61 #[.pointer (some ⟨g, 0, none⟩), .slice A ys.length c] w fun e w' => e = .returned (.tuple #[]) ∧ ∃ v', Buf w' 85 #[v'] g base v' (xs ++ ys) ∧ KeepBut w w' g v.ownBlock ∧ Moved w v v' ∧ Below base w w' := by
  have hcell : w.cell? ⟨g, 0, none⟩ = some v := (blk_cell h.blk 0).trans rfl
  have H := Aside0.mk h
  have HR := Aside0.mk hr
  clear h hr
  go_enter Try.func61, Try.ntmps61
  go_wp2_with (first | (at_builtin; refine Kd.R_append_rows (Kd.int .u8) (w0 := w) base rfl (.tmp 10) (.tmp 11) 25 5 (.int .u8 0) 1 rfl Try.underlying25 info5 rfl (by decide) (by omega) v xs ys A ys.length c (fun k => k ≠ g) (fun _ => False) rfl rfl H.out.row HR.out (fun _ _ h => h) (fun _ h => h.elim) ?f1 (Below.refl _ _) H.out.size (by omega) ?_; (case f1 => intro k hk e; have := blk_lt H.out.blk; omega); intro v1 w1 h1 h2 h3 h4; obtain ⟨A1, c1, rfl⟩ := Kd.R_slice h1; rw [List.length_append] at h1 h4; have H1 := Aside0.mk h1; have H2 := Aside0.mk h2; have H3 := Aside0.mk h3; have H4 := Aside0.mk h4; have hb1 := blk_grown H.out.blk h3 H.out.ne; have hcell1 : w1.cell? ⟨g, 0, none⟩ = some v := (blk_cell hb1 0).trans rfl; have hfr1 : w1.frozen? ⟨g, 0, none⟩ = false := blk_frozen hb1 0; have HB1 := Aside0.mk hb1; clear h1 h2 h3 h4 hb1))
  go_end0
  refine ⟨rfl, _, ⟨blk_set HB1.out 0 _, ?_, H.out.low, ?_⟩, ?_, H4.out, ?_⟩
  · exact Kd.R_set H1.out HB1.out (by decide) 0 _
  · simp only [World.size_setCell]; exact Nat.le_trans H.out.size H3.out.size
  · exact (KeepBut.of_grown H3.out g).set_ 0 _
  · exact H2.out.setCell H.out.low _

/-! ### a world behind: what is told of a buffer stays -/
theorem Buf.below {w w' : World} {T : TypeId} {cs : Array Value} {g base : Nat} {v : Value} {xs : List Int} (h : Buf w T cs g base v xs) (hb : Below w.heap.size w w') : Buf w' T cs g base v xs :=
  ⟨blk_below h.blk hb, Kd.R_below h.row hb, h.low, Nat.le_trans h.size hb.size⟩

theorem new_calls (w : World) : Calls Try.prog 45 #[] w fun e w' => ∃ g, e = .returned (.pointer (some ⟨g, 0, none⟩)) ∧ Buf w' 85 #[.slice none 0 0] g w.heap.size (.slice none 0 0) [] ∧ Below w.heap.size w w' := by
  go_enter Try.func45, Try.ntmps45
  go_wp2
  go_ret
  exact ⟨_, rfl, ⟨blk_new w _, Kd.R_nil _ _ _ _ _, Nat.le_refl _, by simp⟩, (Below.refl _ _).alloc (Nat.le_refl _) _⟩

/-- what 'U' writes -/
def PutSaid (putN : Int → List Int) : Prop := ∀ (n : Int) (w : World), 0 ≤ n → n < 18446744073709551616 → Calls Try.prog 75 #[.int .u64 n] w fun e w' => ∃ v : Value, e = .returned v ∧ (Kd.int .u8).R 5 w' w.heap.size (fun _ => True) v (putN n) ∧ Below w.heap.size w w'

theorem keep_then {w w1 w2 : World} {g : Nat} {row : Option Nat} (hb : Below w.heap.size w w1) (hk : KeepBut w1 w2 g row) : KeepBut w w2 g row :=
  ⟨Nat.le_trans hb.size hk.1, fun i hi h1 h2 => (hk.2 i (Nat.lt_of_lt_of_le hi hb.size) h1 h2).trans (hb.block i hi)⟩

set_option maxHeartbeats 1000000 in
theorem u_calls {putN : Int → List Int} (hput : PutSaid putN) {w : World} {g base : Nat} {v : Value} {xs : List Int} (n : Int) (h0 : 0 ≤ n) (h1 : n < 18446744073709551616) (h : Buf w 85 #[v] g base v xs) (hl : xs.length + (putN n).length ≤ 140737488355328) :
    Calls Try.prog 62 #[.pointer (some ⟨g, 0, none⟩), .int .u64 n] w fun e w' => e = .returned (.tuple #[]) ∧ ∃ v', Buf w' 85 #[v'] g base v' (xs ++ putN n) ∧ KeepBut w w' g v.ownBlock ∧ Moved w v v' ∧ Below base w w' := by
  have H := Aside0.mk h
  clear h
  go_enter Try.func62, Try.ntmps62
  go_wp2_with (first | (go_at_call 75; (refine (hput n _ h0 h1).mono ?_); rintro e w1 ⟨v1, rfl, hr, hb⟩; obtain ⟨A1, c1, hv1, hc1, hC1⟩ := Kd.R_reads hr; subst hv1; have HC := Aside0.mk hC1; have Hc := Aside0.mk hc1; have HB := Aside0.mk hb; clear hr hb hC1 hc1) | (go_at_call 61; (with_reducible refine (put_calls (H.out.below HB.out) HC.out Hc.out hl).mono ?_); rintro e w2 ⟨rfl, hq⟩; have HQ := Aside0.mk hq; clear hq))
  go_end0
  obtain ⟨v', h1, h2, h3, h4⟩ := HQ.out
  refine ⟨rfl, v', h1, keep_then HB.out h2, ?_, ?_⟩
  · rcases h3 with h3 | ⟨b, h3, h5⟩
    · exact .inl h3
    · exact .inr ⟨b, h3, Nat.le_trans HB.out.size h5⟩
  · exact (HB.out.mono H.out.size).trans h4

theorem eql_nil (w : World) (a : Option Addr) (n c n' c' : Nat) : (binOp .eql 25 (.slice a n c) (.slice none n' c')).run Try.prog w = .ok (.bool a.isNone) w := Lib.run_eql_slice_nil w _ _ a n c n' c' Try.underlying25

set_option maxHeartbeats 1000000 in
/-- slices.Clone of a row of bytes: a row of the call's own. -/
theorem clone_calls {w : World} {ys : List Int} {A : Option Addr} {c : Nat} (hr : (Kd.int .u8).C w A ys.length ys) (hc : ys.length ≤ c) (hl : ys.length ≤ 140737488355328) :
    Calls Try.prog 37 #[.slice A ys.length c] w fun e w' => ∃ v, e = .returned v ∧ (Kd.int .u8).R 5 w' w.heap.size (fun _ => True) v ys ∧ Below w.heap.size w w' := by
  have HR := Aside0.mk hr
  clear hr
  have q := eql_nil
  cases A with
  | none =>
    have h0 : ys = [] := by
      rcases Nat.lt_or_ge 0 ys.length with h | h
      · obtain ⟨ad, e, _⟩ := HR.out.2.2 h; cases e
      · exact List.eq_nil_of_length_eq_zero (by omega)
    subst h0
    go_enter Try.func37, Try.ntmps37
    go_wp2
    go_ret
    exact ⟨_, rfl, Kd.R_nil _ _ _ _ _, Below.refl _ _⟩
  | some ad =>
    go_enter Try.func37, Try.ntmps37
    go_wp2_with (first | ((with_reducible refine gate_dst (N := 5) rfl ?_); refine Kd.R_lit (Kd.int .u8) w.heap.size 5 rfl (N := 5) rfl (xs := []) (inner := []) (ok := fun _ => True) (okp := fun _ => True) ?hr (Reps.none _ _) (fun _ hk => hk) trivial (Below.refl _ _) (Nat.le_refl _) (by simp) ?_; (case hr => first | (go_simp; done) | (go_simp; rfl)); intro v1 w1 h1 h2 _ _; have H1 := Aside0.mk h1; have H2 := Aside0.mk h2; obtain ⟨A1, c1, rfl⟩ := Kd.R_slice h1; clear h1 h2) | (at_builtin; refine Kd.R_append_rows (Kd.int .u8) (w0 := w) w.heap.size rfl (.tmp 5) (.tmp 6) 25 5 (.int .u8 0) 1 rfl Try.underlying25 info5 rfl (by decide) (by omega) _ [] ys (some ad) ys.length c (fun _ => True) (fun _ => False) rfl rfl H1.out (Kd.C_below HR.out H2.out) (fun _ _ h => h) (fun _ h => h.elim) (fun _ _ => trivial) H2.out H2.out.size (by simpa using hl) ?_; intro v2 w2 h1 h2 h3 h4; have H3 := Aside0.mk h1; have H4 := Aside0.mk h2; clear h1 h2 h3 h4))
    go_ret
    exact ⟨_, rfl, H3.out, H4.out⟩

set_option maxHeartbeats 1000000 in
theorem bytes_calls {w : World} {g base : Nat} {v : Value} {xs : List Int} (h : Buf w 85 #[v] g base v xs) (hl : xs.length ≤ 140737488355328) :
    Calls Try.prog 50 #[.pointer (some ⟨g, 0, none⟩)] w fun e w' => ∃ u, e = .returned u ∧ (Kd.int .u8).R 5 w' w.heap.size (fun _ => True) u xs ∧ Below w.heap.size w w' := by
  have hcell : w.cell? ⟨g, 0, none⟩ = some v := (blk_cell h.blk 0).trans rfl
  obtain ⟨A1, c1, rfl, hc1, hC1⟩ := Kd.R_reads h.row
  have HC := Aside0.mk hC1
  have Hc := Aside0.mk hc1
  clear h hC1 hc1
  go_enter Try.func50, Try.ntmps50
  go_wp2_with (go_at_call 37; (with_reducible refine (clone_calls HC.out Hc.out hl).mono ?_); rintro e w1 ⟨u, rfl, hr, hb⟩; have H1 := Aside0.mk hr; have H2 := Aside0.mk hb; clear hr hb)
  go_ret
  exact ⟨_, rfl, H1.out, H2.out⟩

/-- '[]byte(s)': a row that reads as the string's bytes. -/
theorem C_strbytes (w : World) (s : ByteArray) (e : TypeId) (m : Nat × Nat) (cap : Nat) (hs : s.size ≤ 9223372036854775807) : (Kd.int .u8).C (w.drew.alloc (.cells (bytesRow s cap) e m)) (some ⟨w.heap.size, 0, none⟩) (bytesOf s).length (bytesOf s) := by
  have hl : (bytesOf s).length = s.size := by simp [bytesOf]
  refine ⟨rfl, by rw [hl]; exact hs, fun _ => ⟨_, rfl, fun j p hj => ⟨[Value.int .u8 p], rfl, rfl, fun i u hu => ?_⟩⟩⟩
  obtain ⟨hi, hu⟩ := List.getElem?_eq_some_iff.1 hu
  have hi0 : i = 0 := by simpa using hi
  subst hi0
  have hu' : Value.int .u8 p = u := by simpa using hu
  subst hu'
  have hsz : (Kd.int .u8).sz = 1 := rfl
  rw [hsz, Nat.mul_one, Nat.add_zero]
  have := cell_of_row (w.drew.alloc (.cells (bytesRow s cap) e m)) w.heap.size j _ e m (heap_alloc_new w.drew _)
  have ha : (⟨w.heap.size, 0, none⟩ : Addr).add j = ⟨w.heap.size, j, none⟩ := by
    unfold Addr.add
    split
    · rename_i h0; rw [h0]
    · simp
  obtain ⟨hj1, hj2⟩ := List.getElem?_eq_some_iff.1 hj
  rw [hl] at hj1
  have hj3 : j < s.data.size := hj1
  rw [ha, this, bytesRow_at s cap j hj3, ← hj2]
  simp [bytesOf]

theorem bytes_event {P : Program} {ops : Array Oper} {rest : List Oper} {o : Oper} {a : Act} {Q : Exit → Act → World → Prop} {W : World} {N : Tmp} (_hd : o.dst = some N) (hg : o.guard = none) (src dst e : TypeId) (x : Operand) (s : ByteArray) (ho : o.op = .convert src dst x) (hx : a.eval x = .string s)
    (h1 : P.underlying src = some .string) (h2 : P.underlying dst = some (.slice e)) (h3 : P.underlying e = some (.int .u8)) (hs : s.size ≤ 9223372036854775807)
    (h : ∀ A c w1, (bytesOf s).length ≤ c → (Kd.int .u8).C w1 A (bytesOf s).length (bytesOf s) → Below W.heap.size W w1 → wpList P ops Q rest (a.put o.dst (.slice A (bytesOf s).length c)) w1) : wpList P ops Q (o :: rest) a W := by
  have hl : (bytesOf s).length = s.size := by simp [bytesOf]
  have hr := run_bytes_of_string (P := P) W src dst e s h1 h2 h3
  generalize hW2 : (World.alloc W.drew (.cells (bytesRow s (grownCap W s.size 0 e)) e _)) = W2 at hr
  have h5 : (Kd.int .u8).C W2 (some ⟨W.heap.size, 0, none⟩) (bytesOf s).length (bytesOf s) := by
    rw [← hW2]; exact C_strbytes W s e _ _ hs
  have h6 : Below W.heap.size W W2 := by
    rw [← hW2]; exact (Below.refl _ _).drew.alloc (Nat.le_refl _) _
  refine Kd.event_run hg (w1 := W2) (v := .slice (some ⟨W.heap.size, 0, none⟩) (bytesOf s).length (grownCap W s.size 0 e)) ?_ (h _ _ _ (by rw [hl]; exact grownCap_ge _ _ _ _) h5 h6)
  simp only [execOp, ho, hx]
  rw [hl]
  simp [hr, Result.andThen]

set_option maxHeartbeats 1000000 in
theorem text_calls {putN : Int → List Int} (hput : PutSaid putN) {w : World} {g base : Nat} {v : Value} {xs : List Int} (s : ByteArray) (hs : s.size ≤ 140737488351232) (h : Buf w 85 #[v] g base v xs) (hl : xs.length + (putN s.size).length + s.size ≤ 140737488355328) :
    Calls Try.prog 47 #[.pointer (some ⟨g, 0, none⟩), .string s] w fun e w' => e = .returned (.tuple #[]) ∧ ∃ v', Buf w' 85 #[v'] g base v' (xs ++ putN s.size ++ bytesOf s) ∧ KeepBut w w' g v.ownBlock ∧ Moved w v v' ∧ Below base w w' := by
  have H := Aside0.mk h
  have hL : (bytesOf s).length = s.size := by simp [bytesOf]
  have HL := Aside0.mk hL
  have hw : IntKind.u64.wrap ((s.size : Nat) : Int) = ((s.size : Nat) : Int) := by simp [IntKind.wrap, IntKind.bits, IntKind.signed]; omega
  clear h hL
  go_enter Try.func47, Try.ntmps47
  go_wp2_with (first | (go_at_call 62; (refine (u_calls hput (s.size : Int) (by omega) (by omega) H.out (by omega)).mono ?_); rintro e w1 ⟨rfl, v1, h1, h2, h3, h4⟩; have H1 := Aside0.mk h1; have H2 := Aside0.mk h2; have H3 := Aside0.mk h3; have H4 := Aside0.mk h4; clear h1 h2 h3 h4) | ((with_reducible refine gate_dst (N := 11) rfl ?_); refine bytes_event (N := 11) rfl rfl 9 25 5 _ s rfl rfl Try.underlying9 Try.underlying25 Try.underlying5 (by omega) ?_; intro A c w2 hc hC hb; have Hc := Aside0.mk hc; have HC := Aside0.mk hC; have Hb := Aside0.mk hb; clear hc hC hb) | (go_at_call 61; (with_reducible refine (put_calls (H1.out.below Hb.out) HC.out Hc.out (by rw [List.length_append, HL.out]; omega)).mono ?_); rintro e w3 ⟨rfl, hq⟩; have HQ := Aside0.mk hq; clear hq))
  go_end0
  obtain ⟨v', h1, h2, h3, h4⟩ := HQ.out
  exact ⟨rfl, v', h1, (H2.out.trans (KeepBut.of_below Hb.out g v.ownBlock) (.inl rfl)).trans h2 H3.out, moved_trans H3.out (Nat.le_trans H2.out.1 Hb.out.size) h3, (H4.out.trans (Hb.out.mono (Nat.le_trans H.out.size H2.out.1))).trans h4⟩

theorem put_calls' {w : World} {g base : Nat} {v : Value} {xs ys : List Int} {A : Option Addr} {c q : Nat} (hq : ys.length = q) (h : Buf w 85 #[v] g base v xs) (hr : (Kd.int .u8).C w A ys.length ys) (hc : ys.length ≤ c) (hl : xs.length + ys.length ≤ 140737488355328) :
    Calls Try.prog 61 #[.pointer (some ⟨g, 0, none⟩), .slice A q c] w fun e w' => e = .returned (.tuple #[]) ∧ ∃ v', Buf w' 85 #[v'] g base v' (xs ++ ys) ∧ KeepBut w w' g v.ownBlock ∧ Moved w v v' ∧ Below base w w' := by
  subst hq
  exact put_calls h hr hc hl
set_option maxHeartbeats 1000000 in
theorem byte_calls {w : World} {g base : Nat} {v : Value} {xs : List Int} (n : Int) (h : Buf w 85 #[v] g base v xs) (hl : xs.length ≤ 100000000000000) :
    Calls Try.prog 46 #[.pointer (some ⟨g, 0, none⟩), .int .i64 n] w fun e w' => e = .returned (.tuple #[]) ∧ ∃ v', Buf w' 85 #[v'] g base v' (xs ++ [n % 256]) ∧ KeepBut w w' g v.ownBlock ∧ Moved w v v' ∧ Below base w w' := by
  have H := Aside0.mk h
  have HL := Aside0.mk hl
  clear h hl
  go_enter Try.func46, Try.ntmps46
  go_wp2_with (first | ((with_reducible refine gate_dst (N := 7) rfl ?_); refine Kd.R_lit (Kd.int .u8) _ 5 ?hg (N := 7) ?hd (xs := ([n % 256] : List Int)) (inner := [.int .u8 (n % 256)]) (ok := fun _ => True) (okp := fun _ => True) ?hr ?hp (fun _ hk => hk) trivial (Below.refl _ _) (Nat.le_refl _) (by simp) ?_; (case hd => rfl); (case hg => rfl); (case hr => first | (go_simp; done) | (go_simp; rfl)); (case hp => exact (Reps.one (show Kd.M (Kd.int .u8) _ _ _ (n % 256) [.int .u8 (n % 256)] from rfl) (Reps.none _ _))); intro v1 w1 h1 h2 h3 h4; obtain ⟨A1, c1, rfl, hc1, hC1⟩ := Kd.R_reads h1; have HC := Aside0.mk hC1; have Hc := Aside0.mk hc1; have HB := Aside0.mk h2; clear h1 h2 h3 h4 hC1 hc1) | (go_at_call 61; (with_reducible refine (put_calls' (ys := [n % 256]) (q := 1) rfl (H.out.below HB.out) HC.out Hc.out (by have := HL.out; simp; omega)).mono ?_); rintro e w2 ⟨rfl, hq⟩; have HQ := Aside0.mk hq; clear hq))
  go_end0
  obtain ⟨v', h1, h2, h3, h4⟩ := HQ.out
  refine ⟨rfl, v', h1, keep_then HB.out h2, ?_, ?_⟩
  · rcases h3 with h3 | ⟨b, h3, h5⟩
    · exact .inl h3
    · exact .inr ⟨b, h3, Nat.le_trans HB.out.size h5⟩
  · exact (HB.out.mono H.out.size).trans h4

set_option maxHeartbeats 1000000 in
theorem word_calls {w : World} {g base : Nat} {v : Value} {xs : List Int} (n : Int) (h0 : 0 ≤ n ∧ n < 4294967296) (h : Buf w 85 #[v] g base v xs) (hl : xs.length ≤ 100000000000000) :
    Calls Try.prog 48 #[.pointer (some ⟨g, 0, none⟩), .int .u32 n] w fun e w' => e = .returned (.tuple #[]) ∧ ∃ v', Buf w' 85 #[v'] g base v' (xs ++ [n % 256, n / 256 % 256, n / 65536 % 256, n / 16777216]) ∧ KeepBut w w' g v.ownBlock ∧ Moved w v v' ∧ Below base w w' := by
  have H := Aside0.mk h
  have HL := Aside0.mk hl
  clear h hl
  go_enter Try.func48, Try.ntmps48
  go_wp2_with (first | ((with_reducible refine gate_dst (N := 16) rfl ?_); refine Kd.R_lit (Kd.int .u8) _ 5 ?hg (N := 16) ?hd (xs := ([n % 256, n / 256 % 256, n / 65536 % 256, n / 16777216] : List Int)) (inner := [.int .u8 (n % 256), .int .u8 (n / 256 % 256), .int .u8 (n / 65536 % 256), .int .u8 (n / 16777216)]) (ok := fun _ => True) (okp := fun _ => True) ?hr ?hp (fun _ hk => hk) trivial (Below.refl _ _) (Nat.le_refl _) (by simp) ?_; (case hd => rfl); (case hg => rfl); (case hr => first | (go_simp; done) | (go_simp; rfl)); (case hp => exact (Reps.one (show Kd.M (Kd.int .u8) _ _ _ (n % 256) [.int .u8 (n % 256)] from rfl) (Reps.one (show Kd.M (Kd.int .u8) _ _ _ (n / 256 % 256) [.int .u8 (n / 256 % 256)] from rfl) (Reps.one (show Kd.M (Kd.int .u8) _ _ _ (n / 65536 % 256) [.int .u8 (n / 65536 % 256)] from rfl) (Reps.one (show Kd.M (Kd.int .u8) _ _ _ (n / 16777216) [.int .u8 (n / 16777216)] from rfl) (Reps.none _ _)))))); intro v1 w1 h1 h2 h3 h4; obtain ⟨A1, c1, rfl, hc1, hC1⟩ := Kd.R_reads h1; have HC := Aside0.mk hC1; have Hc := Aside0.mk hc1; have HB := Aside0.mk h2; clear h1 h2 h3 h4 hC1 hc1) | (go_at_call 61; (with_reducible refine (put_calls' (ys := [n % 256, n / 256 % 256, n / 65536 % 256, n / 16777216]) (q := 4) rfl (H.out.below HB.out) HC.out Hc.out (by have := HL.out; simp; omega)).mono ?_); rintro e w2 ⟨rfl, hq⟩; have HQ := Aside0.mk hq; clear hq))
  go_end0
  obtain ⟨v', h1, h2, h3, h4⟩ := HQ.out
  refine ⟨rfl, v', h1, keep_then HB.out h2, ?_, ?_⟩
  · rcases h3 with h3 | ⟨b, h3, h5⟩
    · exact .inl h3
    · exact .inr ⟨b, h3, Nat.le_trans HB.out.size h5⟩
  · exact (HB.out.mono H.out.size).trans h4
end Go.Proofs.Ytnohflfpahokiaa.Pen
