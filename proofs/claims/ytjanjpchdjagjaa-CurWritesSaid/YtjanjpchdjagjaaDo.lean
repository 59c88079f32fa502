/- The walks of the law's do, and of CurReads. -/
import Derived.Test.YtjanjpchdjagjaaPut8
set_option linter.unusedVariables false
set_option linter.unusedSimpArgs false
namespace Go.Proofs.Ytjanjpchdjagjaa.Rd
open Go Go.RowKit Go.Proofs.YtjanjpchdjagjaaW.PrintWords Go.Proofs.YtjanjpchdjagjaaW.PrintLast Go.Proofs.Ytjanjpchdjagjaa.LebM Go.Proofs.Ytjanjpchdjagjaa.Leb

/-- a call, as the law's text holds it -/
structure S28 where
  f0 : Int
  f1 : Int
  f2 : ByteArray
def k28 : Kd S28 := Kd.iso (Kd.pair (Kd.int .i64) (Kd.pair (Kd.int .i64) Kd.string)) (fun x : S28 => (x.f0, x.f1, x.f2))
theorem k28_open {w : World} {x : S28} {cs : List Value} (h : k28.K w x cs) : cs = [.int .i64 x.f0, .int .i64 x.f1, .string x.f2] := by
  obtain ⟨_, _, he, hu, _, _, hx, hy, hz⟩ := h
  rw [hx, show _ = _ from hy, show _ = _ from hz, show _ = _ from hu] at he
  exact he
theorem at_T28 {w : World} {A : Option Addr} {xs : List S28} (h : Kd.C k28 w A xs.length xs) (j : Nat) (hj : j < xs.length) : ∃ ad x, A = some ad ∧ xs[j]? = some x ∧ w.cell? (ad.add (j * 3)) = some (.int .i64 x.f0) ∧ w.cell? ⟨(ad.add (j * 3)).block, (ad.add (j * 3)).off + 1, none⟩ = some (.int .i64 x.f1) ∧ w.cell? ⟨(ad.add (j * 3)).block, (ad.add (j * 3)).off + 2, none⟩ = some (.string x.f2) := by
  obtain ⟨ad, rfl, hx⟩ := h.2.2 (by omega)
  obtain ⟨c, hlen, hk, hat⟩ := hx j xs[j] (List.getElem?_eq_getElem hj)
  have := k28_open hk
  subst this
  refine ⟨ad, xs[j], rfl, List.getElem?_eq_getElem hj, ?_, ?_, ?_⟩
  · exact hat 0 _ rfl
  · show w.cell? ((ad.add (j * 3)).add 1) = _
    rw [add_add]
    exact hat 1 _ rfl
  · show w.cell? ((ad.add (j * 3)).add 2) = _
    rw [add_add]
    exact hat 2 _ rfl

theorem OBox.kp {w w' : World} {b g T base b2 : Nat} {K n : Int} {s : ByteArray} {bs : List Int} {p : Nat} {er : Int} (o : OBox w b K n s) (r : Rdr T base w g bs p er) (k : Kp b2 w w' g) (hT : T ≠ 28) : OBox w' b K n s := by
  obtain ⟨A, c, h1, _⟩ := r.blk
  exact ⟨(k.1.2 b (blk_lt o.blk) (fun e => blk_ne o.blk h1 (fun e => hT e.symm) e) (by simp)).trans o.blk⟩
/-- the two readers, told by one state -/
structure Two (w : World) (B g h : Nat) (bs : List Int) (p : Nat) (er : Int) : Prop where
  a : Rdr 64 B w g bs p er
  b : Rdr 45 B w h bs p er
section
variable {w w' : World} {B g h : Nat} {bs : List Int} {p q : Nat} {er eq : Int}
theorem Two.ne (t : Two w B g h bs p er) : g ≠ h := by
  obtain ⟨A, c, h1, _⟩ := t.a.blk
  obtain ⟨A2, c2, h2, _⟩ := t.b.blk
  exact fun e => blk_ne h1 h2 (by decide) e
theorem Two.below (t : Two w B g h bs p er) (hb : Below w.heap.size w w') : Two w' B g h bs p er := ⟨t.a.below hb, t.b.below hb⟩
/-- the pen's reader has moved: the other one stays -/
theorem Two.left (t : Two w B g h bs p er) (k : Kp B w w' g) : Rdr 45 B w' h bs p er := rdr_kp t.b k t.a (Ne.symm t.ne)
theorem Two.both {w2 : World} (a : Rdr 64 B w' g bs q eq) (b : Rdr 45 B w' h bs p er) (hn : g ≠ h) (k : Kp B w' w2 h) (b2 : Rdr 45 B w2 h bs q eq) : Two w2 B g h bs q eq := ⟨rdr_kp a k b hn, b2⟩
end
def DoPost (w w' : World) (B g h : Nat) (bs : List Int) (e : Ending) : Prop := e = .returned (.bool true) ∧ (∃ p er, Two w' B g h bs p er) ∧ Below B w w'


set_option maxHeartbeats 2000000 in
set_option maxRecDepth 100000 in
theorem do1 {w : World} {B g h : Nat} {bs : List Int} {p : Nat} {er : Int} (t : Two w B g h bs p er) (n : Int) (hn : -9223372036854775808 ≤ n ∧ n < 9223372036854775808) (s : ByteArray) :
    Calls Try.prog 20 #[.pointer (some ⟨g, 0, none⟩), .pointer (some ⟨h, 0, none⟩), .agg #[.int .i64 1, .int .i64 n, .string s]] w fun e w' => DoPost w w' B g h bs e := by
  have BA := Aside0.mk (below_alloc (Below.refl w.heap.size w) (.cells #[.int .i64 1, .int .i64 n, .string s] 28))
  have O := Aside0.mk (show OBox (w.alloc (.cells #[.int .i64 1, .int .i64 n, .string s] 28)) w.heap.size 1 n s from ⟨blk_new w _⟩)
  have T0 := Aside0.mk (t.below BA.out)
  have NE := Aside0.mk t.ne
  have RS := Aside0.mk t.a.size
  have HN := Aside0.mk hn
  have q0 := O.out.c0
  have q1 := O.out.c1
  clear hn t
  go_enter Try.func20, Try.ntmps20
  go_wp2_with (first
    | (go_at_call 11; (with_reducible refine (u_calls T0.out.a).mono ?_); rintro e w1 ⟨rfl, h1, h2⟩; have O1 := Aside0.mk (O.out.kp T0.out.a h2 (by decide)); have r1 := O1.out.c1; have L1 := Aside0.mk (T0.out.left h2); have R1 := Aside0.mk h1; have K1 := Aside0.mk h2; clear h1 h2)
    | (go_at_call 46; (with_reducible refine (ru_calls L1.out).mono ?_); rintro e w2 ⟨rfl, h1, h2⟩; have R2 := Aside0.mk h1; have K2 := Aside0.mk h2; clear h1 h2))
  go_ret
  exact ⟨by first | rfl | simp, ⟨_, _, Two.both R1.out L1.out NE.out K2.out R2.out⟩, ((BA.out.mono RS.out).trans K1.out.2).trans K2.out.2⟩


set_option maxHeartbeats 2000000 in
set_option maxRecDepth 100000 in
theorem do2 {w : World} {B g h : Nat} {bs : List Int} {p : Nat} {er : Int} (t : Two w B g h bs p er) (n : Int) (hn : -9223372036854775808 ≤ n ∧ n < 9223372036854775808) (s : ByteArray) :
    Calls Try.prog 20 #[.pointer (some ⟨g, 0, none⟩), .pointer (some ⟨h, 0, none⟩), .agg #[.int .i64 2, .int .i64 n, .string s]] w fun e w' => DoPost w w' B g h bs e := by
  have BA := Aside0.mk (below_alloc (Below.refl w.heap.size w) (.cells #[.int .i64 2, .int .i64 n, .string s] 28))
  have O := Aside0.mk (show OBox (w.alloc (.cells #[.int .i64 2, .int .i64 n, .string s] 28)) w.heap.size 2 n s from ⟨blk_new w _⟩)
  have T0 := Aside0.mk (t.below BA.out)
  have NE := Aside0.mk t.ne
  have RS := Aside0.mk t.a.size
  have HN := Aside0.mk hn
  have q0 := O.out.c0
  have q1 := O.out.c1
  clear hn t
  go_enter Try.func20, Try.ntmps20
  go_wp2_with (first
    | (go_at_call 12; (with_reducible refine (i_calls T0.out.a).mono ?_); rintro e w1 ⟨rfl, h1, h2⟩; have O1 := Aside0.mk (O.out.kp T0.out.a h2 (by decide)); have r1 := O1.out.c1; have L1 := Aside0.mk (T0.out.left h2); have R1 := Aside0.mk h1; have K1 := Aside0.mk h2; clear h1 h2)
    | (go_at_call 47; (with_reducible refine (ri_calls L1.out).mono ?_); rintro e w2 ⟨rfl, h1, h2⟩; have R2 := Aside0.mk h1; have K2 := Aside0.mk h2; clear h1 h2))
  go_ret
  exact ⟨by first | rfl | simp, ⟨_, _, Two.both R1.out L1.out NE.out K2.out R2.out⟩, ((BA.out.mono RS.out).trans K1.out.2).trans K2.out.2⟩


set_option maxHeartbeats 2000000 in
set_option maxRecDepth 100000 in
theorem do3 {w : World} {B g h : Nat} {bs : List Int} {p : Nat} {er : Int} (t : Two w B g h bs p er) (n : Int) (hn : -9223372036854775808 ≤ n ∧ n < 9223372036854775808) (s : ByteArray) :
    Calls Try.prog 20 #[.pointer (some ⟨g, 0, none⟩), .pointer (some ⟨h, 0, none⟩), .agg #[.int .i64 3, .int .i64 n, .string s]] w fun e w' => DoPost w w' B g h bs e := by
  have BA := Aside0.mk (below_alloc (Below.refl w.heap.size w) (.cells #[.int .i64 3, .int .i64 n, .string s] 28))
  have O := Aside0.mk (show OBox (w.alloc (.cells #[.int .i64 3, .int .i64 n, .string s] 28)) w.heap.size 3 n s from ⟨blk_new w _⟩)
  have T0 := Aside0.mk (t.below BA.out)
  have NE := Aside0.mk t.ne
  have RS := Aside0.mk t.a.size
  have HN := Aside0.mk hn
  have q0 := O.out.c0
  have q1 := O.out.c1
  clear hn t
  go_enter Try.func20, Try.ntmps20
  go_wp2_with (first
    | (go_at_call 13; (with_reducible refine (byte_calls T0.out.a).mono ?_); rintro e w1 ⟨rfl, h1, h2⟩; have O1 := Aside0.mk (O.out.kp T0.out.a h2 (by decide)); have r1 := O1.out.c1; have L1 := Aside0.mk (T0.out.left h2); have R1 := Aside0.mk h1; have K1 := Aside0.mk h2; clear h1 h2)
    | (go_at_call 48; (with_reducible refine (rbyte_calls L1.out).mono ?_); rintro e w2 ⟨rfl, h1, h2⟩; have R2 := Aside0.mk h1; have K2 := Aside0.mk h2; clear h1 h2))
  go_ret
  exact ⟨by first | rfl | simp, ⟨_, _, Two.both R1.out L1.out NE.out K2.out R2.out⟩, ((BA.out.mono RS.out).trans K1.out.2).trans K2.out.2⟩


set_option maxHeartbeats 2000000 in
set_option maxRecDepth 100000 in
theorem do4 {w : World} {B g h : Nat} {bs : List Int} {p : Nat} {er : Int} (t : Two w B g h bs p er) (n : Int) (hn : -9223372036854775808 ≤ n ∧ n < 9223372036854775808) (s : ByteArray) :
    Calls Try.prog 20 #[.pointer (some ⟨g, 0, none⟩), .pointer (some ⟨h, 0, none⟩), .agg #[.int .i64 4, .int .i64 n, .string s]] w fun e w' => DoPost w w' B g h bs e := by
  have BA := Aside0.mk (below_alloc (Below.refl w.heap.size w) (.cells #[.int .i64 4, .int .i64 n, .string s] 28))
  have O := Aside0.mk (show OBox (w.alloc (.cells #[.int .i64 4, .int .i64 n, .string s] 28)) w.heap.size 4 n s from ⟨blk_new w _⟩)
  have T0 := Aside0.mk (t.below BA.out)
  have NE := Aside0.mk t.ne
  have RS := Aside0.mk t.a.size
  have HN := Aside0.mk hn
  have q0 := O.out.c0
  have q1 := O.out.c1
  clear hn t
  go_enter Try.func20, Try.ntmps20
  go_wp2_with (first
    | (go_at_call 14; (with_reducible refine (word_calls T0.out.a).mono ?_); rintro e w1 ⟨rfl, h1, h2⟩; have O1 := Aside0.mk (O.out.kp T0.out.a h2 (by decide)); have r1 := O1.out.c1; have L1 := Aside0.mk (T0.out.left h2); have R1 := Aside0.mk h1; have K1 := Aside0.mk h2; clear h1 h2)
    | (go_at_call 49; (with_reducible refine (rword_calls' L1.out).mono ?_); rintro e w2 ⟨rfl, h1, h2⟩; have R2 := Aside0.mk h1; have K2 := Aside0.mk h2; clear h1 h2))
  go_ret
  exact ⟨by first | rfl | simp, ⟨_, _, Two.both R1.out L1.out NE.out K2.out R2.out⟩, ((BA.out.mono RS.out).trans K1.out.2).trans K2.out.2⟩


set_option maxHeartbeats 2000000 in
set_option maxRecDepth 100000 in
theorem do5 {w : World} {B g h : Nat} {bs : List Int} {p : Nat} {er : Int} (t : Two w B g h bs p er) (n : Int) (hn : -9223372036854775808 ≤ n ∧ n < 9223372036854775808) (s : ByteArray) :
    Calls Try.prog 20 #[.pointer (some ⟨g, 0, none⟩), .pointer (some ⟨h, 0, none⟩), .agg #[.int .i64 5, .int .i64 n, .string s]] w fun e w' => DoPost w w' B g h bs e := by
  have BA := Aside0.mk (below_alloc (Below.refl w.heap.size w) (.cells #[.int .i64 5, .int .i64 n, .string s] 28))
  have O := Aside0.mk (show OBox (w.alloc (.cells #[.int .i64 5, .int .i64 n, .string s] 28)) w.heap.size 5 n s from ⟨blk_new w _⟩)
  have T0 := Aside0.mk (t.below BA.out)
  have NE := Aside0.mk t.ne
  have RS := Aside0.mk t.a.size
  have HN := Aside0.mk hn
  have q0 := O.out.c0
  have q1 := O.out.c1
  clear hn t
  have T1 := Aside0.mk (T0.out.below (Below.refl _ _).drew)
  have O0 := Aside0.mk (O.out.below (Below.refl _ _).drew)
  have BD := Aside0.mk ((BA.out.mono RS.out).drew)
  go_enter Try.func20, Try.ntmps20
  go_wp2
  refine start_ (n := 10) (S := fun w' => w'.cell? ⟨w.heap.size, 1, none⟩ = some (.int .i64 n)) (ds := []) #[false, false, false, false, false, false, false, false, false, false] (by kernel_rfl) rfl rfl (O0.out.c1) (fun hHeld => ?_)
  refine pure_ (i := 0) (N := some 39) (v := ?_) (a' := ?_) #[true, false, false, false, false, false, false, false, false, false] rfl rfl (by kernel_rfl) (fun _ _ _ h => h) (Or.inl ⟨by rfl, ?_⟩) ?_ ?_
  rotate_left
  · intro w'
    go_simp
    with_reducible rfl
  rotate_left
  · simp only [Act.put, List.setIfInBounds_toArray, List.set_cons_zero, List.set_cons_succ, i64_w, i32_w]
    rfl
  refine pure_ (i := 1) (N := some 40) (v := ?_) (a' := ?_) #[true, true, false, false, false, false, false, false, false, false] rfl rfl (by kernel_rfl) (fun _ _ _ h => h) (Or.inl ⟨by rfl, ?_⟩) ?_ ?_
  rotate_left
  · intro w'
    go_simp
    with_reducible rfl
  rotate_left
  · simp only [Act.put, List.setIfInBounds_toArray, List.set_cons_zero, List.set_cons_succ, i64_w, i32_w]
    rfl
  refine pure_ (i := 4) (N := some 43) (v := ?_) (a' := ?_) #[true, true, false, false, true, false, false, false, false, false] rfl rfl (by kernel_rfl) (fun _ _ _ h => h) (Or.inl ⟨by rfl, ?_⟩) ?_ ?_
  rotate_left
  · intro w'
    go_simp
    with_reducible rfl
  rotate_left
  · simp only [Act.put, List.setIfInBounds_toArray, List.set_cons_zero, List.set_cons_succ, i64_w, i32_w]
    rfl
  refine pure_ (i := 5) (N := some 44) (v := ?_) (a' := ?_) #[true, true, false, false, true, true, false, false, false, false] rfl rfl (by kernel_rfl) (fun _ _ _ h => h) (Or.inl ⟨by rfl, ?_⟩) ?_ ?_
  rotate_left
  · intro w'
    go_simp
    with_reducible rfl
  rotate_left
  · simp only [Act.put, List.setIfInBounds_toArray, List.set_cons_zero, List.set_cons_succ, i64_w, i32_w]
    rfl
  refine take_ (i := 2) (N := some 41) (v := ?_) (a' := ?_) #[true, true, true, false, true, true, false, false, false, false] rfl rfl (by kernel_rfl) (fun _ _ _ h => h) (Or.inl ⟨by rfl, ?_⟩) hHeld ?_ ?_
  rotate_left
  · intro w' s0
    go_simp
    with_reducible rfl
  rotate_left
  · simp only [Act.put, List.setIfInBounds_toArray, List.set_cons_zero, List.set_cons_succ, i64_w, i32_w]
    rfl
  refine take_ (i := 6) (N := some 45) (v := ?_) (a' := ?_) #[true, true, true, false, true, true, true, false, false, false] rfl rfl (by kernel_rfl) (fun _ _ _ h => h) (Or.inl ⟨by rfl, ?_⟩) hHeld ?_ ?_
  rotate_left
  · intro w' s0
    go_simp
    with_reducible rfl
  rotate_left
  · simp only [Act.put, List.setIfInBounds_toArray, List.set_cons_zero, List.set_cons_succ, i64_w, i32_w]
    rfl
  refine one_ (i := 3) (N := some 42) #[true, true, true, true, true, true, true, false, false, false] rfl rfl (by kernel_rfl) (by decide) (fun K hK => ?_)
  refine goes_ Try.func15 (by kernel_rfl) rfl #[.pointer (some ⟨g, 0, none⟩), .int .i64 n] (by rfl) rfl rfl (by simp only [List.map_toArray, List.map_cons, List.map_nil]; rfl) ?_
  with_reducible refine (text_calls T1.out.a n HN.out.2).mono ?_
  rintro e w1 ⟨rfl, h1, h2⟩
  refine ⟨_, rfl, ?_⟩
  have O1 := Aside0.mk (O0.out.kp T1.out.a h2 (by decide))
  have r1 := O1.out.c1
  have L1 := Aside0.mk (T1.out.left h2)
  have R1 := Aside0.mk h1
  have K1 := Aside0.mk h2
  clear h1 h2
  refine hK.out _ _ (r1) (fun hHeld => ?_)
  clear hK K
  refine norm_ (a' := ?_) ?_ ?_
  rotate_left
  · show Act.put _ (some 42) _ = _
    simp only [Act.put, List.setIfInBounds_toArray, List.set_cons_zero, List.set_cons_succ, i64_w, i32_w]
    rfl
  refine one_ (i := 7) (N := some 46) #[true, true, true, true, true, true, true, true, false, false] rfl rfl (by kernel_rfl) (by decide) (fun K hK => ?_)
  refine goes_ Try.func50 (by kernel_rfl) rfl #[.pointer (some ⟨h, 0, none⟩), .int .i64 n] (by rfl) rfl rfl (by simp only [List.map_toArray, List.map_cons, List.map_nil]; rfl) ?_
  with_reducible refine (rtext_calls L1.out n HN.out.2).mono ?_
  rintro e w2 ⟨rfl, h1, h2⟩
  refine ⟨_, rfl, ?_⟩
  have O2 := Aside0.mk (O1.out.kp L1.out h2 (by decide))
  have R2 := Aside0.mk h1
  have K2 := Aside0.mk h2
  clear h1 h2
  refine hK.out _ _ (O2.out.c1) (fun hHeld => ?_)
  clear hK K
  refine norm_ (a' := ?_) ?_ ?_
  rotate_left
  · show Act.put _ (some 46) _ = _
    simp only [Act.put, List.setIfInBounds_toArray, List.set_cons_zero, List.set_cons_succ, i64_w, i32_w]
    rfl
  refine pure_ (i := 8) (N := some 47) (v := ?_) (a' := ?_) #[true, true, true, true, true, true, true, true, true, false] rfl rfl (by kernel_rfl) (fun _ _ _ h => h) (Or.inl ⟨by rfl, ?_⟩) ?_ ?_
  rotate_left
  · intro w'
    go_simp
    with_reducible rfl
  rotate_left
  · simp only [Act.put, List.setIfInBounds_toArray, List.set_cons_zero, List.set_cons_succ, i64_w, i32_w]
    rfl
  refine pure_ (i := 9) (N := some 6) (v := ?_) (a' := ?_) #[true, true, true, true, true, true, true, true, true, true] rfl rfl (by kernel_rfl) (fun _ _ _ h => h) (Or.inl ⟨by rfl, ?_⟩) ?_ ?_
  rotate_left
  · intro w'
    go_simp
    with_reducible rfl
  rotate_left
  · simp only [Act.put, List.setIfInBounds_toArray, List.set_cons_zero, List.set_cons_succ, i64_w, i32_w]
    rfl
  refine done_ (by kernel_rfl) ?_
  go_wp2
  go_ret
  exact ⟨by first | rfl | simp, ⟨_, _, Two.both R1.out L1.out NE.out K2.out R2.out⟩, (BD.out.trans K1.out.2).trans K2.out.2⟩


set_option maxHeartbeats 2000000 in
set_option maxRecDepth 100000 in
theorem do6 {w : World} {B g h : Nat} {bs : List Int} {p : Nat} {er : Int} (t : Two w B g h bs p er) (n : Int) (hn : -9223372036854775808 ≤ n ∧ n < 9223372036854775808) (s : ByteArray) :
    Calls Try.prog 20 #[.pointer (some ⟨g, 0, none⟩), .pointer (some ⟨h, 0, none⟩), .agg #[.int .i64 6, .int .i64 n, .string s]] w fun e w' => DoPost w w' B g h bs e := by
  have BA := Aside0.mk (below_alloc (Below.refl w.heap.size w) (.cells #[.int .i64 6, .int .i64 n, .string s] 28))
  have O := Aside0.mk (show OBox (w.alloc (.cells #[.int .i64 6, .int .i64 n, .string s] 28)) w.heap.size 6 n s from ⟨blk_new w _⟩)
  have T0 := Aside0.mk (t.below BA.out)
  have NE := Aside0.mk t.ne
  have RS := Aside0.mk t.a.size
  have HN := Aside0.mk hn
  have q0 := O.out.c0
  have q1 := O.out.c1
  clear hn t
  have T1 := Aside0.mk (T0.out.below (Below.refl _ _).drew)
  have O0 := Aside0.mk (O.out.below (Below.refl _ _).drew)
  have BD := Aside0.mk ((BA.out.mono RS.out).drew)
  go_enter Try.func20, Try.ntmps20
  go_wp2
  refine start_ (n := 10) (S := fun w' => w'.cell? ⟨w.heap.size, 1, none⟩ = some (.int .i64 n)) (ds := []) #[false, false, false, false, false, false, false, false, false, false] (by kernel_rfl) rfl rfl (O0.out.c1) (fun hHeld => ?_)
  refine pure_ (i := 0) (N := some 50) (v := ?_) (a' := ?_) #[true, false, false, false, false, false, false, false, false, false] rfl rfl (by kernel_rfl) (fun _ _ _ h => h) (Or.inl ⟨by rfl, ?_⟩) ?_ ?_
  rotate_left
  · intro w'
    go_simp
    with_reducible rfl
  rotate_left
  · simp only [Act.put, List.setIfInBounds_toArray, List.set_cons_zero, List.set_cons_succ, i64_w, i32_w]
    rfl
  refine pure_ (i := 1) (N := some 51) (v := ?_) (a' := ?_) #[true, true, false, false, false, false, false, false, false, false] rfl rfl (by kernel_rfl) (fun _ _ _ h => h) (Or.inl ⟨by rfl, ?_⟩) ?_ ?_
  rotate_left
  · intro w'
    go_simp
    with_reducible rfl
  rotate_left
  · simp only [Act.put, List.setIfInBounds_toArray, List.set_cons_zero, List.set_cons_succ, i64_w, i32_w]
    rfl
  refine pure_ (i := 4) (N := some 54) (v := ?_) (a' := ?_) #[true, true, false, false, true, false, false, false, false, false] rfl rfl (by kernel_rfl) (fun _ _ _ h => h) (Or.inl ⟨by rfl, ?_⟩) ?_ ?_
  rotate_left
  · intro w'
    go_simp
    with_reducible rfl
  rotate_left
  · simp only [Act.put, List.setIfInBounds_toArray, List.set_cons_zero, List.set_cons_succ, i64_w, i32_w]
    rfl
  refine pure_ (i := 5) (N := some 55) (v := ?_) (a' := ?_) #[true, true, false, false, true, true, false, false, false, false] rfl rfl (by kernel_rfl) (fun _ _ _ h => h) (Or.inl ⟨by rfl, ?_⟩) ?_ ?_
  rotate_left
  · intro w'
    go_simp
    with_reducible rfl
  rotate_left
  · simp only [Act.put, List.setIfInBounds_toArray, List.set_cons_zero, List.set_cons_succ, i64_w, i32_w]
    rfl
  refine take_ (i := 2) (N := some 52) (v := ?_) (a' := ?_) #[true, true, true, false, true, true, false, false, false, false] rfl rfl (by kernel_rfl) (fun _ _ _ h => h) (Or.inl ⟨by rfl, ?_⟩) hHeld ?_ ?_
  rotate_left
  · intro w' s0
    go_simp
    with_reducible rfl
  rotate_left
  · simp only [Act.put, List.setIfInBounds_toArray, List.set_cons_zero, List.set_cons_succ, i64_w, i32_w]
    rfl
  refine take_ (i := 6) (N := some 56) (v := ?_) (a' := ?_) #[true, true, true, false, true, true, true, false, false, false] rfl rfl (by kernel_rfl) (fun _ _ _ h => h) (Or.inl ⟨by rfl, ?_⟩) hHeld ?_ ?_
  rotate_left
  · intro w' s0
    go_simp
    with_reducible rfl
  rotate_left
  · simp only [Act.put, List.setIfInBounds_toArray, List.set_cons_zero, List.set_cons_succ, i64_w, i32_w]
    rfl
  refine one_ (i := 3) (N := some 53) #[true, true, true, true, true, true, true, false, false, false] rfl rfl (by kernel_rfl) (by decide) (fun K hK => ?_)
  refine goes_ Try.func23 (by kernel_rfl) rfl #[.pointer (some ⟨g, 0, none⟩), .int .i64 n] (by rfl) rfl rfl (by simp only [List.map_toArray, List.map_cons, List.map_nil]; rfl) ?_
  with_reducible refine (count_calls T1.out.a n HN.out.2).mono ?_
  rintro e w1 ⟨rfl, h1, h2⟩
  refine ⟨_, rfl, ?_⟩
  have O1 := Aside0.mk (O0.out.kp T1.out.a h2 (by decide))
  have r1 := O1.out.c1
  have L1 := Aside0.mk (T1.out.left h2)
  have R1 := Aside0.mk h1
  have K1 := Aside0.mk h2
  clear h1 h2
  refine hK.out _ _ (r1) (fun hHeld => ?_)
  clear hK K
  refine norm_ (a' := ?_) ?_ ?_
  rotate_left
  · show Act.put _ (some 53) _ = _
    simp only [Act.put, List.setIfInBounds_toArray, List.set_cons_zero, List.set_cons_succ, i64_w, i32_w]
    rfl
  refine one_ (i := 7) (N := some 57) #[true, true, true, true, true, true, true, true, false, false] rfl rfl (by kernel_rfl) (by decide) (fun K hK => ?_)
  refine goes_ Try.func51 (by kernel_rfl) rfl #[.pointer (some ⟨h, 0, none⟩), .int .i64 n] (by rfl) rfl rfl (by simp only [List.map_toArray, List.map_cons, List.map_nil]; rfl) ?_
  with_reducible refine (rcount_calls L1.out n HN.out.2).mono ?_
  rintro e w2 ⟨rfl, h1, h2⟩
  refine ⟨_, rfl, ?_⟩
  have O2 := Aside0.mk (O1.out.kp L1.out h2 (by decide))
  have R2 := Aside0.mk h1
  have K2 := Aside0.mk h2
  clear h1 h2
  refine hK.out _ _ (O2.out.c1) (fun hHeld => ?_)
  clear hK K
  refine norm_ (a' := ?_) ?_ ?_
  rotate_left
  · show Act.put _ (some 57) _ = _
    simp only [Act.put, List.setIfInBounds_toArray, List.set_cons_zero, List.set_cons_succ, i64_w, i32_w]
    rfl
  refine pure_ (i := 8) (N := some 58) (v := ?_) (a' := ?_) #[true, true, true, true, true, true, true, true, true, false] rfl rfl (by kernel_rfl) (fun _ _ _ h => h) (Or.inl ⟨by rfl, ?_⟩) ?_ ?_
  rotate_left
  · intro w'
    go_simp
    with_reducible rfl
  rotate_left
  · simp only [Act.put, List.setIfInBounds_toArray, List.set_cons_zero, List.set_cons_succ, i64_w, i32_w]
    rfl
  refine pure_ (i := 9) (N := some 6) (v := ?_) (a' := ?_) #[true, true, true, true, true, true, true, true, true, true] rfl rfl (by kernel_rfl) (fun _ _ _ h => h) (Or.inl ⟨by rfl, ?_⟩) ?_ ?_
  rotate_left
  · intro w'
    go_simp
    with_reducible rfl
  rotate_left
  · simp only [Act.put, List.setIfInBounds_toArray, List.set_cons_zero, List.set_cons_succ, i64_w, i32_w]
    rfl
  refine done_ (by kernel_rfl) ?_
  go_wp2
  go_ret
  exact ⟨by first | rfl | simp, ⟨_, _, Two.both R1.out L1.out NE.out K2.out R2.out⟩, (BD.out.trans K1.out.2).trans K2.out.2⟩


set_option maxHeartbeats 2000000 in
set_option maxRecDepth 100000 in
theorem do7 {w : World} {B g h : Nat} {bs : List Int} {p : Nat} {er : Int} (t : Two w B g h bs p er) (n : Int) (hn : -9223372036854775808 ≤ n ∧ n < 9223372036854775808) (s : ByteArray) :
    Calls Try.prog 20 #[.pointer (some ⟨g, 0, none⟩), .pointer (some ⟨h, 0, none⟩), .agg #[.int .i64 7, .int .i64 n, .string s]] w fun e w' => DoPost w w' B g h bs e := by
  have BA := Aside0.mk (below_alloc (Below.refl w.heap.size w) (.cells #[.int .i64 7, .int .i64 n, .string s] 28))
  have O := Aside0.mk (show OBox (w.alloc (.cells #[.int .i64 7, .int .i64 n, .string s] 28)) w.heap.size 7 n s from ⟨blk_new w _⟩)
  have T0 := Aside0.mk (t.below BA.out)
  have NE := Aside0.mk t.ne
  have RS := Aside0.mk t.a.size
  have HN := Aside0.mk hn
  have q0 := O.out.c0
  have q1 := O.out.c1
  clear hn t
  go_enter Try.func20, Try.ntmps20
  go_wp2_with (first
    | (go_at_call 22; (with_reducible refine (fail_calls T0.out.a n).mono ?_); rintro e w1 ⟨rfl, h1, h2⟩; have O1 := Aside0.mk (O.out.kp T0.out.a h2 (by decide)); have r1 := O1.out.c1; have L1 := Aside0.mk (T0.out.left h2); have R1 := Aside0.mk h1; have K1 := Aside0.mk h2; clear h1 h2)
    | (go_at_call 52; (with_reducible refine (rfail_calls L1.out n).mono ?_); rintro e w2 ⟨rfl, h1, h2⟩; have R2 := Aside0.mk h1; have K2 := Aside0.mk h2; clear h1 h2))
  go_ret
  exact ⟨by first | rfl | simp, ⟨_, _, Two.both R1.out L1.out NE.out K2.out R2.out⟩, ((BA.out.mono RS.out).trans K1.out.2).trans K2.out.2⟩


set_option maxHeartbeats 2000000 in
set_option maxRecDepth 100000 in
theorem do8 {w : World} {B g h : Nat} {bs : List Int} {p : Nat} {er : Int} (t : Two w B g h bs p er) (n : Int) (hn : -9223372036854775808 ≤ n ∧ n < 9223372036854775808) (s : ByteArray) :
    Calls Try.prog 20 #[.pointer (some ⟨g, 0, none⟩), .pointer (some ⟨h, 0, none⟩), .agg #[.int .i64 8, .int .i64 n, .string s]] w fun e w' => DoPost w w' B g h bs e := by
  have BA := Aside0.mk (below_alloc (Below.refl w.heap.size w) (.cells #[.int .i64 8, .int .i64 n, .string s] 28))
  have O := Aside0.mk (show OBox (w.alloc (.cells #[.int .i64 8, .int .i64 n, .string s] 28)) w.heap.size 8 n s from ⟨blk_new w _⟩)
  have T0 := Aside0.mk (t.below BA.out)
  have NE := Aside0.mk t.ne
  have RS := Aside0.mk t.a.size
  have HN := Aside0.mk hn
  have q0 := O.out.c0
  have q1 := O.out.c1
  clear hn t
  go_enter Try.func20, Try.ntmps20
  go_wp2_with (first
    | (go_at_call 16; (with_reducible refine (end_calls T0.out.a).mono ?_); rintro e w1 ⟨rfl, h1, h2⟩; have O1 := Aside0.mk (O.out.kp T0.out.a h2 (by decide)); have r1 := O1.out.c1; have L1 := Aside0.mk (T0.out.left h2); have R1 := Aside0.mk h1; have K1 := Aside0.mk h2; clear h1 h2)
    | (go_at_call 53; (with_reducible refine (rend_calls L1.out).mono ?_); rintro e w2 ⟨rfl, h1, h2⟩; have R2 := Aside0.mk h1; have K2 := Aside0.mk h2; clear h1 h2))
  go_ret
  exact ⟨by first | rfl | simp, ⟨_, _, Two.both R1.out L1.out NE.out K2.out R2.out⟩, ((BA.out.mono RS.out).trans K1.out.2).trans K2.out.2⟩


set_option maxHeartbeats 2000000 in
set_option maxRecDepth 100000 in
theorem doOther {w : World} {B g h : Nat} {bs : List Int} {p : Nat} {er : Int} (t : Two w B g h bs p er) (K : Int) (hK : K < 1 ∨ 8 < K) (n : Int) (hn : -9223372036854775808 ≤ n ∧ n < 9223372036854775808) (s : ByteArray) :
    Calls Try.prog 20 #[.pointer (some ⟨g, 0, none⟩), .pointer (some ⟨h, 0, none⟩), .agg #[.int .i64 K, .int .i64 n, .string s]] w fun e w' => DoPost w w' B g h bs e := by
  have BA := Aside0.mk (below_alloc (Below.refl w.heap.size w) (.cells #[.int .i64 K, .int .i64 n, .string s] 28))
  have O := Aside0.mk (show OBox (w.alloc (.cells #[.int .i64 K, .int .i64 n, .string s] 28)) w.heap.size K n s from ⟨blk_new w _⟩)
  have T0 := Aside0.mk (t.below BA.out)
  have NE := Aside0.mk t.ne
  have RS := Aside0.mk t.a.size
  have HN := Aside0.mk hn
  have q0 := O.out.c0
  have q1 := O.out.c1
  clear hn t
  have b1 : (K == 1) = false := beq_eq_false_iff_ne.mpr (by omega)
  have b2 : (K == 2) = false := beq_eq_false_iff_ne.mpr (by omega)
  have b3 : (K == 3) = false := beq_eq_false_iff_ne.mpr (by omega)
  have b4 : (K == 4) = false := beq_eq_false_iff_ne.mpr (by omega)
  have b5 : (K == 5) = false := beq_eq_false_iff_ne.mpr (by omega)
  have b6 : (K == 6) = false := beq_eq_false_iff_ne.mpr (by omega)
  have b7 : (K == 7) = false := beq_eq_false_iff_ne.mpr (by omega)
  have b8 : (K == 8) = false := beq_eq_false_iff_ne.mpr (by omega)
  clear hK
  go_enter Try.func20, Try.ntmps20
  go_wp2
  go_ret
  exact ⟨rfl, ⟨_, _, T0.out⟩, BA.out.mono RS.out⟩


theorem do_calls {w : World} {B g h : Nat} {bs : List Int} {p : Nat} {er : Int} (t : Two w B g h bs p er) (K n : Int) (hn : -9223372036854775808 ≤ n ∧ n < 9223372036854775808) (s : ByteArray) :
    Calls Try.prog 20 #[.pointer (some ⟨g, 0, none⟩), .pointer (some ⟨h, 0, none⟩), .agg #[.int .i64 K, .int .i64 n, .string s]] w fun e w' => DoPost w w' B g h bs e := by
  by_cases h0 : K < 1 ∨ 8 < K
  · exact doOther t K h0 n hn s
  · have : K = 1 ∨ K = 2 ∨ K = 3 ∨ K = 4 ∨ K = 5 ∨ K = 6 ∨ K = 7 ∨ K = 8 := by omega
    rcases this with rfl | rfl | rfl | rfl | rfl | rfl | rfl | rfl
    · exact do1 t n hn s
    · exact do2 t n hn s
    · exact do3 t n hn s
    · exact do4 t n hn s
    · exact do5 t n hn s
    · exact do6 t n hn s
    · exact do7 t n hn s
    · exact do8 t n hn s

end Go.Proofs.Ytjanjpchdjagjaa.Rd
