/- What is written is read again: the plain law of CurWrites, and a reader's methods where it holds what was written. -/
import Derived.Test.YtjanjpchdjagjaaReads
set_option linter.unusedVariables false
set_option linter.unusedSimpArgs false
namespace Go.Proofs.Ytjanjpchdjagjaa.Rd
open Go Go.RowKit Go.Proofs.YtjanjpchdjagjaaW.PrintWords Go.Proofs.YtjanjpchdjagjaaW.PrintLast Go.Proofs.Ytjanjpchdjagjaa.LebM Go.Proofs.Ytjanjpchdjagjaa.Leb
open Go.Proofs.Ytjanjpchdjagjaa.Pen (Buf Moved)

def wr8 (l : List S28) : List Int := l.flatMap fun s => opM s.f0 s.f1 s.f2
theorem wr8_nil : wr8 [] = [] := rfl
theorem wr8_app (a b : List S28) : wr8 (a ++ b) = wr8 a ++ wr8 b := by unfold wr8; rw [List.flatMap_append]
theorem take_succ_of {l : List S28} {j : Nat} {x : S28} (h : l[j]? = some x) : l.take (j + 1) = l.take j ++ [x] := by
  rw [List.take_add_one, h]
  rfl
theorem wr8_succ {l : List S28} {j : Nat} {x : S28} (h : l[j]? = some x) : wr8 (l.take (j + 1)) = wr8 (l.take j) ++ opM x.f0 x.f1 x.f2 := by
  rw [take_succ_of h, wr8_app]
  simp [wr8]
theorem wr8_drop {l : List S28} {j : Nat} {x : S28} (h : l[j]? = some x) : (wr8 l).drop (wr8 (l.take j)).length = opM x.f0 x.f1 x.f2 ++ wr8 (l.drop (j + 1)) := by
  have e : wr8 l = wr8 (l.take j) ++ (opM x.f0 x.f1 x.f2 ++ wr8 (l.drop (j + 1))) := by
    conv => lhs; rw [← List.take_append_drop (j + 1) l, wr8_app, wr8_succ h, List.append_assoc]
  conv => lhs; rw [e]
  exact List.drop_left
theorem wr8_good {l : List S28} (hn : ∀ s ∈ l, -9223372036854775808 ≤ s.f1 ∧ s.f1 < 9223372036854775808) (hs : ∀ s ∈ l, s.f2.size ≤ 1000) : (∀ x ∈ wr8 l, 0 ≤ x ∧ x < 256) ∧ (wr8 l).length ≤ 1010 * l.length := by
  induction l with
  | nil => exact ⟨by simp [wr8], by simp [wr8]⟩
  | cons a r ih =>
    obtain ⟨h1, h2⟩ := ih (fun s h => hn s (List.mem_cons_of_mem _ h)) (fun s h => hs s (List.mem_cons_of_mem _ h))
    obtain ⟨h3, h4⟩ := opM_bytes a.f0 a.f1 a.f2 (hs a List.mem_cons_self) (hn a List.mem_cons_self)
    have e : wr8 (a :: r) = opM a.f0 a.f1 a.f2 ++ wr8 r := by simp [wr8]
    rw [e]
    refine ⟨fun x hx => ?_, ?_⟩
    · rcases List.mem_append.1 hx with hx | hx
      · exact h3 x hx
      · exact h1 x hx
    · rw [List.length_append, List.length_cons]
      omega
theorem all_of {l : List S28} {p : S28 → Prop} (h : ∀ i x, i < l.length → l[i]? = some x → p x) : ∀ s ∈ l, p s := by
  intro s hs
  obtain ⟨i, hi, e⟩ := List.getElem_of_mem hs
  exact h i s hi (by rw [← e]; exact List.getElem?_eq_getElem hi)
theorem all_take {l : List S28} {p : S28 → Prop} {j : Nat} (h : ∀ i x, i < j → l[i]? = some x → p x) : ∀ s ∈ l.take j, p s := by
  refine all_of fun i x hi hx => ?_
  rw [List.length_take] at hi
  rw [List.getElem?_take, if_pos (by omega)] at hx
  exact h i x (by omega) hx

section
variable {bs rest : List Int} {p : Nat}
theorem r_u {n : Int} (h0 : 0 ≤ n ∧ n < 18446744073709551616) (hd : bs.drop p = putN 9 n ++ rest) : uM bs p 0 = (n, p + (putN 9 n).length, 0) := by
  have h : getM bs p = (n, ((putN 9 n).length : Int), 0) := by unfold getM; rw [hd]; exact get_put0 rest h0.1 h0.2
  unfold uM
  rw [h]
  simp
theorem r_i {n : Int} (h0 : -9223372036854775808 ≤ n ∧ n < 9223372036854775808) (hd : bs.drop p = putN 9 (zigS n) ++ rest) : iM bs p 0 = (n, p + (putN 9 (zigS n)).length, 0) := by
  have hz := zigS_range h0
  have h : getM bs p = (zigS n, ((putN 9 (zigS n)).length : Int), 0) := by unfold getM; rw [hd]; exact get_put0 rest hz.1 (by omega)
  unfold iM
  rw [h]
  simp [zag_zig]
theorem getD_of {ys : List Int} (hd : bs.drop p = ys ++ rest) {i : Nat} (hi : i < ys.length) : bs.getD (p + i) 0 = ys.getD i 0 ∧ p + i < bs.length := by
  have h1 : (bs.drop p)[i]? = some ys[i] := by rw [hd, List.getElem?_append_left hi, List.getElem?_eq_getElem hi]
  rw [List.getElem?_drop] at h1
  refine ⟨?_, (List.getElem?_eq_some_iff.1 h1).1⟩
  rw [List.getD_eq_getElem?_getD, List.getD_eq_getElem?_getD, h1, List.getElem?_eq_getElem hi]
theorem r_byte {x : Int} (hd : bs.drop p = [x] ++ rest) : byteM bs p 0 = (x, p + 1, 0) := by
  obtain ⟨h1, h2⟩ := getD_of hd (i := 0) (by simp)
  rw [Nat.add_zero] at h1 h2
  unfold byteM
  rw [if_neg (by simp), if_pos h2, h1]
  rfl
theorem r_word {n : Int} (h0 : 0 ≤ n ∧ n < 4294967296) (hd : bs.drop p = wordN n ++ rest) : wordM bs p 0 = (n, p + 4, 0) := by
  have hl : (wordN n).length = 4 := rfl
  have d : ∀ i, i < 4 → bs.getD (p + i) 0 = (wordN n).getD i 0 ∧ p + i < bs.length := fun i hi => getD_of hd (by omega)
  have h3 := (d 3 (by omega)).2
  unfold wordM
  rw [if_neg (by simp), if_pos (by omega), le4]
  have e : bs.getD (p + 0) 0 + 256 * bs.getD (p + 1) 0 + 65536 * bs.getD (p + 2) 0 + 16777216 * bs.getD (p + 3) 0 = n := by
    rw [(d 0 (by omega)).1, (d 1 (by omega)).1, (d 2 (by omega)).1, (d 3 (by omega)).1]
    show n % 256 + 256 * (n / 256 % 256) + 65536 * (n / 65536 % 256) + 16777216 * (n / 16777216 % 256) = n
    omega
  rw [e]
theorem str_bytes (s : ByteArray) : strOfNums (bytesOf s) = s := by
  obtain ⟨⟨l⟩⟩ := s
  simp only [strOfNums, bytesOf, List.map_map]
  congr 2
  conv => rhs; rw [← List.map_id l]
  refine List.map_congr_left fun b _ => ?_
  simp
theorem r_text {s : ByteArray} (hs : s.size ≤ 1000) (hd : bs.drop p = (putN 9 s.size ++ bytesOf s) ++ rest) : textM bs p 0 s.size = (s, p + (putN 9 s.size ++ bytesOf s).length, 0) := by
  have hd1 : bs.drop p = putN 9 s.size ++ (bytesOf s ++ rest) := by rw [hd, List.append_assoc]
  have h : getM bs p = ((s.size : Int), ((putN 9 s.size).length : Int), 0) := by unfold getM; rw [hd1]; exact get_put0 _ (by omega) (by omega)
  have hd2 : bs.drop (p + (putN 9 s.size).length) = bytesOf s ++ rest := by
    rw [← List.drop_drop, hd1]
    exact List.drop_left
  have hl : (bytesOf s).length = s.size := bytesOf_length s
  have hlen : (bs.drop (p + (putN 9 s.size).length)).length = s.size + rest.length := by rw [hd2, List.length_append, hl]
  rw [List.length_drop] at hlen
  unfold textM
  rw [h]
  simp only [Int.toNat_natCast]
  rw [if_neg (by simp), if_neg (by simp), if_neg (by omega)]
  by_cases h0 : s.size = 0
  · rw [if_neg (by
      rcases Nat.lt_or_ge bs.length (p + (putN 9 s.size).length) with h' | h'
      · have : bs.drop p = [] ∨ True := .inr trivial
        have h5 := congrArg List.length hd1
        rw [List.length_drop, List.length_append] at h5
        have := putN_pos 9 (s.size : Int)
        omega
      · omega)]
    have e0 : (bytesOf s) = [] := List.eq_nil_of_length_eq_zero (by omega)
    have e1 : ((bs.take (p + (putN 9 s.size).length + s.size)).drop (p + (putN 9 s.size).length)) = [] := by
      apply List.eq_nil_of_length_eq_zero
      rw [List.length_drop, List.length_take]
      omega
    rw [e1, ← e0, str_bytes, List.length_append, hl]
    rw [Nat.add_assoc]
  · rw [if_neg (by omega)]
    have e1 : ((bs.take (p + (putN 9 s.size).length + s.size)).drop (p + (putN 9 s.size).length)) = bytesOf s := by
      rw [List.drop_take, show p + (putN 9 s.size).length + s.size - (p + (putN 9 s.size).length) = s.size from by omega, hd2, ← hl]
      exact List.take_left
    rw [e1, str_bytes, List.length_append, hl]
    rw [Nat.add_assoc]
end

section
variable {B g : Nat} {w : World} {bs : List Int} {p q : Nat} {rest : List Int}
theorem w_u (r : Rdr 64 B w g bs p 0) {n : Int} (h0 : 0 ≤ n ∧ n < 18446744073709551616) (hd : bs.drop p = putN 9 n ++ rest) (hq : p + (putN 9 n).length = q) : Calls Try.prog 11 #[.pointer (some ⟨g, 0, none⟩)] w fun e w' => e = .returned (.int .u64 n) ∧ Rdr 64 B w' g bs q 0 ∧ Kp B w w' g := by
  subst hq
  refine (u_calls r).mono fun e w' h => ?_
  rw [r_u h0 hd] at h
  exact h
theorem w_i (r : Rdr 64 B w g bs p 0) {n : Int} (h0 : -9223372036854775808 ≤ n ∧ n < 9223372036854775808) (hd : bs.drop p = putN 9 (zigS n) ++ rest) (hq : p + (putN 9 (zigS n)).length = q) : Calls Try.prog 12 #[.pointer (some ⟨g, 0, none⟩)] w fun e w' => e = .returned (.int .i64 n) ∧ Rdr 64 B w' g bs q 0 ∧ Kp B w w' g := by
  subst hq
  refine (i_calls r).mono fun e w' h => ?_
  rw [r_i h0 hd] at h
  exact h
theorem w_byte (r : Rdr 64 B w g bs p 0) {x : Int} (hd : bs.drop p = [x] ++ rest) (hq : p + 1 = q) : Calls Try.prog 13 #[.pointer (some ⟨g, 0, none⟩)] w fun e w' => e = .returned (.int .i64 x) ∧ Rdr 64 B w' g bs q 0 ∧ Kp B w w' g := by
  subst hq
  refine (byte_calls r).mono fun e w' h => ?_
  rw [r_byte hd] at h
  exact h
theorem w_word (r : Rdr 64 B w g bs p 0) {n : Int} (h0 : 0 ≤ n ∧ n < 4294967296) (hd : bs.drop p = wordN n ++ rest) (hq : p + 4 = q) : Calls Try.prog 14 #[.pointer (some ⟨g, 0, none⟩)] w fun e w' => e = .returned (.int .u32 n) ∧ Rdr 64 B w' g bs q 0 ∧ Kp B w w' g := by
  subst hq
  refine (word_calls r).mono fun e w' h => ?_
  rw [r_word h0 hd] at h
  exact h
theorem w_text (r : Rdr 64 B w g bs p 0) {s : ByteArray} (hs : s.size ≤ 1000) (hd : bs.drop p = (putN 9 s.size ++ bytesOf s) ++ rest) (hq : p + (putN 9 s.size ++ bytesOf s).length = q) : Calls Try.prog 15 #[.pointer (some ⟨g, 0, none⟩), .int .i64 (s.size : Int)] w fun e w' => e = .returned (.string s) ∧ Rdr 64 B w' g bs q 0 ∧ Kp B w w' g := by
  subst hq
  refine (text_calls r (s.size : Int) (by omega)).mono fun e w' h => ?_
  rw [r_text hs hd] at h
  exact h
theorem w_end (r : Rdr 64 B w g bs bs.length 0) : Calls Try.prog 16 #[.pointer (some ⟨g, 0, none⟩)] w fun e w' => e = .returned (.tuple #[]) ∧ Rdr 64 B w' g bs bs.length 0 ∧ Kp B w w' g := by
  refine (end_calls r).mono fun e w' h => ?_
  rw [show endM bs bs.length 0 = 0 from by unfold endM; rw [if_neg (by omega)]] at h
  exact h
theorem w_left (r : Rdr 64 B w g bs bs.length 0) : Calls Try.prog 19 #[.pointer (some ⟨g, 0, none⟩)] w fun e w' => e = .returned (.int .i64 0) ∧ Drawn0 w w' := by
  refine (left_calls r).mono fun e w' h => ?_
  rw [show leftM bs bs.length 0 = 0 from by unfold leftM; rw [if_pos rfl]; omega] at h
  exact h
end

/-- a cell of a call's row stays where a reader moves -/
theorem cell_kp {w w' : World} {T B b2 g : Nat} {bs : List Int} {p : Nat} {er : Int} {a : Addr} {u : Value} (r : Rdr T B w g bs p er) (k : Kp b2 w w' g) (hlow : a.block < b2) (h : w.cell? a = some u) : w'.cell? a = some u := by
  have h1 := k.2.block a.block hlow
  have : w'.cell? a = w.cell? a := by simp only [World.cell?, h1]
  rw [this]
  exact h
/-- a row of numbers: what blocks it may lie in besides -/
theorem R_ok {w : World} {e base : Nat} {ok ok' : Nat → Prop} {v : Value} {xs : List Int} (h : (Kd.int .u8).R e w base ok v xs) (h' : ∀ k, v.ownBlock = some k → ok' k) : (Kd.int .u8).R e w base ok' v xs := ⟨h', h.2⟩
/-- a pen, and the row that is held beside it -/
structure Pst (w : World) (B g : Nat) (v u : Value) (xs : List Int) : Prop where
  b : Buf w 57 #[v] g B v xs
  r : (Kd.int .u8).R 5 w B (fun _ => True) u xs
  n : NeRow v u
section
variable {w w1 w2 : World} {B g : Nat} {v v' u u2 : Value} {xs ys zs : List Int}
theorem Pst.below (p : Pst w B g v u xs) (h : Below w.heap.size w w1) : Pst w1 B g v u xs := ⟨p.b.below h, Kd.R_below p.r h, p.n⟩
theorem Pst.put (p : Pst w B g v u xs) (k : KeepBut w w1 g v.ownBlock) (m : Moved w v v') : (Kd.int .u8).R 5 w1 B (fun _ => True) u xs ∧ NeRow v' u := by
  have hu : (Kd.int .u8).R 5 w B (fun k => k ≠ g ∧ some k ≠ v.ownBlock) u xs := R_ok p.r fun k hk => ⟨fun e => Kd.R_ne p.r p.b.blk (by decide) (by rw [hk, e]), fun e => p.n k e.symm hk⟩
  refine ⟨Kd.R_mono (Kd.R_step hu fun j hj hlt => k.2 j hlt hj.1 hj.2) (fun _ _ => trivial), ?_⟩
  obtain ⟨inner, ho⟩ := Kd.R_own p.r
  exact ne_append p.n m ho
theorem Pst.app (b : Buf w1 57 #[v'] g B v' zs) (hu : (Kd.int .u8).R 5 w1 B (fun _ => True) u xs) (hn : NeRow v' u) (h2 : (Kd.int .u8).R 5 w2 B (fun _ => True) u2 zs) (hg : w1.grownBy w2 u.ownBlock) (m : Moved w1 u u2) (hs : w1.heap.size ≤ w2.heap.size) : Pst w2 B g v' u2 zs := by
  have hne : some g ≠ u.ownBlock := Kd.R_ne hu b.blk (by decide)
  have hr : (Kd.int .u8).R 5 w1 B (fun k => k ≠ g ∧ some k ≠ u.ownBlock) v' zs := R_ok b.row fun k hk => ⟨b.row.1 k hk, fun e => hn k hk e.symm⟩
  obtain ⟨inner, ho⟩ := Kd.R_own b.row
  exact ⟨⟨blk_grown b.blk hg hne, Kd.R_mono (Kd.R_grown hr hg fun k hk => hk.2) (fun _ hk => hk.1), b.low, Nat.le_trans b.size hs⟩, h2, ne_append' hn m ho⟩
end
end Go.Proofs.Ytjanjpchdjagjaa.Rd
