/- A reader of all bytes, from a place on, reads as one of what stands behind that place. -/
import Derived.Test.YtnohflfpahokiaaSec7
import Derived.Test.YtnohflfpahokiaaRRef2
set_option linter.unusedVariables false
set_option linter.unusedSimpArgs false
namespace Go.Proofs.Ytnohflfpahokiaa.Sec
open Go Go.RowKit Go.Proofs.YtnohflfpahokiaaW.PrintWords Go.Proofs.Ytnohflfpahokiaa.LebM Go.Proofs.Ytnohflfpahokiaa.Leb
open Go.Proofs.Ytnohflfpahokiaa.Rd (byteM textM wordM getM leJ)

theorem getM_shift (b : List Int) (k p : Nat) : getM b (k + p) = getM (b.drop k) p := by
  unfold getM
  rw [List.drop_drop]
theorem mid_shift (b : List Int) (k p q : Nat) : (b.take (k + q)).drop (k + p) = ((b.drop k).take q).drop p := by
  rw [← List.drop_drop, List.drop_take, show k + q - k = q from by omega]
theorem getD_shift (b : List Int) (k p : Nat) : b.getD (k + p) 0 = (b.drop k).getD p 0 := by
  rw [List.getD_eq_getElem?_getD, List.getD_eq_getElem?_getD, List.getElem?_drop]
theorem textM_shift {b : List Int} {k : Nat} (hk : k ≤ b.length) (p : Nat) (er m : Int) : textM b (k + p) er m = ((textM (b.drop k) p er m).1, k + (textM (b.drop k) p er m).2.1, (textM (b.drop k) p er m).2.2) := by
  have hl : ((b.drop k).length : Int) = (b.length : Int) - k := by rw [List.length_drop]; omega
  unfold textM
  rw [getM_shift]
  by_cases h0 : er ≠ 0
  · rw [if_pos h0, if_pos h0]
  rw [if_neg h0, if_neg h0]
  by_cases h1 : (getM (b.drop k) p).2.2 ≠ 0
  · rw [if_pos h1, if_pos h1]
  rw [if_neg h1, if_neg h1]
  by_cases h2 : m < 0 ∨ m < (getM (b.drop k) p).1
  · rw [if_pos h2, if_pos h2]
  rw [if_neg h2, if_neg h2]
  by_cases h3 : ((b.drop k).length : Int) - (p + (getM (b.drop k) p).2.1.toNat : Nat) < (getM (b.drop k) p).1
  · rw [if_pos h3, if_pos (by omega)]
  · rw [if_neg h3, if_neg (by omega)]
    rw [show k + p + (getM (b.drop k) p).2.1.toNat = k + (p + (getM (b.drop k) p).2.1.toNat) from by omega, show k + (p + (getM (b.drop k) p).2.1.toNat) + (getM (b.drop k) p).1.toNat = k + (p + (getM (b.drop k) p).2.1.toNat + (getM (b.drop k) p).1.toNat) from by omega, mid_shift]
theorem wordM_shift {b : List Int} {k : Nat} (hk : k ≤ b.length) (p : Nat) (er : Int) : wordM b (k + p) er = ((wordM (b.drop k) p er).1, k + (wordM (b.drop k) p er).2.1, (wordM (b.drop k) p er).2.2) := by
  have hl : (b.drop k).length = b.length - k := List.length_drop
  unfold wordM
  by_cases h0 : er ≠ 0
  · rw [if_pos h0, if_pos h0]
  rw [if_neg h0, if_neg h0]
  by_cases h1 : p + 4 ≤ (b.drop k).length
  · rw [if_pos h1, if_pos (by omega)]
    have e : (fun i => b.getD (k + p + i) 0) = (fun i => (b.drop k).getD (p + i) 0) := by
      funext i
      rw [Nat.add_assoc, getD_shift]
    rw [e]
    simp [Nat.add_assoc]
  · rw [if_neg h1, if_neg (by omega)]
end Go.Proofs.Ytnohflfpahokiaa.Sec
set_option linter.unusedVariables false
set_option linter.unusedSimpArgs false
namespace Go.Proofs.Ytnohflfpahokiaa.Sec
open Go Go.RowKit Go.Proofs.YtnohflfpahokiaaW.PrintWords Go.Proofs.YtnohflfpahokiaaW.PrintLast Go.Proofs.Ytnohflfpahokiaa.LebM Go.Proofs.Ytnohflfpahokiaa.Leb
open Go.Proofs.Ytnohflfpahokiaa.PAll (S39)
open Go.Proofs.Ytnohflfpahokiaa.Rd (byteM textM wordM getM leJ le4)
open Go.Proofs.Ytnohflfpahokiaa.Crc (sumI sumI_range)
open Go.Proofs.Ytnohflfpahokiaa.Head (head5)

theorem gT_of {bs r : List Int} {p : Nat} {x : Int} (h : bs.drop p = x :: r) : gT bs p = x := by
  unfold gT
  rw [List.getD_eq_getElem?_getD, ← Nat.add_zero p, ← List.getElem?_drop, h]
  rfl
theorem drop_more {bs a r : List Int} {p : Nat} (h : bs.drop p = a ++ r) : bs.drop (p + a.length) = r := by
  rw [← List.drop_drop, h, List.drop_left' rfl]
theorem mid_of {bs a r : List Int} {p : Nat} (h : bs.drop p = a ++ r) : (bs.take (p + a.length)).drop p = a := by
  rw [List.drop_take, h, show p + a.length - p = a.length from by omega, List.take_left' rfl]
theorem len_of {bs a : List Int} {p : Nat} (h : bs.drop p = a) : bs.length - p = a.length := by rw [← h, List.length_drop]
theorem textM_of {bs ys r : List Int} {p : Nat} (h : bs.drop p = putN 9 (ys.length : Int) ++ (ys ++ r)) (hl : ys.length ≤ 1048576) :
    textM bs p 0 1048576 = (strOfNums ys, p + (putN 9 (ys.length : Int)).length + ys.length, 0) := by
  have hg : getM bs p = ((ys.length : Int), ((putN 9 (ys.length : Int)).length : Int), 0) := by
    unfold getM
    rw [h]
    exact get_put0 _ (by omega) (by omega)
  have h2 := drop_more h
  have hm := mid_of h2
  have hlen := len_of h
  have hpos := putN_pos 9 (ys.length : Int)
  rw [List.length_append, List.length_append] at hlen
  unfold textM
  rw [hg]
  simp only [Int.toNat_natCast]
  rw [if_neg (by simp), if_neg (by simp), if_neg (by omega), if_neg (by omega), hm]
theorem getD_of {bs : List Int} {p i : Nat} {a r : List Int} (h : bs.drop p = a ++ r) (hi : i < a.length) : bs.getD (p + i) 0 = a.getD i 0 := by
  rw [getD_shift, h, List.getD_eq_getElem?_getD, List.getD_eq_getElem?_getD, List.getElem?_append_left hi]
theorem wordM_of {bs r a : List Int} {p : Nat} (h : bs.drop p = a ++ r) (ha : a.length = 4) : wordM bs p 0 = (a.getD 0 0 + 256 * a.getD 1 0 + 65536 * a.getD 2 0 + 16777216 * a.getD 3 0, p + 4, 0) := by
  have hlen := len_of h
  rw [List.length_append] at hlen
  unfold wordM
  rw [if_neg (by simp), if_pos (by omega), le4, getD_of h (by omega), getD_of h (by omega), getD_of h (by omega), getD_of h (by omega)]
theorem word_back {s : Int} (h : 0 ≤ s ∧ s < 4294967296) : (wordN s).getD 0 0 + 256 * (wordN s).getD 1 0 + 65536 * (wordN s).getD 2 0 + 16777216 * (wordN s).getD 3 0 = s := by
  show s % 256 + 256 * (s / 256 % 256) + 65536 * (s / 65536 % 256) + 16777216 * (s / 16777216 % 256) = s
  omega
/-- a section that stands at a place, whatever its last four bytes -/
theorem sec_at {bs ys wd r : List Int} {p : Nat} {t : Int} (h : bs.drop p = preB t ys ++ (wd ++ r)) (hl : ys.length ≤ 1048576) (hw : wd.length = 4) :
    gT bs p = t % 256 ∧ gX bs p = (strOfNums ys, p + (preB t ys).length, 0) ∧ gW bs p = (wd.getD 0 0 + 256 * wd.getD 1 0 + 65536 * wd.getD 2 0 + 16777216 * wd.getD 3 0, p + (preB t ys).length + 4, 0) ∧ (bs.take (p + (preB t ys).length)).drop p = preB t ys := by
  have h1 : bs.drop p = [t % 256] ++ (putN 9 (ys.length : Int) ++ (ys ++ (wd ++ r))) := by rw [h]; simp [preB]
  have h2 := drop_more h1
  have hx := textM_of h2 hl
  have hX : gX bs p = (strOfNums ys, p + (preB t ys).length, 0) := by
    unfold gX
    rw [show p + 1 = p + [t % 256].length from rfl, hx, preB_length]
    simp only [List.length_cons, List.length_nil]
    rw [show p + (0 + 1) + (putN 9 (ys.length : Int)).length + ys.length = p + (1 + ((putN 9 (ys.length : Int)).length + ys.length)) from by omega]
  refine ⟨gT_of h1, hX, ?_, mid_of h⟩
  unfold gW
  rw [hX]
  exact wordM_of (drop_more h) hw
theorem secB_split (t : Int) (ys r : List Int) : secB t ys ++ r = preB t ys ++ (wordN (sumI (preB t ys)) ++ r) := by unfold secB; rw [List.append_assoc]
theorem secB_len (t : Int) (ys : List Int) : (secB t ys).length = (preB t ys).length + 4 := by unfold secB; rw [List.length_append]; rfl
/-- one step over a section that is as it must be -/
theorem sec_step {bs ys r : List Int} {p : Nat} {t last : Int} (h : bs.drop p = secB t ys ++ r) (hl : ys.length ≤ 1048576) (ht : last < t) (h0 : 0 ≤ t) (h255 : t ≤ 255) :
    gT bs p = t ∧ (gX bs p).1 = strOfNums ys ∧ (gW bs p).2.1 = p + (secB t ys).length ∧ gE bs p last = 0 := by
  rw [secB_split] at h
  obtain ⟨h1, h2, h3, h4⟩ := sec_at h hl rfl
  have e : t % 256 = t := by omega
  rw [e] at h1
  rw [word_back (sumI_range _)] at h3
  refine ⟨h1, by rw [h2], by rw [h3, secB_len]; simp only; omega, ?_⟩
  unfold gE
  rw [h3, h2, h1]
  simp only
  rw [if_neg (by simp), h4, if_neg (by simp), if_neg (by omega)]
/-- sections whose tags rise from one on, and that are not too long -/
def Fine (last : Int) (l : List S39) : Prop := oddM last l = false ∧ ∀ s ∈ l, (∀ x ∈ s.f1, 0 ≤ x ∧ x < 256) ∧ s.f1.length ≤ 1048576
theorem odd_cons {last : Int} {s : S39} {r : List S39} (h : oddM last (s :: r) = false) : last < s.f0 ∧ s.f0 ≤ 255 ∧ oddM s.f0 r = false := by
  unfold oddM oddB at h
  simp only [Bool.or_eq_false_iff, decide_eq_false_iff_not] at h
  exact ⟨by omega, by omega, h.2⟩
theorem odd_mk {last : Int} {s : S39} {r : List S39} (h1 : last < s.f0) (h2 : s.f0 ≤ 255) (h3 : oddM s.f0 r = false) : oddM last (s :: r) = false := by
  unfold oddM oddB
  simp only [Bool.or_eq_false_iff, decide_eq_false_iff_not]
  exact ⟨⟨by omega, by omega⟩, h3⟩
theorem Fine.tail {last : Int} {s : S39} {r : List S39} (h : Fine last (s :: r)) : Fine s.f0 r := ⟨(odd_cons h.1).2.2, fun x hx => h.2 x (List.mem_cons_of_mem _ hx)⟩
def lastOf (last : Int) : List S39 → Int
  | [] => last
  | s :: r => lastOf s.f0 r
theorem secsB_cons (s : S39) (r : List S39) : secsB (s :: r) = secB s.f0 s.f1 ++ secsB r := by simp [secsB]
theorem secB_pos (t : Int) (ys : List Int) : 0 < (secB t ys).length := by rw [secB_len]; omega
/-- Get goes over sections that are as they must be -/
theorem getL_pre {bs : List Int} : ∀ (r : List S39) (rest : List Int) (f p : Nat) (last : Int) (out : List S39), bs.drop p = secsB r ++ rest → Fine last r → 0 ≤ last → out.length + r.length ≤ 16 → bs.length - p < f →
    ∃ f', bs.length - (p + (secsB r).length) < f' ∧ getL bs f last p out = getL bs f' (lastOf last r) (p + (secsB r).length) (out ++ r)
  | [], rest, f, p, last, out, h, hF, h0, hn, hf => ⟨f, by simpa [secsB] using hf, by simp [secsB, lastOf]⟩
  | s :: r, rest, f, p, last, out, h, hF, h0, hn, hf => by
    obtain ⟨f, rfl⟩ : ∃ m, f = m + 1 := ⟨f - 1, by omega⟩
    rw [secsB_cons, List.append_assoc] at h
    have hs := hF.2 s List.mem_cons_self
    have ho := odd_cons hF.1
    obtain ⟨h1, h2, h3, h4⟩ := sec_step h hs.2 ho.1 (by omega) ho.2.1
    have hd := drop_more h
    have hpos := secB_pos s.f0 s.f1
    have hlen := len_of h
    rw [List.length_append] at hlen
    rw [List.length_cons] at hn
    obtain ⟨f', hf', he⟩ := getL_pre r rest f (p + (secB s.f0 s.f1).length) s.f0 (out ++ [s]) hd hF.tail (by omega) (by rw [List.length_append]; simp; omega) (by omega)
    refine ⟨f', by rw [secsB_cons, List.length_append]; omega, ?_⟩
    conv => lhs; unfold getL
    rw [if_neg (by omega), if_neg (by rw [h4]; simp), if_neg (by omega), h1, h2, h3, bytes_str hs.1]
    rw [he, secsB_cons, List.length_append, List.append_assoc, Nat.add_assoc]
    rfl
theorem getL_put {bs : List Int} {r : List S39} {f p : Nat} {last : Int} {out : List S39} (h : bs.drop p = secsB r) (hF : Fine last r) (h0 : 0 ≤ last) (hn : out.length + r.length ≤ 16) (hf : bs.length - p < f) :
    getL bs f last p out = (out ++ r, 5 + (bs.length : Int), 0) := by
  obtain ⟨f', hf', he⟩ := getL_pre r [] f p last out (by rw [h, List.append_nil]) hF h0 hn hf
  have hlen := len_of h
  obtain ⟨f', rfl⟩ : ∃ m, f' = m + 1 := ⟨f' - 1, by omega⟩
  rw [he]
  unfold getL
  rw [if_pos (by omega)]
theorem begM_self (h r : List Int) : begM (h ++ r) h = h.length := by
  induction h with
  | nil => cases r <;> rfl
  | cons x h ih => simp [begM, ih]
/-- what Put lays, Get tells -/
theorem get_put_sec {l : List S39} (hF : Fine 0 l) (hn : l.length ≤ 16) : getMM (putM l) = (l, ((putM l).length : Int), 0) := by
  have h1 : begM (putM l) head5 = 5 := begM_self head5 (secsB l)
  have h2 : (putM l).drop 5 = secsB l := List.drop_left' rfl
  unfold getMM
  rw [if_neg (by omega), getL_put (p := 0) (r := l) (by rw [List.drop_zero, h2]) hF (by omega) (by simpa using hn) (by rw [List.length_drop]; omega), h2]
  unfold putM
  rw [List.length_append, List.nil_append, show head5.length = 5 from rfl]
  simp
/-- a section that was got is what Put lays -/
theorem sec_inv {bs : List Int} {p : Nat} {last : Int} (hb : ∀ x ∈ bs, 0 ≤ x ∧ x < 256) (hp : p < bs.length) (h : gE bs p last = 0) :
    bs.drop p = secB (gT bs p) (bytesOf (gX bs p).1) ++ bs.drop (gW bs p).2.1 ∧ last < gT bs p ∧ 0 ≤ gT bs p ∧ gT bs p ≤ 255 ∧ (bytesOf (gX bs p).1).length ≤ 1048576 ∧ (∀ x ∈ bytesOf (gX bs p).1, 0 ≤ x ∧ x < 256) := by
  have hE := getE_e3 h
  unfold gE at h
  rw [if_neg (by rw [hE]; simp)] at h
  have hs : sumI ((bs.take (gX bs p).2.1).drop p) = (gW bs p).1 := by
    refine Classical.byContradiction fun hne => ?_
    rw [if_pos hne] at h
    exact absurd h (by decide)
  rw [if_neg (by rw [hs]; simp)] at h
  have ht : last < gT bs p := by
    refine Classical.byContradiction fun hne => ?_
    rw [if_pos (by omega)] at h
    exact absurd h (by decide)
  have hbd : bs.drop p = gT bs p :: bs.drop (p + 1) := by
    rw [List.drop_eq_getElem_cons hp]
    unfold gT
    rw [List.getD_eq_getElem?_getD, List.getElem?_eq_getElem hp]
    rfl
  have htb : 0 ≤ gT bs p ∧ gT bs p < 256 := hb _ (List.mem_of_mem_drop (by rw [hbd]; exact List.mem_cons_self))
  -- the word
  have hX0 : (gX bs p).2.2 = 0 := by
    refine Classical.byContradiction fun hne => ?_
    unfold gW wordM at hE
    rw [if_pos hne] at hE
    exact hne hE
  have hW : (gX bs p).2.1 + 4 ≤ bs.length ∧ gW bs p = (leJ (fun i => bs.getD ((gX bs p).2.1 + i) 0) 4, (gX bs p).2.1 + 4, 0) := by
    have e : gW bs p = wordM bs (gX bs p).2.1 (gX bs p).2.2 := rfl
    rw [hX0] at e
    by_cases h4 : (gX bs p).2.1 + 4 ≤ bs.length
    · refine ⟨h4, ?_⟩
      rw [e]
      unfold wordM
      rw [if_neg (by simp), if_pos h4]
    · rw [e] at hE
      unfold wordM at hE
      rw [if_neg (by simp), if_neg h4] at hE
      exact absurd hE (by simp)
  -- the text
  obtain ⟨n, k, hg, hn0, hk, hn1, hfit, hx⟩ : ∃ n k : Nat, getM bs (p + 1) = ((n : Int), (k : Int), 0) ∧ n ≤ 1048576 ∧ putN 9 (n : Int) = (bs.drop (p + 1)).take k ∧ k ≤ (bs.drop (p + 1)).length ∧ p + 1 + k + n ≤ bs.length ∧ gX bs p = (strOfNums ((bs.take (p + 1 + k + n)).drop (p + 1 + k)), p + 1 + k + n, 0) := by
    have e : gX bs p = textM bs (p + 1) 0 1048576 := rfl
    rw [e] at hX0
    rw [e]
    unfold textM at hX0 ⊢
    rw [if_neg (by simp)] at hX0 ⊢
    by_cases h1 : (getM bs (p + 1)).2.2 ≠ 0
    · rw [if_pos h1] at hX0
      exact absurd hX0 h1
    rw [if_neg h1] at hX0 ⊢
    by_cases h2 : (1048576 : Int) < 0 ∨ 1048576 < (getM bs (p + 1)).1
    · rw [if_pos h2] at hX0
      exact absurd hX0 (by simp)
    rw [if_neg h2] at hX0 ⊢
    by_cases h3 : (bs.length : Int) - (p + 1 + (getM bs (p + 1)).2.1.toNat : Nat) < (getM bs (p + 1)).1
    · rw [if_pos h3] at hX0
      exact absurd hX0 (by simp)
    rw [if_neg h3]
    have h4 : (getM bs (p + 1)).2.2 = 0 := Classical.not_not.1 h1
    have h5 := put_get0 (l := bs.drop (p + 1)) (v := (getM bs (p + 1)).1) (k := (getM bs (p + 1)).2.1) (fun x hx => hb x (List.mem_of_mem_drop hx)) (by
      show getM bs (p + 1) = _
      conv => lhs; rw [show getM bs (p + 1) = ((getM bs (p + 1)).1, (getM bs (p + 1)).2.1, (getM bs (p + 1)).2.2) from rfl, h4])
    refine ⟨(getM bs (p + 1)).1.toNat, (getM bs (p + 1)).2.1.toNat, ?_, by omega, ?_, by omega, by omega, rfl⟩
    · rw [Int.toNat_of_nonneg h5.1, Int.toNat_of_nonneg (by omega)]
      conv => lhs; rw [show getM bs (p + 1) = ((getM bs (p + 1)).1, (getM bs (p + 1)).2.1, (getM bs (p + 1)).2.2) from rfl, h4]
    · rw [Int.toNat_of_nonneg h5.1]
      exact h5.2.2.2.2
  obtain ⟨ys, hys⟩ : ∃ ys, (bs.take (p + 1 + k + n)).drop (p + 1 + k) = ys := ⟨_, rfl⟩
  rw [hys] at hx
  have hyl : ys.length = n := by rw [← hys, List.length_drop, List.length_take]; omega
  have hyb : ∀ x ∈ ys, 0 ≤ x ∧ x < 256 := fun x hx2 => hb x (by rw [← hys] at hx2; exact List.mem_of_mem_take (List.mem_of_mem_drop hx2))
  have hX1 : bytesOf (gX bs p).1 = ys := by rw [hx]; exact bytes_str hyb
  have hX2 : (gX bs p).2.1 = p + 1 + k + n := by rw [hx]
  -- all that stands there
  have hkl : (putN 9 (n : Int)).length = k := by rw [hk, List.length_take, Nat.min_eq_left hn1]
  have d1 : bs.drop (p + 1) = putN 9 (n : Int) ++ bs.drop (p + 1 + k) := by rw [hk, ← List.drop_drop (i := k), List.take_append_drop]
  have d2 : bs.drop (p + 1 + k) = ys ++ bs.drop (p + 1 + k + n) := by
    rw [← hys, List.drop_take, show p + 1 + k + n - (p + 1 + k) = n from by omega, ← List.drop_drop (i := n), List.take_append_drop]
  have hpre : bs.drop p = preB (gT bs p) ys ++ bs.drop (p + 1 + k + n) := by
    rw [hbd, d1, d2]
    unfold preB
    rw [show gT bs p % 256 = gT bs p from by omega, hyl]
    simp
  have hplen : p + (preB (gT bs p) ys).length = p + 1 + k + n := by rw [preB_length, hyl, hkl]; omega
  have hmid := mid_of hpre
  rw [hplen] at hmid
  rw [hX2] at hs hW
  rw [hmid] at hs
  have hW1 : (gW bs p).2.1 = p + 1 + k + n + 4 := by rw [hW.2]
  obtain ⟨wd, hwd⟩ : ∃ wd, (bs.drop (p + 1 + k + n)).take 4 = wd := ⟨_, rfl⟩
  have hwl : wd.length = 4 := by rw [← hwd, List.length_take, List.length_drop]; omega
  have d3 : bs.drop (p + 1 + k + n) = wd ++ bs.drop (p + 1 + k + n + 4) := by rw [← hwd, ← List.drop_drop (i := 4), List.take_append_drop]
  have hwv := wordM_of d3 hwl
  have e4 : gW bs p = wordM bs (p + 1 + k + n) 0 := by show wordM bs (gX bs p).2.1 (gX bs p).2.2 = _; rw [hX2, hX0]
  rw [e4, hwv] at hs
  simp only at hs
  have hwm : ∀ x ∈ wd, 0 ≤ x ∧ x < 256 := fun x hx2 => hb x (by rw [← hwd] at hx2; exact List.mem_of_mem_drop (List.mem_of_mem_take hx2))
  have hwb : ∀ i, i < 4 → 0 ≤ wd.getD i 0 ∧ wd.getD i 0 < 256 := by
    intro i hi
    rw [List.getD_eq_getElem?_getD, List.getElem?_eq_getElem (by omega)]
    exact hwm _ (List.getElem_mem _)
  have hwe : wordN (sumI (preB (gT bs p) ys)) = wd := by
    have b0 := hwb 0 (by omega)
    have b1 := hwb 1 (by omega)
    have b2 := hwb 2 (by omega)
    have b3 := hwb 3 (by omega)
    rw [hs]
    match wd, hwl with
    | [a, b, c, d], _ =>
      simp only [List.getD_cons_zero, List.getD_cons_succ] at b0 b1 b2 b3 ⊢
      unfold wordN
      congr 1
      · omega
      congr 1
      · omega
      congr 1
      · omega
      congr 1
      omega
  rw [hX1, hW1]
  refine ⟨?_, ht, htb.1, by omega, by omega, hyb⟩
  unfold secB
  rw [hwe, List.append_assoc, ← d3, ← hpre]
/-- what Get tells without a fault -/
theorem getL_inv {bs : List Int} (hb : ∀ x ∈ bs, 0 ≤ x ∧ x < 256) : ∀ (f p : Nat) (last : Int) (out : List S39), p ≤ bs.length → bs.length - p < f → out.length ≤ 16 → (getL bs f last p out).2.2 = 0 →
    ∃ r, getL bs f last p out = (out ++ r, 5 + (bs.length : Int), 0) ∧ bs.drop p = secsB r ∧ Fine last r ∧ out.length + r.length ≤ 16
  | 0, p, last, out, hp, hf, hn, h => by omega
  | f + 1, p, last, out, hp, hf, hn, h => by
    unfold getL at h ⊢
    by_cases h1 : bs.length ≤ p
    · rw [if_pos h1]
      exact ⟨[], by simp, by rw [List.drop_eq_nil_of_le h1]; rfl, ⟨rfl, fun s hs => by cases hs⟩, by simpa using hn⟩
    rw [if_neg h1] at h ⊢
    by_cases h2 : gE bs p last = 0
    · rw [if_neg (by rw [h2]; simp)] at h ⊢
      by_cases h3 : out.length = 16
      · rw [if_pos h3] at h
        exact absurd h (by simp)
      rw [if_neg h3] at h ⊢
      have hw := gW_le hb (show p < bs.length by omega)
      obtain ⟨i1, i2, i3, i4, i5, i6⟩ := sec_inv hb (show p < bs.length by omega) h2
      obtain ⟨r, h5, h6, h7, h8⟩ := getL_inv hb f (gW bs p).2.1 (gT bs p) _ hw.2 (by omega) (by rw [List.length_append]; simp; omega) h
      rw [List.length_append, List.length_cons, List.length_nil] at h8
      refine ⟨⟨gT bs p, bytesOf (gX bs p).1⟩ :: r, by rw [h5]; simp, by rw [i1, h6, secsB_cons], ⟨odd_mk i2 i4 h7.1, fun s hs => ?_⟩, by rw [List.length_cons]; omega⟩
      rcases List.mem_cons.1 hs with rfl | hs
      · exact ⟨i6, i5⟩
      · exact h7.2 s hs
    · rw [if_pos h2] at h
      exact absurd h h2
theorem getL_bad {bs : List Int} : ∀ (f p : Nat) (last : Int) (out : List S39), (getL bs f last p out).2.2 ≠ 0 → (getL bs f last p out).1 = []
  | 0, p, last, out, h => by simp [getL] at h
  | f + 1, p, last, out, h => by
    unfold getL at h ⊢
    by_cases h1 : bs.length ≤ p
    · rw [if_pos h1] at h; exact absurd rfl h
    rw [if_neg h1] at h ⊢
    by_cases h2 : gE bs p last ≠ 0
    · rw [if_pos h2]
    rw [if_neg h2] at h ⊢
    by_cases h3 : out.length = 16
    · rw [if_pos h3]
    rw [if_neg h3] at h ⊢
    exact getL_bad f _ _ _ h
/-- what Get tells is what Put lays -/
theorem put_get_sec {b : List Int} (hb : ∀ x ∈ b, 0 ≤ x ∧ x < 256) (h : (getMM b).2.2 = 0) : putM (getMM b).1 = b ∧ Fine 0 (getMM b).1 ∧ (getMM b).1.length ≤ 16 ∧ (getMM b).2.1 = b.length := by
  unfold getMM at h ⊢
  by_cases h5 : begM b head5 < 5
  · rw [if_pos h5] at h
    exact absurd h (by simp)
  rw [if_neg h5] at h ⊢
  have h6 := begM_full b head5 (by have := begM_le b head5; have h_ : head5.length = 5 := rfl; omega)
  rw [show head5.length = 5 from rfl] at h6
  obtain ⟨r, h1, h2, h3, h4⟩ := getL_inv (bs := b.drop 5) (fun x hx => hb x (List.mem_of_mem_drop hx)) (b.length + 1) 0 0 [] (by omega) (by rw [List.length_drop]; omega) (by decide) h
  rw [h1]
  simp only [List.nil_append]
  rw [List.drop_zero] at h2
  refine ⟨?_, h3, by simpa using h4, by rw [List.length_drop]; omega⟩
  unfold putM
  rw [← h2]
  conv => lhs; rw [← h6.1]
  exact List.take_append_drop 5 b
theorem getMM_bad {b : List Int} (h : (getMM b).2.2 ≠ 0) : (getMM b).1 = [] := by
  unfold getMM at h ⊢
  by_cases h5 : begM b head5 < 5
  · rw [if_pos h5]
  · rw [if_neg h5] at h ⊢
    exact getL_bad _ _ _ _ h
/-- the beginning of a number's bytes is no number's -/
theorem getS_cut : ∀ (d : Nat) (n : Int) (j i : Nat) (u m : Int), 0 ≤ n → i + d = 9 → j < (putN d n).length → getS ((putN d n).take j) i u m = (0, 0, 10)
  | d, n, 0, i, u, m, h0, hi, hj => by simp [getS]
  | 0, n, j + 1, i, u, m, h0, hi, hj => by simp [putN] at hj
  | d + 1, n, j + 1, i, u, m, h0, hi, hj => by
    unfold putN at hj ⊢
    by_cases h : n ≥ 128
    · rw [if_pos h] at hj ⊢
      rw [List.take_succ_cons]
      unfold getS
      rw [if_neg (by omega), if_neg (by omega)]
      exact getS_cut d (n / 128) j (i + 1) _ _ (by omega) (by omega) (by simpa using hj)
    · rw [if_neg h] at hj
      simp at hj
theorem take_app_ge {a b : List Int} {m : Nat} (h : a.length ≤ m) : (a ++ b).take m = a ++ b.take (m - a.length) := by
  rw [List.take_append, List.take_of_length_le h]
/-- a section that is cut off within -/
theorem sec_cut {bs ys : List Int} {p m : Nat} {t last : Int} (h : bs.drop p = (secB t ys).take m) (h0 : 0 < m) (hm : m < (secB t ys).length) (hl : ys.length ≤ 1048576) : gE bs p last = 10 := by
  obtain ⟨m, rfl⟩ : ∃ q, m = q + 1 := ⟨m - 1, by omega⟩
  have e1 : secB t ys = (t % 256) :: (putN 9 (ys.length : Int) ++ (ys ++ wordN (sumI (preB t ys)))) := by unfold secB preB; simp
  rw [secB_len, preB_length] at hm
  rw [e1, List.take_succ_cons] at h
  have h2 : bs.drop (p + 1) = (putN 9 (ys.length : Int) ++ (ys ++ wordN (sumI (preB t ys)))).take m := by
    rw [← List.drop_drop, h]; rfl
  have hlen := len_of h
  have hw4 : ∀ s, (wordN s).length = 4 := fun _ => rfl
  rw [List.length_cons, List.length_take, List.length_append, List.length_append, hw4] at hlen
  have key : (gW bs p).2.2 = 10 := by
    by_cases hk : m < (putN 9 (ys.length : Int)).length
    · have hg : getM bs (p + 1) = (0, 0, 10) := by
        unfold getM
        rw [h2, List.take_append_of_le_length (by omega)]
        exact getS_cut 9 _ m 0 1 0 (by omega) rfl hk
      have hX : gX bs p = (⟨#[]⟩, p + 1, 10) := by
        show textM bs (p + 1) 0 1048576 = _
        unfold textM
        rw [hg]
        rfl
      show (wordM bs (gX bs p).2.1 (gX bs p).2.2).2.2 = 10
      rw [hX]
      rfl
    · rw [take_app_ge (by omega)] at h2
      have hg : getM bs (p + 1) = ((ys.length : Int), ((putN 9 (ys.length : Int)).length : Int), 0) := by
        unfold getM
        rw [h2]
        exact get_put0 _ (by omega) (by omega)
      by_cases hy : m < (putN 9 (ys.length : Int)).length + ys.length
      · have hX : gX bs p = (⟨#[]⟩, p + 1, 10) := by
          show textM bs (p + 1) 0 1048576 = _
          unfold textM
          rw [hg]
          simp only [Int.toNat_natCast]
          rw [if_neg (by simp), if_neg (by simp), if_neg (by omega), if_pos (by omega)]
        show (wordM bs (gX bs p).2.1 (gX bs p).2.2).2.2 = 10
        rw [hX]
        rfl
      · rw [take_app_ge (by omega)] at h2
        have hX : gX bs p = (strOfNums ys, p + 1 + (putN 9 (ys.length : Int)).length + ys.length, 0) := textM_of h2 hl
        show (wordM bs (gX bs p).2.1 (gX bs p).2.2).2.2 = 10
        rw [hX]
        simp only
        unfold wordM
        rw [if_neg (by simp), if_neg (by omega)]
  unfold gE
  rw [key]
  rfl
/-- sections that are cut off -/
theorem getL_cut {bs : List Int} : ∀ (r : List S39) (m f p : Nat) (last : Int) (out : List S39), bs.drop p = (secsB r).take m → Fine last r → 0 ≤ last → out.length + r.length ≤ 16 → bs.length - p < f → p ≤ bs.length →
    (∃ k, k ≤ r.length ∧ (secsB (r.take k)).length = min m (secsB r).length ∧ getL bs f last p out = (out ++ r.take k, 5 + (bs.length : Int), 0)) ∨
    ((∀ k, k ≤ r.length → (secsB (r.take k)).length ≠ min m (secsB r).length) ∧ ∃ n, getL bs f last p out = ([], n, 10))
  | [], m, f, p, last, out, h, hF, h0, hn, hf, hp => by
    refine .inl ⟨0, Nat.le_refl _, by simp [secsB], ?_⟩
    have hlen := len_of h
    obtain ⟨f, rfl⟩ : ∃ m, f = m + 1 := ⟨f - 1, by omega⟩
    unfold getL
    simp [secsB] at hlen
    rw [if_pos (by omega)]
    simp
  | s :: r, m, f, p, last, out, h, hF, h0, hn, hf, hp => by
    obtain ⟨f, rfl⟩ : ∃ m, f = m + 1 := ⟨f - 1, by omega⟩
    have hs := hF.2 s List.mem_cons_self
    have ho := odd_cons hF.1
    have hpos := secB_pos s.f0 s.f1
    have hlen := len_of h
    rw [secsB_cons] at h hlen
    rw [List.length_take, List.length_append] at hlen
    rw [List.length_cons] at hn
    by_cases hm0 : m = 0
    · refine .inl ⟨0, Nat.zero_le _, by rw [hm0]; simp [secsB], ?_⟩
      unfold getL
      rw [if_pos (by omega)]
      simp
    by_cases hm : m < (secB s.f0 s.f1).length
    · right
      refine ⟨fun k hk => ?_, 5 + (p : Int), ?_⟩
      · rw [secsB_cons, List.length_append]
        cases k with
        | zero => simp [secsB]; omega
        | succ k => rw [List.take_succ_cons, secsB_cons, List.length_append]; omega
      · rw [List.take_append_of_le_length (by omega)] at h
        unfold getL
        rw [if_neg (by omega), sec_cut h (by omega) hm hs.2]
        rfl
    · rw [take_app_ge (by omega)] at h
      obtain ⟨h1, h2, h3, h4⟩ := sec_step h hs.2 ho.1 (by omega) ho.2.1
      have hd := drop_more h
      have hst : getL bs (f + 1) last p out = getL bs f s.f0 (p + (secB s.f0 s.f1).length) (out ++ [s]) := by
        conv => lhs; unfold getL
        rw [if_neg (by omega), if_neg (by rw [h4]; simp), if_neg (by omega), h1, h2, h3, bytes_str hs.1]
      rw [hst]
      have hmin : min m (secsB (s :: r)).length = (secB s.f0 s.f1).length + min (m - (secB s.f0 s.f1).length) (secsB r).length := by rw [secsB_cons, List.length_append]; omega
      rw [hmin]
      rcases getL_cut r (m - (secB s.f0 s.f1).length) f (p + (secB s.f0 s.f1).length) s.f0 (out ++ [s]) hd hF.tail (by omega) (by rw [List.length_append]; simp; omega) (by omega) (by omega) with ⟨k, hk, e1, e2⟩ | ⟨e1, n, e2⟩
      · refine .inl ⟨k + 1, by rw [List.length_cons]; omega, ?_, by rw [e2, List.take_succ_cons]; simp⟩
        rw [List.take_succ_cons, secsB_cons, List.length_append, e1]
      · refine .inr ⟨fun k hk => ?_, n, e2⟩
        cases k with
        | zero => simp [secsB]; omega
        | succ k =>
          rw [List.length_cons] at hk
          rw [List.take_succ_cons, secsB_cons, List.length_append]
          have := e1 k (by omega)
          omega
/-- what Put lays, cut off -/
theorem get_cut_sec {l : List S39} (hF : Fine 0 l) (hn : l.length ≤ 16) {n : Nat} (h5 : 5 ≤ n) (hl : n < (putM l).length) :
    (∃ k, k < l.length ∧ (putM (l.take k)).length = n ∧ ∃ z, getMM ((putM l).take n) = (l.take k, z, 0)) ∨ ((∀ k, k < l.length → (putM (l.take k)).length ≠ n) ∧ ∃ z, getMM ((putM l).take n) = ([], z, 10)) := by
  have hh : head5.length = 5 := rfl
  have hp : ∀ k, (putM (l.take k)).length = 5 + (secsB (l.take k)).length := fun k => by unfold putM; rw [List.length_append, hh]
  have hpl : (putM l).length = 5 + (secsB l).length := by unfold putM; rw [List.length_append, hh]
  have e : (putM l).take n = head5 ++ (secsB l).take (n - 5) := take_app_ge (a := head5) (by rw [hh]; omega)
  have h1 : begM ((putM l).take n) head5 = 5 := by rw [e]; exact begM_self head5 _
  have h2 : ((putM l).take n).drop 5 = (secsB l).take (n - 5) := by rw [e]; exact List.drop_left' rfl
  unfold getMM
  rw [if_neg (by omega)]
  have hmin : min (n - 5) (secsB l).length = n - 5 := by omega
  have hk := getL_cut (bs := ((putM l).take n).drop 5) l (n - 5) (((putM l).take n).length + 1) 0 0 [] (by rw [List.drop_zero, h2]) hF (by omega) (by simpa using hn) (by rw [List.length_drop]; omega) (by omega)
  rw [hmin] at hk
  rcases hk with ⟨k, hk, e1, e2⟩ | ⟨e1, z, e2⟩
  · refine .inl ⟨k, ?_, by rw [hp]; omega, _, e2⟩
    refine Classical.byContradiction fun hne => ?_
    rw [List.take_of_length_le (by omega)] at e1
    omega
  · exact .inr ⟨fun k hk he => e1 k (by omega) (by rw [hp] at he; omega), z, e2⟩
end Go.Proofs.Ytnohflfpahokiaa.Sec
