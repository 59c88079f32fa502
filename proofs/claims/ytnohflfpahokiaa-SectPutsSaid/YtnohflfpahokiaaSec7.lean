/- Sections: get by one contract, begins, Get. -/
import Derived.Test.YtnohflfpahokiaaSec6
import Derived.Test.YtnohflfpahokiaaWNEv
set_option linter.unusedVariables false
set_option linter.unusedSimpArgs false
set_option maxRecDepth 20000
namespace Go.Proofs.Ytnohflfpahokiaa.Sec
open Go Go.RowKit Go.Proofs.YtnohflfpahokiaaW.PrintWords Go.Proofs.YtnohflfpahokiaaW.PrintLast Go.Proofs.Ytnohflfpahokiaa.LebM Go.Proofs.Ytnohflfpahokiaa.Leb
open Go.Proofs.Ytnohflfpahokiaa.PAll (S39 k39 z39 rd_T39 at_T39 sect_begins.l0 sect_begins.f)
open Go.Proofs.Ytnohflfpahokiaa.Rd (Kp info5 Rdr byteM textM wordM getM C_move midlen countM)
open Go.Proofs.Ytnohflfpahokiaa.Crc (sumI sumI_range)
open Go.Proofs.Ytnohflfpahokiaa.Head (head5)

theorem textM_le {bs : List Int} {p : Nat} {er most : Int} (hb : ∀ x ∈ bs, 0 ≤ x ∧ x < 256) (hp : p ≤ bs.length) : (textM bs p er most).2.1 ≤ bs.length := by
  unfold textM
  split
  · exact hp
  split
  · exact hp
  · rename_i h0
    split
    · exact hp
    split
    · exact hp
    · rename_i h1
      show p + (getM bs p).2.1.toNat + (getM bs p).1.toNat ≤ bs.length
      have h2 : (getM bs p).2.2 = 0 := Classical.not_not.1 h0
      have h3 := put_get0 (l := bs.drop p) (v := (getM bs p).1) (k := (getM bs p).2.1) (fun x hx => hb x (List.mem_of_mem_drop hx)) (by
        show getM bs p = _
        conv => lhs; rw [show getM bs p = ((getM bs p).1, (getM bs p).2.1, (getM bs p).2.2) from rfl, h2])
      omega
theorem textM_size {bs : List Int} {p : Nat} {er most : Int} : (textM bs p er most).1.size ≤ bs.length := by
  unfold textM
  repeat' split
  all_goals first | (show (0 : Nat) ≤ _; omega) | skip
  show (strOfNums _).size ≤ _
  rw [nums_size, List.length_drop, List.length_take]
  omega
theorem wordM_le {bs : List Int} {p : Nat} {er : Int} (hp : p ≤ bs.length) : (wordM bs p er).2.1 ≤ bs.length ∧ p ≤ (wordM bs p er).2.1 := by
  unfold wordM
  split
  · exact ⟨hp, Nat.le_refl _⟩
  split
  · exact ⟨by assumption, Nat.le_add_right _ _⟩
  · exact ⟨hp, Nat.le_refl _⟩
theorem gW_le {bs : List Int} {p : Nat} (hb : ∀ x ∈ bs, 0 ≤ x ∧ x < 256) (hp : p < bs.length) : p < (gW bs p).2.1 ∧ (gW bs p).2.1 ≤ bs.length := by
  have h1 : (gX bs p).2.1 ≤ bs.length := textM_le hb (by omega)
  have h2 : p + 1 ≤ (gX bs p).2.1 := textM_ge bs (p + 1) 0 1048576
  have h3 := wordM_le (er := (gX bs p).2.2) h1
  unfold gW
  omega
theorem get_calls {base g : Nat} {w : World} {bs : List Int} {p : Nat} (r : Rdr 76 base w g bs p 0) (hp : p < bs.length) {Ab : Option Addr} {cb : Nat} (hC : (Kd.int .u8).C w Ab bs.length bs) (hcb : bs.length ≤ cb) (last : Int) :
    Calls Try.prog 29 #[.pointer (some ⟨g, 0, none⟩), .slice Ab bs.length cb, .int .i64 last] w (GPost base g bs (gT bs p) (gX bs p).1 (gW bs p).2.1 (gW bs p).2.2 (gE bs p last) w) := by
  have hle := r.len
  have hs : (gX bs p).1.size ≤ 9223372036854775807 := by have := @textM_size bs (p + 1) 0 1048576; unfold gX; omega
  have hpp : p ≤ (gX bs p).2.1 := by have := textM_ge bs (p + 1) 0 1048576; unfold gX; omega
  have hp2 : (gX bs p).2.1 ≤ bs.length := textM_le r.byte (by omega)
  have hx : textM bs (p + 1) 0 1048576 = ((gX bs p).1, (gX bs p).2.1, (gX bs p).2.2) := rfl
  by_cases he : (gW bs p).2.2 = 0
  · have hu : wordM bs (gX bs p).2.1 (gX bs p).2.2 = ((gW bs p).1, (gW bs p).2.1, 0) := by
      show gW bs p = _
      conv => lhs; rw [show gW bs p = ((gW bs p).1, (gW bs p).2.1, (gW bs p).2.2) from rfl, he]
    rw [he]
    by_cases hsum : sumI ((bs.take (gX bs p).2.1).drop p) = (gW bs p).1
    · by_cases hl : gT bs p ≤ last
      · have e : gE bs p last = 41 := by unfold gE; rw [if_neg (by simp [he]), if_neg (by simp [hsum]), if_pos hl]
        rw [e]
        exact get_tag r hp rfl hx hu hs hpp hC hcb last hp2 hsum hl
      · have e : gE bs p last = 0 := by unfold gE; rw [if_neg (by simp [he]), if_neg (by simp [hsum]), if_neg hl]
        rw [e]
        exact get_ok r hp rfl hx hu hs hpp hC hcb last hp2 hsum hl
    · have e : gE bs p last = 42 := by unfold gE; rw [if_neg (by simp [he]), if_pos hsum]
      rw [e]
      exact get_sum r hp rfl hx hu hs hpp hC hcb last hp2 hsum
  · have e : gE bs p last = (gW bs p).2.2 := by unfold gE; rw [if_pos he]
    rw [e]
    exact get_short r hp rfl hx rfl hs hpp hC hcb last he
/-- how many bytes are as a beginning must be -/
def begM : List Int → List Int → Nat
  | _, [] => 0
  | [], _ :: _ => 0
  | x :: b, y :: h => if x = y then begM b h + 1 else 0
theorem begM_le : ∀ (b h : List Int), begM b h ≤ h.length
  | _, [] => by simp [begM]
  | [], _ :: _ => by simp [begM]
  | x :: b, y :: h => by
    unfold begM
    split
    · have := begM_le b h; simp; omega
    · simp
theorem begM_full : ∀ (b h : List Int), begM b h = h.length → b.take h.length = h ∧ h.length ≤ b.length
  | b, [], _ => by simp
  | [], y :: h, e => by simp [begM] at e
  | x :: b, y :: h, e => by
    unfold begM at e
    split at e
    · rename_i hxy
      have := begM_full b h (by simpa using e)
      subst hxy
      simp [this.1, this.2]
    · simp at e
theorem begins_loop (l0 l1 : List Int) (hl : l1.length ≤ 1000) : ∀ (r h pre hp : List Int) (k : Nat), l0 = pre ++ r → l1 = hp ++ h → pre.length = hp.length → h.length < k →
    sect_begins.l0 k l0 l1 (l1.length : Int) (pre.length : Int) = some ((pre.length + begM r h : Nat) : Int)
  | r, [], pre, hp, k, e0, e1, hh, hk => by
    obtain ⟨k, rfl⟩ : ∃ m, k = m + 1 := ⟨k - 1, by simp at hk; omega⟩
    rw [List.append_nil] at e1
    subst e1
    simp only [sect_begins.l0]
    rw [if_neg (by omega)]
    simp [begM, hh]
  | [], y :: h, pre, hp, k, e0, e1, hh, hk => by
    obtain ⟨k, rfl⟩ : ∃ m, k = m + 1 := ⟨k - 1, by simp at hk; omega⟩
    have hlen : l1.length = hp.length + (h.length + 1) := by rw [e1]; simp
    rw [List.append_nil] at e0
    subst e0
    simp only [sect_begins.l0]
    rw [if_pos (by omega), if_pos (by omega)]
    simp [begM]
  | x :: r, y :: h, pre, hp, k, e0, e1, hh, hk => by
    obtain ⟨k, rfl⟩ : ∃ m, k = m + 1 := ⟨k - 1, by simp at hk; omega⟩
    have hlen : l1.length = hp.length + (h.length + 1) := by rw [e1]; simp
    have hlen0 : l0.length = pre.length + (r.length + 1) := by rw [e0]; simp
    have r0 : rd l0 (pre.length : Int) = x := by rw [e0]; simp [rd]
    have r1 : rd l1 (pre.length : Int) = y := by rw [e1, hh]; simp [rd]
    simp only [sect_begins.l0]
    rw [if_pos (by omega), if_neg (by omega), if_pos (by omega), if_pos (by omega), if_pos (by omega), r0, r1]
    by_cases hxy : x = y
    · rw [if_pos hxy]
      have hw : wrap64 ((pre.length : Int) + 1) = ((pre ++ [x]).length : Int) := by rw [List.length_append]; simp; unfold wrap64; omega
      rw [hw, begins_loop l0 l1 hl r h (pre ++ [x]) (hp ++ [y]) k (by rw [e0]; simp) (by rw [e1]; simp) (by simp [hh]) (by simp at hk; omega)]
      simp [begM, hxy]
      omega
    · rw [if_neg hxy]
      simp [begM, hxy]
theorem begins_calls {A B : Option Addr} {c d : Nat} {bs : List Int} {w : World} (hA : (Kd.int .u8).C w A bs.length bs) (hc : bs.length ≤ c) (hB : (Kd.int .u8).C w B head5.length head5) (hd : head5.length ≤ d) :
    Calls Try.prog 25 #[.slice A bs.length c, .slice B head5.length d] w fun e w' => e = .returned (.int .i64 (begM bs head5 : Nat)) ∧ Drawn0 w w' :=
  PAll.sect_begins.calls 6 A c bs B d head5 _ w hA hc hB hd (by
    unfold sect_begins.f
    have h := begins_loop bs head5 (by decide) bs head5 [] [] 6 rfl rfl rfl (by decide)
    simpa using h)
/-- what Get comes to, behind the beginning -/
def getL (bs : List Int) : Nat → Int → Nat → List S39 → List S39 × Int × Int
  | 0, _, _, out => (out, 5 + (bs.length : Int), 0)
  | f + 1, last, p, out =>
    if bs.length ≤ p then (out, 5 + (bs.length : Int), 0)
    else if gE bs p last ≠ 0 then ([], 5 + (p : Int), gE bs p last)
    else if out.length = 16 then ([], 5 + (p : Int), 3)
    else getL bs f (gT bs p) (gW bs p).2.1 (out ++ [⟨gT bs p, bytesOf (gX bs p).1⟩])
def getMM (b : List Int) : List S39 × Int × Int :=
  if begM b head5 < 5 then ([], (begM b head5 : Int), 40) else getL (b.drop 5) (b.length + 1) 0 0 []
/-- what Get leaves: sections that are only read -/
def LPost (base : Nat) (x : List S39 × Int × Int) (e : Ending) (w' : World) : Prop :=
  ∃ v, e = .returned (.tuple #[v, .int .i64 x.2.1, .int .i64 x.2.2]) ∧ Kd.N k39 39 w' base (fun _ => True) v x.1
theorem rdr_grown {T B : Nat} {w w1 : World} {g p n0 c0 : Nat} {L : List Int} {e : Int} {A0 : Option Addr} {row : Option Nat} (r : Rdr T B w g L p e) (hcell : w.cell? ⟨g, 0, none⟩ = some (.slice A0 n0 c0)) (hg : w.grownBy w1 row) (h1 : some g ≠ row) (h2 : ∀ ad, A0 = some ad → some ad.block ≠ row ∧ ad.block < w.heap.size) : Rdr T B w1 g L p e := by
  obtain ⟨A, c, hb, hc, hC⟩ := r.blk
  have e1 : w.cell? ⟨g, 0, none⟩ = some (.slice A L.length c) := (blk_cell hb 0).trans rfl
  rw [hcell] at e1
  injection e1 with e1
  injection e1 with e1 _ _
  subst e1
  exact ⟨⟨A0, c, blk_grown hb hg h1, hc, C_move' hC fun ad h => hg.block _ (h2 ad h).2 (h2 ad h).1⟩, r.low, Nat.le_trans r.size hg.size, r.le, r.len, r.byte⟩
theorem info39 : (Try.prog.info? 39).map (fun i => (i.zero, i.size, i.bytes)) = some (some (.agg #[.int .i64 0, .slice none 0 0]), 2, 32) := by kernel_rfl
theorem g_left {base g : Nat} {w : World} {bs : List Int} {p : Nat} {z : Int} (r : Rdr 76 base w g bs p 0) (hz : (bs.length : Int) - p = z) : Calls Try.prog 27 #[.pointer (some ⟨g, 0, none⟩)] w fun e w' => e = .returned (.int .i64 z) ∧ Drawn0 w w' := by
  refine (Rd.left_calls r).mono fun e w' h => ?_
  rw [show Rd.leftM bs p 0 = z from by unfold Rd.leftM; rw [if_pos rfl, hz]] at h
  exact h
theorem FK39 {W : World} {ok : Nat → Prop} {t : Int} {A : Option Addr} {c : Nat} {ys : List Int} (hl : ys.length ≤ c) (h : Kd.F (Kd.int .u8) W ok A ys.length ys) : Kd.FK k39 W ok ⟨t, ys⟩ [.int .i64 t, .slice A ys.length c] :=
  fun W' hW => PAll.k39_mk W' ⟨t, ys⟩ hl (h W' hW)
theorem getE_e3 {bs : List Int} {p : Nat} {last : Int} (h : gE bs p last = 0) : (gW bs p).2.2 = 0 := by
  unfold gE at h
  split at h
  · assumption
  · rename_i h2; exact Classical.not_not.1 h2

set_option maxHeartbeats 8000000 in
theorem Gethead_calls {A : Option Addr} {c : Nat} {b : List Int} {w : World} (hC : (Kd.int .u8).C w A b.length b) (hc : b.length ≤ c) (h5 : begM b head5 < 5) :
    Calls Try.prog 12 #[.slice A b.length c] w fun e w' => LPost w.heap.size (getMM b) e w' ∧ Below w.heap.size w w' := by
  have em : getMM b = ([], (begM b head5 : Int), 40) := by unfold getMM; rw [if_pos h5]
  rw [em]
  have HC := Aside0.mk hC
  have Hc := Aside0.mk hc
  have b1 : decide ((begM b head5 : Int) < (head5.length : Int)) = true := decide_eq_true (by have h_ : head5.length = 5 := rfl; omega)
  have b1n : decide (begM b head5 < head5.length) = true := decide_eq_true (by have h_ : head5.length = 5 := rfl; omega)
  clear hC hc h5 em
  go_enter Try.func12, Try.ntmps12
  go_wp2_with (first
    | (go_at_call 23; (with_reducible refine (Head.head_calls _).mono ?_); rintro e w1 ⟨v1, rfl, h1, h2⟩; obtain ⟨A1, c1, rfl, hc1, hC1⟩ := Kd.R_reads h1; have C1 := Aside0.mk hC1; have c1l := Aside0.mk hc1; have B1 := Aside0.mk h2; clear h1 h2 hc1 hC1)
    | (go_at_call 25; (with_reducible refine (begins_calls (Kd.C_below HC.out B1.out) Hc.out C1.out c1l.out).mono ?_); rintro e w2 ⟨rfl, h1⟩; have B2 := Aside0.mk (below_then B1.out B1.out.size h1.below); clear h1))
  go_ret3
  exact ⟨⟨_, rfl, Kd.N_nil _ _ _ _ _⟩, B2.out⟩
set_option maxHeartbeats 8000000 in
theorem Getloop_calls {A : Option Addr} {c : Nat} {b : List Int} {w : World} (hC : (Kd.int .u8).C w A b.length b) (hc : b.length ≤ c) (hb : ∀ x ∈ b, 0 ≤ x ∧ x < 256) (hl : b.length ≤ 140737488351232) (h5 : ¬ begM b head5 < 5) :
    Calls Try.prog 12 #[.slice A b.length c] w fun e w' => LPost w.heap.size (getMM b) e w' ∧ Below w.heap.size w w' := by
  have hn5 : head5.length = 5 := rfl
  have hb5 : begM b head5 = head5.length := by have := begM_le b head5; omega
  have hbl := (begM_full b head5 hb5).2
  have em : getMM b = getL (b.drop head5.length) (b.length + 1) 0 0 [] := by unfold getMM; rw [if_neg h5, hn5]
  rw [em]
  obtain ⟨i0, hi, hzz⟩ := Option.map_eq_some_iff.1 info5
  simp only [Prod.mk.injEq] at hzz
  obtain ⟨A2, hsl, hrd, hlc⟩ := print_drop_of (P := Try.prog) (Value.int .u8) (0 : Int) 25 5 .i64 Try.underlying25 hi hzz.2.1 A c b (head5.length : Int) (by omega) (by omega) hc
  simp only [Int.toNat_natCast] at hsl hrd hlc
  have hHC := (show (Kd.int .u8).C w A2 (b.drop head5.length).length (b.drop head5.length) from Kd.C_of_reads (d := (0 : Int)) (hrd w (Kd.reads_of_C (enc := Value.int .u8) (d := (0 : Int)) (h1 := fun _ => rfl) hC)))
  have hby : ∀ x ∈ b.drop head5.length, 0 ≤ x ∧ x < 256 := fun x hx => hb x (List.mem_of_mem_drop hx)
  have hLn : (b.drop head5.length).length = b.length - 5 := by rw [List.length_drop, hn5]
  obtain ⟨L, hL⟩ : ∃ L, b.drop head5.length = L := ⟨_, rfl⟩
  rw [hL] at hsl hlc hHC hby hLn
  rw [hL]
  have HC := Aside0.mk hC
  have Hc := Aside0.mk hc
  have HCL := Aside0.mk hHC
  have HcL := Aside0.mk hlc
  have HBY := Aside0.mk hby
  have HLN := Aside0.mk (show L.length + 5 = b.length by omega)
  have HBL := Aside0.mk hl
  have HFU := Aside0.mk (show L.length < b.length + 1 by omega)
  have b1 : decide ((begM b head5 : Int) < (head5.length : Int)) = false := decide_eq_false (by omega)
  have b1n : decide (begM b head5 < head5.length) = false := decide_eq_false (by omega)
  obtain ⟨F, hF⟩ : ∃ F, b.length + 1 = F := ⟨_, rfl⟩
  rw [hF] at HFU
  rw [hF]
  clear hC hc hb hl h5 em hrd hlc hHC hby hLn hL hi hzz hF hn5 hbl
  go_enter Try.func12, Try.ntmps12
  go_wp2_with (first
    | (go_at_call 23; (with_reducible refine (Head.head_calls _).mono ?_); rintro e w1 ⟨v1, rfl, h1, h2⟩; obtain ⟨A1, c1, rfl, hc1, hC1⟩ := Kd.R_reads h1; have C1 := Aside0.mk hC1; have c1l := Aside0.mk hc1; have B1 := Aside0.mk h2; clear h1 h2 hc1 hC1)
    | (go_at_call 25; (with_reducible refine (begins_calls (Kd.C_below HC.out B1.out) Hc.out C1.out c1l.out).mono ?_); rintro e w2 ⟨rfl, h1⟩; have B2 := Aside0.mk (below_then B1.out B1.out.size h1.below); clear h1)
    | (go_at_call 26; (with_reducible refine (Rd.from_calls (Kd.C_below HCL.out B2.out) HcL.out (by have := HLN.out; have := HBL.out; omega) HBY.out w.heap.size B2.out.size).mono ?_); rintro e w3 ⟨g, rfl, h1, h2, h3⟩; have R3 := Aside0.mk h1; have B3 := Aside0.mk (below_then B2.out B2.out.size h2); clear h1 h2 h3))
  obtain ⟨A0, c0, hb0, hc0, hC0⟩ := R3.out.blk
  have CE := Aside0.mk (show w3.cell? ⟨g, 0, none⟩ = some (.slice A0 L.length c0) from (blk_cell hb0 0).trans rfl)
  have AL := Aside0.mk (show ∀ ad, A0 = some ad → 0 < L.length → ad.block < w3.heap.size from fun ad h hp => by
    rw [h] at hC0
    obtain ⟨ad2, h2, hx⟩ := Rd.C_at hC0 0 hp
    injection h2 with h2
    subst h2
    have := World.block_lt_of_cell? _ _ hx
    have e : (ad.add 0).block = ad.block := by unfold Addr.add; split <;> rfl
    rwa [e] at this)
  clear hb0 hc0 hC0
  go_loopg [8, 9] L.length (fun gk v8 v9 w' => ∃ (p : Nat) (last : Int) (out : List S39) (f : Nat), v9 = .int .i64 last ∧ Aside0 (gk = L.length - p) ∧ Aside0 (Rdr 76 w.heap.size w' g L p 0) ∧ Aside0 (Kd.N k39 39 w' w3.heap.size (fun k => k ≠ g) v8 out) ∧ Aside0 (Below w.heap.size w w') ∧ Aside0 (w3.heap.size ≤ w'.heap.size) ∧ Aside0 (w'.cell? ⟨g, 0, none⟩ = some (.slice A0 L.length c0)) ∧ Aside0 (getL L F 0 0 [] = getL L f last p out ∧ L.length - p < f ∧ out.length ≤ 16))
  case atStart => exact ⟨0, 0, [], F, rfl, ⟨rfl⟩, R3, ⟨Kd.N_nil _ _ _ _ _⟩, B3, ⟨Nat.le_refl _⟩, CE, ⟨rfl, HFU.out, by decide⟩⟩
  case round =>
    obtain ⟨p, last, out, f, rfl, HGK, HR, HN, HBl, HSz, HCE, HEQ⟩ := hrel
    obtain ⟨Av, cv, rfl⟩ := Kd.N_slice HN.out
    obtain ⟨z, hz⟩ : ∃ z : Int, (L.length : Int) - p = z := ⟨_, rfl⟩
    have HZ := Aside0.mk hz
    obtain ⟨f, rfl⟩ : ∃ m, f = m + 1 := ⟨f - 1, by have := HEQ.out.2.1; omega⟩
    by_cases hp : p < L.length
    · have d1 : decide (0 < z) = true := decide_eq_true (by omega)
      have HP := Aside0.mk hp
      have GW := Aside0.mk (gW_le HBY.out hp)
      obtain ⟨er, her⟩ : ∃ er, gE L p last = er := ⟨_, rfl⟩
      have HER := Aside0.mk her
      obtain ⟨t, ht⟩ : ∃ t, gT L p = t := ⟨_, rfl⟩
      obtain ⟨sx, hsx⟩ : ∃ s, (gX L p).1 = s := ⟨_, rfl⟩
      obtain ⟨p3, hp3⟩ : ∃ q, (gW L p).2.1 = q := ⟨_, rfl⟩
      obtain ⟨e3, he3⟩ : ∃ q, (gW L p).2.2 = q := ⟨_, rfl⟩
      have HNM := Aside0.mk (And.intro ht (And.intro hsx (And.intro hp3 he3)))
      have HST := Aside0.mk (show getL L F 0 0 [] = if er ≠ 0 then ([], 5 + (p : Int), er) else if out.length = 16 then ([], 5 + (p : Int), 3) else getL L f t p3 (out ++ [⟨t, bytesOf sx⟩]) by
        rw [HEQ.out.1]
        conv => lhs; unfold getL
        rw [if_neg (by omega), her, ht, hsx, hp3])
      have hw5 : wrap64 ((head5.length : Int) + (p : Int)) = 5 + (p : Int) := by
        have h_ : head5.length = 5 := rfl
        have := HLN.out
        have := HBL.out
        rw [h_]
        unfold wrap64
        omega
      have GC := Aside0.mk (fun (w5 : World) (hB5 : Below w.heap.size w w5) (r5 : Rdr 76 w.heap.size w5 g L p 0) => by
        have h := get_calls r5 HP.out (Kd.C_below HCL.out hB5) HcL.out last
        rw [HER.out, HNM.out.1, HNM.out.2.1, HNM.out.2.2.1, HNM.out.2.2.2] at h
        exact h)
      have hu39 := Try.underlying39
      clear hp hz her ht hsx hp3 he3
      by_cases h0 : er = 0
      · subst h0
        by_cases h16 : out.length = 16
        · have b2 : ((out.length : Int) == 16) = true := by rw [h16]; rfl
          have H16 := Aside0.mk h16
          clear h16
          go_wp2_with (first
            | (go_at_call 27; (with_reducible refine (g_left HR.out HZ.out).mono ?_); rintro e w4 ⟨rfl, h1⟩; have B4 := Aside0.mk (below_then HBl.out HBl.out.size h1.below); have R4 := Aside0.mk (HR.out.below h1.below); clear h1)
            | (go_at_call 28; (with_reducible refine (Rd.at_calls R4.out).mono ?_); rintro e w_ ⟨rfl, rfl⟩)
            | (go_at_call 29; (with_reducible refine (GC.out _ B4.out R4.out).mono ?_); rintro e w5 ⟨⟨A5, c5, rfl, hc5, hF5⟩, hR5, hK5⟩; have B5 := Aside0.mk (B4.out.trans hK5.2); clear hc5 hF5 hR5 hK5))
          go_ret3
          rw [HST.out, if_neg (fun h => h rfl), if_pos H16.out]
          exact ⟨⟨.slice none 0 0, by first | rfl | simp [hw5], Kd.N_nil _ _ _ _ _⟩, below_alloc B5.out _⟩
        · have b2 : ((out.length : Int) == 16) = false := beq_eq_false_iff_ne.mpr (by omega)
          have H16 := Aside0.mk h16
          have E3 := Aside0.mk (show e3 = 0 by have h := getE_e3 HER.out; rw [HNM.out.2.2.2] at h; exact h)
          clear h16
          go_wp2_with (first
            | (go_at_call 27; (with_reducible refine (g_left HR.out HZ.out).mono ?_); rintro e w4 ⟨rfl, h1⟩; have B4 := Aside0.mk (below_then HBl.out HBl.out.size h1.below); have R4 := Aside0.mk (HR.out.below h1.below); have N4 := Aside0.mk (Kd.N_below HN.out h1.below); have Z4 := Aside0.mk (Nat.le_trans HSz.out h1.below.size); have CE4 := Aside0.mk ((h1.below.cell (World.block_lt_of_cell? _ _ HCE.out)).trans HCE.out); clear h1)
            | (go_at_call 28; (with_reducible refine (Rd.at_calls R4.out).mono ?_); rintro e w_ ⟨rfl, rfl⟩)
            | (go_at_call 29; (with_reducible refine (GC.out _ B4.out R4.out).mono ?_); rintro e w5 ⟨⟨A5, c5, rfl, hc5, hF5⟩, hR5, hK5⟩; have B5 := Aside0.mk (B4.out.trans hK5.2); have R5 := Aside0.mk hR5; have N5 := Aside0.mk (Kd.N_keep N4.out hK5.1 (fun _ hk => hk)); have NL := Aside0.mk (Kd.N_lt N4.out); have Z5 := Aside0.mk (Nat.le_trans Z4.out hK5.1.1); have CE5 := Aside0.mk (hK5.row (rdr_lt R4.out) CE4.out);
               obtain ⟨V, hV⟩ : ∃ V, w5.alloc (.cells #[.int .i64 t, .slice A5 (bytesOf sx).length c5] 39) = V := ⟨_, rfl⟩; have bV := Aside0.mk (show Below w5.heap.size w5 V from (by rw [← hV]; exact below_alloc (Below.refl _ _) _)); have SV := Aside0.mk (show SBox V w5.heap.size t A5 (bytesOf sx).length c5 from (by rw [← hV]; exact ⟨blk_new w5 _⟩)); have s0 := SV.out.c0; have s1 := SV.out.c1; have FV := Aside0.mk (FK39 (t := t) hc5 (Kd.F_below hF5 bV.out)); have BVV := Aside0.mk (below_then B5.out B5.out.size bV.out); have NV := Aside0.mk (Kd.N_below N5.out bV.out); have RV := Aside0.mk (R5.out.below bV.out); have ZV := Aside0.mk (Nat.le_trans Z5.out bV.out.size); have CEV := Aside0.mk ((bV.out.cell (World.block_lt_of_cell? _ _ CE5.out)).trans CE5.out); have KL := Aside0.mk hK5.1.1; clear hc5 hF5 hR5 hK5)
            | (at_builtin; refine Kd.N_append k39 (w0 := V) w3.heap.size rfl (.tmp 54) (.tmp 56) 22 39 (.agg #[.int .i64 0, .slice none 0 0]) 32 rfl Try.underlying22 info39 rfl (by decide) (by omega) (.slice Av out.length cv) out ⟨t, bytesOf sx⟩ [.int .i64 t, .slice A5 (bytesOf sx).length c5] (fun k => k ≠ g) (fun k => k ≠ g ∧ w4.heap.size ≤ k) rfl rfl FV.out ?n1 ?n2 NV.out (Below.refl _ _) ZV.out ?n3 ?_; (case n1 => exact fun k hk => ⟨hk.1, fun e => by have := NL.out k e.symm; omega⟩); (case n2 => exact fun k hk e => by have := rdr_lt RV.out; omega); (case n3 => have := HEQ.out.2.2; omega); intro v7 w7 h1 h2 h3 h4; have N7 := Aside0.mk h1; have B7 := Aside0.mk (BVV.out.trans (h2.mono B3.out.size)); have hrow : some g ≠ (Value.slice Av out.length cv).ownBlock := Kd.N_away NV.out (fun _ hk => hk); have R7 := Aside0.mk (rdr_grown RV.out CEV.out h3 hrow (fun ad h => ⟨fun e => by have h5 := Kd.N_base NV.out _ e.symm; have h6 := AL.out ad h (by have := HP.out; omega); omega, by have h6 := AL.out ad h (by have := HP.out; omega); have := ZV.out; omega⟩)); have CE7 := Aside0.mk (show w7.cell? ⟨g, 0, none⟩ = some (.slice A0 L.length c0) from (by have h5 := h3.block g (rdr_lt RV.out) hrow; have h6 := CEV.out; simp only [World.cell?, h5] at h6 ⊢; exact h6)); have Z7 := Aside0.mk (Nat.le_trans ZV.out h3.size); have S7 := Aside0.mk (show SBox w7 w5.heap.size t A5 (bytesOf sx).length c5 from ⟨(h3.block _ (blk_lt SV.out.blk) (fun e => by have h5 := NL.out _ e.symm; have := KL.out; omega)).trans SV.out.blk⟩); have u0 := S7.out.c0; clear h1 h2 h3 h4 hrow))
          go_roundg (L.length - p3)
          case measure => have := HGK.out; have := GW.out; have := HP.out; have := HNM.out.2.2.1; omega
          case rel =>
            refine ⟨p3, t, out ++ [⟨t, bytesOf sx⟩], f, rfl, ⟨rfl⟩, ⟨by rw [← E3.out]; exact R7.out⟩, N7, B7, Z7, CE7, ⟨?_, ?_, ?_⟩⟩
            · rw [HST.out, if_neg (fun h => h rfl), if_neg H16.out]
            · have h1 := GW.out; have h2 := HP.out; have h3 := HNM.out.2.2.1; have h4 := HEQ.out.2.1; omega
            · rw [List.length_append]; have h1 := HEQ.out.2.2; have h2 := H16.out; simp; omega
      · have b2 : (er == 0) = false := beq_eq_false_iff_ne.mpr h0
        have b3 : (er != 0) = true := bne_iff_ne.mpr h0
        have H0 := Aside0.mk h0
        clear h0
        go_wp2_with (first
          | (go_at_call 27; (with_reducible refine (g_left HR.out HZ.out).mono ?_); rintro e w4 ⟨rfl, h1⟩; have B4 := Aside0.mk (below_then HBl.out HBl.out.size h1.below); have R4 := Aside0.mk (HR.out.below h1.below); clear h1)
          | (go_at_call 28; (with_reducible refine (Rd.at_calls R4.out).mono ?_); rintro e w_ ⟨rfl, rfl⟩)
          | (go_at_call 29; (with_reducible refine (GC.out _ B4.out R4.out).mono ?_); rintro e w5 ⟨⟨A5, c5, rfl, hc5, hF5⟩, hR5, hK5⟩; have B5 := Aside0.mk (B4.out.trans hK5.2); clear hc5 hF5 hR5 hK5))
        go_ret3
        rw [HST.out, if_pos H0.out]
        exact ⟨⟨.slice none 0 0, by first | rfl | simp [hw5], Kd.N_nil _ _ _ _ _⟩, below_alloc B5.out _⟩
    · have d1 : decide (0 < z) = false := decide_eq_false (by omega)
      have HE := Aside0.mk (show getL L F 0 0 [] = (out, 5 + (L.length : Int), 0) by rw [HEQ.out.1]; unfold getL; rw [if_pos (by omega)])
      have hw : wrap64 ((head5.length : Int) + (L.length : Int)) = 5 + (L.length : Int) := by
        have h_ : head5.length = 5 := rfl
        have := HLN.out
        have := HBL.out
        rw [h_]
        unfold wrap64
        omega
      clear hp hz
      go_wp2_with (go_at_call 27; (with_reducible refine (g_left HR.out HZ.out).mono ?_); rintro e w4 ⟨rfl, h1⟩; have B4 := Aside0.mk (below_then HBl.out HBl.out.size h1.below); have N4 := Aside0.mk (Kd.N_below HN.out h1.below); clear h1)
      go_ret3
      rw [HE.out]
      exact ⟨⟨.slice Av out.length cv, by first | rfl | simp [hw], Kd.N_mono (Kd.N_lower N4.out B3.out.size) (fun _ _ => trivial)⟩, B4.out⟩
theorem Get_calls {A : Option Addr} {c : Nat} {b : List Int} {w : World} (hC : (Kd.int .u8).C w A b.length b) (hc : b.length ≤ c) (hb : ∀ x ∈ b, 0 ≤ x ∧ x < 256) (hl : b.length ≤ 140737488351232) :
    Calls Try.prog 12 #[.slice A b.length c] w fun e w' => LPost w.heap.size (getMM b) e w' ∧ Below w.heap.size w w' := by
  by_cases h : begM b head5 < 5
  · exact Gethead_calls hC hc h
  · exact Getloop_calls hC hc hb hl h
end Go.Proofs.Ytnohflfpahokiaa.Sec
