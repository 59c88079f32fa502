/- The walks of a disk's Write, Cut and Clear. -/
import Derived.Test.YtijbcfnkeahdoaaPay
set_option linter.unusedVariables false
set_option linter.unusedSimpArgs false
namespace Go.Proofs.Ytijbcfnkeahdoaa.Disk
open Go Go.RowKit Go.Proofs.YtijbcfnkeahdoaaW.PrintWords

def DSt.writeE (x : DSt) (n : Int) (ys : List Int) : Int := if x.check n ≠ 0 then x.check n else if (x.file n).length + ys.length > 4194304 then 2 else x.told ys.length
def DSt.writeS (x : DSt) (n : Int) (ys : List Int) : DSt := if x.check n ≠ 0 then x else if (x.file n).length + ys.length > 4194304 then x else (x.pay ys.length).put n (x.file n ++ ys.take (x.cost ys.length).toNat)

theorem check_cases {x : DSt} {n : Int} (h : x.check n = 0) : n = 0 ∨ n = 1 := by
  unfold DSt.check at h
  split at h
  · cases h
  · split at h
    · cases h
    · omega
theorem DSt.cost_le {x : DSt} {c : Int} (hc : 0 ≤ c) (hl : 0 ≤ x.left) : 0 ≤ x.cost c ∧ x.cost c ≤ c := by unfold DSt.cost; split <;> omega
theorem boxes (w : World) (g : Nat) (n : Int) (u : Value) (T : Nat) : Box (((w.alloc (.cells #[.pointer (some ⟨g, 0, none⟩)] 25)).alloc (.cells #[.int .i64 n] 3)).alloc (.cells #[u] T)) g w.heap.size (w.heap.size + 1) (w.heap.size + 1 + 1) n u T := by
  refine ⟨blk_alloc (blk_alloc (blk_new w _) _) _, ?_, ?_⟩
  · have := blk_alloc (blk_new (w.alloc (.cells #[.pointer (some ⟨g, 0, none⟩)] 25)) (.cells #[.int .i64 n] 3)) (.cells #[u] T)
    simpa using this
  · have := blk_new ((w.alloc (.cells #[.pointer (some ⟨g, 0, none⟩)] 25)).alloc (.cells #[.int .i64 n] 3)) (.cells #[u] T)
    simpa using this
/-- a byte is no disk's field -/
theorem Dsk.far {w : World} {g base : Nat} {v0 v1 : Value} {x : DSt} (h : Dsk w g base v0 v1 x) {a : Addr} {q : Int} (hc : w.cell? a = some (.int .u8 q)) : a.block ≠ g := by
  intro e
  obtain ⟨A0, c0, e0⟩ := h.r0.slice
  obtain ⟨A1, c1, e1⟩ := h.r1.slice
  have hb := h.blk
  subst e0; subst e1
  unfold World.cell? at hc
  rw [e, hb] at hc
  simp only at hc
  split at hc
  · cases hc
  · match ho : a.off with
    | 0 => rw [ho] at hc; simp at hc
    | 1 => rw [ho] at hc; simp at hc
    | 2 => rw [ho] at hc; simp at hc
    | 3 => rw [ho] at hc; simp at hc
    | 4 => rw [ho] at hc; simp at hc
    | n + 5 => rw [ho] at hc; simp at hc
theorem Paid.reads {w w1 : World} {g base : Nat} {v0 v1 : Value} {x y : DSt} (hp : Paid w w1 g base v0 v1 y) (h : Dsk w g base v0 v1 x) {A : Option Addr} {ys : List Int} (hC : (Kd.int .u8).C w A ys.length ys) : (Kd.int .u8).C w1 A ys.length ys := by
  have hcells := C_cells hC
  refine ⟨rfl, hC.2.1, fun h0 => ?_⟩
  obtain ⟨ad, hA, _⟩ := hC.2.2 h0
  refine ⟨ad, hA, fun j q hj => ⟨[Value.int .u8 q], rfl, rfl, fun i u hu => ?_⟩⟩
  obtain ⟨hi, hu⟩ := List.getElem?_eq_some_iff.1 hu
  have hi0 : i = 0 := by simpa using hi
  subst hi0
  have hu' : Value.int .u8 q = u := by simpa using hu
  subst hu'
  have hsz : (Kd.int .u8).sz = 1 := rfl
  rw [hsz, Nat.mul_one, Nat.add_zero]
  have hcell := hcells ad hA j (.int .u8 q) (by simp [nums, hj])
  have hne := h.far hcell
  have := hp.rest (ad.add j).block hne
  simpa [World.cell?, this] using hcell
theorem boxes_below (w : World) (a b c : Obj) : Below w.heap.size w (((w.alloc a).alloc b).alloc c) := (((Below.refl _ _).alloc (Nat.le_refl _) a).alloc (by simp) b).alloc (by simp; omega) c

set_option maxHeartbeats 2000000 in
theorem write_bad {w : World} {g base : Nat} {v0 v1 : Value} {x : DSt} (h : Dsk w g base v0 v1 x) (n : Int) (hn : x.check n ≠ 0) (A : Option Addr) (l c : Nat) :
    Calls Try.prog 14 #[.pointer (some ⟨g, 0, none⟩), .int .i64 n, .slice A l c] w fun e w' => e = .returned (.int .i64 (x.check n)) ∧ Below w.heap.size w w' := by
  have b1 : (x.check n != 0) = true := bne_iff_ne.mpr hn
  have BB := Aside0.mk (boxes_below w (.cells #[.pointer (some ⟨g, 0, none⟩)] 25) (.cells #[.int .i64 n] 3) (.cells #[.slice A l c] 30))
  have H := Aside0.mk (h.below BB.out)
  clear h hn
  go_enter Try.func14, Try.ntmps14
  go_wp2_with (go_at_call 28; (with_reducible refine (check_calls H.out n).mono ?_); rintro e w1 ⟨rfl, rfl⟩)
  go_ret
  exact ⟨rfl, BB.out⟩

set_option maxHeartbeats 2000000 in
theorem write_ok0 {w : World} {g base : Nat} {v0 v1 : Value} {x : DSt} (h : Dsk w g base v0 v1 x) (hn : x.check 0 = 0) {A : Option Addr} {c : Nat} {ys : List Int} (hC : (Kd.int .u8).C w A ys.length ys) (hc : ys.length ≤ c) (hy : ys.length ≤ 140737488351232) :
    Calls Try.prog 14 #[.pointer (some ⟨g, 0, none⟩), .int .i64 0, .slice A ys.length c] w fun e w' => e = .returned (.int .i64 (if x.f0.length + ys.length > 4194304 then 2 else x.told ys.length)) ∧ ∃ v0' v1', Dsk w' g base v0' v1' (if x.f0.length + ys.length > 4194304 then x else { x.pay ys.length with f0 := x.f0 ++ ys.take (x.cost ys.length).toNat }) ∧ Below base w w' ∧ Only w w' g := by
  have hmf : ∀ (fn : Fn) (first cap : Array Value) (w : World), (Instr.makeFunc fn first cap).run Try.prog w = .ok (.func fn first cap) w := fun _ _ _ _ => rfl
  have B := Aside0.mk (boxes w g 0 (.slice A ys.length c) 30)
  have BB := Aside0.mk (boxes_below w (.cells #[.pointer (some ⟨g, 0, none⟩)] 25) (.cells #[.int .i64 0] 3) (.cells #[.slice A ys.length c] 30))
  have H := Aside0.mk (h.below BB.out)
  have HC := Aside0.mk (Kd.C_below hC BB.out)
  have HS := Aside0.mk h.size
  have Hc := Aside0.mk hc
  have HY := Aside0.mk hy
  obtain ⟨A0, c0, hv0⟩ := h.r0.slice
  subst hv0
  have HL := Aside0.mk h.len0
  have H0 := Aside0.mk h
  have hw : wrap64 ((x.f0.length : Int) + (ys.length : Int)) = (x.f0.length : Int) + (ys.length : Int) := by have := HL.out; unfold wrap64; omega
  clear h hC hc hy
  by_cases hbig : x.f0.length + ys.length > 4194304
  · have b2 : decide ((4194304 : Int) < (x.f0.length : Int) + (ys.length : Int)) = true := decide_eq_true (by omega)
    have b3 : ((4194304 : Int) < (x.f0.length : Int) + (ys.length : Int)) = True := eq_true (by omega)
    rw [if_pos hbig, if_pos hbig]
    clear hbig
    go_enter Try.func14, Try.ntmps14
    go_wp2_with (go_at_call 28; (with_reducible refine (check_calls H.out 0).mono ?_); rintro e w1 ⟨rfl, rfl⟩; rw [hn]; obtain ⟨W, hW⟩ : ∃ W, (((w.alloc (.cells #[.pointer (some ⟨g, 0, none⟩)] 25)).alloc (.cells #[.int .i64 0] 3)).alloc (.cells #[.slice A ys.length c] 30)) = W := ⟨_, rfl⟩; rw [hW] at H HC B BB ⊢; clear hW; have d3 : W.cell? ⟨w.heap.size, 0, none⟩ = some (.pointer (some ⟨g, 0, none⟩)) := (blk_cell B.out.b3 0).trans rfl; have d4 : W.cell? ⟨w.heap.size + 1, 0, none⟩ = some (.int .i64 0) := (blk_cell B.out.b4 0).trans rfl; have d5 : W.cell? ⟨w.heap.size + 1 + 1, 0, none⟩ = some (.slice A ys.length c) := (blk_cell B.out.b5 0).trans rfl; have dg := H.out.c0; have e3 : W.drew.cell? ⟨w.heap.size, 0, none⟩ = some (.pointer (some ⟨g, 0, none⟩)) := d3; have e4 : W.drew.cell? ⟨w.heap.size + 1, 0, none⟩ = some (.int .i64 0) := d4; have e5 : W.drew.cell? ⟨w.heap.size + 1 + 1, 0, none⟩ = some (.slice A ys.length c) := d5; have eg : W.drew.cell? ⟨g, 0, none⟩ = _ := dg)
    go_region
    all_goals (go_wp2; go_ret; exact ⟨rfl, _, _, H.out.below (Below.refl _ _).drew, (BB.out.mono HS.out).drew, Only.of_below BB.out.drew g⟩)
  · have b2 : decide ((4194304 : Int) < (x.f0.length : Int) + (ys.length : Int)) = false := decide_eq_false (by omega)
    have b3 : ((4194304 : Int) < (x.f0.length : Int) + (ys.length : Int)) = False := eq_false (by omega)
    rw [if_neg hbig, if_neg hbig]
    have HBG := Aside0.mk hbig
    clear hbig
    have hcl := DSt.cost_le (x := x) (c := (ys.length : Int)) (by omega) H0.out.left0
    obtain ⟨m, hm⟩ : ∃ m : Nat, x.cost (ys.length : Int) = (m : Int) := ⟨(x.cost (ys.length : Int)).toNat, by omega⟩
    rw [hm, Int.toNat_natCast]
    have hml : m ≤ ys.length := by omega
    have HM := Aside0.mk hm
    have HML := Aside0.mk hml
    clear hcl hm hml
    go_enter Try.func14, Try.ntmps14
    go_wp2_with (go_at_call 28; (with_reducible refine (check_calls H.out 0).mono ?_); rintro e w1 ⟨rfl, rfl⟩; rw [hn]; obtain ⟨W, hW⟩ : ∃ W, (((w.alloc (.cells #[.pointer (some ⟨g, 0, none⟩)] 25)).alloc (.cells #[.int .i64 0] 3)).alloc (.cells #[.slice A ys.length c] 30)) = W := ⟨_, rfl⟩; rw [hW] at H HC B BB ⊢; clear hW; have d3 : W.cell? ⟨w.heap.size, 0, none⟩ = some (.pointer (some ⟨g, 0, none⟩)) := (blk_cell B.out.b3 0).trans rfl; have d4 : W.cell? ⟨w.heap.size + 1, 0, none⟩ = some (.int .i64 0) := (blk_cell B.out.b4 0).trans rfl; have d5 : W.cell? ⟨w.heap.size + 1 + 1, 0, none⟩ = some (.slice A ys.length c) := (blk_cell B.out.b5 0).trans rfl; have dg := H.out.c0; have e3 : W.drew.cell? ⟨w.heap.size, 0, none⟩ = some (.pointer (some ⟨g, 0, none⟩)) := d3; have e4 : W.drew.cell? ⟨w.heap.size + 1, 0, none⟩ = some (.int .i64 0) := d4; have e5 : W.drew.cell? ⟨w.heap.size + 1 + 1, 0, none⟩ = some (.slice A ys.length c) := d5; have eg : W.drew.cell? ⟨g, 0, none⟩ = _ := dg)
    go_region
    go_wp2_with (go_at_call 29; (with_reducible refine (pay30_calls (Post := fun w' => ∃ v0' v1', Dsk w' g base v0' v1' { x.pay (ys.length : Int) with f0 := x.f0 ++ ys.take m } ∧ Below base W.drew w' ∧ Only W.drew w' g) (H.out.below (Below.refl _ _).drew) (ys.length : Int) (by omega) (by have := HY.out; omega) (p3 := w.heap.size) (p4 := w.heap.size + 1) (p5 := w.heap.size + 1 + 1) ?hD).mono ?_); (case hD => intro w1 hp; have hd := H.out.below (Below.refl _ _).drew; have hbx : Box W.drew g w.heap.size (w.heap.size + 1) (w.heap.size + 1 + 1) 0 (.slice A ys.length c) 30 := ⟨B.out.b3, B.out.b4, B.out.b5⟩; rw [HM.out]; have hf := x.pay_f0 (ys.length : Int); refine (wclos0 hp.dsk (hp.box hd hbx (by decide)) (hp.reads hd (Kd.C_drew HC.out)) Hc.out m HML.out (by have := HBG.out; have := HML.out; rw [hf]; omega)).mono ?_; rintro e u w' ⟨hu, he, v, h1, h2, h3⟩; rw [hf] at h1; exact ⟨hu, he, _, _, h1, hp.below.trans h2, hp.only.trans h3⟩); rintro e w2 ⟨rfl, h1⟩; have P1 := Aside0.mk h1; clear h1)
    go_ret
    obtain ⟨v0', v1', h1, h2, h3⟩ := P1.out
    exact ⟨rfl, v0', v1', h1, ((BB.out.mono HS.out).drew).trans h2, (Only.of_below BB.out.drew g).trans h3⟩

set_option maxHeartbeats 2000000 in
theorem write_ok1 {w : World} {g base : Nat} {v0 v1 : Value} {x : DSt} (h : Dsk w g base v0 v1 x) (hn : x.check 1 = 0) {A : Option Addr} {c : Nat} {ys : List Int} (hC : (Kd.int .u8).C w A ys.length ys) (hc : ys.length ≤ c) (hy : ys.length ≤ 140737488351232) :
    Calls Try.prog 14 #[.pointer (some ⟨g, 0, none⟩), .int .i64 1, .slice A ys.length c] w fun e w' => e = .returned (.int .i64 (if x.f1.length + ys.length > 4194304 then 2 else x.told ys.length)) ∧ ∃ v0' v1', Dsk w' g base v0' v1' (if x.f1.length + ys.length > 4194304 then x else { x.pay ys.length with f1 := x.f1 ++ ys.take (x.cost ys.length).toNat }) ∧ Below base w w' ∧ Only w w' g := by
  have hmf : ∀ (fn : Fn) (first cap : Array Value) (w : World), (Instr.makeFunc fn first cap).run Try.prog w = .ok (.func fn first cap) w := fun _ _ _ _ => rfl
  have B := Aside0.mk (boxes w g 1 (.slice A ys.length c) 30)
  have BB := Aside0.mk (boxes_below w (.cells #[.pointer (some ⟨g, 0, none⟩)] 25) (.cells #[.int .i64 1] 3) (.cells #[.slice A ys.length c] 30))
  have H := Aside0.mk (h.below BB.out)
  have HC := Aside0.mk (Kd.C_below hC BB.out)
  have HS := Aside0.mk h.size
  have Hc := Aside0.mk hc
  have HY := Aside0.mk hy
  obtain ⟨A1, c1, hv1⟩ := h.r1.slice
  subst hv1
  have HL := Aside0.mk h.len1
  have H0 := Aside0.mk h
  have hw : wrap64 ((x.f1.length : Int) + (ys.length : Int)) = (x.f1.length : Int) + (ys.length : Int) := by have := HL.out; unfold wrap64; omega
  clear h hC hc hy
  by_cases hbig : x.f1.length + ys.length > 4194304
  · have b2 : decide ((4194304 : Int) < (x.f1.length : Int) + (ys.length : Int)) = true := decide_eq_true (by omega)
    have b3 : ((4194304 : Int) < (x.f1.length : Int) + (ys.length : Int)) = True := eq_true (by omega)
    rw [if_pos hbig, if_pos hbig]
    clear hbig
    go_enter Try.func14, Try.ntmps14
    go_wp2_with (go_at_call 28; (with_reducible refine (check_calls H.out 1).mono ?_); rintro e w1 ⟨rfl, rfl⟩; rw [hn]; obtain ⟨W, hW⟩ : ∃ W, (((w.alloc (.cells #[.pointer (some ⟨g, 0, none⟩)] 25)).alloc (.cells #[.int .i64 1] 3)).alloc (.cells #[.slice A ys.length c] 30)) = W := ⟨_, rfl⟩; rw [hW] at H HC B BB ⊢; clear hW; have d3 : W.cell? ⟨w.heap.size, 0, none⟩ = some (.pointer (some ⟨g, 0, none⟩)) := (blk_cell B.out.b3 0).trans rfl; have d4 : W.cell? ⟨w.heap.size + 1, 0, none⟩ = some (.int .i64 1) := (blk_cell B.out.b4 0).trans rfl; have d5 : W.cell? ⟨w.heap.size + 1 + 1, 0, none⟩ = some (.slice A ys.length c) := (blk_cell B.out.b5 0).trans rfl; have dg := H.out.c1; have e3 : W.drew.cell? ⟨w.heap.size, 0, none⟩ = some (.pointer (some ⟨g, 0, none⟩)) := d3; have e4 : W.drew.cell? ⟨w.heap.size + 1, 0, none⟩ = some (.int .i64 1) := d4; have e5 : W.drew.cell? ⟨w.heap.size + 1 + 1, 0, none⟩ = some (.slice A ys.length c) := d5; have eg : W.drew.cell? ⟨g, 1, none⟩ = _ := dg)
    go_region
    all_goals (go_wp2; go_ret; exact ⟨rfl, _, _, H.out.below (Below.refl _ _).drew, (BB.out.mono HS.out).drew, Only.of_below BB.out.drew g⟩)
  · have b2 : decide ((4194304 : Int) < (x.f1.length : Int) + (ys.length : Int)) = false := decide_eq_false (by omega)
    have b3 : ((4194304 : Int) < (x.f1.length : Int) + (ys.length : Int)) = False := eq_false (by omega)
    rw [if_neg hbig, if_neg hbig]
    have HBG := Aside0.mk hbig
    clear hbig
    have hcl := DSt.cost_le (x := x) (c := (ys.length : Int)) (by omega) H0.out.left0
    obtain ⟨m, hm⟩ : ∃ m : Nat, x.cost (ys.length : Int) = (m : Int) := ⟨(x.cost (ys.length : Int)).toNat, by omega⟩
    rw [hm, Int.toNat_natCast]
    have hml : m ≤ ys.length := by omega
    have HM := Aside0.mk hm
    have HML := Aside0.mk hml
    clear hcl hm hml
    go_enter Try.func14, Try.ntmps14
    go_wp2_with (go_at_call 28; (with_reducible refine (check_calls H.out 1).mono ?_); rintro e w1 ⟨rfl, rfl⟩; rw [hn]; obtain ⟨W, hW⟩ : ∃ W, (((w.alloc (.cells #[.pointer (some ⟨g, 0, none⟩)] 25)).alloc (.cells #[.int .i64 1] 3)).alloc (.cells #[.slice A ys.length c] 30)) = W := ⟨_, rfl⟩; rw [hW] at H HC B BB ⊢; clear hW; have d3 : W.cell? ⟨w.heap.size, 0, none⟩ = some (.pointer (some ⟨g, 0, none⟩)) := (blk_cell B.out.b3 0).trans rfl; have d4 : W.cell? ⟨w.heap.size + 1, 0, none⟩ = some (.int .i64 1) := (blk_cell B.out.b4 0).trans rfl; have d5 : W.cell? ⟨w.heap.size + 1 + 1, 0, none⟩ = some (.slice A ys.length c) := (blk_cell B.out.b5 0).trans rfl; have dg := H.out.c1; have e3 : W.drew.cell? ⟨w.heap.size, 0, none⟩ = some (.pointer (some ⟨g, 0, none⟩)) := d3; have e4 : W.drew.cell? ⟨w.heap.size + 1, 0, none⟩ = some (.int .i64 1) := d4; have e5 : W.drew.cell? ⟨w.heap.size + 1 + 1, 0, none⟩ = some (.slice A ys.length c) := d5; have eg : W.drew.cell? ⟨g, 1, none⟩ = _ := dg)
    go_region
    go_wp2_with (go_at_call 29; (with_reducible refine (pay30_calls (Post := fun w' => ∃ v0' v1', Dsk w' g base v0' v1' { x.pay (ys.length : Int) with f1 := x.f1 ++ ys.take m } ∧ Below base W.drew w' ∧ Only W.drew w' g) (H.out.below (Below.refl _ _).drew) (ys.length : Int) (by omega) (by have := HY.out; omega) (p3 := w.heap.size) (p4 := w.heap.size + 1) (p5 := w.heap.size + 1 + 1) ?hD).mono ?_); (case hD => intro w1 hp; have hd := H.out.below (Below.refl _ _).drew; have hbx : Box W.drew g w.heap.size (w.heap.size + 1) (w.heap.size + 1 + 1) 1 (.slice A ys.length c) 30 := ⟨B.out.b3, B.out.b4, B.out.b5⟩; rw [HM.out]; have hf := x.pay_f1 (ys.length : Int); refine (wclos1 hp.dsk (hp.box hd hbx (by decide)) (hp.reads hd (Kd.C_drew HC.out)) Hc.out m HML.out (by have := HBG.out; have := HML.out; rw [hf]; omega)).mono ?_; rintro e u w' ⟨hu, he, v, h1, h2, h3⟩; rw [hf] at h1; exact ⟨hu, he, _, _, h1, hp.below.trans h2, hp.only.trans h3⟩); rintro e w2 ⟨rfl, h1⟩; have P1 := Aside0.mk h1; clear h1)
    go_ret
    obtain ⟨v0', v1', h1, h2, h3⟩ := P1.out
    exact ⟨rfl, v0', v1', h1, ((BB.out.mono HS.out).drew).trans h2, (Only.of_below BB.out.drew g).trans h3⟩
end Go.Proofs.Ytijbcfnkeahdoaa.Disk
