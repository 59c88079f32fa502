/- An argument that came in, whatever its kind: what is read of it is of that kind, and no longer than a machine bears. -/
import Derived.Test.YtdgholodogcemaaProg
import Derived.Test.YtdgholodogcemaaWMore
import Derived.SizedLaws
import Derived.Deep.Slices
import Derived.Deep.Fields
import Derived.ChangeSlices
import Derived.ChangeArms
set_option linter.unusedVariables false
set_option linter.unusedSimpArgs false
namespace Go.Proofs.Ytdgholodogcemaa.Opens
open Go Go.RowKit Go.ChangeShapes Go.WideShapes Go.Deep Go.Proofs.YtdgholodogcemaaW.PrintWords

def Opens {α : Type} (P : Program) (t : TypeId) (d : Kd α) (G : α → Prop) : Prop :=
  ∀ {H : Type} {enc : TypeId × Value → H} {w : World} {base : Nat} {spare : Nat → Bool} {held : Bool} {fuel : Nat} {cs : List Value} {x : DataW H × List MemPlace},
    DataW.trod enc P w base spare held fuel t cs = some x → (∀ n ∈ x.1.weights P t, n ≤ reachBytes) → ∃ a, d.K w a cs ∧ G a

theorem opens_int {P : Program} {t : TypeId} {k : IntKind} (ht : P.underlying t = some (.int k)) : Opens P t (Kd.int k) (fun a => (Lit.int k a).wf = true) := by
  intro H enc w base spare held fuel cs x h _
  obtain ⟨n, rfl, _, hw⟩ := DataW.trod_int ht h
  exact ⟨n, rfl, hw⟩
theorem opens_string {P : Program} {t : TypeId} (ht : P.underlying t = some .string) : Opens P t Kd.string (fun a => a.size ≤ 140737488351232) := by
  intro H enc w base spare held fuel cs x h hn
  obtain ⟨s, rfl, rfl, _⟩ := DataW.trod_string ht h
  refine ⟨s, rfl, ?_⟩
  have h1 := hn s.data.toList.length (by simp [DataW.weights])
  rw [Array.length_toList] at h1
  exact h1
theorem list_of {α : Type} {p : Nat → α → Prop} : ∀ n, (∀ i, i < n → ∃ a, p i a) → ∃ xs : List α, xs.length = n ∧ ∀ i a, xs[i]? = some a → p i a
  | 0, _ => ⟨[], rfl, by simp⟩
  | n + 1, h => by
    obtain ⟨xs, hl, hx⟩ := list_of n (fun i hi => h i (by omega))
    obtain ⟨a, ha⟩ := h n (by omega)
    refine ⟨xs ++ [a], by simp [hl], fun i b hb => ?_⟩
    rw [List.getElem?_append] at hb
    split at hb
    · exact hx i b hb
    · rename_i hi
      have hi2 : i - xs.length < 1 := by
        have := (List.getElem?_eq_some_iff.1 hb).1
        simpa using this
      have hi3 : i = n := by omega
      subst hi3
      rw [hl, Nat.sub_self] at hb
      have : a = b := by simpa using hb
      subst this
      exact ha
theorem weightsAll_mem {H : Type} {P : Program} {e : TypeId} : ∀ {l : List (DataW H)} {y : DataW H}, y ∈ l → ∀ n ∈ y.weights P e, n ∈ DataW.weightsAll P e l
  | d :: r, y, hy, n, hn => by
    simp only [DataW.weightsAll, List.mem_append]
    rcases List.mem_cons.1 hy with rfl | hy
    · exact .inl hn
    · exact .inr (weightsAll_mem hy n hn)
theorem opens_slice {α : Type} {P : Program} {t e B : Nat} {d : Kd α} {G : α → Prop} (ht : P.underlying t = some (.slice e)) (hc : P.cellsOf e = d.sz) (hB : P.bytesOf e = B) (h0 : Opens P e d G) :
    Opens P t (Kd.slice e d) (fun xs => xs.length ≤ 9223372036854775807 ∧ xs.length * B ≤ 140737488351232 ∧ ∀ x ∈ xs, G x) := by
  intro H enc w base spare held fuel cs x h hn
  rcases open_slice ht h with ⟨rfl, rfl⟩ | ⟨a, len, cap, m, n, D, Pl, rfl, hb, hl, hm, hmm, rfl, hi⟩
  · exact ⟨[], ⟨none, 0, rfl, Nat.le_refl _, Kd.C_nil _ _⟩, by simp, by simp, by simp⟩
  · have hlm : len ≤ m := by rw [hmm]; split <;> omega
    have hw : (DataW.slice ((List.range len).map D) ((List.range (m - len)).map fun j => D (len + j))).weights P t = (len + (m - len)) * P.bytesOf e :: (DataW.weightsAll P e ((List.range len).map D) ++ DataW.weightsAll P e ((List.range (m - len)).map fun j => D (len + j))) := by
      simp [DataW.weights, ht]
    simp only [hw] at hn
    have h1 := hn _ List.mem_cons_self
    obtain ⟨xs, hxl, hx⟩ := list_of (α := α) (p := fun i p => ∃ c, c.length = d.sz ∧ d.K w p c ∧ (∀ j u, c[j]? = some u → w.cell? (a.add (i * d.sz + j)) = some u) ∧ G p) len (fun i hil => by
      obtain ⟨cs', hcs, htr⟩ := hi i (by omega)
      obtain ⟨p, hk, hg⟩ := h0 htr (fun n hnn => hn n (List.mem_cons_of_mem _ (List.mem_append_left _ (weightsAll_mem (List.mem_map.2 ⟨i, List.mem_range.2 hil, rfl⟩) n hnn))))
      rw [hc] at hcs
      obtain ⟨_, hcl, hat⟩ := World.cells?_some hcs
      refine ⟨p, cs', hcl, hk, fun j u hj => ?_, hg⟩
      have hjl : j < d.sz := by
        have := (List.getElem?_eq_some_iff.1 hj).1
        omega
      have := hat j hjl
      rw [← Go.Deep.add_add, this, hj])
    refine ⟨xs, ⟨some a, cap, by rw [hxl], by omega, hxl ▸ rfl, by have := hm; unfold maxLen at this; omega, fun _ => ⟨a, rfl, fun j p hj => ?_⟩⟩, by have := hm; unfold maxLen at this; omega, ?_, fun x hxx => ?_⟩
    · obtain ⟨c, h1, h2, h3, _⟩ := hx j p hj
      exact ⟨c, h1, h2, h3⟩
    · rw [hB] at h1
      have : len ≤ len + (m - len) := Nat.le_add_right _ _
      rw [hxl]
      exact Nat.le_trans (Nat.mul_le_mul_right _ this) h1
    · obtain ⟨j, hj, e⟩ := List.getElem_of_mem hxx
      obtain ⟨_, _, _, _, hg⟩ := hx j x (by rw [← e]; exact List.getElem?_eq_getElem hj)
      exact hg
theorem opens_imp {α : Type} {P : Program} {t : TypeId} {d : Kd α} {G G' : α → Prop} (h : Opens P t d G) (hG : ∀ a, G a → G' a) : Opens P t d G' := by
  intro H enc w base spare held fuel cs x h1 h2
  obtain ⟨a, hk, hg⟩ := h h1 h2
  exact ⟨a, hk, hG a hg⟩
/-- one field of a struct whose fields are one cell each -/
theorem field_of {H : Type} {enc : TypeId × Value → H} {P : Program} {w : World} {base : Nat} {spare : Nat → Bool} {held : Bool} {t : TypeId} {fs : Array Field} {fuel : Nat} {cs : List Value} {x : DataW H × List MemPlace}
    (hs : P.underlying t = some (.struct fs)) (hone : oneCellFields P fs = true) (hC : P.cellsOf t = fs.size) (h : DataW.trod enc P w base spare held fuel t cs = some x) (hn : ∀ n ∈ x.1.weights P t, n ≤ reachBytes) :
    cs.length = fs.size ∧ ∀ (j : Nat) (f : Field) {α : Type} {d : Kd α} {G : α → Prop}, fs[j]? = some f → Opens P f.type d G → ∃ u a, cs[j]? = some u ∧ d.K w a [u] ∧ G a := by
  obtain ⟨ys, n', hn', hy, hlen, hyl, hf⟩ := DataW.trod_struct hs h
  subst hy
  have hw : (DataW.agg (ys.map (·.1))).weights P t = DataW.weightsEach P (fs.toList.map (·.type)) (ys.map (·.1)) := by simp [DataW.weights, hs]
  rw [hw] at hn
  refine ⟨hlen.trans hC, fun j f α d G hj ho => ?_⟩
  obtain ⟨hoff, hk⟩ := hone_of hone j f hj
  have hjl : j < fs.size := (Array.getElem?_eq_some_iff.1 hj).1
  have h1 := hf j f hj
  rw [hoff, hk] at h1
  have hjc : j < cs.length := by omega
  have hone' : (cs.drop j).take 1 = [cs[j]] := by
    rw [List.drop_eq_getElem_cons hjc]
    rfl
  rw [hone'] at h1
  have hys : ys[j]? = some (ys[j]'(by omega)) := List.getElem?_eq_getElem (by omega)
  obtain ⟨a, hka, hg⟩ := ho (h1.trans hys) (fun n hnn => hn n (DataW.weights_mem_each (j := j) (t := f.type) (d := (ys[j]'(by omega)).1) (by simp [hj]) (by simp [hys]) n hnn))
  exact ⟨_, a, List.getElem?_eq_getElem hjc, hka, hg⟩
theorem opens_struct2 {α a0 a1 : Type} {P : Program} {t : TypeId} {f0 f1 : Field} {d0 : Kd a0} {d1 : Kd a1} {G0 : a0 → Prop} {G1 : a1 → Prop} (g : α → a0 × a1) (mk : a0 → a1 → α) (hg : ∀ x y, g (mk x y) = (x, y))
    (hs : P.underlying t = some (.struct #[f0, f1])) (hone : oneCellFields P #[f0, f1] = true) (hC : P.cellsOf t = 2) (h0 : Opens P f0.type d0 G0) (h1 : Opens P f1.type d1 G1) :
    Opens P t (Kd.iso (Kd.pair d0 d1) g) (fun s => G0 (g s).1 ∧ G1 (g s).2) := by
  intro H enc w base spare held fuel cs x h hn
  obtain ⟨hl, hf⟩ := field_of hs hone hC h hn
  obtain ⟨u0, x0, e0, k0, g0⟩ := hf 0 f0 rfl h0
  obtain ⟨u1, x1, e1, k1, g1⟩ := hf 1 f1 rfl h1
  have hcs : cs = [u0] ++ [u1] := by
    match cs, hl with
    | [c0, c1], _ =>
      simp at e0 e1
      simp [e0, e1]
  exact ⟨mk x0 x1, by show (Kd.pair d0 d1).K w (g (mk x0 x1)) cs; rw [hg]; exact ⟨_, _, hcs, k0, k1⟩, by simp only [hg]; exact ⟨g0, g1⟩⟩
theorem opens_struct3 {α a0 a1 a2 : Type} {P : Program} {t : TypeId} {f0 f1 f2 : Field} {d0 : Kd a0} {d1 : Kd a1} {d2 : Kd a2} {G0 : a0 → Prop} {G1 : a1 → Prop} {G2 : a2 → Prop} (g : α → a0 × a1 × a2) (mk : a0 → a1 → a2 → α) (hg : ∀ x y z, g (mk x y z) = (x, y, z))
    (hs : P.underlying t = some (.struct #[f0, f1, f2])) (hone : oneCellFields P #[f0, f1, f2] = true) (hC : P.cellsOf t = 3) (h0 : Opens P f0.type d0 G0) (h1 : Opens P f1.type d1 G1) (h2 : Opens P f2.type d2 G2) :
    Opens P t (Kd.iso (Kd.pair d0 (Kd.pair d1 d2)) g) (fun s => G0 (g s).1 ∧ G1 (g s).2.1 ∧ G2 (g s).2.2) := by
  intro H enc w base spare held fuel cs x h hn
  obtain ⟨hl, hf⟩ := field_of hs hone hC h hn
  obtain ⟨u0, x0, e0, k0, g0⟩ := hf 0 f0 rfl h0
  obtain ⟨u1, x1, e1, k1, g1⟩ := hf 1 f1 rfl h1
  obtain ⟨u2, x2, e2, k2, g2⟩ := hf 2 f2 rfl h2
  have hcs : cs = [u0] ++ ([u1] ++ [u2]) := by
    match cs, hl with
    | [c0, c1, c2], _ =>
      simp at e0 e1 e2
      simp [e0, e1, e2]
  exact ⟨mk x0 x1 x2, by show (Kd.pair d0 (Kd.pair d1 d2)).K w (g (mk x0 x1 x2)) cs; rw [hg]; exact ⟨_, _, hcs, k0, _, _, rfl, k1, k2⟩, by simp only [hg]; exact ⟨g0, g1, g2⟩⟩
theorem opens_struct4 {α a0 a1 a2 a3 : Type} {P : Program} {t : TypeId} {f0 f1 f2 f3 : Field} {d0 : Kd a0} {d1 : Kd a1} {d2 : Kd a2} {d3 : Kd a3} {G0 : a0 → Prop} {G1 : a1 → Prop} {G2 : a2 → Prop} {G3 : a3 → Prop} (g : α → a0 × a1 × a2 × a3) (mk : a0 → a1 → a2 → a3 → α) (hg : ∀ x y z u, g (mk x y z u) = (x, y, z, u))
    (hs : P.underlying t = some (.struct #[f0, f1, f2, f3])) (hone : oneCellFields P #[f0, f1, f2, f3] = true) (hC : P.cellsOf t = 4) (h0 : Opens P f0.type d0 G0) (h1 : Opens P f1.type d1 G1) (h2 : Opens P f2.type d2 G2) (h3 : Opens P f3.type d3 G3) :
    Opens P t (Kd.iso (Kd.pair d0 (Kd.pair d1 (Kd.pair d2 d3))) g) (fun s => G0 (g s).1 ∧ G1 (g s).2.1 ∧ G2 (g s).2.2.1 ∧ G3 (g s).2.2.2) := by
  intro H enc w base spare held fuel cs x h hn
  obtain ⟨hl, hf⟩ := field_of hs hone hC h hn
  obtain ⟨u0, x0, e0, k0, g0⟩ := hf 0 f0 rfl h0
  obtain ⟨u1, x1, e1, k1, g1⟩ := hf 1 f1 rfl h1
  obtain ⟨u2, x2, e2, k2, g2⟩ := hf 2 f2 rfl h2
  obtain ⟨u3, x3, e3, k3, g3⟩ := hf 3 f3 rfl h3
  have hcs : cs = [u0] ++ ([u1] ++ ([u2] ++ [u3])) := by
    match cs, hl with
    | [c0, c1, c2, c3], _ =>
      simp at e0 e1 e2 e3
      simp [e0, e1, e2, e3]
  exact ⟨mk x0 x1 x2 x3, by show (Kd.pair d0 (Kd.pair d1 (Kd.pair d2 d3))).K w (g (mk x0 x1 x2 x3)) cs; rw [hg]; exact ⟨_, _, hcs, k0, _, _, rfl, k1, _, _, rfl, k2, k3⟩, by simp only [hg]; exact ⟨g0, g1, g2, g3⟩⟩
/-- an argument that is a slice: its row, its capacity, what is good of it -/
theorem opens_arg {α : Type} {H : Type} {enc : TypeId × Value → H} {P : Program} {W : World} {base : Nat} {spare : Nat → Bool} {held : Bool} {t e : TypeId} {d : Kd α} {G : List α → Prop} {a : Option Addr} {len cap : Nat} {x : DataW H} {ps : List MemPlace} {ts : List TypeId} {ds : List (DataW H)} {j : Nat}
    (ho : Opens P t (Kd.slice e d) G) (hsz : (DataW.weightsEach P ts ds).all (· ≤ reachBytes) = true) (ht : ts[j]? = some t) (hd : ds[j]? = some x) (h : DataW.Trod enc P W base spare held t (.slice a len cap) x ps) :
    ∃ l : List α, len = l.length ∧ l.length ≤ cap ∧ d.C W a l.length l ∧ G l := by
  obtain ⟨fuel, hf⟩ := h
  have hcs : (Value.slice a len cap).cells.toList = [.slice a len cap] := by simp [Value.cells]
  rw [hcs] at hf
  obtain ⟨l, ⟨A, c, he, hl, hC⟩, hg⟩ := ho hf (fun n hn => by simpa using List.all_eq_true.1 hsz n (DataW.weights_mem_each ht hd n hn))
  injection he with he _
  injection he with h1 h2 h3
  subst h1; subst h2; subst h3
  exact ⟨l, rfl, hl, hC, hg⟩
theorem i64_of {n : Int} (h : (Lit.int .i64 n).wf = true) : -9223372036854775808 ≤ n ∧ n < 9223372036854775808 := by
  simp only [Lit.wf, Bool.and_eq_true, decide_eq_true_eq] at h
  have h1 : IntKind.i64.min = -9223372036854775808 := rfl
  have h2 : IntKind.i64.max = 9223372036854775807 := rfl
  omega
theorem u8_of {n : Int} (h : (Lit.int .u8 n).wf = true) : 0 ≤ n ∧ n < 256 := by
  simp only [Lit.wf, Bool.and_eq_true, decide_eq_true_eq] at h
  have h1 : IntKind.u8.min = 0 := rfl
  have h2 : IntKind.u8.max = 255 := rfl
  omega
end Go.Proofs.Ytdgholodogcemaa.Opens
