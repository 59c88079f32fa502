/- A row of bytes that one variable alone reaches, whose capacity may end ahead of its block's end (s[:n:n]): what is told of it, and what append does to it. -/
import Derived.Test.YtijbcfnkeahdoaaProg
import Derived.Test.YtijbcfnkeahdoaaMine
import Derived.Test.YtijbcfnkeahdoaaWMore
import Derived.Lib.SliceRun
import Derived.Laws.AppendOwn
set_option linter.unusedVariables false
set_option linter.unusedSimpArgs false
namespace Go.Proofs.Ytijbcfnkeahdoaa.Disk
open Go Go.RowKit Go.Proofs.YtijbcfnkeahdoaaW.PrintWords

theorem info5 : (Try.prog.info? 5).map (fun i => (i.zero, i.size, i.bytes)) = some (some (.int .u8 0), 1, 1) := by kernel_rfl

def FRow (w : World) (base : Nat) (v : Value) (xs : List Int) : Prop :=
  (v = .slice none 0 0 ∧ xs = []) ∨ ∃ (q cap : Nat) (cur : Array Value), v = .slice (some ⟨q, 0, none⟩) xs.length cap ∧ base ≤ q ∧ w.heap[q]? = some (.cells cur 5 (0, 0)) ∧ xs.length ≤ cap ∧ cap ≤ maxLen ∧ cap ≤ cur.size ∧ cur.toList.take xs.length = nums .u8 xs

theorem FRow.nil (w : World) (base : Nat) : FRow w base (.slice none 0 0) [] := .inl ⟨rfl, rfl⟩
theorem FRow.slice {w : World} {base : Nat} {v : Value} {xs : List Int} (h : FRow w base v xs) : ∃ A c, v = .slice A xs.length c := by
  rcases h with ⟨rfl, rfl⟩ | ⟨q, cap, cur, rfl, _⟩
  · exact ⟨none, 0, rfl⟩
  · exact ⟨_, _, rfl⟩
theorem FRow.typed {w : World} {base : Nat} {v : Value} {xs : List Int} (h : FRow w base v xs) : ∀ k, v.ownBlock = some k → ∃ cur, w.heap[k]? = some (.cells cur 5 (0, 0)) := by
  rcases h with ⟨rfl, rfl⟩ | ⟨q, cap, cur, rfl, _, hq, _⟩
  · intro k hk; simp [Value.ownBlock] at hk
  · intro k hk
    have : q = k := by simpa [Value.ownBlock] using hk
    subst this
    exact ⟨cur, hq⟩
theorem FRow.lt {w : World} {base : Nat} {v : Value} {xs : List Int} (h : FRow w base v xs) : ∀ k, v.ownBlock = some k → k < w.heap.size := fun k hk => by
  obtain ⟨cur, hc⟩ := h.typed k hk
  exact blk_lt hc
theorem FRow.low {w : World} {base : Nat} {v : Value} {xs : List Int} (h : FRow w base v xs) : ∀ k, v.ownBlock = some k → base ≤ k := by
  rcases h with ⟨rfl, rfl⟩ | ⟨q, cap, cur, rfl, hb, _⟩
  · intro k hk; simp [Value.ownBlock] at hk
  · intro k hk
    have : q = k := by simpa [Value.ownBlock] using hk
    omega
theorem FRow.ne {w : World} {base : Nat} {v : Value} {xs : List Int} (h : FRow w base v xs) {g t : Nat} {cs : Array Value} (hb : w.heap[g]? = some (.cells cs t (0, 0))) (ht : t ≠ 5) : some g ≠ v.ownBlock := by
  intro e
  obtain ⟨cur, hc⟩ := h.typed g e.symm
  rw [hb] at hc
  injection hc with hc
  injection hc with _ hc
  exact ht hc
theorem FRow.move {w w' : World} {base : Nat} {v : Value} {xs : List Int} (h : FRow w base v xs) (hm : ∀ k, v.ownBlock = some k → w'.heap[k]? = w.heap[k]?) : FRow w' base v xs := by
  rcases h with ⟨rfl, rfl⟩ | ⟨q, cap, cur, rfl, hb, hq, h1, h2, h3, h4⟩
  · exact .inl ⟨rfl, rfl⟩
  · exact .inr ⟨q, cap, cur, rfl, hb, (hm q rfl).trans hq, h1, h2, h3, h4⟩
theorem FRow.below {w w' : World} {base : Nat} {v : Value} {xs : List Int} (h : FRow w base v xs) (hb : Below w.heap.size w w') : FRow w' base v xs := h.move fun k hk => hb.block k (h.lt k hk)
theorem FRow.grown {w w' : World} {base : Nat} {v : Value} {xs : List Int} {row : Option Nat} (h : FRow w base v xs) (hg : w.grownBy w' row) (hn : ∀ k, v.ownBlock = some k → some k ≠ row) : FRow w' base v xs := h.move fun k hk => hg.block k (h.lt k hk) (hn k hk)
theorem FRow.set {w : World} {base : Nat} {v : Value} {xs : List Int} (h : FRow w base v xs) {g t : Nat} {cs : Array Value} (hb : w.heap[g]? = some (.cells cs t (0, 0))) (ht : t ≠ 5) (i : Nat) (u : Value) : FRow (w.setCell ⟨g, i, none⟩ u) base v xs :=
  h.move fun k hk => Below.heap_setCell w ⟨g, i, none⟩ u k (fun e => h.ne hb ht (by rw [hk]; exact congrArg some e.symm))
theorem FRow.reads {w : World} {base : Nat} {v : Value} {xs : List Int} (h : FRow w base v xs) : ∃ A c, v = .slice A xs.length c ∧ xs.length ≤ c ∧ (Kd.int .u8).C w A xs.length xs := by
  rcases h with ⟨rfl, rfl⟩ | ⟨q, cap, cur, rfl, hb, hq, h1, h2, h3, h4⟩
  · exact ⟨none, 0, rfl, Nat.le_refl _, Kd.C_nil _ _⟩
  · refine ⟨_, cap, rfl, h1, rfl, by simp only [maxLen] at h2; omega, fun _ => ⟨_, rfl, fun j p hj => ⟨[Value.int .u8 p], rfl, rfl, fun i u hu => ?_⟩⟩⟩
    obtain ⟨hi, hu⟩ := List.getElem?_eq_some_iff.1 hu
    have hi0 : i = 0 := by simpa using hi
    subst hi0
    have hu' : Value.int .u8 p = u := by simpa using hu
    subst hu'
    have hsz : (Kd.int .u8).sz = 1 := rfl
    rw [hsz, Nat.mul_one, Nat.add_zero]
    have ha : (⟨q, 0, none⟩ : Addr).add j = ⟨q, j, none⟩ := by
      unfold Addr.add
      split
      · rename_i h0; rw [h0]
      · simp
    rw [ha, blk_cell hq j]
    have h5 := congrArg (fun l : List Value => l[j]?) h4
    simp only [List.getElem?_take] at h5
    obtain ⟨hj1, hj2⟩ := List.getElem?_eq_some_iff.1 hj
    rw [if_pos hj1] at h5
    rw [← Array.getElem?_toList, h5]
    simp [nums, hj]

/-- the cells of a row that is read -/
theorem C_cells {w : World} {A : Option Addr} {ys : List Int} (hC : (Kd.int .u8).C w A ys.length ys) : ∀ ad, A = some ad → ∀ j u, (nums .u8 ys)[j]? = some u → w.cell? (ad.add j) = some u := by
  intro ad hA j u hj
  obtain ⟨hl, hu⟩ := List.getElem?_eq_some_iff.1 hj
  rw [nums_length] at hl
  obtain ⟨ad', hA', hc⟩ := hC.2.2 (by omega)
  rw [hA] at hA'
  obtain rfl := Option.some.inj hA'
  obtain ⟨cs, hlen, hk, hcell⟩ := hc j ys[j] (List.getElem?_eq_getElem hl)
  have hk' : cs = [Value.int .u8 ys[j]] := hk
  subst hk'
  have := hcell 0 (Value.int .u8 ys[j]) rfl
  have hsz : (Kd.int .u8).sz = 1 := rfl
  rw [hsz, Nat.mul_one, Nat.add_zero] at this
  rw [this, ← hu]
  simp [nums]

theorem frow_new {w : World} {base : Nat} (zs : List Int) (n cap : Nat) (cur : Array Value) (hb : base ≤ w.heap.size) (hn : zs.length ≤ cap) (hm : cap ≤ maxLen) (hc : cap ≤ cur.size) (ht : cur.toList.take zs.length = nums .u8 zs) :
    FRow (w.drew.alloc (.cells cur 5)) base (.slice (some ⟨w.heap.size, 0, none⟩) zs.length cap) zs :=
  .inr ⟨_, cap, cur, rfl, hb, heap_alloc_new w.drew _, hn, hm, hc, ht⟩

theorem run_frow_append {w : World} {base : Nat} {v : Value} {xs ys : List Int} {A : Option Addr} {c : Nat} (h : FRow w base v xs) (hC : (Kd.int .u8).C w A ys.length ys) (hl : xs.length + ys.length ≤ 140737488355328) (hbase : base ≤ w.heap.size) :
    ∃ v' w', (Builtin.append_ #[30, 30] 30 #[v, .slice A ys.length c]).run Try.prog w = .ok v' w' ∧ FRow w' base v' (xs ++ ys) ∧ w.grownBy w' v.ownBlock ∧ (v'.ownBlock = v.ownBlock ∨ ∃ b, v'.ownBlock = some b ∧ w.heap.size ≤ b) := by
  obtain ⟨i0, hi, hzz⟩ := Option.map_eq_some_iff.1 info5
  simp only [Prod.mk.injEq] at hzz
  obtain ⟨hz0, hz1, hz2⟩ := hzz
  have ht := Try.underlying30
  have hlen : (nums .u8 (xs ++ ys)).length = xs.length + ys.length := by rw [nums_length, List.length_append]
  have hcells := C_cells hC
  cases A with
  | none =>
    have h0 : ys = [] := by
      rcases Nat.lt_or_ge 0 ys.length with h | h
      · obtain ⟨ad, e, _⟩ := hC.2.2 h; cases e
      · exact List.eq_nil_of_length_eq_zero (by omega)
    subst h0
    refine ⟨v, w, ?_, by rw [List.append_nil]; exact h, World.grownBy.refl w _, .inl rfl⟩
    rcases h with ⟨rfl, rfl⟩ | ⟨q, cap, cur, rfl, hb, hq, h1, h2, h3, h4⟩
    · simp [Builtin.append_, run_underlying ht, sizeOf, typeInfo, hi, Builtin.lenOf, Builtin.firstCells]
    · simp [Builtin.append_, run_underlying ht, sizeOf, typeInfo, hi, Builtin.lenOf, Builtin.firstCells, h1, storeCells]
  | some ad =>
    have hone : ∀ u ∈ nums .u8 ys, u.oneCell' = true := by intro u hu; simp only [nums, List.mem_map] at hu; obtain ⟨x, _, rfl⟩ := hu; rfl
    have hgrow : ∀ (old : Nat), old < xs.length + ys.length → ∀ row,
        FRow (w.drew.alloc (.cells ((nums .u8 xs).toArray ++ (nums .u8 ys).toArray ++ Builtin.zeroCells (Value.int .u8 0).cells (grownCap w (xs.length + ys.length) old 5 - (xs.length + ys.length))) 5)) base (.slice (some ⟨w.heap.size, 0, none⟩) (xs.length + ys.length) (grownCap w (xs.length + ys.length) old 5)) (xs ++ ys) ∧
        w.grownBy (w.drew.alloc (.cells ((nums .u8 xs).toArray ++ (nums .u8 ys).toArray ++ Builtin.zeroCells (Value.int .u8 0).cells (grownCap w (xs.length + ys.length) old 5 - (xs.length + ys.length))) 5)) row := by
      intro old ho row
      have hge := grownCap_ge w (xs.length + ys.length) old 5
      have hcm : grownCap w (xs.length + ys.length) old 5 ≤ maxLen := grownCap_le_maxLen w (xs.length + ys.length) old 5 (by simp only [maxLen]; omega)
      refine ⟨?_, ⟨rfl, rfl, rfl, by simp, fun k hk _ => Below.heap_alloc w.drew _ k hk⟩⟩
      rw [← List.length_append]
      rw [← List.length_append] at hge hcm
      refine frow_new (xs ++ ys) 0 _ _ hbase hge hcm ?_ ?_
      · have hz1 : (Value.int IntKind.u8 0).cells.size = 1 := rfl
        simp only [Array.size_append, List.size_toArray, size_zeroCells, hz1, nums_length, List.length_append] at hge ⊢
        omega
      · simp only [Array.toList_append, List.append_assoc]
        rw [← List.append_assoc, ← nums_append]
        have : (xs ++ ys).length = (nums .u8 (xs ++ ys)).length := (nums_length _ _).symm
        rw [this]
        exact List.take_left
    rcases h with ⟨rfl, rfl⟩ | ⟨q, cap, cur, rfl, hb, hq, h1, h2, h3, h4⟩
    · by_cases hm : ys.length = 0
      · obtain rfl : ys = [] := List.eq_nil_of_length_eq_zero hm
        refine ⟨.slice none 0 0, w, ?_, .inl ⟨rfl, rfl⟩, World.grownBy.refl w _, .inl rfl⟩
        simp [Builtin.append_, run_underlying ht, sizeOf, typeInfo, hi, Builtin.lenOf, Builtin.firstCells, loadCells, loadCellsFrom]
      · have hr := run_append_nil (P := Try.prog) w 30 30 5 i0 (.int .u8 0) ht hi hz0 ad ys.length c (nums .u8 ys) (by rw [nums_length, hz1]; omega) (hcells ad rfl) (by omega) (by omega) (by rw [hz2]; simp at hl; omega)
        have hg := hgrow 0 (by simp; omega) none
        simp only [List.length_nil, Nat.zero_add, List.nil_append] at hg
        have e0 : (nums .u8 ([] : List Int)).toArray ++ (nums .u8 ys).toArray = (nums .u8 ys).toArray := by simp [nums]
        rw [e0] at hg
        exact ⟨_, _, hr, hg.1, hg.2, .inr ⟨_, rfl, Nat.le_refl _⟩⟩
    · by_cases hroom : xs.length + ys.length ≤ cap
      · have hr := run_append_room (P := Try.prog) w 30 30 5 i0 ht hi q xs.length cap cur hq ad ys.length c (nums .u8 ys) (by rw [nums_length, hz1]; omega) (hcells ad rfl) hone hroom (by rw [hz1, nums_length]; omega)
        rw [hz1, Nat.mul_one, nums_length] at hr
        have hcl : cur.toList.length = cur.size := Array.length_toList
        refine ⟨_, _, hr, .inr ⟨q, cap, _, by rw [List.length_append], hb, setRow_heap w q cur _ 5 _ hq, by rw [List.length_append]; exact hroom, h2, ?_, ?_⟩, ⟨rfl, rfl, rfl, by simp, fun k _ hk => setRow_other w q k _ (fun e => hk (by simp [Value.ownBlock, e]))⟩, .inl rfl⟩
        · simp only [List.size_toArray, List.length_append, List.length_take, List.length_drop, nums_length, hcl]
          omega
        · have e : (xs ++ ys).length = (cur.toList.take xs.length ++ nums .u8 ys).length := by rw [h4, List.length_append, List.length_append, nums_length, nums_length]
          rw [e, List.toList_toArray, List.take_left, h4, nums_append]
      · have holds : ∀ j u, (nums .u8 xs)[j]? = some u → w.cell? ((⟨q, 0, none⟩ : Addr).add j) = some u := by
          have hC2 : (Kd.int .u8).C w (some ⟨q, 0, none⟩) xs.length xs := by
            obtain ⟨A2, c2, e2, _, h5⟩ := FRow.reads (w := w) (base := base) (.inr ⟨q, cap, cur, rfl, hb, hq, h1, h2, h3, h4⟩ : FRow w base (.slice (some ⟨q, 0, none⟩) xs.length cap) xs)
            injection e2 with e2
            rw [e2]
            exact h5
          exact C_cells hC2 _ rfl
        have hr := run_append_grow (P := Try.prog) w 30 30 5 i0 (.int .u8 0) ht hi hz0 ⟨q, 0, none⟩ xs.length cap (nums .u8 xs) (by rw [nums_length, hz1]; omega) holds ad ys.length c (nums .u8 ys) (by rw [nums_length, hz1]; omega) (hcells ad rfl) (by omega) (by omega) (by rw [hz2]; exact growslice_fits (by omega) (by omega))
        have hg := hgrow cap (by omega) (Value.ownBlock (.slice (some ⟨q, 0, none⟩) xs.length cap))
        exact ⟨_, _, hr, hg.1, hg.2, .inr ⟨_, rfl, Nat.le_refl _⟩⟩
/-- its first bytes, the capacity as it was or cut off -/
theorem FRow.take {w : World} {base : Nat} {A : Option Addr} {c : Nat} {xs : List Int} (h : FRow w base (.slice A xs.length c) xs) (n m : Nat) (hn : n ≤ xs.length) (h1 : n ≤ m) (h2 : m ≤ c) : FRow w base (.slice A n m) (xs.take n) := by
  have hl : (xs.take n).length = n := by simp; omega
  rcases h with ⟨h, rfl⟩ | ⟨q, cap, cur, h, hb, hq, h3, h4, h5, h6⟩
  · injection h with hA _ hc
    subst hA; subst hc
    have e1 : n = 0 := by simpa using hn
    have e2 : m = 0 := by omega
    subst e1; subst e2
    exact .inl ⟨rfl, rfl⟩
  · injection h with hA _ hc
    subst hA; subst hc
    refine .inr ⟨q, m, cur, by rw [hl], hb, hq, by omega, by omega, by omega, ?_⟩
    rw [hl]
    have h7 := congrArg (List.take n) h6
    rw [List.take_take, Nat.min_eq_left hn] at h7
    rw [h7]
    simp [nums]

theorem frow_step {ops : Array Oper} {o : Oper} {a : Act} {Q : Exit → Act → World → Prop} {K : Act → World → Prop} {W : World} {base : Nat} {v : Value} {xs ys : List Int} {A : Option Addr} {c : Nat} (hw : Region.wanted o (yielded ops a.tmps) = true) (s x : Operand)
    (ho : o.op = .call { callee := .builtin .append, args := #[s, x], argTypes := #[30, 30] }) (hot : o.type = 30) (hs : a.eval s = v) (hx : a.eval x = .slice A ys.length c)
    (h : FRow W base v xs) (hC : (Kd.int .u8).C W A ys.length ys) (hl : xs.length + ys.length ≤ 140737488355328) (hbase : base ≤ W.heap.size)
    (k : ∀ v1 w1, FRow w1 base v1 (xs ++ ys) → W.grownBy w1 v.ownBlock → (v1.ownBlock = v.ownBlock ∨ ∃ b, v1.ownBlock = some b ∧ W.heap.size ≤ b) → K (a.put o.dst v1) w1) :
    if Region.wanted o (yielded ops a.tmps) = true then Oper.wp Try.prog o a W K Q else K (a.put o.dst undef) W := by
  obtain ⟨v1, w1, hr, h1, h2, h3⟩ := run_frow_append h hC hl hbase
  rw [if_pos hw]
  unfold Oper.wp execOp
  simp only [ho, hot, resolve, invoke, builtin, Sem.run_bind, Sem.run_pure, Result.andThen_ok, List.map_toArray, List.map_cons, List.map_nil, hs, hx]
  rw [hr]
  exact k v1 w1 h1 h2 h3
end Go.Proofs.Ytijbcfnkeahdoaa.Disk
