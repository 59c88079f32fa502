/- The walk of norm.Norm: whatever the text, its norm. -/
import Derived.Test.YtgecigndgkcpkaaParts
set_option linter.unusedVariables false
set_option linter.unusedSimpArgs false
namespace Go.Proofs.Ytgecigndgkcpkaa.Pen
open Go Go.RowKit Go.Proofs.YtgecigndgkcpkaaW.PrintWords NormM

theorem Bld.below {w w' : World} {g base : Nat} {v : Value} {xs : List Int} (h : Bld w g base v xs) (hb : Below w.heap.size w w') : Bld w' g base v xs := by
  obtain ⟨p, hp, h⟩ := h
  exact ⟨p, hp, h.below hb⟩

/-- a row of strings is no builder's -/
theorem Bld.keeps {w w' : World} {g base b : Nat} {v u : Value} {xs : List Int} {ys : List ByteArray} {ok : Nat → Prop} (h : Bld w g base v xs) (hr : Kd.R Kd.string 9 w b ok u ys) (hk : KeepBut w w' g v.ownBlock) : Kd.R Kd.string 9 w' b ok u ys := by
  obtain ⟨p, hp, h⟩ := h
  refine Kd.R_mono (Kd.R_move (Kd.R_bound hr) (fun k hk2 => ?_)) (fun _ h => h.1)
  obtain ⟨_, _, hlt, q, hq, cells, hc⟩ := hk2
  have hq9 : q = 9 := by simpa [Kd.string, Kd.scalar] using hq
  subst hq9
  refine hk.2 k hlt ?_ ?_
  · rintro rfl
    have := h.blk
    rw [hc] at this
    injection this with this
    injection this with _ this
    cases this
  · intro e
    obtain ⟨cells', hc'⟩ := Kd.R_typed h.row k e.symm
    rw [hc] at hc'
    injection hc' with hc'
    injection hc' with _ hc'
    cases hc'

theorem bytesOf_app (a b : ByteArray) : bytesOf (a ++ b) = bytesOf a ++ bytesOf b := by simp [bytesOf]
theorem mk_app (a b : List UInt8) : mk (a ++ b) = mk a ++ mk b := by
  apply ByteArray.ext
  simp [mk]
theorem size_mk (a : List UInt8) : (mk a).size = a.length := rfl
theorem mk_data (s : ByteArray) : mk s.data.toList = s := by cases s; simp [mk]
def normOf (s : ByteArray) : ByteArray := mk (norm s.data.toList)
theorem bt_mk (p : List UInt8) (h : p ≠ []) : wordN (bt (mk p) 0).toNat = headW p := by
  cases p with
  | nil => exact absurd rfl h
  | cons c p =>
    have : bt (mk (c :: p)) 0 = (c.toNat : Int) := by rw [← bt_at (mk (c :: p)) 0 (by show 0 < (c :: p).length; simp)]; rfl
    rw [this]
    rfl
theorem rd_parts (s : ByteArray) (i : Nat) (h : i < (parts s.data.toList).length) : ∃ p, (parts s.data.toList).drop i = p :: (parts s.data.toList).drop (i + 1) ∧ rdOf ByteArray.empty (partsOf s) (i : Int) = mk p ∧ NormM.Good p := by
  refine ⟨(parts s.data.toList)[i], List.drop_eq_getElem_cons h, ?_, parts_good _ _ (List.getElem_mem h)⟩
  unfold rdOf partsOf
  simp [h]

set_option maxHeartbeats 4000000 in
theorem norm_calls (s : ByteArray) (hs : s.size ≤ 1099511627776) (w : World) :
    Calls Try.prog 8 #[.string s] w fun e w' => e = .returned (.string (normOf s)) ∧ Below w.heap.size w w' := by
  obtain ⟨ps, hps⟩ : ∃ ps, parts s.data.toList = ps := ⟨_, rfl⟩
  have HP := Aside0.mk hps
  have HS := Aside0.mk hs
  have hl : (partsOf s).length = ps.length := by unfold partsOf; rw [hps, List.length_map]
  have HL := Aside0.mk hl
  clear hps hl hs
  go_enter Try.func8, Try.ntmps8
  go_wp2_with (go_at_call 11; (with_reducible refine (parts_calls s HS.out _).mono ?_); rintro e w2 ⟨v9, rfl, h1, h2⟩; obtain ⟨A9, c9, rfl⟩ := Kd.R_slice h1; have hB : Bld (w.alloc (.cells #[.pointer none, .slice none 0 0] 35)) w.heap.size w.heap.size (.slice none 0 0) (bytesOf (mk [])) := ⟨_, .inl rfl, blk_new w _, Kd.R_nil _ _ _ _ _, Nat.le_refl _, by simp⟩; have H1 := Aside0.mk h1; have H2 := Aside0.mk (below_then ((Below.refl _ _).alloc (Nat.le_refl _) _) (by simp) h2 : Below w.heap.size w w2); have H3 := Aside0.mk (hB.below h2); clear h1 h2 hB; rw [HL.out])
  go_loopg [4, 11] ps.length (fun g v4 v11 w' => ∃ (i : Nat) (lb : Bool) (acc : List UInt8) (v : Value), v11 = .int .i64 (i : Int) ∧ v4 = .bool lb ∧ Aside0 (i + g = ps.length) ∧ Aside0 (acc ++ joinP lb (ps.drop i) = norm s.data.toList) ∧ Aside0 (Bld w' w.heap.size w.heap.size v (bytesOf (mk acc))) ∧ Aside0 (Kd.R Kd.string 9 w' (w.alloc (.cells #[.pointer none, .slice none 0 0] 35)).heap.size (fun _ => True) (.slice A9 ps.length c9) (partsOf s)) ∧ Aside0 (Below w.heap.size w w'))
  case atStart => exact ⟨0, false, [], _, rfl, rfl, ⟨by omega⟩, ⟨by rw [← HP.out]; rfl⟩, H3, ⟨by have := H1.out; rw [HL.out] at this; exact this⟩, H2⟩
  case round =>
    obtain ⟨i, lb, acc, v, rfl, rfl, HI, HJ, HBd, HR, HB⟩ := hrel
    clear H1 H2 H3
    by_cases hi : i < ps.length
    · have c1 : decide ((i : Int) < (ps.length : Int)) = true := decide_eq_true (by omega)
      have c1n : (i < ps.length) = True := eq_true hi
      obtain ⟨p, hd, hrd, hg⟩ := rd_parts s i (by rw [HP.out]; exact hi)
      rw [HP.out] at hd
      have hlen : (partsOf s).length = ps.length := HL.out
      obtain ⟨ad, hA, hx⟩ := Kd.at_string (Kd.R_reads' HR.out).2.2 (i : Int) (by omega) (by omega)
      subst hA
      rw [hrd, Int.toNat_natCast] at hx
      have HI2 := Aside0.mk (show ps.length ≤ 9223372036854775807 by have h := Kd.C_max (Kd.R_reads' HR.out).2.2; omega)
      have HLn := Aside0.mk (show acc.length + 1 + p.length ≤ 1099511627777 by
        have h1 := congrArg List.length HJ.out
        rw [hd] at h1
        have h2 := norm_len s.data.toList
        rw [data_length] at h2
        have h3 := HS.out
        simp only [joinP, List.length_append] at h1
        split at h1
        · simp at h1; omega
        · omega)
      have hp0 : (0 < (mk p).size) = True := eq_true (by rw [size_mk]; exact List.length_pos_iff.2 hg.ne)
      have hp1 : ((0 : Int) < ((mk p).size : Int)) = True := eq_true (by rw [size_mk]; have := List.length_pos_iff.2 hg.ne; omega)
      have hx0 : ∀ h : 0 < (mk p).size, (((mk p)[0]'h).toNat : Int) = bt (mk p) 0 := fun h => bt_at (mk p) 0 h
      obtain ⟨b, hwd⟩ : ∃ b, wordN (bt (mk p) 0).toNat = b := ⟨_, rfl⟩
      have hhw := Aside0.mk ((bt_mk p hg.ne).symm.trans hwd)
      have hb0 := Aside0.mk (bt_range (mk p) 0).1
      have HD := Aside0.mk hd
      have HG := Aside0.mk hg
      have HH := Aside0.mk hi
      clear hi hd hrd hg hlen
      cases lb
      · cases b
        · go_wp2_with (first | (go_at_call 16; (with_reducible refine (word_calls' _ hb0.out _).mono ?_); rintro e w1 ⟨rfl, rfl⟩; rw [hwd]) | (go_at_call 18; (with_reducible refine (ws_calls HBd.out (mk p) (by first | (rw [bytesOf_length, size_mk, size_mk]; have := HLn.out; omega) | (rw [List.length_append, bytesOf_length, size_mk, size_mk]; have := HLn.out; simp; omega))).mono ?_); rintro e w6 ⟨rfl, v6, h1, h2, h3⟩; have HBd6 := Aside0.mk h1; have HR6 := Aside0.mk (HBd.out.keeps HR.out h2); have HB6 := Aside0.mk (HB.out.trans h3); clear h1 h2 h3))
          go_roundg (gk - 1)
          case measure => have := HI.out; have := HH.out; omega
          case rel =>
            refine ⟨i + 1, false, acc ++ (p), v6, ?_, rfl, ⟨by have := HI.out; have := HH.out; omega⟩, ⟨?_⟩, ⟨?_⟩, HR6, HB6⟩
            · have := HH.out; have := HI2.out; first | rfl | (simp [wrap64]; omega)
            · have h := HJ.out
              rw [HD.out] at h
              rw [joinP, if_neg (by simp), hhw.out] at h
              rw [List.append_assoc]
              exact h
            · rw [mk_app, bytesOf_app]; exact HBd6.out
        · go_wp2_with (first | (go_at_call 16; (with_reducible refine (word_calls' _ hb0.out _).mono ?_); rintro e w1 ⟨rfl, rfl⟩; rw [hwd]) | (go_at_call 18; (with_reducible refine (ws_calls HBd.out (mk p) (by first | (rw [bytesOf_length, size_mk, size_mk]; have := HLn.out; omega) | (rw [List.length_append, bytesOf_length, size_mk, size_mk]; have := HLn.out; simp; omega))).mono ?_); rintro e w6 ⟨rfl, v6, h1, h2, h3⟩; have HBd6 := Aside0.mk h1; have HR6 := Aside0.mk (HBd.out.keeps HR.out h2); have HB6 := Aside0.mk (HB.out.trans h3); clear h1 h2 h3))
          go_roundg (gk - 1)
          case measure => have := HI.out; have := HH.out; omega
          case rel =>
            refine ⟨i + 1, true, acc ++ (p), v6, ?_, rfl, ⟨by have := HI.out; have := HH.out; omega⟩, ⟨?_⟩, ⟨?_⟩, HR6, HB6⟩
            · have := HH.out; have := HI2.out; first | rfl | (simp [wrap64]; omega)
            · have h := HJ.out
              rw [HD.out] at h
              rw [joinP, if_neg (by simp), hhw.out] at h
              rw [List.append_assoc]
              exact h
            · rw [mk_app, bytesOf_app]; exact HBd6.out
      · cases b
        · go_wp2_with (first | (go_at_call 16; (with_reducible refine (word_calls' _ hb0.out _).mono ?_); rintro e w1 ⟨rfl, rfl⟩; rw [hwd]) | (go_at_call 18; (with_reducible refine (ws_calls HBd.out (mk p) (by first | (rw [bytesOf_length, size_mk, size_mk]; have := HLn.out; omega) | (rw [List.length_append, bytesOf_length, size_mk, size_mk]; have := HLn.out; simp; omega))).mono ?_); rintro e w6 ⟨rfl, v6, h1, h2, h3⟩; have HBd6 := Aside0.mk h1; have HR6 := Aside0.mk (HBd.out.keeps HR.out h2); have HB6 := Aside0.mk (HB.out.trans h3); clear h1 h2 h3))
          go_roundg (gk - 1)
          case measure => have := HI.out; have := HH.out; omega
          case rel =>
            refine ⟨i + 1, false, acc ++ (p), v6, ?_, rfl, ⟨by have := HI.out; have := HH.out; omega⟩, ⟨?_⟩, ⟨?_⟩, HR6, HB6⟩
            · have := HH.out; have := HI2.out; first | rfl | (simp [wrap64]; omega)
            · have h := HJ.out
              rw [HD.out] at h
              rw [joinP, if_neg (by rw [hhw.out]; simp), hhw.out] at h
              rw [List.append_assoc]
              exact h
            · rw [mk_app, bytesOf_app]; exact HBd6.out
        · go_wp2_with (first | (go_at_call 16; (with_reducible refine (word_calls' _ hb0.out _).mono ?_); rintro e w1 ⟨rfl, rfl⟩; rw [hwd]) | (go_at_call 17; (with_reducible refine (wb_calls HBd.out 32 (by rw [bytesOf_length, size_mk]; have := HLn.out; omega)).mono ?_); rintro e w5 ⟨rfl, v5, h1, h2, h3⟩; have HBd5 := Aside0.mk h1; have HR5 := Aside0.mk (HBd.out.keeps HR.out h2); have HB5 := Aside0.mk (HB.out.trans h3); clear h1 h2 h3) | (go_at_call 18; (with_reducible refine (ws_calls HBd5.out (mk p) (by first | (rw [bytesOf_length, size_mk, size_mk]; have := HLn.out; omega) | (rw [List.length_append, bytesOf_length, size_mk, size_mk]; have := HLn.out; simp; omega))).mono ?_); rintro e w6 ⟨rfl, v6, h1, h2, h3⟩; have HBd6 := Aside0.mk h1; have HR6 := Aside0.mk (HBd5.out.keeps HR5.out h2); have HB6 := Aside0.mk (HB5.out.trans h3); clear h1 h2 h3))
          go_roundg (gk - 1)
          case measure => have := HI.out; have := HH.out; omega
          case rel =>
            refine ⟨i + 1, true, acc ++ (32 :: p), v6, ?_, rfl, ⟨by have := HI.out; have := HH.out; omega⟩, ⟨?_⟩, ⟨?_⟩, HR6, HB6⟩
            · have := HH.out; have := HI2.out; first | rfl | (simp [wrap64]; omega)
            · have h := HJ.out
              rw [HD.out] at h
              rw [joinP, if_pos ⟨rfl, hhw.out⟩, hhw.out] at h
              rw [List.append_assoc]
              exact h
            · have := HBd6.out; rw [List.append_assoc] at this; rw [mk_app, bytesOf_app]; exact this
    · have c1 : decide ((i : Int) < (ps.length : Int)) = false := decide_eq_false (by omega)
      have c1n : (i < ps.length) = False := eq_false hi
      have HH := Aside0.mk hi
      have HE := Aside0.mk (show acc = norm s.data.toList by rw [← HJ.out, List.drop_eq_nil_of_le (by omega)]; simp [joinP])
      clear hi
      go_wp2_with (go_at_call 19; (with_reducible refine (str_calls (mk acc) HBd.out).mono ?_); rintro e w7 ⟨rfl, h1⟩; have K1 := Aside0.mk h1; clear h1)
      go_ret
      exact ⟨by rw [HE.out]; rfl, HB.out.trans K1.out⟩
end Go.Proofs.Ytgecigndgkcpkaa.Pen
