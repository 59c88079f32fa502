/- Bodies, functions, deferred calls, rounds do what the model does (no condition). -/
import Derived.Test.YtdkeobkooiaacaaGreatDoorEv4
import Derived.RangeFuncRecord
namespace Go.Proofs.YtdkeobkooiaacaaGreatDoor.Ev
variable {P : Program} {call round : CallF}
/-! ## Bodies -/
theorem loopN_up {f : St → R} (hf : ∀ s e s', f s = .ok e s' → Pos.Le s.n s'.n) : ∀ (m : Nat) (s : St) (e : AExit) (s' : St), loopN f m s = .ok e s' → Pos.Le s.n s'.n
  | 0, s, e, s', h => by cases h
  | m + 1, s, e, s', h => by
    simp only [loopN] at h
    split at h
    · rename_i s1 h1
      exact (hf s _ s1 h1).trans (loopN_up hf m s1 e s' h)
    · exact hf s e s' h
theorem exec_up (hcu : CallUp call) (hru : CallUp round) {Lm N : Nat} {rnd : Bool} : ∀ (c : Code) (s : St) (e : AExit) (s' : St), exec P call round Lm N rnd c s = .ok e s' → Pos.Le s.n s'.n := by
  intro c
  induction c with
  | skip => intro s e s' h; simp only [exec, R.ok.injEq] at h; rw [h.2]; exact .refl _
  | label l => intro s e s' h; simp only [exec, R.ok.injEq] at h; rw [h.2]; exact .refl _
  | region id ops draw =>
    intro s e s' h
    simp only [exec] at h
    rcases bif_and h with ⟨_, h⟩ | ⟨_, h⟩
    · cases h
    · split at h
      · exact regN_up hcu hru _ _ s e s' h
      · exact regD_up hcu hru _ _ _ s _ _ _ e s' h
  | seq x y ihx ihy =>
    intro s e s' h
    simp only [exec] at h
    split at h
    · rename_i s1 h1
      exact (ihx s _ s1 h1).trans (ihy s1 e s' h)
    · exact ihx s e s' h
  | cond c x y ihx ihy =>
    intro s e s' h
    simp only [exec] at h
    split at h
    · exact ihx s e s' h
    · exact ihy s e s' h
    · cases h
  | block id x ih =>
    intro s e s' h
    simp only [exec] at h
    split at h
    · rename_i id' s1 h1
      rcases bif_and h with ⟨_, h⟩ | ⟨_, h⟩ <;>
      · simp only [R.ok.injEq] at h
        rw [← h.2]
        exact ih s _ s1 h1
    · exact ih s e s' h
  | loop x ih =>
    intro s e s' h
    simp only [exec] at h
    exact loopN_up (fun s e s' h => ih s e s' h) Lm s e s' h
  | exit id => intro s e s' h; simp only [exec, R.ok.injEq] at h; rw [h.2]; exact .refl _
  | ret => intro s e s' h; simp only [exec, R.ok.injEq] at h; rw [h.2]; exact .refl _
  | rangeFunc f ps x y _ _ =>
    intro s e s' h
    simp only [exec] at h
    rcases bif_and h with ⟨_, h⟩ | ⟨_, h⟩
    · cases h
    · split at h
      · rcases bif_and h with ⟨_, h⟩ | ⟨_, h⟩
        · cases h
        split at h
        · rename_i v h1 n1 hcall
          split at h
          · simp only [R.ok.injEq] at h
            rw [← h.2]
            exact (Pos.Le.succ _).trans ((Pos.Le.succ _).trans ((hcu _ _ _ _).1 _ _ _ hcall))
          · cases h
        · cases h
        · cases h
      · cases h
  | scope l _ => intro s e s' h; cases h
  | goto l => intro s e s' h; cases h
  | refuse l => intro s e s' h; cases h
end Go.Proofs.YtdkeobkooiaacaaGreatDoor.Ev
namespace Go.Proofs.YtdkeobkooiaacaaGreatDoor.Ev
variable {P : Program} {call round : CallF} {ρ : Rho} {ro : Option Nat}
/-- A block is forgotten. -/
theorem drop_wr [Glob] {h : Heap} {w w' : World} (hw : WR ρ h w) {b : Pos} {bl : Blk} {l : Loc} (hg : h.get b = some bl) (hr : ∀ cs ty esz opn stq fz link, bl ≠ .row cs ty esz opn stq fz link) (hl : ρ b = some l) (hs : Mute w w' ∧ w'.heap.size = w.heap.size) (ho : ∀ B, B ≠ l.B → w'.heap[B]? = w.heap[B]?) :
    WR ρ (h.put b none) w' ∧ Fr ρ h w ρ (h.put b none) w' := by
  have hget : ∀ b', (h.put b none).get b' = if b' = b then none else h.get b' := fun b' => by rw [Tr.get_put]
  have hother : ∀ b' l', b' ≠ b → h.get b' ≠ none → ρ b' = some l' → l'.B ≠ l.B := fun b' l' hne hb' hl' heq => by
    obtain ⟨cs, ty, esz, opn, stq, fz, hx⟩ := hw.inj b b' l l' (by rw [hg]; simp) hb' hl hl' (fun x => hne x.symm) heq.symm
    rw [hg] at hx
    cases hx
    exact hr _ _ _ _ _ _ _ rfl
  have hb_of : ∀ {b' : Pos} {x : Blk}, (h.put b none).get b' = some x → b' ≠ b ∧ h.get b' = some x := fun {b' x} hb => by
    rw [hget] at hb
    split at hb
    · cases hb
    · exact ⟨‹_›, hb⟩
  refine WF.mk' hw (fun b' x l' hb hl' => ?_) (fun b1 b2 l1 l2 hb1 hb2 hl1 hl2 hne heq => ?_) ⟨hs.1, by have := hs.2; omega, fun B hB hn => ho B fun x => hn ⟨b, l, by rw [hg]; simp, hl, x.symm⟩, fun B hB => .inr ?_⟩
  · obtain ⟨hne, hb'⟩ := hb_of hb
    exact (hw.blk b' x l' hb' hl').same (ho _ (hother b' l' hne (by rw [hb']; simp) hl'))
  · obtain ⟨x1, h1⟩ := Option.ne_none_iff_exists'.1 hb1
    obtain ⟨x2, h2⟩ := Option.ne_none_iff_exists'.1 hb2
    obtain ⟨n1, h1'⟩ := hb_of h1
    obtain ⟨n2, h2'⟩ := hb_of h2
    obtain ⟨cs, ty, esz, opn, stq, fz, hx⟩ := hw.inj b1 b2 l1 l2 (by rw [h1']; simp) (by rw [h2']; simp) hl1 hl2 hne heq
    exact ⟨cs, ty, esz, opn, stq, fz, by rw [hget, if_neg n1]; exact hx⟩
  · obtain ⟨b', l', hb, hl', he⟩ := hB
    obtain ⟨x, hx⟩ := Option.ne_none_iff_exists'.1 hb
    exact ⟨b', l', by rw [(hb_of hx).2]; simp, hl', he⟩
theorem anyDefer_mem : ∀ {l : List Oper}, anyDefer l = false → ∀ o ∈ l, ∀ c, o.op ≠ .defer c
  | [], _, o, ho => by cases ho
  | x :: l, h, o, ho => by
    intro c hc
    simp only [anyDefer] at h
    rcases List.mem_cons.1 ho with rfl | ho
    · rw [hc] at h; cases h
    · split at h
      · cases h
      · exact anyDefer_mem h o ho c hc
theorem loop_ok [Glob] {P : Program} {N : Nat} {c : Code} {f : St → R} (hup : ∀ s e s', f s = .ok e s' → Pos.Le s.n s'.n) (hf : ∀ (ρ : Rho) (s : St) (a : Act) (w : World) (e : AExit) (s' : St), f s = .ok e s' → WR ρ s.h w → Fresh ρ s.n s'.n → AR ρ N s.tm s.df a → c.wpIn (fen ro) 0 P (RPost N ρ s.h s.n w e s') a w) :
    ∀ (m : Nat) (ρ : Rho) (s : St) (a : Act) (w : World) (e : AExit) (s' : St) (Q : Exit → Act → World → Prop), loopN f m s = .ok e s' → WR ρ s.h w → Fresh ρ s.n s'.n → AR ρ N s.tm s.df a → (∀ x a' w', RPost N ρ s.h s.n w e s' x a' w' → Q x a' w') → Code.roundsIn (fen ro) 0 P c Q m a w
  | 0, ρ, s, a, w, e, s', Q, h, _, _, _, _ => by cases h
  | m + 1, ρ, s, a, w, e, s', Q, h, hw, hfr, ha, hQ => by
    rw [roundsIn_succ]
    simp only [loopN] at h
    split at h
    · rename_i s1 h1
      have u1 := hup s _ s1 h1
      have u2 := loopN_up hup m s1 e s' h
      refine wpIn_mono (hf ρ s a w _ s1 h1 hw (hfr.first u2) ha) fun x a' w' hp => ?_
      obtain ⟨ρ', hx, har, hwent⟩ := hp.post
      simp only [ExR] at hx
      subst hx
      exact loop_ok hup hf m ρ' s1 a' w' e s' Q h hwent.wr (hfr.second hwent.ext) har fun x a'' w'' hp' => hQ x a'' w'' (.before hwent hp')
    · rename_i hne
      refine wpIn_mono (hf ρ s a w e s' h hw hfr ha) fun x a' w' hp => ?_
      have hq := hQ x a' w' hp
      obtain ⟨ρ', hx, har, hwent⟩ := hp.post
      cases e with
      | normal => exact absurd h (hne s')
      | exit id => simp only [ExR] at hx; subst hx; exact hq
      | ret => simp only [ExR] at hx; subst hx; exact hq
      | panic ch => obtain ⟨c', rfl, _⟩ := hx; exact hq
theorem exec_ok [Glob] (hc : CallSpec P call) (hrd : RoundSpec P round) (hcu : CallUp call) (hru : CallUp round) (hm : P.follows .mixedOrders = true) {Lm N : Nat} {rnd : Bool} (hro : ro.isSome = rnd) : ∀ (c : Code) (ρ : Rho) (s : St) (a : Act) (w : World) (e : AExit) (s' : St), codeOk P N c = true → exec P call round Lm N rnd c s = .ok e s' →
    WR ρ s.h w → Fresh ρ s.n s'.n → AR ρ N s.tm s.df a → c.wpIn (fen ro) 0 P (RPost N ρ s.h s.n w e s') a w := by
  intro c
  induction c with
  | skip => intro ρ s a w e s' _ h hw hf ha; simp only [exec, R.ok.injEq] at h; obtain ⟨rfl, rfl⟩ := h; exact wpIn_skip ⟨ρ, rfl, ha, Went.refl hw _⟩
  | label l => intro ρ s a w e s' _ h hw hf ha; simp only [exec, R.ok.injEq] at h; obtain ⟨rfl, rfl⟩ := h; exact wpIn_label ⟨ρ, rfl, ha, Went.refl hw _⟩
  | exit id => intro ρ s a w e s' _ h hw hf ha; simp only [exec, R.ok.injEq] at h; obtain ⟨rfl, rfl⟩ := h; exact wpIn_exit ⟨ρ, rfl, ha, Went.refl hw _⟩
  | ret => intro ρ s a w e s' _ h hw hf ha; simp only [exec, R.ok.injEq] at h; obtain ⟨rfl, rfl⟩ := h; exact wpIn_ret ⟨ρ, rfl, ha, Went.refl hw _⟩
  | region id ops draw =>
    intro ρ s a w e s' hok h hw hf ha
    simp only [codeOk, Bool.and_eq_true, Bool.or_eq_true, Bool.not_eq_true'] at hok
    simp only [exec] at h
    rcases bif_and h with ⟨_, h⟩ | ⟨hnd, h⟩
    · cases h
    · have hnd' : ro.isSome = true → anyDefer ops.toList = false := fun hs => by
        rw [hro] at hs
        rw [hs] at hnd
        simpa using hnd
      cases draw with
      | false =>
        refine wpIn_region ?_
        have := regN_ok (ro := ro) hc hrd hcu hru hok.1 (Q := RPost N ρ s.h s.n w e s') ops.toList 0 s ρ a w e s' (by simp) h hw hf ha hnd' fun _ _ _ hp => hp
        rw [List.range_eq_range']
        simpa using this
      | true => exact regD_ok hc hrd hcu hru (by simpa using hok.2) hok.1 hm (fun hs => anyDefer_mem (hnd' hs)) h hw hf ha fun _ _ _ hp => hp
  | seq x y ihx ihy =>
    intro ρ s a w e s' hok h hw hf ha
    simp only [codeOk, Bool.and_eq_true] at hok
    simp only [exec] at h
    refine wpIn_seq ?_
    split at h
    · rename_i s1 h1
      have u2 := exec_up hcu hru y s1 e s' h
      refine wpIn_mono (ihx ρ s a w _ s1 hok.1 h1 hw (hf.first u2) ha) fun x a' w' hp => ?_
      obtain ⟨ρ', hx, har, hwent⟩ := hp.post
      simp only [ExR] at hx
      subst hx
      exact wpIn_mono (ihy ρ' s1 a' w' e s' hok.2 h hwent.wr (hf.second hwent.ext) har) fun x a'' w'' hp' => .before hwent hp'
    · rename_i hne
      refine wpIn_mono (ihx ρ s a w e s' hok.1 h hw hf ha) fun x a' w' hp => ?_
      have hq := hp
      obtain ⟨ρ', hx, har, hwent⟩ := hp.post
      cases e with
      | normal => exact absurd h (hne s')
      | exit id => simp only [ExR] at hx; subst hx; exact hq
      | ret => simp only [ExR] at hx; subst hx; exact hq
      | panic ch => obtain ⟨c', rfl, _⟩ := hx; exact hq
  | cond c x y ihx ihy =>
    intro ρ s a w e s' hok h hw hf ha
    simp only [codeOk, Bool.and_eq_true] at hok
    simp only [exec] at h
    split at h
    · rename_i hv
      exact wpIn_cond_true (ha.tr.ev c _ hv) (ihx ρ s a w e s' hok.1 h hw hf ha)
    · rename_i hv
      exact wpIn_cond_false (ha.tr.ev c _ hv) (ihy ρ s a w e s' hok.2 h hw hf ha)
    · cases h
  | block id x ih =>
    intro ρ s a w e s' hok h hw hf ha
    simp only [codeOk] at hok
    simp only [exec] at h
    refine wpIn_block ?_
    split at h
    · rename_i id' s1 h1
      rcases bif_and h with ⟨hb, h⟩ | ⟨hb, h⟩
      · simp only [R.ok.injEq] at h
        obtain ⟨rfl, rfl⟩ := h
        have := Nat.eq_of_beq_eq_true hb
        subst this
        refine wpIn_mono (ih ρ s a w _ s1 hok h1 hw hf ha) fun x a' w' hp => ?_
        obtain ⟨ρ', hx, har, hwent⟩ := hp.post
        simp only [ExR] at hx
        subst hx
        simp only [Exit.inBlock, if_true]
        exact ⟨ρ', rfl, har, hwent⟩
      · simp only [R.ok.injEq] at h
        obtain ⟨rfl, rfl⟩ := h
        have hne : id' ≠ id := fun e => by subst e; simp at hb
        refine wpIn_mono (ih ρ s a w _ s1 hok h1 hw hf ha) fun x a' w' hp => ?_
        obtain ⟨ρ', hx, har, hwent⟩ := hp.post
        simp only [ExR] at hx
        subst hx
        simp only [Exit.inBlock, if_neg hne]
        exact ⟨ρ', rfl, har, hwent⟩
    · rename_i hne
      refine wpIn_mono (ih ρ s a w e s' hok h hw hf ha) fun x a' w' hp => ?_
      have hq := hp
      obtain ⟨ρ', hx, har, hwent⟩ := hp.post
      cases e with
      | normal => simp only [ExR] at hx; subst hx; exact hq
      | exit id' => exact absurd h (hne id' s')
      | ret => simp only [ExR] at hx; subst hx; exact hq
      | panic ch => obtain ⟨c', rfl, _⟩ := hx; exact hq
  | loop x ih =>
    intro ρ s a w e s' hok h hw hf ha
    simp only [codeOk] at hok
    simp only [exec] at h
    exact wpIn_loop_rounds Lm (loop_ok (ro := ro) (fun s e s' h => exec_up hcu hru x s e s' h) (fun ρ s a w e s' h1 h2 h3 h4 => ih ρ s a w e s' hok h1 h2 h3 h4) Lm ρ s a w e s' _ h hw hf ha fun _ _ _ hp => hp)
  | scope l _ => intro ρ s a w e s' _ h; cases h
  | goto l => intro ρ s a w e s' _ h; cases h
  | refuse l => intro ρ s a w e s' _ h; cases h
  | rangeFunc f ps x y _ _ =>
    intro ρ s a w e s' hok h hw hf ha
    simp only [exec] at h
    rcases bif_and h with ⟨_, h⟩ | ⟨hnr, h⟩
    · cases h
    split at h
    · rename_i g va' vb' hv
      rcases bif_and h with ⟨_, h⟩ | ⟨hbody, h⟩
      · cases h
      split at h
      · rename_i v h1 n1 hcall
        split at h
        · rename_i N' tm' ps' as' bo' d' hloop
          simp only [R.ok.injEq] at h
          obtain ⟨rfl, rfl⟩ := h
          have hro' : ro = none := by
            cases ro with
            | none => rfl
            | some l => rw [← hro] at hnr; cases hnr
          subst hro'
          have up := (hcu _ _ _ _).1 _ _ _ hcall
          unfold Pos.Le at up
          rw [Pos.succ_toNat, Pos.succ_toNat] at up
          have hf' : Fresh ρ s.n n1 := hf
          obtain ⟨va, vc, hfe, ha1, ha2⟩ := ha.tr.ev f _ hv
          have hn0 : ρ s.n = none := hf' s.n (Nat.le_refl _) (by omega)
          have D1 := alloc_did (ρ := ρ) (h := s.h) (n := s.n) (w := w) (bl := .dfr) (o := .deferred (some [])) (l := ⟨w.heap.size, 0, 0⟩) (v := .tuple []) (x := undef) hw hn0 rfl (fun w' hw' => hw') undef_ok
          have hf1 : Fresh ρ s.n s.n.succ := hf'.first (by rw [Pos.succ_toNat]; omega)
          have le1 := D1.ext.le hf1
          have hf1' := hf'.second D1.ext
          refine wpIn_rangeFunc fun fn _ => ?_
          have D2 := alloc_did (n := s.n.succ) (bl := .loop false N s.tm ps.toList x y s.n) (o := .loop { state := .ready, pending := none, fn, tmps := a.tmps, params := ps, assign := x, body := y, defers := w.heap.size }) (l := ⟨w.heap.size + 1, 0, 0⟩) (v := .yield s.n.succ) (x := .func (.yield (w.heap.size + 1)) #[] #[])
            D1.wr (hf1' _ (Nat.le_refl _) (by rw [Pos.succ_toNat]; omega)) (by simp) (fun w' hw' => ⟨a.tmps, ⟨w.heap.size, 0, 0⟩, ps, fn, if_pos rfl, rfl, ha.tr.mono le1, ha.size, hw'⟩) ⟨_, if_pos rfl, rfl⟩
          have hf2 : Fresh _ s.n.succ s.n.succ.succ := hf1'.first (c := n1) (by rw [Pos.succ_toNat, Pos.succ_toNat]; omega)
          have le2 := D2.ext.le hf2
          have hf2' := hf1'.second D2.ext
          have hargs := (VRs.mono (le1.trans le2) _ _ ha1).append (b := .yield s.n.succ :: vb') (w := Value.func (.yield (w.heap.size + 1)) #[] #[] :: vc.toList) ⟨_, vc.toList, rfl, D2.val, VRs.mono (le1.trans le2) _ _ ha2⟩
          have heq : va.toList ++ (Value.func (.yield (w.heap.size + 1)) #[] #[] :: vc.toList) = ((va ++ #[Value.func (.yield (w.heap.size + 1)) #[] #[]]) ++ vc).toList := by simp
          rw [heq] at hargs
          have hsp := hc g (va' ++ .yield s.n.succ :: vb') _ s.n.succ.succ _ _ _ (by rw [hcall]; simp) D2.wr hargs (by rw [hcall]; exact hf2')
          rw [hcall] at hsp
          rcases hsp with ⟨hnb, _⟩ | ⟨hrun, hin⟩
          · rw [hnb] at hbody; cases hbody
          refine ⟨w.heap.size + 1, [{ target := .collected w.heap.size, args := #[] }], _, { target := .fn (.func g) vc, args := va ++ #[.func (.yield (w.heap.size + 1)) #[] #[]] }, _, g, _, _, run_enterLoop_outer fn a.tmps ps x y, ?_, fun _ _ => trivial, hrun, (fun h => by cases h), ?_⟩
          · have hm1 : Array.map a.eval #[Operand.const (Value.func (.yield (w.heap.size + 1)) #[] #[])] = #[Value.func (.yield (w.heap.size + 1)) #[] #[]] := by simp [Act.eval]
            simp only [resolve, hfe, Deferred.ofValue, Sem.run_pure, hm1]
            rfl
          · refine CallsIn.mono (F := fen none) (n := 0 - 1) hin fun e w₃ hpost => ?_
            obtain ⟨xv, ρ', rfl, D3⟩ := hpost
            have le3 := D3.ext.le hf2'
            have hl3 := le3 s.n.succ _ (show _ = some ⟨w.heap.size + 1, 0, 0⟩ from if_pos rfl)
            have hd3 := le3 s.n _ (le2 s.n _ (show _ = some ⟨w.heap.size, 0, 0⟩ from if_pos rfl))
            obtain ⟨tmps, ld, params, fn', _, _, _, _, hrec⟩ := D3.wr.blk _ _ _ hloop hl3
            have hend := run_endLoop (P := P) hrec (by simp)
            refine ⟨none, _, hend, ?_⟩
            have hdrop := drop_wr (w' := w₃.putObj (w.heap.size + 1) (.loop { state := .exhausted, pending := none, fn := fn', tmps, params, assign := as', body := bo', defers := ld.B })) D3.wr hloop (fun _ _ _ _ _ _ _ h => by cases h) hl3 ⟨⟨rfl, rfl⟩, by simp [World.putObj]⟩ (fun B hB => World.putObj_heap_other hB)
            exact ⟨ρ', rfl, (ha.mono (le1.trans (le2.trans le3))).defers ⟨_, _, rfl, ⟨_, hd3, rfl⟩, ha.dfs.mono (le1.trans (le2.trans le3))⟩, D1.went.trans (D2.went.trans (D3.went.trans ⟨Grow.refl _ _, hdrop.1, hdrop.2⟩))⟩
        · cases h
      · cases h
      · cases h
    · cases h
end Go.Proofs.YtdkeobkooiaacaaGreatDoor.Ev
namespace Go.Proofs.YtdkeobkooiaacaaGreatDoor.Ev
variable {P : Program} {call round : CallF} {ρ : Rho}
/-! ## How a function is left -/
theorem resultsOf_run [Glob] {h : Heap} {w : World} (hw : WR ρ h w) {tm : Tr AV} {tmps : Array Value} (ht : TR ρ tm tmps) : ∀ (l : List ResultVar) (vs : List AV), resultsOf P tm h l = some vs →
    ∃ xs : List Value, VRs ρ vs xs ∧ (l.mapM (fun | .tmp t => pure (tmps.getD t undef) | .cell a t => do loadVar t (← asAddr (tmps.getD a undef)) : ResultVar → Sem Value)).run P w = .ok xs w
  | [], vs, h => by
    simp only [resultsOf, Option.some.injEq] at h
    subst h
    exact ⟨[], rfl, rfl⟩
  | .tmp t :: l, vs, hr => by
    simp only [resultsOf] at hr
    split at hr
    · rename_i v hv
      simp only [Option.map_eq_some_iff] at hr
      obtain ⟨vs', h1, rfl⟩ := hr
      obtain ⟨xs, h2, h3⟩ := resultsOf_run hw ht l vs' h1
      refine ⟨tmps.getD t undef :: xs, ⟨_, _, rfl, ht.val t v hv, h2⟩, ?_⟩
      rw [List.mapM_cons]
      simp only [Sem.run_bind, Sem.run_pure, Result.andThen_ok, h3]
    · cases hr
  | .cell a t :: l, vs, hr => by
    simp only [resultsOf] at hr
    split at hr
    · rename_i b off hv
      split at hr
      · rename_i v hld
        rw [AV.force_eq] at hr
        simp only [Option.map_eq_some_iff] at hr
        obtain ⟨vs', h1, rfl⟩ := hr
        obtain ⟨xs, h2, h3⟩ := resultsOf_run hw ht l vs' h1
        obtain ⟨ll, hl, he⟩ := ht.val a _ hv
        obtain ⟨y, hy, hvy⟩ := aLoad_ok (P := P) hw hld hl
        refine ⟨y :: xs, ⟨_, _, rfl, hvy, h2⟩, ?_⟩
        have hadr : asAddr (tmps.getD a undef) = pure ⟨ll.B, ll.o + off, none⟩ := by rw [he]; rfl
        rw [List.mapM_cons]
        simp only [Sem.run_bind, Sem.run_pure, Result.andThen_ok, h3, hadr, hy]
      · cases hr
    · cases hr
theorem results_ok [Glob] {h : Heap} {w : World} (hw : WR ρ h w) {tm : Tr AV} {tmps : Array Value} (ht : TR ρ tm tmps) {fn : Func} {vs : List AV} (hr : resultsOf P tm h fn.results.toList = some vs) {v : AV} (hv : v = (match vs with | [v] => v | vs => .tuple vs)) : ∃ x, (results fn tmps).run P w = .ok x w ∧ VR ρ v x := by
  obtain ⟨xs, h1, h2⟩ := resultsOf_run hw ht _ vs hr
  have hm : (fn.results.mapM (fun | .tmp t => pure (tmps.getD t undef) | .cell a t => do loadVar t (← asAddr (tmps.getD a undef)) : ResultVar → Sem Value)).run P w = .ok xs.toArray w := by
    rw [Array.mapM_eq_mapM_toList]
    simp only [Sem.run_map, h2]
    rfl
  refine ⟨if h : xs.toArray.size = 1 then xs.toArray[0] else .tuple xs.toArray, ?_, ?_⟩
  · unfold results
    simp only [Sem.run_bind]
    erw [hm]
    rfl
  · subst hv
    cases vs with
    | nil =>
      simp only [VRs] at h1
      subst h1
      rw [dif_neg (by simp)]
      exact ⟨#[], rfl, rfl⟩
    | cons v1 vs =>
      obtain ⟨x, ys, rfl, hx, hys⟩ := h1
      cases vs with
      | nil =>
        simp only [VRs] at hys
        subst hys
        exact hx
      | cons v2 vs =>
        obtain ⟨y, zs, rfl, hy, hz⟩ := hys
        rw [dif_neg (by simp)]
        exact ⟨_, rfl, x, y :: zs, rfl, hx, y, zs, rfl, hy, hz⟩
end Go.Proofs.YtdkeobkooiaacaaGreatDoor.Ev
namespace Go.Proofs.YtdkeobkooiaacaaGreatDoor.Ev
variable {P : Program} {ρ : Rho}
abbrev CallDF := FuncId → List AV → Option Chain → Heap → Pos → DR
def UR (ρ : Rho) : Option Chain → FrameMode → Prop
  | none, m => m = .returning
  | some c, m => ∃ ch, m = .panicking ch ∧ ChR ρ c ch
theorem UR.mono {ρ' : Rho} (h : ρ.le ρ') : ∀ {u : Option Chain} {m : FrameMode}, UR ρ u m → UR ρ' u m
  | none, _, x => x
  | some _, _, ⟨ch, e, x⟩ => ⟨ch, e, x.mono h⟩
theorem UR.ne {u : Option Chain} {m : FrameMode} (h : UR ρ u m) : m ≠ .run := by
  cases u with
  | none => simp only [UR] at h; subst h; simp
  | some c => obtain ⟨ch, rfl, _⟩ := h; simp
theorem ChR.drop : ∀ {c : Chain} {ch : List PanicEntry}, ChR ρ c ch → ch.dropWhile (!·.goexit) = []
  | [], ch, h => by simp only [ChR] at h; subst h; rfl
  | _ :: _, ch, ⟨p, ps, e, _, _, hg, h⟩ => by
    subst e
    rw [List.dropWhile_cons_of_pos (by simp [hg])]
    exact h.drop
theorem UR.settle {u : Option Chain} {m : FrameMode} (h : UR ρ u m) : UR ρ (settleA u) (Go.settle m) := by
  cases u with
  | none => simp only [UR] at h; subst h; rfl
  | some c =>
    obtain ⟨ch, rfl, hc⟩ := h
    cases c with
    | nil => simp only [ChR] at hc; subst hc; exact ⟨[], rfl, rfl⟩
    | cons x c =>
      obtain ⟨v, r⟩ := x
      obtain ⟨p, ps, rfl, h1, h2, h3, h4⟩ := hc
      obtain ⟨pv, pr, pg⟩ := p
      simp only at h2 h3
      subst h2 h3
      cases pr with
      | true =>
        simp only [settleA, UR, Go.settle]
        rw [h4.drop]
      | false => exact ⟨_, rfl, _, _, rfl, h1, rfl, rfl, h4⟩
def DSpec [Glob] (P : Program) (callD : CallDF) : Prop := ∀ f args u h n u' h' n', callD f args u h n = .ret u' h' n' → Pos.Le n n' ∧ ∀ ρ w (vs : Array Value) um, WR ρ h w → VRs ρ args vs.toList → Fresh ρ n n' → UR ρ u um →
  (callFunc f vs).run P w = .ok (.enter f vs) w ∧ CallsDIn Fence.wide 0 P f vs um w (fun e um' w' => ∃ x ρ', e = .returned x ∧ UR ρ' u' um' ∧ Went ρ h n w h' n' w' ρ')
theorem leaveF_up [Glob] {callD : CallDF} (hD : DSpec P callD) {fn : Func} {tm : Tr AV} : ∀ (ds : List ADef) (u : Option Chain) (h : Heap) (n : Pos), leaveF P callD fn tm ds u h n ≠ .fail → Pos.Le n (leaveF P callD fn tm ds u h n).next'
  | [], none, h, n, hne => by
    unfold leaveF at hne ⊢
    split at hne <;> simp_all [CR.next', AV.force_eq, Pos.Le]
  | [], some c, h, n, hne => by
    unfold leaveF
    exact .refl _
  | .call f args :: ds, u, h, n, hne => by
    cases hc : callD f args u h n with
    | fail => simp [leaveF, hc] at hne
    | ret u1 h1 n1 =>
      simp only [leaveF, hc] at hne ⊢
      exact (hD _ _ _ _ _ _ _ _ hc).1.trans (leaveF_up hD ds _ h1 n1 hne)
  | .mark b :: ds, u, h, n, hne => by
    by_cases hb : h.get b = some .dfr
    · simp only [leaveF, hb] at hne ⊢
      exact leaveF_up hD ds u _ n hne
    · exfalso
      apply hne
      unfold leaveF
      split
      · rename_i h'; exact absurd h' hb
      · rfl
theorem CallPost.before [Glob] {ρ₁ : Rho} {h h₁ : Heap} {n n₁ : Pos} {w w₁ : World} {r : CR} {e : Ending} {w' : World} (hr : r ≠ .fail) (t : Went ρ h n w h₁ n₁ w₁ ρ₁) (p : CallPost ρ₁ h₁ n₁ w₁ r e w') : CallPost ρ h n w r e w' := by
  cases r with
  | fail => exact absurd rfl hr
  | ret v h' n' =>
    obtain ⟨x, ρ', he, hd⟩ := p
    exact ⟨x, ρ', he, ⟨t.ext.trans hd.ext, hd.val, hd.wr, t.fr.trans hd.fr⟩⟩
  | pan c h' n' =>
    obtain ⟨ch, ρ', he, hc, hd⟩ := p
    exact ⟨ch, ρ', he, hc, t.trans hd⟩
theorem leaveF_ok [Glob] {callD : CallDF} (hD : DSpec P callD) {fn : Func} {tm : Tr AV} {tmps : Array Value} {R : Ending → World → Prop} : ∀ (ds : List ADef) (u : Option Chain) (h : Heap) (n : Pos) (ρ : Rho) (w : World) (dl : List Deferred) (um : FrameMode), leaveF P callD fn tm ds u h n ≠ .fail →
    WR ρ h w → TR ρ tm tmps → DFR ρ ds dl → UR ρ u um → Fresh ρ n (leaveF P callD fn tm ds u h n).next' → (∀ e w', CallPost ρ h n w (leaveF P callD fn tm ds u h n) e w' → R e w') → LeavesInM Fence.wide 0 P fn tmps R dl um w
  | [], none, h, n, ρ, w, dl, um, hne, hw, ht, hd, hu, hf, hR => by
    simp only [DFR] at hd; subst hd
    simp only [UR] at hu; subst hu
    unfold leaveF at hne hR
    split at hne
    · rename_i v hv
      obtain ⟨x, h1, h2⟩ := results_ok hw ht hv (v := v) rfl
      simp only [hv] at hR
      exact ⟨x, h1, hR _ _ ⟨x, ρ, rfl, .stay hw (Fr.refl _ _ _) h2⟩⟩
    · rename_i vs hvs hv
      obtain ⟨x, h1, h2⟩ := results_ok hw ht hv (v := .tuple vs) (by
        split
        · exact absurd rfl (hvs _)
        · rfl)
      rw [hv] at hR
      refine ⟨x, h1, hR _ _ ?_⟩
      split
      · rename_i v hv'
        cases hv'
        exact absurd rfl (hvs v)
      · rename_i vs' _ hv'
        cases hv'
        rw [AV.force_eq]
        exact ⟨x, ρ, rfl, .stay hw (Fr.refl _ _ _) h2⟩
      · rename_i hv'; cases hv'
    · exact absurd rfl hne
  | [], some c, h, n, ρ, w, dl, um, hne, hw, ht, hd, hu, hf, hR => by
    simp only [DFR] at hd; subst hd
    obtain ⟨ch, rfl, hc⟩ := hu
    unfold leaveF at hR
    exact hR _ _ ⟨ch, ρ, rfl, hc, Went.refl hw _⟩
  | .call f args :: ds, u, h, n, ρ, w, dl, um, hne, hw, ht, hd, hu, hf, hR => by
    obtain ⟨d, dl', rfl, ⟨cap, htar, hargs⟩, hd'⟩ := hd
    cases hc : callD f args u h n with
    | fail => simp [leaveF, hc] at hne
    | ret u1 h1 n1 =>
      simp only [leaveF, hc] at hne hf hR
      obtain ⟨up, hspec⟩ := hD _ _ _ _ _ _ _ _ hc
      have up2 := leaveF_up hD ds _ h1 n1 hne
      obtain ⟨hrun, hin⟩ := hspec ρ w (d.args ++ cap) um hw hargs (hf.first up2) hu
      refine ⟨hu.ne, .inr ⟨(fun h => by cases h), .func f, cap, f, d.args ++ cap, htar, by rw [htar]; simp only [invoke]; exact hrun, fun _ _ => trivial, ?_⟩⟩
      refine CallsDIn.mono hin fun e um' w' hp => ?_
      obtain ⟨x, ρ', rfl, hu', hwent⟩ := hp
      have hle := hwent.ext.le (hf.first up2)
      exact leaveF_ok hD ds (settleA u1) h1 n1 ρ' w' dl' (Go.settle um') hne hwent.wr (ht.mono hle) (hd'.mono hle) hu'.settle (hf.second hwent.ext) fun e w'' hp => hR e w'' (.before hne hwent hp)
  | .mark b :: ds, u, h, n, ρ, w, dl, um, hne, hw, ht, hd, hu, hf, hR => by
    obtain ⟨d, dl', rfl, ⟨l, hl, htar⟩, hd'⟩ := hd
    by_cases hb : h.get b = some .dfr
    · simp only [leaveF, hb] at hne hf hR
      have hrec : w.heap[l.B]? = some (.deferred (some [])) := hw.blk b _ l hb hl
      have hdrop := drop_wr (w' := w.putObj l.B (.deferred none)) hw hb (fun _ _ _ _ _ _ _ h => by cases h) hl ⟨⟨rfl, rfl⟩, by simp [World.putObj]⟩ (fun B hB => World.putObj_heap_other hB)
      refine ⟨hu.ne, .inl ⟨l.B, _, htar, run_takeDeferred hrec, ?_⟩⟩
      exact leaveF_ok hD ds u _ n ρ _ dl' um hne hdrop.1 ht hd' hu hf fun e w'' hp => hR e w'' (.before hne ⟨Grow.refl _ _, hdrop.1, hdrop.2⟩ hp)
    · exfalso
      apply hne
      unfold leaveF
      split
      · rename_i h'; exact absurd h' hb
      · rfl
end Go.Proofs.YtdkeobkooiaacaaGreatDoor.Ev
namespace Go.Proofs.YtdkeobkooiaacaaGreatDoor.Ev
variable {P : Program} {call round : CallF} {ρ : Rho}
/-! ## Functions -/
theorem argTm_tr {tmps : Array Value} : ∀ (as : List AV) (xs : List Value) (i : Nat) (tm : Tr AV), VRs ρ as xs → (∀ (j : Nat) (x : Value), xs[j]? = some x → tmps[i + j]? = some x) → TR ρ tm tmps → TR ρ (argTm as i tm) tmps
  | [], _, _, _, _, _, h => h
  | a :: as, _, i, tm, ⟨x, xs, e, h1, h2⟩, hx, h => by
    subst e
    simp only [argTm]
    refine argTm_tr as xs (i + 1) _ h2 (fun j y hj => ?_) ⟨fun t v hv => ?_⟩
    · rw [show i + 1 + j = i + (j + 1) by omega]; exact hx (j + 1) y (by simpa using hj)
    · rw [Tr.get_put] at hv
      by_cases e : t = i
      · subst e
        simp only [if_true, Option.some.injEq] at hv
        subst hv
        have := hx 0 x rfl
        rw [Nat.add_zero] at this
        rw [Array.getD_eq_getD_getElem?, this]
        exact h1
      · rw [if_neg (fun x => e (pos_inj x))] at hv
        exact h.val t v hv
theorem args_ar {args : List AV} {vs : Array Value} {N : Nat} (h : VRs ρ args vs.toList) (hN : args.length ≤ N) : AR ρ N (argTm args 0 .lf) [] { tmps := vs ++ Array.replicate (N - vs.size) undef, defers := [] } := by
  have hl := h.length
  simp only [Array.length_toList] at hl
  refine ⟨argTm_tr args vs.toList 0 .lf h (fun j x hj => ?_) ⟨fun t v hv => by simp at hv⟩, by simp; omega, rfl⟩
  rw [Nat.zero_add]
  have hlt : j < vs.size := by
    have := (List.getElem?_eq_some_iff.1 hj).1
    simpa using this
  rw [Array.getElem?_append_left hlt, ← Array.getElem?_toList]
  exact hj
/-- What is asked of a program's functions. -/
structure FnsOk (P : Program) (M : Nat) : Prop where
  ok : ∀ f fn c, bodyOf P M f = some (fn, c) → codeOk P fn.ntmps c = true ∧ (fn.name == "runtime.NumGoroutine") = false
  mixed : P.follows .mixedOrders = true
theorem bodyOf_spec {M : Nat} {f : FuncId} {fn : Func} {c : Code} (h : bodyOf P M f = some (fn, c)) : P.funcs[f]? = some fn ∧ fn.body = some c := by
  unfold bodyOf at h
  rcases bif_and h with ⟨_, h⟩ | ⟨_, h⟩
  · split at h
    · rename_i fn' hf
      split at h
      · rename_i c' hc
        cases h
        exact ⟨hf, hc⟩
      · cases h
    · cases h
  · cases h
theorem enter_run {M : Nat} (hP : FnsOk P M) {f : FuncId} {fn : Func} {c : Code} (h : bodyOf P M f = some (fn, c)) (vs : Array Value) (w : World) : (callFunc f vs).run P w = .ok (.enter f vs) w := by
  obtain ⟨h1, h2⟩ := bodyOf_spec h
  have h3 := (hP.ok f fn c h).2
  have h3' : fn.name ≠ "runtime.NumGoroutine" := fun e => by rw [e] at h3; simp at h3
  unfold callFunc
  simp [h1, h2, h3']
theorem runF_ok [Glob] {M Lm : Nat} (hP : FnsOk P M) (hc : CallSpec P call) (hrd : RoundSpec P round) (hcu : CallUp call) (hru : CallUp round) (hD : DSpec P (runD P call round Lm M)) {f : FuncId} {args : List AV} {h : Heap} {n : Pos} {w : World} {vs : Array Value}
    (hne : runF P call round Lm M f args h n ≠ .fail) (hw : WR ρ h w) (ha : VRs ρ args vs.toList) (hf : Fresh ρ n (runF P call round Lm M f args h n).next') : Upon P f vs w (CallPost ρ h n w (runF P call round Lm M f args h n)) := by
  unfold runF at hne hf ⊢
  cases hb : bodyOf P M f with
  | none => simp [hb] at hne
  | some x =>
    obtain ⟨fn, c⟩ := x
    simp only [hb] at hne hf ⊢
    obtain ⟨hfn, hbody⟩ := bodyOf_spec hb
    have hok := (hP.ok f fn c hb).1
    cases hN : Nat.ble args.length fn.ntmps with
    | false => simp [hN] at hne
    | true =>
      simp only [hN, Bool.not_true, cond_false] at hne hf ⊢
      have hle := Nat.le_of_ble_eq_true hN
      refine .inr ⟨enter_run hP hb vs w, callsIn_of_wp_marks hfn hbody trivial ?_⟩
      have har := args_ar ha hle
      cases he : exec P call round Lm fn.ntmps false c ⟨argTm args 0 .lf, [], h, n⟩ with
      | fail => simp [he] at hne
      | ok e s =>
        have hup := exec_up hcu hru c _ e s he
        have fin : ∀ (u : Option Chain) (a' : Act) (w' : World) (ρ' : Rho) (um : FrameMode), leaveF P (runD P call round Lm M) fn s.tm s.df u s.h s.n ≠ .fail → Fresh ρ n (leaveF P (runD P call round Lm M) fn s.tm s.df u s.h s.n).next' →
            AR ρ' fn.ntmps s.tm s.df a' → Went ρ h n w s.h s.n w' ρ' → UR ρ' u um → LeavesInM Fence.wide 0 P fn a'.tmps (CallPost ρ h n w (leaveF P (runD P call round Lm M) fn s.tm s.df u s.h s.n)) a'.defers um w' := by
          intro u a' w' ρ' um h1 h2 h3 h4 h5
          exact leaveF_ok hD s.df u s.h s.n ρ' w' a'.defers um h1 h4.wr h3.tr h3.dfs h5 (h2.second h4.ext) fun e w'' hp => .before h1 h4 hp
        have hfr : ∀ u, leaveF P (runD P call round Lm M) fn s.tm s.df u s.h s.n ≠ .fail → Fresh ρ n (leaveF P (runD P call round Lm M) fn s.tm s.df u s.h s.n).next' → Fresh ρ n s.n := fun u h1 h2 => h2.first (leaveF_up hD s.df u s.h s.n h1)
        cases e with
        | normal =>
          simp only [he] at hne hf ⊢
          refine wpIn_mono (exec_ok (ro := none) hc hrd hcu hru hP.mixed rfl c ρ _ _ w _ s hok he hw (hfr _ hne hf) har) fun x a' w' hp => ?_
          obtain ⟨ρ', hx, h1, h2⟩ := hp.post
          simp only [ExR] at hx
          subst hx
          exact fin none a' w' ρ' .returning hne hf h1 h2 rfl
        | ret =>
          simp only [he] at hne hf ⊢
          refine wpIn_mono (exec_ok (ro := none) hc hrd hcu hru hP.mixed rfl c ρ _ _ w _ s hok he hw (hfr _ hne hf) har) fun x a' w' hp => ?_
          obtain ⟨ρ', hx, h1, h2⟩ := hp.post
          simp only [ExR] at hx
          subst hx
          exact fin none a' w' ρ' .returning hne hf h1 h2 rfl
        | panic ch =>
          simp only [he] at hne hf ⊢
          refine wpIn_mono (exec_ok (ro := none) hc hrd hcu hru hP.mixed rfl c ρ _ _ w _ s hok he hw (hfr _ hne hf) har) fun x a' w' hp => ?_
          obtain ⟨ρ', ⟨chv, rfl, hch⟩, h1, h2⟩ := hp.post
          exact fin (some ch) a' w' ρ' (.panicking chv) hne hf h1 h2 ⟨chv, rfl, hch⟩
        | exit id => simp [he] at hne
end Go.Proofs.YtdkeobkooiaacaaGreatDoor.Ev
namespace Go.Proofs.YtdkeobkooiaacaaGreatDoor.Ev
variable {P : Program} {call round : CallF} {ρ : Rho}
theorem endD_spec {fn : Func} {u u' : Option Chain} {r : R} {h' : Heap} {n' : Pos} (h : endD P fn u r = .ret u' h' n') :
    ∃ e s vs, r = .ok e s ∧ (e = .normal ∨ e = .ret) ∧ s.df = [] ∧ u' = u ∧ h' = s.h ∧ n' = s.n ∧ resultsOf P s.tm s.h fn.results.toList = some vs := by
  unfold endD at h
  split at h
  · rename_i tm h1 n1
    rcases bif_and h with ⟨hb, h⟩ | ⟨_, h⟩
    · cases h
      obtain ⟨vs, hv⟩ := Option.isSome_iff_exists.1 hb
      exact ⟨_, _, vs, rfl, .inl rfl, rfl, rfl, rfl, rfl, hv⟩
    · cases h
  · rename_i tm h1 n1
    rcases bif_and h with ⟨hb, h⟩ | ⟨_, h⟩
    · cases h
      obtain ⟨vs, hv⟩ := Option.isSome_iff_exists.1 hb
      exact ⟨_, _, vs, rfl, .inr rfl, rfl, rfl, rfl, rfl, hv⟩
    · cases h
  · cases h
  · cases h
/-- A deferred call that does not begin with recover. -/
theorem runD_plain [Glob] {M Lm : Nat} (hP : FnsOk P M) (hc : CallSpec P call) (hrd : RoundSpec P round) (hcu : CallUp call) (hru : CallUp round) {f : FuncId} {fn : Func} {c : Code} {args : List AV} {u u' : Option Chain} {h h' : Heap} {n n' : Pos} (hb : bodyOf P M f = some (fn, c)) (hN : args.length ≤ fn.ntmps)
    (hr : endD P fn u (exec P call round Lm fn.ntmps false c ⟨argTm args 0 .lf, [], h, n⟩) = .ret u' h' n') : Pos.Le n n' ∧ ∀ ρ w (vs : Array Value) um, WR ρ h w → VRs ρ args vs.toList → Fresh ρ n n' → UR ρ u um →
      (callFunc f vs).run P w = .ok (.enter f vs) w ∧ CallsDIn Fence.wide 0 P f vs um w (fun e um' w' => ∃ x ρ', e = .returned x ∧ UR ρ' u' um' ∧ Went ρ h n w h' n' w' ρ') := by
  obtain ⟨e, s, rs, he, hen, hdf, rfl, rfl, rfl, hres⟩ := endD_spec hr
  obtain ⟨hfn, hbody⟩ := bodyOf_spec hb
  have hok := (hP.ok f fn c hb).1
  have hup := exec_up hcu hru c _ e s he
  refine ⟨hup, fun ρ w vs um hw ha hf hu => ⟨enter_run hP hb vs w, ?_⟩⟩
  have har := args_ar ha hN
  refine CallsDIn.mono (callsDIn_of_wp (R := fun e w' => ∃ x ρ', e = .returned x ∧ Went ρ h n w s.h s.n w' ρ') hfn hbody trivial ?_) fun e u1 w' ⟨h1, x, ρ', h2, h3⟩ => ?_
  · refine wpIn_mono (exec_ok (ro := none) hc hrd hcu hru hP.mixed rfl c ρ _ _ w e s hok he hw hf har) fun x a' w' hp => ?_
    obtain ⟨ρ', hx, h1, h2⟩ := hp.post
    obtain ⟨v, hv1, hv2⟩ := results_ok (P := P) h2.wr h1.tr hres (v := _) rfl
    have hds : a'.defers = [] := by
      have := h1.dfs
      rw [hdf] at this
      exact this
    rcases hen with rfl | rfl
    · simp only [ExR] at hx; subst hx
      exact ⟨hds, v, hv1, v, ρ', rfl, h2⟩
    · simp only [ExR] at hx; subst hx
      exact ⟨hds, v, hv1, v, ρ', rfl, h2⟩
  · subst h1
    exact ⟨x, ρ', h2, hu.mono (h3.ext.le hf), h3⟩
end Go.Proofs.YtdkeobkooiaacaaGreatDoor.Ev
namespace Go.Proofs.YtdkeobkooiaacaaGreatDoor.Ev
variable {P : Program} {call round : CallF} {ρ : Rho}
/-! ## Rounds -/
theorem putArgs_ar {N : Nat} : ∀ (ps : List Nat) (args : List AV) (xs : List Value) (tm : Tr AV) (a : Array Value), VRs ρ args xs → ps.all (Nat.blt · N) = true → TR ρ tm a → a.size = N →
    TR ρ (putArgs ps args tm) ((ps.zip xs).foldl (fun t (p, v) => t.setIfInBounds p v) a) ∧ ((ps.zip xs).foldl (fun t (p, v) => t.setIfInBounds p v) a).size = N
  | [], args, xs, tm, a, _, _, ht, hs => by
    cases args <;> exact ⟨by simpa [putArgs] using ht, by simpa using hs⟩
  | p :: ps, [], xs, tm, a, h, _, ht, hs => by
    simp only [VRs] at h; subst h
    exact ⟨by simpa [putArgs] using ht, by simpa using hs⟩
  | p :: ps, v :: args, _, tm, a, ⟨x, xs, e, h1, h2⟩, hp, ht, hs => by
    subst e
    simp only [List.all_cons, Bool.and_eq_true, Nat.blt_eq] at hp
    simp only [putArgs, List.zip_cons_cons, List.foldl_cons]
    exact putArgs_ar ps args xs _ _ h2 hp.2 (ht.put (by rw [hs]; exact hp.1) h1) (by simp [hs])
theorem runRound_ok [Glob] {M Lm : Nat} (hP : FnsOk P M) (hc : CallSpec P call) (hrd : RoundSpec P round) (hcu : CallUp call) (hru : CallUp round) {l : Pos} {args : List AV} {h h' : Heap} {n n' : Pos} {w : World} {vs : Array Value} {ll : Loc} {v : AV}
    (hr : runRound P call round Lm l args h n = .ret v h' n') (hl : ρ l = some ll) (hw : WR ρ h w) (ha : VRs ρ args vs.toList) (hf : Fresh ρ n n') :
    ∃ f tmps assign body, (Instr.yield ll.B vs).run P w = .ok (.round ll.B f tmps assign body) w ∧ RoundIn Fence.wide 0 P ll.B f tmps assign body w (fun e w' => ∃ x ρ', e = .returned x ∧ Did ρ h n w v h' n' x w' ρ') := by
  unfold runRound at hr
  split at hr
  · rename_i N tm ps assign body d hg
    rcases bif_and hr with ⟨hb, hr⟩ | ⟨_, hr⟩
    · simp only [Bool.and_eq_true] at hb
      obtain ⟨⟨⟨b1, b2⟩, b3⟩, b4⟩ := hb
      have hlen := Nat.eq_of_beq_eq_true b1
      obtain ⟨tmps, ld, params, fn', hd, hps, ht, hsz, hrec⟩ := hw.blk l _ ll hg hl
      subst hps
      have hvl := ha.length
      simp only [Array.length_toList] at hvl
      simp only [Array.length_toList] at hlen
      obtain ⟨q1, q2⟩ := putArgs_ar params.toList args vs.toList tm tmps ha b2 ht hsz
      refine ⟨fn', (params.zip vs).foldl (fun t (p, v) => t.setIfInBounds p v) tmps, assign, body, ?_, ?_⟩
      · have hne : ¬ vs.size ≠ params.size := by omega
        simp only [Instr.yield, Sem.run_bind, run_getLoop hrec, Result.andThen_ok, if_neg hne, Sem.run_pure]
      · have hfold : (params.zip vs).foldl (fun t (p, v) => t.setIfInBounds p v) tmps = (params.toList.zip vs.toList).foldl (fun t (p, v) => t.setIfInBounds p v) tmps := by
          rw [← Array.foldl_toList, Array.toList_zip]
        rw [hfold]
        cases he : exec P call round Lm N true assign ⟨putArgs params.toList args tm, [], h, n⟩ with
        | fail => simp [he] at hr
        | ok e s =>
          cases e with
          | exit id => simp [he] at hr
          | ret => simp [he] at hr
          | panic c => simp [he] at hr
          | normal =>
            simp only [he] at hr
            split at hr
            · rename_i N' tm' ps' as' bo' d' hg'
              cases he2 : exec P call round Lm N true body ⟨s.tm, s.df, s.h.put l (some (.loop true N' tm' ps' as' bo' d')), s.n⟩ with
              | fail => simp [he2] at hr
              | ok e2 s2 =>
                obtain ⟨tm2, df2, h2, n2⟩ := s2
                cases e2 with
                | exit id => simp [he2] at hr
                | ret => simp [he2] at hr
                | panic c => simp [he2] at hr
                | normal =>
                  cases df2 with
                  | cons x y => simp [he2] at hr
                  | nil =>
                    simp only [he2] at hr
                    split at hr
                    · rename_i N3 tm3 ps3 as3 bo3 d3 hg3
                      cases hr
                      have up2 := exec_up hcu hru body _ _ _ he2
                      have hf1 : Fresh ρ n s.n := hf.first up2
                      refine roundIn_of_wpIn trivial ?_
                      refine wpIn_mono (exec_ok (ro := some ll.B) hc hrd hcu hru hP.mixed rfl assign ρ _ { tmps := (params.toList.zip vs.toList).foldl (fun t (p, v) => t.setIfInBounds p v) tmps, defers := [] } w _ s b3 he hw hf1 ⟨q1, q2, rfl⟩) fun x a₁ w₁ hp => ?_
                      obtain ⟨ρ₁, hx, ar1, went1⟩ := hp.post
                      simp only [ExR] at hx
                      subst hx
                      have le1 := went1.ext.le hf1
                      have hl1 := le1 l ll hl
                      obtain ⟨t1, l1, p1, f1, hd1, hps1, ht1, hsz1, hrec1⟩ := went1.wr.blk l _ ll hg' hl1
                      have hm1 := mod_wr (bl' := .loop true N' tm' ps' as' bo' d') (w' := w₁.putObj ll.B (.loop { state := .busy, pending := none, fn := f1, tmps := t1, params := p1, assign := as', body := bo', defers := l1.B })) went1.wr hg' hl1 ⟨⟨rfl, rfl⟩, by simp [World.putObj]⟩ (fun B hB => World.putObj_heap_other hB)
                        ⟨t1, l1, p1, f1, hd1, hps1, ht1, hsz1, World.putObj_heap_same (went1.wr.blk l _ ll hg' hl1).lt⟩
                      refine ⟨_, run_beginRound hrec1 rfl, ?_⟩
                      have hf2 := hf.second went1.ext
                      refine wpIn_mono (exec_ok (ro := some ll.B) hc hrd hcu hru hP.mixed rfl body ρ₁ _ a₁ _ _ _ b4 he2 hm1.1 hf2 ar1) fun x a₂ w₂ hp2 => ?_
                      obtain ⟨ρ₂, hx2, ar2, went2⟩ := hp2.post
                      simp only [ExR] at hx2
                      subst hx2
                      have le2 := went2.ext.le hf2
                      have hl2 := le2 l ll hl1
                      obtain ⟨t2, l2, p2, f2, hd2, hps2, ht2, hsz2, hrec2⟩ := went2.wr.blk l _ ll hg3 hl2
                      have hm2 := mod_wr (bl' := .loop false N3 tm3 ps3 as3 bo3 d3) (w' := w₂.putObj ll.B (.loop { state := .ready, pending := none, fn := f2, tmps := t2, params := p2, assign := as3, body := bo3, defers := l2.B })) went2.wr hg3 hl2 ⟨⟨rfl, rfl⟩, by simp [World.putObj]⟩ (fun B hB => World.putObj_heap_other hB)
                        ⟨t2, l2, p2, f2, hd2, hps2, ht2, hsz2, World.putObj_heap_same (went2.wr.blk l _ ll hg3 hl2).lt⟩
                      exact ⟨_, _, run_endRound none hrec2, .bool true, ρ₂, rfl, ⟨went1.ext.trans went2.ext, rfl, hm2.1, went1.fr.trans (hm1.2.trans (went2.fr.trans hm2.2))⟩⟩
                    · cases hr
            · cases hr
    · cases hr
  · cases hr
end Go.Proofs.YtdkeobkooiaacaaGreatDoor.Ev
namespace Go.Proofs.YtdkeobkooiaacaaGreatDoor.Ev
variable {P : Program} {call round : CallF} {ρ : Rho}
/-! ## A deferred call that begins with recover -/
theorem step_run [Glob] {tm : Tr AV} {df df' : List ADef} {h h' : Heap} {n n' : Pos} {o : Oper} {v : AV} {a : Act} {w : World} (hw : WR ρ h w) (hf : Fresh ρ n n') (hx : ∀ x ∈ o.op.operands, XR ρ tm a.eval x) (hnd : ∀ c, o.op ≠ .defer c)
    (hs : stepOp P noCall noCall tm df h n o = .val v df' h' n') : df' = df ∧ ∃ nx w' ρ' y, (execOp a.eval o).run P w = .ok nx w' ∧ (nx = .value y ∨ (nx = .skip ∧ y = undef)) ∧ Did ρ h n w v h' n' y w' ρ' := by
  have stay : ∀ {y : Value}, VR ρ v y → Did ρ h n w v h n y w ρ := fun hy => .stay hw (Fr.refl _ _ _) hy
  rcases val_kind hs with ⟨hk, hv, rfl, rfl, rfl⟩ | ⟨hk, hv, rfl, rfl, rfl⟩ | ⟨hk, bl, hv, rfl, rfl, rfl⟩ | hk
  · obtain ⟨y, hy, h1⟩ := pure_ok hx hv w
    exact ⟨rfl, _, w, ρ, y, hy, .inl rfl, stay h1⟩
  · obtain ⟨y, hy, h1⟩ := read_ok hw hx hv
    exact ⟨rfl, _, w, ρ, y, hy, .inl rfl, stay h1⟩
  · obtain ⟨s, hs', hl⟩ := alloc_ok hx hv w
    obtain ⟨ob, l, y, hy, hB, hbr, hvr⟩ := hl.ok
    refine ⟨rfl, .value y, _, _, y, ?_, .inl rfl, alloc_did hw (fresh_at hf) hB hbr hvr⟩
    rw [hs']
    simp only [Sem.run_bind, hy, Result.andThen_ok, Sem.run_pure]
  · cases hkk : kindOf P o with
    | eff =>
      unfold stepOp at hs
      simp only [hkk, AV.force_eq] at hs
      split at hs
      · rename_i v' h1 n1 hv
        cases hs
        exact ⟨rfl, eff_ok hw hx hv hf⟩
      · cases hs
    | call =>
      unfold stepOp at hs
      simp only [hkk, noCall] at hs
      repeat' split at hs
      all_goals cases hs
    | defer =>
      exfalso
      unfold stepOp at hs
      rw [hkk] at hs
      simp only at hs
      first
        | (cases hs; done)
        | (split at hs
           · rename_i c hop; exact hnd c hop
           · cases hs)
    | pure => rw [hkk] at hk; cases hk
    | read => rw [hkk] at hk; cases hk
    | alloc => rw [hkk] at hk; cases hk
    | panic => rw [hkk] at hk; cases hk
    | recover => rw [hkk] at hk; cases hk
    | bad => rw [hkk] at hk; cases hk
theorem noCall_up : CallUp noCall := fun _ _ _ _ => ⟨(fun _ _ _ h => by cases h), (fun _ _ _ h => by cases h)⟩
theorem regNS_ok [Glob] {ops : Array Oper} {N : Nat} (hdst : dstsOk N ops.toList = true) {cs : List Frame} {Q : Exit → Act → List Frame → World → Prop} : ∀ (l : List Oper) (i : Nat) (s : St) (ρ : Rho) (a : Act) (w : World) (s' : St),
    l = ops.toList.drop i → regN P noCall noCall ops.toList l s = .ok .normal s' → WR ρ s.h w → Fresh ρ s.n s'.n → AR ρ N s.tm s.df a → anyDefer l = false →
    (∀ a' w' ρ', AR ρ' N s'.tm s'.df a' → Went ρ s.h s.n w s'.h s'.n w' ρ' → Q .normal a' cs w') → wpOpsSIn Fence.wide 0 P ops Q (List.range' i l.length) a cs w
  | [], i, s, ρ, a, w, s', hl, h, hw, hf, ha, hnd, hQ => by
    simp only [regN, R.ok.injEq, true_and] at h
    subst h
    exact hQ a w ρ ha (Went.refl hw _)
  | o :: l, i, s, ρ, a, w, s', hl, h, hw, hf, ha, hnd, hQ => by
    have ho : ops[i]? = some o := by
      rw [← Array.getElem?_toList]
      have := congrArg (·[0]?) hl
      simp only [List.getElem?_cons_zero, List.getElem?_drop, Nat.add_zero] at this
      exact this.symm
    have hl' : l = ops.toList.drop (i + 1) := by
      have := congrArg List.tail hl
      simpa [List.tail_drop] using this
    have hmem : o ∈ ops.toList := List.mem_of_getElem? (by rw [Array.getElem?_toList]; exact ho)
    have hdo := dstsOk_mem hdst o hmem
    have hx : ∀ x, XR ρ s.tm a.eval x := fun x => ha.tr.ev x
    have hndo := anyDefer_mem hnd o List.mem_cons_self
    have hnd' : anyDefer l = false := by
      unfold anyDefer at hnd
      first
        | exact hnd
        | (split at hnd
           · cases hnd
           · exact hnd)
    rw [List.length_cons, List.range'_succ]
    simp only [wpOpsSIn, ho]
    simp only [regN, putTm_eq] at h
    have hgd : ∀ b, guardOf ops.toList s.tm o = some b → Region.wanted o (yielded ops a.tmps) = b := fun b hb =>
      guard_ok (fun _ _ oj d _ _ => hx _) (fun o' ho' d hd' => by rw [ha.size]; exact dstsOk_mem hdst o' ho' d hd') hb
    refine ⟨fun _ _ => trivial, ?_⟩
    split at h
    · cases h
    · rename_i hg
      rw [hgd _ hg, if_neg (by simp)]
      exact regNS_ok hdst l (i + 1) _ ρ _ w s' hl' h hw hf (ha.put hdo undef_ok) hnd' hQ
    · rename_i hg
      rw [hgd _ hg, if_pos rfl]
      split at h
      · cases h
      · rename_i v df h1 n1 hs
        have hup2 : Pos.Le n1 s'.n := by have := regN_up noCall_up noCall_up ops.toList l _ _ s' h; exact this
        obtain ⟨rfl, nx, w', ρ', y, hr, hnx, hd⟩ := step_run hw (hf.first hup2) (fun x _ => hx x) hndo hs
        have hle := hd.ext.le (hf.first hup2)
        rw [hr]
        rcases hnx with rfl | ⟨rfl, rfl⟩
        · exact regNS_ok hdst l (i + 1) _ ρ' _ w' s' hl' h hd.wr (hf.second hd.ext) ((ha.mono hle).put hdo hd.val) hnd' fun a' w'' ρ'' h1 h2 => hQ a' w'' ρ'' h1 (hd.went.trans h2)
        · exact regNS_ok hdst l (i + 1) _ ρ' _ w' s' hl' h hd.wr (hf.second hd.ext) ((ha.mono hle).put hdo hd.val) hnd' fun a' w'' ρ'' h1 h2 => hQ a' w'' ρ'' h1 (hd.went.trans h2)
      · cases h
end Go.Proofs.YtdkeobkooiaacaaGreatDoor.Ev
namespace Go.Proofs.YtdkeobkooiaacaaGreatDoor.Ev
variable {P : Program} {call round : CallF} {ρ : Rho}
theorem recoverAt_spec {ops : Array Oper} {o : Oper} {l : List Oper} (h : recoverAt ops = some (o, l)) : ops.toList = o :: l ∧ o.guard = none ∧ ∀ (e : Operand → Value) (w : World), (execOp e o).run P w = .ok .recover w := by
  unfold recoverAt at h
  split at h
  · rename_i o' l' hl
    split at h
    · rename_i h1 h2
      cases h
      refine ⟨hl, h2, fun e w => ?_⟩
      unfold execOp
      rw [h1]
      simp [resolve, invoke, builtin]
    · cases h
  · cases h
theorem recoverD_ok {u : Option Chain} {c₀ : Frame} {cs : List Frame} (hu : UR ρ u c₀.mode) : ∃ (v : Value) (m : FrameMode), VR ρ (recovered u).1 v ∧ UR ρ (recovered u).2 m ∧
    (recoverD (c₀ :: cs) = some (v, { c₀ with mode := m } :: cs) ∨ (recoverD (c₀ :: cs) = none ∧ v = .nilIface ∧ m = c₀.mode)) := by
  cases u with
  | none =>
    simp only [UR] at hu
    exact ⟨.nilIface, c₀.mode, rfl, hu, .inr ⟨by simp [recoverD, hu], rfl, rfl⟩⟩
  | some c =>
    obtain ⟨ch, hm, hc⟩ := hu
    cases c with
    | nil =>
      simp only [ChR] at hc; subst hc
      exact ⟨.nilIface, c₀.mode, rfl, ⟨[], hm, rfl⟩, .inr ⟨by simp [recoverD, hm], rfl, rfl⟩⟩
    | cons x c =>
      obtain ⟨v, r⟩ := x
      obtain ⟨p, ps, rfl, h1, h2, h3, h4⟩ := hc
      obtain ⟨pv, pr, pg⟩ := p
      simp only at h1 h2 h3
      subst h2 h3
      cases pr with
      | true => exact ⟨.nilIface, c₀.mode, rfl, ⟨_, hm, _, _, rfl, h1, rfl, rfl, h4⟩, .inr ⟨by simp [recoverD, hm], rfl, rfl⟩⟩
      | false => exact ⟨pv, .panicking ({ v := pv, recovered := true } :: ps), h1, ⟨_, rfl, _, _, rfl, h1, rfl, rfl, h4⟩, .inl (by simp [recoverD, hm])⟩
theorem runD_rec [Glob] {M Lm : Nat} (hP : FnsOk P M) (hc : CallSpec P call) (hrd : RoundSpec P round) (hcu : CallUp call) (hru : CallUp round) {f : FuncId} {fn : Func} {id : Nat} {ops : Array Oper} {rest : Code} {o : Oper} {l : List Oper} {args : List AV} {u u' : Option Chain} {h h' : Heap} {n n' : Pos} {s : St}
    (hb : bodyOf P M f = some (fn, .seq (.region id ops false) rest)) (hN : args.length ≤ fn.ntmps) (hrec : recoverAt ops = some (o, l)) (hnd : anyDefer l = false)
    (hreg : regN P noCall noCall ops.toList l ⟨putT o.dst (recovered u).1 (argTm args 0 .lf), [], h, n⟩ = .ok .normal s)
    (hr : endD P fn (recovered u).2 (exec P call round Lm fn.ntmps false rest s) = .ret u' h' n') : Pos.Le n n' ∧ ∀ ρ w (vs : Array Value) um, WR ρ h w → VRs ρ args vs.toList → Fresh ρ n n' → UR ρ u um →
      (callFunc f vs).run P w = .ok (.enter f vs) w ∧ CallsDIn Fence.wide 0 P f vs um w (fun e um' w' => ∃ x ρ', e = .returned x ∧ UR ρ' u' um' ∧ Went ρ h n w h' n' w' ρ') := by
  obtain ⟨e, s2, rs, he, hen, hdf, rfl, rfl, rfl, hres⟩ := endD_spec hr
  obtain ⟨hfn, hbody⟩ := bodyOf_spec hb
  have hok := (hP.ok f fn _ hb).1
  simp only [codeOk, Bool.and_eq_true] at hok
  have hup1 : Pos.Le n s.n := by have := regN_up noCall_up noCall_up ops.toList l _ _ s hreg; exact this
  have hup2 := exec_up hcu hru rest _ e s2 he
  obtain ⟨hl, hg, hrun⟩ := recoverAt_spec hrec
  refine ⟨hup1.trans hup2, fun ρ w vs um hw ha hf hu => ⟨enter_run hP hb vs w, ?_⟩⟩
  have har := args_ar ha hN
  refine callsDIn_of_wpSIn hfn hbody trivial fun c₀ cs hmode => wpSIn_seq (wpSIn_region ?_)
  subst hmode
  obtain ⟨v, m, hv, hum, hrd'⟩ := recoverD_ok (cs := cs) hu
  have hsz : ops.size = l.length + 1 := by rw [← Array.length_toList, hl]; rfl
  have ho : ops[0]? = some o := by rw [← Array.getElem?_toList, hl]; rfl
  have hdo := dstsOk_mem hok.1.1 o (by rw [hl]; exact List.mem_cons_self)
  rw [hsz, List.range_eq_range', List.range'_succ]
  simp only [wpOpsSIn, ho]
  refine ⟨fun _ _ => trivial, ?_⟩
  rw [if_pos (by simp [Region.wanted, hg]), hrun]
  have main : wpOpsSIn Fence.wide 0 P ops (Exit.thenS (rest.wpSIn Fence.wide 0 P (bodyPostS P fn c₀ cs fun e um' w' => ∃ x ρ', e = .returned x ∧ UR ρ' (recovered u).2 um' ∧ Went ρ h n w s2.h s2.n w' ρ')) (bodyPostS P fn c₀ cs fun e um' w' => ∃ x ρ', e = .returned x ∧ UR ρ' (recovered u).2 um' ∧ Went ρ h n w s2.h s2.n w' ρ'))
      (List.range' (0 + 1) l.length) (({ tmps := vs ++ Array.replicate (fn.ntmps - vs.size) undef, defers := [] } : Act).put o.dst v) ({ c₀ with mode := m } :: cs) w := by
    refine regNS_ok hok.1.1 l (0 + 1) _ ρ _ w s (by rw [hl]; rfl) hreg hw (hf.first hup2) (har.put hdo hv) hnd fun a' w' ρ' h1 h2 => ?_
    have hle := h2.ext.le (hf.first hup2)
    refine wpSIn_of_wpIn rfl (wpIn_mono (exec_ok (ro := none) hc hrd hcu hru hP.mixed rfl rest ρ' s a' w' e s2 hok.2 he h2.wr (hf.second h2.ext) h1) fun x a'' w'' hp => ?_)
    obtain ⟨ρ'', hx, g1, g2⟩ := hp.post
    obtain ⟨rv, hv1, hv2⟩ := results_ok (P := P) g2.wr g1.tr hres (v := _) rfl
    have hds : a''.defers = [] := by
      have := g1.dfs
      rw [hdf] at this
      exact this
    have fin : ∃ x' ρ'', (Ending.returned rv) = .returned x' ∧ UR ρ'' (recovered u).2 m ∧ Went ρ h n w s2.h s2.n w'' ρ'' := ⟨rv, ρ'', rfl, (hum.mono hle).mono (g2.ext.le (hf.second h2.ext)), h2.trans g2⟩
    rcases hen with rfl | rfl
    · simp only [ExR] at hx; subst hx
      exact ⟨hds, m, rfl, rv, hv1, fin⟩
    · simp only [ExR] at hx; subst hx
      exact ⟨hds, m, rfl, rv, hv1, fin⟩
  rcases hrd' with hrd' | ⟨hrd', rfl, rfl⟩
  · rw [hrd']
    exact main
  · rw [hrd']
    exact main
end Go.Proofs.YtdkeobkooiaacaaGreatDoor.Ev
namespace Go.Proofs.YtdkeobkooiaacaaGreatDoor.Ev
variable {P : Program} {call round : CallF} {ρ : Rho}
theorem runD_spec [Glob] {M Lm : Nat} (hP : FnsOk P M) (hc : CallSpec P call) (hrd : RoundSpec P round) (hcu : CallUp call) (hru : CallUp round) : DSpec P (runD P call round Lm M) := by
  intro f args u h n u' h' n' hr
  unfold runD at hr
  cases hb : bodyOf P M f with
  | none => simp [hb] at hr
  | some x =>
    obtain ⟨fn, c⟩ := x
    simp only [hb] at hr
    cases hN : Nat.ble args.length fn.ntmps with
    | false => simp [hN] at hr
    | true =>
      simp only [hN, Bool.not_true, cond_false] at hr
      have hle := Nat.le_of_ble_eq_true hN
      split at hr
      · rename_i id ops rest
        cases hrec : recoverAt ops with
        | none =>
          simp only [hrec] at hr
          exact runD_plain hP hc hrd hcu hru hb hle hr
        | some y =>
          obtain ⟨o, l⟩ := y
          simp only [hrec] at hr
          rcases bif_and hr with ⟨_, hr⟩ | ⟨hnd, hr⟩
          · cases hr
          · rw [putTm_eq] at hr
            split at hr
            · rename_i s hreg
              exact runD_rec hP hc hrd hcu hru hb hle hrec hnd hreg hr
            · cases hr
            · cases hr
      · exact runD_plain hP hc hrd hcu hru hb hle hr
end Go.Proofs.YtdkeobkooiaacaaGreatDoor.Ev
