/- A table of calls may be used; the evaluator is right; the functions that one leads to (no condition). -/
import Derived.Test.YtdkeobkooiaacaaGreatDoorEv3
import Derived.Test.YtdkeobkooiaacaaGreatDoorEv1
import Derived.Test.YtdkeobkooiaacaaGreatDoorEv4
import Derived.Test.YtdkeobkooiaacaaGreatDoorEv5
import Derived.Lib.Bytealg
import Derived.Lib.Builder
import GoSem.ClaimFn
namespace Go.Proofs.YtdkeobkooiaacaaGreatDoor.Ev
/-! ## Names met by names -/
mutual
def RV (σ : Tr Pos) : AV → AV → Prop
  | .ptr a o, v => ∃ b, σ.get a = some b ∧ v = .ptr b o
  | .slice a o l c, v => ∃ b, σ.get a = some b ∧ v = .slice b o l c
  | .map a, v => ∃ b, σ.get a = some b ∧ v = .map b
  | .func f x y, v => ∃ x' y', v = .func f x' y' ∧ RVs σ x x' ∧ RVs σ y y'
  | .yield _, _ => False
  | .iface t x, v => ∃ x', v = .iface t x' ∧ RV σ x x'
  | .agg x, v => ∃ x', v = .agg x' ∧ RVs σ x x'
  | .tuple x, v => ∃ x', v = .tuple x' ∧ RVs σ x x'
  | .bool b, v => v = .bool b
  | .int t n, v => v = .int t n
  | .str s, v => v = .str s
  | .ptr0, v => v = .ptr0
  | .slice0, v => v = .slice0
  | .map0, v => v = .map0
  | .func0, v => v = .func0
  | .iface0, v => v = .iface0
def RVs (σ : Tr Pos) : List AV → List AV → Prop
  | [], ys => ys = []
  | x :: xs, ys => ∃ y ys', ys = y :: ys' ∧ RV σ x y ∧ RVs σ xs ys'
end
def REs (σ : Tr Pos) : List Ent → List Ent → Prop
  | [], ys => ys = []
  | x :: xs, ys => ∃ y ys', ys = y :: ys' ∧ y.born = x.born ∧ RV σ x.key y.key ∧ RV σ x.val y.val ∧ REs σ xs ys'
def RL (σ : Tr Pos) : Option Pos → Option Pos → Prop
  | none, _ => True
  | some a, l => ∃ b, σ.get a = some b ∧ l = some b
def RB (σ : Tr Pos) : Blk → Blk → Prop
  | .row cs ty esz opn stq fz link, bl => ∃ cs' link', bl = .row cs' ty esz opn stq fz link' ∧ RVs σ cs cs' ∧ RL σ link link'
  | .mp es c, bl => ∃ es', bl = .mp es' c ∧ REs σ es es'
  | _, _ => False
/-- The dropped names: what is linked to a block whose entry says nothing of it. -/
def KB (ks : List Pos) : Blk → Blk → Prop
  | .row _ _ _ _ _ _ none, .row _ _ _ _ _ _ (some p) => p ∈ ks
  | _, _ => True
variable {ρ ρ0 : Rho} {σ : Tr Pos}
mutual
theorem RV.vr (hσ : ∀ a b, σ.get a = some b → ρ b = ρ0 a) : ∀ (v0 v : AV) (x : Value), RV σ v0 v → (VR ρ0 v0 x ↔ VR ρ v x)
  | .ptr a o, _, x, ⟨b, h, e⟩ => by subst e; simp only [VR, hσ a b h]
  | .slice a o l c, _, x, ⟨b, h, e⟩ => by subst e; simp only [VR, hσ a b h]
  | .map a, _, x, ⟨b, h, e⟩ => by subst e; simp only [VR, hσ a b h]
  | .func f p q, _, x, ⟨p', q', e, h1, h2⟩ => by
    subst e
    simp only [VR]
    constructor
    · rintro ⟨va, vc, e, y, z⟩; exact ⟨va, vc, e, (RVs.vr hσ p p' _ h1).1 y, (RVs.vr hσ q q' _ h2).1 z⟩
    · rintro ⟨va, vc, e, y, z⟩; exact ⟨va, vc, e, (RVs.vr hσ p p' _ h1).2 y, (RVs.vr hσ q q' _ h2).2 z⟩
  | .yield _, _, _, h => h.elim
  | .iface t y, _, x, ⟨y', e, h⟩ => by
    subst e
    simp only [VR]
    constructor
    · rintro ⟨z, e, k⟩; exact ⟨z, e, (RV.vr hσ y y' _ h).1 k⟩
    · rintro ⟨z, e, k⟩; exact ⟨z, e, (RV.vr hσ y y' _ h).2 k⟩
  | .agg y, _, x, ⟨y', e, h⟩ => by
    subst e
    simp only [VR]
    constructor
    · rintro ⟨z, e, k⟩; exact ⟨z, e, (RVs.vr hσ y y' _ h).1 k⟩
    · rintro ⟨z, e, k⟩; exact ⟨z, e, (RVs.vr hσ y y' _ h).2 k⟩
  | .tuple y, _, x, ⟨y', e, h⟩ => by
    subst e
    simp only [VR]
    constructor
    · rintro ⟨z, e, k⟩; exact ⟨z, e, (RVs.vr hσ y y' _ h).1 k⟩
    · rintro ⟨z, e, k⟩; exact ⟨z, e, (RVs.vr hσ y y' _ h).2 k⟩
  | .bool _, _, _, e => by cases e; simp only [VR]
  | .int _ _, _, _, e => by cases e; simp only [VR]
  | .str _, _, _, e => by cases e; simp only [VR]
  | .ptr0, _, _, e => by cases e; simp only [VR]
  | .slice0, _, _, e => by cases e; simp only [VR]
  | .map0, _, _, e => by cases e; simp only [VR]
  | .func0, _, _, e => by cases e; simp only [VR]
  | .iface0, _, _, e => by cases e; simp only [VR]
theorem RVs.vr (hσ : ∀ a b, σ.get a = some b → ρ b = ρ0 a) : ∀ (v0 v : List AV) (x : List Value), RVs σ v0 v → (VRs ρ0 v0 x ↔ VRs ρ v x)
  | [], _, _, e => by cases e; simp only [VRs]
  | y :: ys, _, x, ⟨z, zs, e, h1, h2⟩ => by
    subst e
    simp only [VRs]
    constructor
    · rintro ⟨p, ps, e, k1, k2⟩; exact ⟨p, ps, e, (RV.vr hσ y z _ h1).1 k1, (RVs.vr hσ ys zs _ h2).1 k2⟩
    · rintro ⟨p, ps, e, k1, k2⟩; exact ⟨p, ps, e, (RV.vr hσ y z _ h1).2 k1, (RVs.vr hσ ys zs _ h2).2 k2⟩
end
theorem REs.er (hσ : ∀ a b, σ.get a = some b → ρ b = ρ0 a) : ∀ (v0 v : List Ent) (x : List MapEntry), REs σ v0 v → (ERs ρ0 v0 x ↔ ERs ρ v x)
  | [], _, _, e => by cases e; simp only [ERs]
  | y :: ys, _, x, ⟨z, zs, e, hb, h1, h1', h2⟩ => by
    subst e
    simp only [ERs]
    constructor
    · rintro ⟨p, ps, e, k1, k2, k3, k4⟩; exact ⟨p, ps, e, (RV.vr hσ _ _ _ h1).1 k1, (RV.vr hσ _ _ _ h1').1 k2, by rw [k3, hb], (REs.er hσ ys zs _ h2).1 k4⟩
    · rintro ⟨p, ps, e, k1, k2, k3, k4⟩; exact ⟨p, ps, e, (RV.vr hσ _ _ _ h1).2 k1, (RV.vr hσ _ _ _ h1').2 k2, by rw [k3, hb], (REs.er hσ ys zs _ h2).2 k4⟩
theorem RVs.length : ∀ {x y : List AV}, RVs σ x y → y.length = x.length
  | [], _, e => by cases e; rfl
  | _ :: xs, _, ⟨y, ys, e, _, h⟩ => by subst e; simp [RVs.length h]
theorem RB.br (hσ : ∀ a b, σ.get a = some b → ρ b = ρ0 a) {l : Loc} {w : World} : ∀ {bl0 bl : Blk}, RB σ bl0 bl → (BR ρ0 l w bl0 ↔ BR ρ l w bl)
  | .row cs ty esz opn stq fz link, _, ⟨cs', link', e, h, _⟩ => by
    subst e
    have hl := h.length
    simp only [BR, hl]
    constructor
    · rintro ⟨c, fr, a1, a2, a3, a4, a5, a6⟩; exact ⟨c, fr, a1, a2, a3, a4, (RVs.vr hσ _ _ _ h).1 a5, a6⟩
    · rintro ⟨c, fr, a1, a2, a3, a4, a5, a6⟩; exact ⟨c, fr, a1, a2, a3, a4, (RVs.vr hσ _ _ _ h).2 a5, a6⟩
  | .mp es c, _, ⟨es', e, h⟩ => by
    subst e
    simp only [BR]
    constructor
    · rintro ⟨z, a1, a2⟩; exact ⟨z, a1, (REs.er hσ _ _ _ h).1 a2⟩
    · rintro ⟨z, a1, a2⟩; exact ⟨z, a1, (REs.er hσ _ _ _ h).2 a2⟩
  | .si .., _, h => h.elim
  | .loop .., _, h => h.elim
  | .dfr, _, h => h.elim
/-! ## What meeting finds -/
structure MS.le (s s' : MS) : Prop where
  σ : ∀ a b, s.σ.get a = some b → s'.σ.get a = some b
  kills : ∀ p ∈ s.kills, p ∈ s'.kills
theorem MS.le.refl (s : MS) : s.le s := ⟨fun _ _ h => h, fun _ h => h⟩
theorem MS.le.trans {a b c : MS} (h : a.le b) (k : b.le c) : a.le c := ⟨fun _ _ x => k.σ _ _ (h.σ _ _ x), fun _ x => k.kills _ (h.kills _ x)⟩
structure MS.Inv (s : MS) : Prop where
  lt : ∀ a b, s.σ.get a = some b → a.toNat < s.c.toNat
  used : ∀ a b, s.σ.get a = some b → s.used.get b = some ()
  inj : ∀ a a' b, s.σ.get a = some b → s.σ.get a' = some b → a = a'
theorem MS.Inv.first : MS.Inv ⟨.lf, .h, .lf, []⟩ := ⟨fun a b h => by simp at h, fun a b h => by simp at h, fun a a' b h => by simp at h⟩
/-- It fails, or goes on with more. -/
def Goes {β : Type} (no : β) (s : MS) (r : β) (k : MS → β) (Q : MS → Prop) : Prop :=
  r = no ∨ ∃ s', s.le s' ∧ s'.Inv ∧ (∀ s'', s'.le s'' → Q s'') ∧ r = k s'
theorem Goes.mono {β : Type} {no : β} {s : MS} {r : β} {k : MS → β} {Q Q' : MS → Prop} (h : Goes no s r k Q) (hq : ∀ s, Q s → Q' s) : Goes no s r k Q' := by
  rcases h with h | ⟨s', h1, h2, h3, h4⟩
  · exact .inl h
  · exact .inr ⟨s', h1, h2, fun s'' x => hq _ (h3 s'' x), h4⟩
theorem Goes.bind {β : Type} {no : β} {s : MS} {r : β} {k : MS → β} {Q : MS → Prop} {k' : MS → β} {Q' : MS → Prop} (h : Goes no s r k Q) (hk : ∀ s', s'.Inv → Goes no s' (k s') k' Q') : Goes no s r k' (fun s => Q s ∧ Q' s) := by
  rcases h with h | ⟨s', h1, h2, h3, h4⟩
  · exact .inl h
  · rcases hk s' h2 with h5 | ⟨s2, i1, i2, i3, i4⟩
    · exact .inl (by rw [h4, h5])
    · exact .inr ⟨s2, h1.trans i1, i2, fun s'' x => ⟨h3 s'' (i1.trans x), i3 s'' x⟩, by rw [h4, i4]⟩
theorem Goes.now {β : Type} {no : β} {s : MS} {k : MS → β} {Q : MS → Prop} (hi : s.Inv) (hq : ∀ s, Q s) : Goes no s (k s) k Q := .inr ⟨s, .refl s, hi, fun s'' _ => hq s'', rfl⟩
theorem Goes.fail {β : Type} {no : β} {s : MS} {k : MS → β} {Q : MS → Prop} : Goes no s no k Q := .inl rfl
theorem Goes.cond {β : Type} {no : β} {s : MS} {k : MS → β} {Q : MS → Prop} {c : Bool} {r : β} (h : c = true → Goes no s r k Q) : Goes no s (bif c then r else no) k Q := by
  cases c
  · exact .inl rfl
  · exact h rfl
theorem bindP_goes {β : Type} (no : β) (a b : Pos) (s : MS) (k : MS → β) (hi : s.Inv) : Goes no s (bindP no a b s k) k (fun s => s.σ.get a = some b) := by
  unfold bindP
  split
  · rename_i b' hb
    refine Goes.cond fun he => ?_
    rw [Pos.beq_iff] at he
    subst he
    exact .inr ⟨s, .refl s, hi, fun s'' hs => hs.σ _ _ hb, rfl⟩
  · rename_i hn
    refine Goes.cond fun he => ?_
    rw [Pos.beq_iff] at he
    subst he
    split
    · rename_i hu
      rw [Tr.putK_eq, Pos.succK_eq, Tr.putK_eq]
      refine .inr ⟨⟨s.σ.put s.c (some b), s.c.succ, s.used.put b (some ()), s.kills⟩, ⟨fun x y hx => ?_, fun p hp => hp⟩, ⟨fun x y hx => ?_, fun x y hx => ?_, fun x x' y hx hx' => ?_⟩, fun s'' hs => hs.σ _ _ (Tr.get_put_same _ _ _), rfl⟩
      · simp only [Tr.get_put]
        split
        · rename_i e; rw [e, hn] at hx; cases hx
        · exact hx
      · simp only [Tr.get_put] at hx
        simp only [Pos.succ_toNat]
        split at hx
        · rename_i e; rw [e]; omega
        · have := hi.lt x y hx; omega
      · simp only [Tr.get_put] at hx ⊢
        split at hx
        · cases hx; simp
        · split
          · rfl
          · exact hi.used x y hx
      · simp only [Tr.get_put] at hx hx'
        split at hx
        · rename_i e
          cases hx
          split at hx'
          · rename_i e'; rw [e, e']
          · have := hi.used x' b hx'; rw [hu] at this; cases this
        · rename_i e
          split at hx'
          · cases hx'
            have := hi.used x b hx; rw [hu] at this; cases this
          · exact hi.inj x x' y hx hx'
    · exact .fail
theorem kindBeq_eq : ∀ {a b : IntKind}, kindBeq a b = true → a = b := by
  intro a b h; cases a <;> cases b <;> first | rfl | cases h
theorem intBeq_eq : ∀ {a b : Int}, intBeq a b = true → a = b
  | .ofNat _, .ofNat _, h => by rw [Nat.eq_of_beq_eq_true h]
  | .negSucc _, .negSucc _, h => by rw [Nat.eq_of_beq_eq_true h]
theorem natsBeq_eq' : ∀ {a b : List Nat}, natsBeq a b = true → a = b
  | [], [], _ => rfl
  | x :: xs, y :: ys, h => by
    simp only [natsBeq, Bool.and_eq_true] at h
    rw [Nat.eq_of_beq_eq_true h.1, natsBeq_eq' h.2]
theorem capBeq_eq' : ∀ {a b : Cap}, capBeq a b = true → a = b
  | .rest _, .rest _, h => by rw [Nat.eq_of_beq_eq_true h]
  | .exact _, .exact _, h => by rw [Nat.eq_of_beq_eq_true h]
mutual
theorem matchV_goes {β : Type} (no : β) : ∀ (v0 v : AV) (s : MS) (k : MS → β), s.Inv → Goes no s (matchV no v0 v s k) k (fun s => RV s.σ v0 v)
  | .bool a, v, s, k, hi => by
    cases v <;> first | exact Goes.fail | skip
    rename_i b
    simp only [matchV]
    exact Goes.cond fun he => by rw [eq_of_beq he]; exact Goes.now hi fun s => by simp [RV]
  | .int i a, v, s, k, hi => by
    cases v <;> first | exact Goes.fail | skip
    rename_i j b
    simp only [matchV]
    refine Goes.cond fun he => ?_
    rw [Bool.and_eq_true] at he
    rw [kindBeq_eq he.1, intBeq_eq he.2]; exact Goes.now hi fun s => by simp [RV]
  | .str a, v, s, k, hi => by
    cases v <;> first | exact Goes.fail | skip
    rename_i b
    simp only [matchV]
    exact Goes.cond fun he => by rw [natsBeq_eq' he]; exact Goes.now hi fun s => by simp [RV]
  | .ptr0, v, s, k, hi => by
    cases v <;> first | exact Goes.fail | (simp only [matchV]; exact Goes.now hi fun s => by simp [RV])
  | .slice0, v, s, k, hi => by
    cases v <;> first | exact Goes.fail | (simp only [matchV]; exact Goes.now hi fun s => by simp [RV])
  | .map0, v, s, k, hi => by
    cases v <;> first | exact Goes.fail | (simp only [matchV]; exact Goes.now hi fun s => by simp [RV])
  | .func0, v, s, k, hi => by
    cases v <;> first | exact Goes.fail | (simp only [matchV]; exact Goes.now hi fun s => by simp [RV])
  | .iface0, v, s, k, hi => by
    cases v <;> first | exact Goes.fail | (simp only [matchV]; exact Goes.now hi fun s => by simp [RV])
  | .ptr a o, v, s, k, hi => by
    cases v <;> first | exact Goes.fail | skip
    rename_i b p
    simp only [matchV]
    refine Goes.cond fun he => ?_
    rw [Nat.eq_of_beq_eq_true he]
    exact (bindP_goes no a b s k hi).mono fun s h => by simp only [RV]; exact ⟨b, h, rfl⟩
  | .slice a o l c, v, s, k, hi => by
    cases v <;> first | exact Goes.fail | skip
    rename_i b p q r
    simp only [matchV]
    refine Goes.cond fun he => ?_
    simp only [Bool.and_eq_true] at he
    rw [Nat.eq_of_beq_eq_true he.1.1, Nat.eq_of_beq_eq_true he.1.2, capBeq_eq' he.2]
    exact (bindP_goes no a b s k hi).mono fun s h => by simp only [RV]; exact ⟨b, h, rfl⟩
  | .map a, v, s, k, hi => by
    cases v <;> first | exact Goes.fail | skip
    rename_i b
    simp only [matchV]
    exact (bindP_goes no a b s k hi).mono fun s h => by simp only [RV]; exact ⟨b, h, rfl⟩
  | .func f x y, v, s, k, hi => by
    cases v <;> first | exact Goes.fail | skip
    rename_i g x' y'
    simp only [matchV]
    refine Goes.cond fun he => ?_
    rw [Nat.eq_of_beq_eq_true he]
    refine ((matchVs_goes no x x' s _ hi).bind fun s' hi' => matchVs_goes no y y' s' k hi').mono fun s h => ?_
    simp only [RV]
    exact ⟨x', y', rfl, h.1, h.2⟩
  | .yield _, v, s, k, hi => by
    cases v <;> exact Goes.fail
  | .iface t x, v, s, k, hi => by
    cases v <;> first | exact Goes.fail | skip
    rename_i u x'
    simp only [matchV]
    refine Goes.cond fun he => ?_
    rw [Nat.eq_of_beq_eq_true he]
    exact (matchV_goes no x x' s k hi).mono fun s h => by simp only [RV]; exact ⟨x', rfl, h⟩
  | .agg x, v, s, k, hi => by
    cases v <;> first | exact Goes.fail | skip
    rename_i x'
    simp only [matchV]
    exact (matchVs_goes no x x' s k hi).mono fun s h => by simp only [RV]; exact ⟨x', rfl, h⟩
  | .tuple x, v, s, k, hi => by
    cases v <;> first | exact Goes.fail | skip
    rename_i x'
    simp only [matchV]
    exact (matchVs_goes no x x' s k hi).mono fun s h => by simp only [RV]; exact ⟨x', rfl, h⟩
theorem matchVs_goes {β : Type} (no : β) : ∀ (v0 v : List AV) (s : MS) (k : MS → β), s.Inv → Goes no s (matchVs no v0 v s k) k (fun s => RVs s.σ v0 v)
  | [], v, s, k, hi => by
    cases v
    · simp only [matchVs]; exact Goes.now hi fun s => by simp [RVs]
    · exact Goes.fail
  | x :: xs, v, s, k, hi => by
    cases v
    · exact Goes.fail
    · rename_i y ys
      simp only [matchVs]
      refine ((matchV_goes no x y s _ hi).bind fun s' hi' => matchVs_goes no xs ys s' k hi').mono fun s h => ?_
      simp only [RVs]
      exact ⟨y, ys, rfl, h.1, h.2⟩
end
theorem matchEs_goes {β : Type} (no : β) : ∀ (v0 v : List Ent) (s : MS) (k : MS → β), s.Inv → Goes no s (matchEs no v0 v s k) k (fun s => REs s.σ v0 v)
  | [], v, s, k, hi => by
    cases v
    · simp only [matchEs]; exact Goes.now hi fun s => by simp [REs]
    · exact Goes.fail
  | x :: xs, v, s, k, hi => by
    cases v
    · exact Goes.fail
    · rename_i y ys
      simp only [matchEs]
      refine Goes.cond fun he => ?_
      refine ((matchV_goes no x.key y.key s _ hi).bind fun s' hi' => (matchV_goes no x.val y.val s' _ hi').bind fun s2 hi2 => matchEs_goes no xs ys s2 k hi2).mono fun s h => ?_
      simp only [REs]
      exact ⟨y, ys, rfl, (Nat.eq_of_beq_eq_true he).symm, h.1, h.2.1, h.2.2⟩
theorem matchB_goes {β : Type} (no : β) (bl0 bl : Blk) (s : MS) (k : MS → β) (hi : s.Inv) : Goes no s (matchB no bl0 bl s k) k (fun s => RB s.σ bl0 bl ∧ KB s.kills bl0 bl) := by
  cases bl0 <;> cases bl <;> first | exact Goes.fail | skip
  · rename_i cs ty esz opn stq fz link cs' ty' esz' opn' stq' fz' link'
    simp only [matchB]
    refine Goes.cond fun he => ?_
    simp only [Bool.and_eq_true] at he
    obtain ⟨⟨⟨⟨h1, h2⟩, h3⟩, h4⟩, h5⟩ := he
    rw [Nat.eq_of_beq_eq_true h1, Nat.eq_of_beq_eq_true h2, eq_of_beq h3, eq_of_beq h4, Nat.eq_of_beq_eq_true h5]
    refine ((matchVs_goes no cs cs' s _ hi).bind (k' := k) (Q' := fun s => RL s.σ link link' ∧ KB s.kills (.row cs ty esz opn stq fz link) (.row cs' ty' esz' opn' stq' fz' link')) fun s' hi' => ?_).mono fun s h => ?_
    · cases link with
      | none =>
        cases link' with
        | none => simp only [matchL]; exact Goes.now hi' fun s => by simp [RL, KB]
        | some p =>
          simp only [matchL]
          refine .inr ⟨⟨s'.σ, s'.c, s'.used, p :: s'.kills⟩, ⟨fun a b x => x, fun q hq => List.mem_cons_of_mem _ hq⟩, ⟨hi'.lt, hi'.used, hi'.inj⟩, fun s'' hs => ⟨by simp [RL], ?_⟩, rfl⟩
          simp only [KB]
          exact hs.kills p (by simp)
      | some a =>
        cases link' with
        | none => exact Goes.fail
        | some b =>
          simp only [matchL]
          refine (bindP_goes no a b s' k hi').mono fun s h => ⟨⟨b, h, rfl⟩, by simp [KB]⟩
    · exact ⟨by simp only [RB]; exact ⟨cs', link', rfl, h.1, h.2.1⟩, by cases link <;> cases link' <;> simp [KB] at h ⊢; exact h.2.2⟩
  · rename_i es c es' c'
    simp only [matchB]
    refine Goes.cond fun he => ?_
    rw [Nat.eq_of_beq_eq_true he]
    exact (matchEs_goes no es es' s k hi).mono fun s h => ⟨by simp only [RB]; exact ⟨es', rfl, h⟩, by simp [KB]⟩
theorem matchH_goes {β : Type} (no : β) (h0 h : Heap) : ∀ (m : Nat) (a : Pos) (s : MS) (k : MS → β), s.Inv →
    Goes no s (matchH no h0 h m a s k) k (fun s => ∀ c bl0, a.toNat ≤ c.toNat → c.toNat < a.toNat + m → h0.get c = some bl0 → ∃ b bl, s.σ.get c = some b ∧ h.get b = some bl ∧ RB s.σ bl0 bl ∧ KB s.kills bl0 bl)
  | 0, a, s, k, hi => by simp only [matchH]; exact Goes.now hi fun s c bl0 h1 h2 => by omega
  | m + 1, a, s, k, hi => by
    simp only [matchH]
    have next : ∀ (s : MS), s.Inv → Goes no s (matchH no h0 h m a.succ s k) k (fun s => ∀ c bl0, a.toNat < c.toNat → c.toNat < a.toNat + (m + 1) → h0.get c = some bl0 → ∃ b bl, s.σ.get c = some b ∧ h.get b = some bl ∧ RB s.σ bl0 bl ∧ KB s.kills bl0 bl) := by
      intro s hi
      refine (matchH_goes no h0 h m a.succ s k hi).mono fun s hs c bl0 h1 h2 => ?_
      exact hs c bl0 (by rw [Pos.succ_toNat]; omega) (by rw [Pos.succ_toNat]; omega)
    split
    · rename_i hn
      rw [Pos.succK_eq]
      refine (next s hi).mono fun s hs c bl0 h1 h2 h3 => ?_
      by_cases e : c = a
      · rw [e, hn] at h3; cases h3
      · exact hs c bl0 (by have : c.toNat ≠ a.toNat := fun x => e (Pos.toNat_inj x); omega) h2 h3
    · rename_i bl0 hb0
      split
      · exact Goes.fail
      · rename_i b hb
        split
        · exact Goes.fail
        · rename_i bl hbl
          have h1 := matchB_goes no bl0 bl s (fun s => a.succK fun a => matchH no h0 h m a s k) hi
          rcases h1 with h1 | ⟨s', i1, i2, i3, i4⟩
          · exact .inl h1
          · rw [i4]; simp only [Pos.succK_eq]
            rcases next s' i2 with h2 | ⟨s2, j1, j2, j3, j4⟩
            · exact .inl h2
            · refine .inr ⟨s2, i1.trans j1, j2, fun s'' hs c bl0' h1 h2 h3 => ?_, j4⟩
              by_cases e : c = a
              · subst e
                rw [hb0] at h3; cases h3
                have := i3 s'' (j1.trans hs)
                exact ⟨b, bl, hs.σ _ _ (j1.σ _ _ (i1.σ _ _ hb)), hbl, this.1, this.2⟩
              · exact j3 s'' hs c bl0' (by have : c.toNat ≠ a.toNat := fun x => e (Pos.toNat_inj x); omega) h2 h3
mutual
theorem renV_goes {β : Type} (no : β) (σ : Tr Pos) : ∀ (v0 : AV) (k : AV → β), renV no σ v0 k = no ∨ ∃ v, RV σ v0 v ∧ renV no σ v0 k = k v
  | .ptr a o, k => by
    simp only [renV]; split
    · rename_i b hb; exact .inr ⟨_, by simp only [RV]; exact ⟨b, hb, rfl⟩, rfl⟩
    · exact .inl rfl
  | .slice a o l c, k => by
    simp only [renV]; split
    · rename_i b hb; exact .inr ⟨_, by simp only [RV]; exact ⟨b, hb, rfl⟩, rfl⟩
    · exact .inl rfl
  | .map a, k => by
    simp only [renV]; split
    · rename_i b hb; exact .inr ⟨_, by simp only [RV]; exact ⟨b, hb, rfl⟩, rfl⟩
    · exact .inl rfl
  | .func f x y, k => by
    simp only [renV]
    rcases renVs_goes no σ x (fun x => renVs no σ y fun y => k (.func f x y)) with h | ⟨x', h1, h2⟩
    · exact .inl h
    · rw [h2]
      rcases renVs_goes no σ y (fun y => k (.func f x' y)) with h | ⟨y', h3, h4⟩
      · exact .inl h
      · exact .inr ⟨_, by simp only [RV]; exact ⟨x', y', rfl, h1, h3⟩, h4⟩
  | .yield _, k => .inl rfl
  | .iface t x, k => by
    simp only [renV]
    rcases renV_goes no σ x (fun v => k (.iface t v)) with h | ⟨x', h1, h2⟩
    · exact .inl h
    · exact .inr ⟨_, by simp only [RV]; exact ⟨x', rfl, h1⟩, h2⟩
  | .agg x, k => by
    simp only [renV]
    rcases renVs_goes no σ x (fun v => k (.agg v)) with h | ⟨x', h1, h2⟩
    · exact .inl h
    · exact .inr ⟨_, by simp only [RV]; exact ⟨x', rfl, h1⟩, h2⟩
  | .tuple x, k => by
    simp only [renV]
    rcases renVs_goes no σ x (fun v => k (.tuple v)) with h | ⟨x', h1, h2⟩
    · exact .inl h
    · exact .inr ⟨_, by simp only [RV]; exact ⟨x', rfl, h1⟩, h2⟩
  | .bool _, k => .inr ⟨_, by simp [RV], rfl⟩
  | .int _ _, k => .inr ⟨_, by simp [RV], rfl⟩
  | .str _, k => .inr ⟨_, by simp [RV], rfl⟩
  | .ptr0, k => .inr ⟨_, by simp [RV], rfl⟩
  | .slice0, k => .inr ⟨_, by simp [RV], rfl⟩
  | .map0, k => .inr ⟨_, by simp [RV], rfl⟩
  | .func0, k => .inr ⟨_, by simp [RV], rfl⟩
  | .iface0, k => .inr ⟨_, by simp [RV], rfl⟩
theorem renVs_goes {β : Type} (no : β) (σ : Tr Pos) : ∀ (v0 : List AV) (k : List AV → β), renVs no σ v0 k = no ∨ ∃ v, RVs σ v0 v ∧ renVs no σ v0 k = k v
  | [], k => .inr ⟨[], by simp [RVs], rfl⟩
  | x :: xs, k => by
    simp only [renVs]
    rcases renV_goes no σ x (fun x => renVs no σ xs fun xs => k (x :: xs)) with h | ⟨x', h1, h2⟩
    · exact .inl h
    · rw [h2]
      rcases renVs_goes no σ xs (fun xs => k (x' :: xs)) with h | ⟨y', h3, h4⟩
      · exact .inl h
      · exact .inr ⟨_, by simp only [RVs]; exact ⟨x', y', rfl, h1, h3⟩, h4⟩
end
theorem renEs_goes {β : Type} (no : β) (σ : Tr Pos) : ∀ (v0 : List Ent) (k : List Ent → β), renEs no σ v0 k = no ∨ ∃ v, REs σ v0 v ∧ renEs no σ v0 k = k v
  | [], k => .inr ⟨[], by simp [REs], rfl⟩
  | x :: xs, k => by
    simp only [renEs]
    rcases renV_goes no σ x.key (fun a => renV no σ x.val fun b => renEs no σ xs fun xs => k (⟨a, b, x.born⟩ :: xs)) with h | ⟨a, h1, h2⟩
    · exact .inl h
    · rw [h2]
      rcases renV_goes no σ x.val (fun b => renEs no σ xs fun xs => k (⟨a, b, x.born⟩ :: xs)) with h | ⟨b, h3, h4⟩
      · exact .inl h
      · rw [h4]
        rcases renEs_goes no σ xs (fun xs => k (⟨a, b, x.born⟩ :: xs)) with h | ⟨l, h5, h6⟩
        · exact .inl h
        · exact .inr ⟨_, by simp only [REs]; exact ⟨_, _, rfl, rfl, h1, h3, h5⟩, h6⟩
theorem renB_goes {β : Type} (no : β) (σ : Tr Pos) (bl0 : Blk) (k : Blk → β) : renB no σ bl0 k = no ∨ ∃ bl, RB σ bl0 bl ∧ KB [] bl0 bl ∧ renB no σ bl0 k = k bl := by
  cases bl0 with
  | row cs ty esz opn stq fz link =>
    simp only [renB]
    rcases renVs_goes no σ cs (fun cs => renL no σ link fun link => k (.row cs ty esz opn stq fz link)) with h | ⟨x', h1, h2⟩
    · exact .inl h
    · rw [h2]
      cases link with
      | none => simp only [renL]; exact .inr ⟨_, by simp only [RB]; exact ⟨x', none, rfl, h1, trivial⟩, by simp [KB], rfl⟩
      | some a =>
        simp only [renL]
        split
        · rename_i b hb; exact .inr ⟨_, by simp only [RB]; exact ⟨x', some b, rfl, h1, b, hb, rfl⟩, by simp [KB], rfl⟩
        · exact .inl rfl
  | mp es c =>
    simp only [renB]
    rcases renEs_goes no σ es (fun es => k (.mp es c)) with h | ⟨x', h1, h2⟩
    · exact .inl h
    · exact .inr ⟨_, by simp only [RB]; exact ⟨x', rfl, h1⟩, by simp [KB], h2⟩
  | si a b => exact .inl rfl
  | loop a b c d e f g => exact .inl rfl
  | dfr => exact .inl rfl
theorem extendN_goes {β : Type} (no : β) : ∀ (m : Nat) (n : Pos) (s : MS) (k : Pos → MS → β), s.Inv →
    extendN no m n s k = no ∨ ∃ n' s', s.le s' ∧ s'.Inv ∧ n'.toNat = n.toNat + m ∧ s'.c.toNat = s.c.toNat + m ∧ s'.kills = s.kills ∧
      (∀ a b, s'.σ.get a = some b → s.σ.get a = some b ∨ (s.c.toNat ≤ a.toNat ∧ n.toNat ≤ b.toNat ∧ b.toNat < n'.toNat ∧ b.toNat + s.c.toNat = a.toNat + n.toNat)) ∧
      (∀ a, a.toNat < s'.c.toNat → s.c.toNat ≤ a.toNat → ∃ b, s'.σ.get a = some b) ∧ extendN no m n s k = k n' s'
  | 0, n, s, k, hi => .inr ⟨n, s, .refl s, hi, rfl, rfl, rfl, fun a b h => .inl h, fun a h1 h2 => by omega, rfl⟩
  | m + 1, n, s, k, hi => by
    simp only [extendN]
    cases hn : s.σ.get s.c with
    | some b => have := hi.lt _ _ hn; omega
    | none =>
      cases hu : s.used.get n with
      | some u => exact .inl (by simp only [bindP, hn, hu, Pos.beq_iff.2 (rfl : s.c = s.c), cond_true])
      | none =>
          simp only [bindP, hn, hu, Pos.beq_iff.2 (rfl : s.c = s.c), cond_true, Tr.putK_eq, Pos.succK_eq]
          have hi' : MS.Inv ⟨s.σ.put s.c (some n), s.c.succ, s.used.put n (some ()), s.kills⟩ := by
            refine ⟨fun x y hx => ?_, fun x y hx => ?_, fun x x' y hx hx' => ?_⟩
            · simp only [Tr.get_put] at hx
              simp only [Pos.succ_toNat]
              split at hx
              · rename_i e; rw [e]; omega
              · have := hi.lt x y hx; omega
            · simp only [Tr.get_put] at hx ⊢
              split at hx
              · cases hx; simp
              · split
                · rfl
                · exact hi.used x y hx
            · simp only [Tr.get_put] at hx hx'
              split at hx
              · rename_i e
                cases hx
                split at hx'
                · rename_i e'; rw [e, e']
                · have := hi.used x' n hx'; rw [hu] at this; cases this
              · rename_i e
                split at hx'
                · cases hx'
                  have := hi.used x n hx; rw [hu] at this; cases this
                · exact hi.inj x x' y hx hx'
          have hle : s.le ⟨s.σ.put s.c (some n), s.c.succ, s.used.put n (some ()), s.kills⟩ := ⟨fun x y hx => by
            simp only [Tr.get_put]
            split
            · rename_i e; rw [e, hn] at hx; cases hx
            · exact hx, fun p hp => hp⟩
          rcases extendN_goes no m n.succ _ k hi' with h | ⟨n', s', h1, h2, h3, h4, h5, h6, h7, h8⟩
          · exact .inl h
          · simp only [Pos.succ_toNat] at h3 h4 h6 h7
            refine .inr ⟨n', s', hle.trans h1, h2, by omega, by omega, h5, fun a b hab => ?_, fun a ha1 ha2 => ?_, h8⟩
            · rcases h6 a b hab with h | ⟨g1, g2, g3, g4⟩
              · simp only [Tr.get_put] at h
                split at h
                · rename_i e; cases h; subst e; exact .inr ⟨by omega, by omega, by omega, by omega⟩
                · exact .inl h
              · exact .inr ⟨by omega, by omega, by omega, by omega⟩
            · by_cases e : a = s.c
              · subst e
                exact ⟨n, h1.σ _ _ (Tr.get_put_same _ _ _)⟩
              · exact h7 a ha1 (by have : a.toNat ≠ s.c.toNat := fun x => e (Pos.toNat_inj x); omega)
theorem killAll_eq {β : Type} : ∀ (l : List Pos) (h : Heap) (k : Heap → β), ∃ h', killAll l h k = k h' ∧ ∀ b, h'.get b = if b ∈ l then none else h.get b
  | [], h, k => ⟨h, rfl, fun b => by simp⟩
  | p :: l, h, k => by
    simp only [killAll, Tr.putK_eq]
    obtain ⟨h', e, hg⟩ := killAll_eq l (h.put p none) k
    refine ⟨h', e, fun b => ?_⟩
    rw [hg, Tr.get_put]
    by_cases e1 : b = p <;> by_cases e2 : b ∈ l <;> simp [e1, e2]
theorem insHeap_eq {β : Type} : ∀ (l : List Blk) (n : Pos) (h : Heap) (k : Pos → Heap → β), ∃ n' h', insHeap l n h k = k n' h' ∧ n'.toNat = n.toNat + l.length ∧ (∀ b, h'.get b ≠ none → h.get b ≠ none ∨ (n.toNat ≤ b.toNat ∧ b.toNat < n'.toNat))
  | [], n, h, k => ⟨n, h, rfl, rfl, fun b hb => .inl hb⟩
  | x :: l, n, h, k => by
    simp only [insHeap, Tr.putK_eq, Pos.succK_eq]
    obtain ⟨n', h', e, hn, hg⟩ := insHeap_eq l n.succ (h.put n (some x)) k
    simp only [Pos.succ_toNat] at hn hg
    refine ⟨n', h', e, by simp; omega, fun b hb => ?_⟩
    rcases hg b hb with h1 | h1
    · rw [Tr.get_put] at h1
      split at h1
      · rename_i e; subst e; exact .inr ⟨by omega, by omega⟩
      · exact .inl h1
    · exact .inr ⟨by omega, h1.2⟩
theorem stepsP_eq {β : Type} : ∀ (m : Nat) (n : Pos) (k : Pos → β), ∃ n' : Pos, stepsP m n k = k n' ∧ n'.toNat = n.toNat + m
  | 0, n, k => ⟨n, rfl, rfl⟩
  | m + 1, n, k => by
    simp only [stepsP, Pos.succK_eq]
    obtain ⟨n', e, h⟩ := stepsP_eq m n.succ k
    exact ⟨n', e, by rw [h, Pos.succ_toNat]; omega⟩
end Go.Proofs.YtdkeobkooiaacaaGreatDoor.Ev
namespace Go.Proofs.YtdkeobkooiaacaaGreatDoor.Ev
/-! ## An entry is used -/
variable {P : Program} {ρ : Rho}
theorem insHeap_nat {β : Type} : ∀ (l : List Blk) (n : Pos) (h : Heap) (k : Pos → Heap → β), insHeap l n h k = k (insHeap l n h fun n _ => n) (insHeap l n h fun _ h => h)
  | [], _, _, _ => rfl
  | x :: l, n, h, k => by simp only [insHeap, Tr.putK_eq, Pos.succK_eq]; rw [insHeap_nat l]
theorem outsHeap_nat {β : Type} : ∀ (l : List (Pos × Option Blk)) (h : Heap) (k : Heap → β), outsHeap l h k = k (outsHeap l h fun h => h)
  | [], _, _ => rfl
  | (a, x) :: l, h, k => by simp only [outsHeap, Tr.putK_eq]; rw [outsHeap_nat l]
theorem stepsP_nat {β : Type} : ∀ (m : Nat) (n : Pos) (k : Pos → β), stepsP m n k = k (stepsP m n fun n => n)
  | 0, _, _ => rfl
  | m + 1, n, k => by simp only [stepsP, Pos.succK_eq]; rw [stepsP_nat m]
namespace Memo
def n0 (m : Memo) : Pos := insHeap m.ins .h .lf fun n _ => n
def h0 (m : Memo) : Heap := insHeap m.ins .h .lf fun _ h => h
def h1 (m : Memo) : Heap := outsHeap m.outs m.h0 fun h => h
def n1 (m : Memo) : Pos := stepsP m.news m.n0 fun n => n
theorem n0_toNat (m : Memo) : m.n0.toNat = 1 + m.ins.length := by
  obtain ⟨n', h', e, hn, _⟩ := insHeap_eq m.ins .h .lf (fun n _ => n)
  rw [n0, e, hn]; rfl
theorem h0_lt (m : Memo) (a : Pos) (h : m.h0.get a ≠ none) : a.toNat < m.n0.toNat := by
  obtain ⟨n', h', e, hn, hg⟩ := insHeap_eq m.ins .h .lf (fun n h => (n, h))
  rw [insHeap_nat] at e
  have e1 : m.n0 = n' := congrArg Prod.fst e
  have e2 : m.h0 = h' := congrArg Prod.snd e
  rw [e1]; rw [e2] at h
  rcases hg a h with h | h
  · simp at h
  · exact h.2
theorem n1_toNat (m : Memo) : m.n1.toNat = m.n0.toNat + m.news := by
  obtain ⟨n', e, hn⟩ := stepsP_eq m.news m.n0 (fun n => n)
  rw [n1, e, hn]
end Memo
theorem insHeap_some : ∀ (l : List Blk) (n : Pos) (h : Heap) (a : Pos), (n.toNat ≤ a.toNat ∧ a.toNat < n.toNat + l.length) ∨ (a.toNat < n.toNat ∧ h.get a ≠ none) → (insHeap l n h fun _ h => h).get a ≠ none
  | [], n, h, a, hh => by
    simp only [insHeap]
    rcases hh with ⟨h1, h2⟩ | ⟨_, h⟩
    · simp at h2; omega
    · exact h
  | x :: l, n, h, a, hh => by
    simp only [insHeap, Tr.putK_eq, Pos.succK_eq]
    refine insHeap_some l n.succ _ a ?_
    simp only [Pos.succ_toNat, Tr.get_put]
    rcases hh with ⟨h1, h2⟩ | ⟨h1, h2⟩
    · simp only [List.length_cons] at h2
      by_cases e : a = n
      · subst e; exact .inr ⟨by omega, by simp⟩
      · have : a.toNat ≠ n.toNat := fun x => e (Pos.toNat_inj x)
        exact .inl ⟨by omega, by omega⟩
    · refine .inr ⟨by omega, ?_⟩
      rw [if_neg (fun e => by subst e; omega)]
      exact h2
theorem Memo.h0_some (m : Memo) (a : Pos) (h : a.toNat < m.n0.toNat) : m.h0.get a ≠ none := by
  rw [m.n0_toNat] at h
  have := Pos.toNat_pos a
  exact insHeap_some m.ins .h .lf a (.inl ⟨by simp [Pos.toNat]; omega, by simp [Pos.toNat]; omega⟩)
/-- What an entry says of a program. -/
structure MemoOk [Glob] (P : Program) (g : FuncId) (m : Memo) : Prop where
  news : ∀ a : Pos, m.n0.toNat ≤ a.toNat → a.toNat < m.n1.toNat → m.h1.get a ≠ none
  run : ∀ ρ w (vs : Array Value), (∀ b : Pos, m.n0.toNat ≤ b.toNat → ρ b = none) → WR ρ m.h0 w → VRs ρ m.args vs.toList →
    Upon P g vs w (fun e w' => ∃ x ρ', e = .returned x ∧ Did ρ m.h0 m.n0 w m.v m.h1 m.n1 x w' ρ')
/-- How the cells of the entry and of the memory agree, name by name. -/
def SimAt (σ : Tr Pos) (ks : List Pos) (new : Prop) (x y : Option Blk) : Prop :=
  (x = none ∧ (new ∨ y = none)) ∨ ∃ bl0 bl, x = some bl0 ∧ y = some bl ∧ RB σ bl0 bl ∧ KB ks bl0 bl
theorem KB.mono {ks ks' : List Pos} (h : ∀ p ∈ ks, p ∈ ks') : ∀ {x y : Blk}, KB ks x y → KB ks' x y := by
  intro x y k
  unfold KB at k ⊢
  split
  · exact h _ k
  · trivial
theorem putOuts_goes {β : Type} (no : β) (σ : Tr Pos) (hi : ∀ a a' b, σ.get a = some b → σ.get a' = some b → a = a') (ks : List Pos) (new : Pos → Prop) : ∀ (outs : List (Pos × Option Blk)) (h0 h : Heap) (k : Heap → β),
    putOuts no σ outs h k = no ∨ ∃ h', putOuts no σ outs h k = k h' ∧ (∀ b', (∀ a, σ.get a ≠ some b') → h'.get b' = h.get b') ∧
      (∀ a b, σ.get a = some b → SimAt σ ks (new a) (h0.get a) (h.get b) → SimAt σ ks (new a) ((outsHeap outs h0 fun h => h).get a) (h'.get b))
  | [], h0, h, k => .inr ⟨h, rfl, fun _ _ => rfl, fun _ _ _ h => h⟩
  | (a, x) :: l, h0, h, k => by
    have step : ∀ (b : Pos) (y : Option Blk), σ.get a = some b → SimAt σ ks (new a) x y → putOuts no σ l (h.put b y) k = no ∨ ∃ h', putOuts no σ l (h.put b y) k = k h' ∧ (∀ b', (∀ a, σ.get a ≠ some b') → h'.get b' = h.get b') ∧
      (∀ c b, σ.get c = some b → SimAt σ ks (new c) (h0.get c) (h.get b) → SimAt σ ks (new c) ((outsHeap ((a, x) :: l) h0 fun h => h).get c) (h'.get b)) := by
      intro b y hb hs
      rcases putOuts_goes no σ hi ks new l (h0.put a x) (h.put b y) k with e | ⟨h', e, h1, h2⟩
      · exact .inl e
      · refine .inr ⟨h', e, fun b' hb' => ?_, fun c d hc hcd => ?_⟩
        · rw [h1 b' hb', Tr.get_put, if_neg (fun e => hb' a (by rw [hb, e]))]
        · simp only [outsHeap, Tr.putK_eq]
          refine h2 c d hc ?_
          simp only [Tr.get_put]
          by_cases e1 : c = a
          · subst e1
            rw [hb] at hc; cases hc
            simpa using hs
          · have e2 : d ≠ b := fun e2 => e1 (hi c a b (by rw [hc, e2]) hb)
            simpa [e1, e2] using hcd
    cases x with
    | none =>
      simp only [putOuts]
      split
      · exact .inl rfl
      · rename_i b hb
        rw [Tr.putK_eq]
        exact step b none hb (.inl ⟨rfl, .inr rfl⟩)
    | some bl0 =>
      simp only [putOuts]
      split
      · exact .inl rfl
      · rename_i b hb
        rcases renB_goes no σ bl0 (fun bl => h.putK b (some bl) fun h => putOuts no σ l h k) with e | ⟨bl, r1, r2, e⟩
        · exact .inl e
        · rw [e, Tr.putK_eq]
          exact step b (some bl) hb (.inr ⟨bl0, bl, rfl, rfl, r1, r2.mono (fun p hp => by simp at hp)⟩)
theorem Upon.mono {P : Program} {f : FuncId} {vs : Array Value} {w : World} {R R' : Ending → World → Prop} (h : Upon P f vs w R) (hR : ∀ e w', R e w' → R' e w') : Upon P f vs w R' := by
  rcases h with ⟨h1, x, w', h2, h3⟩ | ⟨h1, h2⟩
  · exact .inl ⟨h1, x, w', h2, hR _ _ h3⟩
  · exact .inr ⟨h1, h2.mono hR⟩
theorem useMemo_ok [Glob] {m : Memo} {g : FuncId} (hm : MemoOk P g m) {β : Type} (no : β) {args : List AV} {h : Heap} {n : Pos} {w : World} {vs : Array Value} (k : AV → Heap → Pos → β) (hw : WR ρ h w) (ha : VRs ρ args vs.toList) :
    useMemo no m args h n k = no ∨ ∃ v h' n', useMemo no m args h n k = k v h' n' ∧ n.toNat ≤ n'.toNat ∧ (Fresh ρ n n' → Upon P g vs w (CallPost ρ h n w (.ret v h' n'))) := by
  unfold useMemo
  rcases matchVs_goes no m.args args ⟨.lf, .h, .lf, []⟩ (fun s => insHeap m.ins .h .lf fun n0 h0 => matchH no h0 h m.ins.length .h s fun s =>
    bif Pos.beq s.c n0 && s.kills.all (fun p => (s.used.get p).isNone) then
      extendN no m.news n s fun n s => killAll s.kills h fun h => putOuts no s.σ m.outs h fun h => renV no s.σ m.v fun v => k v h n
    else no) .first with e | ⟨s₁, _, i₁, q₁, e⟩
  · exact .inl e
  rw [e]; dsimp only; rw [insHeap_nat]; rw [show (insHeap m.ins Pos.h Tr.lf fun _ h => h) = m.h0 from rfl, show (insHeap m.ins Pos.h Tr.lf fun n _ => n) = m.n0 from rfl]
  rcases matchH_goes no m.h0 h m.ins.length .h s₁ (fun s =>
    bif Pos.beq s.c m.n0 && s.kills.all (fun p => (s.used.get p).isNone) then
      extendN no m.news n s fun n s => killAll s.kills h fun h => putOuts no s.σ m.outs h fun h => renV no s.σ m.v fun v => k v h n
    else no) i₁ with e | ⟨s, l₂, i₂, q₂, e⟩
  · exact .inl e
  rw [e]; dsimp only
  cases hc : (Pos.beq s.c m.n0 && s.kills.all (fun p => (s.used.get p).isNone)) with
  | false => exact .inl rfl
  | true =>
    simp only [cond_true]
    rw [Bool.and_eq_true, Pos.beq_iff, List.all_eq_true] at hc
    obtain ⟨hc, hks⟩ := hc
    rcases extendN_goes no m.news n s (fun n s => killAll s.kills h fun h => putOuts no s.σ m.outs h fun h => renV no s.σ m.v fun v => k v h n) i₂ with e | ⟨n', s₃, l₃, i₃, hn', hc', hk', hold, hnew, e⟩
    · exact .inl e
    rw [e]
    obtain ⟨hk, e, hkg⟩ := killAll_eq s₃.kills h (fun h => putOuts no s₃.σ m.outs h fun h => renV no s₃.σ m.v fun v => k v h n')
    rw [e]
    rcases putOuts_goes no s₃.σ i₃.inj s.kills (fun a => m.n0.toNat ≤ a.toNat) m.outs m.h0 hk (fun h => renV no s₃.σ m.v fun v => k v h n') with e | ⟨h', e, hfr, hsim⟩
    · exact .inl e
    rw [e]
    rcases renV_goes no s₃.σ m.v (fun v => k v h' n') with e | ⟨v, hv, e⟩
    · exact .inl e
    rw [e]
    refine .inr ⟨v, h', n', rfl, by omega, fun hf => ?_⟩
    -- the entry's names
    let ρ0 : Rho := fun a => (s.σ.get a).bind ρ
    have hσ0 : ∀ a b, s.σ.get a = some b → ρ b = ρ0 a := fun a b hab => by simp only [ρ0, hab, Option.bind_some]
    have hρ0 : ∀ a l, ρ0 a = some l → ∃ b, s.σ.get a = some b ∧ ρ b = some l := fun a l hl => by
      simp only [ρ0] at hl
      cases hs : s.σ.get a with
      | none => rw [hs] at hl; cases hl
      | some b => rw [hs] at hl; exact ⟨b, rfl, hl⟩
    have hlt : ∀ a b, s.σ.get a = some b → a.toNat < m.n0.toNat := fun a b hab => by rw [← hc]; exact i₂.lt a b hab
    have hnone : ∀ b : Pos, m.n0.toNat ≤ b.toNat → ρ0 b = none := fun b hb => by
      cases hs : ρ0 b with
      | none => rfl
      | some l => obtain ⟨b', hb', _⟩ := hρ0 b l hs; have := hlt _ _ hb'; omega
    have hmatch : ∀ a bl0, m.h0.get a = some bl0 → ∃ b bl, s.σ.get a = some b ∧ h.get b = some bl ∧ RB s.σ bl0 bl ∧ KB s.kills bl0 bl := fun a bl0 hg => by
      have h1 := m.h0_lt a (by rw [hg]; simp)
      rw [m.n0_toNat] at h1
      have h2 := Pos.toNat_pos a
      exact q₂ s (.refl s) a bl0 (by simp [Pos.toNat]; omega) (by simp [Pos.toNat]; omega) hg
    have hunused : ∀ a p, s.σ.get a = some p → p ∉ s.kills := fun a p hp hk => by
      have := hks p hk
      rw [i₂.used a p hp] at this
      cases this
    -- linked in the entry, linked in the memory
    have hlinked : ∀ a a' b b', s.σ.get a = some b → s.σ.get a' = some b' → m.h0.get a ≠ none → Linked h b b' → Linked m.h0 a a' := by
      intro a a' b b' ha hb' hg hl
      obtain ⟨bl0, hbl0⟩ := Option.ne_none_iff_exists'.1 hg
      obtain ⟨b2, bl, hb2, hbl, hRB, hKB⟩ := hmatch a bl0 hbl0
      rw [ha] at hb2; cases hb2
      obtain ⟨cs, ty, esz, opn, stq, fz, hrow⟩ := hl
      rw [hbl] at hrow
      cases hrow
      cases bl0 with
      | row cs0 ty0 esz0 opn0 stq0 fz0 link =>
        cases link with
        | none => exact absurd hKB (hunused a' b' hb')
        | some c =>
          simp only [RB] at hRB
          obtain ⟨cs', link', e, _, b3, hc3, e3⟩ := hRB
          cases e
          cases e3
          rw [i₂.inj a' c b' hb' hc3]
          exact ⟨_, _, _, _, _, _, hbl0⟩
      | mp es c => simp only [RB] at hRB; obtain ⟨_, e, _⟩ := hRB; cases e
      | si a b => exact hRB.elim
      | loop a b c d e f g => exact hRB.elim
      | dfr => exact hRB.elim
    have hw0 : WR ρ0 m.h0 w := by
      refine ⟨fun a bl0 l hg hl => ?_, fun a a' l l' hg hg' hl hl' hne hB => ?_, hw.glo, fun a l hg hl => ?_⟩
      rotate_right
      · obtain ⟨bl0, hbl0⟩ := Option.ne_none_iff_exists'.1 hg
        obtain ⟨b, bl, hb, hbl, _, _⟩ := hmatch a bl0 hbl0
        exact hw.apart b l (by rw [hbl]; simp) (by rw [hσ0 a b hb]; exact hl)
      · obtain ⟨b, bl, hb, hbl, hRB, _⟩ := hmatch a bl0 hg
        rw [RB.br hσ0 hRB]
        exact hw.blk b bl l hbl (by rw [hσ0 a b hb]; exact hl)
      · obtain ⟨bl0, hbl0⟩ := Option.ne_none_iff_exists'.1 hg
        obtain ⟨bl0', hbl0'⟩ := Option.ne_none_iff_exists'.1 hg'
        obtain ⟨b, bl, hb, hbl, _, _⟩ := hmatch a bl0 hbl0
        obtain ⟨b', bl', hb', hbl', _, _⟩ := hmatch a' bl0' hbl0'
        have hbb : b ≠ b' := fun e => hne (i₂.inj a a' b hb (by rw [hb', e]))
        exact hlinked a a' b b' hb hb' hg (hw.inj b b' l l' (by rw [hbl]; simp) (by rw [hbl']; simp) (by rw [hσ0 a b hb]; exact hl) (by rw [hσ0 a' b' hb']; exact hl') hbb hB)
    have ha0 : VRs ρ0 m.args vs.toList := (RVs.vr hσ0 _ _ _ (q₁ s l₂)).2 ha
    refine (hm.run ρ0 w vs hnone hw0 ha0).mono ?_
    rintro e w' ⟨x, ρ0', rfl, d⟩
    -- the names behind the call
    have hσold : ∀ a b, s₃.σ.get a = some b → a.toNat < m.n0.toNat → s.σ.get a = some b := fun a b hab hl => by
      rcases hold a b hab with h1 | h1
      · exact h1
      · rw [hc] at h1; omega
    have hσnew : ∀ a b, s₃.σ.get a = some b → m.n0.toNat ≤ a.toNat → n.toNat ≤ b.toNat ∧ b.toNat < n'.toNat ∧ a.toNat < m.n1.toNat := fun a b hab hl => by
      rcases hold a b hab with h1 | h1
      · have := hlt _ _ h1; omega
      · have := i₃.lt a b hab; rw [hc', hc] at this; rw [m.n1_toNat]; exact ⟨by omega, by omega, by omega⟩
    let ρ' : Rho := fun b => @dite _ (∃ a, s₃.σ.get a = some b) (Classical.propDecidable _) (fun hx => ρ0' hx.choose) (fun _ => ρ b)
    have hσ' : ∀ a b, s₃.σ.get a = some b → ρ' b = ρ0' a := fun a b hab => by
      have hx : ∃ a, s₃.σ.get a = some b := ⟨a, hab⟩
      simp only [ρ', dif_pos hx]
      rw [i₃.inj _ a b hx.choose_spec hab]
    have hout : ∀ b, (∀ a, s₃.σ.get a ≠ some b) → ρ' b = ρ b := fun b hb => by
      simp only [ρ']
      rw [dif_neg (fun ⟨a, ha⟩ => hb a ha)]
    have hgrow : Grow n n' ρ ρ' := by
      refine ⟨by omega, fun b hb => ?_⟩
      by_cases hx : ∃ a, s₃.σ.get a = some b
      · obtain ⟨a, hab⟩ := hx
        rw [hσ' a b hab]
        by_cases hl : a.toNat < m.n0.toNat
        · rw [d.ext.2 a (.inl hl), ← hσ0 a b (hσold a b hab hl)]
        · have := hσnew a b hab (by omega); omega
      · exact hout b fun a hab => hx ⟨a, hab⟩
    have hle := hgrow.le hf
    have hρe : ∀ a b, s.σ.get a = some b → ρ' b = ρ b := fun a b hab => by
      rw [hσ' a b (l₃.σ a b hab), d.ext.2 a (.inl (hlt a b hab)), ← hσ0 a b hab]
    -- each name's block
    have hsimA : ∀ a b, s₃.σ.get a = some b → SimAt s₃.σ s.kills (m.n0.toNat ≤ a.toNat) (m.h1.get a) (h'.get b) := by
      intro a b hab
      refine hsim a b hab ?_
      by_cases hl : a.toNat < m.n0.toNat
      · obtain ⟨bl0, hbl0⟩ := Option.ne_none_iff_exists'.1 (m.h0_some a hl)
        obtain ⟨b2, bl, hb2, hbl, hRB, hKB⟩ := hmatch a bl0 hbl0
        have hab' := hσold a b hab hl
        rw [hab'] at hb2; cases hb2
        refine .inr ⟨bl0, bl, hbl0, ?_, ?_, hKB⟩
        · rw [hkg, if_neg (by rw [hk']; exact hunused a b hab'), hbl]
        · have := q₂ s₃ l₃ a bl0 (by have := Pos.toNat_pos a; simp [Pos.toNat]; omega) (by rw [m.n0_toNat] at hl; simp [Pos.toNat]; omega) hbl0
          obtain ⟨b3, bl3, h3, h4, h5, _⟩ := this
          rw [hab] at h3; cases h3
          rw [hbl] at h4; cases h4
          exact h5
      · refine .inl ⟨?_, .inl (by omega)⟩
        cases hx : m.h0.get a with
        | none => rfl
        | some y => have := m.h0_lt a (by rw [hx]; simp); omega
    have hsimB : ∀ a b bl, s₃.σ.get a = some b → h'.get b = some bl → ∃ bl0, m.h1.get a = some bl0 ∧ RB s₃.σ bl0 bl ∧ KB s.kills bl0 bl := by
      intro a b bl hab hb
      rcases hsimA a b hab with ⟨h1, h2 | h2⟩ | ⟨bl0, bl2, h1, h2, h3, h4⟩
      · exact absurd h1 (hm.news a h2 (hσnew a b hab h2).2.2)
      · rw [hb] at h2; cases h2
      · rw [hb] at h2; cases h2; exact ⟨bl0, h1, h3, h4⟩
    have hframe : ∀ b bl, (∀ a, s₃.σ.get a ≠ some b) → h'.get b = some bl → h.get b = some bl ∧ b ∉ s.kills := by
      intro b bl hb hg
      rw [hfr b hb, hkg, hk'] at hg
      split at hg
      · cases hg
      · rename_i hnk; exact ⟨hg, hnk⟩
    -- a frame's block lies apart from the entry's
    have hapart : ∀ b bl l, (∀ a, s₃.σ.get a ≠ some b) → h'.get b = some bl → ρ b = some l → ¬ Owned ρ0 m.h0 l.B := by
      rintro b bl l hb hg hl ⟨a, l2, hg2, hl2, hB⟩
      obtain ⟨hgb, hnk⟩ := hframe b bl hb hg
      obtain ⟨bl0, hbl0⟩ := Option.ne_none_iff_exists'.1 hg2
      obtain ⟨b2, bl2, hb2, hbl2, hRB, hKB⟩ := hmatch a bl0 hbl0
      have hne : b2 ≠ b := fun e => hb a (l₃.σ a b (by rw [hb2, e]))
      have hL := hw.inj b2 b l2 l (by rw [hbl2]; simp) (by rw [hgb]; simp) (by rw [hσ0 a b2 hb2]; exact hl2) hl hne hB
      obtain ⟨cs, ty, esz, opn, stq, fz, hrow⟩ := hL
      rw [hbl2] at hrow; cases hrow
      cases bl0 with
      | row cs0 ty0 esz0 opn0 stq0 fz0 link =>
        cases link with
        | none => exact hnk hKB
        | some c =>
          simp only [RB] at hRB
          obtain ⟨cs', link', e, _, b3, hc3, e3⟩ := hRB
          cases e
          cases e3
          exact hb c (l₃.σ c b hc3)
      | mp es c => simp only [RB] at hRB; obtain ⟨_, e, _⟩ := hRB; cases e
      | si a b => exact hRB.elim
      | loop a b c d e f g => exact hRB.elim
      | dfr => exact hRB.elim
    refine ⟨x, ρ', rfl, Did.mk' hw hgrow ((RV.vr hσ' _ _ _ hv).1 d.val) (fun b bl l hg hl => ?_) (fun b b' l l' hg hg' hl hl' hne hB => ?_) ⟨d.fr.mute, d.fr.size, fun B hB hn => ?_, fun B ho => ?_⟩⟩
    · by_cases hx : ∃ a, s₃.σ.get a = some b
      · obtain ⟨a, hab⟩ := hx
        obtain ⟨bl0, hbl0, hRB, _⟩ := hsimB a b bl hab hg
        rw [← RB.br hσ' hRB]
        exact d.wr.blk a bl0 l hbl0 (by rw [← hσ' a b hab]; exact hl)
      · have hb : ∀ a, s₃.σ.get a ≠ some b := fun a hab => hx ⟨a, hab⟩
        have hl0 := hl
        rw [hout b hb] at hl0
        have hbr := hw.blk b bl l (hframe b bl hb hg).1 hl0
        exact (hbr.same (d.fr.keep l.B hbr.lt (hapart b bl l hb hg hl0))).mono hle
    · obtain ⟨bl, hbl⟩ := Option.ne_none_iff_exists'.1 hg
      obtain ⟨bl', hbl'⟩ := Option.ne_none_iff_exists'.1 hg'
      have mixed : ∀ (b c : Pos) (bl blc : Blk) (l lc : Loc) (a : Pos), (∀ a, s₃.σ.get a ≠ some b) → h'.get b = some bl → ρ' b = some l → s₃.σ.get a = some c → h'.get c = some blc → ρ' c = some lc → l.B = lc.B → False := by
        intro b c bl blc l lc a hb hg hl hac hgc hlc hB
        obtain ⟨bl0, hbl0, _, _⟩ := hsimB a c blc hac hgc
        rw [hout b hb] at hl
        have hbr := hw.blk b bl l (hframe b bl hb hg).1 hl
        rcases d.fr.own lc.B ⟨a, lc, by rw [hbl0]; simp, by rw [← hσ' a c hac]; exact hlc, rfl⟩ with h1 | h1
        · have := hbr.lt; omega
        · rw [← hB] at h1
          exact hapart b bl l hb hg hl h1
      by_cases hx : ∃ a, s₃.σ.get a = some b
      · obtain ⟨a, hab⟩ := hx
        by_cases hx' : ∃ a, s₃.σ.get a = some b'
        · obtain ⟨a', hab'⟩ := hx'
          obtain ⟨bl0, hbl0, hRB, _⟩ := hsimB a b bl hab hbl
          obtain ⟨bl0', hbl0', _, _⟩ := hsimB a' b' bl' hab' hbl'
          have haa : a ≠ a' := fun e => hne (by rw [e, hab'] at hab; cases hab; rfl)
          obtain ⟨cs, ty, esz, opn, stq, fz, hrow⟩ := d.wr.inj a a' l l' (by rw [hbl0]; simp) (by rw [hbl0']; simp) (by rw [← hσ' a b hab]; exact hl) (by rw [← hσ' a' b' hab']; exact hl') haa hB
          rw [hbl0] at hrow; cases hrow
          simp only [RB] at hRB
          obtain ⟨cs', link', e, _, b3, hc3, e3⟩ := hRB
          rw [hab'] at hc3; cases hc3
          subst e3 e
          exact ⟨_, _, _, _, _, _, hbl⟩
        · exact (mixed b' b bl' bl l' l a (fun c hc => hx' ⟨c, hc⟩) hbl' hl' hab hbl hl hB.symm).elim
      · by_cases hx' : ∃ a, s₃.σ.get a = some b'
        · obtain ⟨a', hab'⟩ := hx'
          exact (mixed b b' bl bl' l l' a' (fun c hc => hx ⟨c, hc⟩) hbl hl hab' hbl' hl' hB).elim
        · have hb : ∀ a, s₃.σ.get a ≠ some b := fun a hab => hx ⟨a, hab⟩
          have hb' : ∀ a, s₃.σ.get a ≠ some b' := fun a hab => hx' ⟨a, hab⟩
          rw [hout b hb] at hl
          rw [hout b' hb'] at hl'
          have g1 := (hframe b bl hb hbl).1
          obtain ⟨cs, ty, esz, opn, stq, fz, hrow⟩ := hw.inj b b' l l' (by rw [g1]; simp) (by rw [(hframe b' bl' hb' hbl').1]; simp) hl hl' hne hB
          rw [g1] at hrow; cases hrow
          exact ⟨_, _, _, _, _, _, hbl⟩
    · refine d.fr.keep B hB fun ⟨a, l, hg, hl, hB'⟩ => hn ?_
      obtain ⟨bl0, hbl0⟩ := Option.ne_none_iff_exists'.1 hg
      obtain ⟨b, bl, hb, hbl, _, _⟩ := hmatch a bl0 hbl0
      exact ⟨b, l, by rw [hbl]; simp, by rw [hσ0 a b hb]; exact hl, hB'⟩
    · obtain ⟨b, l, hg, hl, hB⟩ := ho
      obtain ⟨bl, hbl⟩ := Option.ne_none_iff_exists'.1 hg
      by_cases hx : ∃ a, s₃.σ.get a = some b
      · obtain ⟨a, hab⟩ := hx
        obtain ⟨bl0, hbl0, _, _⟩ := hsimB a b bl hab hbl
        rcases d.fr.own B ⟨a, l, by rw [hbl0]; simp, by rw [← hσ' a b hab]; exact hl, hB⟩ with h1 | ⟨a2, l2, hg2, hl2, hB2⟩
        · exact .inl h1
        · obtain ⟨bl2, hbl2⟩ := Option.ne_none_iff_exists'.1 hg2
          obtain ⟨b2, bl3, hb2, hbl3, _, _⟩ := hmatch a2 bl2 hbl2
          exact .inr ⟨b2, l2, by rw [hbl3]; simp, by rw [hσ0 a2 b2 hb2]; exact hl2, hB2⟩
      · have hb : ∀ a, s₃.σ.get a ≠ some b := fun a hab => hx ⟨a, hab⟩
        rw [hout b hb] at hl
        exact .inr ⟨b, l, by rw [(hframe b bl hb hbl).1]; simp, hl, hB⟩
end Go.Proofs.YtdkeobkooiaacaaGreatDoor.Ev
namespace Go.Proofs.YtdkeobkooiaacaaGreatDoor.Ev
/-! ## An entry is proved -/
variable {P : Program} {ρ : Rho}
theorem outsHeap_get : ∀ (l : List (Pos × Option Blk)) (h : Heap) (a : Pos), (outsHeap l h fun h => h).get a ≠ none → h.get a ≠ none ∨ ∃ x, (a, x) ∈ l
  | [], h, a, hh => .inl hh
  | (b, x) :: l, h, a, hh => by
    simp only [outsHeap, Tr.putK_eq] at hh
    rcases outsHeap_get l _ a hh with h1 | ⟨y, h1⟩
    · rw [Tr.get_put] at h1
      split at h1
      · rename_i e; exact .inr ⟨x, by simp [e]⟩
      · exact .inl h1
    · exact .inr ⟨y, List.mem_cons_of_mem _ h1⟩
theorem newsIn_spec {h : Heap} : ∀ (m : Nat) (n : Pos), newsIn h m n = true → ∀ a : Pos, n.toNat ≤ a.toNat → a.toNat < n.toNat + m → h.get a ≠ none
  | 0, n, _, a, h1, h2 => by omega
  | m + 1, n, hh, a, h1, h2 => by
    unfold newsIn at hh
    split at hh
    · cases hh
    · rename_i bl hb
      rw [Pos.succK_eq] at hh
      by_cases e : a = n
      · rw [e, hb]; simp
      · have : a.toNat ≠ n.toNat := fun x => e (Pos.toNat_inj x)
        exact newsIn_spec m n.succ hh a (by rw [Pos.succ_toNat]; omega) (by rw [Pos.succ_toNat]; omega)
theorem memo_of_run [Glob] {m : Memo} {g : FuncId} {call : CallF} (hc : CallSpec P call) {v1 : AV} {h1 : Heap} {n1 : Pos} (hrun : call g m.args m.h0 m.n0 = .ret v1 h1 n1) (hfit : memoFits m v1 h1 = true) : MemoOk P g m := by
  unfold memoFits at hfit
  rw [insHeap_nat, outsHeap_nat] at hfit
  rcases extendN_goes false m.ins.length .h ⟨.lf, .h, .lf, []⟩ (fun _ s =>
    matchV false m.v v1 s fun s => matchH false m.h1 h1 (m.ins.length + m.news) .h s fun s =>
      stepsP m.news m.n0 fun n' => Pos.beq s.c n' && (s.kills.all (fun p => (s.used.get p).isNone) && (m.outs.all (fun x => (s.σ.get x.1).isSome) && newsIn m.h1 m.news m.n0))) .first with e | ⟨n', s₁, _, i₁, hn', hc', hk', hold, hnew, e⟩
  · exact absurd (hfit.symm.trans e) (by simp)
  replace hfit := e.symm.trans hfit
  clear e
  rcases matchV_goes false m.v v1 s₁ (fun s => matchH false m.h1 h1 (m.ins.length + m.news) .h s fun s =>
      stepsP m.news m.n0 fun n' => Pos.beq s.c n' && (s.kills.all (fun p => (s.used.get p).isNone) && (m.outs.all (fun x => (s.σ.get x.1).isSome) && newsIn m.h1 m.news m.n0))) i₁ with e | ⟨s₂, l₂, i₂, q₂, e⟩
  · exact absurd (hfit.symm.trans e) (by simp)
  replace hfit := e.symm.trans hfit
  clear e
  rcases matchH_goes false m.h1 h1 (m.ins.length + m.news) .h s₂ (fun s =>
      stepsP m.news m.n0 fun n' => Pos.beq s.c n' && (s.kills.all (fun p => (s.used.get p).isNone) && (m.outs.all (fun x => (s.σ.get x.1).isSome) && newsIn m.h1 m.news m.n0))) i₂ with e | ⟨s, l₃, i₃, q₃, e⟩
  · exact absurd (hfit.symm.trans e) (by simp)
  replace hfit := e.symm.trans hfit
  clear e
  dsimp only at hfit
  rw [stepsP_nat] at hfit
  change (Pos.beq s.c m.n1 && _) = true at hfit
  simp only [Bool.and_eq_true, Pos.beq_iff, List.all_eq_true] at hfit
  obtain ⟨f1, f2, f3, f4⟩ := hfit
  have hn0 := m.n0_toNat
  have hc1 : s₁.c.toNat = m.n0.toNat := by rw [hc', hn0]; rfl
  refine ⟨fun a ha hb => newsIn_spec m.news m.n0 f4 a ha (by rw [m.n1_toNat] at hb; exact hb), fun ρ w vs hnone hw ha => ?_⟩
  have hup := hc g m.args m.h0 m.n0 ρ w vs (by rw [hrun]; simp) hw ha (by rw [hrun]; exact fun b hb _ => hnone b hb)
  rw [hrun] at hup
  refine hup.mono ?_
  rintro e w' ⟨x, ρ1, rfl, d⟩
  -- old names are met by themselves
  have hid : ∀ a : Pos, a.toNat < m.n0.toNat → s.σ.get a = some a := fun a hl => by
    have h2 := Pos.toNat_pos a
    obtain ⟨b, hb⟩ := hnew a (by rw [hc1]; exact hl) (by simp [Pos.toNat]; omega)
    rcases hold a b hb with h3 | ⟨_, _, _, h3⟩
    · simp at h3
    · simp only [Pos.toNat] at h3
      have : b = a := Pos.toNat_inj (by omega)
      rw [this] at hb
      exact l₃.σ _ _ (l₂.σ _ _ hb)
  have hlt : ∀ a b, s.σ.get a = some b → a.toNat < m.n1.toNat := fun a b hab => by rw [← f1]; exact i₃.lt a b hab
  have hn01 : m.n0.toNat ≤ m.n1.toNat := by rw [m.n1_toNat]; omega
  let ρ2 : Rho := fun a => if a.toNat < m.n0.toNat then ρ a else if a.toNat < m.n1.toNat then (s.σ.get a).bind ρ1 else ρ a
  have hold2 : ∀ a : Pos, a.toNat < m.n0.toNat → ρ2 a = ρ a := fun a hl => by simp only [ρ2, if_pos hl]
  have hτ : ∀ a b, s.σ.get a = some b → ρ1 b = ρ2 a := fun a b hab => by
    by_cases hl : a.toNat < m.n0.toNat
    · rw [hid a hl] at hab; cases hab
      rw [hold2 a hl, d.ext.2 a (.inl hl)]
    · simp only [ρ2, if_neg hl, if_pos (hlt a b hab), hab, Option.bind_some]
  have hmatch : ∀ a bl0, m.h1.get a = some bl0 → ∃ b bl, s.σ.get a = some b ∧ h1.get b = some bl ∧ RB s.σ bl0 bl ∧ KB s.kills bl0 bl := fun a bl0 hg => by
    have h2 := Pos.toNat_pos a
    have h3 : a.toNat < m.n1.toNat := by
      rcases outsHeap_get m.outs m.h0 a (by rw [show (outsHeap m.outs m.h0 fun h => h) = m.h1 from rfl, hg]; simp) with h | ⟨y, h⟩
      · have := m.h0_lt a h; omega
      · obtain ⟨b, hb⟩ := Option.isSome_iff_exists.1 (f3 _ h)
        exact hlt a b hb
    rw [m.n1_toNat, hn0] at h3
    exact q₃ s (.refl s) a bl0 (by simp [Pos.toNat]; omega) (by simp [Pos.toNat]; omega) hg
  have hunused : ∀ a p, s.σ.get a = some p → p ∉ s.kills := fun a p hp hk => by
    have := f2 p hk
    rw [i₃.used a p hp] at this
    cases this
  have hgrow : Grow m.n0 m.n1 ρ ρ2 := by
    refine ⟨hn01, fun a ha => ?_⟩
    rcases ha with ha | ha
    · exact hold2 a ha
    · simp only [ρ2, if_neg (show ¬ a.toNat < m.n0.toNat by omega), if_neg (show ¬ a.toNat < m.n1.toNat by omega)]
  refine ⟨x, ρ2, rfl, Did.mk' hw hgrow ((RV.vr hτ _ _ _ (q₂ s l₃)).2 d.val) (fun a bl0 l hg hl => ?_) (fun a a' l l' hg hg' hl hl' hne hB => ?_) ⟨d.fr.mute, d.fr.size, d.fr.keep, fun B ho => ?_⟩⟩
  · obtain ⟨b, bl, hb, hbl, hRB, _⟩ := hmatch a bl0 hg
    rw [RB.br hτ hRB]
    exact d.wr.blk b bl l hbl (by rw [hτ a b hb]; exact hl)
  · obtain ⟨bl0, hbl0⟩ := Option.ne_none_iff_exists'.1 hg
    obtain ⟨bl0', hbl0'⟩ := Option.ne_none_iff_exists'.1 hg'
    obtain ⟨b, bl, hb, hbl, hRB, hKB⟩ := hmatch a bl0 hbl0
    obtain ⟨b', bl', hb', hbl', _, _⟩ := hmatch a' bl0' hbl0'
    have hbb : b ≠ b' := fun e => hne (i₃.inj a a' b hb (by rw [hb', e]))
    obtain ⟨cs, ty, esz, opn, stq, fz, hrow⟩ := d.wr.inj b b' l l' (by rw [hbl]; simp) (by rw [hbl']; simp) (by rw [hτ a b hb]; exact hl) (by rw [hτ a' b' hb']; exact hl') hbb hB
    rw [hbl] at hrow; cases hrow
    cases bl0 with
    | row cs0 ty0 esz0 opn0 stq0 fz0 link =>
      cases link with
      | none => exact absurd hKB (hunused a' b' hb')
      | some c =>
        simp only [RB] at hRB
        obtain ⟨cs', link', e, _, b3, hc3, e3⟩ := hRB
        cases e
        cases e3
        rw [i₃.inj a' c b' hb' hc3]
        exact ⟨_, _, _, _, _, _, hbl0⟩
    | mp es c => simp only [RB] at hRB; obtain ⟨_, e, _⟩ := hRB; cases e
    | si a b => exact hRB.elim
    | loop a b c d e f g => exact hRB.elim
    | dfr => exact hRB.elim
  · obtain ⟨a, l, hg, hl, hB⟩ := ho
    obtain ⟨bl0, hbl0⟩ := Option.ne_none_iff_exists'.1 hg
    obtain ⟨b, bl, hb, hbl, _, _⟩ := hmatch a bl0 hbl0
    exact d.fr.own B ⟨b, l, by rw [hbl]; simp, by rw [hτ a b hb]; exact hl, hB⟩
end Go.Proofs.YtdkeobkooiaacaaGreatDoor.Ev
namespace Go.Proofs.YtdkeobkooiaacaaGreatDoor.Ev
/-! ## All calls -/
variable {P : Program} {call round : CallF}
structure ExtFn (P : Program) (f : FuncId) (e : Array Value → Sem Value) : Prop where
  row : ∃ fn, P.funcs[f]? = some fn ∧ (fn.name == "runtime.NumGoroutine") = false ∧ fn.body.isNone = true ∧ Extern.findNext fn = none ∧ Extern.find fn = some e
theorem ExtFn.run {f : FuncId} {e : Array Value → Sem Value} (h : ExtFn P f e) (args : Array Value) {w : World} {x : Value} (hx : (e args).run P w = .ok x w) {R : Ending → World → Prop} (hR : R (.returned x) w) : Upon P f args w R := by
  obtain ⟨fn, h1, h2, h3, h4, h5⟩ := h.row
  refine .inl ⟨?_, x, w, ?_, hR⟩
  · rw [h1]; simpa using h3
  · rw [run_callFunc_extern h1 h2 h3 h4 h5, hx]; rfl
structure ExtOk [Glob] (P : Program) (E : Ext) : Prop where
  noEsc : ExtFn P E.noEsc Extern.AbiNoEscape.same
  idxByte : ExtFn P E.idxByte Extern.BytealgIndexByte.indexByte
  memo : ∀ p ∈ E.memo, MemoOk P p.1 p.2
theorem findByte_ge (c : Nat) : ∀ (l : List Nat) (i j : Nat), findByte c l i = some j → i ≤ j
  | [], _, _, h => by cases h
  | x :: l, i, j, h => by
    unfold findByte at h
    cases hb : Nat.beq x c with
    | true => rw [hb] at h; cases h; omega
    | false => rw [hb] at h; have := findByte_ge c l (i + 1) j h; omega
theorem findByte_indexByte (c : Nat) (hc : c < 256) : ∀ (l : List UInt8) (i : Nat), (match findByte c (l.map (·.toNat)) i with | some j => ((j : Int) - i) | none => -1) = Lib.indexByte l (Int.ofNat c).toNat.toUInt8
  | [], _ => rfl
  | x :: l, i => by
    simp only [List.map_cons, findByte, Lib.indexByte]
    have hx : (x == (Int.ofNat c).toNat.toUInt8) = Nat.beq x.toNat c := by
      have e : ((Int.ofNat c).toNat.toUInt8).toNat = c := by
        show (UInt8.ofNat c).toNat = c
        simp [UInt8.toNat_ofNat']; omega
      by_cases h : x = (Int.ofNat c).toNat.toUInt8
      · rw [← h] at e
        have : Nat.beq x.toNat c = true := by rw [e]; exact Nat.beq_refl c
        rw [this, ← h]; simp
      · have h2 : x.toNat ≠ c := fun h3 => h (UInt8.toNat_inj.1 (by rw [h3, e]))
        have : Nat.beq x.toNat c = false := by
          cases hb : Nat.beq x.toNat c with
          | false => rfl
          | true => exact absurd (Nat.eq_of_beq_eq_true hb) h2
        rw [this]; simpa using h
    rw [hx]
    cases hb : Nat.beq x.toNat c with
    | true => simp
    | false =>
      simp only [cond_false, Bool.false_eq_true, if_false]
      have ih := findByte_indexByte c hc l (i + 1)
      cases hf : findByte c (l.map (·.toNat)) (i + 1) with
      | none => rw [hf] at ih; simp only at ih; rw [← ih]; rfl
      | some j =>
        rw [hf] at ih
        simp only at ih ⊢
        have := findByte_ge c _ _ _ hf
        rw [← ih]
        have h1 : ¬ ((j : Int) - ((i + 1 : Nat) : Int) = -1) := by omega
        simp only [beq_iff_eq, h1, if_false]
        omega
theorem memoOf_spec [Glob] (hc : CallSpec P call) {g : FuncId} {args : List AV} {h : Heap} {n : Pos} {ρ : Rho} {w : World} {vs : Array Value} (hw : WR ρ h w) (ha : VRs ρ args vs.toList) :
    ∀ l : List (FuncId × Memo), (∀ p ∈ l, MemoOk P p.1 p.2) → memoOf call g args h n l ≠ .fail → Fresh ρ n (memoOf call g args h n l).next' → Upon P g vs w (CallPost ρ h n w (memoOf call g args h n l))
  | [], _, hne, hf => hc g args h n ρ w vs hne hw ha hf
  | (f, m) :: l, hm, hne, hf => by
    have ih := memoOf_spec hc (n := n) (g := g) hw ha l (fun p hp => hm p (List.mem_cons_of_mem _ hp))
    unfold memoOf at hne hf ⊢
    cases hb : Nat.beq f g with
    | false => simp only [hb, cond_false] at hne hf ⊢; exact ih hne hf
    | true =>
      have e := Nat.eq_of_beq_eq_true hb
      subst e
      simp only [hb, cond_true] at hne hf ⊢
      rcases useMemo_ok (hm (f, m) (by simp)) none (n := n) (fun v h n => some (CR.ret v h n)) hw ha with e | ⟨v, h', n', e, _, hu⟩
      · simp only [e] at hne hf ⊢; exact ih hne hf
      · simp only [e] at hne hf ⊢; exact hu hf
theorem callOf_spec [Glob] {E : Ext} (hE : ExtOk P E) (hc : CallSpec P call) : CallSpec P (callOf E call) := by
  intro f args h n ρ w vs hne hw ha hf
  unfold callOf at hne hf ⊢
  cases h1 : Nat.beq f E.noEsc with
  | true =>
    have e := Nat.eq_of_beq_eq_true h1
    simp only [h1, cond_true] at hne hf ⊢
    split at hne
    · rename_i x
      obtain ⟨y, ys, ey, hy, hys⟩ := ha
      simp only [VRs] at hys
      subst hys
      have ev : vs = #[y] := by rw [← Array.toArray_toList (xs := vs), ey]
      subst ev
      rw [e]
      exact hE.noEsc.run #[y] (Lib.run_noEscape w y) ⟨y, ρ, rfl, .refl n ρ, hy, hw, .refl ρ h w⟩
    · exact absurd rfl hne
  | false =>
    simp only [h1, cond_false] at hne hf ⊢
    cases h2 : Nat.beq f E.idxByte with
    | true =>
      have e := Nat.eq_of_beq_eq_true h2
      simp only [h2, cond_true] at hne hf ⊢
      split at hne
      · rename_i s c
        cases hlt : Nat.blt c 256 with
        | false => simp [hlt] at hne
        | true =>
          simp only [hlt, cond_true] at hne hf ⊢
          have hlt' : c < 256 := Nat.le_of_ble_eq_true hlt
          obtain ⟨y, ys, ey, hy, z, zs, ez, hz, hzs⟩ := ha
          simp only [VRs] at hzs
          subst hzs ez
          simp only [VR] at hy hz
          obtain ⟨t, rfl, ht⟩ := hy
          subst hz
          have ev : vs = #[.string t, .int .u8 (.ofNat c)] := by rw [← Array.toArray_toList (xs := vs), ey]
          subst ev
          have hi := findByte_indexByte c hlt' t.data.toList 0
          rw [show t.data.toList.map (·.toNat) = s from ht] at hi
          rw [e]
          refine hE.idxByte.run _ (Lib.run_indexByteString t (.ofNat c) w) ?_
          rw [← hi]
          cases hfb : findByte c s 0 with
          | none => exact ⟨_, ρ, rfl, .refl n ρ, by simp only [VR]; rfl, hw, .refl ρ h w⟩
          | some j => exact ⟨_, ρ, rfl, .refl n ρ, by simp only [VR]; simp, hw, .refl ρ h w⟩
      · exact absurd rfl hne
    | false =>
      simp only [h2, cond_false] at hne hf ⊢
      cases h3 : bitAt E.mm f with
      | true => simp only [h3, cond_true] at hne hf ⊢; exact memoOf_spec hc hw ha E.memo hE.memo hne hf
      | false => simp only [h3, cond_false] at hne hf ⊢; exact hc f args h n ρ w vs hne hw ha hf
end Go.Proofs.YtdkeobkooiaacaaGreatDoor.Ev
namespace Go.Proofs.YtdkeobkooiaacaaGreatDoor.Ev
variable {P : Program} {call round : CallF}
/-! ## Names go up -/
theorem useMemo_up (m : Memo) {β : Type} (no : β) (args : List AV) (h : Heap) (n : Pos) (k : AV → Heap → Pos → β) :
    useMemo no m args h n k = no ∨ ∃ v h' n', useMemo no m args h n k = k v h' n' ∧ Pos.Le n n' := by
  unfold useMemo
  rcases matchVs_goes no m.args args ⟨.lf, .h, .lf, []⟩ (fun s => insHeap m.ins .h .lf fun n0 h0 => matchH no h0 h m.ins.length .h s fun s =>
    bif Pos.beq s.c n0 && s.kills.all (fun p => (s.used.get p).isNone) then
      extendN no m.news n s fun n s => killAll s.kills h fun h => putOuts no s.σ m.outs h fun h => renV no s.σ m.v fun v => k v h n
    else no) .first with e | ⟨s₁, _, i₁, q₁, e⟩
  · exact .inl e
  rw [e]; dsimp only; rw [insHeap_nat]
  rcases matchH_goes no (insHeap m.ins Pos.h Tr.lf fun _ h => h) h m.ins.length .h s₁ (fun s =>
    bif Pos.beq s.c (insHeap m.ins Pos.h Tr.lf fun n _ => n) && s.kills.all (fun p => (s.used.get p).isNone) then
      extendN no m.news n s fun n s => killAll s.kills h fun h => putOuts no s.σ m.outs h fun h => renV no s.σ m.v fun v => k v h n
    else no) i₁ with e | ⟨s, l₂, i₂, q₂, e⟩
  · exact .inl e
  rw [e]; dsimp only
  cases hc : (Pos.beq s.c (insHeap m.ins Pos.h Tr.lf fun n _ => n) && s.kills.all (fun p => (s.used.get p).isNone)) with
  | false => exact .inl rfl
  | true =>
    simp only [cond_true]
    rcases extendN_goes no m.news n s (fun n s => killAll s.kills h fun h => putOuts no s.σ m.outs h fun h => renV no s.σ m.v fun v => k v h n) i₂ with e | ⟨n', s₃, l₃, i₃, hn', hc', hk', hold, hnew, e⟩
    · exact .inl e
    rw [e]
    obtain ⟨hk, e, hkg⟩ := killAll_eq s₃.kills h (fun h => putOuts no s₃.σ m.outs h fun h => renV no s₃.σ m.v fun v => k v h n')
    rw [e]
    rcases putOuts_goes no s₃.σ i₃.inj s.kills (fun _ => True) m.outs .lf hk (fun h => renV no s₃.σ m.v fun v => k v h n') with e | ⟨h', e, hfr, hsim⟩
    · exact .inl e
    rw [e]
    rcases renV_goes no s₃.σ m.v (fun v => k v h' n') with e | ⟨v, hv, e⟩
    · exact .inl e
    rw [e]
    exact .inr ⟨v, h', n', rfl, by unfold Pos.Le; omega⟩
theorem memoOf_up (hc : CallUp call) (g : FuncId) (args : List AV) (h : Heap) (n : Pos) :
    ∀ l : List (FuncId × Memo), (∀ v h' n', memoOf call g args h n l = .ret v h' n' → Pos.Le n n') ∧ (∀ c h' n', memoOf call g args h n l = .pan c h' n' → Pos.Le n n')
  | [] => hc g args h n
  | (f, m) :: l => by
    have ih := memoOf_up hc g args h n l
    unfold memoOf
    cases hb : Nat.beq f g with
    | false => exact ih
    | true =>
      simp only [cond_true]
      rcases useMemo_up m none args h n (fun v h n => some (CR.ret v h n)) with e | ⟨v, h', n', e, hl⟩
      · simp only [e]; exact ih
      · simp only [e]
        exact ⟨fun _ _ _ h => by cases h; exact hl, fun _ _ _ h => by cases h⟩
theorem callOf_up {E : Ext} (hc : CallUp call) : CallUp (callOf E call) := by
  intro f args h n
  unfold callOf
  cases h1 : Nat.beq f E.noEsc with
  | true =>
    simp only [cond_true]
    split
    · exact ⟨fun _ _ _ h => by cases h; exact .refl _, fun _ _ _ h => by cases h⟩
    · exact ⟨(fun _ _ _ h => by cases h), (fun _ _ _ h => by cases h)⟩
  | false =>
    simp only [cond_false]
    cases h2 : Nat.beq f E.idxByte with
    | true =>
      simp only [cond_true]
      split
      · rename_i s c
        cases hlt : Nat.blt c 256 with
        | false => exact ⟨(fun _ _ _ h => by cases h), (fun _ _ _ h => by cases h)⟩
        | true =>
          simp only [cond_true]
          split
          · exact ⟨fun _ _ _ h => by cases h; exact .refl _, fun _ _ _ h => by cases h⟩
          · exact ⟨fun _ _ _ h => by cases h; exact .refl _, fun _ _ _ h => by cases h⟩
      · exact ⟨(fun _ _ _ h => by cases h), (fun _ _ _ h => by cases h)⟩
    | false =>
      simp only [cond_false]
      cases h3 : bitAt E.mm f with
      | true => exact memoOf_up hc f args h n E.memo
      | false => exact hc f args h n
theorem CallUp.of_next {call : CallF} (h : ∀ f args h n, call f args h n ≠ .fail → Pos.Le n (call f args h n).next') : CallUp call := by
  intro f args hh n
  have := h f args hh n
  constructor
  · intro v h' n' e; rw [e] at this; exact this (by simp)
  · intro c h' n' e; rw [e] at this; exact this (by simp)
theorem runF_up [Glob] {M Lm : Nat} (hcu : CallUp call) (hru : CallUp round) (hD : DSpec P (runD P call round Lm M)) : CallUp (fun f args h n => runF P call round Lm M f args h n) := by
  refine .of_next fun f args h n hne => ?_
  unfold runF at hne ⊢
  cases hb : bodyOf P M f with
  | none => simp [hb] at hne
  | some x =>
    obtain ⟨fn, c⟩ := x
    simp only [hb] at hne ⊢
    cases hN : Nat.ble args.length fn.ntmps with
    | false => simp [hN] at hne
    | true =>
      simp only [hN, Bool.not_true, cond_false] at hne ⊢
      cases he : exec P call round Lm fn.ntmps false c ⟨argTm args 0 .lf, [], h, n⟩ with
      | fail => simp [he] at hne
      | ok e s =>
        have hup := exec_up hcu hru c _ e s he
        cases e with
        | normal => simp only [he] at hne ⊢; exact hup.trans (leaveF_up hD s.df none s.h s.n hne)
        | ret => simp only [he] at hne ⊢; exact hup.trans (leaveF_up hD s.df none s.h s.n hne)
        | panic ch => simp only [he] at hne ⊢; exact hup.trans (leaveF_up hD s.df (some ch) s.h s.n hne)
        | exit id => simp [he] at hne
theorem runRound_up {Lm : Nat} (hcu : CallUp call) (hru : CallUp round) {l : Pos} {args : List AV} {h : Heap} {n : Pos} (hne : runRound P call round Lm l args h n ≠ .fail) : Pos.Le n (runRound P call round Lm l args h n).next' := by
  unfold runRound at hne ⊢
  split
  · rename_i N tm ps assign body d hg
    simp only [hg] at hne
    cases hb : (Nat.beq ps.length args.length && ps.all (Nat.blt · N) && codeOk P N assign && codeOk P N body) with
    | false => simp [hb] at hne
    | true =>
      simp only [hb, cond_true] at hne ⊢
      cases he : exec P call round Lm N true assign ⟨putArgs ps args tm, [], h, n⟩ with
      | fail => simp [he] at hne
      | ok e s =>
        cases e with
        | exit id => simp [he] at hne
        | ret => simp [he] at hne
        | panic c => simp [he] at hne
        | normal =>
          simp only [he] at hne ⊢
          have up1 := exec_up hcu hru assign _ _ _ he
          split
          · rename_i N' tm' ps' as' bo' d' hg'
            simp only [hg'] at hne
            cases he2 : exec P call round Lm N true body ⟨s.tm, s.df, s.h.put l (some (.loop true N' tm' ps' as' bo' d')), s.n⟩ with
            | fail => simp [he2] at hne
            | ok e2 s2 =>
              obtain ⟨tm2, df2, h2, n2⟩ := s2
              have up2 := exec_up hcu hru body _ _ _ he2
              cases e2 with
              | exit id => simp [he2] at hne
              | ret => simp [he2] at hne
              | panic c => simp [he2] at hne
              | normal =>
                cases df2 with
                | cons x y => simp [he2] at hne
                | nil =>
                  simp only [he2] at hne ⊢
                  split
                  · exact up1.trans up2
                  · rename_i hx
                    split at hne
                    · rename_i hy; exact absurd hy (hx _ _ _ _ _ _)
                    · exact absurd rfl hne
          · rename_i hx
            split at hne
            · rename_i hy; exact absurd hy (hx _ _ _ _ _ _)
            · exact absurd rfl hne
  · rename_i hx
    split at hne
    · rename_i hy; exact absurd hy (hx _ _ _ _ _ _)
    · exact absurd rfl hne
/-! ## The evaluator is right -/
structure Right [Glob] (P : Program) (c r : CallF) : Prop where
  call : CallSpec P c
  round : RoundSpec P r
  up : CallUp c
  rup : CallUp r
theorem callN_right [Glob] {E : Ext} (hE : ExtOk P E) (hP : FnsOk P E.mask) (L : Nat) : ∀ k : Nat, Right P (callN E P L k) (roundN E P L k)
  | 0 => by
    refine ⟨fun f args h n ρ w vs hne => absurd rfl hne, (fun l args h n ρ w vs ll v h' n' hr => by cases hr), fun f args h n => ⟨(fun _ _ _ h => by cases h), (fun _ _ _ h => by cases h)⟩, fun f args h n => ⟨(fun _ _ _ h => by cases h), (fun _ _ _ h => by cases h)⟩⟩
  | k + 1 => by
    have ih := callN_right hE hP L k
    have hc := callOf_spec hE ih.call
    have hcu := callOf_up (E := E) ih.up
    have hD := runD_spec (Lm := L) hP hc ih.round hcu ih.rup
    refine ⟨fun f args h n ρ w vs hne hw ha hf => runF_ok hP hc ih.round hcu ih.rup hD hne hw ha hf, fun l args h n ρ w vs ll v h' n' hr hl hw ha hf => runRound_ok hP hc ih.round hcu ih.rup hr hl hw ha hf, runF_up hcu ih.rup hD, ?_⟩
    refine .of_next fun f args h n hne => ?_
    unfold roundN at hne ⊢
    split at hne
    · exact runRound_up hcu ih.rup hne
    · exact absurd rfl hne
/-- An entry is checked by running it. -/
def checkMemo (E : Ext) (P : Program) (L k : Nat) (g : FuncId) (m : Memo) : Bool :=
  insHeap m.ins .h .lf fun n0 h0 => match callN E P L k g m.args h0 n0 with
    | .ret v1 h1 _ => memoFits m v1 h1
    | _ => false
theorem memo_ok [Glob] {E : Ext} (hE : ExtOk P E) (hP : FnsOk P E.mask) {L k : Nat} {g : FuncId} {m : Memo} (h : checkMemo E P L k g m = true) : MemoOk P g m := by
  unfold checkMemo at h
  rw [insHeap_nat] at h
  split at h
  · rename_i v1 h1 n1 hr
    exact memo_of_run (callN_right hE hP L k).call hr h
  · cases h
end Go.Proofs.YtdkeobkooiaacaaGreatDoor.Ev
namespace Go.Proofs.YtdkeobkooiaacaaGreatDoor.Ev
/-! ## What is asked of the program -/
def fnOk (P : Program) (f : Nat) : Bool :=
  match P.funcs[f]? with
  | some fn => (match fn.body with
    | some c => codeOk P fn.ntmps c && !(fn.name == "runtime.NumGoroutine")
    | none => true)
  | none => true
def fnsAll (P : Program) : List Nat → Bool
  | [] => true
  | f :: l => bif fnOk P f then fnsAll P l else false
theorem fnsAll_mem {P : Program} : ∀ {l : List Nat}, fnsAll P l = true → ∀ f ∈ l, fnOk P f = true
  | [], _, f, hf => by simp at hf
  | x :: l, h, f, hf => by
    unfold fnsAll at h
    cases hx : fnOk P x with
    | false => simp [hx] at h
    | true =>
      simp only [hx, cond_true] at h
      rcases List.mem_cons.1 hf with e | e
      · rw [e]; exact hx
      · exact fnsAll_mem h f e
/-- The numbers below N whose bit is set. -/
def bitsOf (M : Nat) : Nat → List Nat → List Nat
  | 0, l => l
  | n + 1, l => bitsOf M n (bif bitAt M n then n :: l else l)
theorem bitsOf_mem {M : Nat} : ∀ (n : Nat) (l : List Nat) (f : Nat), (f ∈ l ∨ (f < n ∧ bitAt M f = true)) → f ∈ bitsOf M n l
  | 0, l, f, h => by
    rcases h with h | ⟨h, _⟩
    · exact h
    · omega
  | n + 1, l, f, h => by
    unfold bitsOf
    refine bitsOf_mem n _ f ?_
    rcases h with h | ⟨h1, h2⟩
    · left; cases bitAt M n <;> simp [h]
    · by_cases e : f = n
      · subst e; left; simp [h2]
      · exact .inr ⟨by omega, h2⟩
theorem fns_ok {P : Program} {M N : Nat} {l : List Nat} (hM : Nat.ble (2 ^ N) M = false) (hl : bitsOf M N [] = l) (h : fnsAll P l = true) (hm : P.follows .mixedOrders = true) : FnsOk P M := by
  refine ⟨fun f fn c hb => ?_, hm⟩
  have hM' : M < 2 ^ N := by
    rcases Nat.lt_or_ge M (2 ^ N) with h1 | h1
    · exact h1
    · rw [Nat.ble_eq_true_of_le h1] at hM; cases hM
  have hbit : bitAt M f = true := by
    unfold bodyOf at hb
    rcases bif_and hb with ⟨h1, _⟩ | ⟨_, h1⟩
    · exact h1
    · cases h1
  have hlt : f < N := by
    rcases Nat.lt_or_ge f N with h1 | h1
    · exact h1
    · unfold bitAt at hbit
      have h2 : Nat.shiftRight M f = 0 := by
        show M >>> f = 0
        rw [Nat.shiftRight_eq_div_pow]
        exact Nat.div_eq_of_lt (Nat.lt_of_lt_of_le hM' (Nat.pow_le_pow_right (by omega) h1))
      rw [h2] at hbit
      simp at hbit
  have hmem : f ∈ l := by rw [← hl]; exact bitsOf_mem N [] f (.inr ⟨hlt, hbit⟩)
  have hok := fnsAll_mem h f hmem
  obtain ⟨h1, h2⟩ := bodyOf_spec hb
  unfold fnOk at hok
  rw [h1] at hok
  simp only [h2, Bool.and_eq_true, Bool.not_eq_true'] at hok
  exact ⟨hok.1, hok.2⟩
theorem memos_nil [Glob] {P : Program} : ∀ p ∈ ([] : List (FuncId × Memo)), MemoOk P p.1 p.2 := fun p hp => by simp at hp
theorem memos_cons [Glob] {P : Program} {g : FuncId} {m : Memo} {l : List (FuncId × Memo)} (h : MemoOk P g m) (hl : ∀ p ∈ l, MemoOk P p.1 p.2) : ∀ p ∈ (g, m) :: l, MemoOk P p.1 p.2 := fun p hp => by
  rcases List.mem_cons.1 hp with e | e
  · rw [e]; exact h
  · exact hl p e
end Go.Proofs.YtdkeobkooiaacaaGreatDoor.Ev
namespace Go.Proofs.YtdkeobkooiaacaaGreatDoor.Ev
/-! ## The functions that a function leads to, gone through with a mask -/
def leads (P : Program) (f : Nat) : List Nat := (P.funcs[f]?).elim [] P.leadsTo
def cloM (P : Program) : Nat → List Nat → Nat → List Nat → Option (List Nat)
  | _, [], _, seen => some seen.reverse
  | 0, _ :: _, _, _ => none
  | n + 1, f :: todo, m, seen => bif Nat.testBit m f then cloM P n todo m seen else cloM P n (leads P f ++ todo) (Nat.lor m (2 ^ f)) (f :: seen)
/-- What is left to be looked at, among the first N functions. -/
def leftOf (P : Program) (seen : List Nat) : Nat → Nat
  | 0 => 0
  | n + 1 => leftOf P seen n + (if seen.contains n then 0 else (leads P n).length)
theorem leftOf_other {P : Program} {f : Nat} {seen : List Nat} : ∀ n : Nat, n ≤ f → leftOf P (f :: seen) n = leftOf P seen n
  | 0, _ => rfl
  | n + 1, h => by
    simp only [leftOf]
    rw [leftOf_other n (by omega)]
    have : (f :: seen).contains n = seen.contains n := by
      simp only [List.contains_cons]
      have : (n == f) = false := by simp; omega
      rw [this, Bool.false_or]
    rw [this]
theorem leftOf_step {P : Program} {f : Nat} {seen : List Nat} (hs : seen.contains f = false) : ∀ n : Nat, f < n → leftOf P seen n = (leads P f).length + leftOf P (f :: seen) n
  | 0, h => by omega
  | n + 1, h => by
    simp only [leftOf]
    by_cases e : n = f
    · subst e
      rw [leftOf_other n (Nat.le_refl n), hs]
      simp
      omega
    · have : (f :: seen).contains n = seen.contains n := by
        simp only [List.contains_cons]
        have : (n == f) = false := by simpa using e
        rw [this, Bool.false_or]
      rw [this, leftOf_step hs n (by omega)]
      omega
theorem leads_big {P : Program} {f : Nat} (h : P.funcs.size ≤ f) : leads P f = [] := by
  unfold leads
  rw [Array.getElem?_eq_none h]
  rfl
theorem clo_via {P : Program} : ∀ (n : Nat) (todo : List Nat) (m : Nat) (seen : List Nat) (L : List Nat) (k : Nat), (∀ g, Nat.testBit m g = seen.contains g) → cloM P n todo m seen = some L → todo.length + leftOf P seen P.funcs.size ≤ k → P.closureVia k todo seen = L
  | n, [], m, seen, L, k, _, h, _ => by
    have : seen.reverse = L := by cases n <;> simpa [cloM] using h
    cases k <;> simpa [Program.closureVia] using this
  | 0, f :: todo, m, seen, L, k, _, h, _ => by simp [cloM] at h
  | n + 1, f :: todo, m, seen, L, k, hm, h, hk => by
    obtain ⟨k', rfl⟩ : ∃ k', k = k' + 1 := ⟨k - 1, by simp at hk; omega⟩
    simp only [List.length_cons] at hk
    unfold Program.closureVia
    unfold cloM at h
    cases hs : seen.contains f with
    | true =>
      rw [hm f, hs] at h
      simp only [cond_true] at h
      rw [if_pos rfl]
      exact clo_via n todo m seen L k' hm h (by omega)
    | false =>
      rw [hm f, hs] at h
      simp only [cond_false] at h
      rw [if_neg (by simp)]
      refine clo_via n (leads P f ++ todo) (Nat.lor m (2 ^ f)) (f :: seen) L k' (fun g => ?_) h ?_
      · rw [show Nat.lor m (2 ^ f) = m ||| 2 ^ f from rfl, Nat.testBit_or, hm g, Nat.testBit_two_pow, List.contains_cons, Bool.or_comm]
        congr 1
        by_cases e : f = g
        · subst e; simp
        · have : ¬ g = f := fun x => e x.symm
          simp [e, this]
      · rw [List.length_append]
        by_cases hf : f < P.funcs.size
        · have := leftOf_step (P := P) hs P.funcs.size hf
          omega
        · have h1 := leads_big (P := P) (f := f) (by omega)
          have h2 := leftOf_other (P := P) (f := f) (seen := seen) P.funcs.size (by omega)
          rw [h1, h2]
          simp only [List.length_nil]
          omega
theorem leftOf_list {P : Program} : ∀ n : Nat, n ≤ P.funcs.size → leftOf P [] n = ((P.funcs.toList.take n).map fun g => (P.leadsTo g).length).sum
  | 0, _ => by simp [leftOf]
  | n + 1, h => by
    simp only [leftOf]
    rw [leftOf_list n (by omega)]
    have hn : n < P.funcs.toList.length := by rw [Array.length_toList]; omega
    rw [List.take_add_one, List.map_append, List.sum_append, List.getElem?_eq_getElem hn]
    have : leads P n = P.leadsTo P.funcs.toList[n] := by
      unfold leads
      rw [← Array.getElem?_toList, List.getElem?_eq_getElem hn]
      rfl
    rw [this]
    simp
theorem sum_le {α : Type} (f : α → Nat) : ∀ l : List α, (l.map f).sum ≤ (l.map fun x => f x + 1).sum
  | [] => Nat.le_refl _
  | x :: l => by simp only [List.map_cons, List.sum_cons]; have := sum_le f l; omega
theorem closure_of {P : Program} {f : Nat} {n : Nat} {L : List Nat} (h : cloM P n [f] 0 [] = some L) : P.closure f = L := by
  unfold Program.closure
  refine clo_via n [f] 0 [] L _ (fun g => by simp) h ?_
  rw [leftOf_list _ (Nat.le_refl _)]
  have := sum_le (fun g => (P.leadsTo g).length) P.funcs.toList
  rw [List.take_of_length_le (by simp)]
  simp only [List.length_cons, List.length_nil]
  omega
end Go.Proofs.YtdkeobkooiaacaaGreatDoor.Ev
