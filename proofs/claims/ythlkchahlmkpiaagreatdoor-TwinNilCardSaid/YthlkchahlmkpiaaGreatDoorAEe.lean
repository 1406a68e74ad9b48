/-
  The evaluator is sound: regions whose order is drawn; a step; any number of steps.
-/
import Derived.Test.YthlkchahlmkpiaaGreatDoorAEd
/-
  The evaluator is sound, eleventh part: the plan of a region whose order is drawn.
-/
namespace Go.AE

def Cl.isEff : Cl → Bool
  | .eff => true
  | _ => false

def sub (a b : Nat) : Prop := ∀ i, Nat.testBit a i = true → Nat.testBit b i = true
theorem sub_of {a b : Nat} (h : Nat.beq (Nat.land a b) a = true) : sub a b := by
  intro i hi
  simp only [Nat.beq_eq] at h
  have : (a &&& b).testBit i = true := by
    show (Nat.land a b).testBit i = true
    rw [h]; exact hi
  rw [Nat.testBit_and, Bool.and_eq_true] at this
  exact this.2
theorem bit_or {a i j : Nat} : Nat.testBit (Nat.lor a (2 ^ i)) j = true ↔ Nat.testBit a j = true ∨ i = j := by
  show Nat.testBit (a ||| 2 ^ i) j = true ↔ _
  rw [Nat.testBit_or, Bool.or_eq_true, Nat.testBit_two_pow, decide_eq_true_eq]

section
variable (P : Program) (rec : Task → Outs) (x : Cx) (ops : Array Oper)

/-- The state where an operation's value goes into its slot. -/
inductive PStep (c : PCx) (p : PI) : PCx → Prop where
  | skipN (s : S) : wantedB ops c.s.T p.o = some false → p.cl.isEff = false → putS x c.s p.o.dst (.tup []) = some s → PStep c p (c.non p s)
  | skipE (s : S) : wantedB ops c.s.T p.o = some false → p.cl.isEff = true → sub c.done p.mask → putS x c.s p.o.dst (.tup []) = some s → PStep c p (c.eff p s)
  | val (v : AV) (s : S) : wantedB ops c.s.T p.o = some true → p.cl.isEff = false → nonEff P x.base c p = some (.val v) → putS x c.s p.o.dst v = some s → PStep c p (c.non p s)
  | new (l : List (Nat × Option AObj)) (v : AV) (s : S) : wantedB ops c.s.T p.o = some true → p.cl.isEff = false → nonEff P x.base c p = some (.wr l true v) → raw c.s.top x.base c.s.c = none →
      putS x { c.s with top := applyW l c.s.top, c := c.s.c + 1, hi := max c.s.hi (c.s.c + 1) } p.o.dst v = some s → PStep c p (c.non p s)
  | eff (r : OR) (s : S) : wantedB ops c.s.T p.o = some true → p.cl.isEff = true → sub c.done p.mask → aop P (look c.s.top x.base) c.s.T c.s.c p.o = some r →
      execR rec x p.o r c.s (fun s => some [⟨.normal, s⟩]) = some [⟨.normal, s⟩] → PStep c p (c.eff p s)

theorem pstep_go {c c1 : PCx} {p : PI} (h : pstep P rec x ops c p = .go c1) : sub p.mask c.done ∧ Nat.testBit c.done p.i = false ∧ PStep P rec x ops c p c1 := by
  unfold pstep at h
  split at h
  · cases h
  · rename_i hok
    simp only [Bool.and_eq_true, Bool.not_eq_true'] at hok
    refine ⟨sub_of hok.1, hok.2, ?_⟩
    split at h
    · cases h
    · rename_i hw hcl
      split at h
      · rename_i s hs hd
        cases h
        exact .skipE s hw (by rw [hcl]; rfl) (sub_of hd) hs
      · cases h
    · rename_i hw hcl
      split at h
      · rename_i s hs
        cases h
        refine .skipN s hw ?_ hs
        cases hp : p.cl <;> first | rfl | exact absurd hp hcl
      · cases h
    · rename_i hw hcl
      split at h
      · rename_i r hd hr
        split at h
        · rename_i s hs
          cases h
          exact .eff r s hw (by rw [hcl]; rfl) (sub_of hd) hr hs
        · cases h
        · cases h
      · cases h
    · rename_i hw hcl
      have hne : p.cl.isEff = false := by cases hp : p.cl <;> first | rfl | exact absurd hp hcl
      split at h
      · rename_i v hv
        split at h
        · rename_i s hs
          cases h
          exact .val v s hw hne hv hs
        · cases h
      · rename_i l v hv
        split at h
        · cases h
        · rename_i hf
          split at h
          · rename_i s hs
            cases h
            exact .new l v s hw hne hv (isFree_raw hf) hs
          · cases h
      · cases h

theorem pstep_stop {c : PCx} {p : PI} {ch : List APan} {s : S} (h : pstep P rec x ops c p = .stop ch s) : sub p.mask c.done ∧ Nat.testBit c.done p.i = false ∧ sub c.done p.mask ∧ p.cl.isEff = true ∧ wantedB ops c.s.T p.o = some true ∧
    ∃ r, aop P (look c.s.top x.base) c.s.T c.s.c p.o = some r ∧ execR rec x p.o r c.s (fun s => some [⟨.normal, s⟩]) = some [⟨.panic ch, s⟩] := by
  unfold pstep at h
  split at h
  · cases h
  · rename_i hok
    simp only [Bool.and_eq_true, Bool.not_eq_true'] at hok
    refine ⟨sub_of hok.1, hok.2, ?_⟩
    split at h
    · cases h
    · split at h <;> cases h
    · split at h <;> cases h
    · rename_i hw hcl
      split at h
      · rename_i r hd hr
        split at h
        · cases h
        · rename_i ch s hs
          cases h
          exact ⟨sub_of hd, by rw [hcl]; rfl, hw, r, hr, hs⟩
        · cases h
      · cases h
    · split at h
      · split at h <;> cases h
      · split at h
        · cases h
        · split at h <;> cases h
      · cases h

/-- Some of the plan's operations, one behind the other. -/
def runC : PCx → List PI → Option PCx
  | c, [] => some c
  | c, p :: l => match pstep P rec x ops c p with
    | .go c1 => runC c1 l
    | _ => none

variable {P rec x ops}
theorem PStep.done {c c1 : PCx} {p : PI} (h : PStep P rec x ops c p c1) : c1.done = Nat.lor c.done (2 ^ p.i) := by cases h <;> rfl
theorem runC_cons {c c2 : PCx} {p : PI} {l : List PI} (h : runC P rec x ops c (p :: l) = some c2) : ∃ c1, pstep P rec x ops c p = .go c1 ∧ runC P rec x ops c1 l = some c2 := by
  simp only [runC] at h
  split at h
  · rename_i c1 h1
    exact ⟨c1, h1, h⟩
  · cases h
theorem runC_split : ∀ {l m : List PI} {a c : PCx}, runC P rec x ops a (l ++ m) = some c → ∃ b, runC P rec x ops a l = some b ∧ runC P rec x ops b m = some c
  | [], m, a, c, h => ⟨a, rfl, h⟩
  | p :: l, m, a, c, h => by
    obtain ⟨c1, h1, h2⟩ := runC_cons h
    obtain ⟨b, k1, k2⟩ := runC_split h2
    exact ⟨b, by simp only [runC, h1]; exact k1, k2⟩
theorem runC_append : ∀ {l m : List PI} {a b c : PCx}, runC P rec x ops a l = some b → runC P rec x ops b m = some c → runC P rec x ops a (l ++ m) = some c
  | [], m, a, b, c, h, k => by simp only [runC, Option.some.injEq] at h; subst h; exact k
  | p :: l, m, a, b, c, h, k => by
    obtain ⟨c1, h1, h2⟩ := runC_cons h
    simp only [List.cons_append, runC, h1]
    exact runC_append h2 k
theorem runC_done : ∀ {l : List PI} {a b : PCx}, runC P rec x ops a l = some b → ∀ i, Nat.testBit b.done i = true ↔ Nat.testBit a.done i = true ∨ ∃ p ∈ l, p.i = i
  | [], a, b, h, i => by simp only [runC, Option.some.injEq] at h; subst h; simp
  | p :: l, a, b, h, i => by
    obtain ⟨c1, h1, h2⟩ := runC_cons h
    obtain ⟨_, _, h3⟩ := pstep_go P rec x ops h1
    rw [runC_done h2 i, h3.done, bit_or]
    simp only [List.mem_cons, exists_eq_or_imp]
    constructor
    · rintro ((h | h) | h)
      · exact .inl h
      · exact .inr (.inl h)
      · exact .inr (.inr h)
    · rintro (h | h | h)
      · exact .inl (.inl h)
      · exact .inl (.inr h)
      · exact .inr h
/-- None of them had been done. -/
theorem runC_fresh : ∀ {l : List PI} {a b : PCx}, runC P rec x ops a l = some b → ∀ p ∈ l, Nat.testBit a.done p.i = false
  | [], _, _, _, p, hp => by simp at hp
  | p :: l, a, b, h, q, hq => by
    obtain ⟨c1, h1, h2⟩ := runC_cons h
    obtain ⟨_, hf, h3⟩ := pstep_go P rec x ops h1
    rcases List.mem_cons.1 hq with rfl | hq
    · exact hf
    · have := runC_fresh h2 q hq
      rw [h3.done] at this
      rw [Bool.eq_false_iff] at this ⊢
      exact fun e => this (bit_or.2 (.inl e))
/-- Each comes behind what it hangs on. -/
theorem runC_mask {l m : List PI} {p : PI} {a c : PCx} (h : runC P rec x ops a (l ++ p :: m) = some c) : ∃ b c1, runC P rec x ops a l = some b ∧ pstep P rec x ops b p = .go c1 ∧ runC P rec x ops c1 m = some c ∧ sub p.mask b.done ∧ Nat.testBit b.done p.i = false ∧ PStep P rec x ops b p c1 := by
  obtain ⟨b, h1, h2⟩ := runC_split h
  obtain ⟨c1, h3, h4⟩ := runC_cons h2
  obtain ⟨k1, k2, k3⟩ := pstep_go P rec x ops h3
  exact ⟨b, c1, h1, h3, h4, k1, k2, k3⟩
theorem putS_some {s s' : S} {dst : Option Tmp} {v : AV} (h : putS x s dst v = some s') : (dst = none ∧ s' = s) ∨ ∃ d, dst = some d ∧ d < x.ntm ∧ s' = { s with T := setT s.T d v } := by
  unfold putS at h
  split at h
  · simp only [Option.some.injEq] at h; exact .inl ⟨rfl, h.symm⟩
  · rename_i d
    split at h
    · cases h
    · rename_i hd
      simp only [Option.some.injEq] at h
      exact .inr ⟨d, rfl, by simpa using hd, h.symm⟩
theorem putD_unit {s : S} {dst : Option Tmp} {v : AV} {q : Out} (h : putD x s dst v (fun s => some [⟨.normal, s⟩]) = some [q]) : putS x s dst v = some q.s ∧ q.e = .normal := by
  unfold putD at h
  split at h
  · simp only [Option.some.injEq, List.cons.injEq, and_true] at h; subst h; exact ⟨rfl, rfl⟩
  · rename_i d
    split at h
    · cases h
    · rename_i hd
      simp only [Option.some.injEq, List.cons.injEq, and_true] at h; subst h
      simp only [putS, hd]
      exact ⟨trivial, trivial⟩
end
end Go.AE
/-
  The evaluator is sound, twelfth part: what holds along the plan of a drawn region.
-/
namespace Go.AE
section
variable {P : Program} {rec : Task → Outs} {x : Cx} {ops : Array Oper}

theorem put_T {s s1 : S} {o : Oper} {v : AV} {outs : List Out} (hT : s1.T = s.T) (h : putD x s1 o.dst v (fun s => some [⟨.normal, s⟩]) = some outs) : ∀ q ∈ outs, ∀ t, o.dst ≠ some t → getT q.s.T t = getT s.T t := by
  unfold putD at h
  split at h
  · simp only [Option.some.injEq] at h
    subst h
    intro q hq t _
    rw [List.mem_singleton.1 hq, ← hT]
  · rename_i d hd
    split at h
    · cases h
    · simp only [Option.some.injEq] at h
      subst h
      intro q hq t ht
      rw [List.mem_singleton.1 hq]
      show getT (setT s1.T d v) t = _
      rw [getT_setT, if_neg, hT]
      rintro rfl
      exact ht hd
theorem bind_T {s : S} {o : Oper} {l outs : List Out} {f : Out → Outs} (hb : bindO f l = some outs) (hf : ∀ out a, f out = some a → ∀ q ∈ a, q.e = .normal → ∀ t, o.dst ≠ some t → getT q.s.T t = getT s.T t) :
    ∀ q ∈ outs, q.e = .normal → ∀ t, o.dst ≠ some t → getT q.s.T t = getT s.T t := by
  intro q hq
  obtain ⟨_, h2⟩ := bindO_some hb
  obtain ⟨out, _, a, ha, hqa⟩ := h2 q hq
  exact hf out a ha q hqa
theorem alts_T {s : S} {o : Oper} : ∀ {l : List (List (Nat × Option AObj) × AV × Option Nat)} {outs : List Out}, altsO x o s (fun s => some [⟨.normal, s⟩]) l = some outs → ∀ q ∈ outs, ∀ t, o.dst ≠ some t → getT q.s.T t = getT s.T t
  | [], _, h => by simp [altsO] at h
  | (w, v, nc) :: rest, outs, h => by
    simp only [altsO] at h
    split at h
    · cases h
    · rename_i a ha
      have here : ∀ q ∈ a, ∀ t, o.dst ≠ some t → getT q.s.T t = getT s.T t := by
        split at ha
        · exact put_T (s := s) (s1 := { s with top := applyW w s.top }) rfl ha
        · rename_i c
          exact put_T (s := s) (s1 := { s with c := c, top := applyW w s.top }) rfl ha
      split at h
      · simp only [Option.some.injEq] at h; subst h; exact here
      · split at h
        · cases h
        · rename_i b hb
          simp only [Option.some.injEq] at h
          subst h
          intro q hq
          rcases List.mem_append.1 hq with hq | hq
          · exact here q hq
          · exact alts_T hb q hq
theorem exec_T {s : S} {o : Oper} {r : OR} {outs : List Out} (h : execR rec x o r s (fun s => some [⟨.normal, s⟩]) = some outs) : ∀ q ∈ outs, q.e = .normal → ∀ t, o.dst ≠ some t → getT q.s.T t = getT s.T t := by
  cases r with
  | val v => exact fun q hq _ => put_T rfl h q hq
  | wr l nw v =>
    simp only [execR, doW] at h
    split at h
    · exact fun q hq _ => put_T (s := s) (s1 := { s with top := applyW l s.top }) rfl h q hq
    · split at h
      · cases h
      · exact fun q hq _ => put_T (s := s) (s1 := { s with top := applyW l s.top, c := s.c + 1, hi := max s.hi (s.c + 1) }) rfl h q hq
  | alts l => exact fun q hq _ => alts_T h q hq
  | setc v c => exact fun q hq _ => put_T (s := s) (s1 := { s with c }) rfl h q hq
  | enter f args =>
    obtain ⟨l, hl, hb⟩ := bindS_some h
    refine bind_T hb fun out a ha => ?_
    split at ha
    · exact fun q hq _ => put_T (s := s) (s1 := behind s out.s) rfl ha q hq
    · simp only [Option.some.injEq] at ha
      subst ha
      intro q hq he
      rw [List.mem_singleton.1 hq] at he
      cases he
    · cases ha
  | round f args =>
    obtain ⟨l, hl, hb⟩ := bindS_some h
    refine bind_T hb fun out a ha => ?_
    split at ha
    · exact fun q hq _ => put_T (s := s) (s1 := behind s out.s) rfl ha q hq
    · simp only [Option.some.injEq] at ha
      subst ha
      intro q hq he
      rw [List.mem_singleton.1 hq] at he
      cases he
    · cases ha
  | defer d =>
    simp only [execR] at h
    split at h
    · cases h
    · exact fun q hq _ => put_T (s := s) (s1 := { s with ds := d :: s.ds }) rfl h q hq
  | recov =>
    simp only [execR] at h
    split at h
    · cases h
    · split at h
      · rename_i v older _
        exact fun q hq _ => put_T (s := s) (s1 := { s with rc := some (⟨v, true⟩ :: older) }) rfl h q hq
      · exact fun q hq _ => put_T rfl h q hq
  | panic v =>
    simp only [execR, Option.some.injEq] at h
    subst h
    intro q hq he
    rw [List.mem_singleton.1 hq] at he
    cases he

theorem putS_T {s s' : S} {dst : Option Tmp} {v : AV} (h : putS x s dst v = some s') : ∀ t, dst ≠ some t → getT s'.T t = getT s.T t := by
  rcases putS_some h with ⟨_, rfl⟩ | ⟨d, rfl, _, rfl⟩
  · intro t _; rfl
  · intro t ht
    show getT (setT s.T d v) t = _
    rw [getT_setT, if_neg]
    rintro rfl
    exact ht rfl
theorem PStep.T {c c1 : PCx} {p : PI} (h : PStep P rec x ops c p c1) : ∀ t, p.o.dst ≠ some t → getT c1.s.T t = getT c.s.T t := by
  cases h with
  | skipN s _ _ h => exact putS_T h
  | skipE s _ _ _ h => exact fun t ht => putS_T h t ht
  | val v s _ _ _ h => exact putS_T h
  | new l v s _ _ _ _ h => exact fun t ht => putS_T h t ht
  | eff r s _ _ _ _ h => exact exec_T h _ (List.mem_singleton.2 rfl) rfl
theorem runC_T : ∀ {l : List PI} {a b : PCx}, runC P rec x ops a l = some b → ∀ t, (∀ p ∈ l, p.o.dst ≠ some t) → getT b.s.T t = getT a.s.T t
  | [], a, b, h, t, _ => by simp only [runC, Option.some.injEq] at h; subst h; rfl
  | p :: l, a, b, h, t, k => by
    obtain ⟨c1, h1, h2⟩ := runC_cons h
    obtain ⟨_, _, h3⟩ := pstep_go P rec x ops h1
    rw [runC_T h2 t fun q hq => k q (List.mem_cons_of_mem _ hq), h3.T t (k p (List.mem_cons_self ..))]
theorem runC_mo (hg : Good rec) : ∀ {l : List PI} {a b : PCx}, runC P rec x ops a l = some b → Mo x.base a.s.top b.s.top
  | [], a, b, h => by simp only [runC, Option.some.injEq] at h; subst h; exact Mo.refl _ _
  | p :: l, a, b, h => by
    obtain ⟨c1, h1, h2⟩ := runC_cons h
    exact ((good_pstep hg).1 _ h1).trans (runC_mo hg h2)

theorem PStep.cur {c c1 : PCx} {p : PI} (h : PStep P rec x ops c p c1) (hn : p.cl.isEff = false) : c1.cur = c.cur ∧ c1.olds = c.olds ∧ c1.s.ds = c.s.ds ∧ c1.s.rc = c.s.rc := by
  have key : ∀ {s0 s : S} {v : AV}, putS x s0 p.o.dst v = some s → s.ds = s0.ds ∧ s.rc = s0.rc := by
    intro s0 s v h
    rcases putS_some h with ⟨_, rfl⟩ | ⟨d, _, _, rfl⟩ <;> exact ⟨rfl, rfl⟩
  cases h with
  | skipN s _ _ h => exact ⟨rfl, rfl, (key h).1, (key h).2⟩
  | skipE s _ he _ h => rw [hn] at he; cases he
  | val v s _ _ _ h => exact ⟨rfl, rfl, (key h).1, (key h).2⟩
  | new l v s _ _ _ _ h => exact ⟨rfl, rfl, (key h).1, (key h).2⟩
  | eff r s _ he _ _ h => rw [hn] at he; cases he
theorem PStep.olds {c c1 : PCx} {p : PI} (h : PStep P rec x ops c p c1) : (∀ q ∈ c.olds, q ∈ c1.olds) ∧ (p.cl.isEff = true → (p.i, c.cur) ∈ c1.olds) := by
  cases h with
  | skipN s _ hn h => exact ⟨fun q hq => hq, fun e => by rw [hn] at e; cases e⟩
  | skipE s _ he _ h => exact ⟨fun q hq => List.mem_cons_of_mem _ hq, fun _ => List.mem_cons_self ..⟩
  | val v s _ hn _ h => exact ⟨fun q hq => hq, fun e => by rw [hn] at e; cases e⟩
  | new l v s _ hn _ _ h => exact ⟨fun q hq => hq, fun e => by rw [hn] at e; cases e⟩
  | eff r s _ he _ _ h => exact ⟨fun q hq => List.mem_cons_of_mem _ hq, fun _ => List.mem_cons_self ..⟩
theorem runC_olds : ∀ {l : List PI} {a b : PCx}, runC P rec x ops a l = some b → ∀ q ∈ a.olds, q ∈ b.olds
  | [], a, b, h => by simp only [runC, Option.some.injEq] at h; subst h; exact fun q hq => hq
  | p :: l, a, b, h => by
    obtain ⟨c1, h1, h2⟩ := runC_cons h
    obtain ⟨_, _, h3⟩ := pstep_go P rec x ops h1
    exact fun q hq => runC_olds h2 q (h3.olds.1 q hq)
theorem runC_non : ∀ {l : List PI} {a b : PCx}, runC P rec x ops a l = some b → (∀ p ∈ l, p.cl.isEff = false) → b.cur = a.cur ∧ b.olds = a.olds ∧ b.s.ds = a.s.ds ∧ b.s.rc = a.s.rc
  | [], a, b, h, _ => by simp only [runC, Option.some.injEq] at h; subst h; exact ⟨rfl, rfl, rfl, rfl⟩
  | p :: l, a, b, h, k => by
    obtain ⟨c1, h1, h2⟩ := runC_cons h
    obtain ⟨_, _, h3⟩ := pstep_go P rec x ops h1
    obtain ⟨e1, e2, e3, e4⟩ := h3.cur (k p (List.mem_cons_self ..))
    obtain ⟨f1, f2, f3, f4⟩ := runC_non h2 fun q hq => k q (List.mem_cons_of_mem _ hq)
    exact ⟨f1.trans e1, f2.trans e2, f3.trans e3, f4.trans e4⟩
/-- Memory at the outset is looked at again: as it is now, or as it was ahead of an effect. -/
theorem runC_snap : ∀ {l : List PI} {a b : PCx}, runC P rec x ops a l = some b → b.cur = a.cur ∨ ∃ e ∈ l, e.cl.isEff = true ∧ (e.i, a.cur) ∈ b.olds
  | [], a, b, h => by simp only [runC, Option.some.injEq] at h; subst h; exact .inl rfl
  | p :: l, a, b, h => by
    obtain ⟨c1, h1, h2⟩ := runC_cons h
    obtain ⟨_, _, h3⟩ := pstep_go P rec x ops h1
    cases hp : p.cl.isEff with
    | true => exact .inr ⟨p, List.mem_cons_self .., hp, runC_olds h2 _ (h3.olds.2 hp)⟩
    | false =>
      obtain ⟨e1, _⟩ := h3.cur hp
      rcases runC_snap h2 with h | ⟨e, he, h⟩
      · exact .inl (h.trans e1)
      · rw [e1] at h
        exact .inr ⟨e, List.mem_cons_of_mem _ he, h⟩

theorem readOlds_some {base : List Lay} {T : Tm} {o : Oper} {v : AV} {mask : Nat} : ∀ {l : List (Nat × Lay)}, readOlds P base T o v mask l = true → ∀ e t, (e, t) ∈ l → Nat.testBit mask e = false → aop P (look t base) T 0 o = some (.val v)
  | [], _, e, t, h, _ => by simp at h
  | (e', t') :: l, h, e, t, hm, hb => by
    simp only [readOlds] at h
    split at h
    · rename_i hb'
      rcases List.mem_cons.1 hm with hm | hm
      · cases hm; rw [hb'] at hb; cases hb
      · exact readOlds_some h e t hm hb
    · split at h
      · rename_i w hw
        split at h
        · rename_i hvw
          have hv := AV.beq_eq hvw
          subst hv
          rcases List.mem_cons.1 hm with hm | hm
          · cases hm
            unfold aopOf at hw
            simp only at hw
            split at hw
            · rename_i u hu
              simp only [Option.some.injEq, OR.val.injEq] at hw
              subst hw
              exact hu
            · cases hw
          · exact readOlds_some h e t hm hb
        · cases h
      · cases h

/-- What an operation without effect gives, at an earlier time. -/
theorem nonEff_at {l : List PI} {a c : PCx} {p : PI} {r : OR} (hrun : runC P rec x ops a l = some c) (h : nonEff P x.base c p = some r) (he : ∀ e ∈ l, e.cl.isEff = true → Nat.testBit p.mask e.i = false) :
    (∃ v, r = .val v ∧ (aop P (fun _ => none) c.s.T 0 p.o = some (.val v) ∨ aop P (look a.cur x.base) c.s.T 0 p.o = some (.val v))) ∨
    (∃ b v, r = .wr [(c.s.c, some b)] true v ∧ aop P (fun _ => none) c.s.T c.s.c p.o = some (.wr [(c.s.c, some b)] true v)) := by
  unfold nonEff at h
  split at h
  · simp only [aopOf] at h
    split at h
    · rename_i v hv
      simp only [Option.some.injEq] at h
      exact .inl ⟨v, h.symm, .inl hv⟩
    · cases h
  · split at h
    · rename_i v hv
      split at h
      · rename_i hro
        simp only [Option.some.injEq] at h
        refine .inl ⟨v, h.symm, .inr ?_⟩
        rcases runC_snap hrun with hc | ⟨e, hel, hee, hold⟩
        · rw [← hc]
          simp only [aopOf] at hv
          split at hv
          · rename_i u hu
            simp only [Option.some.injEq, OR.val.injEq] at hv
            subst hv
            exact hu
          · cases hv
        · exact readOlds_some hro _ _ hold (he e hel hee)
      · cases h
    · cases h
  · simp only [aopOf] at h
    split at h
    · rename_i c' b v hv
      split at h
      · rename_i hcc
        simp only [Nat.beq_eq] at hcc
        subst hcc
        simp only [Option.some.injEq] at h
        exact .inr ⟨b, v, h.symm, hv⟩
      · cases h
    · cases h
  · cases h

/-- What the plan leans on. -/
structure Stat (ops : Array Oper) (mk : Nat → Nat) : Prop where
  slot : ∀ i j oi oj d, ops[i]? = some oi → ops[j]? = some oj → oi.dst = some d → i ≠ j → oj.dst ≠ some d ∧ (Nat.testBit (mk j) i = true ∨ Nat.testBit (mk i) j = true ∨ looks oj i d = false)
  after : ∀ i o e, ops[i]? = some o → e ∈ o.after → Region.binds .any e = true → Nat.testBit (mk i) e.on = true
  mask : ∀ i o j, ops[i]? = some o → j < ops.size → Nat.testBit (mk i) j = true → ∃ e ∈ o.after, Region.binds .any e = true ∧ (e.on = j ∨ Nat.testBit (mk e.on) j = true)

theorem stat_of {b : Array Nat} (h1 : slotsOK ops b = true) (h2 : masksOK ops b = true) : Stat ops fun i => b.getD i 0 := by
  have lt : ∀ {i : Nat} {o : Oper}, ops[i]? = some o → i < ops.size := fun h => (Array.getElem?_eq_some_iff.1 h).1
  simp only [slotsOK, List.all_eq_true, List.mem_range] at h1
  simp only [masksOK, List.all_eq_true, List.mem_range] at h2
  refine ⟨fun i j oi oj d hi hj hd hne => ?_, fun i o e hi he hb => ?_, fun i o j hi hj hb => ?_⟩
  · have := h1 i (lt hi)
    simp only [hi, hd, List.all_eq_true, List.mem_range] at this
    have := this j (lt hj)
    simp only [hj, Bool.or_eq_true, Bool.and_eq_true, Bool.not_eq_true', Nat.beq_eq] at this
    rcases this with h | ⟨h3, h4⟩
    · exact absurd h hne
    · refine ⟨by simpa using h3, ?_⟩
      rcases h4 with (h4 | h4) | h4
      · exact .inl h4
      · exact .inr (.inl h4)
      · exact .inr (.inr h4)
  · have := h2 i (lt hi)
    simp only [hi, Bool.and_eq_true, List.all_eq_true, Bool.or_eq_true, Bool.not_eq_true'] at this
    exact (this.1 e (by simpa using he)).resolve_left (by rw [hb]; simp)
  · have := h2 i (lt hi)
    simp only [hi, Bool.and_eq_true, List.all_eq_true, Bool.or_eq_true, Bool.not_eq_true', List.mem_range, List.any_eq_true, Nat.beq_eq] at this
    rcases this.2 j hj with h | ⟨e, he, h3, h4⟩
    · rw [hb] at h; cases h
    · exact ⟨e, by simpa using he, h3, h4⟩

end
end Go.AE
/-
  The evaluator is sound, thirteenth part: a drawn region on its way.
-/
namespace Go.AE
section
variable {P : Program} {rec : Task → Outs} {x : Cx} {ops : Array Oper} {B : Nat → Prop} {w0 : World} {θ : Th} {G : Hp} {w : World} {fn : FuncId} {kind : CallKind} {rof : Option Nat} {tmps : Array Value} {defers : List Deferred} {k : List Item} {cs : List Frame} {pk : Option (List PanicEntry)}

/-- A new block of an operation that was done ahead of its place in the plan. -/
def XNew (P : Program) (rec : Task → Outs) (x : Cx) (ops : Array Oper) (D : Nat → Prop) (cA : PCx) (R : List PI) (n : Nat) (o : Option AObj) : Prop :=
  ∃ l1 p l2 c l v, R = l1 ++ p :: l2 ∧ runC P rec x ops cA l1 = some c ∧ D p.i ∧ wantedB ops c.s.T p.o = some true ∧ nonEff P x.base c p = some (.wr l true v) ∧ (n, o) ∈ l

/-- D is done; cA is behind the last effect done, R is what the plan has left then. -/
structure J (P : Program) (rec : Task → Outs) (x : Cx) (ops : Array Oper) (B : Nat → Prop) (w0 : World) (kind : CallKind) (cs : List Frame) (θ0 : Th) (G0 : Hp) (D : Nat → Prop) (cA : PCx) (R : List PI) (cEnd : PCx) (Top : Lay) (θ : Th) (G : Hp) (w : World) (tmps : Array Value) (defers : List Deferred) (pk : Option (List PanicEntry)) : Prop where
  run : runC P rec x ops cA R = some cEnd
  cur : cA.cur = cA.s.top
  dA : ∀ i, Nat.testBit cA.done i = true → D i
  noE : ∀ p ∈ R, D p.i → p.cl.isEff = false
  size : tmps.size = x.ntm
  slotX : ∀ t, ∀ p ∈ R, D p.i → p.o.dst = some t → VR θ (getT cEnd.s.T t) (tmps.getD t undef)
  slotA : ∀ t, (∀ p ∈ R, D p.i → p.o.dst ≠ some t) → VR θ (getT cA.s.T t) (tmps.getD t undef)
  inv : Inv B w0 θ G w cA.s.top x.base
  xobj : ∀ n o, XNew P rec x ops D cA R n o → G n = o
  free : ∀ n, raw cA.s.top x.base n = none → raw Top x.base n ≠ none → (∀ o, ¬ XNew P rec x ops D cA R n o) → Free θ G n
  le : θ0.Le θ
  far : ∀ n, raw Top x.base n = none → (θ.addr n = θ0.addr n ∧ θ.stamp n = θ0.stamp n) ∧ G n = G0 n
  dr : DRL θ cA.s.ds defers
  rc : RcR θ cA.s.rc kind pk cs

/-- What is fixed over a region's run. -/
structure Fix (P : Program) (rec : Task → Outs) (ops : Array Oper) (mk : Nat → Nat) (L : List PI) (D : Nat → Prop) : Prop where
  stat : Stat ops mk
  plan : ∀ p ∈ L, ops[p.i]? = some p.o ∧ p.mask = mk p.i
  closed : ∀ i, D i → ∀ j, j < ops.size → Nat.testBit (mk i) j = true → D j

theorem lt_of_op {i : Nat} {o : Oper} (h : ops[i]? = some o) : i < ops.size := (Array.getElem?_eq_some_iff.1 h).1

/-- No two of the plan's operations are the same. -/
theorem runC_apart {l1 l2 : List PI} {p q : PI} {a c : PCx} (h : runC P rec x ops a (l1 ++ p :: l2) = some c) : (q ∈ l1 → q.i ≠ p.i) ∧ (q ∈ l2 → q.i ≠ p.i) := by
  obtain ⟨b, c1, h1, h2, h3, hs, hf, hst⟩ := runC_mask h
  constructor
  · intro hq e
    have := (runC_done h1 p.i).2 (.inr ⟨q, hq, e⟩)
    rw [hf] at this; cases this
  · intro hq e
    have h4 := runC_fresh h3 q hq
    have : Nat.testBit c1.done q.i = true := by rw [hst.done]; exact bit_or.2 (.inr e.symm)
    rw [h4] at this; cases this

/-- The slots that an operation looks at, when its turn comes in any order. -/
theorem J.slots {mk : Nat → Nat} {θ0 : Th} {G0 : Hp} {D : Nat → Prop} {cA cEnd c : PCx} {l1 l2 : List PI} {p : PI} {Top : Lay} (hJ : J P rec x ops B w0 kind cs θ0 G0 D cA (l1 ++ p :: l2) cEnd Top θ G w tmps defers pk)
    (hF : Fix P rec ops mk (l1 ++ p :: l2) D) (hc : runC P rec x ops cA l1 = some c) (hD : ¬ D p.i) (hready : ∀ j, j < ops.size → Nat.testBit (mk p.i) j = true → D j)
    {t : Nat} (ht : (.tmp t) ∈ p.o.op.operands ∨ ∃ g want, p.o.guard = some (g, want) ∧ (ops[g]?).bind (·.dst) = some t) : VR θ (getT c.s.T t) (tmps.getD t undef) := by
  obtain ⟨hpo, hpm⟩ := hF.plan p (by simp)
  obtain ⟨b, c1, h1, h2, h3, hs, hf, hst⟩ := runC_mask hJ.run
  rw [hc] at h1
  simp only [Option.some.injEq] at h1
  subst h1
  -- whoever writes the slot is looked at
  have hlook : ∀ i oi, ops[i]? = some oi → oi.dst = some t → looks p.o i t = true := by
    intro i oi hi hd
    unfold looks
    rcases ht with ht | ⟨g, want, hg, hgd⟩
    · rw [Bool.or_eq_true]
      left
      rw [List.any_eq_true]
      exact ⟨.tmp t, by simpa using ht, by simp⟩
    · rw [Bool.or_eq_true]
      right
      rw [hg]
      simp only [Nat.beq_eq]
      cases hog : ops[g]? with
      | none => rw [hog] at hgd; simp at hgd
      | some og =>
        rw [hog] at hgd
        simp only [Option.bind_some] at hgd
        by_cases e : g = i
        · exact e
        · exact absurd hd ((hF.stat.slot g i og oi t hog hi hgd e).1)
  by_cases hw : ∃ q ∈ l1, q.o.dst = some t
  · obtain ⟨q, hq, hqd⟩ := hw
    obtain ⟨hqo, hqm⟩ := hF.plan q (by simp [hq])
    have hne : q.i ≠ p.i := (runC_apart hJ.run).1 hq
    have hDq : D q.i := by
      obtain ⟨_, h⟩ := hF.stat.slot q.i p.i q.o p.o t hqo hpo hqd hne
      rcases h with h | h | h
      · exact hready _ (lt_of_op hqo) h
      · exfalso
        obtain ⟨m1, m2, rfl⟩ := List.append_of_mem hq
        obtain ⟨b', c1', k1, k2, k3, ks, kf, kst⟩ := runC_mask hc
        have hb := ks p.i (by rw [hqm]; exact h)
        have : Nat.testBit c.done p.i = true := (runC_done hc p.i).2 (by
          rcases (runC_done k1 p.i).1 hb with h | ⟨r, hr, h⟩
          · exact .inl h
          · exact .inr ⟨r, by simp [hr], h⟩)
        rw [hf] at this; cases this
      · rw [hlook q.i q.o hqo hqd] at h; cases h
    have := hJ.slotX t q (by simp [hq]) hDq hqd
    have hsame : getT cEnd.s.T t = getT c.s.T t := by
      have hrun2 : runC P rec x ops c (p :: l2) = some cEnd := by simp only [runC, h2]; exact h3
      refine runC_T hrun2 t fun r hr hrd => ?_
      obtain ⟨hro, _⟩ := hF.plan r (by rcases List.mem_cons.1 hr with rfl | hr <;> simp [*])
      have hner : q.i ≠ r.i := by
        rcases List.mem_cons.1 hr with rfl | hr
        · exact hne
        · intro e
          have h4 := runC_fresh h3 r hr
          have : Nat.testBit c1.done r.i = true := by
            rw [hst.done]
            exact bit_or.2 (.inl ((runC_done hc r.i).2 (.inr ⟨q, hq, e⟩)))
          rw [h4] at this; cases this
      exact (hF.stat.slot q.i r.i q.o r.o t hqo hro hqd hner).1 hrd
    rw [← hsame]; exact this
  · have hsame : getT c.s.T t = getT cA.s.T t := runC_T hc t fun q hq hqd => hw ⟨q, hq, hqd⟩
    rw [hsame]
    refine hJ.slotA t fun q hq hDq hqd => ?_
    rcases List.mem_append.1 hq with hq1 | hq2
    · exact hw ⟨q, hq1, hqd⟩
    · rcases List.mem_cons.1 hq2 with rfl | hq2
      · exact hD hDq
      · obtain ⟨hqo, hqm⟩ := hF.plan q hq
        have hne : q.i ≠ p.i := (runC_apart hJ.run).2 hq2
        obtain ⟨_, h⟩ := hF.stat.slot q.i p.i q.o p.o t hqo hpo hqd hne
        rcases h with h | h | h
        · -- the plan has it behind p
          have hb := hs q.i (by rw [hpm]; exact h)
          have h4 := runC_fresh h3 q hq2
          have : Nat.testBit c1.done q.i = true := by rw [hst.done]; exact bit_or.2 (.inl hb)
          rw [h4] at this; cases this
        · exact hD (hF.closed q.i hDq p.i (lt_of_op hpo) h)
        · rw [hlook q.i q.o hqo hqd] at h; cases h
end
end Go.AE
/-
  The evaluator is sound, fourteenth part: an operation without effect, done in a drawn region.
-/
namespace Go.AE
section
variable {P : Program} {rec : Task → Outs} {x : Cx} {ops : Array Oper} {B : Nat → Prop} {w0 : World} {θ : Th} {G : Hp} {w : World} {fn : FuncId} {kind : CallKind} {rof : Option Nat} {tmps : Array Value} {defers : List Deferred} {k : List Item} {cs : List Frame} {pk : Option (List PanicEntry)}

/-- Two places in a list. -/
theorem two_places {α : Type} {l1 l2 m1 m2 : List α} {p q : α} (h : l1 ++ p :: l2 = m1 ++ q :: m2) : (l1 = m1 ∧ p = q ∧ l2 = m2) ∨ (∃ r, l1 = m1 ++ q :: r ∧ m2 = r ++ p :: l2) ∨ (∃ r, m1 = l1 ++ p :: r ∧ l2 = r ++ q :: m2) := by
  rcases List.append_eq_append_iff.1 h with ⟨r, h1, h2⟩ | ⟨r, h1, h2⟩
  · cases r with
    | nil =>
      simp only [List.nil_append, List.cons.injEq, List.append_nil] at h1 h2
      exact .inl ⟨h1.symm, h2.1, h2.2⟩
    | cons a r =>
      simp only [List.cons_append, List.cons.injEq] at h2
      obtain ⟨rfl, h2⟩ := h2
      exact .inr (.inr ⟨r, h1, h2⟩)
  · cases r with
    | nil =>
      simp only [List.nil_append, List.cons.injEq, List.append_nil] at h1 h2
      exact .inl ⟨h1, h2.1.symm, h2.2.symm⟩
    | cons a r =>
      simp only [List.cons_append, List.cons.injEq] at h2
      obtain ⟨rfl, h2⟩ := h2
      exact .inr (.inl ⟨r, h1, h2⟩)

theorem nonEff_new {c : PCx} {p : PI} {l : List (Nat × Option AObj)} {v : AV} (h : nonEff P x.base c p = some (.wr l true v)) : ∃ b, l = [(c.s.c, some b)] := by
  rcases nonEff_at (rec := fun _ => none) (ops := #[]) (l := []) (a := c) rfl h (fun e he => by simp at he) with ⟨v', e, _⟩ | ⟨b, v', e, _⟩
  · cases e
  · cases e; exact ⟨b, rfl⟩

/-- An extra's block is free ahead of its place in the plan and known behind it. -/
theorem XNew.place {D : Nat → Prop} {cA cEnd : PCx} {R : List PI} {n : Nat} {o : Option AObj} (hrun : runC P rec x ops cA R = some cEnd) (h : XNew P rec x ops D cA R n o) :
    ∃ l1 p l2 c c1 b v, R = l1 ++ p :: l2 ∧ runC P rec x ops cA l1 = some c ∧ pstep P rec x ops c p = .go c1 ∧ runC P rec x ops c1 l2 = some cEnd ∧ D p.i ∧ wantedB ops c.s.T p.o = some true ∧ nonEff P x.base c p = some (.wr [(c.s.c, some b)] true v) ∧ n = c.s.c ∧ o = some b ∧
      raw c.s.top x.base n = none ∧ c1.s.top = applyW [(c.s.c, some b)] c.s.top := by
  obtain ⟨l1, p, l2, c, l, v, rfl, hc, hD, hw, hne, hm⟩ := h
  obtain ⟨c', c1, h1, h2, h3, _, _, hst⟩ := runC_mask hrun
  rw [hc] at h1
  simp only [Option.some.injEq] at h1
  subst h1
  obtain ⟨b, rfl⟩ := nonEff_new hne
  simp only [List.mem_singleton, Prod.mk.injEq] at hm
  obtain ⟨rfl, rfl⟩ := hm
  refine ⟨l1, p, l2, c, c1, b, v, rfl, hc, h2, h3, hD, hw, hne, rfl, rfl, ?_⟩
  cases hst with
  | skipN s hw' _ _ => rw [hw] at hw'; cases hw'
  | skipE s hw' _ _ _ => rw [hw] at hw'; cases hw'
  | val v' s _ _ hne' _ => rw [hne] at hne'; cases hne'
  | new l' v' s _ _ hne' hr hs =>
    rw [hne] at hne'
    cases hne'
    exact ⟨hr, putS_top hs⟩
  | eff r s _ he _ _ _ =>
    unfold nonEff at hne
    cases hcl : p.cl <;> rw [hcl] at he hne <;> simp [Cl.isEff] at he hne

theorem xnew_cases {D : Nat → Prop} {cA cEnd c : PCx} {l1 l2 : List PI} {p : PI} {n : Nat} {o : Option AObj} (hrun : runC P rec x ops cA (l1 ++ p :: l2) = some cEnd) (hc : runC P rec x ops cA l1 = some c)
    (h : XNew P rec x ops (fun i => D i ∨ i = p.i) cA (l1 ++ p :: l2) n o) : XNew P rec x ops D cA (l1 ++ p :: l2) n o ∨ (wantedB ops c.s.T p.o = some true ∧ ∃ l v, nonEff P x.base c p = some (.wr l true v) ∧ (n, o) ∈ l) := by
  obtain ⟨m1, q, m2, c', l, v, hR, hc', hD, hw, hne, hm⟩ := h
  rcases hD with hD | hD
  · exact .inl ⟨m1, q, m2, c', l, v, hR, hc', hD, hw, hne, hm⟩
  · have hap := runC_apart (q := q) hrun
    rcases two_places hR with ⟨rfl, rfl, rfl⟩ | ⟨r, rfl, _⟩ | ⟨r, _, rfl⟩
    · rw [hc] at hc'
      simp only [Option.some.injEq] at hc'
      subst hc'
      exact .inr ⟨hw, l, v, hne, hm⟩
    · exact absurd hD (hap.1 (by simp))
    · exact absurd hD (hap.2 (by simp))
theorem XNew.mono {D D' : Nat → Prop} (hD : ∀ i, D i → D' i) {cA : PCx} {R : List PI} {n : Nat} {o : Option AObj} (h : XNew P rec x ops D cA R n o) : XNew P rec x ops D' cA R n o := by
  obtain ⟨m1, q, m2, c', l, v, hR, hc', hDq, r⟩ := h
  exact ⟨m1, q, m2, c', l, v, hR, hc', hD _ hDq, r⟩
/-- The name that an operation's block takes is no extra's. -/
theorem xnew_ne (hg : Good rec) {D : Nat → Prop} {cA cEnd c c1 : PCx} {l1 l2 : List PI} {p : PI} {n : Nat} {o : Option AObj} (hrun : runC P rec x ops cA (l1 ++ p :: l2) = some cEnd) (hc : runC P rec x ops cA l1 = some c)
    (hp : pstep P rec x ops c p = .go c1) (hD : ¬ D p.i) (h0 : raw c.s.top x.base n = none) (h1 : raw c1.s.top x.base n ≠ none) : ¬ XNew P rec x ops D cA (l1 ++ p :: l2) n o := by
  intro h
  obtain ⟨m1, q, m2, c', c1', b, v, hR, hc', hp', hrest, hDq, _, _, rfl, _, hr, ht⟩ := h.place hrun
  have hk : raw c1'.s.top x.base c'.s.c ≠ none := by
    rw [ht]
    exact raw_applyW_mem _ _ _ _ _ (List.mem_singleton.2 rfl)
  rcases two_places hR with ⟨rfl, rfl, rfl⟩ | ⟨r, rfl, _⟩ | ⟨r, rfl, _⟩
  · exact hD hDq
  · obtain ⟨b', h2, h3⟩ := runC_split hc
    rw [hc'] at h2
    simp only [Option.some.injEq] at h2
    subst h2
    obtain ⟨c2, h4, h5⟩ := runC_cons h3
    rw [hp'] at h4
    simp only [PR1.go.injEq] at h4
    subst h4
    exact runC_mo hg h5 _ hk h0
  · obtain ⟨b', h2, h3⟩ := runC_split hc'
    rw [hc] at h2
    simp only [Option.some.injEq] at h2
    subst h2
    obtain ⟨c2, h4, h5⟩ := runC_cons h3
    rw [hp] at h4
    simp only [PR1.go.injEq] at h4
    subst h4
    exact runC_mo hg h5 _ h1 hr
end
end Go.AE
/-
  The evaluator is sound, fifteenth part: an operation without effect, done in a drawn region.
-/
namespace Go.AE
section
variable {P : Program} {rec : Task → Outs} {x : Cx} {ops : Array Oper} {B : Nat → Prop} {w0 : World} {θ : Th} {G : Hp} {w : World} {fn : FuncId} {kind : CallKind} {rof : Option Nat} {tmps : Array Value} {defers : List Deferred} {k : List Item} {cs : List Frame} {pk : Option (List PanicEntry)}

theorem putT_ne {dst : Option Tmp} {y : Value} {t : Nat} (h : dst ≠ some t) : (putT tmps dst y).getD t undef = tmps.getD t undef := by
  cases dst with
  | none => rfl
  | some d =>
    simp only [putT, Array.getD_eq_getD_getElem?]
    rw [Array.getElem?_setIfInBounds_ne]
    rintro rfl
    exact h rfl
theorem putT_eq {y : Value} {t : Nat} (h : t < tmps.size) : (putT tmps (some t) y).getD t undef = y := by
  simp [putT, Array.getD, h]
theorem putT_size {dst : Option Tmp} {y : Value} : (putT tmps dst y).size = tmps.size := by
  cases dst <;> simp [putT]

/-- The slots behind such an operation. -/
theorem J.slots_put {mk : Nat → Nat} {θ0 : Th} {G0 : Hp} {D : Nat → Prop} {cA cEnd c c1 : PCx} {l1 l2 : List PI} {p : PI} {Top : Lay} (hJ : J P rec x ops B w0 kind cs θ0 G0 D cA (l1 ++ p :: l2) cEnd Top θ G w tmps defers pk)
    (hF : Fix P rec ops mk (l1 ++ p :: l2) D) (hc : runC P rec x ops cA l1 = some c) (hp : pstep P rec x ops c p = .go c1) {θ' : Th} (hle : θ.Le θ') {v : AV} {y : Value} (hv : VR θ' v y) {s0 s : S} (hs : putS x s0 p.o.dst v = some s) (hcs : c1.s = s) :
    (∀ t, ∀ q ∈ l1 ++ p :: l2, (D q.i ∨ q.i = p.i) → q.o.dst = some t → VR θ' (getT cEnd.s.T t) ((putT tmps p.o.dst y).getD t undef)) ∧
    (∀ t, (∀ q ∈ l1 ++ p :: l2, (D q.i ∨ q.i = p.i) → q.o.dst ≠ some t) → VR θ' (getT cA.s.T t) ((putT tmps p.o.dst y).getD t undef)) := by
  obtain ⟨hpo, hpm⟩ := hF.plan p (by simp)
  obtain ⟨b, c1', h1, h2, h3, _, _, _⟩ := runC_mask hJ.run
  rw [hc] at h1
  simp only [Option.some.injEq] at h1
  subst h1
  rw [hp] at h2
  simp only [PR1.go.injEq] at h2
  subst h2
  constructor
  · intro t q hq hDq hqd
    obtain ⟨hqo, _⟩ := hF.plan q hq
    by_cases hpd : p.o.dst = some t
    · have hlast : getT cEnd.s.T t = getT c1.s.T t := runC_T h3 t fun r hr hrd => by
        obtain ⟨hro, _⟩ := hF.plan r (by simp [hr])
        have hne : p.i ≠ r.i := fun e => (runC_apart hJ.run).2 hr e.symm
        exact (hF.stat.slot p.i r.i p.o r.o t hpo hro hpd hne).1 hrd
      rcases putS_some hs with ⟨hd, _⟩ | ⟨d, hd, hlt, hse⟩
      · rw [hd] at hpd; cases hpd
      · rw [hd] at hpd
        cases hpd
        rw [hd, putT_eq (by rw [hJ.size]; exact hlt), hlast, hcs, hse]
        show VR θ' (getT (setT s0.T _ v) _) y
        rw [getT_setT, if_pos rfl]
        exact hv
    · rw [putT_ne hpd]
      have hDq' : D q.i := by
        rcases hDq with h | h
        · exact h
        · exfalso
          rw [h, hpo] at hqo
          simp only [Option.some.injEq] at hqo
          exact hpd (by rw [hqo]; exact hqd)
      exact VR.mono hle _ _ (hJ.slotX t q hq hDq' hqd)
  · intro t h
    have hpd : p.o.dst ≠ some t := h p (by simp) (.inr rfl)
    rw [putT_ne hpd]
    exact VR.mono hle _ _ (hJ.slotA t fun q hq hDq => h q hq (.inl hDq))

theorem J.non (hg : Good rec) {mk : Nat → Nat} {θ0 : Th} {G0 : Hp} {D : Nat → Prop} {cA cEnd : PCx} {l1 l2 : List PI} {p : PI} {Top : Lay} {cs' : List Frame} {rest : List Nat} (hJ : J P rec x ops B w0 kind cs θ0 G0 D cA (l1 ++ p :: l2) cEnd Top θ G w tmps defers pk)
    (hF : Fix P rec ops mk (l1 ++ p :: l2) D) (hTop : Mo x.base cEnd.s.top Top) (hn : p.cl.isEff = false) (hD : ¬ D p.i) (hready : ∀ j, j < ops.size → Nat.testBit (mk p.i) j = true → D j) (hrof : rof = none ∨ ∀ c, p.o.op ≠ .defer c) :
    ∃ θ' G' w' y, θ.Le θ' ∧ Go.step P (lone (AFr fn kind rof tmps defers (.inRegion ops (p.i :: rest) :: k) .run) cs' w) = .next (lone (AFr fn kind rof (putT tmps p.o.dst y) defers (.inRegion ops rest :: k) .run) cs' w') ∧
      J P rec x ops B w0 kind cs θ0 G0 (fun i => D i ∨ i = p.i) cA (l1 ++ p :: l2) cEnd Top θ' G' w' (putT tmps p.o.dst y) defers pk := by
  obtain ⟨hpo, hpm⟩ := hF.plan p (by simp)
  obtain ⟨c, c1, hc, hp, h3, hs, hf, hst⟩ := runC_mask hJ.run
  have hslots := fun t ht => hJ.slots hF hc hD hready (t := t) ht
  have hwant : ∀ {b : Bool}, wantedB ops c.s.T p.o = some b → Region.wanted p.o (yielded ops tmps) = b := fun h => wanted_of (fun j want t hg ht => hslots t (.inr ⟨j, want, hg, ht⟩)) h
  have hev : EvR θ c.s.T (AFr fn kind rof tmps defers (.inRegion ops (p.i :: rest) :: k) .run).eval (· ∈ p.o.op.operands) := evR_of fun t ht => hslots t (.inl ht)
  have hcx0 : Cxt P B w0 θ G w (fun _ => none) := ⟨hJ.inv.hr, fun _ _ e => by cases e⟩
  have hcxA : Cxt P B w0 θ G w (look cA.cur x.base) := by rw [hJ.cur]; exact hJ.inv.cxt
  have heff : ∀ e ∈ l1, e.cl.isEff = true → Nat.testBit p.mask e.i = false := by
    intro e he hee
    rw [Bool.eq_false_iff]
    intro hb
    have hDe := hready e.i (lt_of_op (hF.plan e (by simp [he])).1) (by rw [← hpm]; exact hb)
    rw [hJ.noE e (by simp [he]) hDe] at hee
    cases hee
  have noE' : ∀ q ∈ l1 ++ p :: l2, (D q.i ∨ q.i = p.i) → q.cl.isEff = false := by
    intro q hq hDq
    rcases hDq with h | h
    · exact hJ.noE q hq h
    · have hap := runC_apart (q := q) hJ.run
      rcases List.mem_append.1 hq with hq | hq
      · exact absurd h (hap.1 hq)
      · rcases List.mem_cons.1 hq with rfl | hq
        · exact hn
        · exact absurd h (hap.2 hq)
  -- nothing new
  have same : ∀ {v : AV} {y : Value} {w' : World} {s : S}, (wantedB ops c.s.T p.o = some true → ∀ l v, nonEff P x.base c p ≠ some (.wr l true v)) → VR θ v y → HR B w0 θ G w' → putS x c.s p.o.dst v = some s → c1.s = s →
      J P rec x ops B w0 kind cs θ0 G0 (fun i => D i ∨ i = p.i) cA (l1 ++ p :: l2) cEnd Top θ G w' (putT tmps p.o.dst y) defers pk := by
    intro v y w' s hno hv hh hs hcs
    obtain ⟨sx, sa⟩ := hJ.slots_put hF hc hp (Th.Le.refl θ) hv hs hcs
    have back : ∀ n o, XNew P rec x ops (fun i => D i ∨ i = p.i) cA (l1 ++ p :: l2) n o → XNew P rec x ops D cA (l1 ++ p :: l2) n o := by
      intro n o h
      rcases xnew_cases hJ.run hc h with h | ⟨hw, l, v, hne, _⟩
      · exact h
      · exact absurd hne (hno hw l v)
    exact ⟨hJ.run, hJ.cur, fun i hi => .inl (hJ.dA i hi), noE', by rw [putT_size]; exact hJ.size, sx, sa, ⟨hh, hJ.inv.agree⟩, fun n o h => hJ.xobj n o (back n o h),
      fun n h1 h2 h3 => hJ.free n h1 h2 fun o h => h3 o (h.mono fun _ h => .inl h), hJ.le, hJ.far, hJ.dr, hJ.rc⟩
  cases hst with
  | skipN s hw _ hput =>
    exact ⟨θ, G, w, undef, Th.Le.refl θ, m_op_skip hpo (hwant hw), same (fun h => by rw [hw] at h; cases h) (VR.undef θ) hJ.inv.hr hput rfl⟩
  | skipE s _ he _ _ => rw [hn] at he; cases he
  | eff r s _ he _ _ _ => rw [hn] at he; cases he
  | val v s hw _ hne hput =>
    have hval : ∃ y w', Gives ((execOp (AFr fn kind rof tmps defers (.inRegion ops (p.i :: rest) :: k) .run).eval p.o).run P w) y w' ∧ VR θ v y ∧ HR B w0 θ G w' := by
      rcases nonEff_at hc hne heff with ⟨v', e, ha | ha⟩ | ⟨b, v', e, _⟩
      · cases e; exact (aop_post hcx0 hev ha).1
      · cases e; exact (aop_post hcxA hev ha).1
      · cases e
    obtain ⟨y, w', hgv, hv, hh⟩ := hval
    exact ⟨θ, G, w', y, Th.Le.refl θ, m_value hpo (hwant hw) hrof hgv, same (fun _ l v' e => by rw [hne] at e; cases e) hv hh hput rfl⟩
  | new l v s hw _ hne hr hput =>
    obtain ⟨b, rfl⟩ := nonEff_new hne
    have ha : aop P (fun _ => none) c.s.T c.s.c p.o = some (.wr [(c.s.c, some b)] true v) := by
      rcases nonEff_at hc hne heff with ⟨v', e, _⟩ | ⟨b', v', e, ha⟩
      · cases e
      · cases e; exact ha
    obtain ⟨⟨_, hpost⟩, _⟩ := aop_post hcx0 hev ha
    have hrA : raw cA.s.top x.base c.s.c = none := by
      cases e : raw cA.s.top x.base c.s.c with
      | none => rfl
      | some z => exact absurd hr (runC_mo hg hc _ (by rw [e]; simp))
    have htop1 : (c.non p s).s.top = applyW [(c.s.c, some b)] c.s.top := putS_top hput
    have hk1 : raw (c.non p s).s.top x.base c.s.c ≠ none := by
      rw [htop1]
      exact raw_applyW_mem _ _ _ _ _ (List.mem_singleton.2 rfl)
    have hkT : raw Top x.base c.s.c ≠ none := hTop _ (runC_mo hg h3 _ hk1)
    have hno : ∀ o, ¬ XNew P rec x ops D cA (l1 ++ p :: l2) c.s.c o := fun o => xnew_ne hg hJ.run hc hp hD hr hk1
    have hfree := hJ.free c.s.c hrA hkT hno
    obtain ⟨y, θ', w', hgv, hwr, hv⟩ := hpost fun _ => hfree
    obtain ⟨sx, sa⟩ := hJ.slots_put hF hc hp hwr.le hv hput rfl
    refine ⟨θ', applyG [(c.s.c, some b)] G, w', y, hwr.le, m_value hpo (hwant hw) hrof hgv, ⟨hJ.run, hJ.cur, fun i hi => .inl (hJ.dA i hi), noE', by rw [putT_size]; exact hJ.size, sx, sa, ⟨hwr.hr, fun n y e => ?_⟩, fun n o h => ?_, fun n h1 h2 h3 => ?_, hJ.le.trans hwr.le, fun n h => ?_, hJ.dr.mono hwr.le, hJ.rc.mono hwr.le⟩⟩
    · have hne' : n ≠ c.s.c := by rintro rfl; rw [hrA] at e; cases e
      rw [applyG_ne _ _ _ (fun o ho => hne' (congrArg Prod.fst (List.mem_singleton.1 ho)))]
      exact hJ.inv.agree n y e
    · rcases xnew_cases hJ.run hc h with h | ⟨_, l, v', hne', hm⟩
      · have hnn : n ≠ c.s.c := by rintro rfl; exact hno o h
        rw [applyG_ne _ _ _ (fun o ho => hnn (congrArg Prod.fst (List.mem_singleton.1 ho)))]
        exact hJ.xobj n o h
      · rw [hne] at hne'
        cases hne'
        simp only [List.mem_singleton, Prod.mk.injEq] at hm
        obtain ⟨rfl, rfl⟩ := hm
        simp [applyG, Hp.set]
    · have hnn : n ≠ c.s.c := by
        rintro rfl
        exact h3 (some b) ⟨l1, p, l2, c, _, v, rfl, hc, .inr rfl, hw, hne, List.mem_singleton.2 rfl⟩
      obtain ⟨f1, f2, f3⟩ := hJ.free n h1 h2 fun o h => h3 o (h.mono fun _ h => .inl h)
      obtain ⟨e1, e2⟩ := hwr.other n fun _ => hnn
      exact ⟨e1.trans f1, e2.trans f2, by rw [applyG_ne _ _ _ (fun o ho => hnn (congrArg Prod.fst (List.mem_singleton.1 ho)))]; exact f3⟩
    · have hnn : n ≠ c.s.c := by rintro rfl; exact hkT h
      obtain ⟨e1, e2⟩ := hwr.other n fun _ => hnn
      obtain ⟨⟨f1, f2⟩, f3⟩ := hJ.far n h
      exact ⟨⟨e1.trans f1, e2.trans f2⟩, by rw [applyG_ne _ _ _ (fun o ho => hnn (congrArg Prod.fst (List.mem_singleton.1 ho)))]; exact f3⟩
end
end Go.AE
/-
  The evaluator is sound, sixteenth part: an effect, done in a drawn region.
-/
namespace Go.AE
section
variable {P : Program} {rec : Task → Outs} {x : Cx} {ops : Array Oper} {B : Nat → Prop} {w0 : World} {θ : Th} {G : Hp} {w : World} {fn : FuncId} {kind : CallKind} {rof : Option Nat} {tmps : Array Value} {defers : List Deferred} {k : List Item} {cs : List Frame} {pk : Option (List PanicEntry)}

/-- Behind operations that are all done: memory is what the plan says. -/
theorem J.inv_at {θ0 : Th} {G0 : Hp} {D : Nat → Prop} {cA cEnd c : PCx} {l1 l2 : List PI} {Top : Lay} (hJ : J P rec x ops B w0 kind cs θ0 G0 D cA (l1 ++ l2) cEnd Top θ G w tmps defers pk)
    (hc : runC P rec x ops cA l1 = some c) (hall : ∀ p ∈ l1, D p.i) : Inv B w0 θ G w c.s.top x.base := by
  refine ⟨hJ.inv.hr, ?_⟩
  suffices ∀ (m pre r : List PI) (a b : PCx), l1 = pre ++ (m ++ r) → runC P rec x ops cA pre = some a → (∀ n y, raw a.s.top x.base n = some y → G n = y) → runC P rec x ops a m = some b →
      ∀ n y, raw b.s.top x.base n = some y → G n = y from this l1 [] [] cA c (by simp) rfl hJ.inv.agree hc
  intro m
  induction m with
  | nil =>
    intro pre r a b _ _ hag hb
    simp only [runC, Option.some.injEq] at hb
    subst hb
    exact hag
  | cons p m ih =>
    intro pre r a b hl ha hag hb
    obtain ⟨c1, hp, hb2⟩ := runC_cons hb
    have hpm : p ∈ l1 := by rw [hl]; simp
    have hpD := hall p hpm
    have hne := hJ.noE p (by simp [hpm]) hpD
    obtain ⟨_, _, hst⟩ := pstep_go P rec x ops hp
    refine ih (pre ++ [p]) r c1 b (by rw [hl]; simp) (runC_append ha (by simp only [runC, hp])) ?_ hb2
    intro n y hy
    cases hst with
    | skipN s _ _ h => exact hag n y (by have e : (a.non p s).s.top = a.s.top := putS_top h; rw [e] at hy; exact hy)
    | skipE s _ he _ _ => rw [hne] at he; cases he
    | eff r' s _ he _ _ _ => rw [hne] at he; cases he
    | val v s _ _ _ h => exact hag n y (by have e : (a.non p s).s.top = a.s.top := putS_top h; rw [e] at hy; exact hy)
    | new l v s hw _ hn hraw h =>
      have e : (a.non p s).s.top = applyW l a.s.top := putS_top h
      rw [e] at hy
      obtain ⟨bb, rfl⟩ := nonEff_new hn
      by_cases hnc : n = a.s.c
      · subst hnc
        have hx : XNew P rec x ops D cA (l1 ++ l2) a.s.c (some bb) := ⟨pre, p, m ++ r ++ l2, a, _, v, by rw [hl]; simp, ha, hpD, hw, hn, List.mem_singleton.2 rfl⟩
        have h1 := hJ.xobj _ _ hx
        simp only [applyW, raw_setL, if_true, Option.some.injEq] at hy
        rw [h1, ← hy]
      · rw [raw_applyW_ne _ _ _ _ (fun o ho => hnc (congrArg Prod.fst (List.mem_singleton.1 ho)))] at hy
        exact hag n y hy

theorem J.eff_core (hg : Good rec) {mk : Nat → Nat} {θ0 : Th} {G0 : Hp} {D : Nat → Prop} {cA cEnd c c1 : PCx} {l1 l2 : List PI} {p : PI} {Top : Lay} (hJ : J P rec x ops B w0 kind cs θ0 G0 D cA (l1 ++ p :: l2) cEnd Top θ G w tmps defers pk)
    (hF : Fix P rec ops mk (l1 ++ p :: l2) D) (hTop : Mo x.base cEnd.s.top Top) (hD : ¬ D p.i) (hall : ∀ q ∈ l1, D q.i) (hdone : ∀ i, Nat.testBit c.done i = true → D i)
    (hc : runC P rec x ops cA l1 = some c) (hp : pstep P rec x ops c p = .go c1) {s s1 : S} (hc1 : c1 = c.eff p s) {v : AV} {y : Value} {θ1 : Th} {G1 : Hp} {w1 : World} {defers1 : List Deferred} {pk1 : Option (List PanicEntry)}
    (hput : putS x s1 p.o.dst v = some s) (hT : s1.T = c.s.T) (hv : VR θ1 v y) (hi : Inv B w0 θ1 G1 w1 s1.top x.base) (hext : Ext x.base c.s.top s1.top θ θ1 G G1) (hd : DRL θ1 s1.ds defers1) (hrc : RcR θ1 s1.rc kind pk1 cs) :
    J P rec x ops B w0 kind cs θ0 G0 (fun i => D i ∨ i = p.i) c1 l2 cEnd Top θ1 G1 w1 (putT tmps p.o.dst y) defers1 pk1 := by
  obtain ⟨hpo, hpm⟩ := hF.plan p (by simp)
  have hrun2 : runC P rec x ops c1 l2 = some cEnd := by
    obtain ⟨b, c1', h1, h2, h3, _, _, _⟩ := runC_mask hJ.run
    rw [hc] at h1
    simp only [Option.some.injEq] at h1
    subst h1
    rw [hp] at h2
    simp only [PR1.go.injEq] at h2
    subst h2
    exact h3
  have hap := fun q => runC_apart (q := q) hJ.run
  have htop : c1.s.top = s1.top := by
    have e : s.top = s1.top := putS_top hput
    rw [hc1, ← e]; rfl
  have hds : c1.s.ds = s1.ds := by
    rw [hc1]
    rcases putS_some hput with ⟨_, rfl⟩ | ⟨d, _, _, rfl⟩ <;> rfl
  have hrcs : c1.s.rc = s1.rc := by
    rw [hc1]
    rcases putS_some hput with ⟨_, rfl⟩ | ⟨d, _, _, rfl⟩ <;> rfl
  have hle := hext.le
  have hmoT : Mo x.base c1.s.top Top := (runC_mo hg hrun2).trans hTop
  have hmoA : Mo x.base cA.s.top c1.s.top := (runC_mo hg hc).trans ((good_pstep hg).1 _ hp)
  have hxold : ∀ n o, XNew P rec x ops (fun i => D i ∨ i = p.i) c1 l2 n o → XNew P rec x ops D cA (l1 ++ p :: l2) n o := by
    rintro n o ⟨m1, q, m2, c', l, v', rfl, hc', hDq, r⟩
    have hDq' : D q.i := hDq.resolve_right ((hap q).2 (by simp))
    refine ⟨l1 ++ p :: m1, q, m2, c', l, v', by simp, ?_, hDq', r⟩
    refine runC_append hc ?_
    simp only [runC, hp]
    exact hc'
  have hxnone : ∀ n o, XNew P rec x ops (fun i => D i ∨ i = p.i) c1 l2 n o → raw c1.s.top x.base n = none := by
    intro n o h
    obtain ⟨m1, q, m2, c', _, b, v', _, hc', _, _, _, _, _, rfl, _, hr, _⟩ := h.place hrun2
    cases e : raw c1.s.top x.base c'.s.c with
    | none => rfl
    | some z => exact absurd hr (runC_mo hg hc' _ (by rw [e]; simp))
  refine ⟨hrun2, by subst hc1; rfl, fun i h => ?_, fun q hq hDq => ?_, by rw [putT_size]; exact hJ.size, fun t q hq hDq hqd => ?_, fun t h => ?_, by rw [htop]; exact hi, fun n o h => ?_, fun n h1 h2 h3 => ?_, hJ.le.trans hle, fun n h => ?_, by rw [hds]; exact hd, by rw [hrcs]; exact hrc⟩
  · subst hc1
    rcases bit_or.1 h with h | h
    · exact .inl (hdone i h)
    · exact .inr h.symm
  · exact hJ.noE q (by simp [hq]) (hDq.resolve_right ((hap q).2 hq))
  · have hne := (hap q).2 hq
    have hDq' := hDq.resolve_right hne
    obtain ⟨hqo, _⟩ := hF.plan q (by simp [hq])
    have hpd := (hF.stat.slot q.i p.i q.o p.o t hqo hpo hqd hne).1
    rw [putT_ne hpd]
    exact VR.mono hle _ _ (hJ.slotX t q (by simp [hq]) hDq' hqd)
  · by_cases hpd : p.o.dst = some t
    · rcases putS_some hput with ⟨hd', _⟩ | ⟨d, hd', hlt, hse⟩
      · rw [hd'] at hpd; cases hpd
      · rw [hd'] at hpd
        cases hpd
        rw [hd', putT_eq (by rw [hJ.size]; exact hlt), hc1]
        show VR θ1 (getT s.T _) y
        rw [hse]
        show VR θ1 (getT (setT s1.T _ v) _) y
        rw [getT_setT, if_pos rfl]
        exact hv
    · rw [putT_ne hpd]
      obtain ⟨_, _, hst⟩ := pstep_go P rec x ops hp
      rw [hst.T t hpd]
      by_cases hw : ∃ q ∈ l1, q.o.dst = some t
      · obtain ⟨q, hq, hqd⟩ := hw
        obtain ⟨hqo, _⟩ := hF.plan q (by simp [hq])
        have := hJ.slotX t q (by simp [hq]) (hall q hq) hqd
        have hsame : getT cEnd.s.T t = getT c.s.T t := by
          rw [← hst.T t hpd]
          refine runC_T hrun2 t fun r hr hrd => ?_
          obtain ⟨hro, _⟩ := hF.plan r (by simp [hr])
          have hner : q.i ≠ r.i := by
            intro e
            have h4 := runC_fresh hrun2 r hr
            have : Nat.testBit c1.done r.i = true := by
              rw [hst.done]
              exact bit_or.2 (.inl ((runC_done hc r.i).2 (.inr ⟨q, hq, e⟩)))
            rw [h4] at this; cases this
          exact (hF.stat.slot q.i r.i q.o r.o t hqo hro hqd hner).1 hrd
        rw [← hsame]
        exact VR.mono hle _ _ this
      · have hsame : getT c.s.T t = getT cA.s.T t := runC_T hc t fun q hq hqd => hw ⟨q, hq, hqd⟩
        rw [hsame]
        refine VR.mono hle _ _ (hJ.slotA t fun q hq hDq hqd => ?_)
        rcases List.mem_append.1 hq with hq1 | hq2
        · exact hw ⟨q, hq1, hqd⟩
        · rcases List.mem_cons.1 hq2 with rfl | hq2
          · exact hD hDq
          · exact h q hq2 (.inl hDq) hqd
  · have hn := hxnone n o h
    rw [htop] at hn
    rw [(hext.same n hn).2]
    exact hJ.xobj n o (hxold n o h)
  · have hn := h1
    rw [htop] at hn
    obtain ⟨⟨e1, e2⟩, e3⟩ := hext.same n hn
    have h1A : raw cA.s.top x.base n = none := by
      cases e : raw cA.s.top x.base n with
      | none => rfl
      | some z => exact absurd h1 (hmoA n (by rw [e]; simp))
    have hno : ∀ o, ¬ XNew P rec x ops D cA (l1 ++ p :: l2) n o := by
      rintro o ⟨m1, q, m2, c', l, v', hR, hc', hDq, hw', hne', hm⟩
      rcases two_places hR with ⟨rfl, rfl, rfl⟩ | ⟨r, rfl, _⟩ | ⟨r, rfl, rfl⟩
      · exact hD hDq
      · -- its place is in l1: known
        have hx : XNew P rec x ops D cA ((m1 ++ q :: r) ++ p :: l2) n o := ⟨m1, q, m2, c', l, v', hR, hc', hDq, hw', hne', hm⟩
        obtain ⟨b', hb1, hb2⟩ := runC_split hc
        rw [hc'] at hb1
        simp only [Option.some.injEq] at hb1
        subst hb1
        obtain ⟨c2, hb3, hb4⟩ := runC_cons hb2
        obtain ⟨bb, rfl⟩ := nonEff_new hne'
        simp only [List.mem_singleton, Prod.mk.injEq] at hm
        obtain ⟨rfl, rfl⟩ := hm
        obtain ⟨_, _, hst⟩ := pstep_go P rec x ops hb3
        have hk : raw c2.s.top x.base c'.s.c ≠ none := by
          cases hst with
          | skipN s hw _ _ => rw [hw'] at hw; cases hw
          | skipE s hw _ _ _ => rw [hw'] at hw; cases hw
          | val v'' s _ _ hv'' _ => rw [hne'] at hv''; cases hv''
          | new l'' v'' s _ _ hn'' _ hs =>
            rw [hne'] at hn''
            cases hn''
            have e : (c'.non q s).s.top = applyW [(c'.s.c, some bb)] c'.s.top := putS_top hs
            rw [e]
            exact raw_applyW_mem _ _ _ _ _ (List.mem_singleton.2 rfl)
          | eff r' s _ he _ _ _ =>
            have := hJ.noE q (by simp) hDq
            rw [this] at he; cases he
        exact ((runC_mo hg hb4).trans ((good_pstep hg).1 _ hp)) _ hk h1
      · obtain ⟨b', hb1, hb2⟩ := runC_split hc'
        rw [hc] at hb1
        simp only [Option.some.injEq] at hb1
        subst hb1
        obtain ⟨c2, hb3, hb4⟩ := runC_cons hb2
        rw [hp] at hb3
        simp only [PR1.go.injEq] at hb3
        subst hb3
        exact h3 o ⟨r, q, m2, c', l, v', rfl, hb4, .inl hDq, hw', hne', hm⟩
    obtain ⟨f1, f2, f3⟩ := hJ.free n h1A h2 hno
    exact ⟨e1.trans f1, e2.trans f2, e3.trans f3⟩
  · have hn : raw c1.s.top x.base n = none := by
      cases e : raw c1.s.top x.base n with
      | none => rfl
      | some z => exact absurd h (hmoT n (by rw [e]; simp))
    rw [htop] at hn
    obtain ⟨⟨e1, e2⟩, e3⟩ := hext.same n hn
    obtain ⟨⟨f1, f2⟩, f3⟩ := hJ.far n h
    exact ⟨⟨e1.trans f1, e2.trans f2⟩, e3.trans f3⟩
end
end Go.AE
/-
  The evaluator is sound, seventeenth part: an effect in a drawn region, and a panic there.
-/
namespace Go.AE
section
variable {P : Program} {rec : Task → Outs} {x : Cx} {ops : Array Oper} {B : Nat → Prop} {w0 : World} {θ : Th} {G : Hp} {w : World} {fn : FuncId} {kind : CallKind} {rof : Option Nat} {tmps : Array Value} {defers : List Deferred} {k : List Item} {cs : List Frame} {pk : Option (List PanicEntry)}

theorem good_unit (base : List Lay) : GoodK base (fun s => some [⟨.normal, s⟩]) := fun s outs h => by
  simp only [Option.some.injEq] at h
  subst h
  exact GoodO.one _ _ _ (Mo.refl _ _)

/-- Ahead of an effect all that the plan has ahead of it is done. -/
theorem J.ahead {θ0 : Th} {G0 : Hp} {mk : Nat → Nat} {D : Nat → Prop} {cA cEnd c : PCx} {l1 l2 R : List PI} {p : PI} {Top : Lay} (hJ : J P rec x ops B w0 kind cs θ0 G0 D cA R cEnd Top θ G w tmps defers pk)
    (hF : Fix P rec ops mk R D) (hR : R = l1 ++ l2) (hpm : p.mask = mk p.i) (hready : ∀ j, j < ops.size → Nat.testBit (mk p.i) j = true → D j) (hc : runC P rec x ops cA l1 = some c) (hsub : sub c.done p.mask) :
    (∀ q ∈ l1, D q.i) ∧ ∀ i, Nat.testBit c.done i = true → D i := by
  have h1 : ∀ q ∈ l1, D q.i := fun q hq => hready q.i (lt_of_op (hF.plan q (by rw [hR]; simp [hq])).1) (by
    rw [← hpm]
    exact hsub q.i ((runC_done hc q.i).2 (.inr ⟨q, hq, rfl⟩)))
  refine ⟨h1, fun i hi => ?_⟩
  rcases (runC_done hc i).1 hi with h | ⟨q, hq, rfl⟩
  · exact hJ.dA i h
  · exact h1 q hq

theorem J.eff (hg : Good rec) (hs : Sound P rec) {mk : Nat → Nat} {θ0 : Th} {G0 : Hp} {D : Nat → Prop} {cA cEnd : PCx} {l1 l2 : List PI} {p : PI} {Top : Lay} {rest : List Nat} (hJ : J P rec x ops B w0 kind cs θ0 G0 D cA (l1 ++ p :: l2) cEnd Top θ G w tmps defers pk)
    (hF : Fix P rec ops mk (l1 ++ p :: l2) D) (hTop : Mo x.base cEnd.s.top Top) (hn : p.cl.isEff = true) (hD : ¬ D p.i) (hready : ∀ j, j < ops.size → Nat.testBit (mk p.i) j = true → D j) (hrof : RofR θ x.round rof) :
    ∃ c c1 θ' G' w' tmps' defers' pk', (runC P rec x ops cA l1 = some c ∧ pstep P rec x ops c p = .go c1) ∧ θ.Le θ' ∧ Steps P (lone (AFr fn kind rof tmps defers (.inRegion ops (p.i :: rest) :: k) .run) (cal pk cs) w) (lone (AFr fn kind rof tmps' defers' (.inRegion ops rest :: k) .run) (cal pk' cs) w') ∧
      J P rec x ops B w0 kind cs θ0 G0 (fun i => D i ∨ i = p.i) c1 l2 cEnd Top θ' G' w' tmps' defers' pk' := by
  obtain ⟨hpo, hpm⟩ := hF.plan p (by simp)
  obtain ⟨c, c1, hc, hp, h3, hsm, hf, hst⟩ := runC_mask hJ.run
  have hslots := fun t ht => hJ.slots hF hc hD hready (t := t) ht
  have hwant : ∀ {b : Bool}, wantedB ops c.s.T p.o = some b → Region.wanted p.o (yielded ops tmps) = b := fun h => wanted_of (fun j want t hg ht => hslots t (.inr ⟨j, want, hg, ht⟩)) h
  have hsub : sub c.done p.mask := by
    cases hst with
    | skipN s _ he _ => rw [hn] at he; cases he
    | skipE s _ _ h _ => exact h
    | val v s _ he _ _ => rw [hn] at he; cases he
    | new l v s _ he _ _ _ => rw [hn] at he; cases he
    | eff r s _ _ h _ _ => exact h
  obtain ⟨hall, hdn⟩ := hJ.ahead hF rfl hpm hready hc hsub
  have hinv := hJ.inv_at hc hall
  have hcur := runC_non hc fun q hq => hJ.noE q (by simp [hq]) (hall q hq)
  have hdr : DRL θ c.s.ds defers := by rw [hcur.2.2.1]; exact hJ.dr
  have hrc : RcR θ c.s.rc kind pk cs := by rw [hcur.2.2.2]; exact hJ.rc
  generalize hce : c1 = c1' at hst
  cases hst with
  | skipN s _ he _ => rw [hn] at he; cases he
  | val v s _ he _ _ => rw [hn] at he; cases he
  | new l v s _ he _ _ _ => rw [hn] at he; cases he
  | skipE s hw _ _ hput =>
    refine ⟨c, c1, θ, G, w, putT tmps p.o.dst undef, defers, pk, ⟨hc, hp⟩, Th.Le.refl θ, .one (m_op_skip hpo (hwant hw)), ?_⟩
    exact hJ.eff_core hg hF hTop hD hall hdn hc hp hce hput rfl (VR.undef θ) hinv (Ext.refl _ _ _ _) hdr hrc
  | eff r s hw _ _ hr hex =>
    have hev : EvR θ c.s.T (AFr fn kind rof tmps defers (.inRegion ops (p.i :: rest) :: k) .run).eval (· ∈ p.o.op.operands) := evR_of fun t ht => hslots t (.inl ht)
    obtain ⟨hpost, hdef⟩ := aop_post hinv.cxt hev hr
    have hfn : FN θ G x.base c.s.top [⟨.normal, s⟩] := by
      intro o ho n h1 h2
      rw [List.mem_singleton.1 ho] at h2
      have h2' : raw c1.s.top x.base n ≠ none := by rw [hce]; exact h2
      refine hJ.free n ?_ (hTop n (runC_mo hg h3 n h2')) fun o h => xnew_ne hg hJ.run hc hp hD h1 h2' h
      cases e : raw cA.s.top x.base n with
      | none => rfl
      | some z => exact absurd h1 (runC_mo hg hc n (by rw [e]; simp))
    have hop := core_exec (rest := rest) (k := k) (fn := fn) (rof := rof) hg hs (good_unit _) hex hfn hinv hdr hrof hrc hpo (hwant hw) hpost hdef
    rcases hop with ⟨s1, v, outs1, θ1, G1, w1, y, defers1, pk1, hpu, hT, hsub1, hv, hi, hext, hd, hrc1, hsteps⟩ | ⟨q, hq, ch, ch', θ1, G1, w1, defers1, pk1, hqe, _⟩
    · have hput : putS x s1 p.o.dst v = some s := by
        unfold putD at hpu
        unfold putS
        split at hpu
        · rename_i hd'
          simp only [Option.some.injEq] at hpu
          subst hpu
          have := hsub1 _ (List.mem_singleton.2 rfl)
          simp only [List.mem_singleton, Out.mk.injEq, true_and] at this
          simp [this]
        · rename_i d hd'
          split at hpu
          · cases hpu
          · rename_i hlt
            simp only [Option.some.injEq] at hpu
            subst hpu
            have := hsub1 _ (List.mem_singleton.2 rfl)
            simp only [List.mem_singleton, Out.mk.injEq, true_and] at this
            simp [this]
      exact ⟨c, c1, θ1, G1, w1, putT tmps p.o.dst y, defers1, pk1, ⟨hc, hp⟩, hext.le, hsteps, hJ.eff_core hg hF hTop hD hall hdn hc hp hce hput hT hv hi hext hd hrc1⟩
    · rw [List.mem_singleton.1 hq] at hqe
      cases hqe

theorem getT_anyD : ∀ (l : List Oper) (T : Tm) (t : Nat), getT (anyD l T) t = .any ∨ ((∀ o ∈ l, o.dst ≠ some t) ∧ getT (anyD l T) t = getT T t)
  | [], T, t => .inr ⟨by simp, rfl⟩
  | o :: os, T, t => by
    cases hd : o.dst with
    | none =>
      simp only [anyD, hd]
      rcases getT_anyD os T t with h | ⟨h1, h2⟩
      · exact .inl h
      · refine .inr ⟨fun q hq => ?_, h2⟩
        rcases List.mem_cons.1 hq with rfl | hq
        · rw [hd]; simp
        · exact h1 q hq
    | some d =>
      simp only [anyD, hd]
      rcases getT_anyD os (setT T d .any) t with h | ⟨h1, h2⟩
      · exact .inl h
      · by_cases e : d = t
        · rw [getT_setT, if_pos e] at h2
          exact .inl h2
        · rw [getT_setT, if_neg e] at h2
          refine .inr ⟨fun q hq => ?_, h2⟩
          rcases List.mem_cons.1 hq with rfl | hq
          · rw [hd]; simpa using e
          · exact h1 q hq

/-- A panic: what else has been done has no effect. -/
theorem J.stop (hg : Good rec) (hs : Sound P rec) {mk : Nat → Nat} {θ0 : Th} {G0 : Hp} {D : Nat → Prop} {cA cEnd c : PCx} {l1 l2 : List PI} {p : PI} {s : S} {ch : List APan} {rest : List Nat} (hJ : J P rec x ops B w0 kind cs θ0 G0 D cA (l1 ++ l2) cEnd s.top θ G w tmps defers pk)
    (hF : Fix P rec ops mk (l1 ++ l2) D) (hc : runC P rec x ops cA l1 = some c) (hpo : ops[p.i]? = some p.o) (hpm : p.mask = mk p.i) (hp : pstep P rec x ops c p = .stop ch s)
    (hready : ∀ j, j < ops.size → Nat.testBit (mk p.i) j = true → D j) (hslots : ∀ t, ((.tmp t) ∈ p.o.op.operands ∨ ∃ g want, p.o.guard = some (g, want) ∧ (ops[g]?).bind (·.dst) = some t) → VR θ (getT c.s.T t) (tmps.getD t undef))
    (hnx : ∀ q ∈ l2, D q.i → ∀ c l v, nonEff P x.base c q ≠ some (.wr l true v)) (hrof : RofR θ x.round rof) {top0 : Lay} (h0 : ∀ n, raw top0 x.base n ≠ none → raw cA.s.top x.base n ≠ none) :
    Gets P B w0 x top0 θ0 G0 (lone (AFr fn kind rof tmps defers (.inRegion ops (p.i :: rest) :: k) .run) (cal pk cs) w) fn kind rof k cs [⟨.panic ch, { s with T := anyD ops.toList c.s.T }⟩] := by
  obtain ⟨hsm, hf, hsub, hn, hw, r, hr, hex⟩ := pstep_stop P rec x ops hp
  have hwant : Region.wanted p.o (yielded ops tmps) = true := wanted_of (fun j want t hg ht => hslots t (.inr ⟨j, want, hg, ht⟩)) hw
  obtain ⟨hall, hdn⟩ := hJ.ahead hF rfl hpm hready hc hsub
  have hinv := hJ.inv_at hc hall
  have hcur := runC_non hc fun q hq => hJ.noE q (by simp [hq]) (hall q hq)
  have hdr : DRL θ c.s.ds defers := by rw [hcur.2.2.1]; exact hJ.dr
  have hrc : RcR θ c.s.rc kind pk cs := by rw [hcur.2.2.2]; exact hJ.rc
  have hev : EvR θ c.s.T (AFr fn kind rof tmps defers (.inRegion ops (p.i :: rest) :: k) .run).eval (· ∈ p.o.op.operands) := evR_of fun t ht => hslots t (.inl ht)
  obtain ⟨hpost, hdef⟩ := aop_post hinv.cxt hev hr
  have hfn : FN θ G x.base c.s.top [⟨.panic ch, s⟩] := by
    intro o ho n h1 h2
    rw [List.mem_singleton.1 ho] at h2
    refine hJ.free n ?_ h2 ?_
    · cases e : raw cA.s.top x.base n with
      | none => rfl
      | some z => exact absurd h1 (runC_mo hg hc n (by rw [e]; simp))
    · rintro o' ⟨m1, q, m2, c', l, v', hR, hc', hDq, hw', hne', hm⟩
      have hq : q ∈ l1 ++ l2 := by rw [hR]; simp
      by_cases hq1 : ∃ r, l1 = m1 ++ q :: r
      · obtain ⟨r, rfl⟩ := hq1
        obtain ⟨b', hb1, hb2⟩ := runC_split hc
        rw [hc'] at hb1
        simp only [Option.some.injEq] at hb1
        subst hb1
        obtain ⟨c2, hb3, hb4⟩ := runC_cons hb2
        obtain ⟨bb, rfl⟩ := nonEff_new hne'
        simp only [List.mem_singleton, Prod.mk.injEq] at hm
        obtain ⟨rfl, rfl⟩ := hm
        obtain ⟨_, _, hst⟩ := pstep_go P rec x ops hb3
        have hk : raw c2.s.top x.base c'.s.c ≠ none := by
          cases hst with
          | skipN s _ _ _ => rename_i hw2 _ _; rw [hw'] at hw2; cases hw2
          | skipE s _ _ _ _ => rename_i hw2 _ _ _; rw [hw'] at hw2; cases hw2
          | val v'' s _ _ hv'' _ => rw [hne'] at hv''; cases hv''
          | new l'' v'' s _ _ hn'' _ hs =>
            rw [hne'] at hn''
            cases hn''
            have e : (c'.non q s).s.top = applyW [(c'.s.c, some bb)] c'.s.top := putS_top hs
            rw [e]
            exact raw_applyW_mem _ _ _ _ _ (List.mem_singleton.2 rfl)
          | eff r' s _ he _ _ _ =>
            have := hJ.noE q hq hDq
            rw [this] at he; cases he
        exact runC_mo hg hb4 _ hk h1
      · have hq2 : q ∈ l2 := by
          rcases List.append_eq_append_iff.1 hR with ⟨r, h1, h2⟩ | ⟨r, h1, h2⟩
          · rw [h2]; simp
          · cases r with
            | nil => simp only [List.nil_append] at h2; rw [← h2]; simp
            | cons a r =>
              simp only [List.cons_append, List.cons.injEq] at h2
              obtain ⟨rfl, h2⟩ := h2
              exact absurd ⟨r, h1⟩ hq1
        exact hnx q hq2 hDq _ _ _ hne'
  have hop := core_exec (rest := rest) (k := k) (fn := fn) (rof := rof) hg hs (good_unit _) hex hfn hinv hdr hrof hrc hpo hwant hpost hdef
  rcases hop with ⟨s1, v, outs1, θ1, G1, w1, y, defers1, pk1, hpu, hT, hsub1, _⟩ | ⟨q, hq, ch1, ch', θ1, G1, w1, defers1, pk1, hqe, hqT, hpr, hi, hext, hd, hrc1, hsteps⟩
  · exfalso
    unfold putD at hpu
    split at hpu
    · simp only [Option.some.injEq] at hpu
      subst hpu
      have := hsub1 _ (List.mem_singleton.2 rfl)
      simp at this
    · split at hpu
      · cases hpu
      · simp only [Option.some.injEq] at hpu
        subst hpu
        have := hsub1 _ (List.mem_singleton.2 rfl)
        simp at this
  · obtain rfl := List.mem_singleton.1 hq
    simp only [AX.panic.injEq] at hqe
    subst hqe
    refine ⟨_, List.mem_singleton.2 rfl, θ1, G1, w1, tmps, defers1, pk1, ⟨hi, ⟨hJ.size, fun t => ?_⟩, hd, hrc1⟩, ⟨hJ.le.trans hext.le, fun n hn => ?_, fun n hn => ?_⟩, ⟨_, ch', hpr, noCall_region, hsteps⟩⟩
    · rcases getT_anyD ops.toList c.s.T t with h | ⟨h1, h2⟩
      · show VR θ1 (getT (anyD ops.toList c.s.T) t) _
        rw [h]; simp only [VR]
      · show VR θ1 (getT (anyD ops.toList c.s.T) t) _
        have hno : ∀ q ∈ l1 ++ l2, q.o.dst ≠ some t := fun q hq => h1 q.o (by
          have := (hF.plan q hq).1
          rw [Array.getElem?_eq_some_iff] at this
          obtain ⟨hlt, he⟩ := this
          rw [← he]
          simp)
        rw [h2, runC_T hc t fun q hq => hno q (by simp [hq])]
        exact VR.mono hext.le _ _ (hJ.slotA t fun q hq _ => hno q hq)
    · have hmo := (good_pstep hg).2 _ _ hp
      exact hmo n (runC_mo hg hc n (h0 n hn))
    · obtain ⟨⟨e1, e2⟩, e3⟩ := hext.same n hn
      obtain ⟨⟨f1, f2⟩, f3⟩ := hJ.far n hn
      exact ⟨⟨e1.trans f1, e2.trans f2⟩, e3.trans f3⟩
end
end Go.AE
/-
  The evaluator is sound, eighteenth part: the orders that may be drawn.
-/
namespace Go.AE

/-- An order of what is left, when D is done. -/
inductive Sched (ops : Array Oper) : (Nat → Prop) → List Nat → Prop where
  | nil {D : Nat → Prop} : (∀ i o, ops[i]? = some o → ¬ D i → ∃ e ∈ o.after, Region.binds .any e = true ∧ ¬ D e.on) → Sched ops D []
  | cons {D : Nat → Prop} {i : Nat} {o : Oper} {L : List Nat} : ops[i]? = some o → ¬ D i → (∀ e ∈ o.after, Region.binds .any e = true → D e.on) → Sched ops (fun j => D j ∨ j = i) L → Sched ops D (i :: L)

def cnt (l : Array Bool) : Nat → Nat
  | 0 => 0
  | n + 1 => cnt l n + if l.getD n true then 0 else 1
theorem cnt_set (l : Array Bool) (i : Nat) (hi : i < l.size) (hl : l.getD i true = false) : ∀ n, cnt (l.setIfInBounds i true) n + (if i < n then 1 else 0) = cnt l n
  | 0 => by simp [cnt]
  | n + 1 => by
    have ih := cnt_set l i hi hl n
    simp only [cnt]
    by_cases h : i = n
    · subst h
      have e : (l.setIfInBounds i true).getD i true = true := by simp [Array.getD, hi]
      simp only [e, hl, Nat.lt_irrefl, if_false, if_true, Nat.lt_succ_self] at ih ⊢
      simp at ih ⊢
      omega
    · have e : (l.setIfInBounds i true).getD n true = l.getD n true := by
        simp only [Array.getD_eq_getD_getElem?]
        rw [Array.getElem?_setIfInBounds_ne h]
      rw [e]
      have : (i < n + 1) ↔ (i < n) := by omega
      simp only [this]
      omega
theorem cnt_pos (l : Array Bool) (i : Nat) (hl : l.getD i true = false) : ∀ n, i < n → 0 < cnt l n
  | 0, h => by omega
  | n + 1, h => by
    simp only [cnt]
    by_cases e : i = n
    · subst e
      rw [hl]; simp
    · have := cnt_pos l i hl n (by omega)
      omega

section
variable {ops : Array Oper}

theorem getD_b {l : Array Bool} {i : Nat} (h : i < l.size) (a b : Bool) : l.getD i a = l.getD i b := by simp [Array.getD, h]

/-- The same, in a mode. -/
inductive SchedM (m : Region.Mode) (ops : Array Oper) : (Nat → Prop) → List Nat → Prop where
  | nil {D : Nat → Prop} : (∀ i o, ops[i]? = some o → ¬ D i → ∃ e ∈ o.after, Region.binds m e = true ∧ ¬ D e.on) → SchedM m ops D []
  | cons {D : Nat → Prop} {i : Nat} {o : Oper} {L : List Nat} : ops[i]? = some o → ¬ D i → (∀ e ∈ o.after, Region.binds m e = true → D e.on) → SchedM m ops (fun j => D j ∨ j = i) L → SchedM m ops D (i :: L)

theorem go_sched (m : Region.Mode) : ∀ (fuel t : Nat) (listed : Array Bool) (acc : List Nat), listed.size = ops.size → cnt listed ops.size ≤ fuel →
    ∃ L, Region.linearise.go m ops fuel t listed acc = acc.reverse ++ L ∧ SchedM m ops (fun i => listed.getD i false = true) L
  | 0, t, listed, acc, hs, hc => by
    refine ⟨[], by simp [Region.linearise.go], .nil fun i o ho hD => ?_⟩
    exfalso
    have hi : i < ops.size := (Array.getElem?_eq_some_iff.1 ho).1
    have := cnt_pos listed i (by rw [getD_b (by rw [hs]; exact hi) true false]; simpa using hD) ops.size hi
    omega
  | fuel + 1, t, listed, acc, hs, hc => by
    simp only [Region.linearise.go]
    generalize hrs : (List.range ops.size).filter (fun i => !listed.getD i true && ((ops[i]?).map (·.after.all fun e => !Region.binds m e || listed.getD e.on false)).getD false) = rs
    split
    · rename_i i hi
      have hm : i ∈ rs := List.mem_of_getElem? hi
      rw [← hrs] at hm
      simp only [List.mem_filter, List.mem_range, Bool.and_eq_true, Bool.not_eq_true'] at hm
      obtain ⟨hlt, hl, hr⟩ := hm
      obtain ⟨o, ho⟩ : ∃ o, ops[i]? = some o := ⟨ops[i], by simp [hlt]⟩
      rw [ho] at hr
      simp only [Option.map_some, Option.getD_some, Array.all_eq_true'] at hr
      have hcnt := cnt_set listed i (by rw [hs]; exact hlt) hl ops.size
      rw [if_pos hlt] at hcnt
      obtain ⟨L, h1, h2⟩ := go_sched m fuel (t / rs.length) (listed.setIfInBounds i true) (i :: acc) (by simpa using hs) (by omega)
      refine ⟨i :: L, by rw [h1]; simp, .cons ho (by rw [getD_b (by rw [hs]; exact hlt) false true, hl]; simp) (fun e he hb => ?_) ?_⟩
      · have := hr e he
        rw [hb] at this
        simpa using this
      · have e : (fun j => listed.getD j false = true ∨ j = i) = fun j => (listed.setIfInBounds i true).getD j false = true := by
          funext j
          apply propext
          by_cases hji : j = i
          · subst hji
            have hj : j < listed.size := by rw [hs]; exact hlt
            simp [Array.getD, hj]
          · have : (listed.setIfInBounds i true).getD j false = listed.getD j false := by
              simp only [Array.getD_eq_getD_getElem?]
              rw [Array.getElem?_setIfInBounds_ne (fun e => hji e.symm)]
            rw [this]
            simp [hji]
        rw [e]; exact h2
    · rename_i hn
      have hnil : rs = [] := by
        cases rs with
        | nil => rfl
        | cons a r =>
          exfalso
          have : t % (a :: r).length < (a :: r).length := Nat.mod_lt _ (by simp)
          rw [List.getElem?_eq_none_iff] at hn
          omega
      refine ⟨[], by simp, .nil fun i o ho hD => ?_⟩
      have hi : i < ops.size := (Array.getElem?_eq_some_iff.1 ho).1
      have hno : i ∉ rs := by rw [hnil]; simp
      rw [← hrs] at hno
      have hl : listed.getD i true = false := by
        rw [getD_b (by rw [hs]; exact hi) true false]; simpa using hD
      simp only [List.mem_filter, List.mem_range, Bool.and_eq_true, Bool.not_eq_true', hi, hl, ho, Option.map_some, Option.getD_some, true_and] at hno
      simp only [Array.all_eq_true'] at hno
      obtain ⟨e, h⟩ := Classical.not_forall.1 hno
      obtain ⟨he, h⟩ := Classical.not_imp.1 h
      simp only [Bool.or_eq_true, Bool.not_eq_true', not_or, Bool.not_eq_false] at h
      exact ⟨e, he, h.1, h.2⟩

theorem cnt_le (l : Array Bool) : ∀ n, cnt l n ≤ n
  | 0 => by simp [cnt]
  | n + 1 => by
    have := cnt_le l n
    simp only [cnt]
    split <;> omega
theorem lin_sched (m : Region.Mode) (t : Nat) : SchedM m ops (fun _ => False) (Region.linearise m ops t) := by
  unfold Region.linearise
  obtain ⟨L, h1, h2⟩ := go_sched (ops := ops) m ops.size t (Array.replicate ops.size false) [] (by simp) (cnt_le _ _)
  rw [h1]
  have e : (fun _ : Nat => False) = fun i => (Array.replicate ops.size false).getD i false = true := by
    funext i
    apply propext
    simp only [Array.getD_eq_getD_getElem?, Array.getElem?_replicate]
    split <;> simp
  rw [e]
  simpa using h2
/-- Where one order comes to all, none stops ahead of that. -/
theorem SchedM.all {m : Region.Mode} {D : Nat → Prop} (hst : ∀ i o, ops[i]? = some o → ¬ D i → ∃ e ∈ o.after, Region.binds m e = true ∧ ¬ D e.on) : ∀ {L : List Nat} {D0 : Nat → Prop}, SchedM m ops D0 L → (∀ i, D0 i → D i) → ∀ i ∈ L, D i
  | [], _, _, _, i, hi => by simp at hi
  | j :: L, D0, h, hs, i, hi => by
    cases h with
    | cons ho hD haf hr =>
      have hj : D j := by
        refine Classical.byContradiction fun hn => ?_
        obtain ⟨e, he, hb, hne⟩ := hst j _ ho hn
        exact hne (hs _ (haf e he hb))
      rcases List.mem_cons.1 hi with rfl | hi
      · exact hj
      · refine SchedM.all hst hr (fun k hk => ?_) i hi
        rcases hk with hk | rfl
        · exact hs k hk
        · exact hj
theorem binds_any {m : Region.Mode} {e : Edge} (h : Region.binds .any e = true) : Region.binds m e = true := by
  unfold Region.binds at h ⊢
  split <;> simp_all
theorem memN_mem {n : Nat} : ∀ {l : List Nat}, memN n l = true → n ∈ l
  | [], h => by simp [memN] at h
  | x :: xs, h => by
    simp only [memN] at h
    split at h
    · rename_i e
      simp only [Nat.beq_eq] at e
      subst e
      exact List.mem_cons_self ..
    · exact List.mem_cons_of_mem _ (memN_mem h)
theorem SchedM.any {m : Region.Mode} (hc : covers m ops = true) : ∀ {L : List Nat} {D : Nat → Prop}, SchedM m ops D L → Sched ops D L
  | [], D, h => by
    cases h with
    | nil hst =>
      refine .nil fun i o ho hD => ?_
      exfalso
      refine hD (SchedM.all hst (lin_sched m 0) (fun _ h => h.elim) i ?_)
      simp only [covers, List.all_eq_true, List.mem_range] at hc
      exact memN_mem (hc i (Array.getElem?_eq_some_iff.1 ho).1)
  | i :: L, D, h => by
    cases h with
    | cons ho hD haf hr => exact .cons ho hD (fun e he hb => haf e he (binds_any hb)) (SchedM.any hc hr)
theorem SchedM.any' : ∀ {L : List Nat} {D : Nat → Prop}, SchedM .any ops D L → Sched ops D L
  | [], D, h => by
    cases h with
    | nil hst => exact .nil hst
  | i :: L, D, h => by
    cases h with
    | cons ho hD haf hr => exact .cons ho hD haf (SchedM.any' hr)
theorem sched_of (hd : (!Region.departs ops || (covers .text ops && covers .gc ops)) = true) (mixed : Bool) (t : Nat) : Sched ops (fun _ => False) (Region.schedule mixed ops t) := by
  unfold Region.schedule
  split
  · exact (lin_sched .any t).any'
  · rename_i h
    simp only [Bool.or_eq_true, Bool.not_eq_true', not_or, Bool.not_eq_false] at h
    rw [h.2] at hd
    simp only [Bool.not_true, Bool.false_or, Bool.and_eq_true] at hd
    split
    · exact (lin_sched .text _).any hd.1
    · exact (lin_sched .gc _).any hd.2

theorem covered_some {b : Array Nat} {e : Option Nat} {done : Nat} : ∀ {n : Nat}, covered b e done n = true → ∀ i, i < n → Nat.testBit done i = true ∨ ∃ q, e = some q ∧ (i = q ∨ Nat.testBit (b.getD i 0) q = true)
  | 0, _, i, hi => by omega
  | n + 1, h, i, hi => by
    simp only [covered, Bool.and_eq_true, Bool.or_eq_true] at h
    by_cases hin : i = n
    · subst hin
      rcases h.1 with h | h
      · exact .inl h
      · cases e with
        | none => cases h
        | some q => simp only [Bool.or_eq_true, Nat.beq_eq] at h; exact .inr ⟨q, rfl, h⟩
    · exact covered_some h.2 i (by omega)

variable {P : Program} {rec : Task → Outs} {x : Cx}

/-- A plan's run: to its end, or to a panic. -/
theorem runPlan_cases {b : Array Nat} : ∀ {l : List PI} {pc : PCx} {outs : List Out}, runPlan P rec x ops b l pc = some outs →
    (∃ cEnd, runC P rec x ops pc l = some cEnd ∧ covered b none cEnd.done ops.size = true ∧ outs = [⟨.normal, cEnd.s⟩]) ∨
    (∃ l1 p ps c ch s, l = l1 ++ p :: ps ∧ runC P rec x ops pc l1 = some c ∧ pstep P rec x ops c p = .stop ch s ∧ restOK P rec x ops b p.i ps c = true ∧ outs = [⟨.panic ch, { s with T := anyD ops.toList c.s.T }⟩])
  | [], pc, outs, h => by
    simp only [runPlan] at h
    split at h
    · rename_i hc
      simp only [Option.some.injEq] at h
      exact .inl ⟨pc, rfl, hc, h.symm⟩
    · cases h
  | p :: ps, pc, outs, h => by
    simp only [runPlan] at h
    split at h
    · cases h
    · rename_i c1 hp
      rcases runPlan_cases h with ⟨cEnd, h1, h2, h3⟩ | ⟨l1, q, qs, c, ch, s, rfl, h2, h3⟩
      · exact .inl ⟨cEnd, by simp only [runC, hp]; exact h1, h2, h3⟩
      · exact .inr ⟨p :: l1, q, qs, c, ch, s, rfl, by simp only [runC, hp]; exact h2, h3⟩
    · rename_i ch s hp
      split at h
      · rename_i hr
        simp only [Option.some.injEq] at h
        exact .inr ⟨[], p, ps, pc, ch, s, rfl, rfl, hp, hr, h.symm⟩
      · cases h

def Cl.mild : Cl → Prop
  | .pure => True
  | .read => True
  | _ => False
theorem nonEff_mild {c : PCx} {p : PI} (h : p.cl.mild) (l : List (Nat × Option AObj)) (v : AV) : nonEff P x.base c p ≠ some (.wr l true v) := by
  intro e
  unfold nonEff at e
  cases hcl : p.cl <;> rw [hcl] at h e <;> simp only [Cl.mild] at h
  · simp only [aopOf] at e
    split at e <;> cases e
  · simp only at e
    split at e
    · split at e <;> cases e
    · cases e
theorem PStep.mild_top {c c1 : PCx} {p : PI} (h : PStep P rec x ops c p c1) (hm : p.cl.mild) : c1.s.top = c.s.top := by
  cases h with
  | skipN s _ _ h => exact putS_top h
  | skipE s _ he _ _ => cases hcl : p.cl <;> rw [hcl] at hm he <;> first | exact hm.elim | cases he
  | val v s _ _ _ h => exact putS_top h
  | new l v s _ _ hn _ _ => exact absurd hn (nonEff_mild hm l v)
  | eff r s _ he _ _ _ => cases hcl : p.cl <;> rw [hcl] at hm he <;> first | exact hm.elim | cases he
theorem restOK_some {b : Array Nat} {e : Nat} : ∀ {ps : List PI} {c : PCx}, restOK P rec x ops b e ps c = true →
    ∃ l2 cEnd, runC P rec x ops c l2 = some cEnd ∧ (∀ q ∈ l2, q ∈ ps ∧ q.cl.mild) ∧ covered b (some e) cEnd.done ops.size = true ∧ cEnd.s.top = c.s.top
  | [], c, h => ⟨[], c, rfl, by simp, h, rfl⟩
  | p :: ps, c, h => by
    have key : p.cl.mild → ∀ {c1 : PCx}, pstep P rec x ops c p = .go c1 → restOK P rec x ops b e ps c1 = true →
        ∃ l2 cEnd, runC P rec x ops c l2 = some cEnd ∧ (∀ q ∈ l2, q ∈ p :: ps ∧ q.cl.mild) ∧ covered b (some e) cEnd.done ops.size = true ∧ cEnd.s.top = c.s.top := by
      intro hm c1 hp h
      obtain ⟨l2, cEnd, h1, h2, h3, h4⟩ := restOK_some h
      obtain ⟨_, _, hst⟩ := pstep_go P rec x ops hp
      refine ⟨p :: l2, cEnd, by simp only [runC, hp]; exact h1, fun q hq => ?_, h3, h4.trans (hst.mild_top hm)⟩
      rcases List.mem_cons.1 hq with rfl | hq
      · exact ⟨List.mem_cons_self .., hm⟩
      · exact ⟨List.mem_cons_of_mem _ (h2 q hq).1, (h2 q hq).2⟩
    simp only [restOK] at h
    split at h
    · obtain ⟨l2, cEnd, h1, h2, h3⟩ := restOK_some h
      exact ⟨l2, cEnd, h1, fun q hq => ⟨List.mem_cons_of_mem _ (h2 q hq).1, (h2 q hq).2⟩, h3⟩
    · split at h
      · rename_i hcl
        split at h
        · rename_i c1 hp
          exact key (by rw [hcl]; trivial) hp h
        · cases h
      · rename_i hcl
        split at h
        · rename_i c1 hp
          exact key (by rw [hcl]; trivial) hp h
        · cases h
      · cases h

/-- The first one that is not done could be done next. -/
theorem first_ready {D : Nat → Prop} : ∀ {R : List PI} {a c : PCx}, runC P rec x ops a R = some c → (∀ i, Nat.testBit a.done i = true → D i) → ∀ q ∈ R, ¬ D q.i → ∃ q' ∈ R, ¬ D q'.i ∧ ∀ j, Nat.testBit q'.mask j = true → D j
  | [], _, _, _, _, q, hq, _ => by simp at hq
  | p :: R, a, c, h, hd, q, hq, hn => by
    obtain ⟨c1, h1, h2⟩ := runC_cons h
    obtain ⟨hs, _, hst⟩ := pstep_go P rec x ops h1
    by_cases hp : D p.i
    · have hq' : q ∈ R := by
        rcases List.mem_cons.1 hq with rfl | hq
        · exact absurd hp hn
        · exact hq
      obtain ⟨q', h3, h4, h5⟩ := first_ready h2 (fun i hi => by
        rw [hst.done] at hi
        rcases bit_or.1 hi with hi | rfl
        · exact hd i hi
        · exact hp) q hq' hn
      exact ⟨q', List.mem_cons_of_mem _ h3, h4, h5⟩
    · exact ⟨p, List.mem_cons_self .., hp, fun j hj => hd j (hs j hj)⟩

theorem mem_planAux {l : List (Nat × Oper)} {b : Array Nat} {done : Nat} {pick : Nat → Bool} {p : PI} (h : p ∈ planAux P l b done pick) : (p.i, p.o) ∈ l ∧ p.mask = b.getD p.i 0 ∧ clOf P p.o = some p.cl := by
  unfold planAux at h
  rw [List.mem_filterMap] at h
  obtain ⟨⟨i, o⟩, hm, h⟩ := h
  simp only at h
  split at h
  · cases h
  · split at h
    · rename_i cl hcl
      simp only [Option.some.injEq] at h
      subst h
      exact ⟨hm, rfl, hcl⟩
    · cases h
theorem mem_planGo {l : List (Nat × Oper)} {b : Array Nat} {p : PI} : ∀ {es : List Nat} {done : Nat}, p ∈ planGo P l b es done → (p.i, p.o) ∈ l ∧ p.mask = b.getD p.i 0 ∧ clOf P p.o = some p.cl
  | [], done, h => mem_planAux h
  | e :: es, done, h => by
    simp only [planGo, List.mem_append] at h
    rcases h with h | h | h
    · exact mem_planAux h
    · exact mem_planAux h
    · exact mem_planGo h
theorem plan_some {l : List PI} {b : Array Nat} (h : plan P ops = some (l, b)) : Stat ops (fun i => b.getD i 0) ∧ (!Region.departs ops || (covers .text ops && covers .gc ops)) = true ∧ ∀ p ∈ l, ops[p.i]? = some p.o ∧ p.mask = b.getD p.i 0 ∧ clOf P p.o = some p.cl := by
  unfold plan at h
  simp only at h
  split at h
  · cases h
  · rename_i hok
    rw [Bool.and_eq_true, Bool.and_eq_true] at hok
    simp only [Option.some.injEq, Prod.mk.injEq] at h
    obtain ⟨rfl, rfl⟩ := h
    refine ⟨stat_of hok.1.1 hok.1.2, hok.2, fun p hp => ?_⟩
    obtain ⟨h1, h2⟩ := mem_planGo hp
    refine ⟨?_, h2⟩
    rw [List.mem_map] at h1
    obtain ⟨⟨o, i⟩, hm, he⟩ := h1
    simp only [Prod.mk.injEq] at he
    obtain ⟨rfl, rfl⟩ := he
    rw [List.mem_zipIdx_iff_getElem?] at hm
    simpa using hm
theorem clOf_defer {o : Oper} {cl : Cl} (h : clOf P o = some cl) : ∀ c, o.op ≠ .defer c := by
  intro c hc
  unfold clOf at h
  rw [hc] at h
  simp at h
end
end Go.AE
/-
  The evaluator is sound, nineteenth part: drawn regions.
-/
namespace Go.AE
section
variable {P : Program} {rec : Task → Outs} {x : Cx} {s : S} {ops : Array Oper} {B : Nat → Prop} {w0 : World} {θ : Th} {G : Hp} {w : World} {fn : FuncId} {kind : CallKind} {rof : Option Nat} {tmps : Array Value} {defers : List Deferred} {k : List Item} {cs : List Frame} {pk : Option (List PanicEntry)}

/-- A drawn region goes on until all is done, or until one of some operations is next. -/
theorem region_run (hg : Good rec) (hs : Sound P rec) {mk : Nat → Nat} {θ0 : Th} {G0 : Hp} {cEnd : PCx} {Top : Lay} (hTop : Mo x.base cEnd.s.top Top) (Bad : Nat → Prop) (Q : PCx → List PI → Prop)
    (hQ : ∀ cA l1 p l2 c c1, Q cA (l1 ++ p :: l2) → p.cl.isEff = true → runC P rec x ops cA l1 = some c → pstep P rec x ops c p = .go c1 → Q c1 l2) :
    ∀ (L : List Nat) (D : Nat → Prop) (cA : PCx) (R : List PI) (θ : Th) (G : Hp) (w : World) (tmps : Array Value) (defers : List Deferred) (pk : Option (List PanicEntry)),
      Sched ops D L → Fix P rec ops mk R D → (∀ p ∈ R, ∀ c, p.o.op ≠ .defer c) → J P rec x ops B w0 kind cs θ0 G0 D cA R cEnd Top θ G w tmps defers pk → RofR θ x.round rof → (∀ i, Bad i → ¬ D i) →
      (∀ i, i < ops.size → Nat.testBit cA.done i = true ∨ (∃ q ∈ R, q.i = i) ∨ Bad i) → Q cA R →
      ∃ D' cA' R' L' θ' G' w' tmps' defers' pk', Steps P (lone (AFr fn kind rof tmps defers (.inRegion ops L :: k) .run) (cal pk cs) w) (lone (AFr fn kind rof tmps' defers' (.inRegion ops L' :: k) .run) (cal pk' cs) w') ∧
        J P rec x ops B w0 kind cs θ0 G0 D' cA' R' cEnd Top θ' G' w' tmps' defers' pk' ∧ Fix P rec ops mk R' D' ∧ RofR θ' x.round rof ∧ (∀ i, Bad i → ¬ D' i) ∧ Q cA' R' ∧ Mo x.base cA.s.top cA'.s.top ∧
        ((L' = [] ∧ ∀ i o, ops[i]? = some o → ¬ D' i → ∃ e ∈ o.after, Region.binds .any e = true ∧ ¬ D' e.on) ∨ ∃ i L'', L' = i :: L'' ∧ Bad i ∧ ∀ j, j < ops.size → Nat.testBit (mk i) j = true → D' j) := by
  intro L
  induction L with
  | nil =>
    intro D cA R θ G w tmps defers pk hsc hF hnd hJ hrof hbad hcov hq
    cases hsc with
    | nil hfin => exact ⟨D, cA, R, [], θ, G, w, tmps, defers, pk, .refl _ _, hJ, hF, hrof, hbad, hq, Mo.refl _ _, .inl ⟨rfl, hfin⟩⟩
  | cons i L ih =>
    intro D cA R θ G w tmps defers pk hsc hF hnd hJ hrof hbad hcov hq
    cases hsc with
    | cons ho hD hafter hrest =>
      rename_i o
      have hi := lt_of_op ho
      have hready : ∀ j, j < ops.size → Nat.testBit (mk i) j = true → D j := by
        intro j hj hb
        obtain ⟨e, he, hbe, h⟩ := hF.stat.mask i o j ho hj hb
        have hDe := hafter e he hbe
        rcases h with rfl | h
        · exact hDe
        · exact hF.closed e.on hDe j hj h
      by_cases hB : Bad i
      · exact ⟨D, cA, R, i :: L, θ, G, w, tmps, defers, pk, .refl _ _, hJ, hF, hrof, hbad, hq, Mo.refl _ _, .inr ⟨i, L, rfl, hB, hready⟩⟩
      · rcases hcov i hi with h | ⟨q, hqR, hqi⟩ | h
        · exact absurd (hJ.dA i h) hD
        · obtain ⟨l1, l2, rfl⟩ := List.append_of_mem hqR
          subst hqi
          have hbad' : ∀ j, Bad j → ¬ (D j ∨ j = q.i) := by
            rintro j hj (h | rfl)
            · exact hbad j hj h
            · exact hB hj
          have hclosed' : ∀ i, (D i ∨ i = q.i) → ∀ j, j < ops.size → Nat.testBit (mk i) j = true → (D j ∨ j = q.i) := by
            rintro i (h | rfl) j hj hb
            · exact .inl (hF.closed i h j hj hb)
            · exact .inl (hready j hj hb)
          cases hcl : q.cl.isEff with
          | false =>
            obtain ⟨θ1, G1, w1, y, hle, hst, hJ1⟩ := hJ.non (fn := fn) (rof := rof) (k := k) (cs' := cal pk cs) (rest := L) hg hF hTop hcl hD hready (.inr (hnd q hqR))
            obtain ⟨D', cA', R', L', θ', G', w', t', d', pk', h1, h2⟩ := ih _ cA (l1 ++ q :: l2) θ1 G1 w1 _ defers pk hrest ⟨hF.stat, hF.plan, hclosed'⟩ hnd hJ1 (hrof.mono hle) hbad' hcov hq
            exact ⟨D', cA', R', L', θ', G', w', t', d', pk', .head hst h1, h2⟩
          | true =>
            obtain ⟨c, c1, θ1, G1, w1, t1, d1, pk1, ⟨hc, hp⟩, hle, hst, hJ1⟩ := hJ.eff (fn := fn) (rof := rof) (k := k) (rest := L) hg hs hF hTop hcl hD hready hrof
            have hcov1 : ∀ i, i < ops.size → Nat.testBit c1.done i = true ∨ (∃ q ∈ l2, q.i = i) ∨ Bad i := by
              intro i hi
              obtain ⟨_, _, hps⟩ := pstep_go P rec x ops hp
              have hdn : ∀ i, Nat.testBit c1.done i = true ↔ (Nat.testBit cA.done i = true ∨ ∃ p ∈ l1, p.i = i) ∨ q.i = i := by
                intro i
                rw [hps.done, bit_or, runC_done hc]
              rcases hcov i hi with h | ⟨r, hr, hri⟩ | h
              · exact .inl ((hdn i).2 (.inl (.inl h)))
              · rcases List.mem_append.1 hr with hr | hr
                · exact .inl ((hdn i).2 (.inl (.inr ⟨r, hr, hri⟩)))
                · rcases List.mem_cons.1 hr with rfl | hr
                  · exact .inl ((hdn i).2 (.inr hri))
                  · exact .inr (.inl ⟨r, hr, hri⟩)
              · exact .inr (.inr h)
            obtain ⟨D', cA', R', L', θ', G', w', t', d', pk', h1, h2, h3, h4, h5, h6, h7, h8⟩ := ih _ c1 l2 θ1 G1 w1 t1 d1 pk1 hrest ⟨hF.stat, fun p hp => hF.plan p (by simp [hp]), hclosed'⟩ (fun p hp => hnd p (by simp [hp])) hJ1 (hrof.mono hle) hbad' hcov1 (hQ cA l1 q l2 c c1 hq hcl hc hp)
            exact ⟨D', cA', R', L', θ', G', w', t', d', pk', hst.trans h1, h2, h3, h4, h5, h6, ((runC_mo hg hc).trans ((good_pstep hg).1 _ hp)).trans h7, h8⟩
        · exact absurd h hB

theorem sound_plan (hg : Good rec) (hs : Sound P rec) {l : List PI} {b : Array Nat} {outs : List Out} {id : Nat} (hp : plan P ops = some (l, b)) (h : runPlan P rec x ops b l { s, cur := s.top, olds := [], done := 0 } = some outs)
    (hst : St B w0 x kind cs s θ G w tmps defers pk) (hfn : FN θ G x.base s.top outs) (hrof : RofR θ x.round rof) :
    Gets P B w0 x s.top θ G (lone (AFr fn kind rof tmps defers (.code (.region id ops true) :: k) .run) (cal pk cs) w) fn kind rof k cs outs := by
  obtain ⟨hstat, hdep, hmem⟩ := plan_some hp
  have hsch := sched_of hdep (P.follows .mixedOrders) (w.tape w.drawn (.order fn id))
  generalize hL : Region.schedule (P.follows .mixedOrders) ops (w.tape w.drawn (.order fn id)) = L at hsch
  have hinv : Inv B w0 θ G { w with drawn := w.drawn + 1 } s.top x.base := ⟨hst.inv.hr.drew _, hst.inv.agree⟩
  have hstart : Go.step P (lone (AFr fn kind rof tmps defers (.code (.region id ops true) :: k) .run) (cal pk cs) w) = .next (lone (AFr fn kind rof tmps defers (.inRegion ops L :: k) .run) (cal pk cs) { w with drawn := w.drawn + 1 }) := by
    rw [← hL]; exact m_region_draw
  -- at the outset
  have hJ0 : ∀ (R : List PI) (cEnd : PCx) (Top : Lay), runC P rec x ops { s, cur := s.top, olds := [], done := 0 } R = some cEnd → (∀ n, raw s.top x.base n = none → raw Top x.base n ≠ none → Free θ G n) →
      J P rec x ops B w0 kind cs θ G (fun _ => False) { s, cur := s.top, olds := [], done := 0 } R cEnd Top θ G { w with drawn := w.drawn + 1 } tmps defers pk := by
    intro R cEnd Top hrun hfree
    exact ⟨hrun, rfl, fun i h => by simp at h, fun _ _ h => h.elim, hst.tr.size, fun _ _ _ h => h.elim, fun t _ => hst.tr.val t, hinv, fun n o ⟨_, _, _, _, _, _, _, _, h, _⟩ => h.elim, fun n h1 h2 _ => hfree n h1 h2, Th.Le.refl θ, fun _ _ => ⟨⟨rfl, rfl⟩, rfl⟩, hst.dr, hst.rc⟩
  have hF0 : ∀ (R : List PI), (∀ p ∈ R, p ∈ l) → Fix P rec ops (fun i => b.getD i 0) R (fun _ => False) := fun R hR => ⟨hstat, fun p hp => ⟨(hmem p (hR p hp)).1, (hmem p (hR p hp)).2.1⟩, fun _ h => h.elim⟩
  have hnd0 : ∀ (R : List PI), (∀ p ∈ R, p ∈ l) → ∀ p ∈ R, ∀ c, p.o.op ≠ .defer c := fun R hR p hp => clOf_defer (hmem p (hR p hp)).2.2
  -- what is left is none
  have hend : ∀ {D' : Nat → Prop} {cA' cEnd : PCx} {R' : List PI}, runC P rec x ops cA' R' = some cEnd → (∀ i, Nat.testBit cA'.done i = true → D' i) → Fix P rec ops (fun i => b.getD i 0) R' D' →
      (∀ i o, ops[i]? = some o → ¬ D' i → ∃ e ∈ o.after, Region.binds .any e = true ∧ ¬ D' e.on) → ∀ q ∈ R', D' q.i := by
    intro D' cA' cEnd R' hrun hdn hF hfin q hq
    refine Classical.byContradiction fun hn => ?_
    obtain ⟨q', h1, h2, h3⟩ := first_ready hrun hdn q hq hn
    obtain ⟨hqo, hqm⟩ := hF.plan q' h1
    obtain ⟨e, he, hb, hne⟩ := hfin q'.i q'.o hqo h2
    exact hne (h3 _ (by rw [hqm]; exact hF.stat.after q'.i q'.o e hqo he hb))
  rcases runPlan_cases h with ⟨cEnd, hrun, hcov, rfl⟩ | ⟨l1, p, ps, c, ch, s2, rfl, hrun, hps, hrest, rfl⟩
  · have hmoE := runC_mo hg hrun
    have hfree : ∀ n, raw s.top x.base n = none → raw cEnd.s.top x.base n ≠ none → Free θ G n := fun n h1 h2 => hfn _ (List.mem_singleton.2 rfl) n h1 h2
    obtain ⟨D', cA', R', L', θ', G', w', t', d', pk', h1, h2, h3, h4, h5, _, _, h8⟩ := region_run (fn := fn) (rof := rof) (k := k) hg hs (Mo.refl _ _) (fun _ => False) (fun _ _ => True) (fun _ _ _ _ _ _ _ _ _ _ => trivial) L _ _ l θ G _ tmps defers pk hsch (hF0 l fun p hp => hp) (hnd0 l fun p hp => hp) (hJ0 l cEnd cEnd.s.top hrun hfree) hrof (fun _ h => h.elim) (fun i hi => by
      rcases covered_some hcov i hi with h | ⟨q, h, _⟩
      · rcases (runC_done hrun i).1 h with h | h
        · exact .inl h
        · exact .inr (.inl h)
      · cases h) trivial
    rcases h8 with ⟨rfl, hfin⟩ | ⟨_, _, _, h, _⟩
    · have hall := hend h2.run h2.dA h3 hfin
      have hcur := runC_non h2.run fun q hq => h2.noE q hq (hall q hq)
      refine ⟨_, List.mem_singleton.2 rfl, θ', G', w', t', d', pk', ⟨J.inv_at (l1 := R') (l2 := []) (by simpa using h2) h2.run hall, ⟨h2.size, fun t => ?_⟩, by show DRL _ cEnd.s.ds _; rw [hcur.2.2.1]; exact h2.dr, by show RcR _ cEnd.s.rc _ _ _; rw [hcur.2.2.2]; exact h2.rc⟩, ⟨h2.le, hmoE, fun n hn => h2.far n hn⟩, (Steps.one hstart).trans (h1.trans (.one m_region_end))⟩
      by_cases hw : ∃ q ∈ R', q.o.dst = some t
      · obtain ⟨q, hq, hqd⟩ := hw
        exact h2.slotX t q hq (hall q hq) hqd
      · have e : getT cEnd.s.T t = getT cA'.s.T t := runC_T h2.run t fun q hq hqd => hw ⟨q, hq, hqd⟩
        show VR θ' (getT cEnd.s.T t) _
        rw [e]
        exact h2.slotA t fun q hq _ hqd => hw ⟨q, hq, hqd⟩
    · exact h.elim
  · obtain ⟨l2, cEnd, hr2, hmild, hcov, htop⟩ := restOK_some hrest
    have hpl : p ∈ l1 ++ p :: ps := by simp
    obtain ⟨hpo, hpm, hpcl⟩ := hmem p hpl
    obtain ⟨hsm, hf, hsub, hpe, hw, _⟩ := pstep_stop P rec x ops hps
    have hmoS := (good_pstep hg).2 _ _ hps
    have hRl : ∀ q ∈ l1 ++ l2, q ∈ l1 ++ p :: ps := by
      intro q hq
      rcases List.mem_append.1 hq with hq | hq
      · simp [hq]
      · have := (hmild q hq).1
        simp [this]
    have hrunR := runC_append hrun hr2
    have hfree : ∀ n, raw s.top x.base n = none → raw s2.top x.base n ≠ none → Free θ G n := fun n h1 h2 => hfn _ (List.mem_singleton.2 rfl) n h1 h2
    have hTop : Mo x.base cEnd.s.top s2.top := by rw [htop]; exact hmoS
    obtain ⟨D', cA', R', L', θ', G', w', t', d', pk', h1, h2, h3, h4, h5, ⟨m1, rfl, hm1⟩, h7, h8⟩ := region_run (fn := fn) (rof := rof) (k := k) hg hs hTop (fun i => i = p.i ∨ Nat.testBit (b.getD i 0) p.i = true)
      (fun cA R => ∃ m1, R = m1 ++ l2 ∧ runC P rec x ops cA m1 = some c) (by
        rintro cA n1 q n2 a a1 ⟨m1, hR, hm1⟩ hqe ha hq
        rcases List.append_eq_append_iff.1 hR with ⟨r, h1, h2⟩ | ⟨r, h1, h2⟩
        · -- m1 = n1 ++ r
          cases r with
          | nil =>
            exfalso
            simp only [List.nil_append] at h2
            have := (hmild q (by rw [← h2]; simp)).2
            cases hcl : q.cl <;> rw [hcl] at this hqe <;> first | exact this.elim | cases hqe
          | cons z r =>
            simp only [List.cons_append, List.cons.injEq] at h2
            obtain ⟨rfl, rfl⟩ := h2
            refine ⟨r, rfl, ?_⟩
            rw [h1] at hm1
            obtain ⟨b', hb1, hb2⟩ := runC_split hm1
            rw [ha] at hb1
            simp only [Option.some.injEq] at hb1
            subst hb1
            obtain ⟨c2, hb3, hb4⟩ := runC_cons hb2
            rw [hq] at hb3
            simp only [PR1.go.injEq] at hb3
            subst hb3
            exact hb4
        · exfalso
          have : q ∈ l2 := by rw [h2]; simp
          have := (hmild q this).2
          cases hcl : q.cl <;> rw [hcl] at this hqe <;> first | exact this.elim | cases hqe)
      L _ _ (l1 ++ l2) θ G _ tmps defers pk hsch (hF0 _ hRl) (hnd0 _ hRl) (hJ0 _ cEnd s2.top hrunR hfree) hrof (fun _ _ h => h) (fun i hi => by
        rcases covered_some hcov i hi with h | ⟨q, h, h'⟩
        · rcases (runC_done hrunR i).1 h with h | h
          · exact .inl h
          · exact .inr (.inl h)
        · simp only [Option.some.injEq] at h
          subst h
          exact .inr (.inr h')) ⟨l1, rfl, hrun⟩
    have hnp : ¬ D' p.i := h5 p.i (.inl rfl)
    rcases h8 with ⟨rfl, hfin⟩ | ⟨i, L'', rfl, hbad, hready⟩
    · exfalso
      have hall := hend h2.run h2.dA h3 hfin
      obtain ⟨e, he, hb, hne⟩ := hfin p.i p.o hpo hnp
      have hbit := hsm _ (by rw [hpm]; exact hstat.after p.i p.o e hpo he hb)
      rcases (runC_done hm1 e.on).1 hbit with h | ⟨q, hq, h⟩
      · exact hne (h2.dA _ h)
      · rw [← h] at hne
        exact hne (hall q (by simp [hq]))
    · have hip : i = p.i := by
        rcases hbad with h | h
        · exact h
        · exact absurd (hready p.i (lt_of_op hpo) h) hnp
      subst hip
      have hahead := h2.ahead h3 rfl hpm hready hm1 hsub
      have hslots : ∀ t, ((.tmp t) ∈ p.o.op.operands ∨ ∃ g want, p.o.guard = some (g, want) ∧ (ops[g]?).bind (·.dst) = some t) → VR θ' (getT c.s.T t) (t'.getD t undef) := by
        intro t ht
        have hlook : ∀ i oi, ops[i]? = some oi → oi.dst = some t → looks p.o i t = true := by
          intro i oi hi hd
          unfold looks
          rcases ht with ht | ⟨g, want, hg, hgd⟩
          · rw [Bool.or_eq_true]
            left
            rw [List.any_eq_true]
            exact ⟨.tmp t, by simpa using ht, by simp⟩
          · rw [Bool.or_eq_true]
            right
            rw [hg]
            simp only [Nat.beq_eq]
            cases hog : ops[g]? with
            | none => rw [hog] at hgd; simp at hgd
            | some og =>
              rw [hog] at hgd
              simp only [Option.bind_some] at hgd
              by_cases e : g = i
              · exact e
              · exact absurd hd ((hstat.slot g i og oi t hog hi hgd e).1)
        by_cases hwr : ∃ q ∈ m1, q.o.dst = some t
        · obtain ⟨q, hq, hqd⟩ := hwr
          obtain ⟨hqo, _⟩ := h3.plan q (by simp [hq])
          have hv := h2.slotX t q (by simp [hq]) (hahead.1 q hq) hqd
          have hr2' : runC P rec x ops c l2 = some cEnd := hr2
          have e : getT cEnd.s.T t = getT c.s.T t := runC_T hr2' t fun r hr hrd => by
            obtain ⟨hro, _⟩ := h3.plan r (by simp [hr])
            have hne : q.i ≠ r.i := by
              intro e
              have h4 := runC_fresh hr2' r hr
              have : Nat.testBit c.done r.i = true := (runC_done hm1 r.i).2 (.inr ⟨q, hq, e⟩)
              rw [h4] at this; cases this
            exact (hstat.slot q.i r.i q.o r.o t hqo hro hqd hne).1 hrd
          rw [← e]; exact hv
        · have e : getT c.s.T t = getT cA'.s.T t := runC_T hm1 t fun q hq hqd => hwr ⟨q, hq, hqd⟩
          rw [e]
          refine h2.slotA t fun q hq hDq hqd => ?_
          rcases List.mem_append.1 hq with hq1 | hq2
          · exact hwr ⟨q, hq1, hqd⟩
          · obtain ⟨hqo, hqm⟩ := h3.plan q hq
            have hne : q.i ≠ p.i := by
              intro e
              rw [e] at hDq
              exact hnp hDq
            obtain ⟨_, h⟩ := hstat.slot q.i p.i q.o p.o t hqo hpo hqd hne
            rcases h with h | h | h
            · have hb := hsm q.i (by rw [hpm]; exact h)
              have h4 := runC_fresh hr2 q hq2
              rw [h4] at hb; cases hb
            · exact hnp (h3.closed q.i hDq p.i (lt_of_op hpo) h)
            · rw [hlook q.i q.o hqo hqd] at h; cases h
      have := h2.stop (rest := L'') (fn := fn) (rof := rof) (k := k) (top0 := s.top) hg hs h3 hm1 hpo hpm hps hready hslots (fun q hq _ c' l' v' => nonEff_mild (hmild q hq).2 l' v') h4 h7
      exact this.steps ((Steps.one hstart).trans h1) (Ext.refl _ _ _ _) fun q hq => hq
end
end Go.AE
/-
  The evaluator is sound, twentieth part: a step, and with it any number of them.
-/
namespace Go.AE
section
variable {P : Program} {rec : Task → Outs}

theorem sound_code (hg : Good rec) (hs : Sound P rec) {x : Cx} {c : Code} {s : S} {outs : List Out} (h : stepCode P rec x c s = some outs) : SoundT P (.code x c s) outs := by
  intro B w0 θ G w fn kind rof tmps defers k cs pk hst hfn hrof
  cases c with
  | skip =>
    simp only [stepCode, Option.some.injEq] at h; subst h
    exact .here hst rfl (.one m_skip)
  | label l =>
    simp only [stepCode, Option.some.injEq] at h; subst h
    exact .here hst rfl (.one m_label)
  | exit id =>
    simp only [stepCode, Option.some.injEq] at h; subst h
    exact .here hst rfl ⟨k, rfl, .refl _ _⟩
  | ret =>
    simp only [stepCode, Option.some.injEq] at h; subst h
    exact .here hst rfl ⟨k, .refl _ _⟩
  | seq a b => exact sound_seq hg hs h hst hfn hrof
  | cond cc a b => exact sound_cond hs h hst hfn hrof
  | block id b => exact sound_block hs h hst hfn hrof
  | scope b => exact sound_scope hs h hst hfn hrof
  | loop b => exact sound_loop hg hs h hst hfn hrof
  | region id ops draw =>
    simp only [stepCode] at h
    split at h
    · have := sound_ops (x := x) (fn := fn) (kind := kind) (rof := rof) (k := k) (cs := cs) (B := B) (w0 := w0) (ops := ops) hg hs ops.toList 0 s outs (by simp) h θ G w tmps defers pk hst hfn hrof
      refine this.steps (.one ?_) (Ext.refl _ _ _ _) fun q hq => hq
      rw [m_region, List.range_eq_range', Array.length_toList]
    · split at h
      · rename_i l b hp
        exact sound_plan hg hs hp h hst hfn hrof
      · cases h
  | rangeFunc f params assign body => exact sound_rangeFunc hg hs h hst hfn hrof
  | goto l => simp [stepCode] at h
  | refuse w => simp [stepCode] at h

theorem sound_step (hg : Good rec) (hs : Sound P rec) : Sound P (step P rec) := by
  intro t outs h
  cases t with
  | code x c s => exact sound_code hg hs h
  | call base f args s => exact sound_call hg hs h
  | unw x f m s => exact sound_unw hg hs h
  | round base l args s => exact sound_round hg hs h
theorem sound_ev : ∀ n, Sound P (ev P n)
  | 0 => fun _ _ h => by simp [ev] at h
  | n + 1 => sound_step (good_ev n) (sound_ev n)
end
end Go.AE
