/-
  The evaluator is sound: code, calls, rounds of ranges over functions.
-/
import Derived.Test.YthlkchahlmkpiaaGreatDoorAEc
/-
  The evaluator is sound, first part: layers; what is known stays known.
-/
namespace Go.AE

theorem raw_setL (t : Lay) (base : List Lay) (n k : Nat) (x : Option AObj) : raw (setL t n x) base k = if n = k then some x else raw t base k := by
  cases base <;> simp only [raw, getL_setL] <;> (by_cases h : n = k <;> simp [h])
theorem raw_nil (a : Lay) (base : List Lay) (k : Nat) : raw .nil (a :: base) k = raw a base k := by
  simp only [raw, getL_nil]
theorem look_some {top : Lay} {base : List Lay} {n : Nat} {o : AObj} (h : look top base n = some o) : raw top base n = some (some o) := by
  unfold look at h
  split at h
  · simp only [Option.some.injEq] at h; subst h; assumption
  · cases h
theorem raw_applyW_ne : ∀ (l : List (Nat × Option AObj)) (t : Lay) (base : List Lay) (k : Nat), (∀ o, (k, o) ∉ l) → raw (applyW l t) base k = raw t base k
  | [], _, _, _, _ => rfl
  | (n, o) :: l, t, base, k, h => by
    simp only [applyW]
    rw [raw_applyW_ne l _ base k fun o ho => h o (List.mem_cons_of_mem _ ho), raw_setL, if_neg]
    rintro rfl
    exact h o (List.mem_cons_self ..)
theorem raw_applyW_mono : ∀ (l : List (Nat × Option AObj)) (t : Lay) (base : List Lay) (k : Nat), raw t base k ≠ none → raw (applyW l t) base k ≠ none
  | [], _, _, _, h => h
  | (n, o) :: l, t, base, k, h => by
    simp only [applyW]
    refine raw_applyW_mono l _ base k ?_
    rw [raw_setL]
    split
    · simp
    · exact h
theorem raw_applyW_mem : ∀ (l : List (Nat × Option AObj)) (t : Lay) (base : List Lay) (k : Nat) (o : Option AObj), (k, o) ∈ l → raw (applyW l t) base k ≠ none
  | [], _, _, _, _, h => by simp at h
  | (n, o') :: l, t, base, k, o, h => by
    simp only [applyW]
    rcases List.mem_cons.1 h with h | h
    · cases h
      refine raw_applyW_mono l _ base _ ?_
      rw [raw_setL, if_pos rfl]; simp
    · exact raw_applyW_mem l _ base k o h
/-- Writes into the layers and into what is known: they agree. -/
theorem agree_applyW : ∀ (l : List (Nat × Option AObj)) (t : Lay) (base : List Lay) (G : Hp), (∀ n y, raw t base n = some y → G n = y) → ∀ n y, raw (applyW l t) base n = some y → applyG l G n = y
  | [], _, _, _, h => h
  | (k, o) :: l, t, base, G, h => by
    simp only [applyW, applyG]
    refine agree_applyW l _ base _ fun n y hn => ?_
    rw [raw_setL] at hn
    simp only [Hp.set]
    by_cases e : k = n
    · subst e
      rw [if_pos rfl] at hn ⊢
      simpa using hn
    · rw [if_neg e] at hn
      rw [if_neg fun e' => e e'.symm]
      exact h n y hn
theorem applyG_ne : ∀ (l : List (Nat × Option AObj)) (G : Hp) (k : Nat), (∀ o, (k, o) ∉ l) → applyG l G k = G k
  | [], _, _, _ => rfl
  | (n, o) :: l, G, k, h => by
    simp only [applyG]
    rw [applyG_ne l _ k fun o ho => h o (List.mem_cons_of_mem _ ho)]
    simp only [Hp.set]
    have hne : k ≠ n := by
      rintro rfl
      exact h o (List.mem_cons_self ..)
    rw [if_neg hne]

theorem getP_union : ∀ (p : List D8) (a b : Lay), getP none p (unionT a b) = orV (getP none p a) (getP none p b)
  | [], a, b => by cases a <;> cases b <;> simp [unionT, getP, orV] <;> (split <;> simp_all)
  | c :: p, a, b => by
    cases b with
    | nil => cases a <;> simp [unionT, getP, orV]
    | node v' c0' c1' c2' c3' c4' c5' c6' c7' =>
      cases a with
      | nil =>
        simp only [unionT, getP]
        cases c <;> simp only [orV] <;> (split <;> simp_all)
      | node v c0 c1 c2 c3 c4 c5 c6 c7 => cases c <;> simp only [unionT, getP] <;> exact getP_union p _ _
theorem raw_union (a b : Lay) (base : List Lay) (n : Nat) : raw (unionT a b) base n = raw b (a :: base) n := by
  have h : getL (unionT a b) n = orV (getL a n) (getL b n) := getP_union _ _ _
  cases base with
  | nil =>
    simp only [raw, h, orV]
    cases getL b n <;> simp
  | cons c cs =>
    simp only [raw, h, orV]
    cases getL b n <;> simp

/-- What was known is known. -/
def Mo (base : List Lay) (top top' : Lay) : Prop := ∀ n, raw top base n ≠ none → raw top' base n ≠ none
theorem Mo.refl (base : List Lay) (top : Lay) : Mo base top top := fun _ h => h
theorem Mo.trans {base : List Lay} {a b c : Lay} (h : Mo base a b) (k : Mo base b c) : Mo base a c := fun n e => k n (h n e)
theorem Mo.setL (base : List Lay) (top : Lay) (n : Nat) (x : Option AObj) : Mo base top (setL top n x) := fun k h => by
  rw [raw_setL]
  split
  · simp
  · exact h
theorem Mo.applyW (base : List Lay) (top : Lay) (l : List (Nat × Option AObj)) : Mo base top (applyW l top) := fun k h => raw_applyW_mono l top base k h

structure GoodO (base : List Lay) (top : Lay) (outs : List Out) : Prop where
  ne : outs ≠ []
  mo : ∀ o ∈ outs, Mo base top o.s.top
theorem GoodO.one (base : List Lay) (top : Lay) (o : Out) (h : Mo base top o.s.top) : GoodO base top [o] := ⟨by simp, fun o' h' => by rw [List.mem_singleton.1 h']; exact h⟩
theorem GoodO.from {base : List Lay} {top top' : Lay} {outs : List Out} (h : GoodO base top' outs) (k : Mo base top top') : GoodO base top outs := ⟨h.ne, fun o ho => k.trans (h.mo o ho)⟩

/-- What a list of continuations gives: each one's is among it. -/
theorem bindO_some {f : Out → Outs} : ∀ {l outs : List Out}, bindO f l = some outs → (∀ o ∈ l, ∃ a, f o = some a ∧ ∀ q ∈ a, q ∈ outs) ∧ ∀ q ∈ outs, ∃ o ∈ l, ∃ a, f o = some a ∧ q ∈ a
  | [], outs, h => by simp only [bindO, Option.some.injEq] at h; subst h; simp
  | o :: os, outs, h => by
    simp only [bindO] at h
    split at h
    · cases h
    · rename_i a ha
      cases os with
      | nil =>
        simp only [Option.some.injEq] at h
        subst h
        refine ⟨fun o' ho' => ?_, fun q hq => ⟨o, List.mem_cons_self .., a, ha, hq⟩⟩
        rw [List.mem_singleton.1 ho']
        exact ⟨a, ha, fun q hq => hq⟩
      | cons o2 os2 =>
        simp only at h
        split at h
        · cases h
        · rename_i b hb
          simp only [Option.some.injEq] at h
          subst h
          obtain ⟨h1, h2⟩ := bindO_some hb
          refine ⟨fun o' ho' => ?_, fun q hq => ?_⟩
          · rcases List.mem_cons.1 ho' with rfl | ho'
            · exact ⟨a, ha, fun q hq => List.mem_append_left _ hq⟩
            · obtain ⟨a', ha', hs⟩ := h1 o' ho'
              exact ⟨a', ha', fun q hq => List.mem_append_right _ (hs q hq)⟩
          · rcases List.mem_append.1 hq with hq | hq
            · exact ⟨o, List.mem_cons_self .., a, ha, hq⟩
            · obtain ⟨o', ho', r⟩ := h2 q hq
              exact ⟨o', List.mem_cons_of_mem _ ho', r⟩
theorem bindS_some {x : Outs} {f : Out → Outs} {outs : List Out} (h : bindS x f = some outs) : ∃ l, x = some l ∧ bindO f l = some outs := by
  unfold bindS at h
  split at h
  · cases h
  · rename_i l
    exact ⟨l, rfl, h⟩
theorem GoodO.bind {base : List Lay} {top : Lay} {l outs : List Out} {f : Out → Outs} (h : GoodO base top l) (hb : bindO f l = some outs) (hf : ∀ o ∈ l, ∀ a, f o = some a → GoodO base o.s.top a) : GoodO base top outs := by
  obtain ⟨h1, h2⟩ := bindO_some hb
  constructor
  · intro e
    cases l with
    | nil => exact h.ne rfl
    | cons o os =>
      obtain ⟨a, ha, hs⟩ := h1 o (List.mem_cons_self ..)
      have hg := hf o (List.mem_cons_self ..) a ha
      cases a with
      | nil => exact hg.ne rfl
      | cons q _ => have := hs q (List.mem_cons_self ..); rw [e] at this; simp at this
  · intro q hq
    obtain ⟨o, ho, a, ha, hqa⟩ := h2 q hq
    exact (h.mo o ho).trans ((hf o ho a ha).mo q hqa)

def Task.top : Task → Lay
  | .code _ _ s => s.top
  | .call _ _ _ s => s.top
  | .unw _ _ _ s => s.top
  | .round _ _ _ s => s.top
def Task.base : Task → List Lay
  | .code x _ _ => x.base
  | .call b _ _ _ => b
  | .unw x _ _ _ => x.base
  | .round b _ _ _ => b
def Good (rec : Task → Outs) : Prop := ∀ t outs, rec t = some outs → GoodO t.base t.top outs
def GoodK (base : List Lay) (k : S → Outs) : Prop := ∀ s outs, k s = some outs → GoodO base s.top outs

section
variable {P : Program} {rec : Task → Outs}

theorem good_putD {x : Cx} {s : S} {dst : Option Tmp} {v : AV} {k : S → Outs} {outs : List Out} (hk : GoodK x.base k) (h : putD x s dst v k = some outs) : GoodO x.base s.top outs := by
  unfold putD at h
  split at h
  · exact hk _ _ h
  · split at h
    · cases h
    · have := hk _ _ h
      exact this
theorem good_doW {x : Cx} {s : S} {l : List (Nat × Option AObj)} {nw : Bool} {k : S → Outs} {outs : List Out} (hk : GoodK x.base k) (h : doW x s l nw k = some outs) : GoodO x.base s.top outs := by
  unfold doW at h
  split at h
  · have := hk _ _ h
    exact this.from (Mo.applyW _ _ _)
  · split at h
    · cases h
    · have := hk _ _ h
      exact this.from (Mo.applyW _ _ _)
theorem good_altsO {x : Cx} {o : Oper} {s : S} {k : S → Outs} (hk : GoodK x.base k) : ∀ {l : List (List (Nat × Option AObj) × AV × Option Nat)} {outs : List Out}, altsO x o s k l = some outs → GoodO x.base s.top outs
  | [], _, h => by simp [altsO] at h
  | (w, v, nc) :: rest, outs, h => by
    simp only [altsO] at h
    split at h
    · cases h
    · rename_i a ha
      have hg : GoodO x.base s.top a := by
        split at ha
        · exact good_doW (fun s outs h => good_putD hk h) ha
        · have := good_doW (fun s outs h => good_putD hk h) ha
          exact this
      split at h
      · simp only [Option.some.injEq] at h; subst h; exact hg
      · split at h
        · cases h
        · rename_i b hb
          simp only [Option.some.injEq] at h
          subst h
          have hg2 := good_altsO hk hb
          exact ⟨by simp [hg.ne], fun o ho => by
            rcases List.mem_append.1 ho with ho | ho
            · exact hg.mo o ho
            · exact hg2.mo o ho⟩

theorem good_exec (hrec : Good rec) {x : Cx} {o : Oper} {r : OR} {s : S} {k : S → Outs} {outs : List Out} (hk : GoodK x.base k) (h : execR rec x o r s k = some outs) : GoodO x.base s.top outs := by
  have after : ∀ {l : List Out}, GoodO x.base s.top l → ∀ {f : Out → Outs}, bindO f l = some outs → (∀ out ∈ l, ∀ a, f out = some a → GoodO x.base out.s.top a) → GoodO x.base s.top outs :=
    fun hl _ hb hf => hl.bind hb hf
  cases r with
  | val v => exact good_putD hk h
  | wr l nw v => exact good_doW (fun s outs h => good_putD hk h) h
  | alts l => exact good_altsO hk h
  | setc v c => have := good_putD hk h; exact this
  | enter f args =>
    obtain ⟨l, hl, hb⟩ := bindS_some h
    refine after (hrec _ _ hl) hb fun out _ a ha => ?_
    split at ha
    · have := good_putD hk ha
      exact this
    · simp only [Option.some.injEq] at ha; subst ha; exact GoodO.one _ _ _ (Mo.refl _ _)
    · cases ha
  | round l' args =>
    obtain ⟨l, hl, hb⟩ := bindS_some h
    refine after (hrec _ _ hl) hb fun out _ a ha => ?_
    split at ha
    · have := good_putD hk ha
      exact this
    · simp only [Option.some.injEq] at ha; subst ha; exact GoodO.one _ _ _ (Mo.refl _ _)
    · cases ha
  | defer d =>
    simp only [execR] at h
    split at h
    · cases h
    · have := good_putD hk h
      exact this
  | recov =>
    simp only [execR] at h
    split at h
    · cases h
    · split at h
      · have := good_putD hk h
        exact this
      · exact good_putD hk h
  | panic v => simp only [execR, Option.some.injEq] at h; subst h; exact GoodO.one _ _ _ (Mo.refl _ _)

theorem good_ops (hrec : Good rec) {x : Cx} {ops : Array Oper} : ∀ {l : List Oper} {s : S} {outs : List Out}, runOps P rec x ops l s = some outs → GoodO x.base s.top outs
  | [], s, outs, h => by simp only [runOps, Option.some.injEq] at h; subst h; exact GoodO.one _ _ _ (Mo.refl _ _)
  | o :: os, s, outs, h => by
    simp only [runOps] at h
    split at h
    · cases h
    · have := good_putD (fun s outs h => good_ops hrec h) h
      exact this
    · split at h
      · cases h
      · rename_i r hr
        exact good_exec hrec (fun s outs h => good_ops hrec h) h

theorem putS_top {x : Cx} {s s' : S} {dst : Option Tmp} {v : AV} (h : putS x s dst v = some s') : s'.top = s.top := by
  unfold putS at h
  split at h
  · simp only [Option.some.injEq] at h; subst h; rfl
  · split at h
    · cases h
    · simp only [Option.some.injEq] at h; subst h; rfl

theorem good_pstep (hrec : Good rec) {x : Cx} {ops : Array Oper} {pc : PCx} {p : PI} : (∀ pc', pstep P rec x ops pc p = .go pc' → Mo x.base pc.s.top pc'.s.top) ∧ ∀ ch s, pstep P rec x ops pc p = .stop ch s → Mo x.base pc.s.top s.top := by
  have key : ∀ r, pstep P rec x ops pc p = r → match r with
      | .no => True
      | .go pc' => Mo x.base pc.s.top pc'.s.top
      | .stop _ s => Mo x.base pc.s.top s.top := by
    intro r h
    unfold pstep at h
    split at h
    · subst h; trivial
    · split at h
      · subst h; trivial
      · split at h
        · rename_i s hs _
          subst h
          show Mo _ _ s.top
          rw [putS_top hs]; exact Mo.refl _ _
        · subst h; trivial
      · split at h
        · rename_i s hs
          subst h
          show Mo _ _ s.top
          rw [putS_top hs]; exact Mo.refl _ _
        · subst h; trivial
      · split at h
        · rename_i r' hr'
          split at h
          · rename_i s hs
            subst h
            have := good_exec hrec (fun s outs h => by simp only [Option.some.injEq] at h; subst h; exact GoodO.one _ _ _ (Mo.refl _ _)) hs
            exact this.mo _ (List.mem_singleton.2 rfl)
          · rename_i ch s hs
            subst h
            have := good_exec hrec (fun s outs h => by simp only [Option.some.injEq] at h; subst h; exact GoodO.one _ _ _ (Mo.refl _ _)) hs
            exact this.mo _ (List.mem_singleton.2 rfl)
          · subst h; trivial
        · subst h; trivial
      · split at h
        · split at h
          · rename_i s hs
            subst h
            show Mo _ _ s.top
            rw [putS_top hs]; exact Mo.refl _ _
          · subst h; trivial
        · split at h
          · subst h; trivial
          · split at h
            · rename_i s hs
              subst h
              show Mo _ _ s.top
              rw [putS_top hs]; exact Mo.applyW _ _ _
            · subst h; trivial
        · subst h; trivial
  exact ⟨fun pc' h => key _ h, fun ch s h => key _ h⟩

theorem good_plan (hrec : Good rec) {x : Cx} {ops : Array Oper} {b : Array Nat} : ∀ {l : List PI} {pc : PCx} {outs : List Out}, runPlan P rec x ops b l pc = some outs → GoodO x.base pc.s.top outs
  | [], pc, outs, h => by
    simp only [runPlan] at h
    split at h
    · simp only [Option.some.injEq] at h; subst h; exact GoodO.one _ _ _ (Mo.refl _ _)
    · cases h
  | p :: ps, pc, outs, h => by
    simp only [runPlan] at h
    split at h
    · cases h
    · rename_i pc' hp
      exact (good_plan hrec h).from ((good_pstep hrec).1 _ hp)
    · rename_i ch s hp
      split at h
      · simp only [Option.some.injEq] at h; subst h
        have := (good_pstep hrec).2 _ _ hp
        exact GoodO.one _ _ _ this
      · cases h

theorem setLoop_top {base : List Lay} {s s' : S} {l : Nat} {st : LoopState} {pd : Option (Option Code)} (h : setLoop base s l st pd = some s') : Mo base s.top s'.top := by
  unfold setLoop at h
  split at h
  · simp only [Option.some.injEq] at h; subst h; exact Mo.setL _ _ _ _
  · cases h
theorem good_endR {base : List Lay} {s : S} {l : Nat} {j : Option Code} {r : Bool} {outs : List Out} (h : endR base s l j r = some outs) : GoodO base s.top outs := by
  unfold endR at h
  split at h
  · rename_i s' _ hs
    simp only [Option.some.injEq] at h; subst h; exact GoodO.one _ _ _ (setLoop_top hs)
  · cases h
end
end Go.AE
/-
  The evaluator is sound, second part: what is known stays known, through a whole step.
-/
namespace Go.AE
section
variable {P : Program} {rec : Task → Outs}

theorem getP_kill : ∀ (p : List D8) (t : Lay), getP none p (killT t) = killV (getP none p t)
  | [], t => by cases t <;> rfl
  | c :: p, t => by
    cases t with
    | nil => rfl
    | node v c0 c1 c2 c3 c4 c5 c6 c7 => cases c <;> simp only [killT, getP] <;> exact getP_kill p _
theorem getP_mrg : ∀ (p : List D8) (a b : Lay), getP none p (mrgT a b) = mrgV (getP none p a) (getP none p b) AObj.beq ∨ (getP none p a = none ∧ getP none p (mrgT a b) = killV (getP none p b)) ∨ (getP none p b = none ∧ getP none p (mrgT a b) = killV (getP none p a))
  | [], a, b => by
    cases a with
    | nil => exact .inr (.inl ⟨rfl, getP_kill _ _⟩)
    | node v c0 c1 c2 c3 c4 c5 c6 c7 =>
      cases b with
      | nil => exact .inr (.inr ⟨rfl, rfl⟩)
      | node v' c0' c1' c2' c3' c4' c5' c6' c7' => exact .inl rfl
  | c :: p, a, b => by
    cases a with
    | nil => exact .inr (.inl ⟨rfl, getP_kill _ _⟩)
    | node v c0 c1 c2 c3 c4 c5 c6 c7 =>
      cases b with
      | nil =>
        refine .inr (.inr ⟨rfl, ?_⟩)
        cases c <;> simp only [mrgT, getP] <;> exact getP_kill p _
      | node v' c0' c1' c2' c3' c4' c5' c6' c7' => cases c <;> simp only [mrgT, getP] <;> exact getP_mrg p _ _

/-- What a merged layer says: what both say, or that it is gone. -/
theorem getL_mrg (a b : Lay) (n : Nat) : (getL (mrgT a b) n = none ↔ getL a n = none ∧ getL b n = none) ∧ ∀ o, getL (mrgT a b) n = some (some o) → ∃ o', getL a n = some (some o) ∧ getL b n = some (some o') ∧ AObj.beq o o' = true := by
  have h := getP_mrg (path n) a b
  unfold getL
  rcases h with h | ⟨h1, h⟩ | ⟨h1, h⟩
  · rw [h]
    unfold mrgV
    split
    · rename_i e1 e2
      rw [e1, e2]
      exact ⟨⟨fun _ => ⟨rfl, rfl⟩, fun _ => rfl⟩, fun o e => by cases e⟩
    · rename_i x y e1 e2
      rw [e1, e2]
      split
      · rename_i hb
        exact ⟨⟨fun e => (by cases e), fun e => (by cases e.1)⟩, fun o e => by cases e; exact ⟨y, rfl, rfl, hb⟩⟩
      · exact ⟨⟨fun e => (by cases e), fun e => (by cases e.1)⟩, fun o e => by cases e⟩
    · rename_i h1 h2
      refine ⟨⟨fun e => (by cases e), fun ⟨e1, e2⟩ => ?_⟩, fun o e => by cases e⟩
      exact absurd e2 (h1 e1)
  · rw [h, h1]
    cases getP none (path n) b <;> simp [killV]
  · rw [h, h1]
    cases getP none (path n) a <;> simp [killV]

theorem raw_mrg_none {a b : Lay} {base : List Lay} {n : Nat} : raw (mrgT a b) base n = none → raw a base n = none ∧ raw b base n = none := by
  obtain ⟨h, _⟩ := getL_mrg a b n
  intro e
  cases base with
  | nil =>
    simp only [raw] at e ⊢
    cases hm : getL (mrgT a b) n with
    | none => obtain ⟨h1, h2⟩ := h.1 hm; simp [h1, h2]
    | some x => rw [hm] at e; simp at e
  | cons c cs =>
    simp only [raw] at e ⊢
    cases hm : getL (mrgT a b) n with
    | none =>
      obtain ⟨h1, h2⟩ := h.1 hm
      rw [hm] at e
      simp only [h1, h2]
      exact ⟨e, e⟩
    | some x => rw [hm] at e; simp at e

theorem mrg2_some {a b o : Out} (h : mrg2 a b = some o) : exEq a.e b.e = true ∧ a.s.ds = [] ∧ b.s.ds = [] ∧ a.s.rc = none ∧ b.s.rc = none ∧
    o = ⟨a.e, { T := mrgR a.s.T b.s.T, ds := [], rc := none, top := mrgT a.s.top b.s.top, c := max a.s.c b.s.c, hi := max a.s.hi b.s.hi }⟩ := by
  unfold mrg2 at h
  split at h
  · rename_i h1 h2 h3 h4 h5
    simp only [Option.some.injEq] at h
    exact ⟨h1, h2, h3, h4, h5, h.symm⟩
  · cases h

theorem mrgO_some : ∀ {l outs : List Out}, mrgO l = some outs → (l = [] ∧ outs = []) ∨ ∃ m, outs = [m]
  | [], outs, h => by simp only [mrgO, Option.some.injEq] at h; exact .inl ⟨rfl, h.symm⟩
  | [o], outs, h => by simp only [mrgO, Option.some.injEq] at h; exact .inr ⟨o, h.symm⟩
  | o :: q :: os, outs, h => by
    simp only [mrgO] at h
    split at h
    · split at h
      · rename_i r _
        simp only [Option.some.injEq] at h
        exact .inr ⟨r, h.symm⟩
      · cases h
    · cases h
theorem mrgO_mo {base : List Lay} {top : Lay} : ∀ {l : List Out} {m : Out}, mrgO l = some [m] → (∀ o ∈ l, Mo base top o.s.top) → Mo base top m.s.top
  | [], m, h, _ => by simp [mrgO] at h
  | [o], m, h, k => by simp only [mrgO, Option.some.injEq, List.cons.injEq, and_true] at h; subst h; exact k o (List.mem_singleton.2 rfl)
  | o :: q :: os, m, h, k => by
    simp only [mrgO] at h
    split at h
    · rename_i r hr
      split at h
      · rename_i r' hm
        simp only [Option.some.injEq, List.cons.injEq, and_true] at h
        subst h
        obtain ⟨_, _, _, _, _, rfl⟩ := mrg2_some hm
        intro n hn e
        exact k o (List.mem_cons_self ..) n hn (raw_mrg_none e).1
      · cases h
    · cases h

theorem Mo.union {base : List Lay} {a b : Lay} (h : Mo (a :: base) .nil b) : Mo base a (unionT a b) := fun n hn => by
  rw [raw_union]
  exact h n (by rw [raw_nil]; exact hn)

theorem good_code (hrec : Good rec) {x : Cx} {c : Code} {s : S} {outs : List Out} (h : stepCode P rec x c s = some outs) : GoodO x.base s.top outs := by
  have same : ∀ {o : Out} {outs : List Out}, some [o] = some outs → o.s = s → GoodO x.base s.top outs := by
    intro o outs h e
    cases h
    exact GoodO.one _ _ _ (by rw [e]; exact Mo.refl _ _)
  cases c with
  | skip => exact same h rfl
  | label l => exact same h rfl
  | exit id => exact same h rfl
  | ret => exact same h rfl
  | seq a b =>
    obtain ⟨l, hl, hb⟩ := bindS_some h
    refine (show GoodO x.base s.top l from hrec _ _ hl).bind hb fun out _ a ha => ?_
    split at ha
    · exact hrec _ _ ha
    · simp only [Option.some.injEq] at ha; subst ha; exact GoodO.one _ _ _ (Mo.refl _ _)
  | cond cc a b =>
    simp only [stepCode] at h
    split at h
    · exact hrec _ _ h
    · exact hrec _ _ h
    · cases h
  | block id b =>
    obtain ⟨l, hl, hb⟩ := bindS_some h
    refine (show GoodO x.base s.top l from hrec _ _ hl).bind hb fun out _ a ha => ?_
    split at ha
    · split at ha
      · simp only [Option.some.injEq] at ha; subst ha; exact GoodO.one _ _ _ (Mo.refl _ _)
      · simp only [Option.some.injEq] at ha; subst ha; exact GoodO.one _ _ _ (Mo.refl _ _)
    · simp only [Option.some.injEq] at ha; subst ha; exact GoodO.one _ _ _ (Mo.refl _ _)
  | scope b => exact hrec _ _ h
  | loop b =>
    simp only [stepCode] at h
    split at h
    · obtain ⟨l, hl, hb⟩ := bindS_some h
      refine (show GoodO x.base s.top l from hrec _ _ hl).bind hb fun out _ a ha => ?_
      split at ha
      · exact hrec _ _ ha
      · simp only [Option.some.injEq] at ha; subst ha; exact GoodO.one _ _ _ (Mo.refl _ _)
    · split at h
      · cases h
      · rename_i l hl
        have hg : GoodO (s.top :: x.base) .nil l := by
          obtain ⟨l0, hl0, hb⟩ := bindS_some hl
          have := hrec _ _ hl0
          refine GoodO.bind this hb fun out _ a ha => ?_
          split at ha
          · exact hrec _ _ ha
          · simp only [Option.some.injEq] at ha; subst ha; exact GoodO.one _ _ _ (Mo.refl _ _)
        split at h
        · cases h
        · rename_i ms hm
          simp only [Option.some.injEq] at h
          subst h
          rcases mrgO_some hm with ⟨e, _⟩ | ⟨m, rfl⟩
          · exact absurd e hg.ne
          · have := mrgO_mo hm hg.mo
            exact GoodO.one _ _ _ this.union
  | region id ops draw =>
    simp only [stepCode] at h
    split at h
    · exact good_ops hrec h
    · split at h
      · have := good_plan hrec h
        exact this
      · cases h
  | rangeFunc f params assign body =>
    simp only [stepCode] at h
    split at h
    · split at h
      · cases h
      · obtain ⟨l, hl, hb⟩ := bindS_some h
        have hg := hrec _ _ hl
        have hg' : GoodO x.base s.top l := hg.from (Mo.applyW x.base s.top _)
        refine hg'.bind hb fun out _ a ha => ?_
        split at ha
        · simp only [Option.some.injEq] at ha; subst ha; exact GoodO.one _ _ _ (Mo.refl _ _)
        · split at ha
          · split at ha
            · cases ha
            · split at ha
              · cases ha
              · rename_i s'' hs
                have hm : Mo x.base out.s.top s''.top := by
                  have := setLoop_top hs
                  exact this
                split at ha
                · simp only [Option.some.injEq] at ha; subst ha; exact GoodO.one _ _ _ hm
                · simp only [Option.some.injEq] at ha; subst ha; exact GoodO.one _ _ _ hm
                · simp only [Option.some.injEq] at ha; subst ha; exact GoodO.one _ _ _ hm
                · cases ha
          · cases ha
        · cases ha
    · cases h
  | goto l => simp [stepCode] at h
  | refuse w => simp [stepCode] at h

theorem good_step (hrec : Good rec) : Good (step P rec) := by
  intro t outs h
  cases t with
  | code x c s => exact good_code hrec h
  | call base f args s =>
    simp only [step, stepCall] at h
    split at h
    · cases h
    · split at h
      · cases h
      · obtain ⟨l, hl, hb⟩ := bindS_some h
        have hg := hrec _ _ hl
        have hg' : GoodO base s.top l := hg
        refine hg'.bind hb fun out _ a ha => ?_
        split at ha
        · exact hrec _ _ ha
        · exact hrec _ _ ha
        · exact hrec _ _ ha
        · cases ha
  | unw x f m s =>
    simp only [step, stepUnw] at h
    split at h
    · split at h
      · simp only [Option.some.injEq] at h; subst h; exact GoodO.one _ _ _ (Mo.refl _ _)
      · split at h
        · cases h
        · split at h
          · cases h
          · simp only [Option.some.injEq] at h; subst h; exact GoodO.one _ _ _ (Mo.refl _ _)
          · simp only [Option.some.injEq] at h; subst h; exact GoodO.one _ _ _ (Mo.refl _ _)
    · split at h
      · have := hrec _ _ h
        exact GoodO.from this (Mo.setL _ _ _ _)
      · cases h
    · split at h
      · cases h
      · obtain ⟨l, hl, hb⟩ := bindS_some h
        have hg := hrec _ _ hl
        have hg' : GoodO x.base s.top l := hg
        refine hg'.bind hb fun out _ a ha => ?_
        split at ha
        · split at ha
          · have := hrec _ _ ha
            exact this
          · cases ha
        · cases ha
  | round base l args s =>
    simp only [step, stepRound] at h
    split at h
    · split at h
      · cases h
      · obtain ⟨l', hl, hb⟩ := bindS_some h
        have hg := hrec _ _ hl
        have hg' : GoodO base s.top l' := hg
        refine hg'.bind hb fun out _ a ha => ?_
        split at ha
        · split at ha
          · split at ha
            · cases ha
            · rename_i s1 hs
              obtain ⟨l2, hl2, hb2⟩ := bindS_some ha
              have hg2 := hrec _ _ hl2
              have hg2' : GoodO base out.s.top l2 := GoodO.from hg2 (setLoop_top hs)
              refine hg2'.bind hb2 fun out2 _ a2 ha2 => ?_
              split at ha2
              · exact good_endR ha2
              · exact good_endR ha2
              · exact good_endR ha2
              · split at ha2
                · simp only [Option.some.injEq] at ha2; subst ha2; exact GoodO.one _ _ _ (Mo.refl _ _)
                · cases ha2
              · cases ha2
          · cases ha
        · cases ha
    · cases h

theorem good_ev : ∀ n, Good (ev P n)
  | 0 => fun _ _ h => by simp [ev] at h
  | n + 1 => good_step (good_ev n)
end
end Go.AE
/-
  The evaluator is sound, third part: the machine's steps, of a frame and of a round of a range over a function.
-/
namespace Go.AE

/-- A frame. -/
abbrev AFr (fn : FuncId) (kind : CallKind) (rof : Option Nat) (tmps : Array Value) (defers : List Deferred) (todo : List Item) (mode : FrameMode) : Frame :=
  { fn, tmps, todo, defers, mode, kind, roundOf := rof }
/-- What an operation gives goes into its slot. -/
def putT (tmps : Array Value) (dst : Option Tmp) (y : Value) : Array Value := match dst with
  | some d => tmps.setIfInBounds d y
  | none => tmps

section
variable {P : Program} {fn : FuncId} {kind : CallKind} {rof : Option Nat} {tmps : Array Value} {defers : List Deferred} {k : List Item} {cs : List Frame} {w : World} {ops : Array Oper}

theorem m_skip : Go.step P (lone (AFr fn kind rof tmps defers (.code .skip :: k) .run) cs w) = .next (lone (AFr fn kind rof tmps defers k .run) cs w) :=
  step_lone_go (by simp [stepG, stepG.exec])
theorem m_label {l : Nat} : Go.step P (lone (AFr fn kind rof tmps defers (.code (.label l) :: k) .run) cs w) = .next (lone (AFr fn kind rof tmps defers k .run) cs w) :=
  step_lone_go (by simp [stepG, stepG.exec])
theorem m_inBlock {l : Nat} : Go.step P (lone (AFr fn kind rof tmps defers (.inBlock l :: k) .run) cs w) = .next (lone (AFr fn kind rof tmps defers k .run) cs w) :=
  step_lone_go (by simp [stepG, stepG.exec])
theorem m_inScope {c : Code} : Go.step P (lone (AFr fn kind rof tmps defers (.inScope c :: k) .run) cs w) = .next (lone (AFr fn kind rof tmps defers k .run) cs w) :=
  step_lone_go (by simp [stepG, stepG.exec])
theorem m_seq {a b : Code} : Go.step P (lone (AFr fn kind rof tmps defers (.code (.seq a b) :: k) .run) cs w) = .next (lone (AFr fn kind rof tmps defers (.code a :: .code b :: k) .run) cs w) :=
  step_lone_go (by simp [stepG, stepG.exec])
theorem m_cond {c : Operand} {a b : Code} {t : Bool} (h : (AFr fn kind rof tmps defers (.code (.cond c a b) :: k) .run).eval c = .bool t) :
    Go.step P (lone (AFr fn kind rof tmps defers (.code (.cond c a b) :: k) .run) cs w) = .next (lone (AFr fn kind rof tmps defers (.code (if t then a else b) :: k) .run) cs w) :=
  step_lone_go (by simp [stepG, stepG.exec, h])
theorem m_block {id : Nat} {b : Code} : Go.step P (lone (AFr fn kind rof tmps defers (.code (.block id b) :: k) .run) cs w) = .next (lone (AFr fn kind rof tmps defers (.code b :: .inBlock id :: k) .run) cs w) :=
  step_lone_go (by simp [stepG, stepG.exec])
theorem m_loop {b : Code} : Go.step P (lone (AFr fn kind rof tmps defers (.code (.loop b) :: k) .run) cs w) = .next (lone (AFr fn kind rof tmps defers (.code b :: .inLoop b :: k) .run) cs w) :=
  step_lone_go (by simp [stepG, stepG.exec])
theorem m_inLoop {b : Code} : Go.step P (lone (AFr fn kind rof tmps defers (.inLoop b :: k) .run) cs w) = .next (lone (AFr fn kind rof tmps defers (.code b :: .inLoop b :: k) .run) cs w) :=
  step_lone_go (by simp [stepG, stepG.exec])
theorem m_scope {b : Code} : Go.step P (lone (AFr fn kind rof tmps defers (.code (.scope b) :: k) .run) cs w) = .next (lone (AFr fn kind rof tmps defers (.code b :: .inScope b :: k) .run) cs w) :=
  step_lone_go (by simp [stepG, stepG.exec])
theorem m_exit {id : Nat} {k' : List Item} (h : exitTo id k = some k') : Go.step P (lone (AFr fn kind rof tmps defers (.code (.exit id) :: k) .run) cs w) = .next (lone (AFr fn kind rof tmps defers k' .run) cs w) :=
  step_lone_go (by simp [stepG, stepG.exec, h])
theorem m_region {id : Nat} : Go.step P (lone (AFr fn kind rof tmps defers (.code (.region id ops false) :: k) .run) cs w) = .next (lone (AFr fn kind rof tmps defers (.inRegion ops (List.range ops.size) :: k) .run) cs w) :=
  step_lone_go (by simp [stepG, stepG.exec])
theorem m_region_draw {id : Nat} : Go.step P (lone (AFr fn kind rof tmps defers (.code (.region id ops true) :: k) .run) cs w) =
    .next (lone (AFr fn kind rof tmps defers (.inRegion ops (Region.schedule (P.follows .mixedOrders) ops (w.tape w.drawn (.order fn id))) :: k) .run) cs { w with drawn := w.drawn + 1 }) :=
  step_lone_go (by simp [stepG, stepG.exec, choose, Sem.run, Question.forced, Question.cut])
theorem m_region_end : Go.step P (lone (AFr fn kind rof tmps defers (.inRegion ops [] :: k) .run) cs w) = .next (lone (AFr fn kind rof tmps defers k .run) cs w) :=
  step_lone_go (by simp [stepG, stepG.exec])

theorem finish_op {i : Nat} {rest : List Nat} {o : Oper} (ho : ops[i]? = some o) (y : Value) :
    (AFr fn kind rof tmps defers (.inRegion ops (i :: rest) :: k) .run).finish y = AFr fn kind rof (putT tmps o.dst y) defers (.inRegion ops rest :: k) .run := by
  cases hd : o.dst <;> simp [Frame.finish, ho, hd, putT]
theorem m_op_skip {i : Nat} {rest : List Nat} {o : Oper} (ho : ops[i]? = some o) (hw : Region.wanted o (yielded ops tmps) = false) :
    Go.step P (lone (AFr fn kind rof tmps defers (.inRegion ops (i :: rest) :: k) .run) cs w) = .next (lone (AFr fn kind rof (putT tmps o.dst undef) defers (.inRegion ops rest :: k) .run) cs w) := by
  rw [← finish_op ho]
  exact step_lone_go (by simp [stepG, stepG.exec, ho, hw])
/-- An operation's step. -/
theorem g_op {i : Nat} {rest : List Nat} {o : Oper} (ho : ops[i]? = some o) (hw : Region.wanted o (yielded ops tmps) = true) (hd : rof = none ∨ ∀ c, o.op ≠ .defer c) :
    stepG P true { frame := AFr fn kind rof tmps defers (.inRegion ops (i :: rest) :: k) .run, callers := cs, status := .running, dying := none } w =
      stepG.apply P true (AFr fn kind rof tmps defers (.inRegion ops (i :: rest) :: k) .run) cs none (execOp (AFr fn kind rof tmps defers (.inRegion ops (i :: rest) :: k) .run).eval o) w := by
  simp only [stepG, stepG.exec, ho, Option.map_some, hw, Option.getD_some, if_true, stepG.oper, Frame.oper?]
  rcases hd with rfl | hd
  · rfl
  · cases rof with
    | none => rfl
    | some l => cases hop : o.op <;> first | rfl | exact absurd hop (hd _)

variable {i : Nat} {rest : List Nat} {o : Oper}
theorem m_value (ho : ops[i]? = some o) (hw : Region.wanted o (yielded ops tmps) = true) (hd : rof = none ∨ ∀ c, o.op ≠ .defer c) {y : Value} {w' : World}
    (hr : Gives ((execOp (AFr fn kind rof tmps defers (.inRegion ops (i :: rest) :: k) .run).eval o).run P w) y w') :
    Go.step P (lone (AFr fn kind rof tmps defers (.inRegion ops (i :: rest) :: k) .run) cs w) = .next (lone (AFr fn kind rof (putT tmps o.dst y) defers (.inRegion ops rest :: k) .run) cs w') := by
  rw [← finish_op ho]
  rcases hr with hr | ⟨hr, rfl⟩
  · exact step_lone_go (by rw [g_op ho hw hd]; simp [stepG.apply, hr])
  · exact step_lone_go (by rw [g_op ho hw hd]; simp [stepG.apply, hr])
theorem m_enter (ho : ops[i]? = some o) (hw : Region.wanted o (yielded ops tmps) = true) (hd : rof = none ∨ ∀ c, o.op ≠ .defer c) {f : FuncId} {xs : Array Value} {w' : World}
    (hr : (execOp (AFr fn kind rof tmps defers (.inRegion ops (i :: rest) :: k) .run).eval o).run P w = .ok (.enter f xs) w') :
    Go.step P (lone (AFr fn kind rof tmps defers (.inRegion ops (i :: rest) :: k) .run) cs w) = .next (lone (Frame.enter P f xs .normal) (AFr fn kind rof tmps defers (.inRegion ops (i :: rest) :: k) .run :: cs) w') :=
  step_lone_go (by rw [g_op ho hw hd]; simp [stepG.apply, hr])
theorem m_round (ho : ops[i]? = some o) (hw : Region.wanted o (yielded ops tmps) = true) (hd : rof = none ∨ ∀ c, o.op ≠ .defer c) {l : Nat} {f : FuncId} {xs : Array Value} {a b : Code} {w' : World}
    (hr : (execOp (AFr fn kind rof tmps defers (.inRegion ops (i :: rest) :: k) .run).eval o).run P w = .ok (.round l f xs a b) w') :
    Go.step P (lone (AFr fn kind rof tmps defers (.inRegion ops (i :: rest) :: k) .run) cs w) = .next (lone (Frame.round l f xs a b .normal) (AFr fn kind rof tmps defers (.inRegion ops (i :: rest) :: k) .run :: cs) w') :=
  step_lone_go (by rw [g_op ho hw hd]; simp [stepG.apply, hr])
theorem m_panic (ho : ops[i]? = some o) (hw : Region.wanted o (yielded ops tmps) = true) (hd : rof = none ∨ ∀ c, o.op ≠ .defer c) {y : Value} {w' : World}
    (hr : (execOp (AFr fn kind rof tmps defers (.inRegion ops (i :: rest) :: k) .run).eval o).run P w = .halt (.panic y) w') :
    Go.step P (lone (AFr fn kind rof tmps defers (.inRegion ops (i :: rest) :: k) .run) cs w) = .next (lone (AFr fn kind rof tmps defers (.inRegion ops (i :: rest) :: k) (.panicking [{ v := y, recovered := false }])) cs w') :=
  step_lone_go (by rw [g_op ho hw hd]; simp [stepG.apply, hr, Frame.raise])
theorem m_defer (ho : ops[i]? = some o) (hw : Region.wanted o (yielded ops tmps) = true) {d : Deferred} {w' : World}
    (hr : (execOp (AFr fn kind none tmps defers (.inRegion ops (i :: rest) :: k) .run).eval o).run P w = .ok (.defer d) w') :
    Go.step P (lone (AFr fn kind none tmps defers (.inRegion ops (i :: rest) :: k) .run) cs w) = .next (lone (AFr fn kind none (putT tmps o.dst undef) (d :: defers) (.inRegion ops rest :: k) .run) cs w') := by
  rw [← finish_op (defers := d :: defers) ho]
  exact step_lone_go (by rw [g_op ho hw (.inl rfl)]; simp [stepG.apply, hr])
theorem m_recover (ho : ops[i]? = some o) (hw : Region.wanted o (yielded ops tmps) = true) (hd : rof = none ∨ ∀ c, o.op ≠ .defer c) (hn : rof = none) {w' : World}
    (hr : (execOp (AFr fn kind rof tmps defers (.inRegion ops (i :: rest) :: k) .run).eval o).run P w = .ok .recover w') {y : Value} {cs' : List Frame}
    (ht : match tryRecover (AFr fn kind rof tmps defers (.inRegion ops (i :: rest) :: k) .run) cs with
      | some (v, c) => y = v ∧ cs' = c
      | none => y = .nilIface ∧ cs' = cs) :
    Go.step P (lone (AFr fn kind rof tmps defers (.inRegion ops (i :: rest) :: k) .run) cs w) = .next (lone (AFr fn kind rof (putT tmps o.dst y) defers (.inRegion ops rest :: k) .run) cs' w') := by
  subst hn
  rw [← finish_op ho]
  refine step_lone_go ?_
  rw [g_op ho hw hd]
  simp only [stepG.apply, if_true, Sem.runT_eq, hr, GStep.bare_after]
  split at ht
  · rename_i v c ht'
    obtain ⟨rfl, rfl⟩ := ht
    simp only [ht', GStep.bare_go]
  · rename_i ht'
    obtain ⟨rfl, rfl⟩ := ht
    simp only [ht', GStep.bare_go]

/-- A frame's end. -/
theorem m_end : Go.step P (lone (AFr fn kind none tmps defers [] .run) cs w) = .next (lone (AFr fn kind none tmps defers [] .returning) cs w) :=
  step_lone_go (by simp [stepG, stepG.exec])
theorem m_ret : Go.step P (lone (AFr fn kind none tmps defers (.code .ret :: k) .run) cs w) = .next (lone (AFr fn kind none tmps defers (.code .ret :: k) .returning) cs w) :=
  step_lone_go (by simp [stepG, stepG.exec])

/-- A round's end: the loop's word is kept, and the caller has its answer. -/
theorem m_round_end {l : Nat} {c : Frame} {y : Value} {w' : World} (hr : (Instr.endRound l none).run P w = .ok y w') :
    Go.step P (lone (AFr fn .normal (some l) tmps defers [] .run) (c :: cs) w) = .next (lone (c.finish y) cs w') :=
  step_lone_go (by simp [stepG, stepG.exec, hr, doReturn])
theorem m_round_ret {l : Nat} {c : Frame} {y : Value} {w' : World} (hr : (Instr.endRound l (some .ret)).run P w = .ok y w') :
    Go.step P (lone (AFr fn .normal (some l) tmps defers (.code .ret :: k) .run) (c :: cs) w) = .next (lone (c.finish y) cs w') :=
  step_lone_go (by simp [stepG, stepG.exec, hr, doReturn])
theorem m_round_exit {l id : Nat} {c : Frame} {y : Value} {w' : World} (hk : exitTo id k = none) (hr : (Instr.endRound l (some (.exit id))).run P w = .ok y w') :
    Go.step P (lone (AFr fn .normal (some l) tmps defers (.code (.exit id) :: k) .run) (c :: cs) w) = .next (lone (c.finish y) cs w') :=
  step_lone_go (by simp [stepG, stepG.exec, hk, hr, doReturn])
theorem m_begin {l : Nat} {w' : World} (hr : (Instr.beginRound l).run P w = .ok () w') :
    Go.step P (lone (AFr fn .normal (some l) tmps defers (.beginRound :: k) .run) cs w) = .next (lone (AFr fn .normal (some l) tmps defers k .run) cs w') :=
  step_lone_go (by simp [stepG, stepG.exec, stepG.apply, hr, Frame.finish])

/-- A panic leaves a frame. -/
theorem m_leave {c : Frame} {ch : List PanicEntry} {todo : List Item} (hc : (AFr fn kind rof tmps [] todo (.panicking ch)).catches P = false) :
    Go.step P (lone (AFr fn kind rof tmps [] todo (.panicking ch)) (c :: cs) w) = .next (lone (c.raise ch) cs w) :=
  step_lone_go (by simp [stepG, unwind, hc])

/-- A range over a function begins. -/
theorem m_range {f : Operand} {params : Array Tmp} {assign body : Code} {l : Nat} {mark : List Deferred} {g : FuncId} {xs : Array Value} {w' : World}
    (hr : (Instr.enterLoop fn tmps params assign body none).run P w = .ok (l, mark) w')
    (he : ((do let d ← resolve (AFr fn kind none tmps (mark ++ defers) (.inRangeFunc l :: k) .run).eval { callee := .value f, args := #[.const (.func (.yield l) #[] #[])], argTypes := #[] } 0; invoke d.target d.args : Sem Next)).run P w' = .ok (.enter g xs) w') :
    Go.step P (lone (AFr fn kind none tmps defers (.code (.rangeFunc f params assign body) :: k) .run) cs w) =
      .next (lone (Frame.enter P g xs .normal) (AFr fn kind none tmps (mark ++ defers) (.inRangeFunc l :: k) .run :: cs) w') :=
  step_lone_go (by
    simp only [stepG, stepG.exec, Sem.runT_eq, hr, GStep.bare_after, stepG.apply, if_true, he, GStep.bare_go])
theorem m_endRange {l : Nat} {jump : Option Code} {w' : World} (hr : (Instr.endLoop l).run P w = .ok jump w') :
    Go.step P (lone (AFr fn kind rof tmps defers (.endRangeFunc l :: k) .run) cs w) = .next (lone (AFr fn kind rof tmps defers ((jump.map Item.code).toList ++ k) .run) cs w') :=
  step_lone_go (by simp [stepG, stepG.exec, hr])

/-- What is deferred, one by one. -/
theorem m_coll {b : Nat} {args : Array Value} {ds calls : List Deferred} {todo : List Item} {mode : FrameMode} {w' : World} (hm : mode ≠ .run) (hr : (Instr.takeDeferred b).run P w = .ok calls w') :
    Go.step P (lone (AFr fn kind rof tmps ({ target := .collected b, args } :: ds) todo mode) cs w) = .next (lone (AFr fn kind rof tmps (calls ++ ds) todo mode) cs w') := by
  refine step_lone_go ?_
  cases mode with
  | run => exact absurd rfl hm
  | _ => simp [stepG, unwind, hr]
theorem m_deferred {f g : FuncId} {xs cap args : Array Value} {ds : List Deferred} {todo : List Item} {mode : FrameMode} {w' : World} (hm : mode ≠ .run)
    (hr : (invoke (.fn (.func f) cap) args).run P w = .ok (.enter g xs) w') :
    Go.step P (lone (AFr fn kind rof tmps ({ target := .fn (.func f) cap, args } :: ds) todo mode) cs w) =
      .next (lone (Frame.enter P g xs .deferred) (AFr fn kind rof tmps ds todo mode :: cs) w') := by
  refine step_lone_go ?_
  cases mode with
  | run => exact absurd rfl hm
  | _ => simp [stepG, unwind, callDeferred, hr]

end
end Go.AE
/-
  The evaluator is sound, fourth part: what soundness says; one operation in a frame.
-/
namespace Go.AE

/-- Memory, and what the layers say of it. -/
structure Inv (B : Nat → Prop) (w0 : World) (θ : Th) (G : Hp) (w : World) (top : Lay) (base : List Lay) : Prop where
  hr : HR B w0 θ G w
  agree : ∀ n y, raw top base n = some y → G n = y
/-- From one state to a later one: of what is still not known nothing has turned. -/
structure Ext (base : List Lay) (top top' : Lay) (θ θ' : Th) (G G' : Hp) : Prop where
  le : θ.Le θ'
  mo : Mo base top top'
  same : ∀ n, raw top' base n = none → (θ'.addr n = θ.addr n ∧ θ'.stamp n = θ.stamp n) ∧ G' n = G n
theorem Ext.refl (base : List Lay) (top : Lay) (θ : Th) (G : Hp) : Ext base top top θ θ G G := ⟨Th.Le.refl θ, Mo.refl _ _, fun _ _ => ⟨⟨rfl, rfl⟩, rfl⟩⟩
theorem Ext.trans {base : List Lay} {a b c : Lay} {θ θ1 θ2 : Th} {G G1 G2 : Hp} (h : Ext base a b θ θ1 G G1) (k : Ext base b c θ1 θ2 G1 G2) : Ext base a c θ θ2 G G2 :=
  ⟨h.le.trans k.le, h.mo.trans k.mo, fun n hn => by
    have hb : raw b base n = none := by
      cases e : raw b base n with
      | none => rfl
      | some x => exact absurd hn (k.mo n (by rw [e]; simp))
    obtain ⟨⟨h1, h2⟩, h3⟩ := h.same n hb
    obtain ⟨⟨k1, k2⟩, k3⟩ := k.same n hn
    exact ⟨⟨k1.trans h1, k2.trans h2⟩, k3.trans h3⟩⟩

/-- The names that are newly known in some outcome are free. -/
def FN (θ : Th) (G : Hp) (base : List Lay) (top : Lay) (outs : List Out) : Prop := ∀ out ∈ outs, ∀ n, raw top base n = none → raw out.s.top base n ≠ none → Free θ G n
theorem FN.sub {θ : Th} {G : Hp} {base : List Lay} {top : Lay} {outs outs' : List Out} (h : FN θ G base top outs) (k : ∀ o ∈ outs', ∃ q ∈ outs, Mo base o.s.top q.s.top) : FN θ G base top outs' := by
  intro o ho n h1 h2
  obtain ⟨q, hq, hm⟩ := k o ho
  exact h q hq n h1 (hm n h2)
theorem FN.later {θ θ1 : Th} {G G1 : Hp} {base : List Lay} {top top1 : Lay} {outs : List Out} (h : FN θ G base top outs) (k : Ext base top top1 θ θ1 G G1) : FN θ1 G1 base top1 outs := by
  intro o ho n h1 h2
  have h0 : raw top base n = none := by
    cases e : raw top base n with
    | none => rfl
    | some x => exact absurd h1 (k.mo n (by rw [e]; simp))
  obtain ⟨f1, f2, f3⟩ := h o ho n h0 h2
  obtain ⟨⟨k1, k2⟩, k3⟩ := k.same n h1
  exact ⟨k1.trans f1, k2.trans f2, k3.trans f3⟩
/-- Ahead of a continuation. -/
theorem FN.bind {θ : Th} {G : Hp} {base : List Lay} {top : Lay} {l outs : List Out} {f : Out → Outs} (h : FN θ G base top outs) (hb : bindO f l = some outs) (hf : ∀ o ∈ l, ∀ a, f o = some a → GoodO base o.s.top a) : FN θ G base top l := by
  obtain ⟨h1, _⟩ := bindO_some hb
  refine h.sub fun o ho => ?_
  obtain ⟨a, ha, hs⟩ := h1 o ho
  have hg := hf o ho a ha
  cases a with
  | nil => exact absurd rfl hg.ne
  | cons q _ => exact ⟨q, hs q (List.mem_cons_self ..), hg.mo q (List.mem_cons_self ..)⟩

/-- What the frame below says of a panic on its way: what recover sees. -/
def RcR (θ : Th) (rc : Option (List APan)) (kind : CallKind) (pk : Option (List PanicEntry)) (cs : List Frame) : Prop := match rc, pk with
  | none, none => ∀ fr : Frame, fr.kind = kind → tryRecover fr cs = none
  | some ch, some ch' => kind = .deferred ∧ cs ≠ [] ∧ PR θ ch ch'
  | _, _ => False
def cal (pk : Option (List PanicEntry)) (cs : List Frame) : List Frame := match pk, cs with
  | some ch, c :: r => { c with mode := .panicking ch } :: r
  | _, cs => cs
theorem RcR.mono {θ θ' : Th} (h : θ.Le θ') {rc : Option (List APan)} {kind : CallKind} {pk : Option (List PanicEntry)} {cs : List Frame} (k : RcR θ rc kind pk cs) : RcR θ' rc kind pk cs := by
  cases rc <;> cases pk <;> simp only [RcR] at k ⊢
  · exact k
  · exact ⟨k.1, k.2.1, k.2.2.mono h⟩
theorem RcR.normal (θ : Th) (cs : List Frame) : RcR θ none .normal none cs := by
  intro fr hk
  unfold tryRecover
  simp [hk]
theorem RcR.of_normal {θ : Th} {rc : Option (List APan)} {pk : Option (List PanicEntry)} {cs : List Frame} (h : RcR θ rc .normal pk cs) : rc = none ∧ pk = none := by
  cases rc <;> cases pk <;> simp [RcR] at h ⊢

def RofR (θ : Th) (r : Option Nat) (rof : Option Nat) : Prop := match r, rof with
  | none, none => True
  | some l, some b => ∃ d rm, θ.addr l = some (b, d, rm)
  | _, _ => False
theorem RofR.mono {θ θ' : Th} (h : θ.Le θ') {r rof : Option Nat} (k : RofR θ r rof) : RofR θ' r rof := by
  cases r <;> cases rof <;> simp only [RofR] at k ⊢
  obtain ⟨d, rm, e⟩ := k
  exact ⟨d, rm, h.addr _ _ e⟩

def NoCall (todo : List Item) : Prop := ∀ a b c d k, todo ≠ .call a b c d :: k
theorem NoCall.catches {P : Program} {fr : Frame} (h : NoCall fr.todo) : fr.catches P = false := by
  unfold Frame.catches
  split
  · rename_i a b c d k _ ht
    exact absurd ht (h a b c d k)
  · rfl

/-- Where the machine gets to. -/
def Arr (P : Program) (m : Machine) (fn : FuncId) (kind : CallKind) (rof : Option Nat) (k : List Item) (cs : List Frame) (θ : Th) (tmps : Array Value) (defers : List Deferred) (w : World) : AX → Prop
  | .normal => Steps P m (lone (AFr fn kind rof tmps defers k .run) cs w)
  | .exit id => ∃ k1, exitTo id k1 = exitTo id k ∧ Steps P m (lone (AFr fn kind rof tmps defers (.code (.exit id) :: k1) .run) cs w)
  | .ret => ∃ k1, Steps P m (lone (AFr fn kind rof tmps defers (.code .ret :: k1) .run) cs w)
  | .panic ch => ∃ todo ch', PR θ ch ch' ∧ NoCall todo ∧ Steps P m (lone (AFr fn kind rof tmps defers todo (.panicking ch')) cs w)
  | .val _ => False
theorem Arr.of_steps {P : Program} {m m1 : Machine} {fn : FuncId} {kind : CallKind} {rof : Option Nat} {k : List Item} {cs : List Frame} {θ : Th} {tmps : Array Value} {defers : List Deferred} {w : World} {e : AX}
    (h : Steps P m m1) (a : Arr P m1 fn kind rof k cs θ tmps defers w e) : Arr P m fn kind rof k cs θ tmps defers w e := by
  cases e with
  | normal => exact h.trans a
  | exit id => obtain ⟨k1, e, s⟩ := a; exact ⟨k1, e, h.trans s⟩
  | ret => obtain ⟨k1, s⟩ := a; exact ⟨k1, h.trans s⟩
  | panic ch => obtain ⟨t, c, p, n, s⟩ := a; exact ⟨t, c, p, n, h.trans s⟩
  | val v => exact a

/-- A frame's state. -/
structure St (B : Nat → Prop) (w0 : World) (x : Cx) (kind : CallKind) (cs : List Frame) (s : S) (θ : Th) (G : Hp) (w : World) (tmps : Array Value) (defers : List Deferred) (pk : Option (List PanicEntry)) : Prop where
  inv : Inv B w0 θ G w s.top x.base
  tr : TR θ s.T x.ntm tmps
  dr : DRL θ s.ds defers
  rc : RcR θ s.rc kind pk cs

/-- One of the outcomes is the machine's. -/
def Gets (P : Program) (B : Nat → Prop) (w0 : World) (x : Cx) (top : Lay) (θ : Th) (G : Hp) (m : Machine) (fn : FuncId) (kind : CallKind) (rof : Option Nat) (k : List Item) (cs : List Frame) (outs : List Out) : Prop :=
  ∃ out ∈ outs, ∃ θ' G' w' tmps' defers' pk', St B w0 x kind cs out.s θ' G' w' tmps' defers' pk' ∧ Ext x.base top out.s.top θ θ' G G' ∧ Arr P m fn kind rof k (cal pk' cs) θ' tmps' defers' w' out.e

/-- A frame is about to leave. -/
def Leaves (P : Program) (θ : Th) (fr : Frame) (w : World) (e : AX) : Prop := fr.defers = [] ∧ (∃ fn, P.funcs[fr.fn]? = some fn) ∧ match e with
  | .val v => fr.mode = .returning ∧ ∃ fn y, P.funcs[fr.fn]? = some fn ∧ (results fn fr.tmps).run P w = .ok y w ∧ VR θ v y
  | .panic ch => ∃ ch', fr.mode = .panicking ch' ∧ PR θ ch ch'
  | _ => False

def GetsCall (P : Program) (B : Nat → Prop) (w0 : World) (base : List Lay) (top : Lay) (θ : Th) (G : Hp) (m : Machine) (kind : CallKind) (f : FuncId) (cs : List Frame) (outs : List Out) : Prop :=
  ∃ out ∈ outs, ∃ θ' G' w' pk' fr', Inv B w0 θ' G' w' out.s.top base ∧ Ext base top out.s.top θ θ' G G' ∧ RcR θ' out.s.rc kind pk' cs ∧ Steps P m (lone fr' (cal pk' cs) w') ∧ (fr'.kind = kind ∧ fr'.fn = f) ∧ Leaves P θ' fr' w' out.e

/-- A frame that unwinds: it returns, or a panic is on its way. -/
def UMode (θ : Th) (m : Option (List APan)) (mode : FrameMode) : Prop := match m with
  | none => mode = .returning
  | some ch => ∃ ch', mode = .panicking ch' ∧ PR θ ch ch'

/-- What a task's outcomes say. -/
def SoundT (P : Program) : Task → List Out → Prop
  | .code x c s, outs => ∀ B w0 θ G w fn kind rof tmps defers k cs pk, St B w0 x kind cs s θ G w tmps defers pk → FN θ G x.base s.top outs → RofR θ x.round rof →
      Gets P B w0 x s.top θ G (lone (AFr fn kind rof tmps defers (.code c :: k) .run) (cal pk cs) w) fn kind rof k cs outs
  | .call base f args s, outs => ∀ B w0 θ G w kind cs pk (xs : Array Value), Inv B w0 θ G w s.top base → FN θ G base s.top outs → VRL θ args xs.toList → RcR θ s.rc kind pk cs → (s.ds = [] → kind = .normal) →
      GetsCall P B w0 base s.top θ G (lone (Frame.enter P f xs kind) (cal pk cs) w) kind f cs outs
  | .unw x f m s, outs => ∀ B w0 θ G w kind cs pk tmps defers todo mode, St B w0 x kind cs s θ G w tmps defers pk → FN θ G x.base s.top outs → (∃ fn, P.funcs[f]? = some fn) →
      UMode θ m mode →
      GetsCall P B w0 x.base s.top θ G (lone (AFr f kind none tmps defers todo mode) (cal pk cs) w) kind f cs outs
  | .round base l args s, outs => ∀ B w0 θ G w b d rm (xs : Array Value) c cs, Inv B w0 θ G w s.top base → FN θ G base s.top outs → θ.addr l = some (b, d, rm) → VRL θ args xs.toList →
      ∃ fL tL a bd, (Instr.yield b xs).run P w = .ok (.round b fL tL a bd) w ∧ ∃ out ∈ outs, ∃ θ' G' w', Inv B w0 θ' G' w' out.s.top base ∧ Ext base s.top out.s.top θ θ' G G' ∧
        (match out.e with
          | .val v => ∃ y, VR θ' v y ∧ Steps P (lone (Frame.round b fL tL a bd .normal) (c :: cs) w) (lone (c.finish y) cs w')
          | .panic ch => ∃ ch', PR θ' ch ch' ∧ Steps P (lone (Frame.round b fL tL a bd .normal) (c :: cs) w) (lone (c.raise ch') cs w')
          | _ => False)
def Sound (P : Program) (rec : Task → Outs) : Prop := ∀ t outs, rec t = some outs → SoundT P t outs

section
variable {P : Program} {rec : Task → Outs} {B : Nat → Prop} {w0 : World} {θ : Th} {G : Hp} {w : World} {x : Cx} {s : S} {fn : FuncId} {kind : CallKind} {rof : Option Nat} {tmps : Array Value} {defers : List Deferred} {k : List Item} {cs : List Frame} {pk : Option (List PanicEntry)}
  {ops : Array Oper} {i : Nat} {rest : List Nat} {o : Oper}

theorem putD_good {K : S → Outs} (hK : GoodK x.base K) {s : S} {dst : Option Tmp} {v : AV} {outs : List Out} (h : putD x s dst v K = some outs) : GoodO x.base s.top outs := good_putD hK h

/-- Writes, and what is known behind them. -/
theorem inv_wr {c : Nat} {l : List (Nat × Option AObj)} {nw : Bool} {θ' : Th} {w' : World} {top : Lay} {base : List Lay} (hi : Inv B w0 θ G w top base) (hw : Wrote B w0 θ G c l nw θ' w') :
    Inv B w0 θ' (applyG l G) w' (applyW l top) base ∧ Ext base top (applyW l top) θ θ' G (applyG l G) := by
  refine ⟨⟨hw.hr, agree_applyW l top base G hi.agree⟩, hw.le, Mo.applyW _ _ _, fun n hn => ?_⟩
  have hno : ∀ o, (n, o) ∉ l := fun o ho => raw_applyW_mem l top base n o ho hn
  refine ⟨hw.other n fun e => ?_, applyG_ne l G n hno⟩
  rintro rfl
  obtain ⟨o, ho⟩ := hw.new e
  exact hno o ho

/-- What one operation leads to. -/
def OpGoes (P : Program) (B : Nat → Prop) (w0 : World) (x : Cx) (s : S) (θ : Th) (G : Hp) (m : Machine) (fn : FuncId) (kind : CallKind) (rof : Option Nat) (tmps : Array Value) (ops : Array Oper) (i : Nat) (rest : List Nat) (k : List Item) (cs : List Frame) (o : Oper) (K : S → Outs) (outs : List Out) : Prop :=
  (∃ s1 v outs1 θ1 G1 w1 y defers1 pk1, putD x s1 o.dst v K = some outs1 ∧ s1.T = s.T ∧ (∀ q ∈ outs1, q ∈ outs) ∧ VR θ1 v y ∧ Inv B w0 θ1 G1 w1 s1.top x.base ∧ Ext x.base s.top s1.top θ θ1 G G1 ∧ DRL θ1 s1.ds defers1 ∧ RcR θ1 s1.rc kind pk1 cs ∧
      Steps P m (lone (AFr fn kind rof (putT tmps o.dst y) defers1 (.inRegion ops rest :: k) .run) (cal pk1 cs) w1)) ∨
  (∃ q ∈ outs, ∃ ch ch' θ1 G1 w1 defers1 pk1, q.e = .panic ch ∧ q.s.T = s.T ∧ PR θ1 ch ch' ∧ Inv B w0 θ1 G1 w1 q.s.top x.base ∧ Ext x.base s.top q.s.top θ θ1 G G1 ∧ DRL θ1 q.s.ds defers1 ∧ RcR θ1 q.s.rc kind pk1 cs ∧
      Steps P m (lone (AFr fn kind rof tmps defers1 (.inRegion ops (i :: rest) :: k) (.panicking ch')) (cal pk1 cs) w1))

theorem altsO_mem {K : S → Outs} : ∀ {l : List (List (Nat × Option AObj) × AV × Option Nat)} {outs : List Out}, altsO x o s K l = some outs → ∀ {ll : List (Nat × Option AObj)} {v : AV} {nc : Option Nat}, (ll, v, nc) ∈ l →
    ∃ s1 outs1, putD x s1 o.dst v K = some outs1 ∧ (∀ q ∈ outs1, q ∈ outs) ∧ s1.T = s.T ∧ s1.ds = s.ds ∧ s1.rc = s.rc ∧ s1.top = applyW ll s.top
  | [], _, _, _, _, _, hm => by simp at hm
  | (w, v', nc') :: rest, outs, h, ll, v, nc, hm => by
    simp only [altsO] at h
    split at h
    · cases h
    · rename_i a ha
      have here : ∃ s1, putD x s1 o.dst v' K = some a ∧ s1.T = s.T ∧ s1.ds = s.ds ∧ s1.rc = s.rc ∧ s1.top = applyW w s.top := by
        split at ha
        · exact ⟨_, ha, rfl, rfl, rfl, rfl⟩
        · exact ⟨_, ha, rfl, rfl, rfl, rfl⟩
      split at h
      · simp only [Option.some.injEq] at h
        subst h
        simp only [List.mem_singleton, Prod.mk.injEq] at hm
        obtain ⟨rfl, rfl, rfl⟩ := hm
        obtain ⟨s1, h1, h2⟩ := here
        exact ⟨s1, a, h1, fun q hq => hq, h2⟩
      · split at h
        · cases h
        · rename_i b hb
          simp only [Option.some.injEq] at h
          subst h
          rcases List.mem_cons.1 hm with hm | hm
          · simp only [Prod.mk.injEq] at hm
            obtain ⟨rfl, rfl, rfl⟩ := hm
            obtain ⟨s1, h1, h2⟩ := here
            exact ⟨s1, a, h1, fun q hq => List.mem_append_left _ hq, h2⟩
          · obtain ⟨s1, outs1, h1, h2, h3⟩ := altsO_mem hb hm
            exact ⟨s1, outs1, h1, fun q hq => List.mem_append_right _ (h2 q hq), h3⟩

/-- One operation, in a frame. -/
theorem core_exec (_hg : Good rec) (hs : Sound P rec) {r : OR} {K : S → Outs} {outs : List Out} (hK : GoodK x.base K) (h : execR rec x o r s K = some outs) (hfn : FN θ G x.base s.top outs)
    (hi : Inv B w0 θ G w s.top x.base) (hd : DRL θ s.ds defers) (hrof : RofR θ x.round rof) (hrc : RcR θ s.rc kind pk cs) (ho : ops[i]? = some o) (hw : Region.wanted o (yielded ops tmps) = true)
    (hpost : Post P B w0 θ G w s.c ((execOp (AFr fn kind rof tmps defers (.inRegion ops (i :: rest) :: k) .run).eval o).run P w) r) (hdef : ∀ c, o.op = .defer c → ∃ d, r = .defer d) :
    OpGoes P B w0 x s θ G (lone (AFr fn kind rof tmps defers (.inRegion ops (i :: rest) :: k) .run) (cal pk cs) w) fn kind rof tmps ops i rest k cs o K outs := by
  have rof0 : x.round = none → rof = none := by
    intro e
    rw [e] at hrof
    cases rof with
    | none => rfl
    | some b => simp [RofR] at hrof
  have hdo : rof = none ∨ ∀ c, o.op ≠ .defer c := by
    by_cases hc : ∃ c, o.op = .defer c
    · obtain ⟨c, hc⟩ := hc
      obtain ⟨d, rfl⟩ := hdef c hc
      simp only [execR] at h
      split at h
      · cases h
      · rename_i hx
        exact .inl (rof0 hx)
    · exact .inr fun c e => hc ⟨c, e⟩
  cases r with
  | val v =>
    obtain ⟨y, w', hgv, hv, hh⟩ := hpost
    exact .inl ⟨s, v, outs, θ, G, w', y, defers, pk, h, rfl, fun q hq => hq, hv, ⟨hh, hi.agree⟩, Ext.refl _ _ _ _, hd, hrc, .one (m_value ho hw hdo hgv)⟩
  | setc v c =>
    obtain ⟨y, w', hgv, hv, hh⟩ := hpost
    exact .inl ⟨{ s with c }, v, outs, θ, G, w', y, defers, pk, h, rfl, fun q hq => hq, hv, ⟨hh, hi.agree⟩, Ext.refl _ _ _ _, hd, hrc, .one (m_value ho hw hdo hgv)⟩
  | wr l nw v =>
    have key : ∃ s1, putD x s1 o.dst v K = some outs ∧ s1.T = s.T ∧ s1.ds = s.ds ∧ s1.rc = s.rc ∧ s1.top = applyW l s.top ∧ (nw = true → raw s.top x.base s.c = none) := by
      simp only [execR, doW] at h
      split at h
      · exact ⟨_, h, rfl, rfl, rfl, rfl, fun e => by cases e⟩
      · split at h
        · cases h
        · rename_i hf
          refine ⟨_, h, rfl, rfl, rfl, rfl, fun _ => ?_⟩
          unfold isFree at hf
          split at hf
          · assumption
          · cases hf
    obtain ⟨s1, h1, hT, hds, hrcs, htop, hfree⟩ := key
    have hfree' : nw = true → (∃ o, (s.c, o) ∈ l) → Free θ G s.c := by
      intro e ⟨o', ho'⟩
      have hgo := putD_good hK h1
      obtain ⟨q, hq⟩ : ∃ q, q ∈ outs := by
        cases outs with
        | nil => exact absurd rfl hgo.ne
        | cons q _ => exact ⟨q, List.mem_cons_self ..⟩
      refine hfn q hq s.c (hfree e) (hgo.mo q hq s.c ?_)
      rw [htop]
      exact raw_applyW_mem l s.top x.base s.c o' ho'
    obtain ⟨hex, hpost⟩ := hpost
    obtain ⟨y, θ', w', hgv, hwr, hv⟩ := hpost fun e => hfree' e (hex e)
    obtain ⟨hi', hext⟩ := inv_wr hi hwr
    exact .inl ⟨s1, v, outs, θ', _, w', y, defers, pk, h1, hT, fun q hq => hq, hv, by rw [htop]; exact hi', by rw [htop]; exact hext, by rw [hds]; exact hd.mono hwr.le, by rw [hrcs]; exact hrc.mono hwr.le, .one (m_value ho hw hdo hgv)⟩
  | alts l =>
    obtain ⟨ll, v, nc, y, w', hm, hgv, hh, hv⟩ := hpost
    obtain ⟨s1, outs1, h1, hsub, hT, hds, hrcs, htop⟩ := altsO_mem h hm
    obtain ⟨hi', hext⟩ := inv_wr (c := 0) (l := ll) (nw := false) hi ⟨Th.Le.refl θ, fun _ _ => ⟨rfl, rfl⟩, hh, fun e => by cases e⟩
    exact .inl ⟨s1, v, outs1, θ, _, w', y, defers, pk, h1, hT, hsub, hv, by rw [htop]; exact hi', by rw [htop]; exact hext, by rw [hds]; exact hd, by rw [hrcs]; exact hrc, .one (m_value ho hw hdo hgv)⟩
  | enter f args =>
    obtain ⟨xs, hr, hxs, _⟩ := hpost
    obtain ⟨l, hl, hb⟩ := bindS_some h
    have hcont : ∀ out ∈ l, ∀ a, (match out.e with
        | .val v => putD x (behind s out.s) o.dst v K
        | .panic ch => some [⟨.panic ch, behind s out.s⟩]
        | _ => none) = some a → GoodO x.base out.s.top a := by
      intro out _ a ha
      split at ha
      · have := good_putD hK ha
        exact this
      · simp only [Option.some.injEq] at ha; subst ha; exact GoodO.one _ _ _ (Mo.refl _ _)
      · cases ha
    have hfl := hfn.bind hb hcont
    obtain ⟨out, hout, θ', G', w', pk', fr', hi', hext, hrc', hst, hkd, hlv⟩ := hs _ _ hl B w0 θ G w .normal (AFr fn kind rof tmps defers (.inRegion ops (i :: rest) :: k) .run :: cal pk cs) none xs hi hfl hxs (RcR.normal _ _) (fun _ => rfl)
    obtain ⟨_, rfl⟩ := hrc'.of_normal
    obtain ⟨h1, _⟩ := bindO_some hb
    obtain ⟨a, ha, hsub⟩ := h1 out hout
    have hen := m_enter (cs := cal pk cs) ho hw hdo hr
    obtain ⟨hdf, ⟨fn0, hfn0⟩, hlv⟩ := hlv
    split at ha
    · rename_i v hev
      rw [hev] at hlv
      obtain ⟨hm, fn1, y, hf1, hres, hv⟩ := hlv
      refine .inl ⟨behind s out.s, v, a, θ', G', w', y, defers, pk, ha, rfl, hsub, hv, hi', hext, hd.mono hext.le, hrc.mono hext.le, ?_⟩
      refine .head hen (hst.trans (.one ?_))
      rw [← finish_op ho]
      exact step_leave_returned ⟨hm, hdf, hkd.1, fn1, hf1, hres⟩
    · rename_i ch hev
      rw [hev] at hlv
      obtain ⟨ch', hm, hpr⟩ := hlv
      simp only [Option.some.injEq] at ha
      subst ha
      refine .inr ⟨_, hsub _ (List.mem_singleton.2 rfl), ch, ch', θ', G', w', defers, pk, rfl, rfl, hpr, hi', hext, hd.mono hext.le, hrc.mono hext.le, ?_⟩
      exact .head hen (hst.trans (.one (step_leave_panicked ⟨hm, hdf, fn0, hfn0⟩)))
    · cases ha
  | round l' args =>
    obtain ⟨b, d, rm, xs, hadr, hxs, hr⟩ := hpost
    obtain ⟨l, hl, hb⟩ := bindS_some h
    have hcont : ∀ out ∈ l, ∀ a, (match out.e with
        | .val v => putD x (behind s out.s) o.dst v K
        | .panic ch => some [⟨.panic ch, behind s out.s⟩]
        | _ => none) = some a → GoodO x.base out.s.top a := by
      intro out _ a ha
      split at ha
      · have := good_putD hK ha
        exact this
      · simp only [Option.some.injEq] at ha; subst ha; exact GoodO.one _ _ _ (Mo.refl _ _)
      · cases ha
    have hfl := hfn.bind hb hcont
    obtain ⟨fL, tL, ac, bd, hy, out, hout, θ', G', w', hi', hext, hlv⟩ := hs _ _ hl B w0 θ G w b d rm xs (AFr fn kind rof tmps defers (.inRegion ops (i :: rest) :: k) .run) (cal pk cs) hi hfl hadr hxs
    obtain ⟨h1, _⟩ := bindO_some hb
    obtain ⟨a, ha, hsub⟩ := h1 out hout
    have hen := m_round (cs := cal pk cs) ho hw hdo (hr.trans hy)
    split at ha
    · rename_i v hev
      rw [hev] at hlv
      obtain ⟨y, hv, hst⟩ := hlv
      rw [finish_op ho] at hst
      exact .inl ⟨behind s out.s, v, a, θ', G', w', y, defers, pk, ha, rfl, hsub, hv, hi', hext, hd.mono hext.le, hrc.mono hext.le, .head hen hst⟩
    · rename_i ch hev
      rw [hev] at hlv
      obtain ⟨ch', hpr, hst⟩ := hlv
      simp only [Option.some.injEq] at ha
      subst ha
      exact .inr ⟨_, hsub _ (List.mem_singleton.2 rfl), ch, ch', θ', G', w', defers, pk, rfl, rfl, hpr, hi', hext, hd.mono hext.le, hrc.mono hext.le, .head hen hst⟩
    · cases ha
  | defer d =>
    simp only [execR] at h
    split at h
    · cases h
    · rename_i hx
      have hrn := rof0 hx
      subst hrn
      obtain ⟨dd, hr, hdr⟩ := hpost
      exact .inl ⟨{ s with ds := d :: s.ds }, .tup [], outs, θ, G, w, undef, dd :: defers, pk, h, rfl, fun q hq => hq, VR.undef θ, hi, Ext.refl _ _ _ _, ⟨dd, defers, rfl, hdr, hd⟩, hrc, .one (m_defer ho hw hr)⟩
  | recov =>
    have hr : _ = Result.ok Next.recover w := hpost
    simp only [execR] at h
    split at h
    · cases h
    · rename_i hx
      have hrn := rof0 hx
      split at h
      · rename_i v older hsrc
        rw [hsrc] at hrc
        cases pk with
        | none => simp [RcR] at hrc
        | some ch' =>
          obtain ⟨hkd, hcs, z, zs, rfl, ⟨y, rfl, hv⟩, holder⟩ := hrc
          cases cs with
          | nil => exact absurd rfl hcs
          | cons c r =>
            refine .inl ⟨{ s with rc := some (⟨v, true⟩ :: older) }, v, outs, θ, G, w, y, defers, some ({ v := y, recovered := true } :: zs), h, rfl, fun q hq => hq, hv, hi, Ext.refl _ _ _ _, hd, ⟨hkd, by simp, _, _, rfl, ⟨y, rfl, hv⟩, holder⟩, ?_⟩
            refine .one (m_recover ho hw hdo hrn hr ?_)
            simp [tryRecover, hkd, cal]
      · rename_i hne
        have hnil : tryRecover (AFr fn kind rof tmps defers (.inRegion ops (i :: rest) :: k) .run) (cal pk cs) = none := by
          cases hsrc : s.rc with
          | none =>
            rw [hsrc] at hrc
            cases pk with
            | none => exact hrc _ rfl
            | some ch' => simp [RcR] at hrc
          | some ch =>
            rw [hsrc] at hrc
            cases pk with
            | none => simp [RcR] at hrc
            | some ch' =>
              obtain ⟨hkd, hcs, hpr⟩ := hrc
              cases cs with
              | nil => exact absurd rfl hcs
              | cons c r =>
                cases ch with
                | nil =>
                  simp only [PR] at hpr
                  subst hpr
                  simp [tryRecover, hkd, cal]
                | cons p ps =>
                  obtain ⟨z, zs, rfl, ⟨y, rfl, hv⟩, _⟩ := hpr
                  obtain ⟨pv, pr⟩ := p
                  cases pr with
                  | false => exact absurd hsrc (hne pv ps)
                  | true => simp [tryRecover, hkd, cal]
        refine .inl ⟨s, .if0, outs, θ, G, w, .nilIface, defers, pk, h, rfl, fun q hq => hq, by simp only [VR], hi, Ext.refl _ _ _ _, hd, hrc, .one (m_recover ho hw hdo hrn hr ?_)⟩
        rw [hnil]
        exact ⟨rfl, rfl⟩
  | panic v =>
    obtain ⟨y, hr, hv⟩ := hpost
    simp only [execR, Option.some.injEq] at h
    subst h
    exact .inr ⟨_, List.mem_singleton.2 rfl, [⟨v, false⟩], [{ v := y, recovered := false }], θ, G, w, defers, pk, rfl, rfl, ⟨_, [], rfl, ⟨y, rfl, hv⟩, rfl⟩, hi, Ext.refl _ _ _ _, hd, hrc, .one (m_panic ho hw hdo hr)⟩
end
end Go.AE
/-
  The evaluator is sound, fifth part: a region in its text's order; plain code.
-/
namespace Go.AE
section
variable {P : Program} {rec : Task → Outs} {B : Nat → Prop} {w0 : World} {θ : Th} {G : Hp} {w : World} {x : Cx} {s : S} {fn : FuncId} {kind : CallKind} {rof : Option Nat} {tmps : Array Value} {defers : List Deferred} {k : List Item} {cs : List Frame} {pk : Option (List PanicEntry)}
  {ops : Array Oper} {i : Nat} {rest : List Nat} {o : Oper}

theorem aop_post {lk : Nat → Option AObj} (h : Cxt P B w0 θ G w lk) {T : Tm} {c : Nat} {ρ : Operand → Value} {o : Oper} (hρ : EvR θ T ρ (· ∈ o.op.operands)) {r : OR} (e : aop P lk T c o = some r) :
    Post P B w0 θ G w c ((execOp ρ o).run P w) r ∧ ∀ k, o.op = .defer k → ∃ d, r = .defer d := by
  by_cases hd : ∃ k, o.op = .defer k
  · obtain ⟨k, hk⟩ := hd
    obtain ⟨dst, op, ty, pos, after, guard⟩ := o
    simp only at hk
    subst hk
    simp only [aop] at e
    obtain ⟨d, y, rfl, hr, hdr⟩ := sDefer (w := w) (ty := ty) (hρ.mono fun x hx => hx) e
    refine ⟨⟨y, ?_, hdr⟩, fun _ _ => ⟨d, rfl⟩⟩
    simp only [execOp, Sem.run_bind, hr, Result.andThen_ok, Sem.run_pure]
  · exact ⟨aop_sound h hρ e fun k hk => hd ⟨k, hk⟩, fun k hk => absurd ⟨k, hk⟩ hd⟩

theorem wanted_of {T : Tm} (hslot : ∀ j want t, o.guard = some (j, want) → (ops[j]?).bind (·.dst) = some t → VR θ (getT T t) (tmps.getD t undef)) {b : Bool} (h : wantedB ops T o = some b) :
    Region.wanted o (yielded ops tmps) = b := by
  unfold wantedB at h
  unfold Region.wanted
  split at h
  · rename_i hg
    simp only [Option.some.injEq] at h
    simp only [hg, h]
  · rename_i j want hg
    simp only [hg]
    split at h
    · rename_i hn
      simp only [Option.some.injEq] at h
      subst h
      simp [yielded, hn]
    · rename_i t ht
      have hv := hslot j want t hg ht
      have hy : yielded ops tmps j = match tmps[t]? with | some (.bool b) => some b | _ => none := by
        unfold yielded
        rw [ht]
        rfl
      rw [hy]
      split at h
      · rename_i b' hb
        simp only [Option.some.injEq] at h
        subst h
        rw [hb] at hv
        simp only [VR] at hv
        have : tmps[t]? = some (.bool b') := by
          cases e : tmps[t]? with
          | none => simp [Array.getD_eq_getD_getElem?, e, undef] at hv
          | some v => simp only [Array.getD_eq_getD_getElem?, e, Option.getD_some] at hv; rw [hv]
        rw [this]
        cases b' <;> cases want <;> rfl
      · cases h
      · cases h
      · rename_i h1 h2 h3
        simp only [Option.some.injEq] at h
        subst h
        cases e : tmps[t]? with
        | none => rfl
        | some v =>
          simp only [Array.getD_eq_getD_getElem?, e, Option.getD_some] at hv
          cases v with
          | bool bb =>
            exfalso
            cases ha : getT T t with
            | bool b => exact h1 _ ha
            | any => exact h2 ha
            | opq n => exact h3 _ ha
            | _ => rw [ha] at hv; simp [VR] at hv
          | _ => rfl

theorem tr_putD {K : S → Outs} {outs : List Out} {dst : Option Tmp} {v : AV} {y : Value} (ht : TR θ s.T x.ntm tmps) (hv : VR θ v y) (h : putD x s dst v K = some outs) :
    ∃ T', K { s with T := T' } = some outs ∧ TR θ T' x.ntm (putT tmps dst y) := by
  unfold putD at h
  split at h
  · exact ⟨s.T, h, ht⟩
  · rename_i d
    split at h
    · cases h
    · rename_i hd
      exact ⟨_, h, ht.set (by simpa using hd) hv⟩

theorem Gets.steps {top top1 : Lay} {θ1 : Th} {G1 : Hp} {m m1 : Machine} {outs outs1 : List Out} (h : Gets P B w0 x top1 θ1 G1 m1 fn kind rof k cs outs1) (hst : Steps P m m1) (he : Ext x.base top top1 θ θ1 G G1) (hsub : ∀ q ∈ outs1, q ∈ outs) :
    Gets P B w0 x top θ G m fn kind rof k cs outs := by
  obtain ⟨out, ho, θ', G', w', t', d', pk', h1, h2, h3⟩ := h
  exact ⟨out, hsub _ ho, θ', G', w', t', d', pk', h1, he.trans h2, h3.of_steps hst⟩
theorem Gets.here {top : Lay} {m : Machine} {e : AX} (h : St B w0 x kind cs s θ G w tmps defers pk) (ht : top = s.top) (ha : Arr P m fn kind rof k (cal pk cs) θ tmps defers w e) :
    Gets P B w0 x top θ G m fn kind rof k cs [⟨e, s⟩] := ⟨_, List.mem_singleton.2 rfl, θ, G, w, tmps, defers, pk, h, by subst ht; exact Ext.refl _ _ _ _, ha⟩

theorem noCall_region {l : List Nat} : NoCall (.inRegion ops l :: k) := fun _ _ _ _ _ e => by cases e

/-- What one operation leads to, and what comes then. -/
theorem OpGoes.gets {T : Tm} {K : S → Outs} {outs : List Out} (hsT : s.T = T) (ht : TR θ T x.ntm tmps) (hfn : FN θ G x.base s.top outs) {m : Machine}
    (h : OpGoes P B w0 x s θ G m fn kind rof tmps ops i rest k cs o K outs)
    (next : ∀ s1 outs1 θ1 G1 w1 tmps1 defers1 pk1, K s1 = some outs1 → St B w0 x kind cs s1 θ1 G1 w1 tmps1 defers1 pk1 → FN θ1 G1 x.base s1.top outs1 → θ.Le θ1 →
      Gets P B w0 x s1.top θ1 G1 (lone (AFr fn kind rof tmps1 defers1 (.inRegion ops rest :: k) .run) (cal pk1 cs) w1) fn kind rof k cs outs1) :
    Gets P B w0 x s.top θ G m fn kind rof k cs outs := by
  subst hsT
  rcases h with ⟨s1, v, outs1, θ1, G1, w1, y, defers1, pk1, hp, hT, hsub, hv, hi, he, hd, hrc, hst⟩ | ⟨q, hq, ch, ch', θ1, G1, w1, defers1, pk1, hqe, hT, hpr, hi, he, hd, hrc, hst⟩
  · obtain ⟨T', hK, ht'⟩ := tr_putD (by rw [hT]; exact ht.mono he.le) hv hp
    have := next { s1 with T := T' } outs1 θ1 G1 w1 _ defers1 pk1 hK ⟨hi, ht', hd, hrc⟩ ((hfn.sub fun o ho => ⟨o, hsub o ho, Mo.refl _ _⟩).later he) he.le
    exact this.steps hst he hsub
  · exact ⟨q, hq, θ1, G1, w1, tmps, defers1, pk1, ⟨hi, by rw [hT]; exact ht.mono he.le, hd, hrc⟩, he, by rw [hqe]; exact ⟨_, ch', hpr, noCall_region, hst⟩⟩

theorem sound_ops (hg : Good rec) (hs : Sound P rec) : ∀ (l : List Oper) (i : Nat) (s : S) (outs : List Out), ops.toList.drop i = l → runOps P rec x ops l s = some outs →
    ∀ θ G w tmps defers pk, St B w0 x kind cs s θ G w tmps defers pk → FN θ G x.base s.top outs → RofR θ x.round rof →
    Gets P B w0 x s.top θ G (lone (AFr fn kind rof tmps defers (.inRegion ops (List.range' i l.length) :: k) .run) (cal pk cs) w) fn kind rof k cs outs
  | [], i, s, outs, _, h, θ, G, w, tmps, defers, pk, hst, _, _ => by
    simp only [runOps, Option.some.injEq] at h
    subst h
    exact .here hst rfl (.one m_region_end)
  | o :: os, i, s, outs, hl, h, θ, G, w, tmps, defers, pk, hst, hfn, hrof => by
    have ho : ops[i]? = some o := by
      have : (ops.toList.drop i)[0]? = some o := by rw [hl]; rfl
      simpa using this
    have hos : ops.toList.drop (i + 1) = os := by
      rw [← List.drop_drop, hl]; rfl
    have hslot : ∀ j want t, o.guard = some (j, want) → (ops[j]?).bind (·.dst) = some t → VR θ (getT s.T t) (tmps.getD t undef) := fun _ _ t _ _ => hst.tr.val t
    simp only [runOps] at h
    simp only [List.length_cons, List.range'_succ]
    split at h
    · cases h
    · rename_i hw
      obtain ⟨T', hK, ht'⟩ := tr_putD hst.tr (VR.undef θ) h
      have := sound_ops hg hs os (i + 1) { s with T := T' } outs hos hK θ G w _ defers pk ⟨hst.inv, ht', hst.dr, hst.rc⟩ hfn hrof
      exact this.steps (.one (m_op_skip ho (wanted_of hslot hw))) (Ext.refl _ _ _ _) fun q hq => hq
    · rename_i hw
      split at h
      · cases h
      · rename_i r hr
        have hcx : Cxt P B w0 θ G w (look s.top x.base) := ⟨hst.inv.hr, fun n ob e => hst.inv.agree n _ (look_some e)⟩
        obtain ⟨hpost, hdef⟩ := aop_post hcx (TR.evR (fr := AFr fn kind rof tmps defers (.inRegion ops (i :: List.range' (i + 1) os.length) :: k) .run) hst.tr _) hr
        have hop := core_exec hg hs (fun s outs h => good_ops hg h) h hfn hst.inv hst.dr hrof hst.rc ho (wanted_of hslot hw) hpost hdef
        refine hop.gets rfl hst.tr hfn fun s1 outs1 θ1 G1 w1 tmps1 defers1 pk1 hK hst1 hfn1 hle => ?_
        exact sound_ops hg hs os (i + 1) s1 outs1 hos hK θ1 G1 w1 tmps1 defers1 pk1 hst1 hfn1 (hrof.mono hle)
end
end Go.AE
/-
  The evaluator is sound, sixth part: plain code; loops, and the outcomes of a range over a map put together.
-/
namespace Go.AE
section
variable {P : Program} {rec : Task → Outs} {B : Nat → Prop} {w0 : World} {θ : Th} {G : Hp} {w : World} {x : Cx} {s : S} {fn : FuncId} {kind : CallKind} {rof : Option Nat} {tmps : Array Value} {defers : List Deferred} {k : List Item} {cs : List Frame} {pk : Option (List PanicEntry)}

/-- A machine that is not there yet goes on from its next state. -/
theorem steps_tail {m m1 m2 : Machine} (h : Go.step P m = .next m1) (hs : Steps P m m2) (hne : m ≠ m2) : Steps P m1 m2 := by
  obtain ⟨n, hn⟩ := hs
  cases n with
  | zero => simp only [runN, Stepped.next.injEq] at hn; exact absurd hn hne
  | succ n =>
    simp only [runN, h] at hn
    exact ⟨n, hn⟩
theorem lone_todo {fr fr' : Frame} {cs cs' : List Frame} {w w' : World} (h : lone fr cs w = lone fr' cs' w') : fr = fr' := by
  simp only [lone, Machine.mk.injEq, Array.mk.injEq, List.cons.injEq, Goroutine.mk.injEq] at h
  exact h.2.1.1.1

theorem Gets.map {top : Lay} {m : Machine} {k k' : List Item} {outs : List Out} (h : Gets P B w0 x top θ G m fn kind rof k cs outs)
    (f : ∀ cs' θ' tmps' defers' w' e, Arr P m fn kind rof k cs' θ' tmps' defers' w' e → Arr P m fn kind rof k' cs' θ' tmps' defers' w' e) : Gets P B w0 x top θ G m fn kind rof k' cs outs := by
  obtain ⟨out, ho, θ', G', w', t', d', pk', h1, h2, h3⟩ := h
  exact ⟨out, ho, θ', G', w', t', d', pk', h1, h2, f _ _ _ _ _ _ h3⟩

/-- Then: what comes when the first part ends normally; all else passes. -/
theorem Gets.then {k k' : List Item} {m : Machine} {l outs : List Out} {f : Out → Outs} (hfn : FN θ G x.base s.top outs) (hb : bindO f l = some outs)
    (h : Gets P B w0 x s.top θ G m fn kind rof k' cs l)
    (hpass : ∀ out a, f out = some a → out.e ≠ .normal → ∀ θ' G' w' tmps' defers' pk', St B w0 x kind cs out.s θ' G' w' tmps' defers' pk' → Arr P m fn kind rof k' (cal pk' cs) θ' tmps' defers' w' out.e → Gets P B w0 x out.s.top θ' G' m fn kind rof k cs a)
    (hnext : ∀ out a, f out = some a → out.e = .normal → ∀ θ' G' w' tmps' defers' pk', St B w0 x kind cs out.s θ' G' w' tmps' defers' pk' → FN θ' G' x.base out.s.top a → θ.Le θ' →
      Steps P m (lone (AFr fn kind rof tmps' defers' k' .run) (cal pk' cs) w') → Gets P B w0 x out.s.top θ' G' m fn kind rof k cs a) :
    Gets P B w0 x s.top θ G m fn kind rof k cs outs := by
  obtain ⟨out, ho, θ', G', w', t', d', pk', h1, h2, h3⟩ := h
  obtain ⟨hm, _⟩ := bindO_some hb
  obtain ⟨a, ha, hsub⟩ := hm out ho
  by_cases he : out.e = .normal
  · rw [he] at h3
    have := hnext out a ha he θ' G' w' t' d' pk' h1 ((hfn.sub fun o ho => ⟨o, hsub o ho, Mo.refl _ _⟩).later h2) h2.le h3
    exact this.steps (.refl P m) h2 hsub
  · exact (hpass out a ha he θ' G' w' t' d' pk' h1 h3).steps (.refl P m) h2 hsub

theorem Gets.pass {m : Machine} {out : Out} {k k' : List Item} (hex : ∀ id, exitTo id k' = exitTo id k) (he : out.e ≠ .normal) {θ' : Th} {G' : Hp} {w' : World} {tmps' : Array Value} {defers' : List Deferred} {pk' : Option (List PanicEntry)}
    (h1 : St B w0 x kind cs out.s θ' G' w' tmps' defers' pk') (h3 : Arr P m fn kind rof k' (cal pk' cs) θ' tmps' defers' w' out.e) : Gets P B w0 x out.s.top θ' G' m fn kind rof k cs [out] := by
  refine ⟨out, List.mem_singleton.2 rfl, θ', G', w', tmps', defers', pk', h1, Ext.refl _ _ _ _, ?_⟩
  cases hoe : out.e with
  | normal => exact absurd hoe he
  | exit id => rw [hoe] at h3; obtain ⟨k1, e, st⟩ := h3; exact ⟨k1, e.trans (hex id), st⟩
  | ret => rw [hoe] at h3; exact h3
  | panic ch => rw [hoe] at h3; exact h3
  | val v => rw [hoe] at h3; exact h3

theorem good_then (hg : Good rec) {f : Out → Task} (hf : ∀ o, (f o).base = x.base ∧ (f o).top = o.s.top) : ∀ {l : List Out}, ∀ o ∈ l, ∀ a, (match o.e with
    | .normal => rec (f o)
    | _ => some [o]) = some a → GoodO x.base o.s.top a := by
  intro l o _ a ha
  split at ha
  · have := hg _ _ ha
    rw [(hf o).1, (hf o).2] at this
    exact this
  · simp only [Option.some.injEq] at ha; subst ha; exact GoodO.one _ _ _ (Mo.refl _ _)

theorem sound_seq (hg : Good rec) (hs : Sound P rec) {a b : Code} {outs : List Out} (h : stepCode P rec x (.seq a b) s = some outs)
    (hst : St B w0 x kind cs s θ G w tmps defers pk) (hfn : FN θ G x.base s.top outs) (hrof : RofR θ x.round rof) :
    Gets P B w0 x s.top θ G (lone (AFr fn kind rof tmps defers (.code (.seq a b) :: k) .run) (cal pk cs) w) fn kind rof k cs outs := by
  obtain ⟨l, hl, hb⟩ := bindS_some h
  have hfl := hfn.bind hb (good_then hg fun o => ⟨rfl, rfl⟩)
  have h1 := hs _ _ hl B w0 θ G w fn kind rof tmps defers (.code b :: k) cs pk hst hfl hrof
  have h1' := h1.steps (.one m_seq) (Ext.refl _ _ _ _) fun q hq => hq
  refine Gets.then hfn hb h1' (fun out a' ha he θ' G' w' t' d' pk' hst' harr => ?_) (fun out a' ha he θ' G' w' t' d' pk' hst' hfn' hle hsteps => ?_)
  · cases hoe : out.e with
    | normal => exact absurd hoe he
    | _ =>
      simp only [hoe, Option.some.injEq] at ha
      subst ha
      exact Gets.pass (k := k) (k' := .code b :: k) (fun id => rfl) he hst' harr
  · simp only [he] at ha
    have := hs _ _ ha B w0 θ' G' w' fn kind rof t' d' k cs pk' hst' hfn' (hrof.mono hle)
    exact this.steps hsteps (Ext.refl _ _ _ _) fun q hq => hq

theorem sound_cond (hs : Sound P rec) {c : Operand} {a b : Code} {outs : List Out} (h : stepCode P rec x (.cond c a b) s = some outs)
    (hst : St B w0 x kind cs s θ G w tmps defers pk) (hfn : FN θ G x.base s.top outs) (hrof : RofR θ x.round rof) :
    Gets P B w0 x s.top θ G (lone (AFr fn kind rof tmps defers (.code (.cond c a b) :: k) .run) (cal pk cs) w) fn kind rof k cs outs := by
  have hev := (TR.evR (fr := AFr fn kind rof tmps defers (.code (.cond c a b) :: k) .run) hst.tr fun _ => True) c trivial
  simp only [stepCode] at h
  split at h
  · rename_i hc
    rw [hc] at hev
    have := hs _ _ h B w0 θ G w fn kind rof tmps defers k cs pk hst hfn hrof
    exact this.steps (.one (m_cond (t := true) hev)) (Ext.refl _ _ _ _) fun q hq => hq
  · rename_i hc
    rw [hc] at hev
    have := hs _ _ h B w0 θ G w fn kind rof tmps defers k cs pk hst hfn hrof
    exact this.steps (.one (m_cond (t := false) hev)) (Ext.refl _ _ _ _) fun q hq => hq
  · cases h

theorem exitTo_block_eq {id : Nat} : exitTo id (.inBlock id :: k) = some k := by simp [exitTo]
theorem exitTo_block_ne {id i : Nat} (h : i ≠ id) : exitTo i (.inBlock id :: k) = exitTo i k := by
  have : (id == i) = false := by simp; exact fun e => h e.symm
  simp [exitTo, this]

theorem sound_block (hs : Sound P rec) {id : Nat} {b : Code} {outs : List Out} (h : stepCode P rec x (.block id b) s = some outs)
    (hst : St B w0 x kind cs s θ G w tmps defers pk) (hfn : FN θ G x.base s.top outs) (hrof : RofR θ x.round rof) :
    Gets P B w0 x s.top θ G (lone (AFr fn kind rof tmps defers (.code (.block id b) :: k) .run) (cal pk cs) w) fn kind rof k cs outs := by
  obtain ⟨l, hl, hb⟩ := bindS_some h
  have hgood : ∀ o ∈ l, ∀ a, (match o.e with
      | .exit i => match Nat.beq i id with
        | true => some [⟨.normal, o.s⟩]
        | false => some [o]
      | _ => some [o]) = some a → GoodO x.base o.s.top a := by
    intro o _ a ha
    split at ha
    · split at ha
      · simp only [Option.some.injEq] at ha; subst ha; exact GoodO.one _ _ _ (Mo.refl _ _)
      · simp only [Option.some.injEq] at ha; subst ha; exact GoodO.one _ _ _ (Mo.refl _ _)
    · simp only [Option.some.injEq] at ha; subst ha; exact GoodO.one _ _ _ (Mo.refl _ _)
  have hfl := hfn.bind hb hgood
  have h1 := hs _ _ hl B w0 θ G w fn kind rof tmps defers (.inBlock id :: k) cs pk hst hfl hrof
  have h1' := h1.steps (.one m_block) (Ext.refl _ _ _ _) fun q hq => hq
  refine Gets.then hfn hb h1' (fun out a' ha he θ' G' w' t' d' pk' hst' harr => ?_) (fun out a' ha he θ' G' w' t' d' pk' hst' hfn' hle hsteps => ?_)
  · obtain ⟨oe, os⟩ := out
    cases oe with
    | normal => exact absurd rfl he
    | exit i =>
      simp only at ha
      obtain ⟨k1, hk1, hst1⟩ := harr
      split at ha
      · rename_i hi
        simp only [Nat.beq_eq] at hi
        subst hi
        simp only [Option.some.injEq] at ha
        subst ha
        rw [exitTo_block_eq] at hk1
        exact ⟨_, List.mem_singleton.2 rfl, θ', G', w', t', d', pk', hst', Ext.refl _ _ _ _, hst1.trans (.one (m_exit hk1))⟩
      · rename_i hi
        have hne : i ≠ id := by rintro rfl; simp at hi
        simp only [Option.some.injEq] at ha
        subst ha
        rw [exitTo_block_ne hne] at hk1
        exact ⟨_, List.mem_singleton.2 rfl, θ', G', w', t', d', pk', hst', Ext.refl _ _ _ _, k1, hk1, hst1⟩
    | ret => simp only [Option.some.injEq] at ha; subst ha; exact ⟨_, List.mem_singleton.2 rfl, θ', G', w', t', d', pk', hst', Ext.refl _ _ _ _, harr⟩
    | panic ch => simp only [Option.some.injEq] at ha; subst ha; exact ⟨_, List.mem_singleton.2 rfl, θ', G', w', t', d', pk', hst', Ext.refl _ _ _ _, harr⟩
    | val v => exact harr.elim
  · simp only [he, Option.some.injEq] at ha
    subst ha
    refine ⟨out, List.mem_singleton.2 rfl, θ', G', w', t', d', pk', hst', Ext.refl _ _ _ _, ?_⟩
    rw [he]
    exact hsteps.trans (.one m_inBlock)

theorem sound_scope (hs : Sound P rec) {b : Code} {outs : List Out} (h : stepCode P rec x (.scope b) s = some outs)
    (hst : St B w0 x kind cs s θ G w tmps defers pk) (hfn : FN θ G x.base s.top outs) (hrof : RofR θ x.round rof) :
    Gets P B w0 x s.top θ G (lone (AFr fn kind rof tmps defers (.code (.scope b) :: k) .run) (cal pk cs) w) fn kind rof k cs outs := by
  have h1 := hs _ _ h B w0 θ G w fn kind rof tmps defers (.inScope b :: k) cs pk hst hfn hrof
  have h1' := h1.steps (.one m_scope) (Ext.refl _ _ _ _) fun q hq => hq
  refine h1'.map fun cs' θ' t' d' w' e ha => ?_
  cases e with
  | normal => exact Steps.trans ha (.one m_inScope)
  | exit id => exact ha
  | ret => exact ha
  | panic ch => exact ha
  | val v => exact ha

/-- From the head of a loop, and from its first round: the same. -/
theorem Gets.loop_tail {top : Lay} {b : Code} {outs : List Out} (h : Gets P B w0 x top θ G (lone (AFr fn kind rof tmps defers (.code (.loop b) :: k) .run) (cal pk cs) w) fn kind rof k cs outs) :
    Gets P B w0 x top θ G (lone (AFr fn kind rof tmps defers (.inLoop b :: k) .run) (cal pk cs) w) fn kind rof k cs outs := by
  have tail : ∀ {m2 : Machine}, Steps P (lone (AFr fn kind rof tmps defers (.code (.loop b) :: k) .run) (cal pk cs) w) m2 → lone (AFr fn kind rof tmps defers (.code (.loop b) :: k) .run) (cal pk cs) w ≠ m2 → Steps P (lone (AFr fn kind rof tmps defers (.inLoop b :: k) .run) (cal pk cs) w) m2 :=
    fun hs hne => .head m_inLoop (steps_tail m_loop hs hne)
  obtain ⟨out, ho, θ', G', w', t', d', pk', h1, h2, h3⟩ := h
  refine ⟨out, ho, θ', G', w', t', d', pk', h1, h2, ?_⟩
  cases hoe : out.e with
  | normal =>
    rw [hoe] at h3
    refine tail h3 fun e => ?_
    have := congrArg (fun f : Frame => f.todo.length) (lone_todo e)
    simp at this
  | exit id =>
    rw [hoe] at h3
    obtain ⟨k1, hk1, hst⟩ := h3
    refine ⟨k1, hk1, tail hst fun e => ?_⟩
    have := congrArg (fun f : Frame => f.todo) (lone_todo e)
    simp at this
  | ret =>
    rw [hoe] at h3
    obtain ⟨k1, hst⟩ := h3
    refine ⟨k1, tail hst fun e => ?_⟩
    have := congrArg (fun f : Frame => f.todo) (lone_todo e)
    simp at this
  | panic ch =>
    rw [hoe] at h3
    obtain ⟨todo, ch', hpr, hnc, hst⟩ := h3
    refine ⟨todo, ch', hpr, hnc, tail hst fun e => ?_⟩
    have := congrArg (fun f : Frame => f.mode) (lone_todo e)
    simp at this
  | val v => rw [hoe] at h3; exact h3.elim

/-- A loop's rounds, whatever layers lie below. -/
theorem sound_rounds (hg : Good rec) (hs : Sound P rec) {b : Code} {outs : List Out} (h : bindS (rec (.code x b s)) (fun out => match out.e with
      | .normal => rec (.code x (.loop b) out.s)
      | _ => some [out]) = some outs)
    (hst : St B w0 x kind cs s θ G w tmps defers pk) (hfn : FN θ G x.base s.top outs) (hrof : RofR θ x.round rof) :
    Gets P B w0 x s.top θ G (lone (AFr fn kind rof tmps defers (.code (.loop b) :: k) .run) (cal pk cs) w) fn kind rof k cs outs := by
  obtain ⟨l, hl, hb⟩ := bindS_some h
  have hfl := hfn.bind hb (good_then hg fun o => ⟨rfl, rfl⟩)
  have h1 := hs _ _ hl B w0 θ G w fn kind rof tmps defers (.inLoop b :: k) cs pk hst hfl hrof
  have h1' := h1.steps (.one m_loop) (Ext.refl _ _ _ _) fun q hq => hq
  refine Gets.then hfn hb h1' (fun out a' ha he θ' G' w' t' d' pk' hst' harr => ?_) (fun out a' ha he θ' G' w' t' d' pk' hst' hfn' hle hsteps => ?_)
  · cases hoe : out.e with
    | normal => exact absurd hoe he
    | _ =>
      simp only [hoe, Option.some.injEq] at ha
      subst ha
      exact Gets.pass (k := k) (k' := .inLoop b :: k) (fun id => rfl) he hst' harr
  · simp only [he] at ha
    have := hs _ _ ha B w0 θ' G' w' fn kind rof t' d' k cs pk' hst' hfn' (hrof.mono hle)
    exact this.loop_tail.steps hsteps (Ext.refl _ _ _ _) fun q hq => hq

theorem esEq_eq : ∀ {a b : List (Nat × AV × AV)}, esEq a b = true → a = b
  | [], [], _ => rfl
  | (s, k, v) :: a, (s', k', v') :: b, h => by
    simp only [esEq, Bool.and_eq_true, Nat.beq_eq] at h
    obtain ⟨⟨⟨h1, h2⟩, h3⟩, h4⟩ := h
    rw [h1, AV.beq_eq h2, AV.beq_eq h3, esEq_eq h4]
  | [], _ :: _, h => by simp [esEq] at h
  | _ :: _, [], h => by simp [esEq] at h
theorem AObj.beq_eq {a b : AObj} (h : AObj.beq a b = true) : a = b := by
  cases a <;> cases b <;> simp only [AObj.beq, Bool.false_eq_true, Bool.and_eq_true, Nat.beq_eq] at h
  · obtain ⟨⟨h1, h2⟩, h3⟩ := h
    rename_i l t m l' t' m'
    have : m = m' := by
      cases m <;> cases m' <;> simp [optN] at h3 ⊢
      exact h3
    rw [AVL.beq_eq h1, h2, this]
  · rw [esEq_eq h.1, h.2]

theorem getP_any : ∀ (p : List D8) (t : Tm), getP (.tup []) p (anyT t) = .any ∨ (getP (.tup []) p t = .tup [] ∧ getP (.tup []) p (anyT t) = .tup [])
  | [], t => by cases t <;> simp [anyT, getP]
  | c :: p, t => by
    cases t with
    | nil => simp [anyT, getP]
    | node v c0 c1 c2 c3 c4 c5 c6 c7 => cases c <;> simp only [anyT, getP] <;> exact getP_any p _
theorem getP_mrgR : ∀ (p : List D8) (a b : Tm), getP (.tup []) p (mrgR a b) = .any ∨ (getP (.tup []) p (mrgR a b) = getP (.tup []) p a ∧ getP (.tup []) p a = getP (.tup []) p b)
  | [], a, b => by
    cases a with
    | nil =>
      rcases getP_any [] b with h | ⟨h1, h2⟩
      · exact .inl h
      · exact .inr ⟨h2, h1.symm⟩
    | node v c0 c1 c2 c3 c4 c5 c6 c7 =>
      cases b with
      | nil => exact .inl rfl
      | node v' c0' c1' c2' c3' c4' c5' c6' c7' =>
        simp only [mrgR, getP, mrgA]
        cases h : AV.beq v v' with
        | true => have := AV.beq_eq h; subst this; exact .inr ⟨rfl, rfl⟩
        | false => exact .inl rfl
  | c :: p, a, b => by
    cases a with
    | nil =>
      rcases getP_any (c :: p) b with h | ⟨h1, h2⟩
      · exact .inl h
      · exact .inr ⟨h2, h1.symm⟩
    | node v c0 c1 c2 c3 c4 c5 c6 c7 =>
      cases b with
      | nil =>
        rcases getP_any (c :: p) (.node v c0 c1 c2 c3 c4 c5 c6 c7) with h | ⟨h1, h2⟩
        · exact .inl h
        · refine .inr ⟨h2.trans h1.symm, h1⟩
      | node v' c0' c1' c2' c3' c4' c5' c6' c7' => cases c <;> simp only [mrgR, getP] <;> exact getP_mrgR p _ _

/-- A weaker outcome. -/
structure Weaker (base : List Lay) (o m : Out) : Prop where
  e : m.e = o.e
  T : ∀ t, getT m.s.T t = .any ∨ getT m.s.T t = getT o.s.T t
  ds : m.s.ds = o.s.ds
  rc : m.s.rc = o.s.rc
  none : ∀ n, raw m.s.top base n = none → raw o.s.top base n = none
  some : ∀ n a, raw m.s.top base n = some (some a) → raw o.s.top base n = some (some a)
theorem Weaker.refl (base : List Lay) (o : Out) : Weaker base o o := ⟨rfl, fun _ => .inr rfl, rfl, rfl, fun _ h => h, fun _ _ h => h⟩
theorem Weaker.trans {base : List Lay} {a b c : Out} (h : Weaker base a b) (k : Weaker base b c) : Weaker base a c :=
  ⟨k.e.trans h.e, fun t => by
    rcases k.T t with h1 | h1
    · exact .inl h1
    · rcases h.T t with h2 | h2
      · exact .inl (h1.trans h2)
      · exact .inr (h1.trans h2), k.ds.trans h.ds, k.rc.trans h.rc, fun n e => h.none n (k.none n e), fun n o e => h.some n o (k.some n o e)⟩
theorem exEq_eq {a b : AX} (h : exEq a b = true) : a = b := by
  cases a <;> cases b <;> simp [exEq] at h ⊢
  exact h
theorem mrg2_weaker {base : List Lay} {a b m : Out} (h : mrg2 a b = some m) : Weaker base a m ∧ Weaker base b m := by
  obtain ⟨h1, h2, h3, h4, h5, rfl⟩ := mrg2_some h
  have he := exEq_eq h1
  have hsome : ∀ n o, raw (mrgT a.s.top b.s.top) base n = some (some o) → raw a.s.top base n = some (some o) ∧ raw b.s.top base n = some (some o) := by
    intro n o e
    obtain ⟨hn, hs⟩ := getL_mrg a.s.top b.s.top n
    cases base with
    | nil =>
      simp only [raw] at e ⊢
      cases hm : getL (mrgT a.s.top b.s.top) n with
      | none => rw [hm] at e; simp at e
      | some y =>
        rw [hm] at e
        simp only [Option.some.injEq] at e
        subst e
        obtain ⟨o', e1, e2, e3⟩ := hs o hm
        have := AObj.beq_eq e3
        subst this
        simp [e1, e2]
    | cons c cs =>
      simp only [raw] at e ⊢
      cases hm : getL (mrgT a.s.top b.s.top) n with
      | none =>
        rw [hm] at e
        obtain ⟨e1, e2⟩ := hn.1 hm
        simp only [e1, e2]
        exact ⟨e, e⟩
      | some y =>
        rw [hm] at e
        simp only [Option.some.injEq] at e
        subst e
        obtain ⟨o', e1, e2, e3⟩ := hs o hm
        have := AObj.beq_eq e3
        subst this
        simp [e1, e2]
  refine ⟨⟨rfl, fun t => ?_, h2.symm, h4.symm, fun n e => (raw_mrg_none e).1, fun n o e => (hsome n o e).1⟩, ⟨he, fun t => ?_, h3.symm, h5.symm, fun n e => (raw_mrg_none e).2, fun n o e => (hsome n o e).2⟩⟩
  · rcases getP_mrgR (path t) a.s.T b.s.T with h | ⟨h, _⟩
    · exact .inl h
    · exact .inr h
  · rcases getP_mrgR (path t) a.s.T b.s.T with h | ⟨h, h'⟩
    · exact .inl h
    · exact .inr (h.trans h')
theorem mrgO_weaker {base : List Lay} : ∀ {l : List Out} {m : Out}, mrgO l = some [m] → ∀ o ∈ l, Weaker base o m
  | [], m, h, _, ho => by simp at ho
  | [o], m, h, o', ho => by
    simp only [mrgO, Option.some.injEq, List.cons.injEq, and_true] at h
    subst h
    rw [List.mem_singleton.1 ho]; exact Weaker.refl _ _
  | o :: q :: os, m, h, o', ho => by
    simp only [mrgO] at h
    split at h
    · rename_i r hr
      split at h
      · rename_i r' hm
        simp only [Option.some.injEq, List.cons.injEq, and_true] at h
        subst h
        obtain ⟨h1, h2⟩ := mrg2_weaker (base := base) hm
        rcases List.mem_cons.1 ho with rfl | ho
        · exact h1
        · exact (mrgO_weaker hr o' ho).trans h2
      · cases h
    · cases h

/-- A weaker outcome is the machine's too. -/
theorem Gets.weaken {top : Lay} {m : Machine} {l : List Out} {mo : Out} (h : Gets P B w0 x top θ G m fn kind rof k cs l) (hm : mrgO l = some [mo]) : Gets P B w0 x top θ G m fn kind rof k cs [mo] := by
  obtain ⟨out, ho, θ', G', w', t', d', pk', h1, h2, h3⟩ := h
  have hw := mrgO_weaker (base := x.base) hm out ho
  let G2 : Hp := fun n => match raw mo.s.top x.base n with
    | some none => none
    | _ => G' n
  refine ⟨mo, List.mem_singleton.2 rfl, θ', G2, w', t', d', pk', ⟨⟨h1.inv.hr.less fun n o e => ?_, fun n y e => ?_⟩, ⟨h1.tr.size, fun t => ?_⟩, by rw [hw.ds]; exact h1.dr, by rw [hw.rc]; exact h1.rc⟩,
    ⟨h2.le, fun n hn e => h2.mo n hn (hw.none n e), fun n e => ?_⟩, by rw [hw.e]; exact h3⟩
  · simp only [G2] at e
    split at e
    · cases e
    · exact e
  · simp only [G2]
    cases y with
    | none => rw [e]
    | some o => rw [e]; exact h1.inv.agree n _ (hw.some n o e)
  · rcases hw.T t with e | e
    · rw [e]; simp only [VR]
    · rw [e]; exact h1.tr.val t
  · obtain ⟨e1, e2⟩ := h2.same n (hw.none n e)
    refine ⟨e1, ?_⟩
    simp only [G2]
    rw [e]
    exact e2

theorem sound_loop (hg : Good rec) (hs : Sound P rec) {b : Code} {outs : List Out} (h : stepCode P rec x (.loop b) s = some outs)
    (hst : St B w0 x kind cs s θ G w tmps defers pk) (hfn : FN θ G x.base s.top outs) (hrof : RofR θ x.round rof) :
    Gets P B w0 x s.top θ G (lone (AFr fn kind rof tmps defers (.code (.loop b) :: k) .run) (cal pk cs) w) fn kind rof k cs outs := by
  simp only [stepCode] at h
  split at h
  · exact sound_rounds hg hs h hst hfn hrof
  · split at h
    · cases h
    · rename_i l hl
      split at h
      · cases h
      · rename_i ms hm
        simp only [Option.some.injEq] at h
        subst h
        have hgl : GoodO (s.top :: x.base) .nil l := by
          obtain ⟨l0, hl0, hb⟩ := bindS_some hl
          have := hg _ _ hl0
          exact GoodO.bind this hb (good_then (x := { x with base := s.top :: x.base }) hg fun o => ⟨rfl, rfl⟩)
        rcases mrgO_some hm with ⟨e, _⟩ | ⟨mo, rfl⟩
        · exact absurd e hgl.ne
        · have hst' : St B w0 { x with base := s.top :: x.base } kind cs { s with top := .nil } θ G w tmps defers pk := ⟨⟨hst.inv.hr, fun n y e => hst.inv.agree n y (by rw [← e]; exact (raw_nil _ _ _).symm)⟩, hst.tr, hst.dr, hst.rc⟩
          have hfn' : FN θ G (s.top :: x.base) .nil l := by
            intro o ho n h1 h2
            refine hfn _ (List.mem_map.2 ⟨mo, List.mem_singleton.2 rfl, rfl⟩) n (by rw [raw_nil] at h1; exact h1) ?_
            show raw (unionT s.top mo.s.top) x.base n ≠ none
            rw [raw_union]
            intro e
            exact h2 ((mrgO_weaker (base := s.top :: x.base) hm o ho).none n e)
          have := (sound_rounds (x := { x with base := s.top :: x.base }) (s := { s with top := .nil }) (k := k) (fn := fn) hg hs hl hst' hfn' hrof).weaken hm
          obtain ⟨out, ho, θ', G', w', t', d', pk', h1, h2, h3⟩ := this
          rw [List.mem_singleton.1 ho] at h1 h2 h3
          refine ⟨_, List.mem_map.2 ⟨mo, List.mem_singleton.2 rfl, rfl⟩, θ', G', w', t', d', pk', ⟨⟨h1.inv.hr, fun n y e => h1.inv.agree n y (by rw [← e]; exact (raw_union _ _ _ _).symm)⟩, h1.tr, h1.dr, h1.rc⟩, ⟨h2.le, Mo.union h2.mo, fun n e => h2.same n (by rw [← e]; exact (raw_union _ _ _ _).symm)⟩, h3⟩

end
end Go.AE
/-
  The evaluator is sound, seventh part: results, blocks that are no cells.
-/
namespace Go.AE
section
variable {P : Program} {rec : Task → Outs} {B : Nat → Prop} {w0 : World} {θ : Th} {G : Hp} {w : World} {x : Cx} {s : S} {fn : FuncId} {kind : CallKind} {rof : Option Nat} {tmps : Array Value} {defers : List Deferred} {k : List Item} {cs : List Frame} {pk : Option (List PanicEntry)}

theorem run_mapML {α β : Type} {f : α → Sem β} : ∀ {l : List α} {L : List β}, L.length = l.length → (∀ (j : Nat) (a : α), l[j]? = some a → ∃ b, L[j]? = some b ∧ (f a).run P w = .ok b w) → (l.mapM f).run P w = .ok L w
  | [], L, hl, _ => by
    have : L = [] := by simpa using hl
    subst this; rfl
  | a :: l, [], hl, _ => by simp at hl
  | a :: l, b :: L, hl, h => by
    obtain ⟨b', hb, hr⟩ := h 0 a rfl
    simp only [List.getElem?_cons_zero, Option.some.injEq] at hb
    subst hb
    have := run_mapML (l := l) (L := L) (by simpa using hl) fun j a ha => by simpa using h (j + 1) a (by simpa using ha)
    rw [List.mapM_cons]
    simp only [Sem.run_bind, hr, Result.andThen_ok, this, Sem.run_pure]
theorem run_mapM {α β : Type} {f : α → Sem β} {as : Array α} {L : List β} (hl : L.length = as.size) (h : ∀ (j : Nat) (a : α), as[j]? = some a → ∃ b, L[j]? = some b ∧ (f a).run P w = .ok b w) :
    (as.mapM f).run P w = .ok L.toArray w := by
  rw [Array.mapM_eq_mapM_toList, map_eq_pure_bind, Sem.run_bind, run_mapML (by simpa using hl) fun j a ha => h j a (by simpa using ha), Result.andThen_ok, Sem.run_pure]

theorem sLoadVar {lk : Nat → Option AObj} (h : Cxt P B w0 θ G w lk) {t : TypeId} {a v : AV} {y : Value} (e : aLoad P lk t a = some v) (ha : VR θ a y) : ∃ ad z, y = .pointer (some ad) ∧ (loadVar t ad).run P w = .ok z w ∧ VR θ v z := by
  obtain ⟨z, hr, hz⟩ := sLoad h e ha
  cases a with
  | ptr n o =>
    simp only [VR] at ha
    obtain ⟨b, d, r, hn, rfl⟩ := ha
    refine ⟨_, z, rfl, ?_, hz⟩
    simpa [Instr.loadAt, Instr.sureAddr] using hr
  | _ => simp [aLoad] at e

theorem resV_rel (h : Cxt P B w0 θ G w (look s.top x.base)) (ht : TR θ s.T x.ntm tmps) : ∀ {rs : List ResultVar} {vs : List AV}, resV P x.base s rs = some vs →
    ∃ ys : List Value, VRL θ vs ys ∧ ys.length = rs.length ∧ ∀ (j : Nat) (r : ResultVar), rs[j]? = some r → ∃ y, ys[j]? = some y ∧ (match r with
      | .tmp t => (pure (tmps.getD t undef) : Sem Value)
      | .cell a t => (do loadVar t (← asAddr (tmps.getD a undef)) : Sem Value)).run P w = .ok y w
  | [], vs, e => by
    simp only [resV, Option.some.injEq] at e
    subst e
    exact ⟨[], rfl, rfl, fun j r hj => by simp at hj⟩
  | .tmp t :: l, vs, e => by
    simp only [resV] at e
    split at e
    · rename_i r hr
      simp only [Option.some.injEq] at e
      subst e
      obtain ⟨ys, h1, h2, h3⟩ := resV_rel h ht hr
      refine ⟨tmps.getD t undef :: ys, ⟨_, _, rfl, ht.val t, h1⟩, by simp [h2], fun j r hj => ?_⟩
      cases j with
      | zero => simp only [List.getElem?_cons_zero, Option.some.injEq] at hj; subst hj; exact ⟨_, rfl, rfl⟩
      | succ j => simp only [List.getElem?_cons_succ] at hj ⊢; exact h3 j r hj
    · cases e
  | .cell a t :: l, vs, e => by
    simp only [resV] at e
    split at e
    · rename_i v hv
      split at e
      · rename_i r hr
        simp only [Option.some.injEq] at e
        subst e
        obtain ⟨ys, h1, h2, h3⟩ := resV_rel h ht hr
        obtain ⟨ad, z, hy, hz, hzv⟩ := sLoadVar h hv (ht.val a)
        refine ⟨z :: ys, ⟨_, _, rfl, hzv, h1⟩, by simp [h2], fun j r hj => ?_⟩
        cases j with
        | zero =>
          simp only [List.getElem?_cons_zero, Option.some.injEq] at hj
          subst hj
          refine ⟨z, rfl, ?_⟩
          simp only [hy, asAddr, Sem.run_bind, Sem.run_pure, Result.andThen_ok, hz]
        | succ j => simp only [List.getElem?_cons_succ] at hj ⊢; exact h3 j r hj
      · cases e
    · cases e

/-- What a function gives back. -/
def resOf : List AV → AV
  | [v] => v
  | vs => .tup vs
theorem run_results (h : Cxt P B w0 θ G w (look s.top x.base)) (ht : TR θ s.T x.ntm tmps) {f : Func} {vs : List AV} (e : resV P x.base s f.results.toList = some vs) :
    ∃ y, (results f tmps).run P w = .ok y w ∧ VR θ (resOf vs) y := by
  obtain ⟨ys, h1, h2, h3⟩ := resV_rel h ht e
  have hm := run_mapM (P := P) (w := w) (as := f.results) (L := ys) (f := fun
    | .tmp t => pure (tmps.getD t undef)
    | .cell a t => do loadVar t (← asAddr (tmps.getD a undef))) (by simpa using h2) fun j a ha => by
      obtain ⟨y, hy1, hy2⟩ := h3 j a (by simpa using ha)
      refine ⟨y, hy1, ?_⟩
      cases a <;> exact hy2
  have hl := h1.length
  have hb : (results f tmps).run P w = Sem.run P (pure (if h : ys.toArray.size = 1 then ys.toArray[0] else Value.tuple ys.toArray)) w := by
    unfold results
    rw [Sem.run_bind]
    exact congrArg (fun r => Result.andThen r fun a w' => Sem.run P (pure (if h : a.size = 1 then a[0] else Value.tuple a)) w') hm
  rw [hb]
  cases vs with
  | nil =>
    simp only [VRL] at h1
    subst h1
    refine ⟨.tuple #[], by simp, ?_⟩
    exact ⟨#[], rfl, rfl⟩
  | cons v vs =>
    cases vs with
    | nil =>
      obtain ⟨y, yl, rfl, hy, hyl⟩ := h1
      simp only [VRL] at hyl
      subst hyl
      exact ⟨y, by simp, hy⟩
    | cons v2 vs =>
      have hne : ¬ ys.toArray.size = 1 := by simp at hl ⊢; omega
      refine ⟨.tuple ys.toArray, by rw [dif_neg hne]; rfl, ?_⟩
      exact ⟨_, rfl, by simpa using h1⟩

/-- A block that is no cells is written. -/
theorem inv_obj {top : Lay} {base : List Lay} {n b d r : Nat} {o o' : AObj} {x' : Obj} {w' : World} (hi : Inv B w0 θ G w top base) (hl : look top base n = some o) (hm : mateOf o = none) (ha : θ.addr n = some (b, d, r)) (hu : Upd w w' b x') (ho : ORel θ d r o' x') :
    Inv B w0 θ (G.set n (some o')) w' (setL top n (some o')) base ∧ Ext base top (setL top n (some o')) θ θ G (G.set n (some o')) := by
  have hG := hi.agree n _ (look_some hl)
  refine ⟨⟨hi.hr.upd (G' := G.set n (some o')) hG ha hu ho (by simp [Hp.set]) fun m p hm' hp => ?_, agree_applyW [(n, some o')] top base G hi.agree⟩, Th.Le.refl θ, Mo.setL _ _ _ _, fun m hm' => ⟨⟨rfl, rfl⟩, ?_⟩⟩
  · simp only [Hp.set, if_neg hm'] at hp
    exact ⟨hp, by rw [hm]; simp⟩
  · rw [raw_setL] at hm'
    simp only [Hp.set]
    split at hm'
    · cases hm'
    · rename_i hne
      rw [if_neg fun e => hne e.symm]

theorem getLoop_run {b : Nat} {lp : Loop} (h : w.heap[b]? = some (.loop lp)) : (Instr.getLoop b).run P w = .ok lp w := by
  simp only [Instr.getLoop, Sem.run_bind, run_getObj h (by simp), Result.andThen_ok, Sem.run_pure]

theorem Inv.cxt {top : Lay} {base : List Lay} (hi : Inv B w0 θ G w top base) : Cxt P B w0 θ G w (look top base) := ⟨hi.hr, fun n _ e => hi.agree n _ (look_some e)⟩

/-- The loop's word is set. -/
theorem setLoop_rel {base : List Lay} {l : Nat} {st : LoopState} {pd : Option (Option Code)} {s' : S} {b d r : Nat} (hi : Inv B w0 θ G w s.top base) (h : setLoop base s l st pd = some s') (ha : θ.addr l = some (b, d, r)) :
    ∃ lp : Loop, w.heap[b]? = some (.loop lp) ∧ ∃ w', (setObj b (.loop { lp with state := st, pending := match pd with | some p => p | none => lp.pending })).run P w = .ok () w' ∧ s' = { s with top := s'.top } ∧
      ∃ G', Inv B w0 θ G' w' s'.top base ∧ Ext base s.top s'.top θ θ G G' := by
  unfold setLoop at h
  split at h
  · rename_i st0 p T n ps as bd dn hl
    simp only [Option.some.injEq] at h
    subst h
    obtain ⟨xo, hx, lp, rfl, h1, h2, h3, h4, h5, h6, b', d', r', e7, h7⟩ := (hi.cxt (P := P)).at_ hl ha
    obtain ⟨w', hr, hu⟩ := run_setObj (P := P) (y := .loop { lp with state := st, pending := match pd with | some p => p | none => lp.pending }) hx (by simp)
    refine ⟨lp, hx, w', hr, rfl, _, inv_obj hi hl rfl ha hu ⟨_, rfl, rfl, ?_, h3, h4, h5, h6, b', d', r', e7, h7⟩⟩
    cases pd with
    | none => exact h2
    | some p => rfl
  · cases h

end
end Go.AE
/-
  The evaluator is sound, eighth part: calls, what is deferred, rounds of a range over a function.
-/
namespace Go.AE
section
variable {P : Program} {rec : Task → Outs} {B : Nat → Prop} {w0 : World} {θ : Th} {G : Hp} {w : World} {x : Cx} {s : S} {fn : FuncId} {kind : CallKind} {rof : Option Nat} {tmps : Array Value} {defers : List Deferred} {k : List Item} {cs : List Frame} {pk : Option (List PanicEntry)}

theorem GetsCall.steps {base : List Lay} {top top1 : Lay} {θ1 : Th} {G1 : Hp} {m m1 : Machine} {outs outs1 : List Out} (h : GetsCall P B w0 base top1 θ1 G1 m1 kind fn cs outs1) (hst : Steps P m m1) (he : Ext base top top1 θ θ1 G G1) (hsub : ∀ q ∈ outs1, q ∈ outs) :
    GetsCall P B w0 base top θ G m kind fn cs outs := by
  obtain ⟨out, ho, θ', G', w', pk', fr', h1, h2, h3, h4, h5⟩ := h
  exact ⟨out, hsub _ ho, θ', G', w', pk', fr', h1, he.trans h2, h3, hst.trans h4, h5⟩

theorem getT_setArgs : ∀ (l : List AV) (n : Nat) (T : Tm) (t : Nat), getT (setArgs l n T) t = if n ≤ t ∧ t < n + l.length then (l[t - n]?).getD (.tup []) else getT T t
  | [], n, T, t => by simp only [setArgs, List.length_nil]; rw [if_neg (by omega)]
  | v :: l, n, T, t => by
    simp only [setArgs, List.length_cons]
    rw [getT_setArgs l (n + 1) _ t, getT_setT]
    by_cases h : t = n
    · subst h
      rw [if_neg (by omega), if_pos rfl, if_pos (by omega)]
      simp
    · have hn : (if n = t then v else getT T t) = getT T t := if_neg (fun e => h e.symm)
      rw [hn]
      by_cases h2 : n + 1 ≤ t ∧ t < n + 1 + l.length
      · rw [if_pos h2, if_pos (by omega), show t - n = (t - (n + 1)) + 1 from by omega, List.getElem?_cons_succ]
      · rw [if_neg h2, if_neg (by omega)]
theorem tr_args {args : List AV} {xs : Array Value} (h : VRL θ args xs.toList) (n : Nat) : TR θ (setArgs args 0 .nil) (max n (lenN args 0)) (xs ++ Array.replicate (n - xs.size) undef) := by
  have hl := h.length
  simp only [Array.length_toList] at hl
  refine ⟨by simp [lenN_eq]; omega, fun t => ?_⟩
  rw [getT_setArgs]
  by_cases ht : t < args.length
  · rw [if_pos (by omega)]
    obtain ⟨v, hv⟩ : ∃ v, args[t]? = some v := ⟨args[t], by simp [ht]⟩
    obtain ⟨y, hy, hvy⟩ := h.get hv
    rw [Array.getElem?_toList] at hy
    have : (xs ++ Array.replicate (n - xs.size) undef)[t]? = some y := by rw [Array.getElem?_append_left (by omega)]; exact hy
    simp only [Nat.sub_zero, hv, Option.getD_some, Array.getD_eq_getD_getElem?, this]
    exact hvy
  · rw [if_neg (by omega)]
    have : (xs ++ Array.replicate (n - xs.size) undef).getD t undef = undef := by
      rw [Array.getD_eq_getD_getElem?, Array.getElem?_append_right (by omega), Array.getElem?_replicate]
      split <;> rfl
    rw [this]
    unfold getT
    rw [getP_nil]
    exact VR.undef θ

theorem sound_call (hg : Good rec) (hs : Sound P rec) {base : List Lay} {f : FuncId} {args : List AV} {outs : List Out} (h : stepCall P rec base f args s = some outs) : SoundT P (.call base f args s) outs := by
  intro B w0 θ G w kind cs pk xs hi hfn hxs hrc _
  unfold stepCall at h
  split at h
  · cases h
  · rename_i fnn hfnn
    split at h
    · cases h
    · rename_i body hbody
      obtain ⟨l, hl, hb⟩ := bindS_some h
      have hgood : ∀ o ∈ l, ∀ a, (match o.e with
          | .normal => rec (.unw { ntm := max fnn.ntmps (lenN args 0), round := none, base } f none o.s)
          | .ret => rec (.unw { ntm := max fnn.ntmps (lenN args 0), round := none, base } f none o.s)
          | .panic ch => rec (.unw { ntm := max fnn.ntmps (lenN args 0), round := none, base } f (some ch) o.s)
          | _ => none) = some a → GoodO base o.s.top a := by
        intro o _ a ha
        split at ha
        · exact hg _ _ ha
        · exact hg _ _ ha
        · exact hg _ _ ha
        · cases ha
      have hfl := hfn.bind hb hgood
      have henter : Frame.enter P f xs kind = AFr f kind none (xs ++ Array.replicate (fnn.ntmps - xs.size) undef) [] [.code body] .run := by
        simp [Frame.enter, hfnn, hbody]
      have h1 := hs _ _ hl B w0 θ G w f kind none (xs ++ Array.replicate (fnn.ntmps - xs.size) undef) [] [] cs pk ⟨hi, tr_args hxs _, rfl, hrc⟩ hfl trivial
      rw [← henter] at h1
      obtain ⟨out, ho, θ', G', w', t', d', pk', hst', hext, harr⟩ := h1
      obtain ⟨hm, _⟩ := bindO_some hb
      obtain ⟨a, ha, hsub⟩ := hm out ho
      have hfn' := (hfn.sub fun o ho => ⟨o, hsub o ho, Mo.refl _ _⟩).later hext
      split at ha
      · rename_i he
        rw [he] at harr
        have := hs _ _ ha B w0 θ' G' w' kind cs pk' t' d' [] .returning hst' hfn' ⟨fnn, hfnn⟩ rfl
        exact this.steps (Steps.trans harr (.one m_end)) hext hsub
      · rename_i he
        rw [he] at harr
        obtain ⟨k1, hst1⟩ := harr
        have := hs _ _ ha B w0 θ' G' w' kind cs pk' t' d' (.code .ret :: k1) .returning hst' hfn' ⟨fnn, hfnn⟩ rfl
        exact this.steps (hst1.trans (.one m_ret)) hext hsub
      · rename_i ch he
        rw [he] at harr
        obtain ⟨todo, ch', hpr, hnc, hst1⟩ := harr
        have := hs _ _ ha B w0 θ' G' w' kind cs pk' t' d' todo (.panicking ch') hst' hfn' ⟨fnn, hfnn⟩ ⟨ch', rfl, hpr⟩
        exact this.steps hst1 hext hsub
      · cases ha

theorem PR_dropWhile : ∀ {l : List APan} {xs : List PanicEntry}, PR θ l xs → xs.dropWhile (fun e => !e.goexit) = []
  | [], xs, h => by simp only [PR] at h; subst h; rfl
  | p :: ps, xs, h => by
    obtain ⟨z, zs, rfl, ⟨y, rfl, _⟩, h2⟩ := h
    simp only [List.dropWhile_cons, Bool.not_false, if_true]
    exact PR_dropWhile h2

theorem m_return_deferred {fr c : Frame} {cs : List Frame} {w : World} {f : Func} {y : Value} (hm : fr.mode = .returning) (hd : fr.defers = []) (hk : fr.kind = .deferred) (hf : P.funcs[fr.fn]? = some f) (hr : (results f fr.tmps).run P w = .ok y w) :
    Go.step P (lone fr (c :: cs) w) = .next (lone (match c.mode with
        | .panicking ({ recovered := true, .. } :: older) =>
          match older.dropWhile (!·.goexit) with
          | [] => { c with mode := .returning }
          | rest => { c with mode := .panicking rest }
        | _ => c) cs w) :=
  step_lone_go (by
    simp [stepG, unwind, doReturn, hm, hd, hk, hf, hr]
    rfl)

theorem sound_unw (hg : Good rec) (hs : Sound P rec) {f : FuncId} {m : Option (List APan)} {outs : List Out} (h : stepUnw P rec x f m s = some outs) : SoundT P (.unw x f m s) outs := by
  intro B w0 θ G w kind cs pk tmps defers todo mode hst hfn hfun hmode
  have hcx := hst.inv.cxt (P := P)
  have hrun : mode ≠ .run := by
    cases m with
    | none => rw [show mode = .returning from hmode]; simp
    | some ch => obtain ⟨ch', e, _⟩ := hmode; rw [e]; simp
  unfold stepUnw at h
  split at h
  · rename_i hds
    have hdr := hst.dr
    rw [hds] at hdr
    simp only [DRL] at hdr
    subst hdr
    split at h
    · rename_i ch
      simp only [Option.some.injEq] at h
      subst h
      obtain ⟨ch', rfl, hpr⟩ := hmode
      exact ⟨_, List.mem_singleton.2 rfl, θ, G, w, pk, _, hst.inv, Ext.refl _ _ _ _, hst.rc, .refl P _, ⟨rfl, rfl⟩, rfl, hfun, ch', rfl, hpr⟩
    · have hmode' : mode = .returning := hmode
      subst hmode'
      split at h
      · cases h
      · rename_i fnn hfnn
        have leave : ∀ {vs : List AV} {y : Value}, (results fnn tmps).run P w = .ok y w → ∀ {v : AV}, VR θ v y → some [⟨.val v, s⟩] = some outs → GetsCall P B w0 x.base s.top θ G (lone (AFr f kind none tmps [] todo .returning) (cal pk cs) w) kind f cs outs := by
          intro vs y hr v hv e
          simp only [Option.some.injEq] at e
          subst e
          exact ⟨_, List.mem_singleton.2 rfl, θ, G, w, pk, _, hst.inv, Ext.refl _ _ _ _, hst.rc, .refl P _, ⟨rfl, rfl⟩, rfl, hfun, rfl, fnn, y, hfnn, hr, hv⟩
        split at h
        · cases h
        · rename_i v hv
          obtain ⟨y, hr, hyv⟩ := run_results hcx hst.tr hv
          exact leave (vs := []) hr hyv h
        · rename_i vs hne hv
          obtain ⟨y, hr, hyv⟩ := run_results hcx hst.tr hv
          have : resOf vs = .tup vs := by
            cases vs with
            | nil => rfl
            | cons a as =>
              cases as with
              | nil => exact absurd rfl (hne a)
              | cons b bs => rfl
          rw [this] at hyv
          exact leave (vs := []) hr hyv h
  · rename_i n ds hds
    have hdr := hst.dr
    rw [hds] at hdr
    obtain ⟨z, zs, rfl, ⟨b, d, rm, hadr, rfl⟩, hzs⟩ := hdr
    split at h
    · rename_i calls hl
      obtain ⟨xo, hx, cs0, rfl, hcs⟩ := hcx.at_ hl hadr
      cases cs0 with
      | none => exact hcs.elim
      | some cs0 =>
        obtain ⟨w', hr, hu⟩ := run_setObj (P := P) (y := .deferred none) hx (by simp)
        obtain ⟨hi', hext⟩ := inv_obj (o' := .dfr none) hst.inv hl rfl hadr hu ⟨none, rfl, trivial⟩
        have htake : (Instr.takeDeferred b).run P w = .ok cs0 w' := by
          simp only [Instr.takeDeferred, Sem.run_bind, run_getObj hx (by simp), Result.andThen_ok, hr, Sem.run_pure]
        have := hs _ _ h B w0 θ _ w' kind cs pk tmps (cs0 ++ zs) todo mode ⟨hi', hst.tr, DRL.append hcs hzs, hst.rc⟩ (hfn.later hext) hfun hmode
        exact this.steps (.one (m_coll hrun htake)) hext fun q hq => hq
    · cases h
  · rename_i g captured args ds hds
    have hdr := hst.dr
    rw [hds] at hdr
    obtain ⟨z, zs, rfl, ⟨cap, as, rfl, hcap, has⟩, hzs⟩ := hdr
    split at h
    · cases h
    · rename_i hok
      obtain ⟨l, hl, hb⟩ := bindS_some h
      have hgood : ∀ o ∈ l, ∀ a, (match o.e with
          | .val _ => match newMode m o.s.rc with
            | some m' => rec (.unw x f m' { behind s o.s with ds })
            | none => none
          | _ => none) = some a → GoodO x.base o.s.top a := by
        intro o _ a ha
        split at ha
        · split at ha
          · have := hg _ _ ha
            exact this
          · cases ha
        · cases ha
      have hfl := hfn.bind hb hgood
      have hinv : (invoke (.fn (.func g) cap) as).run P w = .ok (.enter g (as ++ cap)) w := by
        unfold fnOK at hok
        split at hok
        · rename_i fnn hfnn
          simp only [Bool.and_eq_true, Bool.not_eq_true'] at hok
          have hb : fnn.body.isNone = false := by
            have := hok.2
            cases hbb : fnn.body <;> simp_all
          simp only [invoke, callFunc, Sem.run_bind, run_program, Result.andThen_ok, hfnn, hok.1, hb, Bool.false_eq_true, if_false, Sem.run_pure]
        · cases hok
      have hxs : VRL θ (args ++ captured) (as ++ cap).toList := by
        rw [Array.toList_append]; exact has.append hcap
      -- what the deferred call sees of this frame
      have hrc1 : ∃ pk1, RcR θ m .deferred pk1 (AFr f kind none tmps zs todo mode :: cal pk cs) ∧ cal pk1 (AFr f kind none tmps zs todo mode :: cal pk cs) = AFr f kind none tmps zs todo mode :: cal pk cs := by
        cases m with
        | none =>
          have hmode' : mode = .returning := hmode
          subst hmode'
          refine ⟨none, fun fr hk => ?_, rfl⟩
          simp [tryRecover, hk]
        | some ch =>
          obtain ⟨ch', rfl, hpr⟩ := hmode
          exact ⟨some ch', ⟨rfl, by simp, hpr⟩, rfl⟩
      obtain ⟨pk1, hrc1, hcal⟩ := hrc1
      have h1 := hs _ _ hl B w0 θ G w .deferred (AFr f kind none tmps zs todo mode :: cal pk cs) pk1 (as ++ cap) hst.inv hfl hxs hrc1 (fun e => by have e : s.ds = [] := e; simp_all)
      rw [hcal] at h1
      obtain ⟨out, ho, θ', G', w', pk', fr', hi', hext, hrc', hst1, hkd, hdf, ⟨fn0, hfn0⟩, hlv⟩ := h1
      obtain ⟨hm, _⟩ := bindO_some hb
      obtain ⟨a, ha, hsub⟩ := hm out ho
      have hen := m_deferred (fn := f) (kind := kind) (rof := none) (tmps := tmps) (cs := cal pk cs) (ds := zs) (todo := todo) hrun hinv
      split at ha
      · rename_i v he
        rw [he] at hlv
        obtain ⟨hrm, fn1, y, hf1, hres, hv⟩ := hlv
        have hret := fun c cs0 => m_return_deferred (P := P) (c := c) (cs := cs0) hrm hdf hkd.1 hf1 hres
        split at ha
        · rename_i m' hm'
          have hfn' := (hfn.sub fun o ho => ⟨o, hsub o ho, Mo.refl _ _⟩).later hext
          have fin : ∀ mode', cal pk' (AFr f kind none tmps zs todo mode :: cal pk cs) = AFr f kind none tmps zs todo mode' :: cal pk cs → ∀ mode2, (match mode' with
              | .panicking ({ recovered := true, .. } :: older) =>
                match older.dropWhile (!·.goexit) with
                | [] => AFr f kind none tmps zs todo .returning
                | rest => AFr f kind none tmps zs todo (.panicking rest)
              | _ => AFr f kind none tmps zs todo mode') = AFr f kind none tmps zs todo mode2 →
              UMode θ' m' mode2 → GetsCall P B w0 x.base s.top θ G (lone (AFr f kind none tmps ({ target := .fn (.func g) cap, args := as } :: zs) todo mode) (cal pk cs) w) kind f cs outs := by
            intro mode' hc mode2 h2 hm2
            rw [hc] at hst1
            have := hs _ _ ha B w0 θ' G' w' kind cs pk tmps zs todo mode2 ⟨hi', hst.tr.mono hext.le, hzs.mono hext.le, hst.rc.mono hext.le⟩ hfn' hfun hm2
            refine this.steps (.head hen (hst1.trans (.one ?_))) hext hsub
            rw [hret, ← h2]
          cases m with
          | none =>
            have hmode' : mode = .returning := hmode
            subst hmode'
            unfold newMode at hm'
            simp only at hm'
            split at hm'
            · rename_i hrcn
              simp only [Option.some.injEq] at hm'
              subst hm'
              rw [hrcn] at hrc'
              cases pk' with
              | some ch => simp [RcR] at hrc'
              | none => exact fin .returning rfl .returning rfl rfl
            · cases hm'
          | some ch =>
            unfold newMode at hm'
            simp only at hm'
            split at hm'
            · rename_i v' r' older hrcs
              rw [hrcs] at hrc'
              cases pk' with
              | none => simp [RcR] at hrc'
              | some ch2 =>
                obtain ⟨_, _, hpr⟩ := hrc'
                obtain ⟨z, zs', rfl, ⟨y', rfl, hv'⟩, holder⟩ := hpr
                cases r' with
                | true =>
                  simp only [Option.some.injEq] at hm'
                  subst hm'
                  refine fin (.panicking ({ v := y', recovered := true } :: zs')) rfl .returning ?_ rfl
                  simp only [PR_dropWhile holder]
                | false =>
                  simp only [Option.some.injEq] at hm'
                  subst hm'
                  exact fin (.panicking ({ v := y', recovered := false } :: zs')) rfl _ rfl ⟨_, rfl, _, _, rfl, ⟨y', rfl, hv'⟩, holder⟩
            · cases hm'
        · cases ha
      · cases ha
end
end Go.AE
/-
  The evaluator is sound, ninth part: ranges over functions and their rounds.
-/
namespace Go.AE
section
variable {P : Program} {rec : Task → Outs} {B : Nat → Prop} {w0 : World} {θ : Th} {G : Hp} {w : World} {x : Cx} {s : S} {fn : FuncId} {kind : CallKind} {rof : Option Nat} {tmps : Array Value} {defers : List Deferred} {k : List Item} {cs : List Frame} {pk : Option (List PanicEntry)}

theorem setPs_rel {n : Nat} : ∀ {ts : List Tmp} {vs : List AV} {T T' : Tm} {ys : List Value} {tmps : Array Value}, setPs ts vs n T = some T' → VRL θ vs ys → TR θ T n tmps →
    ts.length = ys.length ∧ TR θ T' n ((ts.zip ys).foldl (fun tmps (p : Tmp × Value) => tmps.setIfInBounds p.1 p.2) tmps)
  | [], [], T, T', ys, tmps, h, hv, ht => by
    simp only [setPs, Option.some.injEq] at h
    simp only [VRL] at hv
    subst h hv
    exact ⟨rfl, ht⟩
  | t :: ts, v :: vs, T, T', ys, tmps, h, hv, ht => by
    obtain ⟨y, yl, rfl, hy, hyl⟩ := hv
    simp only [setPs] at h
    split at h
    · rename_i hlt
      obtain ⟨h1, h2⟩ := setPs_rel h hyl (ht.set (t := t) (by simpa using hlt) hy)
      exact ⟨by simp [h1], by simpa using h2⟩
    · cases h
  | [], _ :: _, _, _, _, _, h, _, _ => by simp [setPs] at h
  | _ :: _, [], _, _, _, _, h, _, _ => by simp [setPs] at h

theorem endR_some {base : List Lay} {l : Nat} {j : Option Code} {r : Bool} {outs : List Out} (h : endR base s l j r = some outs) :
    s.ds = [] ∧ ∃ s', setLoop base s l (match j with | none => .ready | some _ => .done) (some j) = some s' ∧ outs = [⟨.val (.bool r), s'⟩] := by
  unfold endR at h
  split at h
  · rename_i s' hds hsl
    simp only [Option.some.injEq] at h
    exact ⟨hds, s', hsl, h.symm⟩
  · cases h

/-- The end of a round. -/
theorem endRound_rel {base : List Lay} {l : Nat} {j : Option Code} {r : Bool} {outs : List Out} {b d rm : Nat} (hi : Inv B w0 θ G w s.top base) (h : endR base s l j r = some outs) (hr : r = j.isNone) (ha : θ.addr l = some (b, d, rm)) :
    s.ds = [] ∧ ∃ w', (Instr.endRound b j).run P w = .ok (.bool r) w' ∧ ∃ out ∈ outs, ∃ G', out.e = .val (.bool r) ∧ Inv B w0 θ G' w' out.s.top base ∧ Ext base s.top out.s.top θ θ G G' := by
  obtain ⟨hds, s', hsl, rfl⟩ := endR_some h
  obtain ⟨lp, hx, w', hw, _, G', hi', he⟩ := setLoop_rel (P := P) hi hsl ha
  refine ⟨hds, w', ?_, _, List.mem_singleton.2 rfl, G', rfl, hi', he⟩
  subst hr
  simp only [Instr.endRound, Sem.run_bind, getLoop_run hx, Result.andThen_ok]
  have : (setObj b (.loop { lp with state := if j.isNone then .ready else .done, pending := j })).run P w = .ok () w' := by
    rw [← hw]
    cases j <;> rfl
  rw [this]
  rfl

theorem sound_round (hg : Good rec) (hs : Sound P rec) {base : List Lay} {l : Nat} {args : List AV} {outs : List Out} (h : stepRound rec base l args s = some outs) : SoundT P (.round base l args s) outs := by
  intro B w0 θ G w b d rm xs c cs hi hfn hadr hxs
  unfold stepRound at h
  split at h
  · rename_i st0 p0 T n ps assign body dn hl
    obtain ⟨xo, hx, lp, rfl, h1, h2, h3, h4, h5, h6, b', d', r', e7, h7⟩ := (hi.cxt (P := P)).at_ hl hadr
    split at h
    · cases h
    · rename_i T' hT'
      obtain ⟨hlen, htr⟩ := setPs_rel hT' hxs h3
      have hyield : (Instr.yield b xs).run P w = .ok (.round b lp.fn ((lp.params.zip xs).foldl (fun tmps (t, a) => tmps.setIfInBounds t a) lp.tmps) lp.assign lp.body) w := by
        simp only [Instr.yield, Sem.run_bind, getLoop_run hx, Result.andThen_ok]
        rw [if_neg (by rw [h4]; simp at hlen; omega)]
        rfl
      have htr' : TR θ T' n ((lp.params.zip xs).foldl (fun tmps (t, a) => tmps.setIfInBounds t a) lp.tmps) := by
        rw [← Array.foldl_toList, Array.toList_zip, h4]; exact htr
      refine ⟨_, _, _, _, hyield, ?_⟩
      obtain ⟨l1, hl1, hb1⟩ := bindS_some h
      -- what is known stays known
      have hgood2 : ∀ (s2 : S) (l2 : List Out), ∀ o ∈ l2, ∀ a, (match o.e with
              | .normal => endR base o.s l none true
              | .ret => endR base o.s l (some .ret) false
              | .exit i => endR base o.s l (some (.exit i)) false
              | .panic ch => match o.s.ds with
                | [] => some [⟨.panic ch, o.s⟩]
                | _ :: _ => none
              | _ => none) = some a → GoodO base o.s.top a := by
        intro s2 l2 o _ a ha
        split at ha
        · exact good_endR ha
        · exact good_endR ha
        · exact good_endR ha
        · split at ha
          · simp only [Option.some.injEq] at ha; subst ha; exact GoodO.one _ _ _ (Mo.refl _ _)
          · cases ha
        · cases ha
      have hgood1 : ∀ o ∈ l1, ∀ a, (match o.e with
          | .normal => match look o.s.top base l with
            | some (.loop .ready _ _ _ _ _ _ _) => match setLoop base o.s l .busy none with
              | none => none
              | some s => bindS (rec (.code { ntm := n, round := some l, base } body s)) fun out => match out.e with
                | .normal => endR base out.s l none true
                | .ret => endR base out.s l (some .ret) false
                | .exit i => endR base out.s l (some (.exit i)) false
                | .panic ch => match out.s.ds with
                  | [] => some [⟨.panic ch, out.s⟩]
                  | _ :: _ => none
                | _ => none
            | _ => none
          | _ => none) = some a → GoodO base o.s.top a := by
        intro o _ a ha
        split at ha
        · split at ha
          · split at ha
            · cases ha
            · rename_i s1 hs1
              obtain ⟨l2, hl2, hb2⟩ := bindS_some ha
              have hg2 := hg _ _ hl2
              have hg2' : GoodO base o.s.top l2 := GoodO.from hg2 (setLoop_top hs1)
              exact hg2'.bind hb2 (hgood2 s1 l2)
          · cases ha
        · cases ha
      have hfl1 := hfn.bind hb1 hgood1
      have g1 := hs _ _ hl1 B w0 θ G w lp.fn .normal (some b) _ [] [.beginRound, .code body] (c :: cs) none ⟨hi, htr', rfl, RcR.normal _ _⟩ hfl1 ⟨d, rm, hadr⟩
      obtain ⟨out1, ho1, θ1, G1, w1, t1, d1, pk1, hst1, he1, harr1⟩ := g1
      obtain ⟨_, rfl⟩ := hst1.rc.of_normal
      obtain ⟨hm1, _⟩ := bindO_some hb1
      obtain ⟨a1, ha1, hsub1⟩ := hm1 out1 ho1
      have hadr1 := he1.le.addr _ _ hadr
      split at ha1
      · rename_i hn1
        rw [hn1] at harr1
        split at ha1
        · rename_i q1 q2 q3 q4 q5 q6 q7 hlk
          split at ha1
          · cases ha1
          · rename_i s2 hs2
            obtain ⟨xo2, hx2, lp2, rfl, hready, _⟩ := (hst1.inv.cxt (P := P)).at_ hlk hadr1
            obtain ⟨lp3, hx3, w2, hw2, hs2e, G2, hi2, he2⟩ := setLoop_rel (P := P) hst1.inv hs2 hadr1
            rw [hx2] at hx3
            simp only [Option.some.injEq, Obj.loop.injEq] at hx3
            subst hx3
            have hbegin : (Instr.beginRound b).run P w1 = .ok () w2 := by
              simp only [Instr.beginRound, Sem.run_bind, getLoop_run hx2, Result.andThen_ok, hready]
              have : (setObj b (.loop { lp2 with state := .busy })).run P w1 = .ok () w2 := hw2
              rw [this]
              rfl
            obtain ⟨l2, hl2, hb2⟩ := bindS_some ha1
            have hfn1 := (hfn.sub fun o ho => ⟨o, hsub1 o ho, Mo.refl _ _⟩).later he1
            have hfn2 := hfn1.later he2
            have hfl2 := hfn2.bind hb2 (hgood2 s2 l2)
            have hst2 : St B w0 { ntm := n, round := some l, base } .normal (c :: cs) s2 θ1 G2 w2 t1 d1 none := by
              rw [hs2e]
              exact ⟨hi2, hst1.tr, hst1.dr, hst1.rc⟩
            have g2 := hs _ _ hl2 B w0 θ1 G2 w2 lp.fn .normal (some b) t1 d1 [] (c :: cs) none hst2 hfl2 ⟨d, rm, hadr1⟩
            obtain ⟨out2, ho2, θ3, G3, w3, t3, d3, pk3, hst3, he3, harr3⟩ := g2
            obtain ⟨_, rfl⟩ := hst3.rc.of_normal
            obtain ⟨hm2, _⟩ := bindO_some hb2
            obtain ⟨a2, ha2, hsub2⟩ := hm2 out2 ho2
            have hadr3 := he3.le.addr _ _ hadr1
            have hpath : Steps P (lone (Frame.round b lp.fn ((lp.params.zip xs).foldl (fun tmps (t, a) => tmps.setIfInBounds t a) lp.tmps) lp.assign lp.body .normal) (c :: cs) w)
                (lone (AFr lp.fn .normal (some b) t1 d1 [.code body] .run) (c :: cs) w2) := by
              have : Frame.round b lp.fn ((lp.params.zip xs).foldl (fun tmps (t, a) => tmps.setIfInBounds t a) lp.tmps) lp.assign lp.body .normal =
                  AFr lp.fn .normal (some b) ((lp.params.zip xs).foldl (fun tmps (t, a) => tmps.setIfInBounds t a) lp.tmps) [] [.code assign, .beginRound, .code body] .run := by
                rw [← h5, ← h6]; rfl
              rw [this]
              exact Steps.trans harr1 (.one (m_begin hbegin))
            have hext := (he1.trans he2).trans he3
            -- a round that ends
            have ends : ∀ {j : Option Code} {r : Bool}, endR base out2.s l j r = some a2 → r = j.isNone → (∀ w4, (Instr.endRound b j).run P w3 = .ok (.bool r) w4 → Steps P (lone (AFr lp.fn .normal (some b) t1 d1 [.code body] .run) (c :: cs) w2) (lone (c.finish (.bool r)) cs w4)) →
                ∃ out ∈ outs, ∃ θ' G' w', Inv B w0 θ' G' w' out.s.top base ∧ Ext base s.top out.s.top θ θ' G G' ∧
                  (match out.e with
                    | .val v => ∃ y, VR θ' v y ∧ Steps P (lone (Frame.round b lp.fn ((lp.params.zip xs).foldl (fun tmps (t, a) => tmps.setIfInBounds t a) lp.tmps) lp.assign lp.body .normal) (c :: cs) w) (lone (c.finish y) cs w')
                    | .panic ch => ∃ ch', PR θ' ch ch' ∧ Steps P (lone (Frame.round b lp.fn ((lp.params.zip xs).foldl (fun tmps (t, a) => tmps.setIfInBounds t a) lp.tmps) lp.assign lp.body .normal) (c :: cs) w) (lone (c.raise ch') cs w')
                    | _ => False) := by
              intro j r hend hrj hsteps
              obtain ⟨_, w4, hr4, out4, ho4, G4, he4, hi4, hx4⟩ := endRound_rel (P := P) hst3.inv hend hrj hadr3
              refine ⟨out4, hsub1 _ (hsub2 _ ho4), θ3, G4, w4, hi4, hext.trans hx4, ?_⟩
              rw [he4]
              exact ⟨.bool r, by simp only [VR], hpath.trans (hsteps w4 hr4)⟩
            split at ha2
            · rename_i hn2
              rw [hn2] at harr3
              exact ends ha2 rfl fun w4 hr4 => Steps.trans harr3 (.one (m_round_end hr4))
            · rename_i hn2
              rw [hn2] at harr3
              obtain ⟨k1, hst4⟩ := harr3
              exact ends ha2 rfl fun w4 hr4 => hst4.trans (.one (m_round_ret hr4))
            · rename_i i hn2
              rw [hn2] at harr3
              obtain ⟨k1, hk1, hst4⟩ := harr3
              exact ends ha2 rfl fun w4 hr4 => hst4.trans (.one (m_round_exit hk1 hr4))
            · rename_i ch hn2
              rw [hn2] at harr3
              obtain ⟨todo, ch', hpr, hnc, hst4⟩ := harr3
              split at ha2
              · rename_i hds
                simp only [Option.some.injEq] at ha2
                subst ha2
                have hd3 := hst3.dr
                rw [hds] at hd3
                simp only [DRL] at hd3
                subst hd3
                refine ⟨_, hsub1 _ (hsub2 _ (List.mem_singleton.2 rfl)), θ3, G3, w3, hst3.inv, hext, ch', hpr, ?_⟩
                exact hpath.trans (hst4.trans (.one (m_leave (NoCall.catches hnc))))
              · cases ha2
            · cases ha2
        · cases ha1
      · cases ha1
  · cases h

end
end Go.AE
/-
  The evaluator is sound, tenth part: a range over a function.
-/
namespace Go.AE
section
variable {P : Program} {rec : Task → Outs} {B : Nat → Prop} {w0 : World} {θ : Th} {G : Hp} {w : World} {x : Cx} {s : S} {fn : FuncId} {kind : CallKind} {rof : Option Nat} {tmps : Array Value} {defers : List Deferred} {k : List Item} {cs : List Frame} {pk : Option (List PanicEntry)}

theorem isFree_raw {top : Lay} {base : List Lay} {c : Nat} (h : isFree top base c = true) : raw top base c = none := by
  unfold isFree at h
  split at h
  · assumption
  · cases h

theorem sound_rangeFunc (hg : Good rec) (hs : Sound P rec) {f : Operand} {params : Array Tmp} {assign body : Code} {outs : List Out} (h : stepCode P rec x (.rangeFunc f params assign body) s = some outs)
    (hst : St B w0 x kind cs s θ G w tmps defers pk) (hfn : FN θ G x.base s.top outs) (hrof : RofR θ x.round rof) :
    Gets P B w0 x s.top θ G (lone (AFr fn kind rof tmps defers (.code (.rangeFunc f params assign body) :: k) .run) (cal pk cs) w) fn kind rof k cs outs := by
  simp only [stepCode] at h
  split at h
  · rename_i g first captured hx hev
    have hrof0 : rof = none := by
      rw [hx] at hrof
      cases rof with
      | none => rfl
      | some b => simp [RofR] at hrof
    subst hrof0
    split at h
    · cases h
    · rename_i hok
      simp only [Bool.and_eq_true] at hok
      obtain ⟨⟨hok, hfree1⟩, hfree2⟩ := hok
      have hr1 := isFree_raw hfree1
      have hr2 := isFree_raw hfree2
      obtain ⟨l0, hl0, hb⟩ := bindS_some h
      have hgood : ∀ out ∈ l0, ∀ a, (match out.e with
          | .panic ch => some [⟨.panic ch, { behind s out.s with ds := .coll s.c :: s.ds }⟩]
          | .val _ => match look ({ behind s out.s with ds := .coll s.c :: s.ds } : S).top x.base (s.c + 1) with
            | some (.loop st pd _ _ _ _ _ _) => match st with
              | .busy => none
              | _ => match setLoop x.base { behind s out.s with ds := .coll s.c :: s.ds } (s.c + 1) .exhausted none with
                | none => none
                | some s'' => match pd with
                  | none => some [⟨.normal, s''⟩]
                  | some .ret => some [⟨.ret, s''⟩]
                  | some (.exit i) => some [⟨.exit i, s''⟩]
                  | _ => none
            | _ => none
          | _ => none) = some a → GoodO x.base out.s.top a := by
        intro out _ a ha
        split at ha
        · simp only [Option.some.injEq] at ha; subst ha; exact GoodO.one _ _ _ (Mo.refl _ _)
        · split at ha
          · split at ha
            · cases ha
            · split at ha
              · cases ha
              · rename_i s'' hs2
                have hm : Mo x.base out.s.top s''.top := by
                  have := setLoop_top hs2
                  exact this
                split at ha
                · simp only [Option.some.injEq] at ha; subst ha; exact GoodO.one _ _ _ hm
                · simp only [Option.some.injEq] at ha; subst ha; exact GoodO.one _ _ _ hm
                · simp only [Option.some.injEq] at ha; subst ha; exact GoodO.one _ _ _ hm
                · cases ha
          · cases ha
        · cases ha
      have hfl := hfn.bind hb hgood
      -- the two names are free
      have hg0 := hg _ _ hl0
      obtain ⟨q0, hq0⟩ : ∃ q, q ∈ l0 := by
        cases l0 with
        | nil => exact absurd rfl hg0.ne
        | cons q _ => exact ⟨q, List.mem_cons_self ..⟩
      have hkn : ∀ n o, (n, o) ∈ [(s.c, some (AObj.dfr (some []))), (s.c + 1, some (.loop .ready none s.T x.ntm params assign body s.c))] → raw q0.s.top x.base n ≠ none := by
        intro n o hno
        exact hg0.mo q0 hq0 n (raw_applyW_mem _ _ _ _ _ hno)
      have free1 : Free θ G s.c := hfl q0 hq0 _ hr1 (hkn _ _ (List.mem_cons_self ..))
      have free2 : Free θ G (s.c + 1) := hfl q0 hq0 _ hr2 (hkn _ _ (List.mem_cons_of_mem _ (List.mem_cons_self ..)))
      -- the two blocks
      obtain ⟨w1, hn1, hu1⟩ := run_newObj' (P := P) (w := w) (.deferred (some []))
      have hh1 := hst.inv.hr.new (c := s.c) (r := 0) (o := .dfr (some [])) free1.addr hu1 ⟨some [], rfl, rfl⟩
      have hw1 : Wrote B w0 θ G s.c [(s.c, some (.dfr (some [])))] true (θ.bind s.c (w.heap.size, 0, 0)) w1 :=
        ⟨Th.le_bind free1.addr, fun n hn => ⟨Th.bind_ne _ _ (hn rfl), rfl⟩, hh1, fun _ => ⟨_, List.mem_singleton.2 rfl⟩⟩
      obtain ⟨hi1, he1⟩ := inv_wr hst.inv hw1
      have ha2 : (θ.bind s.c (w.heap.size, 0, 0)).addr (s.c + 1) = none := by rw [Th.bind_ne _ _ (by omega)]; exact free2.addr
      let lp : Loop := { state := .ready, pending := none, fn := fn, tmps, params, assign, body, defers := w.heap.size }
      obtain ⟨w2, hn2, hu2⟩ := run_newObj' (P := P) (w := w1) (.loop lp)
      have hle2 := Th.le_bind (x := (w1.heap.size, 0, 0)) ha2
      have hh2 := hi1.hr.new (c := s.c + 1) (r := 0) (o := .loop .ready none s.T x.ntm params assign body s.c) ha2 hu2
        ⟨lp, rfl, rfl, rfl, (hst.tr.mono he1.le).mono hle2, rfl, rfl, rfl, w.heap.size, 0, 0, hle2.addr _ _ (Th.bind_self _ _ _), rfl⟩
      have hw2 : Wrote B w0 (θ.bind s.c (w.heap.size, 0, 0)) (applyG [(s.c, some (.dfr (some [])))] G) (s.c + 1) [(s.c + 1, some (.loop .ready none s.T x.ntm params assign body s.c))] true ((θ.bind s.c (w.heap.size, 0, 0)).bind (s.c + 1) (w1.heap.size, 0, 0)) w2 :=
        ⟨hle2, fun n hn => ⟨Th.bind_ne _ _ (hn rfl), rfl⟩, hh2, fun _ => ⟨_, List.mem_singleton.2 rfl⟩⟩
      obtain ⟨hi2, he2⟩ := inv_wr hi1 hw2
      have hext := he1.trans he2
      have henter : (Instr.enterLoop fn tmps params assign body none).run P w = .ok (w1.heap.size, [{ target := .collected w.heap.size, args := #[] }]) w2 := by
        simp only [Instr.enterLoop, Sem.run_bind, hn1, Result.andThen_ok, Sem.run_pure]
        have : (newObj (.loop { state := .ready, pending := none, fn, tmps, params, assign, body, defers := w.heap.size })).run P w1 = .ok w1.heap.size w2 := hn2
        rw [this]
        rfl
      -- the call
      have hfv := (TR.evR (fr := AFr fn kind none tmps ([{ target := .collected w.heap.size, args := #[] }] ++ defers) (.inRangeFunc w1.heap.size :: k) .run) hst.tr fun _ => True) f trivial
      rw [hev] at hfv
      simp only [VR] at hfv
      obtain ⟨g', fs, cps, hfv, hgf, hv1, hv2⟩ := hfv
      simp only [FR] at hgf
      subst hgf
      have hle := hext.le
      have hxs : VRL ((θ.bind s.c (w.heap.size, 0, 0)).bind (s.c + 1) (w1.heap.size, 0, 0)) (first ++ [.fn (.yield (s.c + 1)) [] []] ++ captured) (fs ++ #[Value.func (.yield w1.heap.size) #[] #[]] ++ cps).toList := by
        simp only [Array.toList_append]
        refine VRL.append (VRL.append (VRL.mono hle _ _ hv1) ?_) (VRL.mono hle _ _ hv2)
        refine ⟨.func (.yield w1.heap.size) #[] #[], [], rfl, ⟨.yield w1.heap.size, #[], #[], rfl, ?_, rfl, rfl⟩, rfl⟩
        exact ⟨w1.heap.size, 0, 0, Th.bind_self _ _ _, rfl⟩
      have hinv : ((do let d ← resolve (AFr fn kind none tmps ([{ target := .collected w.heap.size, args := #[] }] ++ defers) (.inRangeFunc w1.heap.size :: k) .run).eval { callee := .value f, args := #[.const (.func (.yield w1.heap.size) #[] #[])], argTypes := #[] } 0; invoke d.target d.args : Sem Next)).run P w2 =
          .ok (.enter g (fs ++ #[.func (.yield w1.heap.size) #[] #[]] ++ cps)) w2 := by
        unfold fnOK at hok
        split at hok
        · rename_i fnn hfnn
          simp only [Bool.and_eq_true, Bool.not_eq_true'] at hok
          have hb : fnn.body.isNone = false := by
            have := hok.2
            cases hbb : fnn.body <;> simp_all
          simp only [resolve, hfv, Deferred.ofValue, Sem.run_bind, Sem.run_pure, Result.andThen_ok, invoke, callFunc, run_program, hfnn, hok.1, hb, Bool.false_eq_true, if_false]
          rw [show ∀ fr : Frame, Array.map fr.eval #[.const (Value.func (.yield w1.heap.size) #[] #[])] = #[Value.func (.yield w1.heap.size) #[] #[]] from fun fr => by simp [Frame.eval]]
        · cases hok
      have hen := m_range (kind := kind) (defers := defers) (k := k) (cs := cal pk cs) henter hinv
      have hfn2 : FN ((θ.bind s.c (w.heap.size, 0, 0)).bind (s.c + 1) (w1.heap.size, 0, 0)) _ x.base _ l0 := hfl.later hext
      obtain ⟨out, ho, θ', G', w', pk', fr', hi', he', hrc', hst1, hkd, hdf, ⟨fn0, hfn0⟩, hlv⟩ :=
        hs _ _ hl0 B w0 _ _ w2 .normal (AFr fn kind none tmps ([{ target := .collected w.heap.size, args := #[] }] ++ defers) (.inRangeFunc w1.heap.size :: k) .run :: cal pk cs) none (fs ++ #[.func (.yield w1.heap.size) #[] #[]] ++ cps) hi2 hfn2 hxs (RcR.normal _ _) (fun _ => rfl)
      obtain ⟨_, rfl⟩ := hrc'.of_normal
      obtain ⟨hm, _⟩ := bindO_some hb
      obtain ⟨a, ha, hsub⟩ := hm out ho
      have hexta := hext.trans he'
      have hadr1 : θ'.addr s.c = some (w.heap.size, 0, 0) := he'.le.addr _ _ (hle2.addr _ _ (Th.bind_self _ _ _))
      have hadr2 : θ'.addr (s.c + 1) = some (w1.heap.size, 0, 0) := he'.le.addr _ _ (Th.bind_self _ _ _)
      have hdr : DRL θ' (.coll s.c :: s.ds) ([{ target := .collected w.heap.size, args := #[] }] ++ defers) := ⟨_, defers, rfl, ⟨_, _, _, hadr1, rfl⟩, hst.dr.mono hexta.le⟩
      split at ha
      · rename_i ch he
        rw [he] at hlv
        obtain ⟨ch', hmm, hpr⟩ := hlv
        simp only [Option.some.injEq] at ha
        subst ha
        refine ⟨_, hsub _ (List.mem_singleton.2 rfl), θ', G', w', tmps, _, pk, ⟨hi', hst.tr.mono hexta.le, hdr, hst.rc.mono hexta.le⟩, hexta, .inRangeFunc w1.heap.size :: k, ch', hpr, (show NoCall (.inRangeFunc w1.heap.size :: k) from fun _ _ _ _ _ e => by cases e), ?_⟩
        exact .head hen (hst1.trans (.one (step_leave_panicked ⟨hmm, hdf, fn0, hfn0⟩)))
      · rename_i v he
        rw [he] at hlv
        obtain ⟨hmm, fn1, y, hf1, hres, hv⟩ := hlv
        have hback : Steps P (lone (AFr fn kind none tmps defers (.code (.rangeFunc f params assign body) :: k) .run) (cal pk cs) w)
            (lone (AFr fn kind none tmps ([{ target := .collected w.heap.size, args := #[] }] ++ defers) (.endRangeFunc w1.heap.size :: k) .run) (cal pk cs) w') := by
          refine .head hen (hst1.trans (.one ?_))
          exact step_leave_returned ⟨hmm, hdf, hkd.1, fn1, hf1, hres⟩
        split at ha
        · rename_i st pd q1 q2 q3 q4 q5 q6 hlk
          have hi'' : Inv B w0 θ' G' w' ({ behind s out.s with ds := .coll s.c :: s.ds } : S).top x.base := hi'
          obtain ⟨xo, hx2, lp2, rfl, hstt, hpd, _⟩ := (hi''.cxt (P := P)).at_ hlk hadr2
          split at ha
          · cases ha
          · rename_i hnb
            split at ha
            · cases ha
            · rename_i s'' hs2
              obtain ⟨lp3, hx3, w3, hw3, hs2e, G3, hi3, he3⟩ := setLoop_rel (P := P) hi'' hs2 hadr2
              rw [hx2] at hx3
              simp only [Option.some.injEq, Obj.loop.injEq] at hx3
              subst hx3
              have hend : (Instr.endLoop w1.heap.size).run P w' = .ok pd w3 := by
                simp only [Instr.endLoop, Sem.run_bind, getLoop_run hx2, Result.andThen_ok]
                have hbz : (lp2.state == LoopState.busy) = false := by
                  rw [hstt]
                  cases st <;> first | rfl | exact absurd rfl hnb
                have : (setObj w1.heap.size (.loop { lp2 with state := .exhausted })).run P w' = .ok () w3 := hw3
                rw [hpd] at this
                simp only [hbz, Bool.false_eq_true, if_false, Sem.run_bind, Sem.run_pure, Result.andThen_ok, this, hpd]
              have hextb := hexta.trans (by exact he3)
              have hstn : St B w0 x kind cs s'' θ' G3 w3 tmps ([{ target := .collected w.heap.size, args := #[] }] ++ defers) pk := by
                rw [hs2e]
                exact ⟨hi3, hst.tr.mono hexta.le, hdr, hst.rc.mono hexta.le⟩
              have hgo := hback.trans (.one (m_endRange hend))
              split at ha
              · simp only [Option.some.injEq] at ha
                subst ha
                exact ⟨_, hsub _ (List.mem_singleton.2 rfl), θ', G3, w3, tmps, _, pk, hstn, hextb, hgo⟩
              · simp only [Option.some.injEq] at ha
                subst ha
                exact ⟨_, hsub _ (List.mem_singleton.2 rfl), θ', G3, w3, tmps, _, pk, hstn, hextb, k, hgo⟩
              · simp only [Option.some.injEq] at ha
                subst ha
                exact ⟨_, hsub _ (List.mem_singleton.2 rfl), θ', G3, w3, tmps, _, pk, hstn, hextb, k, rfl, hgo⟩
              · cases ha
        · cases ha
      · cases ha
  · cases h

end
end Go.AE
