/-
  For walks by hand: what is known lies below a bound; what a walk does above it changes nothing of it.
-/
import Derived.Test.YthlkchahlmkpiaaGreatDoorAEf
import Derived.Laws.AppendOwn
namespace Go.AE
open Go.RowKit

/-- All that is known, and all that is kept, lies below a bound. -/
structure Under (B : Nat → Prop) (θ : Th) (G : Hp) (W : Nat) : Prop where
  kept : ∀ i, B i → i < W
  known : ∀ n o b d r, G n = some o → θ.addr n = some (b, d, r) → b < W

theorem HR.under {B : Nat → Prop} {w0 w : World} {θ : Th} {G : Hp} (h : HR B w0 θ G w) : Under B θ G w.heap.size :=
  ⟨h.base.lt, fun n o b d r e a => by
    obtain ⟨b', d', r', x, a', _, hx, _⟩ := h.obj n o e
    rw [a] at a'; cases a'
    exact lt_of_heap hx⟩
theorem HR.keep {B : Nat → Prop} {w0 w w' : World} {θ : Th} {G : Hp} {W : Nat} (h : HR B w0 θ G w) (u : Under B θ G W) (k : Below W w w') : HR B w0 θ G w' :=
  ⟨fun n o e => by
    obtain ⟨b, d, r, x, a, hB, hx, hr⟩ := h.obj n o e
    exact ⟨b, d, r, x, a, hB, by rw [k.block b (u.known n o b d r e a)]; exact hx, hr⟩, h.sep,
   ⟨fun i hi => Nat.lt_of_lt_of_le (h.base.lt i hi) k.size, fun i hi => (k.block i (u.kept i hi)).trans (h.base.old i hi), k.tape.trans h.base.tape, k.os.trans h.base.os, k.output.trans h.base.out⟩, h.env⟩
/-- Above the bound a call that leaves all as it is leaves the blocks themselves. -/
theorem Base.above {B : Nat → Prop} {θ : Th} {G : Hp} {W : Nat} {w w' : World} (u : Under B θ G W) (k : Base (Unk θ G w) w w') {i : Nat} (hi : W ≤ i) (hs : i < w.heap.size) : w'.heap[i]? = w.heap[i]? ∧ i < w'.heap.size := by
  have : Unk θ G w i := ⟨hs, fun n o b d r e a => by have := u.known n o b d r e a; omega⟩
  exact ⟨k.old i this, k.lt i this⟩
theorem ownsRow_pure {B : Nat → Prop} {θ : Th} {G : Hp} {W : Nat} {w w' : World} (u : Under B θ G W) (k : Base (Unk θ G w) w w') {e : TypeId} {size : Nat} {v : Value} {n : Nat} {xs : List Value}
    (h : w.ownsRow W e size v n xs) : w'.ownsRow W e size v n xs :=
  ⟨h.1, h.2.imp id fun ⟨g, cap, cur, hv, hb, hc, hr⟩ => ⟨g, cap, cur, hv, hb, by rw [(k.above u hb (lt_of_heap hc)).1]; exact hc, hr⟩⟩
theorem HR.grows {B : Nat → Prop} {w0 w w' : World} {θ : Th} {G : Hp} (h' : HR B w0 θ G w') (k : Base (Unk θ G w) w w') : w.heap.size ≤ w'.heap.size := by
  refine Classical.byContradiction fun hlt => ?_
  have hlt : w'.heap.size < w.heap.size := by omega
  by_cases hu : Unk θ G w w'.heap.size
  · exact Nat.lt_irrefl _ (k.lt _ hu)
  · refine hu ⟨hlt, ?_⟩
    rintro n o b d r e a rfl
    obtain ⟨b', d', r', x, a', _, hx, _⟩ := h'.obj n o e
    rw [a] at a'; cases a'
    exact Nat.lt_irrefl _ (lt_of_heap hx)
/-- A great row: each of its cells. -/
theorem HR.fill {B : Nat → Prop} {w0 w : World} {θ : Th} {G : Hp} (h : HR B w0 θ G w) {n m b d r : Nat} {v : AV} {t : TypeId} (hn : G n = some (.fill m v t)) (ha : θ.addr n = some (b, d, r)) {i : Nat} (hi : i < m) :
    ∃ y, w.cell? ⟨b, d + i, none⟩ = some y ∧ VR θ v y := by
  obtain ⟨b', d', r', x, a, _, hx, cs, e, lo, hi', rfl, _, _, _, hc⟩ := h.obj n _ hn
  rw [ha] at a; cases a
  obtain ⟨y, hy, hv⟩ := hc i hi
  exact ⟨y, by simp [World.cell?, hx, hy], hv⟩

/-- What is known, as a table. -/
def Agree (G : Hp) (top : Lay) : Prop := ∀ n y, raw top [] n = some y → G n = y
/-- Of these names those that the table does not hold are free. -/
def FreeIn (θ : Th) (G : Hp) (top : Lay) (a k : Nat) : Prop := ∀ n, a ≤ n → n < a + k → raw top [] n = none → Free θ G n
def postIn (a k : Nat) (top : Lay) : List (Nat × Option AObj) → Bool
  | [] => true
  | (n, _) :: l => Nat.ble a n && Nat.blt n (a + k) && (match raw top [] n with | none => true | some _ => false) && postIn a k top l
theorem postIn_all {a k : Nat} {top : Lay} : ∀ {l : List (Nat × Option AObj)}, postIn a k top l = true → ∀ n o, (n, o) ∈ l → a ≤ n ∧ n < a + k ∧ raw top [] n = none
  | [], _, n, o, h => by simp at h
  | (m, p) :: l, hp, n, o, h => by
    simp only [postIn, Bool.and_eq_true] at hp
    obtain ⟨⟨⟨h1, h2⟩, h3⟩, h4⟩ := hp
    rcases List.mem_cons.1 h with h | h
    · cases h
      refine ⟨by simpa using h1, by simpa [Nat.blt_eq] using h2, ?_⟩
      cases e : raw top [] m with
      | none => rfl
      | some z => rw [e] at h3; cases h3
    · exact postIn_all h4 n o h
theorem mem_gone : ∀ {k a m : Nat}, a ≤ m → m < a + k → (m, (none : Option AObj)) ∈ gone a k
  | 0, a, m, h1, h2 => by omega
  | k + 1, a, m, h1, h2 => by
    have e : gone a (k + 1) = (a, none) :: gone (a + 1) k := by rw [gone, fNat_eq]
    rw [e]
    rcases Nat.eq_or_lt_of_le h1 with h | h
    · subst h; exact List.mem_cons_self ..
    · exact List.mem_cons_of_mem _ (mem_gone (by omega) (by omega))
theorem agree_pre {h : Hook} {G : Hp} (hpre : ∀ n o, (n, o) ∈ h.pre → G n = some o) : Agree G (preW h) := by
  intro n y e
  rcases preW_raw e with ⟨o, rfl, hm⟩ | e
  · exact hpre n o hm
  · simp [raw, getL_nil] at e
theorem pure_of {P : Program} {h : Hook} (hok : HookOK P h) (hfit : h.fits [] h.args (start h) = true) {a k : Nat} {top : Lay} (hp : preOK top [] h.pre = true) (hn : postIn a k top h.post = true)
    {B : Nat → Prop} {w0 : World} {θ : Th} {G : Hp} (ag : Agree G top) (fr : FreeIn θ G top a k) {xs : Array Value} (hargs : VRL θ h.args xs.toList) {R : Value → Prop} (hR : ∀ θ' y, θ.Le θ' → VR θ' h.v y → R y)
    (w : World) (hr : HR B w0 θ G w) : Calls P h.f xs w fun e w' => ∃ y, e = .returned y ∧ R y ∧ HR B w0 θ G w' ∧ Base (Unk θ G w) w w' := by
  have hpre := preOK_all hp
  have hn := postIn_all hn
  refine (calls_pure hok hfit hr (fun n o hm => ag n _ (hpre n o hm)) (fun n o hm => fr n (hn n o hm).1 (hn n o hm).2.1 (hn n o hm).2.2) hargs).mono ?_
  rintro e w' ⟨y, θ', rfl, hle, hy, hr', hb⟩
  exact ⟨y, rfl, hR θ' y hle hy, hr', hb⟩
theorem grow_of {P : Program} {h : Hook} (hok : HookOK P h) (hfit : h.fits [] h.args (start h) = true) {a k : Nat} {top : Lay} (hp : preOK top [] h.pre = true) (hn : postIn a k top h.post = true)
    {B : Nat → Prop} {w0 : World} {θ : Th} {G : Hp} (ag : Agree G top) (fr : FreeIn θ G top a k) {xs : Array Value} (hargs : VRL θ h.args xs.toList)
    (w : World) (hr : HR B w0 θ G w) : Calls P h.f xs w fun e w' => ∃ y θ' G', e = .returned y ∧ θ.Le θ' ∧ (∀ n o, G n = some o → G' n = some o) ∧ HR B w0 θ' G' w' ∧ VR θ' h.v y ∧
      Agree G' (applyW h.post top) ∧ FreeIn θ' G' (applyW h.post top) a k := by
  have hpre := preOK_all hp
  have hn := postIn_all hn
  refine (calls_hook hok hfit hr (fun n o hm => ag n _ (hpre n o hm)) (fun n o hm _ => fr n (hn n o hm).1 (hn n o hm).2.1 (hn n o hm).2.2) hargs).mono ?_
  rintro e w' ⟨y, θ', G', rfl, hle, hy, hr', _, hag, hsame⟩
  have key : ∀ n, (∀ o, (n, o) ∉ h.post) → ∀ z, raw (applyW h.post (preW h)) [] n = some z → ∃ o, z = some o ∧ (n, o) ∈ h.pre := by
    intro n hno z e
    rw [raw_applyW_ne _ _ _ _ hno] at e
    rcases preW_raw e with e | e
    · exact e
    · simp [raw, getL_nil] at e
  refine ⟨y, θ', G', rfl, hle, fun n o e => ?_, hr', hy, fun n z e => ?_, fun n h1 h2 e => ?_⟩
  · cases e' : raw (applyW h.post (preW h)) [] n with
    | none => rw [(hsame n e').2]; exact e
    | some z =>
      rw [hag n z e']
      by_cases hq : ∃ o, (n, o) ∈ h.post
      · obtain ⟨o', ho'⟩ := hq
        have := (fr n (hn n o' ho').1 (hn n o' ho').2.1 (hn n o' ho').2.2).obj
        rw [e] at this; cases this
      · obtain ⟨o', rfl, hm⟩ := key n (fun o ho => hq ⟨o, ho⟩) z e'
        have := ag n _ (hpre n o' hm)
        rw [e] at this; exact this.symm
  · by_cases hq : ∃ o, (n, o) ∈ h.post
    · exact hag n z ((applyW_same (.inl hq)).trans e)
    · have hno : ∀ o, (n, o) ∉ h.post := fun o ho => hq ⟨o, ho⟩
      have e0 := e
      rw [raw_applyW_ne _ _ _ _ hno] at e0
      cases e' : raw (applyW h.post (preW h)) [] n with
      | none => rw [(hsame n e').2]; exact ag n z e0
      | some z' =>
        obtain ⟨o', rfl, hm⟩ := key n hno z' e'
        rw [hpre n o' hm] at e0
        cases e0
        exact hag n _ e'
  · have hno : ∀ o, (n, o) ∉ h.post := fun o ho => raw_applyW_mem _ _ _ n o ho e
    have e0 := e
    rw [raw_applyW_ne _ _ _ _ hno] at e0
    have e' : raw (applyW h.post (preW h)) [] n = none := by
      cases e' : raw (applyW h.post (preW h)) [] n with
      | none => rfl
      | some z' =>
        obtain ⟨o', _, hm⟩ := key n hno z' e'
        rw [hpre n o' hm] at e0; cases e0
    have hf := fr n h1 h2 e0
    obtain ⟨⟨s1, s2⟩, s3⟩ := hsame n e'
    exact ⟨s1.trans hf.addr, s2.trans hf.stamp, s3.trans hf.obj⟩
end Go.AE
