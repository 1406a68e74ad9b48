/-
  The law SceneNone holds of the given program: for every cue it returns true, and what lay in memory lies there as before. Conditions: those of the given row and card alone (the listed package-level variables as the text lays them; a cue whose data can be read).
-/
import Derived.Test.YtdfkgbgpfbhmbaaGreatDoorRows
import Derived.Test.YtdfkgbgpfbhmbaaGreatDoorCards
import Derived.Test.YtdfkgbgpfbhmbaaGreatDoorTie
import Derived.Test.YtdfkgbgpfbhmbaaGreatDoorNoneC
import Derived.Test.YtdfkgbgpfbhmbaaGreatDoorNoneF
import Derived.LaidMore
import Derived.LaidHandle
import Derived.OpenShut
import Derived.SevenTiedAt
import Derived.Stop.Joined
import Derived.Lib.SmallJoins
import Derived.Carry
namespace Go.Proofs.YtdfkgbgpfbhmbaaGreatDoor.sceneNone
open Go Go.ChangeShapes Go.WideShapes Go.ChangeAt Go.RowKit

theorem cells67 : Tryz.prog.cellsOf 67 = 5 := by kernel_rfl
theorem cells9 : Tryz.prog.cellsOf 9 = 1 := by kernel_rfl
theorem cells25 : Tryz.prog.cellsOf 25 = 1 := by kernel_rfl

theorem Rd.succ {w : World} : ∀ (d : Nat) (s l : Value), Rd w d s l → Rd w (d + 1) s l
  | 0, _, _, h => h.elim
  | d + 1, s, l, ⟨h1, h2⟩ => by
    refine ⟨h1, ?_⟩
    rcases h2 with h2 | h2 | ⟨b, off, len, cap, h2, h3, h4⟩
    · exact .inl h2
    · exact .inr (.inl h2)
    · refine .inr (.inr ⟨b, off, len, cap, h2, h3, fun i hi => ?_⟩)
      obtain ⟨k', n', s', l', r', a0, a1, a2, a3, a4, a5⟩ := h4 i hi
      exact ⟨k', n', s', l', r', a0, a1, a2, a3, a4, Rd.succ d s' l' a5⟩

section
variable {H : Type} {enc : TypeId × Value → H} {w : World} {sp : Nat → Bool} {held : Bool}
theorem list5 {l : List Value} (h : l.length = 5) : ∃ a b c d e, l = [a, b, c, d, e] := by
  match l, h with
  | [a, b, c, d, e], _ => exact ⟨a, b, c, d, e, rfl⟩
theorem cells5 {a : Addr} {l : List Value} (h : w.cells? 0 a 5 = some l) : ∃ c0 c1 c2 c3 c4, l = [c0, c1, c2, c3, c4] ∧ w.cell? (a.add 0) = some c0 ∧ w.cell? (a.add 1) = some c1 ∧ w.cell? (a.add 2) = some c2 ∧ w.cell? (a.add 3) = some c3 ∧ w.cell? (a.add 4) = some c4 := by
  unfold World.cells? at h
  rw [if_pos (Nat.zero_le _)] at h
  have e : List.range 5 = [0, 1, 2, 3, 4] := rfl
  rw [e] at h
  simp only [List.mapM_cons, List.mapM_nil, bind, Option.bind_eq_some_iff, pure, Option.some.injEq] at h
  obtain ⟨c0, h0, l1, ⟨c1, h1, l2, ⟨c2, h2, l3, ⟨c3, h3, l4, ⟨c4, h4, l5, rfl, rfl⟩, rfl⟩, rfl⟩, rfl⟩, rfl⟩ := h
  exact ⟨c0, c1, c2, c3, c4, rfl, h0, h1, h2, h3, h4⟩

/-- What can be read as a list of values. -/
theorem list_of_trod (n : Nat) (ih : ∀ m, m < n → ∀ (cs : List Value) x, DataW.trod enc Tryz.prog w 0 sp held m 67 cs = some x → ∃ k nn s l r, cs = [k, nn, s, l, r] ∧ Rd w m s l) {cs : List Value} {x : DataW H × List MemPlace}
    (h : DataW.trod enc Tryz.prog w 0 sp held n 25 cs = some x) : ∃ l, cs = [l] ∧ RdL w n l := by
  rcases DataW.trod_slice Tryz.underlying25 h with ⟨rfl, _⟩ | ⟨a, len, cap, elems, rest, m, rfl, rfl, _, _, hlc, hcm, hlen, hel, _⟩
  · exact ⟨_, rfl, .inl rfl⟩
  · obtain ⟨b, off, spot⟩ := a
    have hlm : len ≤ 9223372036854775807 := Nat.le_trans hlc hcm
    clear hcm hlc
    by_cases hl0 : len = 0
    · subst hl0
      exact ⟨_, rfl, .inr (.inl ⟨_, _, rfl⟩)⟩
    · have hE : ∀ i, i < len → ∃ c y, w.cells? 0 (Addr.add ⟨b, off, spot⟩ (i * 5)) 5 = some c ∧ DataW.trod enc Tryz.prog w 0 sp held m 67 c = some y := by
        intro i hi
        have hE := hel i hi
        rw [cells67] at hE
        have hlt : i < elems.length := by omega
        rw [List.getElem?_eq_getElem hlt] at hE
        simp only [Option.bind_eq_some_iff] at hE
        obtain ⟨c, hc, ht⟩ := hE
        exact ⟨c, _, hc, ht⟩
      clear hel
      have hspot : spot = none := by
        obtain ⟨c, y, hc, ht⟩ := hE 0 (Nat.pos_of_ne_zero hl0)
        clear ht
        obtain ⟨c0, c1, c2, c3, c4, hl, h0, h1⟩ := cells5 hc
        clear h1
        simp only [Nat.zero_mul, Addr.add, if_true] at h0
        cases spot with
        | none => rfl
        | some z =>
          unfold World.cell? at h0
          split at h0 <;> simp at h0
      subst hspot
      refine ⟨_, rfl, .inr (.inr ⟨b, off, len, cap, rfl, hlm, fun i hi => ?_⟩)⟩
      obtain ⟨c, y, hc, ht⟩ := hE i hi
      obtain ⟨k', n', s', l', r', he, hr⟩ := ih m (by omega) c _ ht
      obtain ⟨c0, c1, c2, c3, c4, rfl, h0, h1, h2, h3, h4⟩ := cells5 hc
      simp only [List.cons.injEq, and_true] at he
      obtain ⟨rfl, rfl, rfl, rfl, rfl⟩ := he
      rw [Go.AE.add_none, Go.AE.add_none] at h0 h1 h2 h3 h4
      exact ⟨_, _, _, _, _, h0, h1, h2, h3, h4, Rd.succ _ _ _ hr⟩
/-- What can be read as a value. -/
theorem value_of_trod : ∀ (n : Nat) (cs : List Value) (x : DataW H × List MemPlace), DataW.trod enc Tryz.prog w 0 sp held n 67 cs = some x → ∃ k nn s l r, cs = [k, nn, s, l, r] ∧ Rd w n s l := by
  intro n
  induction n using Nat.strongRecOn with
  | ind n ih =>
    intro cs x h
    obtain ⟨xs, m, rfl, _, hcl, hxl, hf⟩ := DataW.trod_struct Tryz.underlying67 h
    rw [cells67] at hcl
    obtain ⟨a, b, c, d, e, rfl⟩ := list5 hcl
    have h2 : DataW.trod enc Tryz.prog w 0 sp held m 9 (([a, b, c, d, e].drop 2).take (Tryz.prog.cellsOf 9)) = xs[2]? := hf 2 _ rfl
    have h3 : DataW.trod enc Tryz.prog w 0 sp held m 25 (([a, b, c, d, e].drop 3).take (Tryz.prog.cellsOf 25)) = xs[3]? := hf 3 _ rfl
    have hx5 : xs.length = 5 := hxl
    rw [List.getElem?_eq_getElem (by omega)] at h2 h3
    rw [cells9] at h2
    rw [cells25] at h3
    obtain ⟨t, ht, _, hts⟩ := DataW.trod_string Tryz.underlying9 h2
    obtain ⟨l, hl, hR⟩ := list_of_trod m (fun q hq cs x h => ih q (by omega) cs x h) h3
    simp at ht hl
    subst ht hl
    refine ⟨_, _, _, _, _, rfl, ⟨t, rfl, hts⟩, hR⟩
end

theorem own : ownKnob Tryz.prog.godebug = none := by kernel_rfl
theorem cells29 : Tryz.prog.cellsOf 29 = 4 := by kernel_rfl
theorem cells27 : Tryz.prog.cellsOf 27 = 2 := by kernel_rfl
theorem laidOut : laidOutB Tryz.prog = true := by kernel_rfl
theorem readable29 : Tryz.prog.readableRec 29 = true := by kernel_rfl
theorem few29 : 29 < Tryz.prog.types.size := of_decide_eq_true (by kernel_rfl)

section
variable {H : Type} {enc : TypeId × Value → H} {P : Program}
theorem post_below {f : Func} {s : ChangeSpec} {apart fresh handsOn again : Bool} {W W' : World} {args : Array Value} {v : Value} {ds gs : List (DataW H)} {before pa pv : List MemPlace}
    (hW : DataW.Whole enc P f.params.toList s.vars apart W args.toList ds gs before)
    (hres : ∀ (b : Nat) (sp : Nat → Bool) (hd : Bool), DataW.TrodAll enc P W' b sp hd f.resultTypes.toList (v.resultList f.resultTypes.size) (s.fn H (ds ++ gs)).results [])
    (hargs : ∀ sp : Nat → Bool, (∀ p ∈ before, sp p.block = true) → DataW.TrodAll enc P W' 0 sp true f.params.toList args.toList (s.fn H (ds ++ gs)).args pa)
    (hvars : ∀ sp : Nat → Bool, (∀ p ∈ before, sp p.block = true) → DataW.TrodVars enc P W' sp s.vars (s.fn H (ds ++ gs)).vars pv)
    (hps : before = pa ++ pv) (hb : Below W.heap.size W W')
    (hok : ∀ (j : Nat) (t : TypeId) (r : Value), f.resultTypes[j]? = some t → (v.resultList f.resultTypes.size)[j]? = some r → Value.okWide P W' .any 0 t r) :
    s.post enc P f apart fresh handsOn again W args v W' := by
  have hlt : ∀ p ∈ before, p.block < W.heap.size := fun p hp => hW.lt p hp
  have hold : ∀ p ∈ before, (fun b => decide (b < W.heap.size)) p.block = true := fun p hp => by simpa using hlt p hp
  refine ⟨ds, gs, before, [], pa, pv, hW, hres _ _ _, hargs _ hold, hvars _ hold, World.keptBut_mono (fun p hp => ⟨hp, ?_⟩) (hb.frame (· ∈ before)), fun _ => ?_⟩
  · rw [hps, List.mem_append] at hp
    exact Or.inr hp
  · obtain ⟨_, _, _, _, _, hz, hn⟩ := hW
    refine ⟨hok, _, _, ([] ++ pa) ++ pv, ⟨[] ++ pa, pv, trodAll_append (hargs _ (fun _ _ => rfl)) (hres _ _ _), hvars _ (fun _ _ => rfl), rfl, ?_, ?_⟩, ?_⟩
    · intro b off hp
      have hin : MemPlace.cell b off ∈ before := by rw [hps]; simpa using hp
      rw [hb.frozen (hlt _ hin)]
      exact hz b off hin
    · intro ha
      have := hn ha
      rw [hps] at this
      simpa using this
    · intro p hp _
      rw [hps]
      simpa using hp
end



set_option maxRecDepth 100000 in
theorem open_cue {H : Type} {enc : TypeId × Value → H} {W : World} {base : Nat} {v : Value} {d : DataW H} {p : List MemPlace} (hv : Value.okWide Tryz.prog W .any base 29 v) (h : DataW.Trod enc Tryz.prog W 0 (fun _ => true) true 29 v d p) :
    ∃ c0 c1 c2 c3 n, v = .agg #[c0, c1, c2, c3] ∧ RdL W n c3 := by
  obtain ⟨cs, rfl, hsz⟩ := okWide_struct Tryz.underlying29 hv
  rw [cells29] at hsz
  obtain ⟨c0, c1, c2, c3, rfl⟩ := Go.Joins.array4 hsz
  obtain ⟨fuel, hf⟩ := h
  obtain ⟨xs, n, rfl, hx, hcl, hxl, hg⟩ := DataW.trod_struct Tryz.underlying29 hf
  have h1 : DataW.trod enc Tryz.prog W 0 (fun _ => true) true n 27 (([c0, c1, c2, c3].drop 2).take (Tryz.prog.cellsOf 27)) = xs[1]? := hg 1 _ rfl
  have hx2 : xs.length = 2 := hxl
  rw [cells27, List.getElem?_eq_getElem (by omega)] at h1
  obtain ⟨ys, m, rfl, hy, hdl, hyl, hk⟩ := DataW.trod_struct Tryz.underlying27 h1
  have h2 : DataW.trod enc Tryz.prog W 0 (fun _ => true) true m 25 ((([c0, c1, c2, c3].drop 2).take 2).drop 1 |>.take (Tryz.prog.cellsOf 25)) = ys[1]? := hk 1 _ rfl
  have hy2 : ys.length = 2 := hyl
  rw [cells25, List.getElem?_eq_getElem (by omega)] at h2
  obtain ⟨l, hl, hR⟩ := list_of_trod m (fun q _ cs x h => value_of_trod q cs x h) h2
  simp at hl
  subst hl
  exact ⟨_, _, _, _, m, rfl, hR⟩

theorem met (os : Os) (args : Array Value) : laidMetH Tryz.prog Rows.sceneNoneRow.laid ((World.doorLaid Tryz.prog 4000 os).forCall (fun _ _ => 0) ⟨#[], args, []⟩).memory :=
  laidMetH_of_parts3 (fuel := 8) (laidMet_of_run' 8 (by kernel_rfl) (by kernel_rfl)) (by kernel_rfl) (by kernel_rfl)

set_option maxRecDepth 100000 in
theorem lifted (os : Os) (started : os.Started) (H : Type) (enc : TypeId × Value → H) :
    ReturnsInHanded {} Tryz.checked os 4 .any (fun w args => (Rows.sceneNoneSpec.pre enc Tryz.prog Tryz.f4 [] false w args ∧ laidMetH Tryz.prog Rows.sceneNoneRow.laid w) ∧ sizedMet enc Tryz.prog Tryz.f4 (OpenSpec.ofChange Rows.sceneNoneSpec) false w args)
      (Rows.sceneNoneSpec.post enc Tryz.prog Tryz.f4 false true false false) := by
  refine returnsInHanded_of_change_and (C := Tryz.checked) (X := fun w _ => laidMetH Tryz.prog Rows.sceneNoneRow.laid w) (fun _ _ _ hh h => h.of_heap hh) own started (by kernel_rfl) Tryz.func4
    (ChangeSpec.witness_shaped (enc := enc) (C := Tryz.checked) (os := os) (X := fun w _ => laidMetH Tryz.prog Rows.sceneNoneRow.laid w) false (World.doorLaid Tryz.prog 4000 os) #[.agg #[.int .i64 0, .int .i64 0, .string .empty, .slice none 0 0]] 12 rfl (World.shaped_of_RefB (by kernel_rfl) (by kernel_rfl)) (by kernel_rfl) (by kernel_rfl) (by kernel_rfl) (met os _)) ?_
  intro W base args ds gs before hval0 hW _ _ _ _
  have hval : ∀ (j : Nat) t v, Tryz.f4.params[j]? = some t → args[j]? = some v → Value.okWide Tryz.prog W .any base t v := hval0
  have hW' := hW
  obtain ⟨p, q, hA0, hV, rfl, hfz, hnd⟩ := hW
  have hA : DataW.TrodAll enc Tryz.prog W 0 (fun _ => true) true Tryz.f4.params.toList args.toList ds p := hA0
  rw [Tryz.params4] at hA hval
  obtain ⟨v0, d0, rfl, rfl, h0⟩ := trodAll_one hA
  obtain ⟨rfl, rfl⟩ := trodVars_none hV
  obtain ⟨c0, c1, c2, c3, n, hv0, hR⟩ := open_cue (hval 0 29 v0 rfl rfl) h0
  have hlt : ∀ x ∈ p, x.block < W.heap.size := fun x hx => hW'.lt x (by simpa using hx)
  have hcall : Calls Tryz.prog 4 #[v0] W fun e w' => e = .returned (.bool true) ∧ Below W.heap.size W w' := by
    rw [hv0]; exact law_any n c0 c1 c2 c3 W hR
  refine hcall.mono fun e W' ⟨he, hg⟩ => ?_
  subst he
  exact ⟨_, rfl, post_below (pa := p) (pv := []) hW' (fun _ _ _ => (trodAll_cons_mk (shut_bool Tryz.underlying4 _) trodAll_mk0))
    (fun sp hsp => by
      have := WideElems.Trod_stays laidOut readable29 few29 h0 (fun x hx => hg.same (hlt x hx)) (sp' := sp) (fun x hx => hsp x (by simpa using hx))
      exact trodAll_mk1 this) (fun _ _ => rfl) rfl
    hg (ok_one (by kernel_rfl) rfl (okWide_bool_mk Tryz.underlying4 _))⟩

theorem row_holds : Rows.SceneNoneSaid :=
  OpenClaim.holds_of_wide 4 Tryz.f4 rfl rfl rfl rfl rfl rfl rfl ⟨rfl, rfl, rfl, rfl, rfl⟩ rfl rfl rfl rfl rfl named Tryz.func4 joined inst
    (by unfold Func.isWrapper; first | (rw [if_pos (by decide +kernel)]; kernel_rfl) | (rw [if_neg (by decide +kernel)]; exact ⟨rfl, rfl⟩))
    (fun os started H enc _ => lifted os started H enc)

/-- The card. -/
theorem card_holds : Rows.SceneNoneCardSaid :=
  Claim7.holds_tied_plain_at .later [] [.data, .data, .data, .sentinel, .sentinel] true (true, "1d704503b7cc65e5e7c7e1f1bd37a430c38098b7b61cdf5efa4a99ea4687f462") true
    row_holds (fun _ h => by cases h) (by as_aux_lemma => kernel_rfl) (fun _ h => by cases h) sceneNone_row_tie rfl ⟨rfl, rfl⟩ (by as_aux_lemma => kernel_rfl) rfl
    (fun f fn hf hfn => by
      obtain rfl : f = 4 := Option.some.inj ((show Tryz.prog.funcNamed "postern/posternlaw30.SceneNone" = some 4 by as_aux_lemma => kernel_rfl).symm.trans hf) |>.symm
      obtain rfl : fn = Tryz.f4 := (Option.some.inj (Tryz.func4.symm.trans hfn)).symm
      exact ⟨by as_aux_lemma => kernel_rfl, fun j t ht => by
        rw [Tryz.params4] at ht
        have h29 : t = 29 := by
          rcases j with _ | j
          · simpa using ht.symm
          · simp at ht
        subst h29
        exact (show Tryz.prog.wantsStandIn 29 = false by as_aux_lemma => kernel_rfl)⟩)
    (by as_aux_lemma => kernel_rfl)
#print axioms card_holds
end Go.Proofs.YtdfkgbgpfbhmbaaGreatDoor.sceneNone
