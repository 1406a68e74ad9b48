/-
  The law TwinNil holds of the given program: for every edge, side and turn it returns true, and what lay in memory lies there as before. Conditions: those of the given row and card alone (the listed package-level variables as the text lays them); the whole run is evaluated by a verified evaluator, the arguments open; twin.Alike and twin.Parted over 65,537 turns, and errors.As, are walked by hand.
-/
import Derived.Test.YthlkchahlmkpiaaGreatDoorRows
import Derived.Test.YthlkchahlmkpiaaGreatDoorCards
import Derived.Test.YthlkchahlmkpiaaGreatDoorTie
import Derived.Test.YthlkchahlmkpiaaGreatDoorTn17
import Derived.Test.YthlkchahlmkpiaaGreatDoorTnF
import Derived.Test.YthlkchahlmkpiaaGreatDoorTnG
import Derived.WalkKit
import Derived.ProofKit
import Derived.LaidMore
import Derived.LaidHandle
import Derived.OpenShut
import Derived.SevenTiedAt
import Derived.Stop.Joined
import Derived.Lib.SmallJoins
import Derived.Carry
namespace Go.Proofs.YthlkchahlmkpiaaGreatDoor.twinNil
open Go Go.AE Go.ChangeShapes Go.WideShapes Go.ChangeAt Go.RowKit

theorem own : ownKnob Tryz.prog.godebug = none := by kernel_rfl
theorem cells24 : Tryz.prog.cellsOf 24 = 2 := by kernel_rfl
theorem laidOut : laidOutB Tryz.prog = true := by kernel_rfl
theorem readable24 : Tryz.prog.readableRec 24 = true := by kernel_rfl
theorem few24 : 24 < Tryz.prog.types.size := of_decide_eq_true (by kernel_rfl)
theorem readable3 : Tryz.prog.readableRec 3 = true := by kernel_rfl
theorem few3 : 3 < Tryz.prog.types.size := of_decide_eq_true (by kernel_rfl)
theorem readable22 : Tryz.prog.readableRec 22 = true := by kernel_rfl
theorem few22 : 22 < Tryz.prog.types.size := of_decide_eq_true (by kernel_rfl)

/-- The call, by the evaluator. -/
theorem walk (e s a b : Int) (w : World) : Calls Tryz.prog 3 #[.int .i64 e, .int .i64 s, .agg #[.int .i64 a, .int .i64 b]] w fun e w' => e = .returned (.bool true) ∧ Below w.heap.size w w' :=
  calls_of_hook (env := fun i => match i with | 0 => .int .i64 e | 1 => .int .i64 s | 2 => .int .i64 a | _ => .int .i64 b) h144_ok (by kernel_rfl) (fun i => by rcases i with _ | _ | _ | i <;> exact ⟨rfl, rfl⟩)
    (by simp only [h144, VRL]; exact ⟨_, _, rfl, by simp [VR, th0], _, _, rfl, by simp [VR, th0], _, _, rfl, by simp [VR, VRL, th0], rfl⟩) rfl w

section
variable {H : Type} {enc : TypeId × Value → H} {P : Program}
theorem post_below {f : Func} {s : ChangeSpec} {apart fresh handsOn again : Bool} {W W' : World} {args : Array Value} {v : Value} {ds gs : List (DataW H)} {before pa pv : List MemPlace}
    (hW : DataW.Whole enc P f.params.toList s.vars apart W args.toList ds gs before)
    (hres : ∀ (b : Nat) (sp : Nat → Bool) (hd : Bool), DataW.TrodAll enc P W' b sp hd f.resultTypes.toList (v.resultList f.resultTypes.size) (s.fn H (ds ++ gs)).results [])
    (hargs : ∀ sp : Nat → Bool, (∀ p ∈ before, sp p.block = true) → DataW.TrodAll enc P W' 0 sp true f.params.toList args.toList (s.fn H (ds ++ gs)).args pa)
    (hvars : ∀ sp : Nat → Bool, (∀ p ∈ before, sp p.block = true) → DataW.TrodVars enc P W' sp s.vars (s.fn H (ds ++ gs)).vars pv)
    (hps : before = pa ++ pv) (hb : Below W.heap.size W W')
    (hok : ∀ (j : Nat) (t : TypeId) (r : Value), f.resultTypes[j]? = some t → (v.resultList f.resultTypes.size)[j]? = some r → Value.okWide P W' .any 0 t r) :
    s.post enc P f apart fresh handsOn again W args v W' := by
  have hlt : ∀ p ∈ before, p.block < W.heap.size := fun p hp => hW.lt p hp
  have hold : ∀ p ∈ before, (fun b => decide (b < W.heap.size)) p.block = true := fun p hp => by simpa using hlt p hp
  refine ⟨ds, gs, before, [], pa, pv, hW, hres _ _ _, hargs _ hold, hvars _ hold, World.keptBut_mono (fun p hp => ⟨hp, ?_⟩) (hb.frame (· ∈ before)), fun _ => ?_⟩
  · rw [hps, List.mem_append] at hp
    exact Or.inr hp
  · obtain ⟨_, _, _, _, _, hz, hn⟩ := hW
    refine ⟨hok, _, _, ([] ++ pa) ++ pv, ⟨[] ++ pa, pv, trodAll_append (hargs _ (fun _ _ => rfl)) (hres _ _ _), hvars _ (fun _ _ => rfl), rfl, ?_, ?_⟩, ?_⟩
    · intro b off hp
      have hin : MemPlace.cell b off ∈ before := by rw [hps]; simpa using hp
      rw [hb.frozen (hlt _ hin)]
      exact hz b off hin
    · intro ha
      have := hn ha
      rw [hps] at this
      simpa using this
    · intro p hp _
      rw [hps]
      simpa using hp
end

/- A turn that came in. -/
set_option maxRecDepth 100000 in
theorem open_turn {H : Type} {enc : TypeId × Value → H} {W : World} {base : Nat} {v : Value} {d : DataW H} {p : List MemPlace} (hv : Value.okWide Tryz.prog W .any base 24 v) (h : DataW.Trod enc Tryz.prog W 0 (fun _ => true) true 24 v d p) :
    ∃ a b : Int, v = .agg #[.int .i64 a, .int .i64 b] := by
  obtain ⟨cs, rfl, hsz⟩ := okWide_struct Tryz.underlying24 hv
  rw [cells24] at hsz
  obtain ⟨c0, c1, rfl⟩ := Go.Joins.array2 hsz
  obtain ⟨fuel, hf⟩ := h
  obtain ⟨xs, n, rfl, hx, hcl, hxl, hg⟩ := DataW.trod_struct Tryz.underlying24 hf
  have c3 : Tryz.prog.cellsOf 3 = 1 := by kernel_rfl
  have h0 : DataW.trod enc Tryz.prog W 0 (fun _ => true) true n 3 (([c0, c1].drop 0).take (Tryz.prog.cellsOf 3)) = xs[0]? := hg 0 _ rfl
  have h1 : DataW.trod enc Tryz.prog W 0 (fun _ => true) true n 3 (([c0, c1].drop 1).take (Tryz.prog.cellsOf 3)) = xs[1]? := hg 1 _ rfl
  have hx2 : xs.length = 2 := hxl
  rw [c3, List.getElem?_eq_getElem (by omega)] at h0 h1
  obtain ⟨a, ha, _⟩ := DataW.trod_int Tryz.underlying3 h0
  obtain ⟨b, hb, _⟩ := DataW.trod_int Tryz.underlying3 h1
  simp at ha hb
  subst ha hb
  exact ⟨a, b, rfl⟩

theorem met (os : Os) (args : Array Value) : laidMetH Tryz.prog Rows.twinNilRow.laid ((World.doorLaid Tryz.prog 4000 os).forCall (fun _ _ => 0) ⟨#[], args, []⟩).memory :=
  laidMetH_of_parts3 (fuel := 8) (laidMet_of_run' 8 (by kernel_rfl) (by kernel_rfl)) (by kernel_rfl) (by kernel_rfl)

set_option maxRecDepth 100000 in
theorem lifted (os : Os) (started : os.Started) (H : Type) (enc : TypeId × Value → H) :
    ReturnsInHanded {} Tryz.checked os 3 .any (fun w args => (Rows.twinNilSpec.pre enc Tryz.prog Tryz.f3 [] false w args ∧ laidMetH Tryz.prog Rows.twinNilRow.laid w) ∧ sizedMet enc Tryz.prog Tryz.f3 (OpenSpec.ofChange Rows.twinNilSpec) false w args)
      (Rows.twinNilSpec.post enc Tryz.prog Tryz.f3 false true false false) := by
  refine returnsInHanded_of_change_and (C := Tryz.checked) (X := fun w _ => laidMetH Tryz.prog Rows.twinNilRow.laid w) (fun _ _ _ hh h => h.of_heap hh) own started (by kernel_rfl) Tryz.func3
    (ChangeSpec.witness_shaped (enc := enc) (C := Tryz.checked) (os := os) (X := fun w _ => laidMetH Tryz.prog Rows.twinNilRow.laid w) false (World.doorLaid Tryz.prog 4000 os) #[.int .i64 0, .int .i64 0, .agg #[.int .i64 0, .int .i64 0]] 12 rfl (World.shaped_of_RefB (by kernel_rfl) (by kernel_rfl)) (by kernel_rfl) (by kernel_rfl) (by kernel_rfl) (met os _)) ?_
  intro W base args ds gs before hval0 hW _ _ _ _
  have hval : ∀ (j : Nat) t v, Tryz.f3.params[j]? = some t → args[j]? = some v → Value.okWide Tryz.prog W .any base t v := hval0
  have hW' := hW
  obtain ⟨p, q, hA0, hV, rfl, hfz, hnd⟩ := hW
  have hA : DataW.TrodAll enc Tryz.prog W 0 (fun _ => true) true Tryz.f3.params.toList args.toList ds p := hA0
  rw [Tryz.params3] at hA hval
  obtain ⟨v0, v1, v2, d0, d1, d2, p0, p1, p2, rfl, rfl, rfl, h0, h1, h2⟩ := trodAll_three hA
  obtain ⟨rfl, rfl⟩ := trodVars_none hV
  obtain ⟨a, b, hv2⟩ := open_turn (hval 2 24 v2 rfl rfl) h2
  have h0' := h0
  have h1' := h1
  obtain ⟨n0, hv0, _, _, _⟩ := open_int Tryz.underlying3 (hval 0 3 v0 rfl rfl) h0'
  obtain ⟨n1, hv1, _, _, _⟩ := open_int Tryz.underlying22 (hval 1 22 v1 rfl rfl) h1'
  have hlt : ∀ x ∈ p0 ++ (p1 ++ p2), x.block < W.heap.size := fun x hx => hW'.lt x (by simpa using hx)
  have hcall : Calls Tryz.prog 3 #[v0, v1, v2] W fun e w' => e = .returned (.bool true) ∧ Below W.heap.size W w' := by
    rw [hv0, hv1, hv2]; exact walk n0 n1 a b W
  refine hcall.mono fun e W' ⟨he, hg⟩ => ?_
  subst he
  exact ⟨_, rfl, post_below (pa := p0 ++ (p1 ++ p2)) (pv := []) hW' (fun _ _ _ => (trodAll_cons_mk (shut_bool Tryz.underlying4 _) trodAll_mk0))
    (fun sp hsp => by
      have t0 := WideElems.Trod_stays laidOut readable3 few3 h0 (fun x hx => hg.same (hlt x (by simp [hx]))) (sp' := sp) (fun x hx => hsp x (by simp [hx]))
      have t1 := WideElems.Trod_stays laidOut readable22 few22 h1 (fun x hx => hg.same (hlt x (by simp [hx]))) (sp' := sp) (fun x hx => hsp x (by simp [hx]))
      have t2 := WideElems.Trod_stays laidOut readable24 few24 h2 (fun x hx => hg.same (hlt x (by simp [hx]))) (sp' := sp) (fun x hx => hsp x (by simp [hx]))
      exact trodAll_cons_mk t0 (trodAll_cons_mk t1 (trodAll_mk1 t2))) (fun _ _ => rfl) (by simp)
    hg (ok_one (by kernel_rfl) rfl (okWide_bool_mk Tryz.underlying4 _))⟩

theorem row_holds : Rows.TwinNilSaid :=
  OpenClaim.holds_of_wide 3 Tryz.f3 rfl rfl rfl rfl rfl rfl rfl ⟨rfl, rfl, rfl, rfl, rfl⟩ rfl rfl rfl rfl rfl named Tryz.func3 joined inst
    (by unfold Func.isWrapper; first | (rw [if_pos (by decide +kernel)]; kernel_rfl) | (rw [if_neg (by decide +kernel)]; exact ⟨rfl, rfl⟩))
    (fun os started H enc _ => lifted os started H enc)

theorem k1 : Rows.twinNilRow.wfByText (OpenSpec.ofChange Rows.twinNilSpec) = true := by kernel_rfl
theorem k2 : Tryz.pinned.checked.prog.mainIs = some (true, "a425c5ed14fd29ef96ef32b4d28e662ace4c2241ad9e3cc39cb7b2212ddb112e".toList) := by kernel_rfl
theorem k4 : true = Tryz.pinned.checked.prog.looks [] := by kernel_rfl
theorem k5 : Tryz.prog.wantsStandIn 24 = false := by kernel_rfl
theorem k6 : Tryz.prog.wantsStandIn 3 = false := by kernel_rfl
theorem k7 : Tryz.prog.wantsStandIn 22 = false := by kernel_rfl

/-- The card. -/
theorem card_holds : Rows.TwinNilCardSaid :=
  Claim7.holds_tied_plain_at .later [] [.data, .data, .data, .handle] true (true, "a425c5ed14fd29ef96ef32b4d28e662ace4c2241ad9e3cc39cb7b2212ddb112e") true
    row_holds (fun _ h => by cases h) k1 (fun _ h => by cases h) twinNil_row_tie rfl ⟨rfl, rfl⟩ k2 rfl
    (fun f fn hf hfn => by
      obtain rfl : f = 3 := Option.some.inj (named.symm.trans hf) |>.symm
      obtain rfl : fn = Tryz.f3 := (Option.some.inj (Tryz.func3.symm.trans hfn)).symm
      exact ⟨k4, fun j t ht => by
        rw [Tryz.params3] at ht
        have h23 : t = 3 ∨ t = 22 ∨ t = 24 := by
          rcases j with _ | _ | _ | j
          · left; simpa using ht.symm
          · right; left; simpa using ht.symm
          · right; right; simpa using ht.symm
          · simp at ht
        rcases h23 with rfl | rfl | rfl
        · exact k6
        · exact k7
        · exact k5⟩)
    goes_by
#print axioms card_holds
end Go.Proofs.YthlkchahlmkpiaaGreatDoor.twinNil
