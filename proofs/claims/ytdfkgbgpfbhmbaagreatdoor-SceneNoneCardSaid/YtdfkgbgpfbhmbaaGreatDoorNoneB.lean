/-
  The law's own calls, but for the look at the scene: by the evaluator.
-/
import Derived.Test.YtdfkgbgpfbhmbaaGreatDoorNoneA
import Derived.Test.YtdfkgbgpfbhmbaaGreatDoorSn12
import Derived.KernelRfl
namespace Go.AE
open Go.RowKit
theorem calls_of_hook' {P : Program} {h : Hook} (hok : HookOK P h) (hfit : h.fits [] h.args ⟨.nil, [], none, .nil, h.c, h.c⟩ = true) {xs : Array Value} {env : Nat → Value} (henv : ∀ i, (env i).cells = #[env i] ∧ (env i).oneCell' = true)
    (hargs : VRL (th0 env) h.args xs.toList) {R : Value → Prop} (hv : ∀ θ y, VR θ h.v y → R y) (w : World) : Calls P h.f xs w fun e w' => ∃ y, e = .returned y ∧ R y ∧ Below w.heap.size w w' := by
  intro cs
  have hinv : Inv w.heap.size w (th0 env) (fun _ => none) w .nil [] := ⟨⟨fun _ _ e => by (exact absurd e (by simp)), fun _ _ _ _ _ _ _ _ _ _ e => by (exact absurd e (by simp)), ⟨Nat.le_refl _, fun _ _ => rfl, rfl, rfl, rfl⟩, henv⟩, fun n y e => by simp [raw, getL_nil] at e⟩
  obtain ⟨out, ho, θ', G', w', pk', fr', hi', hext, hrc', hst, ⟨hkd, hfn⟩, hdf, _, hlv⟩ := hok [] h.args ⟨.nil, [], none, .nil, h.c, h.c⟩ hfit w.heap.size w (th0 env) (fun _ => none) w .normal cs none xs hinv (fun _ _ _ _ _ => ⟨rfl, rfl, rfl⟩) hargs (RcR.normal _ _)
  obtain rfl := List.mem_singleton.1 ho
  obtain ⟨_, rfl⟩ := hrc'.of_normal
  obtain ⟨hm, fn, y, hf, hr, hy⟩ := hlv
  exact ⟨.returned y, w', fr', ⟨y, rfl, hv θ' y hy, hi'.hr.base.below⟩, hst, hfn, hm, hdf, hkd, fn, hf, hr⟩
end Go.AE
namespace Go.Proofs.YtdfkgbgpfbhmbaaGreatDoor
open Go Go.AE Go.RowKit
set_option maxRecDepth 1000000
def hF : Hook := ⟨12, 0, [.agg [.sl0, .sl0, .sl0, .int .i64 (.ofNat 0), .sl0]], [], gone 0 1 ++ ([]), .bool true, 1⟩
theorem hF_ok : HookOK Tryz.prog hF := hook_of_run (hs := []) hooks_nil 100000 (by kernel_rfl)
def hP : Hook := ⟨8, 0, [.agg [.sl0, .sl0, .sl0, .int .i64 (.ofNat 0), .sl0, .sl0, .sl0], .agg [.sl0, .sl0, .sl0, .int .i64 (.ofNat 0), .sl0, .sl0, .sl0]], [], gone 0 4 ++ ([]), .bool true, 4⟩
theorem hP_ok : HookOK Tryz.prog hP := hook_of_run (hs := []) hooks_nil 100000 (by kernel_rfl)
def hO : Hook := ⟨7, 0, [.ptr0, .opq 0], [], gone 0 1 ++ ([]), .tup [.agg [.sl0, .sl0, .sl0, .int .i64 (.ofNat 0), .sl0, .sl0, .sl0], .int .i64 (.ofNat 1)], 1⟩
theorem hO_ok : HookOK Tryz.prog hO := hook_of_run (hs := []) hooks_nil 100000 (by kernel_rfl)
abbrev nilScene : Value := .agg #[.slice none 0 0, .slice none 0 0, .slice none 0 0, .int .i64 0, .slice none 0 0, .slice none 0 0, .slice none 0 0]
theorem empty_fits (w : World) : Calls Tryz.prog 12 #[.agg #[.slice none 0 0, .slice none 0 0, .slice none 0 0, .int .i64 0, .slice none 0 0]] w fun e w' => e = .returned (.bool true) ∧ Below w.heap.size w w' :=
  calls_of_hook (env := fun _ => .bool true) hF_ok (by kernel_rfl) (fun _ => ⟨rfl, rfl⟩) (by simp [hF, VRL, VR]) rfl w
theorem nil_plain (w : World) : Calls Tryz.prog 8 #[nilScene, nilScene] w fun e w' => e = .returned (.bool true) ∧ Below w.heap.size w w' :=
  calls_of_hook (env := fun _ => .bool true) hP_ok (by kernel_rfl) (fun _ => ⟨rfl, rfl⟩) (by simp only [hP, VRL]; exact ⟨_, _, rfl, by simp [VR, VRL], _, _, rfl, by simp [VR, VRL], rfl⟩) rfl w
theorem awake_any (w : World) : Calls Tryz.prog 5 #[] w fun e w' => e = .returned (.bool true) ∧ Below w.heap.size w w' :=
  calls_of_hook (xs := #[]) (env := fun _ => .bool true) h96_ok (by kernel_rfl) (fun _ => ⟨rfl, rfl⟩) rfl rfl w
theorem of_nil (a : Option Addr) (len cap : Nat) (w : World) : Calls Tryz.prog 7 #[.pointer none, .slice a len cap] w fun e w' => e = .returned (.tuple #[nilScene, .int .i64 1]) ∧ Below w.heap.size w w' :=
  (calls_of_hook' (env := fun _ => .slice a len cap) (R := fun y => y = .tuple #[nilScene, .int .i64 1]) hO_ok (by kernel_rfl) (fun _ => ⟨rfl, rfl⟩) (by simp [hO, VRL, VR, th0]) (by
    intro θ y h
    simp only [hO, VR, VRL] at h
    obtain ⟨xs, rfl, x, ys, hx, ⟨zs, rfl, h2⟩, y2, ys2, rfl, rfl, rfl⟩ := h
    obtain ⟨_, _, h2, rfl, _, _, rfl, rfl, _, _, rfl, rfl, _, _, rfl, rfl, _, _, rfl, rfl, _, _, rfl, rfl, _, _, rfl, rfl, rfl⟩ := h2
    have e1 : xs = #[Value.agg zs, .int .i64 (.ofNat 1)] := by
      apply Array.toList_inj.1
      rw [hx]
    have e2 : zs = #[.slice none 0 0, .slice none 0 0, .slice none 0 0, .int .i64 (.ofNat 0), .slice none 0 0, .slice none 0 0, .slice none 0 0] := by
      apply Array.toList_inj.1
      rw [h2]
    rw [e1, e2]
    rfl) w).mono fun e w' ⟨y, h1, h2, h3⟩ => ⟨by rw [h1, h2], h3⟩
end Go.Proofs.YtdfkgbgpfbhmbaaGreatDoor
