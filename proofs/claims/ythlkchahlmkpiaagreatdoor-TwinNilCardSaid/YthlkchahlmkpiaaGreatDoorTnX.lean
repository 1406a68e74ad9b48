/-
  slices.IndexFunc over a great row of turns, by the closure of twin.Turns: none is found.
-/
import Derived.Test.YthlkchahlmkpiaaGreatDoorTnW
namespace Go.Proofs.YthlkchahlmkpiaaGreatDoor
open Go Go.RowKit Go.AE

set_option maxHeartbeats 1000000 in
set_option maxRecDepth 1000000 in
theorem index_long {B : Nat → Prop} {w0 : World} {θ : Th} {G : Hp} {p : Value} {pb pd lb ld : Nat} {w : World} (h : HR B w0 θ G w)
    (hM : Pure B w0 θ G 28 #[p, .agg #[.int .i64 0, .int .i64 0]] fun y => y = .bool true)
    (hp : ∀ w', HR B w0 θ G w' → w'.cell? ⟨pb, pd, none⟩ = some p)
    (hl : ∀ w', HR B w0 θ G w' → ∀ i, i < 131074 → w'.cell? ⟨lb, ld + i, none⟩ = some (.int .i64 0)) :
    Calls Tryz.prog 60 #[.slice (some ⟨lb, ld, none⟩) 65537 65537, .func (.func 27) #[] #[.pointer (some ⟨pb, pd, none⟩)]] w fun e w' => e = .returned (.int .i64 (-1)) ∧ HR B w0 θ G w' := by
  have hu := h.under
  obtain ⟨W, hWW⟩ : ∃ W, W = w.heap.size := ⟨_, rfl⟩
  rw [← hWW] at hu
  have hsz : W ≤ w.heap.size := by omega
  clear hWW
  go_enter Tryz.func60, Tryz.ntmps60
  go_wp2_with fail
  go_loopw [8] (fun i wr => ∃ k : Nat, i = .int .i64 k ∧ k ≤ 65537 ∧ HR B w0 θ G wr ∧ W ≤ wr.heap.size) (fun i _ => 65537 - (intOf i).toNat)
  case atStart => exact ⟨0, rfl, Nat.zero_le _, h, hsz⟩
  case round =>
    obtain ⟨k, rfl, hk, hr, hsz'⟩ := hrel
    have HR' := Lib.hid hr
    have HSZ := Lib.hid hsz'
    have HU := Lib.hid hu
    clear hsz hsz' hu
    by_cases hk2 : k < 65537
    · have c0 := hl _ hr (k * 2) (by omega)
      have c1 : _ = _ := (Nat.add_assoc ld (k * 2) 1).symm ▸ hl _ hr (k * 2 + 1) (by omega)
      have p0 := hp _ (HR'.out.keep HU.out ((Below.refl _ _).alloc HSZ.out (.cells #[.int .i64 0, .int .i64 0] 24)))
      clear hr h hl hp
      go_wp2_with first
        | (go_at_call 28; refine (hM _ (HR'.out.keep HU.out ((Below.refl _ _).alloc HSZ.out _))).mono ?_; rintro e w2 ⟨_, rfl, rfl, hr2, hb2⟩; have HR2 := Lib.hid hr2; have HB2 := Lib.hid (hr2.grows hb2); clear hr2 hb2)
        | go_in
      go_roundw
      case rel => exact ⟨k + 1, by go_num, by omega, HR2.out, Nat.le_trans HSZ.out (Nat.le_trans (by simp) HB2.out)⟩
      case measure => simp [intOf]; omega
    · go_wp2_with fail
      go_ret
      exact ⟨rfl, HR'.out⟩

set_option maxHeartbeats 1000000 in
theorem contains_long {B : Nat → Prop} {w0 : World} {θ : Th} {G : Hp} {p : Value} {pb pd lb ld : Nat} {w : World} (h : HR B w0 θ G w)
    (hM : Pure B w0 θ G 28 #[p, .agg #[.int .i64 0, .int .i64 0]] fun y => y = .bool true)
    (hp : ∀ w', HR B w0 θ G w' → w'.cell? ⟨pb, pd, none⟩ = some p)
    (hl : ∀ w', HR B w0 θ G w' → ∀ i, i < 131074 → w'.cell? ⟨lb, ld + i, none⟩ = some (.int .i64 0)) :
    Calls Tryz.prog 26 #[.slice (some ⟨lb, ld, none⟩) 65537 65537, .func (.func 27) #[] #[.pointer (some ⟨pb, pd, none⟩)]] w fun e w' => e = .returned (.bool false) ∧ HR B w0 θ G w' := by
  have H := Lib.hid (index_long h hM hp hl)
  clear h hM hp hl
  go_enter Tryz.func26, Tryz.ntmps26
  go_wp2_with fail
  refine H.out.mono ?_
  rintro e w' ⟨rfl, hr⟩
  have HR := Lib.hid hr
  clear hr
  go_wp2_with fail
  go_ret
  exact ⟨rfl, HR.out⟩
end Go.Proofs.YthlkchahlmkpiaaGreatDoor
