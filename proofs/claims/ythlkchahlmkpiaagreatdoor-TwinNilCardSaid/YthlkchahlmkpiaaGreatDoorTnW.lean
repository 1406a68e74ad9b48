/-
  twin.Alike over a great row of turns: the loop is walked by hand.
-/
import Derived.Test.YthlkchahlmkpiaaGreatDoorAEg
import Derived.Test.YthlkchahlmkpiaaGreatDoorProg
import Derived.WalkKit
import Derived.ProofKit
import Derived.Below
import Derived.Lib.Hide
import Derived.Laws.AppendOwn
import Derived.Deep.Cut
namespace Go.Proofs.YthlkchahlmkpiaaGreatDoor
open Go Go.RowKit Go.AE

/-- A call that leaves all as it is. -/
def Pure (B : Nat → Prop) (w0 : World) (θ : Th) (G : Hp) (f : FuncId) (xs : Array Value) (R : Value → Prop) : Prop :=
  ∀ w, HR B w0 θ G w → Calls Tryz.prog f xs w fun e w' => ∃ y, e = .returned y ∧ R y ∧ HR B w0 θ G w' ∧ Base (Unk θ G w) w w'

def RowAt (W : Nat) (v : Value) (k : Nat) (w : World) : Prop := w.ownsRow W 24 2 v k (List.replicate (k * 2) (.int .i64 0))

theorem info24 : (Tryz.prog.info? 24).map (fun i => (i.zero, i.size, i.bytes)) = some (some (.agg #[.int .i64 0, .int .i64 0]), 2, 16) := by kernel_rfl
theorem two_zeros (w : World) (g : Nat) (t : TypeId) (d : Nat × Nat) (h : w.heap[g]? = some (.cells #[.int .i64 0, .int .i64 0] t d)) : w.cell? ⟨g, 0, none⟩ = some (.int .i64 0) ∧ w.cell? ⟨g, 1, none⟩ = some (.int .i64 0) := by
  constructor <;> simp [World.cell?, h]
theorem news_two (w : World) : ∀ j u, [Value.int .i64 0, .int .i64 0][j]? = some u → (w.alloc (.cells #[.int .i64 0, .int .i64 0] 24)).cell? ((⟨w.heap.size, 0, none⟩ : Addr).add j) = some u := by
  intro j u hj
  match j, hj with
  | 0, hj => simp at hj; subst hj; simp [Addr.add]
  | 1, hj => simp at hj; subst hj; simp [Addr.add]
theorem news_one : ∀ u ∈ [Value.int .i64 0, .int .i64 0], u.oneCell' = true := by intro u hu; simp at hu; subst hu; rfl
theorem row_snoc (k : Nat) : List.replicate (k * 2) (Value.int .i64 0) ++ [.int .i64 0, .int .i64 0] = List.replicate ((k + 1) * 2) (.int .i64 0) := by
  rw [show (k + 1) * 2 = k * 2 + 2 from by omega, ← List.replicate_append_replicate]; rfl

set_option maxHeartbeats 700000 in
set_option maxRecDepth 1000000 in
theorem alike_long {B : Nat → Prop} {w0 : World} {θ : Th} {G : Hp} {p : Value} {lb ld : Nat} {w : World} (h : HR B w0 θ G w)
    (hW : Pure B w0 θ G 18 #[p] fun y => ∃ a, y = .pointer (some a)) (hS : Pure B w0 θ G 29 #[p] fun y => ∃ a c, y = .slice (some a) 1 c)
    (hM : Pure B w0 θ G 28 #[p, .agg #[.int .i64 0, .int .i64 0]] fun y => y = .bool true)
    (hl : ∀ w', HR B w0 θ G w' → ∀ i, i < 131074 → w'.cell? ⟨lb, ld + i, none⟩ = some (.int .i64 0)) :
    Calls Tryz.prog 9 #[p, p, .slice (some ⟨lb, ld, none⟩) 65537 65537] w fun e w' => e = .returned (.tuple #[.int .i64 0, .int .i64 0, .bool false, .int .i64 4]) ∧ HR B w0 θ G w' := by
  have hu := h.under
  obtain ⟨W, hWW⟩ : ∃ W, W = w.heap.size := ⟨_, rfl⟩
  rw [← hWW] at hu
  have hsz : W ≤ w.heap.size := by omega
  clear hWW
  go_enter Tryz.func9, Tryz.ntmps9
  go_wp2_with first
    | (go_at_call 18; refine (hW _ (by assumption)).mono ?_; rintro e w' ⟨_, rfl, ⟨a, rfl⟩, hr, hb⟩; have hsz := Nat.le_trans (by assumption : W ≤ _) (hr.grows hb); clear hb)
    | (go_at_call 29; refine (hS _ (by assumption)).mono ?_; rintro e w' ⟨_, rfl, ⟨a, c, rfl⟩, hr, hb⟩; have hsz := Nat.le_trans (by assumption : W ≤ _) (hr.grows hb); clear hb)
  go_loopw [30, 10] (fun i v wr => ∃ k : Nat, i = .int .i64 k ∧ k ≤ 65537 ∧ HR B w0 θ G wr ∧ W ≤ wr.heap.size ∧ RowAt W v k wr) (fun i _ _ => 65537 - (intOf i).toNat)
  case atStart => exact ⟨0, rfl, Nat.zero_le _, by assumption, by assumption, World.ownsRow_nil _ _ _ _⟩
  case round =>
    obtain ⟨k, rfl, hk, hr, hsz, hown⟩ := hrel
    have HO := Lib.hid hown
    have HL := Lib.hid hl
    have HR' := Lib.hid hr
    have HSZ := Lib.hid hsz
    clear hown hl hsz
    by_cases hk2 : k < 65537
    · have c0 := HL.out _ hr (k * 2) (by omega)
      have c1 : _ = _ := (Nat.add_assoc ld (k * 2) 1).symm ▸ HL.out _ hr (k * 2 + 1) (by omega)
      clear hr
      have HU := Lib.hid hu
      clear hu h
      go_wp2_with fail
      refine (hM _ (HR'.out.keep HU.out ((Below.refl _ _).alloc HSZ.out _))).mono ?_
      rintro e w2 ⟨_, rfl, rfl, hr2, hb2⟩
      have ht := hb2.above HU.out HSZ.out (by simp)
      rw [heap_alloc_new] at ht
      obtain ⟨d0, d1⟩ := two_zeros w2 _ 24 _ ht.1
      have hlt := Lib.hid ht.2
      have HO2 := Lib.hid (ownsRow_pure HU.out hb2 (World.ownsRow.alloc HO.out _))
      have HB2 := Lib.hid (hr2.grows hb2)
      have HR2 := Lib.hid hr2
      clear hr2 hb2 ht
      clear c0 c1
      go_upto_if 37 with (fail)
      go_upto_if 45 with (fail)
      obtain ⟨i0, hi, hz0, hz1, hz2⟩ := info_parts info24
      clear HL hW hS hM
      have HBS : Hid (∀ o : Obj, W ≤ (w2.alloc o).heap.size) := Lib.hid (by intro o; have h1 := HB2.out; have h2 := HSZ.out; simp at h1 ⊢; omega)
      go_wp2_with (at_builtin; go_loud (refine wpList_append_own _ rfl (.tmp 46) (.tmp 48) 39 rfl W 24 i0 (.agg #[.int .i64 0, .int .i64 0]) 2 16 Tryz.underlying39 hi hz0 hz1 hz2 rfl (by decide) _ _ _ rfl (World.ownsRow.alloc HO2.out _) ⟨_, 0, none⟩ 1 1 [.int .i64 0, .int .i64 0] rfl rfl (news_two _) news_one (by unfold maxLen; omega) (by omega) (HBS.out _) ?_); intro v1 w3 hown1 hgrow1 hnil1; clear hnil1; have HOWN := Lib.hid hown1; have HGR := Lib.hid hgrow1; clear hown1 hgrow1)
      go_roundw
      case rel => exact ⟨k + 1, by go_num, by omega, HR2.out.keep HU.out (((Below.refl _ _).alloc (Nat.le_trans HSZ.out (Nat.le_trans (by simp) HB2.out)) _).grown HGR.out (HBS.out _) (fun j hj => (HO2.out.lt j hj).1)),
        Nat.le_trans (HBS.out _) HGR.out.size, by rw [RowAt, ← row_snoc]; exact HOWN.out⟩
      case measure => simp [intOf]; omega
    · go_wp2_with fail
      exact bodyPost_ret (v := .tuple #[.int .i64 0, .int .i64 0, .bool false, .int .i64 4]) (by simp [results, Tryz.results9, go_sem]) rfl ⟨rfl, HR'.out⟩
end Go.Proofs.YthlkchahlmkpiaaGreatDoor
