/-
  The law SceneNone's walk: its look at the scene comes to a truth; in either case the answer is true, and what lay in memory lies there as before.
-/
import Derived.Test.YtdfkgbgpfbhmbaaGreatDoorNoneB
import Derived.Outline
namespace Go.Proofs.YtdfkgbgpfbhmbaaGreatDoor
open Go Go.RowKit

set_option maxHeartbeats 1000000 in
set_option maxRecDepth 100000 in
theorem there_no (b : Nat) (w : World) (h1 : w.cell? ⟨b, 1, none⟩ = some (.pointer none)) : Calls Tryz.prog 35 #[.pointer (some ⟨b, 0, none⟩)] w fun e w' => e = .returned (.bool false) ∧ w = w' := by
  go_enter Tryz.func35, Tryz.ntmps35
  go_wp2_with fail
  go_ret
  exact ⟨rfl, rfl⟩
set_option maxHeartbeats 1000000 in
set_option maxRecDepth 100000 in
theorem world_no (b : Nat) (w : World) (h1 : w.cell? ⟨b, 1, none⟩ = some (.pointer none)) : Calls Tryz.prog 15 #[.pointer (some ⟨b, 0, none⟩)] w fun e w' => e = .returned (.pointer none) ∧ w = w' := by
  have H := Lib.hid h1
  clear h1
  go_enter Tryz.func15, Tryz.ntmps15
  go_wp2_with (go_at_call 35; refine (there_no b _ H.out).mono ?_; rintro e w' ⟨rfl, rfl⟩)
  go_ret
  exact ⟨rfl, rfl⟩
set_option maxHeartbeats 1000000 in
set_option maxRecDepth 100000 in
theorem of_made (b : Nat) (a : Option Addr) (len cap : Nat) (w : World) (h1 : w.cell? ⟨b, 1, none⟩ = some (.pointer none)) : Calls Tryz.prog 7 #[.pointer (some ⟨b, 0, none⟩), .slice a len cap] w fun e w' => e = .returned (.tuple #[nilScene, .int .i64 1]) ∧ Below w.heap.size w w' := by
  have hb := lt_of_cell h1
  have H := Lib.hid h1
  have HB := Lib.hid hb
  clear h1 hb
  go_enter Tryz.func7, Tryz.ntmps7
  go_wp2_with fail
  refine (world_no b _ ((cell_old _ _ HB.out).trans H.out)).mono ?_
  rintro e w' ⟨rfl, rfl⟩
  go_wp2_with fail
  refine bodyPost_ret (v := .tuple #[nilScene, .int .i64 1]) (by simp [results, Tryz.results7, go_sem]) rfl ⟨rfl, (Below.refl _ _).alloc (Nat.le_refl _) _⟩

set_option maxHeartbeats 2000000 in
set_option maxRecDepth 100000 in
/-- The law's walk. -/
theorem law_any (d : Nat) (c0 c1 c2 l : Value) (w : World) (h : RdL w d l) : Calls Tryz.prog 4 #[.agg #[c0, c1, c2, l]] w fun e w' => e = .returned (.bool true) ∧ Below w.heap.size w w' := by
  have H := Lib.hid h
  clear h
  have hR0 : RdL ((w.alloc (.cells #[c0, c1, c2, l] 29)).alloc (.cells #[c0, c1, c2, l] 29)) d l := by
    have hc : ∀ b o, b < w.heap.size → ((w.alloc (.cells #[c0, c1, c2, l] 29)).alloc (.cells #[c0, c1, c2, l] 29)).cell? ⟨b, o, none⟩ = w.cell? ⟨b, o, none⟩ := fun b o hb => (cell_old _ _ (by simp; omega)).trans (cell_old _ _ hb)
    rcases H.out with h | h | ⟨b, off, len, cap, h1, h2, h3⟩
    · exact .inl h
    · exact .inr (.inl h)
    · refine .inr (.inr ⟨b, off, len, cap, h1, h2, fun i hi => ?_⟩)
      obtain ⟨k', n', s', l', r', a0, a1, a2, a3, a4, a5⟩ := h3 i hi
      have hlt := lt_of_cell a0
      exact ⟨k', n', s', l', r', (hc _ _ hlt).trans a0, (hc _ _ hlt).trans a1, (hc _ _ hlt).trans a2, (hc _ _ hlt).trans a3, (hc _ _ hlt).trans a4, Rd.mono hc d _ _ a5⟩
  have HR0 := Lib.hid hR0
  clear hR0
  go_enter Tryz.func4, Tryz.ntmps4
  go_wp2_with fail
  refine (fits_any empty_fits d (w.heap.size + 1) l _ (by simp) (by simp) HR0.out).mono ?_
  rintro e w1 ⟨g, rfl, hb1⟩
  have hk1 : Below (w.heap.size + 1) (w.alloc (.cells #[c0, c1, c2, l] 29)) w1 := ((Below.refl _ _).alloc (by simp) _).trans (hb1.mono (by simp))
  have s1 : w.heap.size + 1 < w1.heap.size := by have := hb1.size; simp at this; omega
  have K0 : Below w.heap.size w (w.alloc (.cells #[c0, c1, c2, l] 29)) := (Below.refl _ _).alloc (Nat.le_refl _) _
  clear hb1
  cases g
  · go_wp2_with fail
    refine (awake_any _).mono ?_
    rintro e w2 ⟨rfl, hb2⟩
    have hk2 := hk1.trans (hb2.mono (by omega))
    go_wp2_with fail
    go_ret
    exact ⟨rfl, K0.trans (hk2.mono (by omega))⟩
  · have x1 : ∀ o, w1.cell? ⟨w.heap.size, o, none⟩ = (#[c0, c1, c2, l] : Array Value)[o]? := fun o => (hk1.cell (p := ⟨w.heap.size, o, none⟩) (by simp)).trans (cell_new w _ 29 o)
    go_wp2_with fail
    refine (of_nil _ _ _ _).mono ?_
    rintro e w2 ⟨rfl, hb2⟩
    have hk2 : Below (w.heap.size + 1) (w.alloc (.cells #[c0, c1, c2, l] 29)) w2 := (hk1.alloc (by omega) _).trans (hb2.mono (by simp; omega))
    have s2 : w.heap.size + 1 < w2.heap.size := by have := hb2.size; simp at this; omega
    clear hb2 x1
    have x2 : ∀ o, w2.cell? ⟨w.heap.size, o, none⟩ = (#[c0, c1, c2, l] : Array Value)[o]? := fun o => (hk2.cell (p := ⟨w.heap.size, o, none⟩) (by simp)).trans (cell_new w _ 29 o)
    have s3 : w.heap.size < w2.heap.size := by omega
    have s4 : w.heap.size < w2.heap.size + 1 := by omega
    go_wp2_with fail
    refine (of_made _ _ _ _ _ ?_).mono ?_
    · exact (cell_old _ _ (by simp)).trans ((by simp : (((w2.alloc (.cells #[.slice none 0 0, .slice none 0 0, .slice none 0 0, .int .i64 0, .slice none 0 0, .slice none 0 0, .slice none 0 0] 40)).alloc (.cells #[.pointer none, .pointer none, .slice none 0 0, .slice none 0 0, .slice none 0 0] 48)).cell? ⟨w2.heap.size + 1, 1, none⟩ = some (Value.pointer none))))
    rintro e w3 ⟨rfl, hb3⟩
    have z2 : ∀ o, w3.cell? ⟨w2.heap.size, o, none⟩ = (#[.slice none 0 0, .slice none 0 0, .slice none 0 0, .int .i64 0, .slice none 0 0, .slice none 0 0, .slice none 0 0] : Array Value)[o]? := fun o =>
      (hb3.cell (p := ⟨w2.heap.size, o, none⟩) (by simp; omega)).trans ((cell_old _ _ (by simp; omega)).trans ((cell_old _ _ (by simp)).trans (cell_new w2 _ 40 o)))
    have hk3 : Below (w.heap.size + 1) (w.alloc (.cells #[c0, c1, c2, l] 29)) w3 := (((hk2.alloc (by omega) _).alloc (by simp; omega) _).alloc (by simp; omega) _).trans (hb3.mono (by simp; omega))
    have s5 : w2.heap.size < w3.heap.size := by have := hb3.size; simp at this; omega
    clear hb3 x2
    go_wp2_with fail
    refine (nil_plain _).mono ?_
    rintro e w4 ⟨rfl, hb4⟩
    have z4 : ∀ o, w4.cell? ⟨w3.heap.size, o, none⟩ = (#[.slice none 0 0, .slice none 0 0, .slice none 0 0, .int .i64 0, .slice none 0 0, .slice none 0 0, .slice none 0 0] : Array Value)[o]? := fun o =>
      (hb4.cell (p := ⟨w3.heap.size, o, none⟩) (by simp)).trans (cell_new w3 _ 40 o)
    have hk4 : Below (w.heap.size + 1) (w.alloc (.cells #[c0, c1, c2, l] 29)) w4 := (hk3.alloc (by omega) _).trans (hb4.mono (by simp; omega))
    have s6 : w3.heap.size < w4.heap.size := by have := hb4.size; simp at this; omega
    clear hb4 z2
    go_wp2_with fail
    refine (nil_plain _).mono ?_
    rintro e w5 ⟨rfl, hb5⟩
    have hk5 := hk4.trans (hb5.mono (by omega))
    have s7 : w4.heap.size ≤ w5.heap.size := hb5.size
    clear hb5 z4
    go_wp2_with fail
    refine (awake_any _).mono ?_
    rintro e w6 ⟨rfl, hb6⟩
    have hk6 := hk5.trans (hb6.mono (by omega))
    clear hb6
    go_wp2_with fail
    go_ret
    exact ⟨rfl, K0.trans (hk6.mono (by omega))⟩
end Go.Proofs.YtdfkgbgpfbhmbaaGreatDoor
