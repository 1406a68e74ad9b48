/-
  A scene of one cue that is looked at: any cue's arguments are gone through, and a truth comes back; nothing that lay in memory is changed.
-/
import Derived.Test.YtdfkgbgpfbhmbaaGreatDoorProg
import Derived.WalkKit
import Derived.ProofKit
import Derived.Below
import Derived.Lib.Hide
namespace Go.Proofs.YtdfkgbgpfbhmbaaGreatDoor
open Go Go.RowKit

/-- A value that can be read, so many levels deep. -/
def Rd (w : World) : Nat → Value → Value → Prop
  | 0, _, _ => False
  | d + 1, s, l => (∃ t : ByteArray, s = .string t ∧ t.size ≤ 9223372036854775807) ∧
    (l = .slice none 0 0 ∨ (∃ a cap, l = .slice (some a) 0 cap) ∨ ∃ b off len cap, l = .slice (some ⟨b, off, none⟩) len cap ∧ len ≤ 9223372036854775807 ∧
      ∀ i, i < len → ∃ k' n' s' l' r', w.cell? ⟨b, off + i * 5, none⟩ = some k' ∧ w.cell? ⟨b, off + i * 5 + 1, none⟩ = some n' ∧ w.cell? ⟨b, off + i * 5 + 2, none⟩ = some s' ∧
        w.cell? ⟨b, off + i * 5 + 3, none⟩ = some l' ∧ w.cell? ⟨b, off + i * 5 + 4, none⟩ = some r' ∧ Rd w d s' l')

theorem lt_of_cell {w : World} {b o : Nat} {v : Value} (h : w.cell? ⟨b, o, none⟩ = some v) : b < w.heap.size := by
  rcases Nat.lt_or_ge b w.heap.size with h' | h'
  · exact h'
  · have : w.heap[b]? = none := Array.getElem?_eq_none h'
    simp [World.cell?, this] at h
theorem cell_new (w : World) (cs : Array Value) (t : TypeId) (o : Nat) : (w.alloc (.cells cs t)).cell? ⟨w.heap.size, o, none⟩ = cs[o]? := by
  have e : (w.alloc (.cells cs t)).heap[w.heap.size]? = some (.cells cs t) := (MapKept.heap_alloc w _).1
  unfold World.cell?
  simp only [e]
  rfl
theorem cell_old (w : World) (ob : Obj) {b o : Nat} (h : b < w.heap.size) : (w.alloc ob).cell? ⟨b, o, none⟩ = w.cell? ⟨b, o, none⟩ := by
  have e : (w.alloc ob).heap[b]? = w.heap[b]? := (MapKept.heap_alloc w ob).2 b h
  unfold World.cell?
  simp only [e]
theorem Rd.mono {w w' : World} (hc : ∀ b o, b < w.heap.size → w'.cell? ⟨b, o, none⟩ = w.cell? ⟨b, o, none⟩) : ∀ (d : Nat) (s l : Value), Rd w d s l → Rd w' d s l
  | 0, _, _, h => h
  | d + 1, s, l, ⟨h1, h2⟩ => by
    refine ⟨h1, ?_⟩
    rcases h2 with h2 | h2 | ⟨b, off, len, cap, h2, h3, h4⟩
    · exact .inl h2
    · exact .inr (.inl h2)
    · refine .inr (.inr ⟨b, off, len, cap, h2, h3, fun i hi => ?_⟩)
      obtain ⟨k', n', s', l', r', a0, a1, a2, a3, a4, a5⟩ := h4 i hi
      have hb := lt_of_cell a0
      exact ⟨k', n', s', l', r', (hc _ _ hb).trans a0, (hc _ _ hb).trans a1, (hc _ _ hb).trans a2, (hc _ _ hb).trans a3, (hc _ _ hb).trans a4, Rd.mono hc d s' l' a5⟩

def SomeRoom (B : Nat) (w : World) (e : Ending) (w' : World) : Prop := ∃ m : Int, e = .returned (.int .i64 m) ∧ -4611686018427387904 ≤ m ∧ m ≤ 20000 ∧ Below B w w'

set_option maxHeartbeats 1000000 in
set_option maxRecDepth 100000 in
theorem room_any (d : Nat) : ∀ (k n s l r : Value) (left : Int) (w : World), Rd w d s l → -4611686018427387904 ≤ left → left ≤ 20000 →
    Calls Tryz.prog 34 #[.agg #[k, n, s, l, r], .int .i64 left] w (SomeRoom w.heap.size w) := by
  induction d with
  | zero => intro k n s l r left w h; exact h.elim
  | succ d ih =>
    intro k n s l r left w h hlo hhi
    obtain ⟨⟨t, rfl, ht⟩, hl⟩ := h
    by_cases hneg : left < 0
    · go_enter Tryz.func34, Tryz.ntmps34
      go_wp2_with fail
      go_ret
      exact ⟨-1, rfl, by omega, by omega, (Below.refl _ _).alloc (Nat.le_refl _) _⟩
    · have hneg' : 0 ≤ left := by omega
      clear hneg
      rcases hl with rfl | ⟨a, cap, rfl⟩ | ⟨b, off, len, cap, rfl, hlen, hel⟩
      · go_enter Tryz.func34, Tryz.ntmps34
        go_wp2_with fail
        refine wp_loop_rounds 1 ?_
        rw [rounds_succ]
        go_wp2_with fail
        go_ret
        exact ⟨_, rfl, by omega, by omega, (Below.refl _ _).alloc (Nat.le_refl _) _⟩
      · go_enter Tryz.func34, Tryz.ntmps34
        go_wp2_with fail
        refine wp_loop_rounds 1 ?_
        rw [rounds_succ]
        go_wp2_with fail
        go_ret
        exact ⟨_, rfl, by omega, by omega, (Below.refl _ _).alloc (Nat.le_refl _) _⟩
      · have hcell : ∀ i, i < len → ∃ k' n' s' l' r', w.cell? ⟨b, off + i * 5, none⟩ = some k' ∧ w.cell? ⟨b, off + i * 5 + 1, none⟩ = some n' ∧ w.cell? ⟨b, off + i * 5 + 2, none⟩ = some s' ∧
          w.cell? ⟨b, off + i * 5 + 3, none⟩ = some l' ∧ w.cell? ⟨b, off + i * 5 + 4, none⟩ = some r' ∧ Rd w d s' l' := hel
        have HC := Lib.hid hcell
        clear hel hcell
        go_enter Tryz.func34, Tryz.ntmps34
        go_wp2_with fail
        generalize hL : left - 1 - (t.size : Int) / 64 = L
        go_loopw [1, 5] (fun v i wr => ∃ (m : Int) (j : Nat), v = .int .i64 m ∧ i = .int .i64 j ∧ j ≤ len ∧ -4611686018427387904 ≤ m ∧ m ≤ 20000 ∧ Below (w.heap.size + 1) (w.alloc (.cells #[k, n, .string t, .slice (some ⟨b, off, none⟩) len cap, r] 67)) wr) (fun _ i _ => len - (intOf i).toNat)
        case atStart => exact ⟨L, 0, rfl, rfl, Nat.zero_le _, by omega, by omega, Below.refl _ _⟩
        case round => 
          obtain ⟨m, j, rfl, rfl, hj, hm1, hm2, hb⟩ := hrel
          have hbx : wr.cell? ⟨w.heap.size, 3, none⟩ = some (.slice (some ⟨b, off, none⟩) len cap) := (hb.cell (p := ⟨w.heap.size, 3, none⟩) (by simp)).trans (cell_new w _ 67 3)
          have hbw : ∀ b o, b < w.heap.size → wr.cell? ⟨b, o, none⟩ = w.cell? ⟨b, o, none⟩ := fun b' o' hlt => (hb.cell (p := ⟨b', o', none⟩) (by simp; omega)).trans (cell_old w _ hlt)
          by_cases hjl : j < len
          · obtain ⟨k', n', s', l', r', a0, a1, a2, a3, a4, a5⟩ := HC.out j hjl
            have hbb := lt_of_cell a0
            have a0 := (hbw _ _ hbb).trans a0
            have a1 := (hbw _ _ hbb).trans a1
            have a2 := (hbw _ _ hbb).trans a2
            have a3 := (hbw _ _ hbb).trans a3
            have a4 := (hbw _ _ hbb).trans a4
            have a5 := Rd.mono hbw d _ _ a5
            have A5 := Lib.hid a5
            clear hbw a5
            by_cases hm : 0 ≤ m
            · go_wp2_with (go_at_call 34; refine (ih k' n' s' l' r' m _ A5.out hm1 hm2).mono ?_; rintro e w' ⟨m', rfl, h1, h2, hb'⟩)
              go_roundw
              case rel => exact ⟨m', j + 1, rfl, by go_num, by omega, h1, h2, hb.trans (hb'.mono (by have := hb.size; simp at this; omega))⟩
              case measure => simp [intOf]; omega
            · go_wp2_with fail
              go_ret
              exact ⟨m, rfl, hm1, hm2, ((Below.refl _ _).alloc (Nat.le_refl _) _).trans (hb.mono (by omega))⟩
          · go_wp2_with fail
            go_ret
            exact ⟨m, rfl, hm1, hm2, ((Below.refl _ _).alloc (Nat.le_refl _) _).trans (hb.mono (by omega))⟩
end Go.Proofs.YtdfkgbgpfbhmbaaGreatDoor
namespace Go.Proofs.YtdfkgbgpfbhmbaaGreatDoor
open Go Go.RowKit

def SomeBool (B : Nat) (w : World) (e : Ending) (w' : World) : Prop := ∃ b : Bool, e = .returned (.bool b) ∧ Below B w w'

set_option maxHeartbeats 1000000 in
set_option maxRecDepth 100000 in
theorem great_any (d : Nat) (k n s l r : Value) (w : World) (h : Rd w d s l) : Calls Tryz.prog 14 #[.agg #[k, n, s, l, r]] w (SomeBool w.heap.size w) := by
  have h1 : Rd (w.alloc (.cells #[k, n, s, l, r] 67)) d s l := Rd.mono (fun b o hb => cell_old w _ hb) d s l h
  have H := Lib.hid h1
  clear h h1
  go_enter Tryz.func14, Tryz.ntmps14
  go_wp2_with (go_at_call 34; refine (room_any d k n s l r 20000 _ H.out (by omega) (by omega)).mono ?_; rintro e w' ⟨m', rfl, h1, h2, hb'⟩)
  go_ret
  exact ⟨_, rfl, ((Below.refl _ _).alloc (Nat.le_refl _) _).trans (hb'.mono (by simp))⟩
end Go.Proofs.YtdfkgbgpfbhmbaaGreatDoor
namespace Go.Proofs.YtdfkgbgpfbhmbaaGreatDoor
open Go Go.RowKit

/-- A list of values that can be read. -/
def RdL (w : World) (d : Nat) (l : Value) : Prop := l = .slice none 0 0 ∨ (∃ a cap, l = .slice (some a) 0 cap) ∨ ∃ b off len cap, l = .slice (some ⟨b, off, none⟩) len cap ∧ len ≤ 9223372036854775807 ∧
      ∀ i, i < len → ∃ k' n' s' l' r', w.cell? ⟨b, off + i * 5, none⟩ = some k' ∧ w.cell? ⟨b, off + i * 5 + 1, none⟩ = some n' ∧ w.cell? ⟨b, off + i * 5 + 2, none⟩ = some s' ∧
        w.cell? ⟨b, off + i * 5 + 3, none⟩ = some l' ∧ w.cell? ⟨b, off + i * 5 + 4, none⟩ = some r' ∧ Rd w d s' l'

set_option maxHeartbeats 2000000 in
set_option maxRecDepth 100000 in
theorem fits_any (hempty : ∀ w : World, Calls Tryz.prog 12 #[.agg #[.slice none 0 0, .slice none 0 0, .slice none 0 0, .int .i64 0, .slice none 0 0]] w fun e w' => e = .returned (.bool true) ∧ Below w.heap.size w w')
    (d bC : Nat) (l : Value) (w : World) (hb : bC < w.heap.size) (hl : w.cell? ⟨bC, 3, none⟩ = some l) (h : RdL w d l) :
    Calls Tryz.prog 6 #[.agg #[.slice none 0 0, .slice none 0 0, .slice none 0 0, .int .i64 0, .slice none 0 0, .slice none 0 0, .slice (some ⟨bC, 0, none⟩) 1 1]] w (SomeBool w.heap.size w) := by
  go_enter Tryz.func6, Tryz.ntmps6
  have HB := Lib.hid hb
  go_wp2_with fail
  refine (hempty _).mono ?_
  rintro e w1 ⟨rfl, hb1⟩
  have hbx : ∀ o, w1.cell? ⟨w.heap.size, o, none⟩ = (#[Value.slice none 0 0, .slice none 0 0, .slice none 0 0, .int .i64 0, .slice none 0 0, .slice none 0 0, .slice (some ⟨bC, 0, none⟩) 1 1] : Array Value)[o]? := fun o => (hb1.cell (p := ⟨w.heap.size, o, none⟩) (by simp)).trans (cell_new w _ 40 o)
  have hbo : ∀ b o, b < w.heap.size → w1.cell? ⟨b, o, none⟩ = w.cell? ⟨b, o, none⟩ := fun b' o' hlt => (hb1.cell (p := ⟨b', o', none⟩) (by simp; omega)).trans (cell_old w _ hlt)
  have x5 : w1.cell? ⟨w.heap.size, 5, none⟩ = some (.slice none 0 0) := hbx 5
  have x6 : w1.cell? ⟨w.heap.size, 6, none⟩ = some (.slice (some ⟨bC, 0, none⟩) 1 1) := hbx 6
  clear hbx
  have c3 : w1.cell? ⟨bC, 3, none⟩ = some l := (hbo _ _ hb).trans hl
  have hR : RdL w1 d l := by
    rcases h with h | h | ⟨b, off, len, cap, h1, h2, h3⟩
    · exact .inl h
    · exact .inr (.inl h)
    · refine .inr (.inr ⟨b, off, len, cap, h1, h2, fun i hi => ?_⟩)
      obtain ⟨k', n', s', l', r', a0, a1, a2, a3, a4, a5⟩ := h3 i hi
      have hlt := lt_of_cell a0
      exact ⟨k', n', s', l', r', (hbo _ _ hlt).trans a0, (hbo _ _ hlt).trans a1, (hbo _ _ hlt).trans a2, (hbo _ _ hlt).trans a3, (hbo _ _ hlt).trans a4, Rd.mono hbo d _ _ a5⟩
  have hbC : bC < w1.heap.size := by have := hb1.size; simp at this; omega
  have hxC : w.heap.size < w1.heap.size := by have := hb1.size; simp at this; omega
  have HB1 : Below w.heap.size w w1 := ((Below.refl _ _).alloc (Nat.le_refl _) _).trans (hb1.mono (by simp))
  clear hbo h hl hb hb1
  go_wp2_with fail
  refine wp_loop_rounds 1 ?_
  rw [rounds_succ]
  go_wp2_with fail
  -- the cues
  go_loopw [5, 4] (fun i n wr => ∃ m : Int, n = .int .i64 m ∧ ((i = .int .i64 0 ∧ m = 0) ∨ i = .int .i64 1) ∧ 0 ≤ m ∧ m ≤ 9223372036854775807 ∧ Below w1.heap.size w1 wr) (fun i _ _ => 1 - (intOf i).toNat)
  case atStart => exact ⟨0, rfl, .inl ⟨rfl, rfl⟩, by omega, by omega, Below.refl _ _⟩
  case round =>
    obtain ⟨wo, rfl⟩ : ∃ wo : World, wo = wr := ⟨_, rfl⟩
    obtain ⟨m, rfl, hcase, hm1, hm2, hbr⟩ := hrel
    have y6 := (hbr.cell (p := ⟨w.heap.size, 6, none⟩) hxC).trans x6
    have y3 := (hbr.cell (p := ⟨bC, 3, none⟩) hbC).trans c3
    rcases hcase with ⟨rfl, rfl⟩ | rfl
    · clear hm1 hm2
      rcases hR with rfl | ⟨a, cap, rfl⟩ | ⟨b, off, len, cap, rfl, hlen, hel⟩
      · go_wp2_with fail
        refine wp_loop_rounds 1 ?_
        rw [rounds_succ]
        go_wp2_with fail
        go_roundw
        case rel => exact ⟨0, rfl, .inr rfl, by omega, by omega, hbr⟩
        case measure => simp [intOf]
      · go_wp2_with fail
        refine wp_loop_rounds 1 ?_
        rw [rounds_succ]
        go_wp2_with fail
        go_roundw
        case rel => exact ⟨0, rfl, .inr rfl, by omega, by omega, hbr⟩
        case measure => simp [intOf]
      · have HC := Lib.hid hel
        clear hel
        go_wp2_with fail
        go_loopw [6] (fun k wr' => ∃ q : Nat, k = .int .i64 q ∧ q ≤ len ∧ Below wo.heap.size wo wr') (fun k _ => len - (intOf k).toNat)
        case atStart => exact ⟨0, rfl, Nat.zero_le _, Below.refl _ _⟩
        case round =>
          obtain ⟨q, rfl, hq, hbq⟩ := hrel
          have hso : w1.heap.size ≤ wo.heap.size := hbr.size
          have hbt : Below w1.heap.size w1 wr := hbr.trans (hbq.mono hso)
          have z6 := (hbt.cell (p := ⟨w.heap.size, 6, none⟩) hxC).trans x6
          have z3 := (hbt.cell (p := ⟨bC, 3, none⟩) hbC).trans c3
          by_cases hql : q < len
          · obtain ⟨k', n', s', l', r', a0, a1, a2, a3, a4, a5⟩ := HC.out q hql
            have hbb := lt_of_cell a0
            have hbw : ∀ b o, b < w1.heap.size → wr.cell? ⟨b, o, none⟩ = w1.cell? ⟨b, o, none⟩ := fun b' o' hlt => hbt.cell (p := ⟨b', o', none⟩) hlt
            have a0 := (hbw _ _ hbb).trans a0
            have a1 := (hbw _ _ hbb).trans a1
            have a2 := (hbw _ _ hbb).trans a2
            have a3 := (hbw _ _ hbb).trans a3
            have a4 := (hbw _ _ hbb).trans a4
            have A5 := Lib.hid (Rd.mono hbw d _ _ a5)
            clear hbw a5
            by_cases hm : len < 1000
            · go_wp2_with fail
              refine (great_any d k' n' s' l' r' _ A5.out).mono ?_
              rintro e w' ⟨g, rfl, hb'⟩
              cases g
              · go_wp2_with fail
                go_roundw
                case rel => exact ⟨q + 1, by go_num, by omega, hbq.trans (hb'.mono hbq.size)⟩
                case measure => simp [intOf]; omega
              · go_wp2_with fail
                go_ret
                exact ⟨_, rfl, HB1.trans ((hbt.mono (by omega)).trans (hb'.mono (by have := hbt.size; omega)))⟩
            · go_wp2_with fail
              go_roundw
              case rel => exact ⟨len, rfl, .inr rfl, by omega, by omega, hbt⟩
              case measure => simp [intOf]
          · go_wp2_with fail
            go_roundw
            case rel => exact ⟨len, rfl, .inr rfl, by omega, by omega, hbt⟩
            case measure => simp [intOf]
    · go_wp2_with fail
      go_ret
      exact ⟨_, rfl, HB1.trans (hbr.mono (by omega))⟩
end Go.Proofs.YtdfkgbgpfbhmbaaGreatDoor
