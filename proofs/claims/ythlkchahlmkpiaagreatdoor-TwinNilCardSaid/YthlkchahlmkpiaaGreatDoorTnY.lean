/-
  twin.Turns over a great row of turns: all of them are the half's.
-/
import Derived.Test.YthlkchahlmkpiaaGreatDoorTnX
namespace Go.Proofs.YthlkchahlmkpiaaGreatDoor
open Go Go.RowKit Go.AE

/-- A call that finds out more names. -/
def Grow (B : Nat → Prop) (w0 : World) (θ : Th) (G : Hp) (f : FuncId) (xs : Array Value) (R : Th → Hp → Value → Prop) : Prop :=
  ∀ w, HR B w0 θ G w → Calls Tryz.prog f xs w fun e w' => ∃ y θ' G', e = .returned y ∧ θ.Le θ' ∧ (∀ n o, G n = some o → G' n = some o) ∧ HR B w0 θ' G' w' ∧ R θ' G' y
def Zeros (B : Nat → Prop) (w0 : World) (θ : Th) (G : Hp) (lb ld : Nat) : Prop := ∀ w', HR B w0 θ G w' → ∀ i, i < 131074 → w'.cell? ⟨lb, ld + i, none⟩ = some (.int .i64 0)
structure R3 (B : Nat → Prop) (w0 : World) (lb ld : Nat) (s : Value) (b d : Nat) (θ : Th) (G : Hp) : Prop where
  side : ∀ w, HR B w0 θ G w → w.cell? ⟨b, d, none⟩ = some (.int .i64 0)
  has : Pure B w0 θ G 25 #[s, .int .i64 0] fun y => y = .bool true
  zeros : Zeros B w0 θ G lb ld
structure R2' (B : Nat → Prop) (w0 : World) (p : Value) (lb ld : Nat) (s : Value) (θ : Th) (G : Hp) : Prop where
  may : Pure B w0 θ G 28 #[p, .agg #[.int .i64 0, .int .i64 0]] fun y => y = .bool true
  zeros : Zeros B w0 θ G lb ld
  own : Grow B w0 θ G 29 #[p] fun θ3 G3 y3 => ∃ b d c, y3 = .slice (some ⟨b, d, none⟩) 1 c ∧ R3 B w0 lb ld s b d θ3 G3
def R2 (B : Nat → Prop) (w0 : World) (p : Value) (lb ld : Nat) (θ : Th) (G : Hp) (y : Value) : Prop := ∃ s, y = .tuple #[s, .int .i64 0] ∧ R2' B w0 p lb ld s θ G
def R1 (B : Nat → Prop) (w0 : World) (p : Value) (lb ld : Nat) (θ : Th) (G : Hp) (y : Value) : Prop := Grow B w0 θ G 11 #[y, .int .i64 1, .int .i64 0] (R2 B w0 p lb ld)

theorem boxed {B : Nat → Prop} {w0 w : World} {θ : Th} {G : Hp} (hr : HR B w0 θ G w) {i : Nat} (hi : B i) {v : Value} {t : TypeId} {d : Nat × Nat} (h : w0.heap[i]? = some (.cells #[v] t d)) : w.cell? ⟨i, 0, none⟩ = some v := by
  simp [World.cell?, hr.base.old i hi, h]

set_option maxHeartbeats 2000000 in
set_option maxRecDepth 1000000 in
theorem turns_long {B : Nat → Prop} {w0 : World} {θ : Th} {G : Hp} {pa : Addr} {lb ld : Nat} {w : World} (h : HR B w0 θ G w)
    (hW : ∀ (B1 : Nat → Prop) (w1 : World), HR B1 w1 θ G w1 → Grow B1 w1 θ G 18 #[.pointer (some pa)] (R1 B1 w1 (.pointer (some pa)) lb ld)) :
    Calls Tryz.prog 8 #[.pointer (some pa), .int .i64 1, .int .i64 0, .slice (some ⟨lb, ld, none⟩) 65537 65537] w fun e w' => ∃ m, e = .returned (.tuple #[m, .int .i64 0]) ∧ HR B w0 θ G w' := by
  have hu := h.under
  obtain ⟨wb, hwb⟩ : ∃ wb, wb = w.alloc (.cells #[.pointer (some pa)] 25) := ⟨_, rfl⟩
  have hb0 : HR B w0 θ G wb := by rw [hwb]; exact h.keep hu ((Below.refl _ _).alloc (Nat.le_refl _) _)
  have hb : HR (Unk θ G wb) wb θ G wb := hb0.unk
  have hB : Unk θ G wb w.heap.size := ⟨by rw [hwb]; simp, fun n o b d r e a => by have := hu.known n o b d r e a; omega⟩
  have hbox : wb.heap[w.heap.size]? = some (.cells #[.pointer (some pa)] 25 (0, 0)) := by rw [hwb]; exact heap_alloc_new w _
  have HW := Lib.hid (hW _ wb hb)
  obtain ⟨B1, hB1⟩ : ∃ B1, B1 = Unk θ G wb := ⟨_, rfl⟩
  rw [← hB1] at hb hB HW
  have HX := Lib.hid hbox
  have HB := Lib.hid hB
  have p0 := boxed hb hB hbox
  have HB0 := Lib.hid hb0
  have HBB := Lib.hid hb
  have HB1 := Lib.hid hB1
  have HWB := Lib.hid hwb
  rw [hwb] at p0
  clear h hu hb0 hb hB hbox hW hB1 hwb
  go_enter Tryz.func8, Tryz.ntmps8
  go_wp2_with fail
  rw [← HWB.out]
  refine (HW.out _ HBB.out).mono ?_
  rintro e w1 ⟨y1, θ1, G1, rfl, hle1, hG1, hr1, hR1⟩
  have HL1 := Lib.hid hle1
  have HG1 := Lib.hid hG1
  have HR1 := Lib.hid hr1
  have HRR1 := Lib.hid hR1
  clear hle1 hG1 hr1 hR1 p0
  go_wp2_with fail
  refine (HRR1.out _ HR1.out).mono ?_
  rintro e w2 ⟨_, θ2, G2, rfl, hle2, hG2, hr2, s, rfl, hR2⟩
  have p2 := boxed hr2 HB.out HX.out
  have HL2 := Lib.hid (HL1.out.trans hle2)
  have HG2 : Hid (∀ n o, G n = some o → G2 n = some o) := Lib.hid fun n o e => hG2 n o (HG1.out n o e)
  have HR2 := Lib.hid hr2
  have HRR2 := Lib.hid hR2
  clear hle2 hG2 hr2 hR2 HL1 HG1
  go_wp2_with fail
  refine (contains_long HR2.out HRR2.out.may (fun w' hr' => boxed hr' HB.out HX.out) HRR2.out.zeros).mono ?_
  rintro e w3 ⟨rfl, hr3⟩
  have p3 := boxed hr3 HB.out HX.out
  have HR3 := Lib.hid hr3
  clear p2 hr3
  go_wp2_with fail
  refine (HRR2.out.own _ HR3.out).mono ?_
  rintro e w4 ⟨_, θ3, G3, rfl, hle3, hG3, hr4, ob, od, oc, rfl, hR3⟩
  have HL3 := Lib.hid (HL2.out.trans hle3)
  have HG3 : Hid (∀ n o, G n = some o → G3 n = some o) := Lib.hid fun n o e => hG3 n o (HG2.out n o e)
  have HRR3 := Lib.hid hR3
  have hu := hr4.under
  have HR4 := Lib.hid hr4
  clear hle3 hG3 hr4 hR3 p3 HL2 HG2 HRR2 HR3 HR2 HRR1 HR1 HW
  obtain ⟨W, hWW⟩ : ∃ W, W = w4.heap.size := ⟨_, rfl⟩
  rw [← hWW] at hu
  have HSZ4 : Hid (W ≤ w4.heap.size) := Lib.hid (Nat.le_of_eq hWW)
  have HU := Lib.hid hu
  clear hWW hu
  go_wp2_with fail
  go_loopw [34, 13] (fun i v wr => ∃ k : Nat, i = .int .i64 k ∧ k ≤ 65537 ∧ HR B1 wb θ3 G3 wr ∧ W ≤ wr.heap.size ∧ RowAt W v k wr) (fun i _ _ => 65537 - (intOf i).toNat)
  case atStart => exact ⟨0, rfl, Nat.zero_le _, HR4.out, HSZ4.out, World.ownsRow_nil _ _ _ _⟩
  case round =>
    obtain ⟨k, rfl, hk, hr, hsz, hown⟩ := hrel
    have HO := Lib.hid hown
    have HR' := Lib.hid hr
    have HSZ := Lib.hid hsz
    clear hown hsz
    by_cases hk2 : k < 65537
    · have c0 := HRR3.out.zeros _ hr (k * 2) (by omega)
      have c1 : _ = _ := (Nat.add_assoc ld (k * 2) 1).symm ▸ HRR3.out.zeros _ hr (k * 2 + 1) (by omega)
      have s0 := HRR3.out.side _ (HR'.out.keep HU.out ((Below.refl _ _).alloc HSZ.out (.cells #[.int .i64 0, .int .i64 0] 24)))
      clear hr
      go_wp2_with fail
      refine (HRR3.out.has _ (HR'.out.keep HU.out ((Below.refl _ _).alloc HSZ.out _))).mono ?_
      rintro e w5 ⟨_, rfl, rfl, hr5, hb5⟩
      have ht := hb5.above HU.out HSZ.out (by simp)
      rw [heap_alloc_new] at ht
      obtain ⟨d0, d1⟩ := two_zeros w5 _ 24 _ ht.1
      have HO5 := Lib.hid (ownsRow_pure HU.out hb5 (World.ownsRow.alloc HO.out _))
      have HB5 := Lib.hid (hr5.grows hb5)
      have HR5 := Lib.hid hr5
      clear hr5 hb5 ht c0 c1 s0
      obtain ⟨i0, hi, hz0, hz1, hz2⟩ := info_parts info24
      have HI := Lib.hid hi
      have HZ0 := Lib.hid hz0
      have HZ1 := Lib.hid hz1
      have HZ2 := Lib.hid hz2
      clear hi hz0 hz1 hz2
      have HBS : Hid (∀ o : Obj, W ≤ (w5.alloc o).heap.size) := Lib.hid (by intro o; have h1 := HB5.out; have h2 := HSZ.out; simp at h1 ⊢; omega)
      go_wp2_with (at_builtin; refine wpList_append_own _ rfl (.tmp 51) (.tmp 53) 39 rfl W 24 i0 (.agg #[.int .i64 0, .int .i64 0]) 2 16 Tryz.underlying39 HI.out HZ0.out HZ1.out HZ2.out rfl (by decide) _ _ _ rfl (World.ownsRow.alloc HO5.out _) ⟨_, 0, none⟩ 1 1 [.int .i64 0, .int .i64 0] rfl rfl (news_two _) news_one (by unfold maxLen; omega) (by omega) (HBS.out _) ?_; intro v1 w6 hown1 hgrow1 hnil1; clear hnil1; have HOWN := Lib.hid hown1; have HGR := Lib.hid hgrow1; clear hown1 hgrow1)
      go_roundw
      case rel => exact ⟨k + 1, by go_num, by omega, HR5.out.keep HU.out (((Below.refl _ _).alloc (Nat.le_trans HSZ.out (Nat.le_trans (by simp) HB5.out)) _).grown HGR.out (HBS.out _) (fun j hj => (HO5.out.lt j hj).1)),
        Nat.le_trans (HBS.out _) HGR.out.size, by rw [RowAt, ← row_snoc]; exact HOWN.out⟩
      case measure => simp [intOf]; omega
    · go_wp2_with fail
      exact bodyPost_ret (v := .tuple #[u13, .int .i64 0]) (by simp [results, Tryz.results8, go_sem]) rfl ⟨_, rfl, HB0.out.anti HL3.out HR'.out HG3.out (HB0.out.rebase (by have := HR'.out.base; rw [HB1.out] at this; exact this))⟩
end Go.Proofs.YthlkchahlmkpiaaGreatDoor
