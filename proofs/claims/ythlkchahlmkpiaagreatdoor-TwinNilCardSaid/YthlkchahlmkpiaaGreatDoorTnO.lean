/-
  Alike and Parted over a great row of turns, and errors.As, as hooks: walked by hand.
-/
import Derived.Test.YthlkchahlmkpiaaGreatDoorTnZ
import Derived.Test.YthlkchahlmkpiaaGreatDoorTnA0
import Derived.Test.YthlkchahlmkpiaaGreatDoorTnB0
namespace Go.AE
def allNone : List (Nat × Option AObj) → Bool
  | [] => true
  | (_, none) :: l => allNone l
  | (_, some _) :: _ => false
theorem allNone_all : ∀ {l : List (Nat × Option AObj)}, allNone l = true → ∀ n o, (n, o) ∈ l → o = none
  | [], _, n, o, h => by simp at h
  | (m, none) :: l, hp, n, o, h => by
    rcases List.mem_cons.1 h with h | h
    · cases h; rfl
    · exact allNone_all (l := l) hp n o h
  | (m, some x) :: l, hp, n, o, h => by simp [allNone] at hp
theorem postNew {h : Hook} {a k : Nat} (h1 : allNone h.post = true) (h2 : postIn a k (preW h) h.post = true) : ∀ n o, (n, o) ∈ h.post → o = none ∧ hasName n h.pre = false := by
  intro n o hm
  refine ⟨allNone_all h1 n o hm, ?_⟩
  cases e : hasName n h.pre with
  | false => rfl
  | true =>
    obtain ⟨o', ho'⟩ := hasName_iff e
    have := (postIn_all h2 n o hm).2.2
    exact absurd this (raw_applyW_mem _ _ _ n (some o') (List.mem_map.2 ⟨(n, o'), ho', rfl⟩))
theorem freeIn_of {h : Hook} {θ : Th} {G : Hp} {a k : Nat} {l : List (Nat × Option AObj)} (e : h.post = gone a k ++ l) (hfree : ∀ n o, (n, o) ∈ h.post → Free θ G n) (top : Lay) : FreeIn θ G top a k :=
  fun n h1 h2 _ => hfree n none (by rw [e]; exact List.mem_append_left _ (mem_gone h1 h2))
theorem HR.at {B : Nat → Prop} {w0 w : World} {θ : Th} {G : Hp} (h : HR B w0 θ G w) {n b d r : Nat} {l : List AV} {t : TypeId} {m : Option Nat} (hn : G n = some (.cells l t m)) (ha : θ.addr n = some (b, d, r)) {i : Nat} {v : AV} (hv : l[i]? = some v) :
    ∃ y, w.cell? ⟨b, d + i, none⟩ = some y ∧ VR θ v y := by
  obtain ⟨b', d', r', x, a, _, hx, cs, e, lo, hi', rfl, _, _, _, hc⟩ := h.obj n _ hn
  rw [ha] at a; cases a
  obtain ⟨y, hy, hvr⟩ := hc i v hv
  exact ⟨y, by simp [World.cell?, hx, hy], hvr⟩
end Go.AE
namespace Go.Proofs.YthlkchahlmkpiaaGreatDoor
open Go Go.RowKit Go.AE
set_option maxRecDepth 1000000
def h0 : Hook := ⟨9, 108, [.ptr 106 0, .ptr 106 0, .sl 107 0 65537 2 (some 65537)], [(106, .cells [.ptr 82 0, .ptr 92 0, .sl 99 0 1 4 none, .sl 105 0 1 4 none, .sl0] 30 none), (82, .cells [.sl 75 0 1 1 none, .sl 77 0 2 1 none, .map 80, .map 81, .int .i64 (.ofNat 0), .sl 79 0 2 1 none] 62 none), (75, .cells [.int .i64 (.ofNat 0)] 22 none), (77, .cells [.bool false, .bool false] 4 none), (80, .map [] 0), (81, .map [] 0), (79, .cells [.int .i64 (.ofNat 0), .int .i64 (.ofNat 0)] 3 none), (92, .cells [.sl 85 0 1 1 none, .sl 87 0 2 1 none, .map 90, .map 91, .int .i64 (.ofNat 0), .sl 89 0 2 1 none] 62 none), (85, .cells [.int .i64 (.ofNat 0)] 22 none), (87, .cells [.bool false, .bool false] 4 none), (90, .map [] 0), (91, .map [] 0), (89, .cells [.int .i64 (.ofNat 0), .int .i64 (.ofNat 0)] 3 none), (99, .cells [.int .i64 (.ofNat 0), .sl0, .sl0, .sl0] 52 none), (105, .cells [.int .i64 (.ofNat 0), .sl0, .sl0, .sl0] 52 none), (107, .fill 131074 (.int .i64 (.ofNat 0)) 24)], gone 108 10 ++ ([]), .tup [.int .i64 (.ofNat 0), .int .i64 (.ofNat 0), .bool false, .int .i64 (.ofNat 4)], 118⟩
def h1 : Hook := ⟨10, 119, [.ptr 106 0, .int .i64 (.ofNat 1), .int .i64 (.ofNat 0), .sl 118 0 65537 2 (some 65537)], [(106, .cells [.ptr 82 0, .ptr 92 0, .sl 99 0 1 4 none, .sl 105 0 1 4 none, .sl0] 30 none), (82, .cells [.sl 75 0 1 1 none, .sl 77 0 2 1 none, .map 80, .map 81, .int .i64 (.ofNat 0), .sl 79 0 2 1 none] 62 none), (75, .cells [.int .i64 (.ofNat 0)] 22 none), (77, .cells [.bool false, .bool false] 4 none), (80, .map [] 0), (81, .map [] 0), (79, .cells [.int .i64 (.ofNat 0), .int .i64 (.ofNat 0)] 3 none), (92, .cells [.sl 85 0 1 1 none, .sl 87 0 2 1 none, .map 90, .map 91, .int .i64 (.ofNat 0), .sl 89 0 2 1 none] 62 none), (85, .cells [.int .i64 (.ofNat 0)] 22 none), (87, .cells [.bool false, .bool false] 4 none), (90, .map [] 0), (91, .map [] 0), (89, .cells [.int .i64 (.ofNat 0), .int .i64 (.ofNat 0)] 3 none), (99, .cells [.int .i64 (.ofNat 0), .sl0, .sl0, .sl0] 52 none), (105, .cells [.int .i64 (.ofNat 0), .sl0, .sl0, .sl0] 52 none), (118, .fill 131074 (.int .i64 (.ofNat 0)) 24)], gone 119 19 ++ ([]), .tup [.int .i64 (.ofNat 0), .int .i64 (.ofNat 0), .bool false, .int .i64 (.ofNat 4)], 138⟩
def h87 : Hook := ⟨257, 9535, [.ifc 446 (.ptr 9530 0), .ifc 332 (.ptr 9534 0)], [(9534, .cells [.if0] 330 none)], [(9534, some (.cells [.ifc 446 (.ptr 9530 0)] 330 none))], .bool true, 9535⟩

theorem zeros_of {n : Nat} {B : Nat → Prop} {w0 : World} {θ : Th} {G : Hp} {lb ld lr : Nat} (hg : G n = some (.fill 131074 (.int .i64 (.ofNat 0)) 24)) (ha : θ.addr n = some (lb, ld, lr)) : Zeros B w0 θ G lb ld := by
  intro w' hr' i hi
  obtain ⟨y, hy, hv⟩ := hr'.fill hg ha hi
  simp only [VR] at hv
  rw [hy, hv]; rfl

theorem alike_ok : HookOK Tryz.prog h0 := hook_of_calls (postNew (a := 108) (k := 10) (by kernel_rfl) (by kernel_rfl)) (by
  intro B w0 θ G w xs hr hpre hfree hargs
  have ag : Agree G (preW h0) := agree_pre hpre
  have fr : FreeIn θ G (preW h0) 108 10 := freeIn_of (l := []) rfl hfree _
  have hz : G 107 = some (.fill 131074 (.int .i64 (.ofNat 0)) 24) := ag 107 _ (by kernel_rfl)
  simp only [h0, VRL, VR] at hargs
  obtain ⟨_, _, hx, ⟨b, d, r, ha, rfl⟩, _, _, rfl, ⟨b2, d2, r2, ha2, rfl⟩, _, _, rfl, ⟨lb, ld, lr, lc, hal, rfl, hcap, _, _⟩, rfl⟩ := hargs
  rw [ha] at ha2; cases ha2
  obtain rfl := hcap _ rfl
  obtain rfl : xs = #[.pointer (some ⟨b, d + 0, none⟩), .pointer (some ⟨b, d + 0, none⟩), .slice (some ⟨lb, ld + 0, none⟩) 65537 65537] := Array.toList_inj.1 hx
  have hp : VR θ (.ptr 106 0) (.pointer (some ⟨b, d + 0, none⟩)) := by simp only [VR]; exact ⟨b, d, r, ha, rfl⟩
  have hW : Pure B w0 θ G 18 #[.pointer (some ⟨b, d + 0, none⟩)] fun y => ∃ a, y = .pointer (some a) :=
    fun w hr => pure_of (h := TnA.h0) TnA.h0_ok (by kernel_rfl) (a := 108) (k := 10) (top := preW h0) (by kernel_rfl) (by kernel_rfl) ag fr (by simp only [TnA.h0, VRL]; exact ⟨_, _, rfl, hp, rfl⟩)
      (fun θ' y _ hy => by simp only [TnA.h0, VR] at hy; obtain ⟨_, _, _, _, rfl⟩ := hy; exact ⟨_, rfl⟩) w hr
  have hS : Pure B w0 θ G 29 #[.pointer (some ⟨b, d + 0, none⟩)] fun y => ∃ a c, y = .slice (some a) 1 c :=
    fun w hr => pure_of (h := TnA.h1) TnA.h1_ok (by kernel_rfl) (a := 108) (k := 10) (top := preW h0) (by kernel_rfl) (by kernel_rfl) ag fr (by simp only [TnA.h1, VRL]; exact ⟨_, _, rfl, hp, rfl⟩)
      (fun θ' y _ hy => by simp only [TnA.h1, VR] at hy; obtain ⟨_, _, _, _, _, rfl, _⟩ := hy; exact ⟨_, _, rfl⟩) w hr
  have hM : Pure B w0 θ G 28 #[.pointer (some ⟨b, d + 0, none⟩), .agg #[.int .i64 0, .int .i64 0]] fun y => y = .bool true :=
    fun w hr => pure_of (h := TnA.h2) TnA.h2_ok (by kernel_rfl) (a := 108) (k := 10) (top := preW h0) (by kernel_rfl) (by kernel_rfl) ag fr (by simp only [TnA.h2, VRL]; exact ⟨_, _, rfl, hp, _, _, rfl, by simp [VR, VRL], rfl⟩)
      (fun θ' y _ hy => by simpa only [TnA.h2, VR] using hy) w hr
  refine (alike_long hr hW hS hM (zeros_of hz hal)).mono ?_
  rintro e w' ⟨rfl, hr'⟩
  exact ⟨_, rfl, by simp [h0, VR, VRL], hr'⟩)

abbrev top1 : Lay := applyW TnB.h0.post (preW h1)
abbrev top2 : Lay := applyW TnB.h1.post top1
abbrev top3 : Lay := applyW TnB.h3.post top2
theorem zero_t : (Value.agg #[.int .i64 0, .int .i64 0]) = .agg #[.int .i64 (.ofNat 0), .int .i64 (.ofNat 0)] := rfl

theorem parted_ok : HookOK Tryz.prog h1 := hook_of_calls (postNew (a := 119) (k := 19) (by kernel_rfl) (by kernel_rfl)) (by
  intro B w0 θ G w xs hr hpre hfree hargs
  have ag : Agree G (preW h1) := agree_pre hpre
  have fr : FreeIn θ G (preW h1) 119 19 := freeIn_of (l := []) rfl hfree _
  simp only [h1, VRL, VR] at hargs
  obtain ⟨_, _, hx, ⟨b, d, r, ha, rfl⟩, _, _, rfl, rfl, _, _, rfl, rfl, _, _, rfl, ⟨lb, ld, lr, lc, hal, rfl, hcap, _, _⟩, rfl⟩ := hargs
  obtain rfl := hcap _ rfl
  obtain rfl : xs = #[.pointer (some ⟨b, d + 0, none⟩), .int .i64 1, .int .i64 0, .slice (some ⟨lb, ld + 0, none⟩) 65537 65537] := Array.toList_inj.1 hx
  have hp : VR θ (.ptr 106 0) (.pointer (some ⟨b, d + 0, none⟩)) := by simp only [VR]; exact ⟨b, d, r, ha, rfl⟩
  have hW : ∀ (B1 : Nat → Prop) (w1 : World), HR B1 w1 θ G w1 → Grow B1 w1 θ G 18 #[.pointer (some ⟨b, d + 0, none⟩)] (R1 B1 w1 (.pointer (some ⟨b, d + 0, none⟩)) lb ld) := by
    intro B1 wb _ w1 hr1
    refine (grow_of (h := TnB.h0) TnB.h0_ok (by kernel_rfl) (a := 119) (k := 19) (top := preW h1) (by kernel_rfl) (by kernel_rfl) ag fr (by simp only [TnB.h0, VRL]; exact ⟨_, _, rfl, hp, rfl⟩) w1 hr1).mono ?_
    rintro e w2 ⟨y1, θ1, G1, rfl, hle1, hG1, hr2, hy1, ag1, fr1⟩
    refine ⟨y1, θ1, G1, rfl, hle1, hG1, hr2, ?_⟩
    intro w3 hr3
    refine (grow_of (h := TnB.h1) TnB.h1_ok (by kernel_rfl) (a := 119) (k := 19) (top := top1) (by kernel_rfl) (by kernel_rfl) ag1 fr1 (by simp only [TnB.h1, VRL]; exact ⟨_, _, rfl, hy1, _, _, rfl, by simp [VR], _, _, rfl, by simp [VR], rfl⟩) w3 hr3).mono ?_
    rintro e w4 ⟨y2, θ2, G2, rfl, hle2, hG2, hr4, hy2, ag2, fr2⟩
    refine ⟨y2, θ2, G2, rfl, hle2, hG2, hr4, ?_⟩
    have hp2 := VR.mono (hle1.trans hle2) _ _ hp
    have hal2 := (hle1.trans hle2).addr _ _ hal
    have hz2 : G2 118 = some (.fill 131074 (.int .i64 (.ofNat 0)) 24) := ag2 118 _ (by kernel_rfl)
    have hy2' : VR θ2 (.tup [.sl 130 0 1 1 none, .int .i64 (.ofNat 0)]) y2 := hy2
    simp only [VR, VRL] at hy2'
    obtain ⟨ys, rfl, s, l, hys, hs, _, _, rfl, rfl, rfl⟩ := hy2'
    obtain rfl : ys = #[s, .int .i64 0] := Array.toList_inj.1 hys
    have hs' : VR θ2 (.sl 130 0 1 1 none) s := by simp only [VR]; exact hs
    refine ⟨s, rfl, ?_, zeros_of hz2 hal2, ?_⟩
    · exact fun w hr => pure_of (h := TnB.h2) TnB.h2_ok (by kernel_rfl) (a := 119) (k := 19) (top := top2) (by kernel_rfl) (by kernel_rfl) ag2 fr2 (by simp only [TnB.h2, VRL]; exact ⟨_, _, rfl, hp2, _, _, rfl, by simp [VR, VRL], rfl⟩)
        (fun θ' y _ hy => by simpa only [TnB.h2, VR] using hy) w hr
    · intro w5 hr5
      refine (grow_of (h := TnB.h3) TnB.h3_ok (by kernel_rfl) (a := 119) (k := 19) (top := top2) (by kernel_rfl) (by kernel_rfl) ag2 fr2 (by simp only [TnB.h3, VRL]; exact ⟨_, _, rfl, hp2, rfl⟩) w5 hr5).mono ?_
      rintro e w6 ⟨y3, θ3, G3, rfl, hle3, hG3, hr6, hy3, ag3, fr3⟩
      refine ⟨y3, θ3, G3, rfl, hle3, hG3, hr6, ?_⟩
      have hy3' : VR θ3 (.sl 136 0 1 4 none) y3 := hy3
      simp only [VR] at hy3'
      obtain ⟨ob, od, or, oc, hoa, rfl, _, _, _⟩ := hy3'
      have ho : G3 136 = some (.cells [.int .i64 (.ofNat 0), .sl0, .sl0, .sl0] 52 none) := ag3 136 _ (by kernel_rfl)
      have hz3 : G3 118 = some (.fill 131074 (.int .i64 (.ofNat 0)) 24) := ag3 118 _ (by kernel_rfl)
      refine ⟨ob, od + 0, oc, rfl, ?_, ?_, zeros_of hz3 (hle3.addr _ _ hal2)⟩
      · intro w7 hr7
        obtain ⟨y, hy, hv⟩ := hr7.at ho hoa (i := 0) rfl
        simp only [VR] at hv
        rw [hy, hv]; rfl
      · exact fun w hr => pure_of (h := TnB.h4) TnB.h4_ok (by kernel_rfl) (a := 119) (k := 19) (top := top3) (by kernel_rfl) (by kernel_rfl) ag3 fr3 (by simp only [TnB.h4, VRL]; exact ⟨_, _, rfl, VR.mono hle3 _ _ hs', _, _, rfl, by simp [VR], rfl⟩)
          (fun θ' y _ hy => by simpa only [TnB.h4, VR] using hy) w hr
  refine (parted_long hr hW).mono ?_
  rintro e w' ⟨rfl, hr'⟩
  exact ⟨_, rfl, by simp [h1, VR, VRL], hr'⟩)
end Go.Proofs.YthlkchahlmkpiaaGreatDoor
