/-
  errors.As at an interface target: the walk, and the hook.
-/
import Derived.Test.YthlkchahlmkpiaaGreatDoorTnP
namespace Go.Proofs.YthlkchahlmkpiaaGreatDoor
open Go.RowKit Go.Extern.Stop Go.Stop Go.Extern

set_option maxHeartbeats 4000000 in
set_option maxRecDepth 1000000 in
theorem as_hit (e t : Addr) (old : Value) (w : World) (ht0 : w.cell? t = some old) (hf0 : w.frozen? t = false) :
    Calls Tryz.prog 257 #[.iface 446 (.pointer (some e)), .iface 332 (.pointer (some t))] w fun ev w' => ev = .returned (.bool true) ∧ w' = ((((w.alloc (.cells #[.pointer (some t)] 332)).alloc (.cells #[.pointer (some ⟨4, 332, none⟩), .pointer (some ⟨w.heap.size, 0, none⟩), .int .u64 150] 348)).alloc (.cells #[.pointer (some ⟨4, 332, none⟩), .pointer (some ⟨w.heap.size, 0, none⟩), .int .u64 150] 348)).alloc (.cells #[.pointer (some e)] 446)).setCell t (.iface 446 (.pointer (some e))) := by
  have h6 := @run_callFunc_extern Tryz.prog 272 _ (fun args => ReflectliteValue.unpack (args.getD 0 (.tuple #[]))) Tryz.func272 (by kernel_rfl) (by kernel_rfl) (by kernel_rfl) (by kernel_rfl)
  have h7 := @run_callFunc_extern Tryz.prog 273 _ (ReflectliteValue.methodAny (ReflectliteValue.valueError "reflectlite.Value.Type" 0) (fun t _ _ _ => ReflectliteType.toType t)) Tryz.func273 (by kernel_rfl) (by kernel_rfl) (by kernel_rfl) (by kernel_rfl)
  have h8 := @run_callFunc_extern Tryz.prog 274 _ (ReflectliteValue.method (ReflectliteValue.valueError "reflectlite.Value.IsNil" 0) ReflectliteValue.isNil) Tryz.func274 (by kernel_rfl) (by kernel_rfl) (by kernel_rfl) (by kernel_rfl)
  have h27 := @run_callFunc_extern Tryz.prog 414 _ (ReflectliteType.abiMethod fun t => do pure (.int .u8 (← Rtype.kind t))) Tryz.func414 (by kernel_rfl) (by kernel_rfl) (by kernel_rfl) (by kernel_rfl)
  have h37 := @run_callFunc_extern Tryz.prog 426 _ (ReflectliteType.method ReflectliteType.elem) Tryz.func426 (by kernel_rfl) (by kernel_rfl) (by kernel_rfl) (by kernel_rfl)
  have h10 := @run_callFunc_extern Tryz.prog 299 _ ReflectliteType.typeOf Tryz.func299 (by kernel_rfl) (by kernel_rfl) (by kernel_rfl) (by kernel_rfl)
  have h35 := @run_callFunc_extern Tryz.prog 424 _ (ReflectliteType.relation "AssignableTo" ReflectliteType.assignableTo) Tryz.func424 (by kernel_rfl) (by kernel_rfl) (by kernel_rfl) (by kernel_rfl)
  have h11 := @run_callFunc_extern Tryz.prog 300 _ (ReflectliteValue.method (ReflectliteValue.valueError "reflectlite.Value.Elem" 0) ReflectliteValue.elem) Tryz.func300 (by kernel_rfl) (by kernel_rfl) (by kernel_rfl) (by kernel_rfl)
  have h12 := @run_callFunc_extern Tryz.prog 301 _ ReflectliteValue.set Tryz.func301 (by kernel_rfl) (by kernel_rfl) (by kernel_rfl) (by kernel_rfl)
  have tO := As.typeOf446
  have mA := As.methodAssignableTo
  have a25 := As.assignable
  have v25 := As.valueOf446
  have f6 := As.valueOf332
  have f7 := As.type332
  have mK := As.methodKind
  have mE := As.methodElem
  have k27 := As.kind332
  have k25 := As.kind330
  have e27 := As.elem332
  have n8 := As.isNil332 ⟨w.heap.size, 0, none⟩ t ((w.alloc (.cells #[.pointer (some t)] 332)).alloc (.cells #[.pointer (some ⟨4, 332, none⟩), .pointer (some ⟨w.heap.size, 0, none⟩), .int .u64 150] 348)) (by simp)
  have htl : t.block < w.heap.size := by
    rcases Nat.lt_or_ge t.block w.heap.size with h | h
    · exact h
    · simp [World.cell?, Array.getElem?_eq_none h] at ht0
  have el := As.elemV332 ⟨w.heap.size, 0, none⟩ t (((w.alloc (.cells #[.pointer (some t)] 332)).alloc (.cells #[.pointer (some ⟨4, 332, none⟩), .pointer (some ⟨w.heap.size, 0, none⟩), .int .u64 150] 348)).alloc (.cells #[.pointer (some ⟨4, 332, none⟩), .pointer (some ⟨w.heap.size, 0, none⟩), .int .u64 150] 348)) (by rw [World.cell?_alloc_lt _ _ ⟨w.heap.size, 0, none⟩ (by simp; omega)]; simp)
  have st := As.set330 t ⟨w.heap.size + 1 + 1 + 1, 0, none⟩ e old ((((w.alloc (.cells #[.pointer (some t)] 332)).alloc (.cells #[.pointer (some ⟨4, 332, none⟩), .pointer (some ⟨w.heap.size, 0, none⟩), .int .u64 150] 348)).alloc (.cells #[.pointer (some ⟨4, 332, none⟩), .pointer (some ⟨w.heap.size, 0, none⟩), .int .u64 150] 348)).alloc (.cells #[.pointer (some e)] 446))
    (by rw [World.cell?_alloc_at _ _ _ _ (by simp)]; rfl)
    (by rw [World.cell?_alloc_lt _ _ t (by simp; omega), World.cell?_alloc_lt _ _ t (by simp; omega), World.cell?_alloc_lt _ _ t (by simp; omega), World.cell?_alloc_lt _ _ t htl]; exact ht0)
    (by rw [World.frozen?_alloc_old _ _ t (by simp; omega), World.frozen?_alloc_old _ _ t (by simp; omega), World.frozen?_alloc_old _ _ t (by simp; omega), World.frozen?_alloc_old _ _ t (Nat.ne_of_lt htl)]; exact hf0)
  clear ht0 hf0 htl
  go_enter Tryz.func257, Tryz.ntmps257
  go_wp2
  refine wp_loop_rounds 1 ?_
  rw [rounds_succ]
  go_wp2
  go_ret
  exact ⟨rfl, rfl⟩
end Go.Proofs.YthlkchahlmkpiaaGreatDoor
namespace Go.Proofs.YthlkchahlmkpiaaGreatDoor
open Go Go.RowKit Go.AE
theorem as_ok : HookOK Tryz.prog h87 := hook_of_calls2 (by
  intro B w0 θ G w xs hr hpre _ hargs
  have hg : G 9534 = some (.cells [.if0] 330 none) := agree_pre (h := h87) hpre 9534 _ (by kernel_rfl)
  simp only [h87, VRL, VR] at hargs
  obtain ⟨_, _, hx, ⟨_, rfl, b1, d1, r1, ha1, rfl⟩, _, _, rfl, ⟨_, rfl, b, d, r, ha, rfl⟩, rfl⟩ := hargs
  obtain rfl : xs = #[.iface 446 (.pointer (some ⟨b1, d1 + 0, none⟩)), .iface 332 (.pointer (some ⟨b, d + 0, none⟩))] := Array.toList_inj.1 hx
  obtain ⟨b', d', r', x, a', _, hxb, cs, e, lo, hi, rfl, hcs, hlen, hfz, hc⟩ := hr.obj 9534 _ hg
  rw [ha] at a'; cases a'
  obtain ⟨y, hy, hyv⟩ := hc 0 _ rfl
  have hlt : d + 0 < cs.size := by
    rcases Nat.lt_or_ge (d + 0) cs.size with h | h
    · exact h
    · rw [Array.getElem?_eq_none h] at hy; cases hy
  have ht0 : w.cell? ⟨b, d + 0, none⟩ = some y := by simp [World.cell?, hxb]; simpa using hy
  have hf0 : w.frozen? ⟨b, d + 0, none⟩ = false := by
    simp only [World.frozen?, hxb]
    have : ¬ (lo ≤ d + 0 ∧ d + 0 < hi) := by rintro ⟨h1, h2⟩; omega
    simp; omega
  refine (as_hit ⟨b1, d1 + 0, none⟩ ⟨b, d + 0, none⟩ y w ht0 hf0).mono ?_
  rintro ev w' ⟨rfl, rfl⟩
  refine ⟨_, rfl, by simp [h87, VR], ?_⟩
  obtain ⟨w4, h4⟩ : ∃ w4, w4 = (((w.alloc (.cells #[.pointer (some ⟨b, d + 0, none⟩)] 332)).alloc (.cells #[.pointer (some ⟨4, 332, none⟩), .pointer (some ⟨w.heap.size, 0, none⟩), .int .u64 150] 348)).alloc (.cells #[.pointer (some ⟨4, 332, none⟩), .pointer (some ⟨w.heap.size, 0, none⟩), .int .u64 150] 348)).alloc (.cells #[.pointer (some ⟨b1, d1 + 0, none⟩)] 446) := ⟨_, rfl⟩
  rw [← h4]
  have hb : Below w.heap.size w w4 := by
    rw [h4]; exact ((((Below.refl _ _).alloc (Nat.le_refl _) _).alloc (by simp) _).alloc (by simp; omega) _).alloc (by simp; omega) _
  have hr4 := hr.keep hr.under hb
  have hx4 : w4.heap[b]? = some (.cells cs e (lo, hi)) := by rw [hb.block b (lt_of_heap hxb)]; exact hxb
  refine hr4.upd hg ha (upd_setCell hx4 _) (o' := .cells [.ifc 446 (.ptr 9530 0)] 330 none) ?_ (by simp [h87, applyG, Hp.set]) ?_
  · refine ⟨_, e, lo, hi, rfl, by simpa using hcs, by simpa using hlen, by simpa using hfz, fun i v hv => ?_⟩
    cases i with
    | zero =>
      simp at hv; subst hv
      refine ⟨.iface 446 (.pointer (some ⟨b1, d1 + 0, none⟩)), by rw [Array.getElem?_setIfInBounds]; simp at hlt; simp [hlt], ?_⟩
      simp only [VR]
      exact ⟨_, rfl, b1, d1, r1, ha1, rfl⟩
    | succ i => simp at hv
  · intro m p hne hp
    simp only [h87, applyG, Hp.set, if_neg hne] at hp
    exact ⟨hp, by simp [mateOf]⟩)
end Go.Proofs.YthlkchahlmkpiaaGreatDoor
namespace Go.Proofs.YthlkchahlmkpiaaGreatDoor
open Go Go.AE
theorem h0_ok : HookOK Tryz.prog h0 := alike_ok
theorem h1_ok : HookOK Tryz.prog h1 := parted_ok
theorem h87_ok : HookOK Tryz.prog h87 := as_ok
end Go.Proofs.YthlkchahlmkpiaaGreatDoor
