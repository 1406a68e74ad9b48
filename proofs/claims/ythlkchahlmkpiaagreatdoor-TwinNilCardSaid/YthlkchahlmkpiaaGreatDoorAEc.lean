/-
  The evaluator is sound: operations, second half.
-/
import Derived.Test.YthlkchahlmkpiaaGreatDoorAEb
/-
  Each operation of the evaluator is sound: between texts, bytes and numbers; assertions.
-/
namespace Go.AE
section
variable {P : Program} {B : Nat → Prop} {w0 : World} {θ : Th} {G : Hp} {w : World} {lk : Nat → Option AObj}

theorem run_stringToBytes (e : TypeId) (s : ByteArray) : ∃ (cs : Array Value) (cap : Nat) (w1 w2 : World), s.size ≤ cap ∧ cs.size = cap ∧ cs.toList.take s.size = (s.data.map fun b => Value.int .u8 b.toNat).toList ∧
    w1.heap = w.heap ∧ w1.tape = w.tape ∧ w1.os = w.os ∧ w1.output = w.output ∧ New w1 w2 (.cells cs e (cs.size, cs.size + 1)) ∧
    (Conv.stringToBytes e s).run P w = .ok (.slice (some ⟨w.heap.size, 0, none⟩) s.size cap) w2 := by
  let cap := (Question.appendCap s.size 0 e).cut (w.tape w.drawn (.appendCap s.size 0 e))
  have hcap : s.size ≤ cap := by show s.size ≤ s.size + _ % _; omega
  let w1 : World := { w with drawn := w.drawn + 1 }
  let cs : Array Value := (s.data.map fun b => Value.int .u8 b.toNat) ++ Array.replicate (cap - s.size) (.int .u8 0)
  have hsz : cs.size = cap := by
    have : s.data.size = s.size := rfl
    simp [cs, this]; omega
  let w1' : World := { w1 with heap := w1.heap.push (.cells cs e) }
  let w2 : World := w1'.freeze ⟨w.heap.size, cs.size, none⟩ 1
  refine ⟨cs, cap, w1, w2, hcap, hsz, ?_, rfl, rfl, rfl, rfl, ?_, ?_⟩
  · have : s.size = (s.data.map fun b => Value.int .u8 b.toNat).toList.length := by simp
    simp only [cs, Array.toList_append]
    rw [this, List.take_append_of_le_length (Nat.le_refl _), List.take_length]
  · refine ⟨?_, fun i hi => ?_, ?_, rfl, rfl, rfl⟩
    · simp [w2, w1', World.freeze]
    · have hi' : i ≠ w.heap.size := by have : w1.heap.size = w.heap.size := rfl; omega
      simp only [w2, World.freeze, if_neg (show ¬ (1 = 0) by omega)]
      rw [Array.getElem?_modify, if_neg (fun e => hi' e.symm)]
      simp only [w1']
      rw [Array.getElem?_push, if_neg (by omega)]
    · simp only [w2, World.freeze, if_neg (show ¬ (1 = 0) by omega)]
      show (Array.modify _ _ _)[w.heap.size]? = _
      rw [Array.getElem?_modify, if_pos rfl]
      have : w1'.heap[w.heap.size]? = some (.cells cs e (0, 0)) := by
        show (w.heap.push (.cells cs e))[w.heap.size]? = _
        simp
      rw [this]
      rfl
  · have hch : (choose (.appendCap s.size 0 e)).run P w = .ok cap w1 := by simp [Question.forced, cap, w1]
    have hrow : (newRow e cs).run P w1 = .ok ⟨w.heap.size, 0, none⟩ w1' := rfl
    have hsh : w1'.shape? w.heap.size = some (e, cs.size) := by
      simp [World.shape?, w1', w1]
    have hrow' : (newRow e ((s.data.map fun b => Value.int .u8 b.toNat) ++ Array.replicate (cap - s.size) (.int .u8 0))).run P w1 = .ok ⟨w.heap.size, 0, none⟩ w1' := hrow
    simp only [Conv.stringToBytes, Sem.run_bind, hch, Result.andThen_ok]
    rw [hrow']
    simp only [Result.andThen_ok, markStringish, Sem.run_bind, run_shape, hsh, run_freeze, Sem.run_pure]
    rfl

theorem run_bytesToString {b k : Nat} {cs : Array Value} {e : TypeId} {fz : Nat × Nat} {len c : Nat} (hx : w.heap[b]? = some (.cells cs e fz)) (hk : k + len ≤ cs.size) (bs : List UInt8)
    (hb : (cs.toList.drop k).take len = bs.map fun u => Value.int .u8 (u.toNat : Int)) :
    (Conv.bytesToString (.slice (some ⟨b, k, none⟩) len c)).run P w = .ok (.string ⟨bs.toArray⟩) w := by
  simp only [Conv.bytesToString, Sem.run_bind, run_cells hx hk, Result.andThen_ok]
  rw [hb, ← Array.forIn_toList]
  have key : ∀ (f : Value → ByteArray → Sem (ForInStep ByteArray)), (∀ (u : UInt8) (acc : ByteArray), f (.int .u8 (u.toNat : Int)) acc = Pure.pure (ForInStep.yield (acc.push (UInt8.ofNat (u.toNat : Int).toNat)))) →
      ∀ (bs : List UInt8) (acc : ByteArray), (forIn (bs.map fun u => Value.int .u8 (u.toNat : Int)) acc f : Sem ByteArray).run P w = .ok ⟨acc.data ++ bs.toArray⟩ w := by
    intro f hf bs
    induction bs with
    | nil => intro acc; simp
    | cons u bs ih =>
      intro acc
      simp only [List.map_cons, List.forIn_cons, hf, Sem.run_bind, Sem.run_pure, Result.andThen_ok, Int.toNat_natCast, UInt8.ofNat_toNat]
      rw [ih]
      congr 2
      simp [ByteArray.push]
  rw [key _ (fun u acc => rfl)]
  simp [ByteArray.empty, ByteArray.emptyWithCapacity]
  rfl

theorem toBytes_rel : ∀ {cs : List AV} {s : List Nat} {xs : List Value}, aConvert.toBytes cs = some s → VRL θ cs xs → ∃ bs : List UInt8, xs = bs.map (fun u => Value.int .u8 (u.toNat : Int)) ∧ bs.map (·.toNat) = s
  | [], s, xs, e, h => by
    simp only [aConvert.toBytes, Option.some.injEq] at e
    simp only [VRL] at h
    subst e h
    exact ⟨[], rfl, rfl⟩
  | v :: cs, s, xs, e, h => by
    simp only [VRL] at h
    obtain ⟨x, xs', rfl, h1, h2⟩ := h
    unfold aConvert.toBytes at e
    split at e
    · rename_i hh; cases hh
    · rename_i n l hh
      simp only [List.cons.injEq] at hh
      obtain ⟨rfl, rfl⟩ := hh
      split at e
      · rename_i r hr
        split at e
        · rename_i hlt
          rw [Nat.blt_eq] at hlt
          simp only [Option.some.injEq] at e
          subst e
          obtain ⟨bs, rfl, rfl⟩ := toBytes_rel hr h2
          simp only [VR] at h1
          subst h1
          refine ⟨UInt8.ofNat n :: bs, ?_, ?_⟩
          · simp [Nat.mod_eq_of_lt hlt]
          · simp [Nat.mod_eq_of_lt hlt]
        · cases e
      · cases e
    · cases e

theorem sConvert (h : Cxt P B w0 θ G w lk) {c : Nat} {src dst : TypeId} {a : AV} {x : Value} {r : OR} (hf : ∀ l v, r = .wr l true v → θ.addr c = none) (e : aConvert P lk c src dst a = some r) (ha : VR θ a x) :
    WrOK B w0 θ G c r ((convert src dst x).run P w) := by
  unfold aConvert at e
  split at e
  · rename_i sd k k' n hs hd
    simp only [VR] at ha; subst ha
    rw [wrapF_eq] at e
    refine .inl ⟨_, .int k (k.wrap n), w, oInt_some e, ?_, by simp only [VR], h.hr⟩
    simp only [convert, Sem.run_bind, run_underlying hs, run_underlying hd, Result.andThen_ok]
    cases sd <;> simp [Conv.intToInt]
  · rename_i sd s hs hd
    simp only [VR] at ha
    obtain ⟨t, rfl, rfl⟩ := ha
    simp only [Option.some.injEq] at e
    subst e
    refine .inl ⟨_, .string t, w, rfl, ?_, by simp only [VR]; exact ⟨t, rfl, rfl⟩, h.hr⟩
    simp only [convert, Sem.run_bind, run_underlying hs, run_underlying hd, Result.andThen_ok]
    cases sd <;> simp
  · rename_i sd el s hs hd
    simp only [VR] at ha
    obtain ⟨t, rfl, rfl⟩ := ha
    split at e
    · rename_i hel
      split at e
      · rename_i hsz
        simp only [Option.some.injEq] at e
        subst e
        have hc := hf _ _ rfl
        obtain ⟨cs, cap, w1, w2, hcap, hcs, htk, e1, e2, e3, e4, hn, hrun⟩ := run_stringToBytes (P := P) (w := w) el t
        have h1 := heap_same e1 e2 e3 e4 h.hr
        have hrel : VRL θ ((bytesN t).map fun b => AV.int .u8 (.ofNat b)) (cs.toList.take t.size) := by
          rw [htk]
          refine .of_get (by simp [bytesN]) fun i v e => ?_
          simp only [bytesN, List.map_map, List.getElem?_map, Option.map_eq_some_iff] at e
          obtain ⟨u, hu, rfl⟩ := e
          refine ⟨.int .u8 u.toNat, ?_, by show VR θ (.int .u8 (.ofNat u.toNat)) _; simp only [VR]; rfl⟩
          simp only [Array.toList_map, List.getElem?_map, hu, Option.map_some]
        have hh := h1.new (c := c) (r := cs.size) (o := .cells ((bytesN t).map fun b => AV.int .u8 (.ofNat b)) el none) hc hn
          ⟨cs, el, cs.size, cs.size + 1, rfl, by omega, by simp [bytesN_length]; omega, .inr (Nat.le_refl _), fun i v hi => by
            obtain ⟨y, hy, hy'⟩ := hrel.get hi
            refine ⟨y, ?_, VR.mono (Th.le_bind hc) _ _ hy'⟩
            rw [List.getElem?_take] at hy
            split at hy
            · rw [Nat.zero_add, ← Array.getElem?_toList]; exact hy
            · cases hy⟩
        rw [e1] at hh
        refine .inr (.inr ⟨_, _, .slice (some ⟨w.heap.size, 0, none⟩) t.size cap, w2, _, rfl, ?_, newAt_bind hc, ?_, hh⟩)
        · simp only [convert, Sem.run_bind, run_underlying hs, run_underlying hd, Result.andThen_ok]
          cases sd <;> simp only [run_underlying hel, Result.andThen_ok, hrun]
        · simp only [VR, lenN_eq, Nat.zero_add, bytesN_length]
          exact ⟨_, 0, _, cap, Th.bind_self _ _ _, by simp, by simp, hcap, by omega⟩
      · cases e
    · cases e
  · rename_i sd el n o len es cap hs hd
    split at e
    · rename_i l t m hsd hel hl
      rw [Nat.beq_eq] at hsd
      subst hsd
      simp only [Option.some.injEq] at e
      subst e
      have ha' := ha
      simp only [VR] at ha'
      obtain ⟨b, d, rm, cc, hn, rfl, _⟩ := ha'
      obtain ⟨ob, hx, cs, et, lo, hi, rfl, hsz, hlen, hfz, hget⟩ := h.at_ hl hn
      let mk : Nat × Nat := if lo == hi then (cs.size, cs.size + 1) else (min lo cs.size, max hi (cs.size + 1))
      have hmk : mk.1 = mk.2 ∨ cs.size ≤ mk.1 := by
        right
        simp only [mk]
        split
        · exact Nat.le_refl _
        · rename_i hne
          have hne : ¬ lo = hi := by simpa using hne
          have := hfz.resolve_left hne
          simp only
          omega
      have hu : Upd w (w.freeze ⟨b, cs.size, none⟩ 1) b (.cells cs et (mk.1, mk.2)) := by
        refine ⟨by simp [World.freeze], fun i hi' => ?_, ?_, rfl, rfl, rfl⟩
        · simp only [World.freeze, if_neg (show ¬ (1 = 0) by omega)]
          rw [Array.getElem?_modify, if_neg (fun e => hi' e.symm)]
        · simp only [World.freeze, if_neg (show ¬ (1 = 0) by omega)]
          rw [Array.getElem?_modify, if_pos rfl, hx]
          rfl
      have hsh : w.shape? b = some (et, cs.size) := by simp [World.shape?, hx]
      have hse : sd = el := by
        rw [hs] at hd
        simpa using hd
      subst hse
      refine .inr (.inl ⟨_, _, _, w.freeze ⟨b, cs.size, none⟩ 1, rfl, ?_, ha, sMark h hl hn hx hu hmk⟩)
      simp only [convert, Sem.run_bind, run_underlying hs, Result.andThen_ok, beq_self_eq_true, run_underlying hel, markStringish, run_shape, hsh, run_freeze, Sem.run_pure]
    · cases e
  · rename_i a _ _ _ el hs hd _
    split at e
    · rename_i hel hstr
      split at e
      · rename_i nz hz
        simp only [Option.some.injEq] at e
        subst e
        cases a with
        | sl n o len es cap =>
          simp only [aZeros] at hz
          split at hz
          · rename_i m t hl
            split at hz
            · rename_i hok
              simp only [Bool.and_eq_true, Nat.beq_eq, Nat.ble_eq] at hok
              obtain ⟨rfl, hom⟩ := hok
              simp only [Option.some.injEq] at hz
              rw [← hz]
              simp only [VR] at ha
              obtain ⟨b, d, rm, cc, hn, rfl, hcap, hlc, hroom⟩ := ha
              obtain ⟨ob, hx, ccs, et, lo, hi, rfl, hsz, hlen, _, hget⟩ := h.at_ hl hn
              have hb' : d + o + len ≤ ccs.size := by omega
              have hbs : (ccs.toList.drop (d + o)).take len = (List.replicate len (0 : UInt8)).map fun u => Value.int .u8 (u.toNat : Int) := by
                apply List.ext_getElem?
                intro i
                rw [List.getElem?_take, List.getElem?_map, List.getElem?_replicate]
                by_cases hi : i < len
                · obtain ⟨y, hy, hv⟩ := hget (o + i) (by omega)
                  simp only [VR] at hv
                  subst hv
                  rw [if_pos hi, if_pos hi, List.getElem?_drop, Nat.add_assoc]
                  simpa using hy
                · rw [if_neg hi, if_neg hi]; rfl
              refine .inl ⟨_, .string ⟨(List.replicate len (0 : UInt8)).toArray⟩, w, rfl, ?_, ?_, h.hr⟩
              · simp only [convert, Sem.run_bind, run_underlying hs, run_underlying hd, Result.andThen_ok, run_underlying hel, run_bytesToString hx hb' _ hbs]
              · simp only [VR]; exact ⟨_, rfl, by simp [ByteArray.size]⟩
            · cases hz
          · cases hz
        | _ => simp [aZeros] at hz
      split at e
      · rename_i m cs hsrc
        split at e
        · rename_i s hb
          have hr := oStr_some e
          cases a with
          | sl n o len es cap =>
            simp only [VR] at ha
            obtain ⟨b, d, rm, cc, hn, rfl, hcap, hlc, hroom⟩ := ha
            simp only [aSrc] at hsrc
            split at hsrc
            · rename_i hes
              rw [Nat.beq_eq] at hes
              subst hes
              have fin : ∀ bs : List UInt8, bs.map (·.toNat) = s → (Conv.bytesToString (.slice (some ⟨b, d + o, none⟩) len cc)).run P w = .ok (.string ⟨bs.toArray⟩) w → WrOK B w0 θ G c r ((convert src dst (.slice (some ⟨b, d + o, none⟩) len cc)).run P w) := by
                intro bs hbs hrun
                refine .inl ⟨_, .string ⟨bs.toArray⟩, w, hr, ?_, ?_, h.hr⟩
                · simp only [convert, Sem.run_bind, run_underlying hs, run_underlying hd, Result.andThen_ok, run_underlying hel, hrun]
                · simp only [VR]; exact ⟨_, rfl, by simp only [bytesN]; exact hbs⟩
              split at hsrc
              · rename_i l t mt hl
                split at hsrc
                · rename_i cs' hcs
                  simp only [Option.some.injEq, Prod.mk.injEq] at hsrc
                  obtain ⟨rfl, rfl⟩ := hsrc
                  rw [dropN_eq] at hcs
                  obtain ⟨hcs, hle⟩ := takeN_some hcs
                  simp only [List.length_drop, Nat.mul_one] at hle
                  obtain ⟨ob, hx, ccs, et, lo, hi, rfl, hsz, hlen, _, hget⟩ := h.at_ hl hn
                  have hb' : d + o + len ≤ ccs.size := by omega
                  have hrel : VRL θ cs' ((ccs.toList.drop (d + o)).take len) := by
                    refine .of_get (by rw [hcs]; simp; omega) fun i v e => ?_
                    rw [hcs, List.getElem?_take] at e
                    split at e
                    · rename_i hik
                      rw [List.getElem?_drop] at e
                      obtain ⟨y, hy, hv⟩ := hget _ _ e
                      refine ⟨y, ?_, hv⟩
                      simp only [List.getElem?_take, if_pos (show i < len by omega), List.getElem?_drop]
                      rw [Nat.add_assoc]; simpa using hy
                    · cases e
                  obtain ⟨bs, hbs, hbs'⟩ := toBytes_rel hb hrel
                  exact fin bs hbs' (run_bytesToString hx hb' bs hbs)
                · cases hsrc
              · split at hsrc
                · simp only [Option.some.injEq, Prod.mk.injEq] at hsrc
                  obtain ⟨rfl, rfl⟩ := hsrc
                  simp only [aConvert.toBytes, Option.some.injEq] at hb
                  refine fin [] hb ?_
                  simp [Conv.bytesToString, loadCells, loadCellsFrom, ByteArray.empty, ByteArray.emptyWithCapacity]
                  rfl
                · cases hsrc
            · cases hsrc
          | sl0 =>
            simp only [VR] at ha
            subst ha
            simp only [aSrc, Option.some.injEq, Prod.mk.injEq] at hsrc
            obtain ⟨rfl, rfl⟩ := hsrc
            simp only [aConvert.toBytes, Option.some.injEq] at hb
            refine .inl ⟨_, .string .empty, w, hr, ?_, ?_, h.hr⟩
            · simp [convert, run_underlying hs, run_underlying hd, run_underlying hel, Conv.bytesToString]
            · simp only [VR]; exact ⟨_, rfl, hb⟩
          | slE =>
            simp only [VR] at ha
            obtain ⟨a, c', rfl⟩ := ha
            simp only [aSrc, Option.some.injEq, Prod.mk.injEq] at hsrc
            obtain ⟨rfl, rfl⟩ := hsrc
            simp only [aConvert.toBytes, Option.some.injEq] at hb
            refine .inl ⟨_, .string .empty, w, hr, ?_, ?_, h.hr⟩
            · simp [convert, run_underlying hs, run_underlying hd, run_underlying hel, Conv.bytesToString, loadCells, loadCellsFrom, ByteArray.empty, ByteArray.emptyWithCapacity]
            · simp only [VR]; exact ⟨_, rfl, hb⟩
          | str s => simp [aConvert.isStr] at hstr
          | _ => simp [aSrc] at hsrc
        · cases e
      · cases e
    · cases e
  · cases e
end
end Go.AE
/-
  Each operation of the evaluator is sound: maps.
-/
namespace Go.AE
section
variable {P : Program} {B : Nat → Prop} {w0 : World} {θ : Th} {G : Hp} {w : World} {lk : Nat → Option AObj}

mutual
theorem AV.beq_eq : ∀ {a b : AV}, AV.beq a b = true → a = b
  | .any, b, h => by cases b <;> simp [AV.beq] at h <;> rfl
  | .opq i, b, h => by cases b <;> simp [AV.beq] at h; rw [h]
  | .bool x, b, h => by cases b <;> simp [AV.beq] at h; rw [h]
  | .int k m, b, h => by
    cases b <;> simp only [AV.beq, Bool.false_eq_true, Bool.and_eq_true, kEq_iff, iEq_eq, beq_iff_eq] at h
    rw [h.1, h.2]
  | .str s, b, h => by cases b <;> simp only [AV.beq, Bool.false_eq_true, nsEq_iff] at h; rw [h]
  | .ptr0, b, h => by cases b <;> simp [AV.beq] at h <;> rfl
  | .ptr n o, b, h => by cases b <;> simp [AV.beq] at h; rw [h.1, h.2]
  | .sl0, b, h => by cases b <;> simp [AV.beq] at h <;> rfl
  | .slE, b, h => by cases b <;> simp [AV.beq] at h <;> rfl
  | .sl n o l e c, b, h => by
    cases b with
    | sl n' o' l' e' c' =>
      simp only [AV.beq, Bool.and_eq_true, Nat.beq_eq] at h
      obtain ⟨⟨⟨⟨h1, h2⟩, h3⟩, h4⟩, h5⟩ := h
      cases c <;> cases c' <;> simp at h5
      · rw [h1, h2, h3, h4]
      · rw [h1, h2, h3, h4, h5]
    | _ => simp [AV.beq] at h
  | .map0, b, h => by cases b <;> simp [AV.beq] at h <;> rfl
  | .map n, b, h => by cases b <;> simp [AV.beq] at h; rw [h]
  | .fn0, b, h => by cases b <;> simp [AV.beq] at h <;> rfl
  | .fn f x y, b, h => by
    cases b with
    | fn g x' y' =>
      cases f <;> cases g <;> simp only [AV.beq, Bool.false_eq_true, Bool.and_eq_true, Nat.beq_eq] at h
      rw [h.1.1, AVL.beq_eq h.1.2, AVL.beq_eq h.2]
    | _ => cases f <;> simp [AV.beq] at h
  | .if0, b, h => by cases b <;> simp [AV.beq] at h <;> rfl
  | .ifc t v, b, h => by
    cases b <;> simp only [AV.beq, Bool.false_eq_true, Bool.and_eq_true, Nat.beq_eq] at h
    rw [h.1, AV.beq_eq h.2]
  | .agg x, b, h => by
    cases b <;> simp only [AV.beq, Bool.false_eq_true] at h
    rw [AVL.beq_eq h]
  | .tup x, b, h => by
    cases b <;> simp only [AV.beq, Bool.false_eq_true] at h
    rw [AVL.beq_eq h]
theorem AVL.beq_eq : ∀ {a b : List AV}, AVL.beq a b = true → a = b
  | [], b, h => by cases b <;> simp [AVL.beq] at h; rfl
  | x :: a, b, h => by
    cases b with
    | nil => simp [AVL.beq] at h
    | cons y b =>
      simp only [AVL.beq, Bool.and_eq_true] at h
      rw [AV.beq_eq h.1, AVL.beq_eq h.2]
end

theorem sKeyOK (emp : Bool) : ∀ (d : Nat) {t : TypeId} {a : AV} {x : Value}, keyOK P d t a = true → VR θ a x → ∀ D, d ≤ D → (Instr.checkKey emp D t x).run P w = .ok () w
  | 0, _, _, _, e, _, _, _ => by simp [keyOK] at e
  | d + 1, t, a, x, e, ha, D, hD => by
    obtain ⟨D, rfl⟩ : ∃ D', D = D' + 1 := ⟨D - 1, by omega⟩
    unfold keyOK at e
    split at e
    · rename_i hu
      simp only [VR] at ha; subst ha
      simp [Instr.checkKey, run_underlying hu]
    · rename_i hu
      simp only [VR] at ha
      obtain ⟨s, rfl, _⟩ := ha
      simp [Instr.checkKey, run_underlying hu]
    · rename_i hu
      simp only [VR] at ha; subst ha
      simp [Instr.checkKey, run_underlying hu]
    · rename_i fs0 xs hu
      simp only [VR] at ha
      obtain ⟨cx, rfl, hx⟩ := ha
      split at e
      · rename_i l hl
        obtain ⟨fs, hu', hs, rfl⟩ := eqFields_some hl
        simp only [Instr.checkKey, Sem.run_bind, run_underlying hu', Result.andThen_ok]
        rw [← Array.forIn_toList]
        clear hl hu' hs hu
        generalize fs.toList = L at e
        have key : ∀ g : Field → PUnit → Sem (ForInStep PUnit), (∀ f, f.name = "_" → (g f ⟨⟩).run P w = .ok (.yield ⟨⟩) w) →
            (∀ f y, f.name ≠ "_" → (part f.type cx f.offset).run P w = .ok y w → (Instr.checkKey emp D f.type y).run P w = .ok () w → (g f ⟨⟩).run P w = .ok (.yield ⟨⟩) w) →
            (forIn L PUnit.unit g : Sem PUnit).run P w = .ok () w := by
          intro g g1 g2
          induction L with
          | nil => simp
          | cons f L ih =>
            by_cases hn : f.name = "_"
            · simp only [List.filter_cons, hn, ne_eq, not_true, decide_false, Bool.false_eq_true, if_false] at e
              simp only [List.forIn_cons, Sem.run_bind, g1 f hn, Result.andThen_ok]
              exact ih e
            · simp only [List.filter_cons, ne_eq, hn, not_false_eq_true, decide_true, if_true, List.map_cons, keyOK.keyParts] at e
              split at e
              · rename_i hg
                split at e
                · rename_i y hy
                  rw [Bool.and_eq_true] at e
                  obtain ⟨y1, h1, hv1⟩ := part_of_one (w := w) hg hy hx
                  have hk := sKeyOK emp d e.1 hv1 D (by omega)
                  simp only [List.forIn_cons, Sem.run_bind, g2 f y1 hn h1 hk, Result.andThen_ok]
                  exact ih e.2
                · cases e
              · cases e
        rw [key _ (fun f hn => by simp [hn]) (fun f y hn h1 h2 => by simp [hn, h1, h2])]
        rfl
      · cases e
    · cases e

/-- Is an entry's key this one? -/
def isKey (P : Program) (w : World) (t : TypeId) (k : Value) (p : MapEntry → Bool) (l : List MapEntry) : Prop := ∀ e ∈ l, (Op.equal t k e.key).run P w = .ok (p e) w
def firstIdx (p : MapEntry → Bool) : List MapEntry → Nat → Option (Nat × Value)
  | [], _ => none
  | e :: es, i => if p e then some (i, e.val) else firstIdx p es (i + 1)

theorem sameNow_eq {t : TypeId} {kd : TypeDesc} {k q : Value} {b : Bool} (hu : P.underlying t = some kd) (h : Instr.sameNow kd k q = some b) : (Op.equal t k q).run P w = .ok b w := by
  unfold Instr.sameNow at h
  split at h
  · split at h
    · rename_i hk
      simp only [Option.some.injEq] at h
      subst h hk
      exact run_equalIn_int w 9999 t _ _ _ _ hu
    · cases h
  · simp only [Option.some.injEq] at h
    subst h
    rw [beq_toListBytes]
    exact run_equalIn_string w 9999 t _ _ hu
  · simp only [Option.some.injEq] at h
    subst h
    exact run_equalIn_bool' w 9999 t _ _ hu
  · cases h

theorem run_findKey {t : TypeId} {kd : TypeDesc} {k : Value} {p : MapEntry → Bool} {l : List MapEntry} (hu : P.underlying t = some kd) (h : isKey P w t k p l) :
    (Instr.findKey t k l).run P w = .ok (firstIdx p l 0) w := by
  have now : ∀ (l : List MapEntry) (i : Nat) (r : Option (Nat × Value)), isKey P w t k p l → Instr.findNow kd k l i = some r → r = firstIdx p l i := by
    intro l
    induction l with
    | nil => intro i r _ e; simp only [Instr.findNow, Option.some.injEq] at e; rw [← e]; rfl
    | cons x l ih =>
      intro i r hl e
      simp only [Instr.findNow] at e
      have hx := hl x (List.mem_cons_self ..)
      split at e
      · rename_i hs
        have := sameNow_eq (w := w) hu hs
        rw [hx] at this
        injection this with hp _
        simp only [Option.some.injEq] at e
        simp [firstIdx, hp, e]
      · rename_i hs
        have := sameNow_eq (w := w) hu hs
        rw [hx] at this
        injection this with hp _
        simp only [firstIdx, hp, Bool.false_eq_true, if_false]
        exact ih (i + 1) r (fun e he => hl e (List.mem_cons_of_mem _ he)) e
      · cases e
  have asking : ∀ (l : List MapEntry) (i : Nat), isKey P w t k p l → (Instr.findAsking t k l i).run P w = .ok (firstIdx p l i) w := by
    intro l
    induction l with
    | nil => intro i _; rfl
    | cons x l ih =>
      intro i hl
      have hx := hl x (List.mem_cons_self ..)
      simp only [Instr.findAsking, Sem.run_bind, hx, Result.andThen_ok]
      cases hp : p x with
      | true => simp [firstIdx, hp]
      | false =>
        simp only [firstIdx, hp, Bool.false_eq_true, if_false]
        exact ih (i + 1) fun e he => hl e (List.mem_cons_of_mem _ he)
  simp only [Instr.findKey, Sem.run_bind, run_underlying hu, Result.andThen_ok]
  split
  · rename_i r hr
    rw [now l 0 r h hr]; rfl
  · exact asking l 0 h

theorem firstIdx_none {p : MapEntry → Bool} : ∀ {l : List MapEntry} {i : Nat}, (∀ e ∈ l, p e = false) → firstIdx p l i = none
  | [], _, _ => rfl
  | x :: l, i, h => by
    simp only [firstIdx, h x (List.mem_cons_self ..), Bool.false_eq_true, if_false]
    exact firstIdx_none fun e he => h e (List.mem_cons_of_mem _ he)
theorem firstIdx_one {p : MapEntry → Bool} {x : MapEntry} : ∀ {l : List MapEntry} {i : Nat}, x ∈ l → p x = true → (∀ e ∈ l, p e = true → e.born = x.born) → (l.map (·.born)).Nodup →
    ∃ j, firstIdx p l i = some (i + j, x.val) ∧ l[j]? = some x
  | [], _, h, _, _, _ => by simp at h
  | y :: l, i, h, hp, hu, hd => by
    simp only [List.map_cons, List.nodup_cons] at hd
    by_cases e : p y = true
    · have hb := hu y (List.mem_cons_self ..) e
      have : y = x := by
        rcases List.mem_cons.1 h with h1 | h1
        · exact h1.symm
        · exfalso
          apply hd.1
          rw [hb]
          exact List.mem_map.2 ⟨x, h1, rfl⟩
      subst this
      exact ⟨0, by simp [firstIdx, e], by simp⟩
    · have hx : x ∈ l := by
        rcases List.mem_cons.1 h with h1 | h1
        · subst h1; exact absurd hp e
        · exact h1
      obtain ⟨j, h1, h2⟩ := firstIdx_one (i := i + 1) hx hp (fun e he => hu e (List.mem_cons_of_mem _ he)) hd.2
      refine ⟨j + 1, ?_, by simpa using h2⟩
      rw [show i + (j + 1) = i + 1 + j from by omega, ← h1]
      simp [firstIdx, e]
end
end Go.AE
/-
  Each operation of the evaluator is sound: look-ups, updates, ranging over maps.
-/
namespace Go.AE
section
variable {P : Program} {B : Nat → Prop} {w0 : World} {θ : Th} {G : Hp} {w : World} {lk : Nat → Option AObj}

open Classical in
noncomputable def pK (P : Program) (w : World) (t : TypeId) (kv : Value) (e : MapEntry) : Bool := decide ((Op.equal t kv e.key).run P w = .ok true w)
theorem pK_of {t : TypeId} {kv : Value} {e : MapEntry} {b : Bool} (h : (Op.equal t kv e.key).run P w = .ok b w) : pK P w t kv e = b := by
  unfold pK
  rw [h]
  cases b <;> simp

theorem ERL.get {es : List (Nat × AV × AV)} {L : List MapEntry} (h : ERL θ es L) : ∀ {i : Nat} {x : Nat × AV × AV}, es[i]? = some x → ∃ e, L[i]? = some e ∧ ER θ x e := by
  induction es generalizing L with
  | nil => intro i x e; simp at e
  | cons y es ih =>
    intro i x e
    obtain ⟨z, zs, rfl, h1, h2⟩ := h
    cases i with
    | zero => simp at e; subst e; exact ⟨z, by simp, h1⟩
    | succ i => simp at e; simpa using ih h2 e
theorem ERL.back {es : List (Nat × AV × AV)} {L : List MapEntry} (h : ERL θ es L) : ∀ {i : Nat} {x : MapEntry}, L[i]? = some x → ∃ e, es[i]? = some e ∧ ER θ e x := by
  induction es generalizing L with
  | nil => intro i x e; simp only [ERL] at h; subst h; simp at e
  | cons y es ih =>
    intro i x e
    obtain ⟨z, zs, rfl, h1, h2⟩ := h
    cases i with
    | zero => simp at e; subst e; exact ⟨y, by simp, h1⟩
    | succ i => simp at e; simpa using ih h2 e
theorem ERL.length {es : List (Nat × AV × AV)} {L : List MapEntry} (h : ERL θ es L) : L.length = es.length := by
  induction es generalizing L with
  | nil => simp only [ERL] at h; subst h; rfl
  | cons y es ih => obtain ⟨z, zs, rfl, _, h2⟩ := h; simp [ih h2]

theorem findK_dec {t : TypeId} {k : AV} {kv : Value} (hk : VR θ k kv) : ∀ {es : List (Nat × AV × AV)} {L : List MapEntry} {res : Option (Nat × AV × AV)}, findK P t k es = some res → ERL θ es L →
    isKey P w t kv (pK P w t kv) L ∧ (match res with
      | none => ∀ e ∈ L, pK P w t kv e = false
      | some x => ∃ (i : Nat) (e : MapEntry), es[i]? = some x ∧ L[i]? = some e ∧ pK P w t kv e = true ∧ ∀ (j : Nat) (e' : MapEntry), L[j]? = some e' → pK P w t kv e' = true → j = i)
  | [], L, res, e, h => by
    simp only [findK, Option.some.injEq] at e
    simp only [ERL] at h
    subst e h
    exact ⟨fun e he => by simp at he, fun e he => by simp at he⟩
  | (s, q, v) :: es, L, res, e, h => by
    obtain ⟨x, xs, rfl, ⟨h1, h2, h3⟩, h4⟩ := h
    simp only [findK] at e
    have isk : ∀ {b : Bool}, aEq P Op.maxDepth t k q = some b → isKey P w t kv (pK P w t kv) xs → isKey P w t kv (pK P w t kv) (x :: xs) := by
      intro b hb hxs e he
      rcases List.mem_cons.1 he with rfl | he
      · have := sEq (P := P) (w := w) _ hb hk h2
        have e1 : (Op.equal t kv e.key).run P w = .ok b w := this
        rw [pK_of e1]; exact e1
      · exact hxs e he
    split at e
    · rename_i hq
      split at e
      · rename_i hr
        simp only [Option.some.injEq] at e
        subst e
        obtain ⟨g1, g2⟩ := findK_dec hk hr h4
        simp only at g2
        have hx : pK P w t kv x = true := pK_of (sEq (P := P) (w := w) _ hq hk h2)
        refine ⟨isk hq g1, 0, x, by simp, by simp, hx, fun j e' hj hp => ?_⟩
        cases j with
        | zero => rfl
        | succ j =>
          simp only [List.getElem?_cons_succ] at hj
          rw [g2 e' (List.mem_of_getElem? hj)] at hp
          cases hp
      · cases e
    · rename_i hq
      obtain ⟨g1, g2⟩ := findK_dec hk e h4
      have hx : pK P w t kv x = false := pK_of (sEq (P := P) (w := w) _ hq hk h2)
      refine ⟨isk hq g1, ?_⟩
      cases res with
      | none =>
        simp only at g2 ⊢
        intro e he
        rcases List.mem_cons.1 he with rfl | he
        · exact hx
        · exact g2 e he
      | some y =>
        simp only at g2 ⊢
        obtain ⟨i, e, a1, a2, a3, a4⟩ := g2
        refine ⟨i + 1, e, by simpa using a1, by simpa using a2, a3, fun j e' hj hp => ?_⟩
        cases j with
        | zero => simp at hj; subst hj; rw [hx] at hp; cases hp
        | succ j => rw [a4 j e' (by simpa using hj) hp]
    · cases e

/-- A key looked for among a map's entries. -/
theorem run_find {t : TypeId} {kd : TypeDesc} {k : AV} {kv : Value} {es : List (Nat × AV × AV)} {L : List MapEntry} {ents : Array MapEntry} {res : Option (Nat × AV × AV)} (hu : P.underlying t = some kd)
    (hk : VR θ k kv) (e : findK P t k es = some res) (hL : ERL θ es L) (hp : L.Perm ents.toList) (hd : (ents.toList.map (·.born)).Nodup) :
    match res with
    | none => (Instr.findKey t kv ents.toList).run P w = .ok none w
    | some x => ∃ (i j : Nat) (y : MapEntry), es[i]? = some x ∧ L[i]? = some y ∧ ents.toList[j]? = some y ∧ (Instr.findKey t kv ents.toList).run P w = .ok (some (j, y.val)) w := by
  obtain ⟨g1, g2⟩ := findK_dec (P := P) (w := w) hk e hL
  have g1' : isKey P w t kv (pK P w t kv) ents.toList := fun e he => g1 e (hp.mem_iff.2 he)
  cases res with
  | none =>
    simp only at g2 ⊢
    rw [run_findKey hu g1', firstIdx_none fun e he => g2 e (hp.mem_iff.2 he)]
  | some x =>
    simp only at g2 ⊢
    obtain ⟨i, y, a1, a2, a3, a4⟩ := g2
    have hy : y ∈ ents.toList := hp.mem_iff.1 (List.mem_of_getElem? a2)
    obtain ⟨j, b1, b2⟩ := firstIdx_one (i := 0) hy a3 (fun e he hpe => by
      obtain ⟨q, hq⟩ := List.getElem?_of_mem (hp.mem_iff.2 he)
      have := a4 q e hq hpe
      subst this
      rw [a2] at hq
      simp only [Option.some.injEq] at hq
      rw [hq]) hd
    refine ⟨i, j, y, a1, a2, b2, ?_⟩
    rw [run_findKey hu g1', b1, Nat.zero_add]

theorem keyOK_under {d : Nat} {t : TypeId} {a : AV} (h : keyOK P d t a = true) : ∃ kd, P.underlying t = some kd := by
  cases d with
  | zero => simp [keyOK] at h
  | succ d =>
    unfold keyOK at h
    split at h <;> first | exact ⟨_, ‹_›⟩ | cases h

theorem sLookup (h : Cxt P B w0 θ G w lk) {t : TypeId} {x k : AV} {xv kv : Value} {ok : Bool} {r : OR} (e : aLookup P lk t x k ok = some r) (hx : VR θ x xv) (hk : VR θ k kv) :
    ∃ v y, r = .val v ∧ (Instr.lookup t xv kv ok).run P w = .ok y w ∧ VR θ v y := by
  unfold aLookup at e
  split at e
  · rename_i kt el hu
    split at e
    · cases e
    · rename_i hko
      obtain ⟨kd, hkd⟩ := keyOK_under hko
      have found : ∀ {v : AV} {y : Value}, VR θ v y → r = .val (if ok then .tup [v, .bool true] else v) → ∀ {es : Array MapEntry}, (Instr.findKey kt kv es.toList).run P w = .ok (some (0, y)) w → True := fun _ _ _ _ => trivial
      clear found
      have hit : ∀ {v : AV} {y : Value} {b : Bool}, VR θ v y → VR θ (if ok then .tup [v, .bool b] else v) (if ok then .tuple #[y, .bool b] else y) := by
        intro v y b hv
        cases ok
        · exact hv
        · simp only [if_true, VR, VRL]
          exact ⟨#[y, .bool b], rfl, y, [.bool b], rfl, hv, .bool b, [], rfl, rfl, rfl⟩
      split at e
      · rename_i s q v hf
        simp only [Option.some.injEq] at e
        subst e
        split at hf
        · simp at hf
        · rename_i rn
          split at hf
          · rename_i es cl hl
            simp only [VR] at hx
            obtain ⟨b, d, rm, hn, rfl⟩ := hx
            obtain ⟨ob, hob, ents, L, rfl, hp, hL, hd, _⟩ := h.at_ hl hn
            have := run_find (P := P) (w := w) hkd hk hf hL hp hd
            simp only at this
            obtain ⟨i, j, y, a1, a2, a3, a4⟩ := this
            obtain ⟨z, hz, _, _, hv⟩ := hL.get a1
            rw [a2] at hz
            simp only [Option.some.injEq] at hz
            subst hz
            refine ⟨_, _, rfl, ?_, hit hv⟩
            simp only [Instr.lookup, Sem.run_bind, run_underlying hu, Result.andThen_ok, run_getObj hob (by simp), Sem.run_pure, sKeyOK _ 8 hko hk 10000 (by omega), a4]
          · cases hf
        · cases hf
      · rename_i hf
        split at e
        · rename_i z hz
          simp only [Option.some.injEq] at e
          subst e
          obtain ⟨zv, hzv, hzr⟩ := run_zeroValue θ hz
          split at hf
          · simp only [VR] at hx
            subst hx
            refine ⟨_, _, rfl, ?_, hit hzr⟩
            have : (Instr.findKey kt kv []).run P w = .ok none w := by
              simp [Instr.findKey, run_underlying hkd, Instr.findNow]
            simp only [Instr.lookup, Sem.run_bind, run_underlying hu, Result.andThen_ok, Sem.run_pure, sKeyOK _ 8 hko hk 10000 (by omega), this, hzv]
          · rename_i rn
            split at hf
            · rename_i es cl hl
              simp only [VR] at hx
              obtain ⟨b, d, rm, hn, rfl⟩ := hx
              obtain ⟨ob, hob, ents, L, rfl, hp, hL, hd, _⟩ := h.at_ hl hn
              have := run_find (P := P) (w := w) hkd hk hf hL hp hd
              simp only at this
              refine ⟨_, _, rfl, ?_, hit hzr⟩
              simp only [Instr.lookup, Sem.run_bind, run_underlying hu, Result.andThen_ok, run_getObj hob (by simp), Sem.run_pure, sKeyOK _ 8 hko hk 10000 (by omega), this, hzv]
            · cases hf
          · cases hf
        · cases e
      · cases e
  · cases e
end
end Go.AE
/-
  Each operation of the evaluator is sound: a map is written.
-/
namespace Go.AE
section
variable {P : Program} {B : Nat → Prop} {w0 : World} {θ : Th} {G : Hp} {w : World} {lk : Nat → Option AObj}

theorem sameS_ok {a b : AV} (h : sameS a b = true) : a = b ∧ ∀ {x y : Value}, VR θ a x → VR θ b y → ∀ n, Instr.sameBits n x y = true := by
  unfold sameS at h
  split at h
  · simp only [beq_iff_eq] at h
    subst h
    refine ⟨rfl, fun hx hy n => ?_⟩
    simp only [VR] at hx hy
    subst hx hy
    cases n <;> simp [Instr.sameBits]
  · simp only [Bool.and_eq_true, kEq_iff, iEq_eq, beq_iff_eq] at h
    obtain ⟨rfl, rfl⟩ := h
    refine ⟨rfl, fun hx hy n => ?_⟩
    simp only [VR] at hx hy
    subst hx hy
    cases n <;> simp [Instr.sameBits]
  · simp only [nsEq_iff] at h
    subst h
    refine ⟨rfl, fun hx hy n => ?_⟩
    simp only [VR] at hx hy
    obtain ⟨t, rfl, h1⟩ := hx
    obtain ⟨u, rfl, h2⟩ := hy
    have : t = u := bytesN_inj (h1.trans h2.symm)
    subst this
    have e : (t == t) = true := by rw [beq_toListBytes]; simp
    cases n <;> simp [Instr.sameBits, e]
  · cases h

theorem sameSL_ok : ∀ {a b : List AV}, sameSL a b = true → a = b ∧ ∀ {x y : List Value}, VRL θ a x → VRL θ b y → ∀ n, x.length = y.length ∧ ((x.zip y).all fun (x, y) => Instr.sameBits n x y) = true
  | [], [], _ => ⟨rfl, fun hx hy n => by simp only [VRL] at hx hy; subst hx hy; simp⟩
  | a :: x, b :: y, h => by
    simp only [sameSL, Bool.and_eq_true] at h
    obtain ⟨rfl, h1⟩ := sameS_ok (θ := θ) h.1
    obtain ⟨rfl, h2⟩ := sameSL_ok h.2
    refine ⟨rfl, fun hx hy n => ?_⟩
    simp only [VRL] at hx hy
    obtain ⟨x1, xs, rfl, a1, a2⟩ := hx
    obtain ⟨y1, ys, rfl, b1, b2⟩ := hy
    obtain ⟨g1, g2⟩ := h2 a2 b2 n
    simp only [List.length_cons, List.zip_cons_cons, List.all_cons, g1, g2, h1 a1 b1 n, Bool.and_self, and_self]
  | [], _ :: _, h => by simp [sameSL] at h
  | _ :: _, [], h => by simp [sameSL] at h

theorem sameK_ok {a b : AV} (h : sameK a b = true) : a = b ∧ ∀ {x y : Value}, VR θ a x → VR θ b y → ∀ n, Instr.sameBits (n + 1) x y = true := by
  unfold sameK at h
  split at h
  · obtain ⟨rfl, h1⟩ := sameSL_ok (θ := θ) h
    refine ⟨rfl, fun hx hy n => ?_⟩
    simp only [VR] at hx hy
    obtain ⟨xs, rfl, hx⟩ := hx
    obtain ⟨ys, rfl, hy⟩ := hy
    obtain ⟨g1, g2⟩ := h1 hx hy n
    simp only [Array.length_toList] at g1
    simp only [Instr.sameBits, g1, beq_self_eq_true, Bool.true_and]
    exact g2
  · obtain ⟨rfl, h1⟩ := sameS_ok (θ := θ) h
    exact ⟨rfl, fun hx hy n => h1 hx hy _⟩

theorem modify_born {b : Nat} {kv xv : Value} : ∀ {M : List MapEntry} {j : Nat} {y : MapEntry}, M[j]? = some y → y.born = b → (M.map (·.born)).Nodup →
    M.modify j (fun e => { e with key := kv, val := xv }) = M.map fun e => if e.born = b then { e with key := kv, val := xv } else e
  | [], j, y, h, _, _ => by simp at h
  | x :: M, 0, y, h, hb, hd => by
    simp only [List.getElem?_cons_zero, Option.some.injEq] at h
    subst h
    simp only [List.map_cons, List.nodup_cons, List.mem_map, not_exists, not_and] at hd
    simp only [List.modify_zero_cons, List.map_cons, if_pos hb, List.cons.injEq, true_and]
    conv => lhs; rw [← List.map_id M]
    apply List.map_congr_left
    intro e he
    have := hd.1 e he
    rw [if_neg (fun h => this (h.trans hb.symm))]; rfl
  | x :: M, j + 1, y, h, hb, hd => by
    simp only [List.getElem?_cons_succ] at h
    simp only [List.map_cons, List.nodup_cons, List.mem_map, not_exists, not_and] at hd
    have hx : x.born ≠ b := by
      intro e
      exact hd.1 y (List.mem_of_getElem? h) (hb.trans e.symm)
    rw [List.modify_succ_cons, List.map_cons, if_neg hx, modify_born h hb hd.2]

theorem ERL.upd {s b : Nat} {kv xv : Value} {q v v0 : AV} (hk : VR θ q kv) (hv : VR θ v xv) : ∀ {es : List (Nat × AV × AV)} {L : List MapEntry} {i : Nat} {y : MapEntry}, ERL θ es L → es[i]? = some (s, q, v0) → L[i]? = some y → y.born = b → (L.map (·.born)).Nodup →
    ERL θ (updE s v es) (L.map fun e => if e.born = b then { e with key := kv, val := xv } else e)
  | [], L, i, y, _, h, _, _, _ => by simp at h
  | (s', k', v') :: es, L, i, y, h, he, hy, hb, hd => by
    obtain ⟨x, xs, rfl, ⟨h1, h2, h3⟩, h4⟩ := h
    simp only [List.map_cons, List.nodup_cons, List.mem_map, not_exists, not_and] at hd
    simp only [updE]
    cases hs : Nat.beq s s' with
    | true =>
      simp only [Nat.beq_eq] at hs
      subst hs
      cases i with
      | zero =>
        simp only [List.getElem?_cons_zero, Option.some.injEq, Prod.mk.injEq] at he hy
        obtain ⟨_, rfl, rfl⟩ := he
        subst hy
        simp only [List.map_cons, if_pos hb]
        refine ⟨_, _, rfl, ⟨h1, hk, hv⟩, ?_⟩
        have : xs.map (fun e => if e.born = b then { e with key := kv, val := xv } else e) = xs := by
          conv => rhs; rw [← List.map_id xs]
          apply List.map_congr_left
          intro e he
          have := hd.1 e he
          rw [if_neg (fun h => this (h.trans hb.symm))]; rfl
        rw [this]; exact h4
      | succ i =>
        simp only [List.getElem?_cons_succ] at he hy
        obtain ⟨z, hz, hz1, _⟩ := h4.get he
        rw [hy] at hz
        simp only [Option.some.injEq] at hz
        subst hz
        rw [h1] at hz1
        simp only [Option.some.injEq] at hz1
        exact absurd hz1.symm (hd.1 y (List.mem_of_getElem? hy))
    | false =>
      have hne : s ≠ s' := by rintro rfl; simp at hs
      cases i with
      | zero => simp only [List.getElem?_cons_zero, Option.some.injEq, Prod.mk.injEq] at he; exact absurd he.1.symm hne
      | succ i =>
        simp only [List.getElem?_cons_succ] at he hy
        have hx : x.born ≠ b := by
          intro e
          exact hd.1 y (List.mem_of_getElem? hy) (hb.trans e.symm)
        simp only [List.map_cons, if_neg hx]
        exact ⟨_, _, rfl, ⟨h1, h2, h3⟩, ERL.upd hk hv h4 he hy hb hd.2⟩

theorem ERL.ins {c : Nat} {k v : AV} {e : MapEntry} (he : ER θ (c, k, v) e) : ∀ {es : List (Nat × AV × AV)} {L : List MapEntry}, ERL θ es L → ∃ L', ERL θ (insE c k v es) L' ∧ L'.Perm (e :: L)
  | [], L, h => by
    simp only [ERL] at h
    subst h
    exact ⟨[e], ⟨e, [], rfl, he, rfl⟩, List.Perm.refl _⟩
  | (s', k', v') :: es, L, h => by
    obtain ⟨x, xs, rfl, h1, h4⟩ := h
    simp only [insE]
    split
    · exact ⟨e :: x :: xs, ⟨e, _, rfl, he, x, xs, rfl, h1, h4⟩, List.Perm.refl _⟩
    · obtain ⟨L', g1, g2⟩ := ERL.ins he h4
      exact ⟨x :: L', ⟨x, L', rfl, h1, g1⟩, (List.Perm.cons x g2).trans (List.Perm.swap e x xs)⟩

def Th.mark (θ : Th) (c : Nat) (x : Nat) : Th := { θ with stamp := fun n => if n = c then some x else θ.stamp n }
theorem Th.le_mark {θ : Th} {c x : Nat} (h : θ.stamp c = none) : θ.Le (θ.mark c x) :=
  ⟨fun _ _ e => e, fun n y e => by
    simp only [Th.mark]
    by_cases hc : n = c
    · subst hc; rw [h] at e; cases e
    · rw [if_neg hc]; exact e, rfl⟩
/-- More is known of the names: the memory's relation stays, where no address is new. -/
theorem HR.mark (h : HR B w0 θ G w) {c x : Nat} (hc : θ.stamp c = none) : HR B w0 (θ.mark c x) G w :=
  ⟨fun n o e => by
    obtain ⟨b, d, r, y, h1, h2, h3, h4⟩ := h.obj n o e
    exact ⟨b, d, r, y, h1, h2, h3, h4.mono (Th.le_mark hc)⟩, h.sep, h.base, h.env⟩

theorem sMapUpdate (h : Cxt P B w0 θ G w lk) {c : Nat} {t : TypeId} {x k v : AV} {xv kv vv : Value} {r : OR} (e : aMapUpdate P lk c t x k v = some r) (hx : VR θ x xv) (hk : VR θ k kv) (hv : VR θ v vv) :
    ∃ l nw, r = .wr l nw (.tup []) ∧ ((nw = true → θ.stamp c = none ∧ G c = none) → ∃ θ' w', (Instr.mapUpdate t xv kv vv).run P w = .ok () w' ∧ θ.Le θ' ∧ (θ'.addr = θ.addr) ∧ (∀ n, (nw = true → n ≠ c) → θ'.stamp n = θ.stamp n) ∧ HR B w0 θ' (applyG l G) w' ∧
      (∀ n o, (n, o) ∈ l → n = c ∧ nw = true ∨ lk n ≠ none) ∧ (nw = true → (c, none) ∈ l)) := by
  unfold aMapUpdate at e
  split at e
  · rename_i kt el hu
    split at e
    · cases e
    · rename_i hko
      obtain ⟨kd, hkd⟩ := keyOK_under hko
      split at e
      · rename_i rn
        split at e
        · rename_i es cl hl
          simp only [VR] at hx
          obtain ⟨b, d, rm, hn, rfl⟩ := hx
          obtain ⟨ob, hob, ents, L, rfl, hp, hL, hd, hcl⟩ := h.at_ hl hn
          have hdL : (L.map (·.born)).Nodup := (hp.map _).nodup_iff.2 hd
          split at e
          · rename_i s q v0 hf
            split at e
            · rename_i hs
              simp only [Option.some.injEq] at e
              subst e
              obtain ⟨rfl, hbits⟩ := sameK_ok (θ := θ) hs
              have := run_find (P := P) (w := w) hkd hk hf hL hp hd
              simp only at this
              obtain ⟨i, j, y, a1, a2, a3, a4⟩ := this
              refine ⟨_, _, rfl, fun _ => ?_⟩
              obtain ⟨z, hz, hz1, hz2, hz3⟩ := hL.get a1
              rw [a2] at hz
              simp only [Option.some.injEq] at hz
              subst hz
              obtain ⟨w', hr, hu'⟩ := run_setObj (P := P) (y := .map (ents.modify j fun e => { e with key := kv, val := vv }) cl) hob (by simp)
              refine ⟨θ, w', ?_, Th.Le.refl θ, rfl, fun _ _ => rfl, ?_, ?_, by simp⟩
              · have hj : ents[j]? = some y := by simpa using a3
                simp only [Instr.mapUpdate, Sem.run_bind, run_underlying hu, Result.andThen_ok, run_getObj hob (by simp), Sem.run_pure, sKeyOK _ 8 hko hk 10000 (by omega), a4, hj, Option.map_some, Option.getD_some,
                  Instr.keyThatStays, if_pos (hbits hz2 hk 9999)]
                exact hr
              · have hgn := h.lk _ _ hl
                refine h.hr.upd (o' := .map (updE s v es) cl) hgn hn hu' ⟨_, L.map fun e => if e.born = y.born then { e with key := kv, val := vv } else e, rfl, ?_, ?_, ?_, ?_⟩ (by simp [applyG, Hp.set]) ?_
                · rw [Array.toList_modify, modify_born a3 rfl hd]
                  exact hp.map _
                · exact ERL.upd hk hv hL a1 a2 rfl hdL
                · rw [Array.toList_modify, modify_born a3 rfl hd, List.map_map]
                  have : (ents.toList.map ((fun e => e.born) ∘ fun e => if e.born = y.born then { e with key := kv, val := vv } else e)) = ents.toList.map (·.born) := by
                    apply List.map_congr_left
                    intro e _
                    simp only [Function.comp]
                    split <;> rfl
                  rw [this]; exact hd
                · rw [Array.toList_modify, modify_born a3 rfl hd]
                  intro e he
                  obtain ⟨e0, he0, rfl⟩ := List.mem_map.1 he
                  have := hcl e0 he0
                  split <;> exact this
                · intro m p hm hp
                  simp only [applyG, Hp.set, if_neg hm] at hp
                  exact ⟨hp, by simp [mateOf]⟩
              · intro n o hno
                simp only [List.mem_singleton, Prod.mk.injEq] at hno
                rw [hno.1]
                right; rw [hl]; simp
            · cases e
          · rename_i hf
            simp only [Option.some.injEq] at e
            subst e
            have := run_find (P := P) (w := w) hkd hk hf hL hp hd
            simp only at this
            refine ⟨_, _, rfl, fun hfr => ?_⟩
            obtain ⟨hst, hgc⟩ := hfr rfl
            obtain ⟨w', hr, hu'⟩ := run_setObj (P := P) (y := .map (ents.push { key := kv, val := vv, born := cl }) (cl + 1)) hob (by simp)
            have hle := Th.le_mark (θ := θ) (x := cl) hst
            obtain ⟨L', hL', hp'⟩ := ERL.ins (θ := θ.mark c cl) (e := { key := kv, val := vv, born := cl }) (c := c) (k := k) (v := v) ⟨by simp [Th.mark], VR.mono hle _ _ hk, VR.mono hle _ _ hv⟩ (hL.mono hle)
            refine ⟨θ.mark c cl, w', ?_, hle, rfl, fun n hn => by simp [Th.mark, hn rfl], ?_, ?_, by simp⟩
            · simp only [Instr.mapUpdate, Sem.run_bind, run_underlying hu, Result.andThen_ok, run_getObj hob (by simp), sKeyOK _ 8 hko hk 10000 (by omega), this]
              exact hr
            · have hgn := h.lk _ _ hl
              have hrc : rn ≠ c := by rintro rfl; rw [hgn] at hgc; cases hgc
              have hperm : L'.Perm (ents.push { key := kv, val := vv, born := cl }).toList := by
                rw [Array.toList_push]
                refine hp'.trans ((List.Perm.cons _ hp).trans ?_)
                exact (List.perm_append_comm (l₁ := [_]) (l₂ := ents.toList))
              refine (h.hr.mark (x := cl) hst).upd (G' := applyG _ G) (o' := .map (insE c k v es) (cl + 1)) hgn hn hu' ⟨_, L', rfl, hperm, hL', ?_, ?_⟩ (by simp [applyG, Hp.set, hrc]) ?_
              · rw [Array.toList_push, List.map_append]
                refine List.nodup_append.2 ⟨hd, by simp, ?_⟩
                intro a ha b hb
                simp only [List.map_cons, List.map_nil, List.mem_singleton] at hb
                subst hb
                obtain ⟨e, he, rfl⟩ := List.mem_map.1 ha
                have := hcl e he
                omega
              · rw [Array.toList_push]
                intro e he
                rcases List.mem_append.1 he with he | he
                · have := hcl e he; omega
                · simp only [List.mem_singleton] at he; subst he; simp
              · intro m p hm hp
                simp only [applyG, Hp.set, if_neg hm] at hp
                split at hp
                · cases hp
                · exact ⟨hp, by simp [mateOf]⟩
            · intro n o hno
              simp only [List.mem_cons, Prod.mk.injEq, List.not_mem_nil, or_false] at hno
              rcases hno with ⟨rfl, _⟩ | ⟨rfl, _⟩
              · right; rw [hl]; simp
              · left; exact ⟨rfl, rfl⟩
          · cases e
        · cases e
      · cases e
  · cases e
end
end Go.AE
/-
  Each operation of the evaluator is sound: ranging over a map.
-/
namespace Go.AE
section
variable {P : Program} {B : Nat → Prop} {w0 : World} {θ : Th} {G : Hp} {w : World} {lk : Nat → Option AObj}

theorem run_newObj2 (o : Obj) : ∃ w', (newObj o).run P w = .ok w.heap.size w' ∧ New w w' o := run_newObj' o

theorem sRange (h : Cxt P B w0 θ G w lk) {c : Nat} {t : TypeId} {x : AV} {xv : Value} {r : OR} (e : aRange P lk c t x = some r) (hx : VR θ x xv) :
    ∃ o, r = .wr [(c, some o)] true (.ptr c 0) ∧ (θ.addr c = none → ∃ w', (Instr.range t xv).run P w = .ok (.pointer (some ⟨w.heap.size, 0, none⟩)) w' ∧ HR B w0 (θ.bind c (w.heap.size, 0, 0)) (G.set c (some o)) w') := by
  unfold aRange at e
  split at e
  · rename_i k el hu
    simp only [Option.some.injEq] at e
    subst e
    refine ⟨_, rfl, fun hc => ?_⟩
    simp only [VR] at hx
    subst hx
    obtain ⟨w', hr, hn⟩ := run_newObj2 (P := P) (w := w) (.mapIter none 0 #[] 0)
    refine ⟨w', ?_, h.hr.new hc hn ⟨#[], 0, rfl, by simp [SR], rfl, rfl⟩⟩
    simp only [Instr.range, Sem.run_bind, run_underlying hu, Result.andThen_ok, Sem.run_pure, hr]
  · rename_i k el m hu
    split at e
    · rename_i es cl hl
      simp only [Option.some.injEq] at e
      subst e
      refine ⟨_, rfl, fun hc => ?_⟩
      simp only [VR] at hx
      obtain ⟨b, d, rm, hn, rfl⟩ := hx
      obtain ⟨ob, hob, ents, L, rfl, _⟩ := h.at_ hl hn
      obtain ⟨w', hr, hnew⟩ := run_newObj2 (P := P) (w := w) (.mapIter (some b) cl #[] cl)
      have hle := Th.le_bind (x := (w.heap.size, 0, 0)) hc
      refine ⟨w', ?_, h.hr.new hc hnew ⟨#[], cl, ⟨b, d, rm, hle.addr _ _ hn, rfl⟩, by simp [SR], rfl, rfl⟩⟩
      simp only [Instr.range, Sem.run_bind, run_underlying hu, Result.andThen_ok, run_getObj hob (by simp), Sem.run_pure, hr]
    · cases e
  · cases e

theorem memN_iff {n : Nat} : ∀ {l : List Nat}, memN n l = true ↔ n ∈ l
  | [] => by simp [memN]
  | x :: xs => by
    simp only [memN, List.mem_cons]
    split
    · rename_i h; simp only [Nat.beq_eq] at h; simp [h]
    · rename_i h
      have : n ≠ x := by rintro rfl; simp at h
      simp [this, memN_iff]
theorem allIn_iff {es : List (Nat × AV × AV)} : ∀ {l : List Nat}, allIn es l = true → ∀ s ∈ l, s ∈ es.map (·.1)
  | [], _ => by simp
  | x :: xs, h => by
    simp only [allIn, Bool.and_eq_true, memN_iff] at h
    intro s hs
    rcases List.mem_cons.1 hs with rfl | hs
    · exact h.1
    · exact allIn_iff h.2 s hs
theorem SR.fwd : ∀ {l xs : List Nat}, SR θ l xs → ∀ s ∈ l, ∃ x ∈ xs, θ.stamp s = some x
  | [], _, _ => by simp
  | s :: l, xs, h => by
    obtain ⟨x, xs, rfl, h1, h2⟩ := h
    intro s' hs'
    rcases List.mem_cons.1 hs' with rfl | hs'
    · exact ⟨x, List.mem_cons_self .., h1⟩
    · obtain ⟨y, hy, hy'⟩ := SR.fwd h2 s' hs'
      exact ⟨y, List.mem_cons_of_mem _ hy, hy'⟩
theorem SR.bwd : ∀ {l xs : List Nat}, SR θ l xs → ∀ x ∈ xs, ∃ s ∈ l, θ.stamp s = some x
  | [], _, h => by simp only [SR] at h; subst h; simp
  | s :: l, xs, h => by
    obtain ⟨x, xs, rfl, h1, h2⟩ := h
    intro x' hx'
    rcases List.mem_cons.1 hx' with rfl | hx'
    · exact ⟨s, List.mem_cons_self .., h1⟩
    · obtain ⟨y, hy, hy'⟩ := SR.bwd h2 x' hx'
      exact ⟨y, List.mem_cons_of_mem _ hy, hy'⟩

theorem nodup_pos {M : List MapEntry} (hd : (M.map (·.born)).Nodup) {i j : Nat} {x y : MapEntry} (hi : M[i]? = some x) (hj : M[j]? = some y) (e : x.born = y.born) : i = j := by
  have h1 : (M.map (·.born))[i]? = some x.born := by simp [hi]
  have h2 : (M.map (·.born))[j]? = some x.born := by simp [hj, e]
  obtain ⟨hi', _⟩ := List.getElem?_eq_some_iff.1 h1
  exact (List.getElem?_inj hi' hd).1 (h1.trans h2.symm)

theorem seen_iff {es : List (Nat × AV × AV)} {L : List MapEntry} {seen : List Nat} {sn : Array Nat} (hL : ERL θ es L) (hd : (L.map (·.born)).Nodup) (hs : SR θ seen sn.toList.reverse) (ha : allIn es seen = true)
    {i s : Nat} {k v : AV} {x : MapEntry} (hi : es[i]? = some (s, k, v)) (hx : L[i]? = some x) : memN s seen = sn.contains x.born := by
  obtain ⟨y, hy, hst, _, _⟩ := hL.get hi
  rw [hx] at hy
  simp only [Option.some.injEq] at hy
  subst hy
  rw [Bool.eq_iff_iff, memN_iff]
  simp only [Array.contains_iff_mem]
  constructor
  · intro h
    obtain ⟨b, hb, hb'⟩ := hs.fwd s h
    simp only at hst
    rw [hst] at hb'
    simp only [Option.some.injEq] at hb'
    subst hb'
    simpa using hb
  · intro h
    obtain ⟨s', hs', hb'⟩ := hs.bwd x.born (by simpa using h)
    have := allIn_iff ha s' hs'
    obtain ⟨⟨s2, k2, v2⟩, hm, rfl⟩ := List.mem_map.1 this
    obtain ⟨j, hj⟩ := List.getElem?_of_mem hm
    obtain ⟨z, hz, hz', _⟩ := hL.get hj
    simp only at hz'
    rw [hb'] at hz'
    simp only [Option.some.injEq] at hz'
    have := nodup_pos hd hx hz hz'
    subst this
    rw [hi] at hj
    simp only [Option.some.injEq, Prod.mk.injEq] at hj
    rw [hj.1]; exact hs'

theorem leftE_mem {seen : List Nat} : ∀ {es : List (Nat × AV × AV)} {n i s : Nat} {k v : AV}, es[i]? = some (s, k, v) → memN s seen = false → (n + i, s, k, v) ∈ leftE seen es n
  | [], _, _, _, _, _, h, _ => by simp at h
  | (s', k', v') :: es, n, i, s, k, v, h, hm => by
    simp only [leftE]
    cases i with
    | zero =>
      simp only [List.getElem?_cons_zero, Option.some.injEq, Prod.mk.injEq] at h
      obtain ⟨rfl, rfl, rfl⟩ := h
      simp [hm]
    | succ i =>
      simp only [List.getElem?_cons_succ] at h
      have := leftE_mem (n := n + 1) h hm
      rw [show n + 1 + i = n + (i + 1) from by omega] at this
      split
      · exact this
      · exact List.mem_cons_of_mem _ this
theorem mem_leftE {seen : List Nat} : ∀ {es : List (Nat × AV × AV)} {n : Nat} {q : Nat × Nat × AV × AV}, q ∈ leftE seen es n → ∃ i : Nat, es[i]? = some q.2 ∧ memN q.2.1 seen = false
  | [], _, _, h => by simp [leftE] at h
  | (s', k', v') :: es, n, q, h => by
    simp only [leftE] at h
    split at h
    · obtain ⟨i, h1, h2⟩ := mem_leftE h
      exact ⟨i + 1, by simpa using h1, h2⟩
    · rename_i hm
      rcases List.mem_cons.1 h with rfl | h
      · exact ⟨0, by simp, hm⟩
      · obtain ⟨i, h1, h2⟩ := mem_leftE h
        exact ⟨i + 1, by simpa using h1, h2⟩

theorem run_pick (n : Nat) (hn : 0 < n) : ∃ k d, (choose (.mapNext n)).run P w = .ok k { w with drawn := d } ∧ k < n := by
  rw [run_choose]
  by_cases h : n ≤ 1
  · refine ⟨0, w.drawn, ?_, hn⟩
    simp [Question.forced, h]
  · refine ⟨w.tape w.drawn (.mapNext n) % n, w.drawn + 1, ?_, Nat.mod_lt _ hn⟩
    simp [Question.forced, h, Question.cut]

theorem seen_old {sn : Array Nat} {ents : Array MapEntry} {cl : Nat} (hcl : ∀ e ∈ ents.toList, e.born < cl) : (!sn.isEmpty && !ents.isEmpty && ents.all fun e => decide (e.born ≥ cl)) = false := by
  cases he : ents.toList with
  | nil =>
    have : ents = #[] := by apply Array.ext'; simp [he]
    subst this; simp
  | cons x l =>
    have hx := hcl x (by rw [he]; exact List.mem_cons_self ..)
    have : (ents.all fun e => decide (e.born ≥ cl)) = false := by
      rw [← Array.all_toList, he]
      simp only [List.all_cons, Bool.and_eq_false_iff, decide_eq_false_iff_not]
      left; omega
    rw [this]; simp

/-- What a step over a map finds. -/
theorem sNext (h : Cxt P B w0 θ G w lk) {it : AV} {iv : Value} {r : OR} {ty : TypeId} (e : aNext lk it = some r) (hi : VR θ it iv) :
    (∃ v y, (r = .val v ∨ ∃ c, r = .setc v c) ∧ VR θ v y ∧ ∃ d, (Instr.next iv false ty).run P w = .ok y { w with drawn := d }) ∨
    (∃ l ll v nc y w', r = .alts l ∧ (ll, v, nc) ∈ l ∧ (Instr.next iv false ty).run P w = .ok y w' ∧ VR θ v y ∧ HR B w0 θ (applyG ll G) w') := by
  have tupF : VR θ (.tup [.bool false]) (.tuple #[.bool false]) := by
    simp only [VR, VRL]
    exact ⟨#[.bool false], rfl, .bool false, [], rfl, rfl, rfl⟩
  unfold aNext at e
  split at e
  · rename_i q
    simp only [VR] at hi
    obtain ⟨b, d, rm, hn, rfl⟩ := hi
    split at e
    · rename_i a1 a2 a3 a4 hl
      simp only [Option.some.injEq] at e
      subst e
      obtain ⟨ob, hob, sn, last, rfl, _, _, rfl⟩ := h.at_ hl hn
      refine .inl ⟨_, _, .inl rfl, tupF, w.drawn, ?_⟩
      simp only [Instr.next, Nat.add_zero, Sem.run_bind, run_getObj hob (by simp), Result.andThen_ok, Sem.run_pure]
    · rename_i m since seen stepped start hl
      split at e
      · rename_i es cl hm
        split at e
        · cases e
        · rename_i hc
          simp only [Bool.and_eq_true, Nat.beq_eq] at hc
          obtain ⟨⟨rfl, rfl⟩, hall⟩ := hc
          obtain ⟨ob, hob, sn, last, ⟨bm, dm, rmm, hmn, rfl⟩, hsr, rfl, rfl⟩ := h.at_ hl hn
          obtain ⟨om, hom, ents, L, rfl, hp, hL, hd, hcl⟩ := h.at_ hm hmn
          have hdL : (L.map (·.born)).Nodup := (hp.map _).nodup_iff.2 hd
          -- what is left
          have left_ : ∀ x ∈ ents.toList, sn.contains x.born = false → ∃ i s k v, (i, s, k, v) ∈ leftE seen es 0 ∧ L[i]? = some x ∧ ER θ (s, k, v) x := by
            intro x hx hsn
            obtain ⟨i, hi⟩ := List.getElem?_of_mem (hp.mem_iff.2 hx)
            obtain ⟨⟨s, k, v⟩, he, her⟩ := hL.back hi
            have hms := seen_iff hL hdL hsr hall he hi
            rw [hsn] at hms
            have := leftE_mem (n := 0) he hms
            rw [Nat.zero_add] at this
            exact ⟨i, s, k, v, this, hi, her⟩
          have left' : ∀ y ∈ leftE seen es 0, ∃ x ∈ ents.toList, sn.contains x.born = false := by
            intro y hy
            obtain ⟨i, he, hms⟩ := mem_leftE hy
            obtain ⟨x, hx, _⟩ := hL.get he
            exact ⟨x, hp.mem_iff.1 (List.mem_of_getElem? hx), by rw [← seen_iff hL hdL hsr hall he hx]; exact hms⟩
          have hold : ∀ es' : Array MapEntry, es' = (ents.filter fun e => !sn.contains e.born) → (es'.filter fun e => decide (e.born < last)) = es' ∧ (es'.filter fun e => decide (e.born ≥ last)) = #[] := by
            rintro _ rfl
            constructor
            · rw [Array.filter_eq_self]
              intro x hx
              rw [Array.mem_filter] at hx
              have := hcl x (by simpa using hx.1)
              simpa using this
            · rw [Array.filter_eq_empty_iff]
              intro x hx
              rw [Array.mem_filter] at hx
              have := hcl x (by simpa using hx.1)
              simp; omega
          obtain ⟨ho1, ho2⟩ := hold _ rfl
          have over : leftE seen es 0 = [] → ∃ d, (Instr.next (.pointer (some ⟨b, 0 + 0, none⟩)) false ty).run P w = .ok (.tuple #[.bool false]) { w with drawn := d } := by
            intro hnil
            have hemp : (ents.filter fun e => !sn.contains e.born) = #[] := by
              rw [Array.filter_eq_empty_iff]
              intro x hx hns
              obtain ⟨i, s, k, v, hmem, _⟩ := left_ x (by simpa using hx) (by simpa using hns)
              rw [hnil] at hmem
              simp at hmem
            refine ⟨w.drawn, ?_⟩
            simp only [Instr.next, Nat.add_zero, Sem.run_bind, run_getObj hob (by simp), run_getObj hom (by simp), Result.andThen_ok, seen_old hcl, Bool.false_eq_true, if_false, hemp, run_choose]
            simp [Question.forced]
          have more : ∀ y, y ∈ leftE seen es 0 → ∃ i s k v yv w', (i, s, k, v) ∈ leftE seen es 0 ∧ (Instr.next (.pointer (some ⟨b, 0 + 0, none⟩)) false ty).run P w = .ok yv w' ∧ VR θ (.tup [.bool true, k, v]) yv ∧
              HR B w0 θ (applyG [(q, some (.iter (some m) last (s :: seen) last start))] G) w' := by
            intro y hy
            obtain ⟨x0, hx0, hs0⟩ := left' y hy
            have hx0' : x0 ∈ ents := by simpa using hx0
            have hne : (ents.filter fun (e : MapEntry) => !sn.contains e.born).isEmpty = false := by
              rw [Bool.eq_false_iff]
              intro he
              rw [Array.isEmpty_iff, Array.filter_eq_empty_iff] at he
              exact he x0 hx0' (by rw [hs0]; rfl)
            have hmemf : ∀ x, x ∈ (ents.filter fun (e : MapEntry) => !sn.contains e.born) → x ∈ ents.toList ∧ sn.contains x.born = false := by
              intro x hx
              rw [Array.mem_filter] at hx
              exact ⟨by simpa using hx.1, by simpa using hx.2⟩
            generalize hlf : (ents.filter fun (e : MapEntry) => !sn.contains e.born) = lf at hne hmemf ho1 ho2
            have hlf0 : lf.size ≠ 0 := by
              intro h0
              rw [Bool.eq_false_iff] at hne
              exact hne (by simp [Array.isEmpty, h0])
            have hsz : 0 < (#[] ++ (lf ++ #[]).map some).size := by simp; omega
            obtain ⟨k0, d0, hpick, hk0⟩ := run_pick (P := P) (w := w) _ hsz
            have hk1 : k0 < lf.size := by simpa using hk0
            have hget : ∃ x, (#[] ++ (lf ++ #[]).map some)[k0]? = some (some x) ∧ x ∈ lf := ⟨lf[k0], by simp [hk1], by simp⟩
            obtain ⟨x, hxk, hxm⟩ := hget
            obtain ⟨hxm1, hxm2⟩ := hmemf x hxm
            obtain ⟨i, s, k, v, hmem, hLi, her⟩ := left_ x hxm1 hxm2
            have hob' : ({ w with drawn := d0 } : World).heap[b]? = some (.mapIter (some bm) last sn last) := hob
            obtain ⟨w', hset, hupd⟩ := run_setObj (P := P) (y := .mapIter (some bm) last (sn.push x.born) last) hob' (by simp)
            refine ⟨i, s, k, v, .tuple #[.bool true, x.key, x.val], w', hmem, ?_, ?_, ?_⟩
            · simp only [Instr.next, Nat.add_zero, Sem.run_bind, run_getObj hob (by simp), run_getObj hom (by simp), Result.andThen_ok, seen_old hcl, Bool.false_eq_true, if_false, hlf, ho1, ho2, hne, hpick, hxk, hset, Sem.run_pure]
            · simp only [VR, VRL]
              exact ⟨#[.bool true, x.key, x.val], rfl, .bool true, [x.key, x.val], rfl, rfl, x.key, [x.val], rfl, her.2.1, x.val, [], rfl, her.2.2, rfl⟩
            · have hgn := h.lk _ _ hl
              refine (h.hr.drew d0).upd (G' := applyG _ G) (o' := .iter (some m) last (s :: seen) last start) hgn hn hupd ⟨sn.push x.born, last, ⟨bm, dm, rmm, hmn, rfl⟩, ?_, rfl, rfl⟩ (by simp [applyG, Hp.set]) ?_
              · simp only [Array.toList_push, List.reverse_append, List.reverse_cons, List.reverse_nil, List.nil_append, List.cons_append]
                exact ⟨x.born, _, rfl, her.1, hsr⟩
              · intro m' p hm' hp'
                simp only [applyG, Hp.set, if_neg hm'] at hp'
                exact ⟨hp', by simp [mateOf]⟩
          have some_ : (leftE seen es 0 = [] → False) → ∃ y, y ∈ leftE seen es 0 := by
            intro hne
            cases hle : leftE seen es 0 with
            | nil => exact absurd hle hne
            | cons y _ => exact ⟨y, List.mem_cons_self ..⟩
          split at e
          · rename_i hnil
            simp only [Option.some.injEq] at e
            subst e
            obtain ⟨d, hd⟩ := over hnil
            exact .inl ⟨_, _, .inr ⟨_, rfl⟩, tupF, d, hd⟩
          · rename_i hnil
            simp only [Option.some.injEq] at e
            subst e
            obtain ⟨d, hd⟩ := over hnil
            exact .inl ⟨_, _, .inl rfl, tupF, d, hd⟩
          · rename_i hne
            simp only [Option.some.injEq] at e
            subst e
            obtain ⟨y, hy⟩ := some_ (by assumption)
            obtain ⟨i, s, k, v, yv, w', hmem, hrun, hv, hhr⟩ := more y hy
            exact .inr ⟨_, _, _, _, yv, w', rfl, List.mem_map.2 ⟨_, hmem, rfl⟩, hrun, hv, hhr⟩
          · rename_i hne
            simp only [Option.some.injEq] at e
            subst e
            obtain ⟨y, hy⟩ := some_ (by assumption)
            obtain ⟨i, s, k, v, yv, w', hmem, hrun, hv, hhr⟩ := more y hy
            exact .inr ⟨_, _, _, _, yv, w', rfl, List.mem_map.2 ⟨_, hmem, rfl⟩, hrun, hv, hhr⟩
      · cases e
    · cases e
  · cases e

theorem findS_some {s : Nat} : ∀ {es : List (Nat × AV × AV)} {r : OR}, aEntry.findS s es = some r → ∃ (i : Nat) (k v : AV), es[i]? = some (s, k, v) ∧ r = .val (.tup [k, v])
  | [], r, h => by simp [aEntry.findS] at h
  | (s', k, v) :: es, r, h => by
    simp only [aEntry.findS] at h
    split at h
    · rename_i hs
      simp only [Nat.beq_eq] at hs
      subst hs
      simp only [Option.some.injEq] at h
      exact ⟨0, k, v, by simp, h.symm⟩
    · obtain ⟨i, k, v, h1, h2⟩ := findS_some h
      exact ⟨i + 1, k, v, by simpa using h1, h2⟩

theorem sEntry (h : Cxt P B w0 θ G w lk) {it : AV} {iv : Value} {r : OR} (e : aEntry lk it = some r) (hi : VR θ it iv) : ∃ v y, r = .val v ∧ VR θ v y ∧ (Instr.entry iv).run P w = .ok y w := by
  unfold aEntry at e
  split at e
  · rename_i q
    simp only [VR] at hi
    obtain ⟨b, d, rm, hn, rfl⟩ := hi
    split at e
    · rename_i m since s seen stepped start hl
      split at e
      · rename_i es cl hm
        split at e
        · cases e
        · rename_i hc
          simp only [Bool.and_eq_true, Nat.beq_eq] at hc
          obtain ⟨rfl, rfl⟩ := hc
          obtain ⟨ob, hob, sn, last, ⟨bm, dm, rmm, hmn, rfl⟩, hsr, rfl, rfl⟩ := h.at_ hl hn
          obtain ⟨om, hom, ents, L, rfl, hp, hL, hd, hcl⟩ := h.at_ hm hmn
          obtain ⟨i, k, v, hes, rfl⟩ := findS_some e
          obtain ⟨x, hx, hst, hk, hv⟩ := hL.get hes
          obtain ⟨x0, xs0, hrev, hx0, _⟩ := hsr
          simp only at hst
          rw [hst] at hx0
          simp only [Option.some.injEq] at hx0
          subst hx0
          have hback : sn.back? = some x.born := by
            have := congrArg List.head? hrev
            simpa using this
          have hxe : x ∈ ents.toList := hp.mem_iff.1 (List.mem_of_getElem? hx)
          have hfind : ents.find? (fun e => e.born == x.born) = some x := by
            rw [← Array.find?_toList]
            cases hf : ents.toList.find? (fun e => e.born == x.born) with
            | none =>
              rw [List.find?_eq_none] at hf
              exact absurd (by simp) (hf x hxe)
            | some z =>
              have h1 := List.find?_some hf
              simp only [beq_iff_eq] at h1
              have h2 := List.mem_of_find?_eq_some hf
              obtain ⟨i1, hi1⟩ := List.getElem?_of_mem h2
              obtain ⟨i2, hi2⟩ := List.getElem?_of_mem hxe
              have := nodup_pos hd hi1 hi2 h1
              subst this
              rw [hi1] at hi2
              exact hi2
          refine ⟨_, .tuple #[x.key, x.val], rfl, ?_, ?_⟩
          · simp only [VR, VRL]
            exact ⟨#[x.key, x.val], rfl, x.key, [x.val], rfl, hk, x.val, [], rfl, hv, rfl⟩
          · simp only [Instr.entry, Nat.add_zero, Sem.run_bind, run_getObj hob (by simp), run_getObj hom (by simp), Result.andThen_ok, hback, hfind, bne_self_eq_false, Bool.false_eq_true, if_false, Sem.run_pure]
      · cases e
    · cases e
  · cases e
end
end Go.AE
/-
  Each operation of the evaluator is sound: all of them together.
-/
namespace Go.AE

/-- The name is free. -/
structure Free (θ : Th) (G : Hp) (c : Nat) : Prop where
  addr : θ.addr c = none
  stamp : θ.stamp c = none
  obj : G c = none

/-- What writes leave behind. -/
structure Wrote (B : Nat → Prop) (w0 : World) (θ : Th) (G : Hp) (c : Nat) (l : List (Nat × Option AObj)) (nw : Bool) (θ' : Th) (w' : World) : Prop where
  le : θ.Le θ'
  other : ∀ n, (nw = true → n ≠ c) → θ'.addr n = θ.addr n ∧ θ'.stamp n = θ.stamp n
  hr : HR B w0 θ' (applyG l G) w'
  new : nw = true → ∃ o, (c, o) ∈ l

def Gives (R : Result Next) (y : Value) (w' : World) : Prop := R = .ok (.value y) w' ∨ (R = .ok .skip w' ∧ y = undef)

/-- What an operation's word says of the run. -/
def Post (P : Program) (B : Nat → Prop) (w0 : World) (θ : Th) (G : Hp) (w : World) (c : Nat) (R : Result Next) : OR → Prop
  | .val v => ∃ y w', Gives R y w' ∧ VR θ v y ∧ HR B w0 θ G w'
  | .wr l nw v => (nw = true → ∃ o, (c, o) ∈ l) ∧ ((nw = true → Free θ G c) → ∃ y θ' w', Gives R y w' ∧ Wrote B w0 θ G c l nw θ' w' ∧ VR θ' v y)
  | .alts l => ∃ ll v nc y w', (ll, v, nc) ∈ l ∧ Gives R y w' ∧ HR B w0 θ (applyG ll G) w' ∧ VR θ v y
  | .setc v _ => ∃ y w', Gives R y w' ∧ VR θ v y ∧ HR B w0 θ G w'
  | .enter f as => ∃ xs : Array Value, R = .ok (.enter f xs) w ∧ VRL θ as xs.toList ∧ fnOK P f = true
  | .round l as => ∃ b d r, ∃ xs : Array Value, θ.addr l = some (b, d, r) ∧ VRL θ as xs.toList ∧ R = (Instr.yield b xs).run P w
  | .defer d => ∃ x, R = .ok (.defer x) w ∧ DR θ d x
  | .recov => R = .ok .recover w
  | .panic v => ∃ y, R = .halt (.panic y) w ∧ VR θ v y

section
variable {P : Program} {B : Nat → Prop} {w0 : World} {θ : Th} {G : Hp} {w : World} {lk : Nat → Option AObj}

/-- The operands and what is known of them. -/
def EvR (θ : Th) (T : Tm) (ρ : Operand → Value) (A : Operand → Prop) : Prop := ∀ x, A x → VR θ (evO T x) (ρ x)

theorem EvR.mono {T : Tm} {ρ : Operand → Value} {A A' : Operand → Prop} (h : EvR θ T ρ A) (k : ∀ x, A' x → A x) : EvR θ T ρ A' := fun x hx => h x (k x hx)
theorem evR_of {T : Tm} {fr : Frame} {A : Operand → Prop} (h : ∀ t, A (.tmp t) → VR θ (getT T t) (fr.tmps.getD t undef)) : EvR θ T fr.eval A := by
  intro x hA
  cases x with
  | tmp t => exact h t hA
  | const v => exact ofV_rel θ v
  | global g => simp only [evO, VR]
  | func f => simp only [evO, VR, Frame.eval]; exact ⟨.func f, #[], #[], rfl, rfl, rfl, rfl⟩
theorem TR.evR {T : Tm} {n : Nat} {fr : Frame} (h : TR θ T n fr.tmps) (A : Operand → Prop) : EvR θ T fr.eval A := evR_of fun t _ => h.val t

theorem EvR.list {T : Tm} {ρ : Operand → Value} {A : Operand → Prop} (h : EvR θ T ρ A) : ∀ l : List Operand, (∀ x ∈ l, A x) → VRL θ (evL T l) (l.map ρ)
  | [], _ => by simp [evL, VRL]
  | x :: l, k => by simp only [evL, List.map, VRL]; exact ⟨_, _, rfl, h x (k x (List.mem_cons_self ..)), EvR.list h l fun y hy => k y (List.mem_cons_of_mem _ hy)⟩
theorem EvR.parts {T : Tm} {ρ : Operand → Value} {A : Operand → Prop} (h : EvR θ T ρ A) : ∀ l : List (Nat × Operand), (∀ p ∈ l, A p.2) → PL θ (evParts T l) (l.map fun p => (p.1, ρ p.2))
  | [], _ => by simp [evParts, PL]
  | (i, x) :: l, k => by simp only [evParts, List.map, PL]; exact ⟨_, _, rfl, h x (k _ (List.mem_cons_self ..)), EvR.parts h l fun y hy => k y (List.mem_cons_of_mem _ hy)⟩
theorem EvR.opt {T : Tm} {ρ : Operand → Value} {A : Operand → Prop} (h : EvR θ T ρ A) (x : Option Operand) (k : ∀ y, x = some y → A y) : OV θ (evO? T x) (x.map ρ) := by
  cases x with
  | none => simp [evO?, OV]
  | some x => simp only [evO?, OV, Option.map]; exact ⟨_, rfl, h x (k x rfl)⟩

theorem post_val {c : Nat} {r : OR} {v : AV} {y : Value} {S : Sem Value} (h : Cxt P B w0 θ G w lk) (e : r = .val v) (hr : S.run P w = .ok y w) (hv : VR θ v y) :
    Post P B w0 θ G w c ((do pure (.value (← S)) : Sem Next).run P w) r := by
  subst e
  exact ⟨y, w, .inl (by simp only [Sem.run_bind, hr, Result.andThen_ok, Sem.run_pure]), hv, h.hr⟩
theorem post_wrok {c : Nat} {r : OR} {S : Sem Value} (hw : (∀ l v, r = .wr l true v → θ.addr c = none) → WrOK B w0 θ G c r (S.run P w)) (hnew : ∀ l v, r = .wr l true v → ∃ o, (c, o) ∈ l) :
    Post P B w0 θ G w c ((do pure (.value (← S)) : Sem Next).run P w) r := by
  cases r with
  | val v =>
    rcases hw (fun _ _ e => by cases e) with ⟨v', y, w', e, hr, hv, hh⟩ | ⟨l, v', x, w', e, _⟩ | ⟨l, v', x, w', θ', e, _⟩
    · cases e; exact ⟨y, w', .inl (by simp only [Sem.run_bind, hr, Result.andThen_ok, Sem.run_pure]), hv, hh⟩
    · cases e
    · cases e
  | wr l nw v =>
    refine ⟨fun e => hnew l v (by rw [e]), fun hfr => ?_⟩
    rcases hw (fun l' v' e => by cases e; exact (hfr rfl).addr) with ⟨v', y, w', e, hr, hv, hh⟩ | ⟨l', v', y, w', e, hr, hv, hh⟩ | ⟨l', v', y, w', θ', e, hr, hn, hv, hh⟩
    · cases e
    · cases e; exact ⟨y, θ, w', .inl (by simp only [Sem.run_bind, hr, Result.andThen_ok, Sem.run_pure]), ⟨Th.Le.refl θ, fun _ _ => ⟨rfl, rfl⟩, hh, fun h => by cases h⟩, hv⟩
    · cases e; exact ⟨y, θ', w', .inl (by simp only [Sem.run_bind, hr, Result.andThen_ok, Sem.run_pure]), ⟨hn.le, fun n h => hn.other n (h rfl), hh, fun _ => hnew _ _ rfl⟩, hv⟩
  | _ => rcases hw (fun _ _ e => by cases e) with ⟨v', y, w', e, _⟩ | ⟨l, v', x, w', e, _⟩ | ⟨l, v', x, w', θ', e, _⟩ <;> cases e
theorem post_new {c : Nat} {l : List (Nat × Option AObj)} {v : AV} {S : Sem Value} (hn : θ.addr c = none → ∃ y w' θ', S.run P w = .ok y w' ∧ NewAt θ θ' c ∧ VR θ' v y ∧ HR B w0 θ' (applyG l G) w') (hl : ∃ o, (c, o) ∈ l) :
    Post P B w0 θ G w c ((do pure (.value (← S)) : Sem Next).run P w) (.wr l true v) := by
  refine ⟨fun _ => hl, fun hfr => ?_⟩
  obtain ⟨y, w', θ', hr, hna, hv, hh⟩ := hn (hfr rfl).addr
  exact ⟨y, θ', w', .inl (by simp only [Sem.run_bind, hr, Result.andThen_ok, Sem.run_pure]), ⟨hna.le, fun n h => hna.other n (h rfl), hh, fun _ => hl⟩, hv⟩

theorem append_new {c : Nat} {t : TypeId} {s x : AV} {l : List (Nat × Option AObj)} {v : AV} (e : aAppend P lk c t s x = some (.wr l true v)) : ∃ o, (c, o) ∈ l := by
  unfold aAppend at e
  simp only [fNat_eq] at e
  repeat' split at e
  all_goals first
    | (cases e; done)
    | (cases e; simp; done)
    | (simp at e; done)
    | (simp only [Option.some.injEq, OR.wr.injEq] at e; obtain ⟨rfl, _⟩ := e; exact ⟨_, List.mem_cons_of_mem _ (List.mem_cons_of_mem _ (List.mem_cons_self ..))⟩)
theorem mapUpdate_new {c : Nat} {t : TypeId} {m k x : AV} {l : List (Nat × Option AObj)} {v : AV} (e : aMapUpdate P lk c t m k x = some (.wr l true v)) : ∃ o, (c, o) ∈ l := by
  unfold aMapUpdate at e
  repeat' split at e
  all_goals first
    | (cases e; done)
    | (cases e; simp; done)
theorem convert_new {c : Nat} {s d : TypeId} {x : AV} {l : List (Nat × Option AObj)} {v : AV} (e : aConvert P lk c s d x = some (.wr l true v)) : ∃ o, (c, o) ∈ l := by
  unfold aConvert at e
  repeat' split at e
  all_goals first
    | (cases e; done)
    | (cases e; simp; done)
    | (unfold oInt at e; simp [fInt_eq] at e; done)
    | (unfold oStr at e; simp [fNats_eq] at e; done)
    | (simp at e; done)

theorem sMax {ts : Array TypeId} {ty : TypeId} : ∀ {l : List AV} {xs : List Value} {k : IntKind} {x : Int} {r : OR}, aMax.go k x l = some r → VRL θ l xs →
    ∃ m, r = .val (.int k m) ∧ (xs.foldlM Builtin.max2 (.int k x)).run P w = .ok (.int k m) w
  | [], xs, k, x, r, e, h => by
    simp only [VRL] at h
    subst h
    simp only [aMax.go] at e
    exact ⟨x, oInt_some e, rfl⟩
  | v :: l, xs, k, x, r, e, h => by
    simp only [VRL] at h
    obtain ⟨y, ys, rfl, h1, h2⟩ := h
    cases v <;> simp only [aMax.go, reduceCtorEq] at e
    simp only [VR] at h1
    subst h1
    rw [List.foldlM_cons, Sem.run_bind]
    simp only [Builtin.max2, Sem.run_pure, Result.andThen_ok]
    split at e
    · rename_i hle
      rw [iLe_eq, decide_eq_true_eq] at hle
      rw [if_neg (by omega)]
      exact sMax (ts := ts) (ty := ty) e h2
    · rename_i hle
      rw [iLe_eq, decide_eq_false_iff_not] at hle
      rw [if_pos (by omega)]
      exact sMax (ts := ts) (ty := ty) e h2

theorem sInvoke {name : String} {args : List AV} {recv : Value} {as : Array Value} {r : OR} (e : aInvoke P name args = some r) (ha : VRL θ args (recv :: as.toList)) {c : Nat} :
    Post P B w0 θ G w c ((callMethod recv name as).run P w) r := by
  unfold aInvoke at e
  split at e
  · rename_i t v rest
    split at e
    · rename_i f hf
      split at e
      · rename_i hok
        simp only [Option.some.injEq] at e
        subst e
        simp only [VRL] at ha
        obtain ⟨x, xs, hx, hv, hrest⟩ := ha
        simp only [List.cons.injEq] at hx
        obtain ⟨rfl, rfl⟩ := hx
        simp only [VR] at hv
        obtain ⟨y, rfl, hv⟩ := hv
        refine ⟨#[y] ++ as, ?_, ?_, hok⟩
        · unfold fnOK at hok
          split at hok
          · rename_i fn hfn
            simp only [Bool.and_eq_true, Bool.not_eq_true'] at hok
            have hb : fn.body.isNone = false := by
              have := hok.2
              cases hbb : fn.body <;> simp_all
            unfold aMethod at hf
            split at hf
            · rename_i i hi
              split at hf
              · rename_i m hm
                split at hf
                · rename_i f' el hp hfu hu
                  simp only [Option.some.injEq] at hf
                  subst hf
                  have hd : ∃ n, P.types.size + Made.depth = n + 1 := ⟨P.types.size + (Made.depth - 1), by unfold Made.depth; omega⟩
                  obtain ⟨n, hn⟩ := hd
                  simp only [callMethod, Sem.run_bind, run_program, Result.andThen_ok, hn, method, run_typeInfo hi, hm, Sem.run_pure, hp, follow, hfu, receiverAt, run_underlying hu, Place.get, callFunc, hfn, hok.1, hb, Bool.false_eq_true, if_false]
                · cases hf
              · cases hf
            · cases hf
          · cases hok
        · simp only [Array.toList_append, List.cons_append, List.nil_append, VRL]
          exact ⟨y, _, rfl, hv, hrest⟩
      · cases e
    · cases e
  · cases e

theorem sCall (h : Cxt P B w0 θ G w lk) {T : Tm} {c : Nat} {ρ : Operand → Value} {k : Call} (hρ : EvR θ T ρ (· ∈ k.operands)) {ty : TypeId} {r : OR} (e : aCall P lk T c k = some r) :
    Post P B w0 θ G w c ((do let d ← resolve ρ k ty; invoke d.target d.args : Sem Next).run P w) r := by
  have hargs := hρ.list k.args.toList fun x hx => by simp only [Call.operands, Array.mem_append]; exact .inr (by simpa using hx)
  unfold aCall at e
  split at e
  · rename_i f hf
    have hfv := hρ f (by simp [Call.operands, hf])
    split at e
    · rename_i g first captured hev
      rw [hev] at hfv
      simp only [VR] at hfv
      obtain ⟨g', fs, cs, hfv, hg, h1, h2⟩ := hfv
      simp only [FR] at hg
      subst hg
      split at e
      · rename_i hok
        simp only [Option.some.injEq] at e
        subst e
        refine ⟨fs ++ k.args.map ρ ++ cs, ?_, ?_, hok⟩
        · unfold fnOK at hok
          split at hok
          · rename_i fn hfn
            simp only [Bool.and_eq_true, Bool.not_eq_true'] at hok
            have hb : fn.body.isNone = false := by
              have := hok.2
              cases hbb : fn.body <;> simp_all
            simp only [resolve, hf, hfv, Deferred.ofValue, Sem.run_bind, Sem.run_pure, Result.andThen_ok, invoke, callFunc, run_program, hfn, hok.1, hb, Bool.false_eq_true, if_false]
          · cases hok
        · have := (h1.append hargs).append h2
          simpa using this
      · cases e
    · rename_i l first captured hev
      rw [hev] at hfv
      simp only [VR] at hfv
      obtain ⟨g', fs, cs, hfv, hg, h1, h2⟩ := hfv
      simp only [FR] at hg
      obtain ⟨b, d, rm, hn, rfl⟩ := hg
      simp only [Option.some.injEq] at e
      subst e
      refine ⟨b, d, rm, fs ++ k.args.map ρ, hn, ?_, ?_⟩
      · have := h1.append hargs
        simpa using this
      · simp only [resolve, hf, hfv, Deferred.ofValue, Sem.run_bind, Sem.run_pure, Result.andThen_ok, invoke]
    · rename_i t name first captured hev
      rw [hev] at hfv
      simp only [VR] at hfv
      obtain ⟨g', fs, cs, hfv, hg, h1, h2⟩ := hfv
      simp only [FR] at hg
      subst hg
      split at e
      · rename_i ms hu
        have hall : VRL θ (first ++ evL T k.args.toList) (fs ++ k.args.map ρ).toList := by
          have := h1.append hargs
          simpa using this
        rcases hL : (fs ++ k.args.map ρ).toList with _ | ⟨x, xs⟩
        · rw [hL] at hall
          have hl := hall.length
          have h0 : first ++ evL T k.args.toList = [] := List.eq_nil_of_length_eq_zero (by simpa using hl.symm)
          rw [h0] at e
          simp [aInvoke] at e
        · rw [hL] at hall
          have hLe : fs ++ k.args.map ρ = (x :: xs).toArray := by rw [← Array.toArray_toList (xs := fs ++ k.args.map ρ), hL]
          have hres : ((do let d ← resolve ρ k ty; invoke d.target d.args : Sem Next).run P w) = (callMethod x name xs.toArray).run P w := by
            simp only [resolve, hf, hfv, Deferred.ofValue, Sem.run_bind, Sem.run_pure, Result.andThen_ok, invoke, hLe]
            have e0 : ((x :: xs).toArray)[0]? = some x := by simp
            have e1 : (x :: xs).toArray.extract 1 (x :: xs).toArray.size = xs.toArray := by simp
            simp only [e0, e1, Sem.run_bind, run_underlying hu, Result.andThen_ok]
          rw [hres]
          exact sInvoke e (by simpa using hall)
      · cases e
    · cases e
  · rename_i b hb
    have hres : ((do let d ← resolve ρ k ty; invoke d.target d.args : Sem Next).run P w) = (builtin b k.argTypes ty (k.args.map fun | .const _ => true | _ => false) (k.args.map ρ)).run P w := by
      simp only [resolve, hb, Sem.run_bind, Sem.run_pure, Result.andThen_ok, invoke]
      rfl
    rw [hres]
    unfold aBuiltin at e
    have hlist : VRL θ (evL T k.args.toList) (k.args.map ρ).toList := by simpa using hargs
    split at e
    · split at e
      · rename_i t u s x ht hu hargs'
        rw [hargs'] at hlist
        simp only [VRL] at hlist
        obtain ⟨sv, _, hl1, hs, xv, _, hl2, hx, hl3⟩ := hlist
        subst hl2 hl3
        have hkar : k.args.map ρ = #[sv, xv] := by rw [← Array.toArray_toList (xs := k.args.map ρ), hl1]
        rw [hkar]
        split at e
        · cases e
        · rename_i ud hni hud
          exact post_wrok (fun hf => sAppend h hf ht hu hud (fun kk hk => hni kk hk) e hs hx) (fun l v hr => append_new (hr ▸ e))
        · cases e
      · cases e
    · split at e
      · rename_i t x ht hargs'
        rw [hargs'] at hlist
        simp only [VRL] at hlist
        obtain ⟨sv, _, hl1, hs, hl2⟩ := hlist
        subst hl2
        have hkar : k.args.map ρ = #[sv] := by rw [← Array.toArray_toList (xs := k.args.map ρ), hl1]
        rw [hkar]
        obtain ⟨v, y, hr, hrun, hv⟩ := sLen (ty := ty) h ht e hs
        exact post_val h hr hrun hv
      · cases e
    · unfold aMax at e
      split at e
      · rename_i kk x rest hargs'
        rw [hargs'] at hlist
        simp only [VRL] at hlist
        obtain ⟨sv, xs, hl1, hs, hl2⟩ := hlist
        simp only [VR] at hs
        subst hs
        have hkar : k.args.map ρ = (Value.int kk x :: xs).toArray := by rw [← Array.toArray_toList (xs := k.args.map ρ), hl1]
        rw [hkar]
        obtain ⟨m, hr, hrun⟩ := sMax (P := P) (w := w) (ts := k.argTypes) (ty := ty) e hl2
        exact post_val (S := Builtin.max_ k.argTypes ty (Value.int kk x :: xs).toArray) h hr (by simp only [Builtin.max_]; exact hrun) (by simp only [VR])
      · cases e
    · simp only [Option.some.injEq] at e
      subst e
      show Result.ok _ _ = _
      rfl
    · cases e
  · rename_i rv name hcl
    have hrv := hρ rv (by simp only [Call.operands, hcl]; exact Array.mem_append.2 (.inl (by simp)))
    have hres : ((do let d ← resolve ρ k ty; invoke d.target d.args : Sem Next).run P w) = (callMethod (ρ rv) name (k.args.map ρ)).run P w := by
      simp only [resolve, hcl, Sem.run_bind, Sem.run_pure, Result.andThen_ok, invoke]
      have e0 : (#[ρ rv] ++ k.args.map ρ)[0]? = some (ρ rv) := by rw [Array.getElem?_append_left (Nat.zero_lt_one)]; rfl
      have e1 : (#[ρ rv] ++ k.args.map ρ).extract 1 (#[ρ rv] ++ k.args.map ρ).size = k.args.map ρ := by
        apply Array.ext'
        simp only [Array.toList_extract, Array.size_append]
        simp only [List.size_toArray, List.length_singleton, Array.size_map, List.extract_eq_take_drop]
        simp [List.take_of_length_le]
      simp only [e0, e1]
    rw [hres]
    refine sInvoke e ?_
    simp only [VRL]
    exact ⟨_, _, rfl, hrv, by simpa using hargs⟩

theorem sDefer {T : Tm} {ρ : Operand → Value} {k : Call} (hρ : EvR θ T ρ (· ∈ k.operands)) {ty : TypeId} {r : OR} (e : aDefer P T k = some r) : ∃ d x, r = .defer d ∧ (resolve ρ k ty).run P w = .ok x w ∧ DR θ d x := by
  have hargs := hρ.list k.args.toList fun x hx => by simp only [Call.operands, Array.mem_append]; exact .inr (by simpa using hx)
  unfold aDefer at e
  split at e
  · rename_i f hf
    have hfv := hρ f (by simp [Call.operands, hf])
    split at e
    · rename_i g first captured hev
      rw [hev] at hfv
      simp only [VR] at hfv
      obtain ⟨g', fs, cs, hfv, hg, h1, h2⟩ := hfv
      simp only [FR] at hg
      subst hg
      split at e
      · simp only [Option.some.injEq] at e
        subst e
        refine ⟨_, _, rfl, by simp only [resolve, hf, hfv, Deferred.ofValue, Sem.run_pure], cs, fs ++ k.args.map ρ, rfl, h2, ?_⟩
        have := h1.append hargs
        simpa using this
      · cases e
    · cases e
  · cases e
end
end Go.AE
/-
  Each operation of the evaluator is sound: the theorem.
-/
namespace Go.AE
section
variable {P : Program} {B : Nat → Prop} {w0 : World} {θ : Th} {G : Hp} {w : World} {lk : Nat → Option AObj}

theorem post_oval {c : Nat} {S : Sem Value} {v : Option AV} {r : OR} (h : Cxt P B w0 θ G w lk) (e : oVal v = some r) (hs : ∀ u, v = some u → ∃ y, S.run P w = .ok y w ∧ VR θ u y) :
    Post P B w0 θ G w c ((do pure (.value (← S)) : Sem Next).run P w) r := by
  unfold oVal at e
  split at e
  · simp only [Option.some.injEq] at e
    obtain ⟨y, hr, hv⟩ := hs _ rfl
    exact post_val h e.symm hr hv
  · cases e


/-- What a pair says. -/
theorem pair_rel {a b : AV} {x y : Value} (h : VR θ a x) (k : VR θ b y) : VR θ (.tup [a, b]) (.tuple #[x, y]) := by
  simp only [VR, VRL]
  exact ⟨#[x, y], rfl, x, [y], rfl, h, y, [], rfl, k, rfl⟩

theorem post_unit {c : Nat} {S : Sem Unit} {l : List (Nat × Option AObj)} {w' : World} (hr : S.run P w = .ok () w') (hh : HR B w0 θ (applyG l G) w') :
    Post P B w0 θ G w c ((do S; pure .skip : Sem Next).run P w) (.wr l false (.tup [])) :=
  ⟨(fun h => by cases h), fun _ => ⟨undef, θ, w', .inr ⟨by simp only [Sem.run_bind, hr, Result.andThen_ok, Sem.run_pure], rfl⟩, ⟨Th.Le.refl θ, fun _ _ => ⟨rfl, rfl⟩, hh, fun h => by cases h⟩, VR.undef θ⟩⟩

theorem post_mapUpdate (h : Cxt P B w0 θ G w lk) {c : Nat} {t : TypeId} {x k v : AV} {xv kv vv : Value} {r : OR} (e : aMapUpdate P lk c t x k v = some r) (hx : VR θ x xv) (hk : VR θ k kv) (hv : VR θ v vv) :
    Post P B w0 θ G w c ((do Instr.mapUpdate t xv kv vv; pure .skip : Sem Next).run P w) r := by
  obtain ⟨l, nw, rfl, hs⟩ := sMapUpdate h e hx hk hv
  refine ⟨fun hn => by subst hn; exact mapUpdate_new e, fun hfr => ?_⟩
  obtain ⟨θ', w', hr, hle, ha, hst, hh, _, hnew⟩ := hs fun hn => ⟨(hfr hn).stamp, (hfr hn).obj⟩
  exact ⟨undef, θ', w', .inr ⟨by simp only [Sem.run_bind, hr, Result.andThen_ok, Sem.run_pure], rfl⟩, ⟨hle, fun n hn => ⟨by rw [ha], hst n hn⟩, hh, fun hn => ⟨_, hnew hn⟩⟩, VR.undef θ'⟩

theorem post_build (h : Cxt P B w0 θ G w lk) {T : Tm} {c : Nat} {ρ : Operand → Value} {t : TypeId} {ps : Array (Nat × Operand)} (hρ : EvR θ T ρ (· ∈ (ps.toList.map (·.2)).toArray)) {r : OR} (e : aBuild P t (evParts T ps.toList) = some r) :
    Post P B w0 θ G w c ((do pure (.value (← Instr.build t (ps.map fun (i, x) => (i, ρ x)))) : Sem Next).run P w) r := by
  have hp : PL θ (evParts T ps.toList) (ps.map fun (i, x) => (i, ρ x)).toList := by
    rw [Array.toList_map]; exact hρ.parts ps.toList fun p hp => by simpa using ⟨p.1, by simpa using hp⟩
  obtain ⟨v, y, hr, hrun, hv⟩ := sBuild (w := w) h.hr.env e hp
  exact post_val h hr hrun hv

theorem post_buildSlice (h : Cxt P B w0 θ G w lk) {T : Tm} {c : Nat} {ρ : Operand → Value} {t : TypeId} {n : Nat} {ps : Array (Nat × Operand)} (hρ : EvR θ T ρ (· ∈ (ps.toList.map (·.2)).toArray)) {r : OR} (e : aBuildSlice P c t n (evParts T ps.toList) = some r) :
    Post P B w0 θ G w c ((do pure (.value (← Instr.buildSlice t n (ps.map fun (i, x) => (i, ρ x)))) : Sem Next).run P w) r := by
  have hp : PL θ (evParts T ps.toList) (ps.map fun (i, x) => (i, ρ x)).toList := by
    rw [Array.toList_map]; exact hρ.parts ps.toList fun p hp => by simpa using ⟨p.1, by simpa using hp⟩
  have hwr : ∃ l v, r = .wr l true v ∧ ∃ o, (c, o) ∈ l := by
    unfold aBuildSlice at e
    repeat' split at e
    all_goals first
      | (cases e; done)
      | (cases e; exact ⟨_, _, rfl, _, List.mem_singleton.2 rfl⟩)
  obtain ⟨l, v, rfl, hl⟩ := hwr
  refine post_new (fun hc => ?_) hl
  obtain ⟨l', v', x, w', θ', hr, hrun, hna, hv, hh⟩ := sBuildSlice h hc e hp
  cases hr
  exact ⟨x, w', θ', hrun, hna, hv, hh⟩

theorem post_makeSlice (h : Cxt P B w0 θ G w lk) {c : Nat} {t : TypeId} {l m : AV} {lv mv : Value} {r : OR} (e : aMakeSlice P c t l m = some r) (hl : VR θ l lv) (hm : VR θ m mv) :
    Post P B w0 θ G w c ((do pure (.value (← Instr.makeSlice t lv mv)) : Sem Next).run P w) r := by
  have hwr : ∃ l v, r = .wr l true v ∧ ∃ o, (c, o) ∈ l := by
    unfold aMakeSlice at e
    repeat' split at e
    all_goals first
      | (cases e; done)
      | (cases e; exact ⟨_, _, rfl, _, List.mem_singleton.2 rfl⟩)
      | (simp only [fNat_eq] at e; cases e; exact ⟨_, _, rfl, _, List.mem_singleton.2 rfl⟩)
  obtain ⟨l2, v, rfl, hl2⟩ := hwr
  refine post_new (fun hc => ?_) hl2
  obtain ⟨l', v', x, w', θ', hr, hrun, hna, hv, hh⟩ := sMakeSlice h hc e hl hm
  cases hr
  exact ⟨x, w', θ', hrun, hna, hv, hh⟩

theorem post_makeMap (h : Cxt P B w0 θ G w lk) {c : Nat} {S : Sem Value} (hS : ∀ w', (newObj (.map #[] 0)).run P w = .ok w.heap.size w' → S.run P w = .ok (.map (some w.heap.size)) w') :
    Post P B w0 θ G w c ((do pure (.value (← S)) : Sem Next).run P w) (.wr [(c, some (.map [] 0))] true (.map c)) := by
  refine post_new (fun hc => ?_) ⟨_, List.mem_singleton.2 rfl⟩
  obtain ⟨w', hr, hn⟩ := run_newObj2 (P := P) (w := w) (.map #[] 0)
  refine ⟨.map (some w.heap.size), w', _, hS w' hr, newAt_bind (x := (w.heap.size, 0, 0)) hc, ?_, h.hr.new hc hn ⟨#[], [], rfl, List.Perm.refl _, rfl, by simp, by simp⟩⟩
  simp only [VR]
  exact ⟨_, _, _, Th.bind_self _ _ _, rfl⟩

theorem post_typeAssert (h : Cxt P B w0 θ G w lk) {c : Nat} {a : AV} {x : Value} {xt u : TypeId} {ud : TypeDesc} {r : OR} (hu : P.underlying u = some ud) (hni : ∀ ms, ud ≠ .interface ms)
    (e : (match tZeroV P u, a with
        | some z, .if0 => some (OR.val (.tup [z, .bool false]))
        | some z, .ifc t v => match Nat.beq t u with
          | true => some (.val (.tup [v, .bool true]))
          | false => some (.val (.tup [z, .bool false]))
        | _, _ => none) = some r) (hx : VR θ a x) : Post P B w0 θ G w c ((do pure (.value (← Instr.typeAssert x xt u true)) : Sem Next).run P w) r := by
  have ff : VR θ (.bool false) (.bool false) := by simp only [VR]
  have tt : VR θ (.bool true) (.bool true) := by simp only [VR]
  split at e
  · rename_i z hz
    simp only [Option.some.injEq] at e
    obtain ⟨zv, hzv, hzr⟩ := run_zeroValue θ hz
    simp only [VR] at hx
    refine post_val h e.symm (y := .tuple #[zv, .bool false]) ?_ (pair_rel hzr ff)
    simp only [Instr.typeAssert, hx, Sem.run_bind, run_underlying hu, Result.andThen_ok]
    cases ud <;> first | exact absurd rfl (hni _) | simp only [if_true, Sem.run_bind, hzv w, Result.andThen_ok, Sem.run_pure]
  · rename_i z t v hz
    obtain ⟨zv, hzv, hzr⟩ := run_zeroValue θ hz
    simp only [VR] at hx
    obtain ⟨y, hx, hy⟩ := hx
    split at e
    · rename_i htu
      simp only [Nat.beq_eq] at htu
      subst htu
      simp only [Option.some.injEq] at e
      refine post_val h e.symm (y := .tuple #[y, .bool true]) ?_ (pair_rel hy tt)
      simp only [Instr.typeAssert, hx, Sem.run_bind, run_underlying hu, Result.andThen_ok]
      cases ud <;> first | exact absurd rfl (hni _) | simp only [if_true, Sem.run_pure]
    · rename_i htu
      have hne : t ≠ u := by rintro rfl; simp at htu
      simp only [Option.some.injEq] at e
      refine post_val h e.symm (y := .tuple #[zv, .bool false]) ?_ (pair_rel hzr ff)
      simp only [Instr.typeAssert, hx, Sem.run_bind, run_underlying hu, Result.andThen_ok]
      cases ud <;> first | exact absurd rfl (hni _) | simp only [if_neg hne, if_true, Sem.run_bind, hzv w, Result.andThen_ok, Sem.run_pure]
  · cases e

/-- An operation. -/
theorem aop_sound (h : Cxt P B w0 θ G w lk) {T : Tm} {c : Nat} {ρ : Operand → Value} {o : Oper} (hρ : EvR θ T ρ (· ∈ o.op.operands)) {r : OR} (e : aop P lk T c o = some r) :
    (∀ k, o.op ≠ .defer k) → Post P B w0 θ G w c ((execOp ρ o).run P w) r := by
  intro hnd
  obtain ⟨dst, op, ty, pos, after, guard⟩ := o
  cases op with
  | move x => simp only [aop, Option.some.injEq] at e; subst e; exact ⟨_, w, .inl rfl, hρ x (by simp [Op.operands]), h.hr⟩
  | assign x => simp only [aop, Option.some.injEq] at e; subst e; exact ⟨_, w, .inl rfl, hρ x (by simp [Op.operands]), h.hr⟩
  | pick x a b =>
    have hx := hρ x (by simp [Op.operands])
    simp only [aop] at e
    split at e
    · rename_i hv
      rw [hv] at hx; simp only [VR] at hx
      simp only [Option.some.injEq] at e; subst e
      exact ⟨ρ a, w, .inl (by simp only [execOp, hx, asBool, Sem.run_bind, Sem.run_pure, Result.andThen_ok]; rfl), hρ a (by simp [Op.operands]), h.hr⟩
    · rename_i hv
      rw [hv] at hx; simp only [VR] at hx
      simp only [Option.some.injEq] at e; subst e
      exact ⟨ρ b, w, .inl (by simp only [execOp, hx, asBool, Sem.run_bind, Sem.run_pure, Result.andThen_ok]; rfl), hρ b (by simp [Op.operands]), h.hr⟩
    · cases e
  | alloc el =>
    simp only [aop] at e
    split at e
    · rename_i z hz
      simp only [Option.some.injEq] at e; subst e
      refine post_new (S := Instr.alloc el true (.tuple #[])) (fun hc => ?_) ⟨_, List.mem_singleton.2 rfl⟩
      obtain ⟨x, hx, hxr⟩ := zero_cells h.hr.env hz
      obtain ⟨w', hr, hh⟩ := sNewRow h hc el el hxr.take_self (by have := hxr.length; simp at this; omega)
      refine ⟨.pointer (some ⟨w.heap.size, 0, none⟩), w', _, ?_, newAt_bind hc, ?_, hh⟩
      · simp only [Instr.alloc, Sem.run_bind, hx w, Result.andThen_ok, newVar, hr, Sem.run_pure]
      · simp only [VR]
        exact ⟨_, _, _, Th.bind_self _ _ _, rfl⟩
    · cases e
  | box el x =>
    simp only [aop] at e
    split at e
    · rename_i hk
      simp only [Option.some.injEq] at e; subst e
      refine post_new (S := Instr.box el (ρ x)) (fun hc => ?_) ⟨_, List.mem_singleton.2 rfl⟩
      have hxr := cells_rel h.hr.env (known_ne hk) (hρ x (by simp [Op.operands]))
      obtain ⟨w', hr, hh⟩ := sNewRow h hc el el hxr.take_self (by have := hxr.length; simp at this; omega)
      refine ⟨.pointer (some ⟨w.heap.size, 0, none⟩), w', _, ?_, newAt_bind hc, ?_, hh⟩
      · simp only [Instr.box, Sem.run_bind, newVar, hr, Result.andThen_ok, Sem.run_pure]
      · simp only [VR]
        exact ⟨_, _, _, Th.bind_self _ _ _, rfl⟩
    · cases e
  | build t ps => simp only [aop] at e; exact post_build h hρ e
  | buildSlice t n ps => simp only [aop] at e; exact post_buildSlice h hρ e
  | insert t m k x => simp only [aop] at e; exact post_mapUpdate h e (hρ m (by simp [Op.operands])) (hρ k (by simp [Op.operands])) (hρ x (by simp [Op.operands]))
  | mapUpdate t m k x => simp only [aop] at e; exact post_mapUpdate h e (hρ m (by simp [Op.operands])) (hρ k (by simp [Op.operands])) (hρ x (by simp [Op.operands]))
  | load t a =>
    simp only [aop] at e
    exact post_oval h e fun u hu => sLoad h hu (hρ a (by simp [Op.operands]))
  | store t a x =>
    simp only [aop] at e
    obtain ⟨l, w', rfl, hr, hh⟩ := sStore h e (hρ a (by simp [Op.operands])) (hρ x (by simp [Op.operands]))
    exact post_unit hr hh
  | nilCheck x =>
    have hx := hρ x (by simp [Op.operands])
    simp only [aop] at e
    split at e
    · rename_i n o hv
      simp only [Option.some.injEq] at e; subst e
      rw [hv] at hx
      have hx0 := hx
      simp only [VR] at hx
      obtain ⟨b, d, rm, _, hx⟩ := hx
      rw [hx] at hx0
      exact ⟨_, w, .inl (by simp only [execOp, hx, Sem.run_pure]), hx0, h.hr⟩
    · rename_i t v hv
      simp only [Option.some.injEq] at e; subst e
      rw [hv] at hx
      have hx0 := hx
      simp only [VR] at hx
      obtain ⟨y, hx, _⟩ := hx
      rw [hx] at hx0
      exact ⟨_, w, .inl (by simp only [execOp, hx, Sem.run_pure]), hx0, h.hr⟩
    · rename_i g a b hv
      simp only [Option.some.injEq] at e; subst e
      rw [hv] at hx
      have hx0 := hx
      simp only [VR] at hx
      obtain ⟨g', fs, cs, hx, hg, _⟩ := hx
      simp only [FR] at hg
      subst hg
      rw [hx] at hx0
      exact ⟨_, w, .inl (by simp only [execOp, hx, Sem.run_pure]), hx0, h.hr⟩
    · cases e
  | binOp op t x y u =>
    simp only [aop] at e
    obtain ⟨v, q, hr, hrun, hv⟩ := sBin (w := w) e (hρ x (by simp [Op.operands])) (hρ y (by simp [Op.operands]))
    exact post_val (S := do eqGuard op t x y (ρ x) (ρ y); binOp op t (ρ x) (ρ y)) h hr hrun hv
  | unOp op t x =>
    simp only [aop] at e
    obtain ⟨v, q, hr, hrun, hv⟩ := sUn (P := P) (w := w) e (hρ x (by simp [Op.operands]))
    exact post_val h hr hrun hv
  | convert s d x =>
    simp only [aop] at e
    exact post_wrok (fun hf => sConvert h hf e (hρ x (by simp [Op.operands]))) (fun l v hr => convert_new (hr ▸ e))
  | makeInterface t x =>
    simp only [aop] at e
    split at e
    · cases e
    · rename_i td hni hu
      simp only [Option.some.injEq] at e; subst e
      refine ⟨.iface t (ρ x), w, .inl ?_, ?_, h.hr⟩
      · simp only [execOp, Instr.makeInterface, Sem.run_bind, run_underlying hu, Result.andThen_ok]
        rfl
      · simp only [VR]; exact ⟨_, rfl, hρ x (by simp [Op.operands])⟩
    · cases e
  | makeFunc f first captured =>
    simp only [aop] at e
    split at e
    · simp only [Option.some.injEq] at e; subst e
      refine ⟨.func (.func _) (first.map ρ) (captured.map ρ), w, .inl rfl, ?_, h.hr⟩
      simp only [VR]
      exact ⟨_, _, _, rfl, rfl, by simpa using hρ.list first.toList fun x hx => by simp [Op.operands]; exact .inl (by simpa using hx), by simpa using hρ.list captured.toList fun x hx => by simp [Op.operands]; exact .inr (by simpa using hx)⟩
    · simp only [Option.some.injEq] at e; subst e
      refine ⟨.func (.methodOf _ _) (first.map ρ) (captured.map ρ), w, .inl rfl, ?_, h.hr⟩
      simp only [VR]
      exact ⟨_, _, _, rfl, rfl, by simpa using hρ.list first.toList fun x hx => by simp [Op.operands]; exact .inl (by simpa using hx), by simpa using hρ.list captured.toList fun x hx => by simp [Op.operands]; exact .inr (by simpa using hx)⟩
    · cases e
  | makeMap t rs =>
    simp only [aop] at e
    split at e
    · simp only [Option.some.injEq] at e; subst e
      exact post_makeMap (S := Instr.makeMap t none) h fun w' hr => by simp only [Instr.makeMap, Sem.run_bind, Sem.run_pure, Result.andThen_ok, hr]
    · rename_i hh
      split at e
      · rename_i kt el k n hu hv
        simp only [Option.some.injEq] at e; subst e
        have hx := hρ hh (by simp [Op.operands])
        rw [hv] at hx
        simp only [VR] at hx
        exact post_makeMap (S := Instr.makeMap t (some (ρ hh))) h fun w' hr => by simp only [Instr.makeMap, hx, Sem.run_bind, run_underlying hu, asInt, asIntOf, Sem.run_pure, Result.andThen_ok, hr]
      · cases e
  | makeSlice t l m => simp only [aop] at e; exact post_makeSlice h e (hρ l (by simp [Op.operands])) (hρ m (by simp [Op.operands]))
  | slice t x lo hi mx =>
    simp only [aop] at e
    obtain ⟨v, y, hr, hrun, hv⟩ := sSlice h e (hρ x (by simp [Op.operands])) (hρ.opt lo fun y hy => by subst hy; simp [Op.operands]) (hρ.opt hi fun y hy => by subst hy; simp [Op.operands]) (hρ.opt mx fun y hy => by subst hy; simp [Op.operands])
    exact post_val h hr hrun hv
  | fieldAddr s x f =>
    simp only [aop] at e
    obtain ⟨v, y, hr, hrun, hv⟩ := sFieldAddr (w := w) e (hρ x (by simp [Op.operands]))
    exact post_val h hr hrun hv
  | field s x f =>
    simp only [aop] at e
    obtain ⟨v, y, hr, hrun, hv⟩ := sField (w := w) e (hρ x (by simp [Op.operands]))
    exact post_val h hr hrun hv
  | indexAddr t x i =>
    simp only [aop] at e
    obtain ⟨v, y, hr, hrun, hv⟩ := sIndexAddr (w := w) e (hρ x (by simp [Op.operands])) (hρ i (by simp [Op.operands]))
    exact post_val h hr hrun hv
  | sliceToArrayPointer t x =>
    simp only [aop] at e
    obtain ⟨v, y, hr, hrun, hv⟩ := sArrayAt (w := w) e (hρ x (by simp [Op.operands]))
    exact post_val h hr hrun hv
  | index t x i =>
    simp only [aop] at e
    obtain ⟨v, y, hr, hrun, hv⟩ := sIndex (w := w) e (hρ x (by simp [Op.operands])) (hρ i (by simp [Op.operands]))
    exact post_val h hr hrun hv
  | lookup t x k ok =>
    simp only [aop] at e
    obtain ⟨v, y, hr, hrun, hv⟩ := sLookup h e (hρ x (by simp [Op.operands])) (hρ k (by simp [Op.operands]))
    exact post_val h hr hrun hv
  | range t x =>
    simp only [aop] at e
    obtain ⟨ob, rfl, hs⟩ := sRange h e (hρ x (by simp [Op.operands]))
    refine post_new (S := Instr.range t (ρ x)) (fun hc => ?_) ⟨_, List.mem_singleton.2 rfl⟩
    obtain ⟨w', hr, hh⟩ := hs hc
    refine ⟨.pointer (some ⟨w.heap.size, 0, none⟩), w', _, hr, newAt_bind hc, ?_, hh⟩
    simp only [VR]
    exact ⟨_, _, _, Th.bind_self _ _ _, rfl⟩
  | next it s =>
    simp only [aop] at e
    split at e
    · cases e
    · rcases sNext (ty := ty) h e (hρ it (by simp [Op.operands])) with ⟨v, y, hr, hv, d, hrun⟩ | ⟨l, ll, v, nc, y, w', rfl, hm, hrun, hv, hh⟩
      · have hg : Gives ((execOp ρ { dst, op := .next it false, type := ty, pos, after, guard }).run P w) y { w with drawn := d } := .inl (by simp only [execOp, Sem.run_bind, hrun, Result.andThen_ok, Sem.run_pure])
        rcases hr with rfl | ⟨cc, rfl⟩
        · exact ⟨y, _, hg, hv, h.hr.drew d⟩
        · exact ⟨y, _, hg, hv, h.hr.drew d⟩
      · exact ⟨ll, v, nc, y, w', hm, .inl (by simp only [execOp, Sem.run_bind, hrun, Result.andThen_ok, Sem.run_pure]), hh, hv⟩
  | entry it =>
    simp only [aop] at e
    obtain ⟨v, y, hr, hv, hrun⟩ := sEntry h e (hρ it (by simp [Op.operands]))
    exact post_val h hr hrun hv
  | typeAssert x xt u ok =>
    simp only [aop] at e
    split at e
    · cases e
    · split at e
      · cases e
      · rename_i ud hni hu
        exact post_typeAssert h hu (fun ms hm => hni ms hm) e (hρ x (by simp [Op.operands]))
      · cases e
  | extract x i =>
    have hx := hρ x (by simp [Op.operands])
    simp only [aop] at e
    split at e
    · rename_i vs hv
      rw [hv] at hx
      simp only [VR] at hx
      obtain ⟨xs, hx, hxs⟩ := hx
      refine post_oval (S := Instr.extract (ρ x) i) h e fun u hu => ?_
      rw [nth_eq] at hu
      obtain ⟨y, hy, hyv⟩ := hxs.get hu
      rw [Array.getElem?_toList] at hy
      exact ⟨y, by simp only [Instr.extract, hx, hy, Sem.run_pure], hyv⟩
    · cases e
  | call k => simp only [aop] at e; exact sCall h (hρ.mono fun x hx => hx) e
  | defer k => exact absurd rfl (hnd k)
  | panic x =>
    have hx := hρ x (by simp [Op.operands])
    simp only [aop] at e
    split at e
    · rename_i t v hv
      simp only [Option.some.injEq] at e; subst e
      rw [hv] at hx
      have hx0 := hx
      simp only [VR] at hx
      obtain ⟨y, hx, _⟩ := hx
      rw [hx] at hx0
      exact ⟨_, by simp only [execOp, hx, Instr.panic, Sem.run_bind, run_goPanic, Result.andThen_halt], hx0⟩
    · cases e
  | _ => simp [aop] at e
end
end Go.AE
