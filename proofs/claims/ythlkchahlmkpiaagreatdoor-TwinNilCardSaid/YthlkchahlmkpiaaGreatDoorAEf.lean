/-
  The evaluator for the kernel, and calls that have been evaluated already.
-/
import Derived.Test.YthlkchahlmkpiaaGreatDoorAEe
import Derived.Below
import Derived.ChangeSame
/-
  The evaluator again, laid out for the kernel: code and operations are looked at once (a VIEW is a closed term, which the kernel keeps), slots go by paths, every case is a recursor's own.
-/
namespace Go.AE

inductive Res where
  | no
  | one (e : AX) (s : S)
  | many (l : List Out)
  deriving Inhabited

def Res.toO : Res → Outs
  | .no => none
  | .one e s => some [⟨e, s⟩]
  | .many l => some l
def Res.ofO : Outs → Res
  | none => .no
  | some [⟨e, s⟩] => .one e s
  | some l => .many l

def Res.bindM (l : List Out) (f : AX → S → Res) : Res := .ofO (bindO (fun o => (f o.e o.s).toO) l)
noncomputable def Res.bind (r : Res) (f : AX → S → Res) : Res := Res.rec (motive := fun _ => Res) .no (fun e s => f e s) (fun l => Res.bindM l f) r

section
variable {α β : Type}
noncomputable def getR (d : α) (k : α → β) (p : List D8) : Tr α → β :=
  List.rec (motive := fun _ => Tr α → β) (fun t => Tr.rec (motive := fun _ => β) (k d) (fun v _ _ _ _ _ _ _ _ _ _ _ _ _ _ _ _ => k v) t)
    (fun b _ ih t => Tr.rec (motive := fun _ => β) (k d) (fun _ c0 c1 c2 c3 c4 c5 c6 c7 _ _ _ _ _ _ _ _ => D8.rec (motive := fun _ => β) (ih c0) (ih c1) (ih c2) (ih c3) (ih c4) (ih c5) (ih c6) (ih c7) b) t) p
noncomputable def setR (d : α) (x : α) (p : List D8) : Tr α → (Tr α → β) → β :=
  List.rec (motive := fun _ => Tr α → (Tr α → β) → β) (fun t k => Tr.rec (motive := fun _ => β) (k (.node x .nil .nil .nil .nil .nil .nil .nil .nil)) (fun _ c0 c1 c2 c3 c4 c5 c6 c7 _ _ _ _ _ _ _ _ => k (.node x c0 c1 c2 c3 c4 c5 c6 c7)) t)
    (fun b _ ih t k => Tr.rec (motive := fun _ => β) (ih .nil fun t => D8.rec (motive := fun _ => β) (k (.node d t .nil .nil .nil .nil .nil .nil .nil)) (k (.node d .nil t .nil .nil .nil .nil .nil .nil)) (k (.node d .nil .nil t .nil .nil .nil .nil .nil)) (k (.node d .nil .nil .nil t .nil .nil .nil .nil)) (k (.node d .nil .nil .nil .nil t .nil .nil .nil)) (k (.node d .nil .nil .nil .nil .nil t .nil .nil)) (k (.node d .nil .nil .nil .nil .nil .nil t .nil)) (k (.node d .nil .nil .nil .nil .nil .nil .nil t)) b)
      (fun v c0 c1 c2 c3 c4 c5 c6 c7 _ _ _ _ _ _ _ _ => D8.rec (motive := fun _ => β) (ih c0 fun t => k (.node v t c1 c2 c3 c4 c5 c6 c7)) (ih c1 fun t => k (.node v c0 t c2 c3 c4 c5 c6 c7)) (ih c2 fun t => k (.node v c0 c1 t c3 c4 c5 c6 c7)) (ih c3 fun t => k (.node v c0 c1 c2 t c4 c5 c6 c7)) (ih c4 fun t => k (.node v c0 c1 c2 c3 t c5 c6 c7)) (ih c5 fun t => k (.node v c0 c1 c2 c3 c4 t c6 c7)) (ih c6 fun t => k (.node v c0 c1 c2 c3 c4 c5 t c7)) (ih c7 fun t => k (.node v c0 c1 c2 c3 c4 c5 c6 t)) b) t) p
noncomputable def nNat (n : Nat) (f : Nat → β) : β := Nat.rec (motive := fun _ => β) (f 0) (fun m _ => f (Nat.succ m)) n
noncomputable def nInt (n : Int) (f : Int → β) : β := Int.rec (motive := fun _ => β) (fun m => nNat m fun m => f (.ofNat m)) (fun m => nNat m fun m => f (.negSucc m)) n
end

/-- An operand, looked at. -/
inductive VO where
  | t (p : List D8)
  | k (v : AV)
def viewO : Operand → VO
  | .tmp t => .t (path t)
  | x => .k (evO .nil x)
noncomputable def evK {β : Type} (T : Tm) (x : VO) (k : AV → β) : β := VO.rec (motive := fun _ => β) (fun p => getR (.tup []) k p T) (fun v => k v) x
noncomputable def evKL {β : Type} (T : Tm) (l : List VO) : (List AV → β) → β :=
  List.rec (motive := fun _ => (List AV → β) → β) (fun k => k []) (fun x _ ih k => evK T x fun v => ih fun vs => k (v :: vs)) l

inductive VD where
  | no
  | to (d : Nat) (p : List D8)
def viewD : Option Tmp → VD
  | none => .no
  | some d => .to d (path d)
inductive VG where
  | no
  | on (p : List D8) (want : Bool)
  | never

inductive V2 where
  | st (k : Nat) (a x : VO)
  | callf (g : FuncId) (args : List VO)
  | len (t : TypeId) (x : VO)
  | idxa (k : Nat) (len : Option Nat) (x i : VO)
  | ext (i : Nat) (x : VO)
  | unot (x : VO)
  | new (z : List AV) (e : TypeId)
  | box (e : TypeId) (x : VO)
  | slow
inductive V1 where
  | mv (x : VO)
  | ld (k : Option Nat) (a : VO)
  | fa (d : Nat) (a : VO)
  | pick (x a b : VO)
  | nilc (x : VO)
  | bin (op : BinOp) (x y : VO)
  | two (v : V2)
structure VI where
  g : VG
  v : V1
  d : VD
  o : Oper

section
variable (P : Program)

def view1 (o : Oper) : V1 := match o.op with
  | .move x => .mv (viewO x)
  | .assign x => .mv (viewO x)
  | .pick x a b => .pick (viewO x) (viewO a) (viewO b)
  | .load t a => match tAgg P t with
    | some false => .ld none (viewO a)
    | some true => match tSize P t with
      | some k => .ld (some k) (viewO a)
      | none => .two .slow
    | none => .two .slow
  | .fieldAddr s x f => match tField P s f with
    | some (d, t) => match tSize P t with
      | some k => match Nat.blt 0 k with
        | true => .fa d (viewO x)
        | false => .two .slow
      | none => .two .slow
    | none => .two .slow
  | .nilCheck x => .nilc (viewO x)
  | .binOp op _ x y _ => .bin op (viewO x) (viewO y)
  | .store t a x => match tSize P t with
    | some k => .two (.st k (viewO a) (viewO x))
    | none => .two .slow
  | .call { callee := .value (.func g), args, .. } => match fnOK P g with
    | true => .two (.callf g (args.toList.map viewO))
    | false => .two .slow
  | .call { callee := .builtin .len, args, argTypes } => match argTypes[0]?, args.toList with
    | some t, [x] => .two (.len t (viewO x))
    | _, _ => .two .slow
  | .indexAddr t x i => match P.underlying t with
    | some (.array len e) => match tSize P e with
      | some k => .two (.idxa k (some len) (viewO x) (viewO i))
      | none => .two .slow
    | some (.slice e) => match tSize P e with
      | some k => .two (.idxa k none (viewO x) (viewO i))
      | none => .two .slow
    | _ => .two .slow
  | .extract x i => .two (.ext i (viewO x))
  | .unOp .not _ x => .two (.unot (viewO x))
  | .alloc e => match tZero P e with
    | some z => .two (.new z e)
    | none => .two .slow
  | .box e x => .two (.box e (viewO x))
  | _ => .two .slow

def viewG (ops : Array Oper) (o : Oper) : VG := match o.guard with
  | none => .no
  | some (j, want) => match (ops[j]?).bind (·.dst) with
    | none => .never
    | some t => .on (path t) want
def viewI (ops : Array Oper) (o : Oper) : VI := ⟨viewG ops o, view1 P o, viewD o.dst, o⟩

/-- A case on a value: a whole number, a truth, a text, a place, or another. -/
noncomputable def avR {β : Type} (int : IntKind → Int → β) (bool : Bool → β) (str : List Nat → β) (ptr : Nat → Nat → β) (oth : β) (v : AV) : β :=
  AV.rec (motive_1 := fun _ => β) (motive_2 := fun _ => Unit) int bool str ptr oth (fun _ => oth) oth oth oth (fun _ _ _ _ _ => oth) oth (fun _ => oth) oth (fun _ _ _ _ _ => oth) oth (fun _ _ _ => oth) (fun _ _ => oth) (fun _ _ => oth) (fun _ => oth) () (fun _ _ _ _ => ()) v
noncomputable def objR {β : Type} (cells : List AV → TypeId → Option Nat → β) (oth : β) (o : AObj) : β :=
  AObj.rec (motive := fun _ => β) cells (fun _ _ => oth) (fun _ _ _ _ _ => oth) (fun _ _ _ _ _ _ _ _ => oth) (fun _ => oth) (fun _ _ _ => oth) o
noncomputable def optR {α β : Type} (no : β) (yes : α → β) (o : Option α) : β := Option.rec (motive := fun _ => β) no yes o

noncomputable def rawR {β : Type} (p : List D8) (no : β) (yes : Option AObj → β) (base : List Lay) : Lay → β :=
  List.rec (motive := fun _ => Lay → β) (fun t => getR none (fun r => Option.rec (motive := fun _ => β) no yes r) p t)
    (fun b _ ih t => getR none (fun r => Option.rec (motive := fun _ => β) (ih b) yes r) p t) base
/-- What a block has: its cells. -/
noncomputable def cellsR {β : Type} (top : Lay) (base : List Lay) (n : Nat) (no : β) (yes : List AV → TypeId → Option Nat → β) : β :=
  rawR (path n) no (fun o => Option.rec (motive := fun _ => β) no (fun o => objR yes no o) o) base top

noncomputable def nthR {β : Type} (no : β) (yes : AV → β) (l : List AV) : Nat → β :=
  List.rec (motive := fun _ => Nat → β) (fun _ => no) (fun x _ ih n => Nat.rec (motive := fun _ => β) (yes x) (fun m _ => ih m) n) l
noncomputable def overR {β : Type} (no : β) (xs : List AV) : List AV → (List AV → β) → β :=
  List.rec (motive := fun _ => List AV → (List AV → β) → β) (fun l k => k l)
    (fun x _ ih l k => List.rec (motive := fun _ => β) no (fun _ l _ => ih l fun r => k (x :: r)) l) xs
noncomputable def overAtR {β : Type} (no : β) (xs : List AV) (n : Nat) : List AV → (List AV → β) → β :=
  Nat.rec (motive := fun _ => List AV → (List AV → β) → β) (fun l k => overR no xs l k)
    (fun _ ih l k => List.rec (motive := fun _ => β) (List.rec (motive := fun _ => β) (k []) (fun _ _ _ => no) xs) (fun y l _ => ih l fun r => k (y :: r)) l) n

noncomputable def fLd (top : Lay) (base : List Lay) (k : Option Nat) (a : AV) : Option OR :=
  avR (fun _ _ => none) (fun _ => none) (fun _ => none) (fun n o => cellsR top base n none fun l _ _ =>
    Option.rec (motive := fun _ => Option OR) (nthR none (fun v => some (.val v)) l o) (fun k => match takeN k (dropN o l) with
        | some cs => some (.val (.agg cs))
        | none => none) k) none a
noncomputable def fFa (d : Nat) (a : AV) : Option OR := avR (fun _ _ => none) (fun _ => none) (fun _ => none) (fun n o => nNat (o + d) fun o => some (.val (.ptr n o))) none a
noncomputable def fPick (T : Tm) (a b : VO) (x : AV) : Option OR :=
  avR (fun _ _ => none) (fun c => Bool.rec (motive := fun _ => Option OR) (evK T b fun v => some (.val v)) (evK T a fun v => some (.val v)) c) (fun _ => none) (fun _ _ => none) none x
def fNil1 (x : AV) : Option OR := match x with
  | .ifc t v => some (.val (.ifc t v))
  | .fn (.func g) a b => some (.val (.fn (.func g) a b))
  | _ => none
noncomputable def fNil (x : AV) : Option OR := avR (fun _ _ => none) (fun _ => none) (fun _ => none) (fun n o => some (.val (.ptr n o))) (fNil1 x) x
def fBin1 (o : Oper) (a b : AV) : Option OR := match o.op with
  | .binOp op t x y _ => aBin P op t x y a b
  | _ => none
noncomputable def kEqR {β : Type} (a b : IntKind) (yes no : β) : β := IntKind.rec (motive := fun _ => β)
  (IntKind.rec (motive := fun _ => β) yes no no no no no no no b) (IntKind.rec (motive := fun _ => β) no yes no no no no no no b)
  (IntKind.rec (motive := fun _ => β) no no yes no no no no no b) (IntKind.rec (motive := fun _ => β) no no no yes no no no no b)
  (IntKind.rec (motive := fun _ => β) no no no no yes no no no b) (IntKind.rec (motive := fun _ => β) no no no no no yes no no b)
  (IntKind.rec (motive := fun _ => β) no no no no no no yes no b) (IntKind.rec (motive := fun _ => β) no no no no no no no yes b) a
noncomputable def yesNo (b : Bool) : Option OR := Bool.rec (motive := fun _ => Option OR) (some (.val (.bool false))) (some (.val (.bool true))) b
noncomputable def noYes (b : Bool) : Option OR := Bool.rec (motive := fun _ => Option OR) (some (.val (.bool true))) (some (.val (.bool false))) b
noncomputable def iEqR (a b : Int) : Bool := Int.rec (motive := fun _ => Bool) (fun m => Int.rec (motive := fun _ => Bool) (fun n => Nat.beq m n) (fun _ => false) b)
  (fun m => Int.rec (motive := fun _ => Bool) (fun _ => false) (fun n => Nat.beq m n) b) a
noncomputable def iLeR (a b : Int) : Bool := Int.rec (motive := fun _ => Bool) (fun m => Int.rec (motive := fun _ => Bool) (fun n => Nat.ble m n) (fun _ => false) b)
  (fun m => Int.rec (motive := fun _ => Bool) (fun _ => true) (fun n => Nat.ble n m) b) a
noncomputable def fInt2 (op : BinOp) (k k' : IntKind) (m n : Int) : Option OR :=
  BinOp.rec (motive := fun _ => Option OR) (kEqR k k' (aInt .add k m n) none) (kEqR k k' (aInt .sub k m n) none) (kEqR k k' (aInt .mul k m n) none) (kEqR k k' (aInt .quo k m n) none) (kEqR k k' (aInt .rem k m n) none)
    (kEqR k k' (aInt .and k m n) none) (kEqR k k' (aInt .or k m n) none) (kEqR k k' (aInt .xor k m n) none) (aShift .shl k m n) (aShift .shr k m n) (kEqR k k' (aInt .andNot k m n) none)
    (kEqR k k' (yesNo (iEqR m n)) none) (kEqR k k' (noYes (iEqR m n)) none) (kEqR k k' (noYes (iLeR n m)) none) (kEqR k k' (yesNo (iLeR m n)) none) (kEqR k k' (noYes (iLeR m n)) none) (kEqR k k' (yesNo (iLeR n m)) none) op
noncomputable def fBin (o : Oper) (op : BinOp) (a b : AV) : Option OR :=
  avR (fun k m => avR (fun k' n => fInt2 op k k' m n) (fun _ => none) (fun _ => none) (fun _ _ => none) none b) (fun _ => fBin1 P o a b)
    (fun s => avR (fun _ _ => none) (fun _ => none) (fun u => aStr op s u) (fun _ _ => none) none b) (fun _ _ => fBin1 P o a b) (fBin1 P o a b) a
def wrMate (n q : Nat) (l : List AV) (e : TypeId) : List (Nat × Option AObj) := [(n, some (.cells l e none)), (q, none)]
def fSt2 (n : Nat) (e : TypeId) (m : Option Nat) (l : List AV) : Option OR := some (.wr (wrCells n l e m) false (.tup []))
def fSt1 (top : Lay) (base : List Lay) (k : Nat) (a x : AV) : Option OR := match a with
  | .ptr n o => match look top base n with
    | some (.cells l e m) => match Nat.beq (lenN x.cellsOf 0) k && allOne x.cellsOf with
      | true => match overAt o l x.cellsOf with
        | some l' => some (.wr (wrCells n l' e m) false (.tup []))
        | none => none
      | false => none
    | _ => none
  | _ => none
noncomputable def fStOne (top : Lay) (base : List Lay) (k : Nat) (x : AV) (n o : Nat) : Option OR :=
  Bool.rec (motive := fun _ => Option OR) none (cellsR top base n none fun l e m => overAtR none [x] o l fun l' => fSt2 n e m l') (Nat.beq 1 k)
noncomputable def fSt (top : Lay) (base : List Lay) (k : Nat) (a x : AV) : Option OR :=
  avR (fun _ _ => none) (fun _ => none) (fun _ => none) (fun n o =>
    avR (fun _ _ => fStOne top base k x n o) (fun _ => fStOne top base k x n o) (fun _ => fStOne top base k x n o) (fun _ _ => fStOne top base k x n o) (fSt1 top base k a x) x) none a
def fIdx1 (k : Nat) (len : Option Nat) (i : Nat) (a : AV) : Option OR := match len, a with
    | none, .sl n o len _ _ => match Nat.blt i len with
      | true => fNat (o + i * k) fun o => some (.val (.ptr n o))
      | false => none
    | _, _ => none
def fIdx (k : Nat) (len : Option Nat) (a i : AV) : Option OR := match i with
  | .int _ (.ofNat i) => match len, a with
    | some len, .ptr n o => match Nat.blt i len with
      | true => fNat (o + i * k) fun o => some (.val (.ptr n o))
      | false => none
    | none, .sl n o len _ _ => match Nat.blt i len with
      | true => fNat (o + i * k) fun o => some (.val (.ptr n o))
      | false => none
    | _, _ => none
  | _ => none
def fExt (i : Nat) (a : AV) : Option OR := match a with
  | .tup vs => oVal (nth vs i)
  | _ => none
noncomputable def fNot (x : AV) : Option OR := avR (fun _ _ => none) (fun b => noYes b) (fun _ => none) (fun _ _ => none) none x

def fBox (c : Nat) (e : TypeId) (x : AV) : Option OR := match x.known with
  | true => some (.wr [(c, some (.cells x.cellsOf e none))] true (.ptr c 0))
  | false => none
noncomputable def f2 (top : Lay) (base : List Lay) (T : Tm) (c : Nat) (o : Oper) (v : V2) : Option OR := V2.rec (motive := fun _ => Option OR)
  (fun k a x => evK T a fun a => evK T x fun x => fSt top base k a x)
  (fun g args => evKL T args fun args => some (.enter g args))
  (fun t x => evK T x fun x => aLen P (look top base) t x)
  (fun k len x i => evK T x fun x => evK T i fun i => fIdx k len x i)
  (fun i x => evK T x fun x => fExt i x)
  (fun x => evK T x fun x => fNot x)
  (fun z e => some (.wr [(c, some (.cells z e none))] true (.ptr c 0)))
  (fun e x => evK T x fun x => fBox c e x)
  (aop P (look top base) T c o) v
noncomputable def f1 (top : Lay) (base : List Lay) (T : Tm) (c : Nat) (o : Oper) (v : V1) : Option OR := V1.rec (motive := fun _ => Option OR)
  (fun x => evK T x fun v => some (.val v))
  (fun k a => evK T a fun a => fLd top base k a)
  (fun d a => evK T a fun a => fFa d a)
  (fun x a b => evK T x fun x => fPick T a b x)
  (fun x => evK T x fNil)
  (fun op x y => evK T x fun a => evK T y fun b => fBin P o op a b)
  (fun v => f2 P top base T c o v) v

noncomputable def gPut (ntm : Nat) (T : Tm) (d : VD) (v : AV) (k : Tm → Res) : Res := VD.rec (motive := fun _ => Res) (k T)
  (fun d p => Bool.rec (motive := fun _ => Res) .no (setR (.tup []) v p T k) (Nat.ble (Nat.succ d) ntm)) d

noncomputable def applyK {β : Type} (l : List (Nat × Option AObj)) : Lay → (Lay → β) → β :=
  List.rec (motive := fun _ => Lay → (Lay → β) → β) (fun t k => k t) (fun w _ ih t k => setR none (some w.2) (path w.1) t fun t => ih t k) l
noncomputable def gW (base : List Lay) (top : Lay) (c hi : Nat) (l : List (Nat × Option AObj)) (nw : Bool) (k : Lay → Nat → Nat → Res) : Res := Bool.rec (motive := fun _ => Res)
  (applyK l top fun top => k top c hi)
  (rawR (path c) (applyK l top fun top => nNat (Nat.succ c) fun c' => nNat (max hi c') fun hi => k top c' hi) (fun _ => .no) base top) nw

variable (rec : Task → Res)

noncomputable def gBehind (x : Cx) (T : Tm) (ds : List ADef) (rc : Option (List APan)) (d : VD) (k : S → Res) (e : AX) (o : S) : Res :=
  S.rec (motive := fun _ => Res) (fun _ _ _ top c hi => AX.rec (motive := fun _ => Res) .no (fun _ => .no) .no (fun ch => .one (.panic ch) ⟨T, ds, rc, top, c, hi⟩)
    (fun v => gPut x.ntm T d v fun T => k ⟨T, ds, rc, top, c, hi⟩) e) o
noncomputable def gEnter (x : Cx) (T : Tm) (ds : List ADef) (rc : Option (List APan)) (top : Lay) (c hi : Nat) (d : VD) (f : FuncId) (args : List AV) (k : S → Res) : Res :=
  (rec (.call x.base f args ⟨.nil, [], none, top, c, hi⟩)).bind (gBehind x T ds rc d k)
def gSlow (rec : Task → Res) (x : Cx) (o : Oper) (r : OR) (s : S) (k : S → Res) : Res := .ofO (execR (fun t => (rec t).toO) x o r s fun s => (k s).toO)
noncomputable def gExec (x : Cx) (vi : VI) (T : Tm) (ds : List ADef) (rc : Option (List APan)) (top : Lay) (c hi : Nat) (k : S → Res) (r : OR) : Res := OR.rec (motive := fun _ => Res)
  (fun v => gPut x.ntm T vi.d v fun T => k ⟨T, ds, rc, top, c, hi⟩)
  (fun l nw v => gW x.base top c hi l nw fun top c hi => gPut x.ntm T vi.d v fun T => k ⟨T, ds, rc, top, c, hi⟩)
  (fun l => gSlow rec x vi.o (.alts l) ⟨T, ds, rc, top, c, hi⟩ k)
  (fun v n => gSlow rec x vi.o (.setc v n) ⟨T, ds, rc, top, c, hi⟩ k)
  (fun f args => gEnter rec x T ds rc top c hi vi.d f args k)
  (fun l args => gSlow rec x vi.o (.round l args) ⟨T, ds, rc, top, c, hi⟩ k)
  (fun d => gSlow rec x vi.o (.defer d) ⟨T, ds, rc, top, c, hi⟩ k)
  (gSlow rec x vi.o .recov ⟨T, ds, rc, top, c, hi⟩ k)
  (fun v => gSlow rec x vi.o (.panic v) ⟨T, ds, rc, top, c, hi⟩ k) r
noncomputable def gRun (x : Cx) (vi : VI) (T : Tm) (ds : List ADef) (rc : Option (List APan)) (top : Lay) (c hi : Nat) (k : S → Res) : Res :=
  Option.rec (motive := fun _ => Res) .no (gExec rec x vi T ds rc top c hi k) (f1 P top x.base T c vi.o vi.v)

noncomputable def boolR {β : Type} (b : Bool) (yes no : β) : β := Bool.rec (motive := fun _ => β) no yes b
/-- Is the guard's value 'want'? -/
def gGuard1 (v : AV) (skip : Res) : Res := match v with
  | .any => .no
  | .opq _ => .no
  | _ => skip
noncomputable def gGuard (g : VG) (T : Tm) (run skip : Res) : Res := VG.rec (motive := fun _ => Res) run
  (fun p want => getR (.tup []) (fun v => avR (fun _ _ => skip) (fun b => Bool.rec (motive := fun _ => Res) (Bool.rec (motive := fun _ => Res) run skip want) (Bool.rec (motive := fun _ => Res) skip run want) b) (fun _ => skip) (fun _ _ => skip) (gGuard1 v skip) v) p T) skip g

noncomputable def gOps (x : Cx) (l : List VI) : S → Res := List.rec (motive := fun _ => S → Res) (fun s => .one .normal s)
  (fun vi _ ih s => S.rec (motive := fun _ => Res) (fun T ds rc top c hi => VI.rec (motive := fun _ => Res) (fun g v d o =>
    gGuard g T (gRun P rec x ⟨g, v, d, o⟩ T ds rc top c hi ih) (gPut x.ntm T d (.tup []) fun T => ih ⟨T, ds, rc, top, c, hi⟩)) vi) s) l

/-- Code, looked at. -/
inductive VC where
  | seq (a b : Code)
  | reg (l : List VI)
  | cond (c : VO) (a b : Code)
  | lf (e : AX)
  | blk (id : Nat) (b : Code)
  | loop (b : Code)
  | slow
def viewC (c : Code) : VC := match c with
  | .skip => .lf .normal
  | .label _ => .lf .normal
  | .exit id => .lf (.exit id)
  | .ret => .lf .ret
  | .seq a b => .seq a b
  | .cond c a b => .cond (viewO c) a b
  | .block id b => .blk id b
  | .loop b => match hasNext b with
    | false => .loop b
    | true => .slow
  | .region _ ops false => .reg (ops.toList.map (viewI P ops))
  | _ => .slow

noncomputable def gSeq (x : Cx) (b : Code) (e : AX) (s : S) : Res := AX.rec (motive := fun _ => Res) (rec (.code x b s)) (fun i => .one (.exit i) s) (.one .ret s) (fun ch => .one (.panic ch) s) (fun v => .one (.val v) s) e
noncomputable def gBlk (id : Nat) (e : AX) (s : S) : Res := AX.rec (motive := fun _ => Res) (.one .normal s)
  (fun i => Bool.rec (motive := fun _ => Res) (.one (.exit i) s) (.one .normal s) (Nat.beq i id)) (.one .ret s) (fun ch => .one (.panic ch) s) (fun v => .one (.val v) s) e
noncomputable def gCond (x : Cx) (a b : Code) (s : S) (v : AV) : Res :=
  avR (fun _ _ => .no) (fun t => Bool.rec (motive := fun _ => Res) (rec (.code x b s)) (rec (.code x a s)) t) (fun _ => .no) (fun _ _ => .no) .no v
def gSlowC (P : Program) (rec : Task → Res) (x : Cx) (c : Code) (s : S) : Res := .ofO (stepCode P (fun t => (rec t).toO) x c s)
noncomputable def gCode (x : Cx) (c : Code) (s : S) : Res := VC.rec (motive := fun _ => Res)
  (fun a b => (rec (.code x a s)).bind (gSeq rec x b))
  (fun l => gOps P rec x l s)
  (fun v a b => S.rec (motive := fun _ => Res) (fun T ds rc top c hi => evK T v (gCond rec x a b ⟨T, ds, rc, top, c, hi⟩)) s)
  (fun e => .one e s)
  (fun id b => (rec (.code x b s)).bind (gBlk id))
  (fun b => (rec (.code x b s)).bind (gSeq rec x (.loop b)))
  (gSlowC P rec x c s) (viewC P c)

noncomputable def argsK {β : Type} (l : List AV) : Nat → Tm → (Tm → β) → β :=
  List.rec (motive := fun _ => Nat → Tm → (Tm → β) → β) (fun _ T k => k T) (fun v _ ih n T k => setR (.tup []) v (path n) T fun T => nNat (Nat.succ n) fun n => ih n T k) l
noncomputable def gLeave (x : Cx) (f : FuncId) (e : AX) (s : S) : Res := AX.rec (motive := fun _ => Res) (rec (.unw x f none s)) (fun _ => .no) (rec (.unw x f none s)) (fun ch => rec (.unw x f (some ch) s)) (fun _ => .no) e
def ntmOf (fn : Func) : Nat := fn.ntmps
noncomputable def gBody (base : List Lay) (f : FuncId) (args : List AV) (s : S) (fn : Func) (body : Code) : Res :=
  S.rec (motive := fun _ => Res) (fun _ _ rc top c hi => nNat (max fn.ntmps (lenN args 0)) fun n => argsK args 0 .nil fun T =>
    (rec (.code ⟨n, none, base⟩ body ⟨T, [], rc, top, c, hi⟩)).bind (gLeave rec ⟨n, none, base⟩ f)) s
/-- A function's own record. -/
def fnB (f : FuncId) : Option (Func × Code) := match P.funcs[f]? with
  | none => none
  | some fn => match fn.body with
    | none => none
    | some body => some (fn, body)
noncomputable def gCall (base : List Lay) (f : FuncId) (args : List AV) (s : S) : Res :=
  Option.rec (motive := fun _ => Res) .no (fun fb => Prod.rec (motive := fun _ => Res) (fun fn body => gBody rec base f args s fn body) fb) (fnB P f)

/-- A function's results, looked at: one slot that is no cell. -/
inductive VR1 where
  | none
  | one (x : VO)
  | slow
def fnR (f : FuncId) : VR1 := match P.funcs[f]? with
  | none => .slow
  | some fn => match fn.results.toList with
    | [] => .none
    | [.tmp t] => .one (viewO (.tmp t))
    | _ => .slow
def gUnwS (P : Program) (rec : Task → Res) (x : Cx) (f : FuncId) (m : Option (List APan)) (s : S) : Res := .ofO (stepUnw P (fun t => (rec t).toO) x f m s)
noncomputable def gUnw (x : Cx) (f : FuncId) (m : Option (List APan)) (s : S) : Res := S.rec (motive := fun _ => Res) (fun T ds rc top c hi =>
  List.rec (motive := fun _ => Res) (Option.rec (motive := fun _ => Res)
      (VR1.rec (motive := fun _ => Res) (.one (.val (.tup [])) ⟨T, [], rc, top, c, hi⟩) (fun v => evK T v fun v => .one (.val v) ⟨T, [], rc, top, c, hi⟩) (gUnwS P rec x f none ⟨T, [], rc, top, c, hi⟩) (fnR P f))
      (fun ch => .one (.panic ch) ⟨T, [], rc, top, c, hi⟩) m)
    (fun d ds _ => gUnwS P rec x f m ⟨T, d :: ds, rc, top, c, hi⟩) ds) s

def gRoundS (rec : Task → Res) (base : List Lay) (l : Nat) (args : List AV) (s : S) : Res := .ofO (stepRound (fun t => (rec t).toO) base l args s)
noncomputable def gStep (t : Task) : Res := Task.rec (motive := fun _ => Res)
  (fun x c s => gCode P rec x c s) (fun base f args s => gCall P rec base f args s) (fun x f m s => gUnw P rec x f m s) (fun base l args s => gRoundS rec base l args s) t
end

noncomputable def evF (P : Program) (n : Nat) : Task → Res :=
  Nat.rec (motive := fun _ => Task → Res) (fun _ => .no) (fun _ ih t => gStep P ih t) n

def s0 : S := ⟨.nil, [], none, .nil, 0, 0⟩

end Go.AE
/-
  The kernel's evaluator gives what the evaluator gives: parts.
-/
namespace Go.AE

theorem toO_ofO (o : Outs) : (Res.ofO o).toO = o := by
  unfold Res.ofO
  split <;> rfl
theorem bind_toO (r : Res) (f : AX → S → Res) : (r.bind f).toO = bindS r.toO (fun o => (f o.e o.s).toO) := by
  cases r with
  | no => rfl
  | one e s =>
    show (f e s).toO = bindO (fun o => (f o.e o.s).toO) [⟨e, s⟩]
    simp only [bindO]
    cases (f e s).toO <;> rfl
  | many l =>
    show (Res.ofO _).toO = _
    rw [toO_ofO]
    rfl

section
variable {α β : Type}
theorem getR_eq (d : α) (k : α → β) : ∀ (p : List D8) (t : Tr α), getR d k p t = k (getP d p t)
  | [], t => by cases t <;> rfl
  | b :: p, t => by
    cases t with
    | nil => rfl
    | node v c0 c1 c2 c3 c4 c5 c6 c7 => cases b <;> exact getR_eq d k p _
theorem setR_eq (d x : α) : ∀ (p : List D8) (t : Tr α) (k : Tr α → β), setR d x p t k = k (setP d x p t)
  | [], t, k => by cases t <;> rfl
  | b :: p, t, k => by
    cases t with
    | nil =>
      cases b <;> (refine (setR_eq d x p .nil _).trans ?_; rfl)
    | node v c0 c1 c2 c3 c4 c5 c6 c7 => cases b <;> (refine (setR_eq d x p _ _).trans ?_; rfl)
theorem nNat_eq (n : Nat) (f : Nat → β) : nNat n f = f n := by cases n <;> rfl
theorem nInt_eq (n : Int) (f : Int → β) : nInt n f = f n := by cases n with
  | ofNat m => exact nNat_eq m fun m => f (.ofNat m)
  | negSucc m => exact nNat_eq m fun m => f (.negSucc m)
end

theorem evK_eq {β : Type} (T : Tm) (x : Operand) (k : AV → β) : evK T (viewO x) k = k (evO T x) := by
  cases x with
  | tmp t => exact getR_eq _ _ _ _
  | const v => rfl
  | «global» g => rfl
  | func f => rfl
theorem evKL_eq {β : Type} (T : Tm) : ∀ (l : List Operand) (k : List AV → β), evKL T (l.map viewO) k = k (evL T l)
  | [], k => rfl
  | x :: xs, k => by
    show evK T (viewO x) (fun v => evKL T (xs.map viewO) fun vs => k (v :: vs)) = _
    rw [evK_eq, evKL_eq T xs]
    rfl

theorem rawR_eq {β : Type} (no : β) (yes : Option AObj → β) (n : Nat) : ∀ (base : List Lay) (top : Lay), rawR (path n) no yes base top = match raw top base n with
    | none => no
    | some o => yes o
  | [], top => by
    show getR none _ (path n) top = _
    rw [getR_eq]
    simp only [raw, getL]
    cases getP none (path n) top <;> rfl
  | b :: bs, top => by
    show getR none _ (path n) top = _
    rw [getR_eq]
    simp only [raw, getL]
    cases getP none (path n) top with
    | none => exact rawR_eq no yes n bs b
    | some o => rfl
theorem cellsR_eq {β : Type} (top : Lay) (base : List Lay) (n : Nat) (no : β) (yes : List AV → TypeId → Option Nat → β) : cellsR top base n no yes = match look top base n with
    | some (.cells l t m) => yes l t m
    | _ => no := by
  unfold cellsR look
  rw [rawR_eq]
  cases raw top base n with
  | none => rfl
  | some o =>
    cases o with
    | none => rfl
    | some o => cases o <;> rfl
theorem nthR_eq {β : Type} (no : β) (yes : AV → β) : ∀ (l : List AV) (n : Nat), nthR no yes l n = match nth l n with
    | some v => yes v
    | none => no
  | [], n => rfl
  | x :: xs, n => by
    cases n with
    | zero => rfl
    | succ n => exact nthR_eq no yes xs n
theorem overR_eq {β : Type} (no : β) : ∀ (xs l : List AV) (k : List AV → β), overR no xs l k = match over l xs with
    | some r => k r
    | none => no
  | [], l, k => by cases l <;> rfl
  | x :: xs, l, k => by
    cases l with
    | nil => rfl
    | cons y l =>
      refine (overR_eq no xs l _).trans ?_
      simp only [over]
      cases over l xs <;> rfl
theorem overAtR_eq {β : Type} (no : β) (xs : List AV) : ∀ (n : Nat) (l : List AV) (k : List AV → β), overAtR no xs n l k = match overAt n l xs with
    | some r => k r
    | none => no
  | 0, l, k => overR_eq no xs l k
  | n + 1, l, k => by
    cases l with
    | nil => cases xs <;> rfl
    | cons y l =>
      refine (overAtR_eq no xs n l _).trans ?_
      simp only [overAt]
      cases overAt n l xs <;> rfl

section
variable (P : Program)

theorem fLd_eq (top : Lay) (base : List Lay) (t : TypeId) (a : AV) (v : Option Nat) (h : match tAgg P t with
    | some false => v = none
    | some true => ∃ k, tSize P t = some k ∧ v = some k
    | none => False) : fLd top base v a = oVal (aLoad P (look top base) t a) := by
  unfold fLd
  cases a with
  | ptr n o =>
    show cellsR top base n none _ = _
    rw [cellsR_eq]
    simp only [aLoad]
    cases look top base n with
    | none => rfl
    | some ob =>
      cases ob with
      | cells l e m =>
        simp only
        split at h
        · rename_i hA
          subst h
          simp only [hA]
          show nthR none _ l o = _
          rw [nthR_eq]
          cases nth l o <;> rfl
        · rename_i hA
          obtain ⟨k, hk, rfl⟩ := h
          simp only [hA, hk]
          show (match takeN k (dropN o l) with
            | some cs => some (OR.val (.agg cs))
            | none => none) = _
          cases takeN k (dropN o l) <;> rfl
        · exact h.elim
      | _ => rfl
  | _ => rfl

theorem aEq_int {d : Nat} {t : TypeId} {k : IntKind} {n : Int} {b : AV} (h : ∀ k' n', b ≠ .int k' n') : aEq P d t (.int k n) b = none := by
  cases d with
  | zero => rfl
  | succ d =>
    unfold aEq
    cases b <;> first
      | exact absurd rfl (h _ _)
      | (cases P.underlying t with
         | none => rfl
         | some u => cases u <;> rfl)
theorem aEq_str {d : Nat} {t : TypeId} {s : List Nat} {b : AV} (h : ∀ s', b ≠ .str s') : aEq P d t (.str s) b = none := by
  cases d with
  | zero => rfl
  | succ d =>
    unfold aEq
    cases b <;> first
      | exact absurd rfl (h _)
      | (cases P.underlying t with
         | none => rfl
         | some u => cases u <;> rfl)
theorem oBool_eq (b : Bool) : oBool b = some (.val (.bool b)) := by cases b <;> rfl
theorem yesNo_eq (b : Bool) : yesNo b = oBool b := by cases b <;> rfl
theorem noYes_eq (b : Bool) : noYes b = oBool (!b) := by cases b <;> rfl
theorem iEqR_eq (a b : Int) : iEqR a b = iEq a b := by cases a <;> cases b <;> rfl
theorem iLeR_eq (a b : Int) : iLeR a b = iLe a b := by cases a <;> cases b <;> rfl
theorem kEqR_eq {β : Type} (a b : IntKind) (yes no : β) : kEqR a b yes no = match kEq a b with
    | true => yes
    | false => no := by cases a <;> cases b <;> rfl
theorem fInt2_eq (op : BinOp) (t : TypeId) (x y : Operand) (k k' : IntKind) (m n : Int) : fInt2 op k k' m n = aBin P op t x y (.int k m) (.int k' n) := by
  cases op <;> simp only [aBin, fInt2, kEqR_eq, yesNo_eq, noYes_eq, iEqR_eq, iLeR_eq] <;> (try rfl) <;> (cases kEq k k' <;> simp only [aInt])
theorem fBin_eq (o : Oper) (op : BinOp) (t u : TypeId) (x y : Operand) (h : o.op = .binOp op t x y u) (a b : AV) : fBin P o op a b = aBin P op t x y a b := by
  have h1 : ∀ a b, fBin1 P o a b = aBin P op t x y a b := by
    intro a b
    unfold fBin1
    rw [h]
  have hi : ∀ k n b, (∀ k' n', b ≠ .int k' n') → aBin P op t x y (.int k n) b = none := by
    intro k n b hb
    have := aEq_int P (d := Op.maxDepth) (t := t) (k := k) (n := n) hb
    cases b <;> first
      | exact absurd rfl (hb _ _)
      | (cases op <;> simp only [aBin, aGuard, this])
  have hs : ∀ s b, (∀ s', b ≠ .str s') → aBin P op t x y (.str s) b = none := by
    intro s b hb
    have := aEq_str P (d := Op.maxDepth) (t := t) (s := s) hb
    cases b <;> first
      | exact absurd rfl (hb _)
      | (cases op <;> simp only [aBin, aGuard, this])
  cases a with
  | int k m =>
    cases b with
    | int k' n => exact fInt2_eq P op t x y k k' m n
    | _ => exact (hi _ _ _ (by intros; simp)).symm
  | str s =>
    cases b with
    | str u => rfl
    | _ => exact (hs _ _ (by intros; simp)).symm
  | _ => exact h1 _ _

theorem fStOne_eq (top : Lay) (base : List Lay) (k : Nat) (x : AV) (n o : Nat) (hx : x.one = true) (hc : x.cellsOf = [x]) : fStOne top base k x n o = fSt1 top base k (.ptr n o) x := by
  unfold fStOne fSt1
  simp only [hc, lenN, allOne, hx, Bool.and_true]
  show Bool.rec (motive := fun _ => Option OR) none _ (Nat.beq 1 k) = _
  cases hk : Nat.beq 1 k with
  | false =>
    cases look top base n with
    | none => rfl
    | some ob => cases ob <;> simp_all
  | true =>
    show cellsR top base n none _ = _
    rw [cellsR_eq]
    cases look top base n with
    | none => rfl
    | some ob =>
      cases ob with
      | cells l e m =>
        simp only
        rw [overAtR_eq]
        cases overAt o l [x] <;> rfl
      | _ => rfl
theorem fSt_eq (top : Lay) (base : List Lay) (t : TypeId) (k : Nat) (hk : tSize P t = some k) (a x : AV) : fSt top base k a x = aStore P (look top base) t a x := by
  have h1 : ∀ a, fSt1 top base k a x = aStore P (look top base) t a x := by
    intro a
    cases a with
    | ptr n o =>
      simp only [fSt1, aStore]
      cases look top base n with
      | none => rfl
      | some ob =>
        cases ob with
        | cells l e m =>
          simp only [hk]
          cases Nat.beq (lenN x.cellsOf 0) k && allOne x.cellsOf with
          | false => rfl
          | true => cases overAt o l x.cellsOf <;> rfl
        | _ => rfl
    | _ => rfl
  unfold fSt
  cases a with
  | ptr n o =>
    show avR _ _ _ _ _ x = _
    rw [← h1]
    cases x <;> first | rfl | exact fStOne_eq top base k _ n o rfl rfl
  | _ => rfl
end
end Go.AE
/-
  The kernel's evaluator gives what the evaluator gives: steps.
-/
namespace Go.AE
section
variable (P : Program)

theorem fIdx_eq (t e : TypeId) (k : Nat) (len : Option Nat) (a i : AV) (h : (len = none ∧ P.underlying t = some (.slice e)) ∨ (∃ n, len = some n ∧ P.underlying t = some (.array n e))) (hk : tSize P e = some k) :
    fIdx k len a i = aIndexAddr P t a i := by
  unfold fIdx aIndexAddr
  rcases h with ⟨rfl, hu⟩ | ⟨n, rfl, hu⟩ <;> cases i with
  | int kk ii =>
    cases ii with
    | ofNat ii => cases a <;> simp only [hu, hk] <;> rfl
    | negSucc ii => rfl
  | _ => rfl

theorem fNil_eq (a : AV) : fNil a = match a with
    | .ptr n o => some (.val (.ptr n o))
    | .ifc t v => some (.val (.ifc t v))
    | .fn (.func g) a b => some (.val (.fn (.func g) a b))
    | _ => none := by
  cases a with
  | fn f a b => cases f <;> rfl
  | _ => rfl

theorem f1_eq (top : Lay) (base : List Lay) (T : Tm) (c : Nat) (o : Oper) : f1 P top base T c o (view1 P o) = aop P (look top base) T c o := by
  obtain ⟨dst, op, ty, pos, after, guard⟩ := o
  cases op with
  | move x => exact evK_eq _ _ _
  | assign x => exact evK_eq _ _ _
  | pick x a b =>
    refine (evK_eq _ _ _).trans ?_
    unfold fPick
    simp only [aop]
    cases evO T x with
    | bool t =>
      cases t with
      | true => exact evK_eq T a _
      | false => exact evK_eq T b _
    | _ => rfl
  | load t a =>
    simp only [view1]
    cases hA : tAgg P t with
    | none => rfl
    | some b =>
      cases b with
      | false =>
        simp only
        refine (evK_eq _ _ _).trans ?_
        rw [fLd_eq P top base t _ none (by rw [hA])]
        rfl
      | true =>
        simp only
        cases hk : tSize P t with
        | none => rfl
        | some k =>
          simp only
          refine (evK_eq _ _ _).trans ?_
          rw [fLd_eq P top base t _ (some k) (by rw [hA]; exact ⟨k, hk, rfl⟩)]
          rfl
  | fieldAddr s x f =>
    simp only [view1]
    cases hf : tField P s f with
    | none => rfl
    | some dt =>
      obtain ⟨d, t⟩ := dt
      simp only
      cases hk : tSize P t with
      | none => rfl
      | some k =>
        simp only
        cases hb : Nat.blt 0 k with
        | false => rfl
        | true =>
          simp only
          refine (evK_eq _ _ _).trans ?_
          simp only [aop, aFieldAddr, fFa]
          cases evO T x with
          | ptr n o =>
            simp only [hf, hk, hb, fNat_eq]
            exact nNat_eq (o + d) fun o => some (OR.val (.ptr n o))
          | _ => rfl
  | nilCheck x =>
    refine (evK_eq _ _ _).trans ?_
    rw [fNil_eq]
    rfl
  | binOp op t x y u =>
    refine (evK_eq _ _ _).trans ?_
    refine (evK_eq _ _ _).trans ?_
    exact fBin_eq P _ op t u x y rfl _ _
  | store t a x =>
    simp only [view1]
    cases hk : tSize P t with
    | none => rfl
    | some k =>
      refine (evK_eq _ _ _).trans ?_
      refine (evK_eq _ _ _).trans ?_
      exact fSt_eq P top base t k hk _ _
  | call k =>
    obtain ⟨callee, args, argTypes⟩ := k
    cases callee with
    | value f =>
      cases f with
      | func g =>
        simp only [view1]
        cases hg : fnOK P g with
        | false => rfl
        | true =>
          refine (evKL_eq _ _ _).trans ?_
          simp [aop, aCall, evO, hg]
      | _ => rfl
    | builtin b =>
      cases b with
      | len =>
        simp only [view1]
        split
        · rename_i t x ht hx
          refine (evK_eq _ _ _).trans ?_
          simp [aop, aCall, aBuiltin, ht, hx, evL]
        · rfl
      | _ => rfl
    | invoke a b => rfl
  | indexAddr t x i =>
    simp only [view1]
    cases hu : P.underlying t with
    | none => rfl
    | some d =>
      cases d with
      | array len e =>
        simp only
        cases hk : tSize P e with
        | none => rfl
        | some k =>
          refine (evK_eq _ _ _).trans ?_
          refine (evK_eq _ _ _).trans ?_
          exact fIdx_eq P t e k (some len) _ _ (.inr ⟨len, rfl, hu⟩) hk
      | slice e =>
        simp only
        cases hk : tSize P e with
        | none => rfl
        | some k =>
          refine (evK_eq _ _ _).trans ?_
          refine (evK_eq _ _ _).trans ?_
          exact fIdx_eq P t e k none _ _ (.inl ⟨rfl, hu⟩) hk
      | _ => rfl
  | extract x i =>
    refine (evK_eq _ _ _).trans ?_
    rfl
  | unOp u t x =>
    cases u with
    | not =>
      refine (evK_eq _ _ _).trans ?_
      simp only [aop, aUn, fNot]
      cases evO T x with
      | bool b => exact noYes_eq b
      | _ => rfl
    | _ => rfl
  | alloc e =>
    simp only [view1]
    cases hz : tZero P e with
    | none => rfl
    | some z => simp [aop, hz, f1, f2]
  | box e x =>
    refine (evK_eq _ _ _).trans ?_
    rfl
  | _ => rfl

variable {P}
theorem gPut_eq (x : Cx) (s : S) (dst : Option Tmp) (v : AV) (k : Tm → Res) : (gPut x.ntm s.T (viewD dst) v k).toO = putD x s dst v fun s' => (k s'.T).toO := by
  cases dst with
  | none => rfl
  | some d =>
    show (Bool.rec (motive := fun _ => Res) .no (setR (.tup []) v (path d) s.T k) (Nat.ble (Nat.succ d) x.ntm)).toO = _
    simp only [putD]
    have e : Nat.ble (Nat.succ d) x.ntm = Nat.blt d x.ntm := rfl
    rw [e]
    cases Nat.blt d x.ntm with
    | false => rfl
    | true =>
      simp only
      rw [setR_eq]
      rfl
/-- The continuation's own state. -/
theorem putD_congr (x : Cx) (s s' : S) (dst : Option Tmp) (v : AV) (k k' : S → Outs) (hT : s.T = s'.T) (h : ∀ T, k { s with T } = k' { s' with T }) (h0 : k s = k' s') : putD x s dst v k = putD x s' dst v k' := by
  cases dst with
  | none => exact h0
  | some d =>
    simp only [putD]
    cases Nat.blt d x.ntm with
    | false => rfl
    | true => simp only; rw [hT]; exact h _
theorem gPutS (x : Cx) (T : Tm) (ds : List ADef) (rc : Option (List APan)) (top : Lay) (c hi : Nat) (dst : Option Tmp) (v : AV) (k : S → Res) :
    (gPut x.ntm T (viewD dst) v fun T => k ⟨T, ds, rc, top, c, hi⟩).toO = putD x ⟨T, ds, rc, top, c, hi⟩ dst v fun s => (k s).toO := by
  refine (gPut_eq x ⟨T, ds, rc, top, c, hi⟩ dst v _).trans ?_
  exact putD_congr _ _ _ _ _ _ _ rfl (fun _ => rfl) rfl

theorem applyK_eq {β : Type} : ∀ (l : List (Nat × Option AObj)) (t : Lay) (k : Lay → β), applyK l t k = k (applyW l t)
  | [], t, k => rfl
  | (n, o) :: l, t, k => by
    refine (setR_eq none (some o) (path n) t _).trans ?_
    exact applyK_eq l _ k
theorem gW_eq (x : Cx) (T : Tm) (ds : List ADef) (rc : Option (List APan)) (top : Lay) (c hi : Nat) (l : List (Nat × Option AObj)) (nw : Bool) (k : S → Res) :
    (gW x.base top c hi l nw fun top c hi => k ⟨T, ds, rc, top, c, hi⟩).toO = doW x ⟨T, ds, rc, top, c, hi⟩ l nw fun s => (k s).toO := by
  cases nw with
  | false =>
    show Res.toO (applyK l top _) = _
    rw [applyK_eq]
    rfl
  | true =>
    show Res.toO (rawR (path c) _ _ x.base top) = _
    rw [rawR_eq]
    simp only [doW, isFree]
    cases raw top x.base c with
    | some o => rfl
    | none =>
      simp only
      rw [applyK_eq, nNat_eq, nNat_eq]

variable {rec : Task → Res}
theorem behind_eq (x : Cx) (T : Tm) (ds : List ADef) (rc : Option (List APan)) (top : Lay) (c hi : Nat) (dst : Option Tmp) (k : S → Res) (e : AX) (o : S) :
    (gBehind x T ds rc (viewD dst) k e o).toO = (match e with
      | .val v => putD x (behind ⟨T, ds, rc, top, c, hi⟩ o) dst v fun s => (k s).toO
      | .panic ch => some [⟨.panic ch, behind ⟨T, ds, rc, top, c, hi⟩ o⟩]
      | _ => none) := by
  obtain ⟨T', ds', rc', top', c', hi'⟩ := o
  cases e with
  | val v => exact gPutS x T ds rc top' c' hi' dst v k
  | _ => rfl
theorem gExec_eq (x : Cx) (vi : VI) (o : Oper) (hd : vi.d = viewD o.dst) (ho : vi.o = o) (T : Tm) (ds : List ADef) (rc : Option (List APan)) (top : Lay) (c hi : Nat) (k : S → Res) (r : OR) :
    (gExec rec x vi T ds rc top c hi k r).toO = execR (fun t => (rec t).toO) x o r ⟨T, ds, rc, top, c, hi⟩ fun s => (k s).toO := by
  obtain ⟨g, v, d, o'⟩ := vi
  simp only at hd ho
  subst hd ho
  cases r with
  | val v => exact gPutS x T ds rc top c hi _ v k
  | wr l nw v =>
    show (gW x.base top c hi l nw fun top c hi => gPut x.ntm T (viewD o'.dst) v fun T => k ⟨T, ds, rc, top, c, hi⟩).toO = _
    have := gW_eq x T ds rc top c hi l nw (fun s => gPut x.ntm s.T (viewD o'.dst) v fun T => k ⟨T, ds, rc, s.top, s.c, s.hi⟩)
    refine this.trans ?_
    simp only [execR]
    unfold doW
    cases nw with
    | false => exact gPutS x T ds rc _ c hi _ v k
    | true =>
      simp only
      cases isFree top x.base c with
      | false => rfl
      | true => exact gPutS x T ds rc _ (c + 1) (max hi (c + 1)) _ v k
  | enter f args =>
    show (Res.bind _ _).toO = _
    rw [bind_toO]
    simp only [execR]
    unfold bindS
    split
    · rfl
    · congr 1
      funext out
      exact behind_eq x T ds rc top c hi _ k out.e out.s
  | alts l => exact toO_ofO (execR (fun t => (rec t).toO) x o' (.alts l) ⟨T, ds, rc, top, c, hi⟩ fun s => (k s).toO)
  | setc v n => exact toO_ofO (execR (fun t => (rec t).toO) x o' (.setc v n) ⟨T, ds, rc, top, c, hi⟩ fun s => (k s).toO)
  | round l args => exact toO_ofO (execR (fun t => (rec t).toO) x o' (.round l args) ⟨T, ds, rc, top, c, hi⟩ fun s => (k s).toO)
  | defer d => exact toO_ofO (execR (fun t => (rec t).toO) x o' (.defer d) ⟨T, ds, rc, top, c, hi⟩ fun s => (k s).toO)
  | recov => exact toO_ofO (execR (fun t => (rec t).toO) x o' (.recov) ⟨T, ds, rc, top, c, hi⟩ fun s => (k s).toO)
  | panic v => exact toO_ofO (execR (fun t => (rec t).toO) x o' (.panic v) ⟨T, ds, rc, top, c, hi⟩ fun s => (k s).toO)

theorem gGuard_eq (ops : Array Oper) (o : Oper) (T : Tm) (run skip : Res) : (gGuard (viewG ops o) T run skip).toO = match wantedB ops T o with
    | none => none
    | some true => run.toO
    | some false => skip.toO := by
  unfold viewG wantedB
  cases hg : o.guard with
  | none => rfl
  | some jw =>
    obtain ⟨j, want⟩ := jw
    simp only
    cases ht : (ops[j]?).bind (·.dst) with
    | none => rfl
    | some t =>
      simp only
      unfold gGuard
      dsimp only
      rw [getR_eq]
      show Res.toO (avR (fun _ _ => skip) (fun b => Bool.rec (motive := fun _ => Res) (Bool.rec (motive := fun _ => Res) run skip want) (Bool.rec (motive := fun _ => Res) skip run want) b) (fun _ => skip) (fun _ _ => skip) (gGuard1 (getT T t) skip) (getT T t)) = _
      cases getT T t with
      | bool b => cases b <;> cases want <;> rfl
      | _ => rfl

theorem gOps_eq (x : Cx) (ops : Array Oper) : ∀ (l : List Oper) (s : S), (gOps P rec x (l.map (viewI P ops)) s).toO = runOps P (fun t => (rec t).toO) x ops l s
  | [], s => rfl
  | o :: os, ⟨T, ds, rc, top, c, hi⟩ => by
    show (gGuard (viewG ops o) T (gRun P rec x ⟨viewG ops o, view1 P o, viewD o.dst, o⟩ T ds rc top c hi (gOps P rec x (os.map (viewI P ops)))) (gPut x.ntm T (viewD o.dst) (.tup []) fun T => gOps P rec x (os.map (viewI P ops)) ⟨T, ds, rc, top, c, hi⟩)).toO = _
    rw [gGuard_eq]
    simp only [runOps]
    have hK : (fun s => (gOps P rec x (os.map (viewI P ops)) s).toO) = fun s => runOps P (fun t => (rec t).toO) x ops os s := by
      funext s
      exact gOps_eq x ops os s
    cases wantedB ops T o with
    | none => rfl
    | some b =>
      cases b with
      | false =>
        simp only
        rw [gPutS, hK]
      | true =>
        simp only
        show (Option.rec (motive := fun _ => Res) .no (gExec rec x ⟨viewG ops o, view1 P o, viewD o.dst, o⟩ T ds rc top c hi (gOps P rec x (os.map (viewI P ops)))) (f1 P top x.base T c o (view1 P o))).toO = _
        rw [f1_eq]
        cases aop P (look top x.base) T c o with
        | none => rfl
        | some r =>
          simp only
          rw [gExec_eq x _ o rfl rfl, hK]

theorem gSeq_eq (x : Cx) (b : Code) (o : Out) : (gSeq rec x b o.e o.s).toO = match o.e with
    | .normal => (rec (.code x b o.s)).toO
    | _ => some [o] := by
  obtain ⟨e, s⟩ := o
  cases e <;> rfl
theorem gBlk_eq (id : Nat) (o : Out) : (gBlk id o.e o.s).toO = match o.e with
    | .exit i => match Nat.beq i id with
      | true => some [⟨.normal, o.s⟩]
      | false => some [o]
    | _ => some [o] := by
  obtain ⟨e, s⟩ := o
  cases e with
  | exit i =>
    show (Bool.rec (motive := fun _ => Res) (.one (.exit i) s) (.one .normal s) (Nat.beq i id)).toO = _
    simp only
    cases Nat.beq i id <;> rfl
  | _ => rfl

theorem gCode_eq (x : Cx) (c : Code) (s : S) : (gCode P rec x c s).toO = stepCode P (fun t => (rec t).toO) x c s := by
  have slow : (gSlowC P rec x c s).toO = stepCode P (fun t => (rec t).toO) x c s := toO_ofO _
  cases c with
  | skip => rfl
  | label l => rfl
  | exit id => rfl
  | ret => rfl
  | seq a b =>
    show (Res.bind _ _).toO = _
    rw [bind_toO]
    simp only [stepCode]
    congr 1
    funext o
    exact gSeq_eq x b o
  | cond cc a b =>
    obtain ⟨T, ds, rc, top, c, hi⟩ := s
    show Res.toO (evK T (viewO cc) _) = _
    rw [evK_eq]
    simp only [stepCode, gCond]
    cases evO T cc with
    | bool t => cases t <;> rfl
    | _ => rfl
  | block id b =>
    show (Res.bind _ _).toO = _
    rw [bind_toO]
    simp only [stepCode]
    congr 1
    funext o
    exact gBlk_eq id o
  | loop b =>
    unfold gCode
    simp only [viewC]
    cases hn : hasNext b with
    | true => exact slow
    | false =>
      show (Res.bind _ _).toO = _
      rw [bind_toO]
      simp only [stepCode, hn]
      congr 1
      funext o
      exact gSeq_eq x (.loop b) o
  | region id ops draw =>
    cases draw with
    | false => exact gOps_eq x ops ops.toList s
    | true => exact slow
  | scope b => exact slow
  | rangeFunc f params assign body => exact slow
  | goto l => exact slow
  | refuse w => exact slow

theorem argsK_eq {β : Type} : ∀ (l : List AV) (n : Nat) (T : Tm) (k : Tm → β), argsK l n T k = k (setArgs l n T)
  | [], n, T, k => rfl
  | v :: vs, n, T, k => by
    refine (setR_eq (.tup []) v (path n) T _).trans ?_
    rw [nNat_eq]
    exact argsK_eq vs (n + 1) _ k

theorem gCall_eq (base : List Lay) (f : FuncId) (args : List AV) (s : S) : (gCall P rec base f args s).toO = stepCall P (fun t => (rec t).toO) base f args s := by
  obtain ⟨T, ds, rc, top, c, hi⟩ := s
  unfold gCall fnB stepCall
  cases P.funcs[f]? with
  | none => rfl
  | some fn =>
    simp only
    cases fn.body with
    | none => rfl
    | some body =>
      simp only
      unfold gBody
      dsimp only
      rw [nNat_eq, argsK_eq, bind_toO]
      congr 1
      funext o
      obtain ⟨e, s⟩ := o
      cases e <;> rfl

theorem gUnw_eq (x : Cx) (f : FuncId) (m : Option (List APan)) (s : S) : (gUnw P rec x f m s).toO = stepUnw P (fun t => (rec t).toO) x f m s := by
  obtain ⟨T, ds, rc, top, c, hi⟩ := s
  have slow : ∀ ds, (gUnwS P rec x f m ⟨T, ds, rc, top, c, hi⟩).toO = stepUnw P (fun t => (rec t).toO) x f m ⟨T, ds, rc, top, c, hi⟩ := fun _ => toO_ofO _
  cases ds with
  | cons d ds => exact slow _
  | nil =>
    cases m with
    | some ch => rfl
    | none =>
      show Res.toO (VR1.rec (motive := fun _ => Res) _ _ _ (fnR P f)) = _
      unfold fnR
      cases hf : P.funcs[f]? with
      | none => exact slow _
      | some fn =>
        simp only
        split
        · rename_i hr
          simp [stepUnw, hf, hr, resV, Res.toO]
        · rename_i t hr
          show Res.toO (evK T (viewO (.tmp t)) _) = _
          rw [evK_eq]
          simp [stepUnw, hf, hr, resV, Res.toO]
        · exact slow _

theorem gStep_eq (t : Task) : (gStep P rec t).toO = step P (fun t => (rec t).toO) t := by
  cases t with
  | code x c s => exact gCode_eq x c s
  | call base f args s => exact gCall_eq base f args s
  | unw x f m s => exact gUnw_eq x f m s
  | round base l args s => exact toO_ofO _
end
end Go.AE
/-
  Calls that have been evaluated already are not evaluated again: a HOOK is a call over a part of memory, with what it leaves.
-/
namespace Go.AE

/-- A call, the blocks that it looks at, the blocks that it leaves (of 'none' nothing is known any more), its value. -/
structure Hook where
  f : FuncId
  c : Nat
  args : List AV
  pre : List (Nat × AObj)
  post : List (Nat × Option AObj)
  v : AV
  c' : Nat

def Hook.outS (h : Hook) (s : S) : S := ⟨.nil, [], none, applyW h.post s.top, h.c', max s.hi h.c'⟩
def Hook.out (h : Hook) (s : S) : Out := ⟨.val h.v, h.outS s⟩

def defEq : List ADef → List ADef → Bool
  | [], [] => true
  | .coll n :: x, .coll m :: y => Nat.beq n m && defEq x y
  | .call f a b :: x, .call g c d :: y => Nat.beq f g && AVL.beq a c && AVL.beq b d && defEq x y
  | _, _ => false
/-- Blocks that are the same. -/
def AObj.eqv : AObj → AObj → Bool
  | .cells l t m, .cells l' t' m' => AVL.beq l l' && Nat.beq t t' && optN m m'
  | .map es c, .map es' c' => esEq es es' && Nat.beq c c'
  | .dfr none, .dfr none => true
  | .dfr (some l), .dfr (some l') => defEq l l'
  | .fill n v t, .fill n' v' t' => Nat.beq n n' && AV.beq v v' && Nat.beq t t'
  | _, _ => false

def preOK (top : Lay) (base : List Lay) : List (Nat × AObj) → Bool
  | [] => true
  | (n, o) :: l => match raw top base n with
    | some (some o') => match AObj.eqv o o' with
      | true => preOK top base l
      | false => false
    | _ => false
def hasName (n : Nat) : List (Nat × AObj) → Bool
  | [] => false
  | (m, _) :: l => match Nat.beq n m with
    | true => true
    | false => hasName n l
/-- What is new is free. -/
def newOK (pre : List (Nat × AObj)) (top : Lay) (base : List Lay) : List (Nat × Option AObj) → Bool
  | [] => true
  | (n, _) :: l => match hasName n pre with
    | true => newOK pre top base l
    | false => match raw top base n with
      | none => newOK pre top base l
      | some _ => false

def Hook.fits (h : Hook) (base : List Lay) (args : List AV) (s : S) : Bool := match s.rc with
  | some _ => false
  | none => match s.ds with
    | [] => AVL.beq h.args args && preOK s.top base h.pre && newOK h.pre s.top base h.post
    | _ :: _ => false

def hookR (base : List Lay) (f : FuncId) (args : List AV) (s : S) (miss : Res) : List Hook → Res
  | [] => miss
  | h :: hs => match Nat.beq f h.f && Nat.beq s.c h.c with
    | false => hookR base f args s miss hs
    | true => match h.fits base args s with
      | true => .one (.val h.v) (h.outS s)
      | false => hookR base f args s miss hs

/-- What a hook says. -/
def HookOK (P : Program) (h : Hook) : Prop := ∀ base args s, h.fits base args s = true → SoundT P (.call base h.f args s) [h.out s]

noncomputable def gStepH (P : Program) (hs : List Hook) (rec : Task → Res) (t : Task) : Res := Task.rec (motive := fun _ => Res)
  (fun x c s => gCode P rec x c s) (fun base f args s => hookR base f args s (gCall P rec base f args s) hs) (fun x f m s => gUnw P rec x f m s) (fun base l args s => gRoundS rec base l args s) t
noncomputable def evH (P : Program) (hs : List Hook) (n : Nat) : Task → Res :=
  Nat.rec (motive := fun _ => Task → Res) (fun _ => .no) (fun _ ih t => gStepH P hs ih t) n

theorem hookR_cases {base : List Lay} {f : FuncId} {args : List AV} {s : S} {miss : Res} : ∀ {hs : List Hook}, hookR base f args s miss hs = miss ∨ ∃ h ∈ hs, f = h.f ∧ h.fits base args s = true ∧ hookR base f args s miss hs = .one (.val h.v) (h.outS s)
  | [] => .inl rfl
  | h :: hs => by
    simp only [hookR]
    have ih := hookR_cases (base := base) (f := f) (args := args) (s := s) (miss := miss) (hs := hs)
    have later : (hookR base f args s miss hs = miss ∨ ∃ h' ∈ h :: hs, f = h'.f ∧ h'.fits base args s = true ∧ hookR base f args s miss hs = .one (.val h'.v) (h'.outS s)) := by
      rcases ih with h1 | ⟨h', h1, h2⟩
      · exact .inl h1
      · exact .inr ⟨h', List.mem_cons_of_mem _ h1, h2⟩
    cases hk : Nat.beq f h.f && Nat.beq s.c h.c with
    | false => exact later
    | true =>
      simp only
      simp only [Bool.and_eq_true, Nat.beq_eq] at hk
      cases hf : h.fits base args s with
      | false => exact later
      | true => exact .inr ⟨h, List.mem_cons_self .., hk.1, hf, rfl⟩

theorem sound_evH {P : Program} {hs : List Hook} (hok : ∀ h ∈ hs, HookOK P h) : ∀ n, Good (fun t => (evH P hs n t).toO) ∧ Sound P (fun t => (evH P hs n t).toO)
  | 0 => ⟨fun t outs h => by exact absurd h (by show (none : Outs) = some outs → False; intro h; cases h), fun t outs h => by exact absurd h (by show (none : Outs) = some outs → False; intro h; cases h)⟩
  | n + 1 => by
    obtain ⟨hg, hs'⟩ := sound_evH hok n
    have hg1 := good_step (P := P) hg
    have hs1 := sound_step hg hs'
    have key : ∀ t outs, (evH P hs (n + 1) t).toO = some outs → GoodO t.base t.top outs ∧ SoundT P t outs := by
      intro t outs h
      have plain : (gStep P (evH P hs n) t).toO = some outs → GoodO t.base t.top outs ∧ SoundT P t outs := by
        intro h
        rw [gStep_eq] at h
        exact ⟨hg1 t outs h, hs1 t outs h⟩
      cases t with
      | code x c s => exact plain h
      | unw x f m s => exact plain h
      | round base l args s => exact plain h
      | call base f args s =>
        have h' : (hookR base f args s (gCall P (evH P hs n) base f args s) hs).toO = some outs := h
        rcases hookR_cases (base := base) (f := f) (args := args) (s := s) (miss := gCall P (evH P hs n) base f args s) (hs := hs) with e | ⟨hk, hm, hf, hfit, e⟩
        · rw [e] at h'
          exact plain h'
        · rw [e] at h'
          simp only [Res.toO, Option.some.injEq] at h'
          subst h' hf
          exact ⟨GoodO.one _ _ _ (Mo.applyW _ _ _), hok hk hm base args s hfit⟩
    exact ⟨fun t outs h => (key t outs h).1, fun t outs h => (key t outs h).2⟩

/-- The memory that a hook is shown over. -/
def preW (h : Hook) : Lay := applyW (h.pre.map fun p => (p.1, some p.2)) .nil
def start (h : Hook) : S := ⟨.nil, [], none, preW h, h.c, h.c⟩

/-- What a block's name stands for behind: what it must stand for. -/
def leO : Option (Option AObj) → Option (Option AObj) → Bool
  | none, none => true
  | some _, some none => true
  | some (some a), some (some b) => AObj.eqv a b
  | _, _ => false
def nilT : Lay → Bool
  | .nil => true
  | .node v c0 c1 c2 c3 c4 c5 c6 c7 => (match v with | none => true | some _ => false) && nilT c0 && nilT c1 && nilT c2 && nilT c3 && nilT c4 && nilT c5 && nilT c6 && nilT c7
def leT : Lay → Lay → Bool
  | .nil, t => nilT t
  | .node v c0 c1 c2 c3 c4 c5 c6 c7, t => match t with
    | .nil => (match v with | none => true | some _ => false) && nilT c0 && nilT c1 && nilT c2 && nilT c3 && nilT c4 && nilT c5 && nilT c6 && nilT c7
    | .node v' c0' c1' c2' c3' c4' c5' c6' c7' => leO v v' && leT c0 c0' && leT c1 c1' && leT c2 c2' && leT c3 c3' && leT c4 c4' && leT c5 c5' && leT c6 c6' && leT c7 c7'

/-- The run's answer is the hook's. -/
def hookRun (h : Hook) (r : Res) : Bool := match r with
  | .one (.val v) s => AV.beq v h.v && leT s.top (applyW h.post (preW h)) && (match s.rc with | none => true | some _ => false)
  | _ => false
/-- Blocks that nothing is known of any more. -/
def gone : Nat → Nat → List (Nat × Option AObj)
  | _, 0 => []
  | a, n + 1 => fNat a fun a => (a, none) :: gone (a + 1) n

theorem defEq_eq : ∀ {a b : List ADef}, defEq a b = true → a = b
  | [], [], _ => rfl
  | [], _ :: _, h => by simp [defEq] at h
  | .coll n :: _, [], h => by simp [defEq] at h
  | .call .. :: _, [], h => by simp [defEq] at h
  | .coll n :: x, .coll m :: y, h => by
    simp only [defEq, Bool.and_eq_true, Nat.beq_eq] at h
    rw [h.1, defEq_eq h.2]
  | .coll n :: x, .call .. :: y, h => by simp [defEq] at h
  | .call .. :: x, .coll n :: y, h => by simp [defEq] at h
  | .call f a b :: x, .call g c d :: y, h => by
    simp only [defEq, Bool.and_eq_true, Nat.beq_eq] at h
    obtain ⟨⟨⟨h1, h2⟩, h3⟩, h4⟩ := h
    rw [h1, AVL.beq_eq h2, AVL.beq_eq h3, defEq_eq h4]
theorem AObj.eqv_eq {a b : AObj} (h : AObj.eqv a b = true) : a = b := by
  cases a <;> cases b <;> first
    | (simp only [AObj.eqv, Bool.false_eq_true] at h; done)
    | skip
  · rename_i l t m l' t' m'
    simp only [AObj.eqv, Bool.and_eq_true, Nat.beq_eq] at h
    obtain ⟨⟨h1, h2⟩, h3⟩ := h
    have : m = m' := by
      cases m <;> cases m' <;> simp [optN] at h3 ⊢
      exact h3
    rw [AVL.beq_eq h1, h2, this]
  · simp only [AObj.eqv, Bool.and_eq_true, Nat.beq_eq] at h
    rw [esEq_eq h.1, h.2]
  · rename_i c c'
    cases c <;> cases c' <;> simp only [AObj.eqv, Bool.false_eq_true] at h ⊢
    rw [defEq_eq h]
  all_goals first
    | (simp only [AObj.eqv, Bool.and_eq_true, Nat.beq_eq] at h
       obtain ⟨⟨rfl, h2⟩, rfl⟩ := h
       rw [AV.beq_eq h2])
    | skip

theorem nilT_get : ∀ (p : List D8) (t : Lay), nilT t = true → getP none p t = none
  | [], t, h => by
    cases t with
    | nil => rfl
    | node v c0 c1 c2 c3 c4 c5 c6 c7 =>
      cases v with
      | none => rfl
      | some v => simp [nilT] at h
  | b :: p, t, h => by
    cases t with
    | nil => rfl
    | node v c0 c1 c2 c3 c4 c5 c6 c7 =>
      simp only [nilT, Bool.and_eq_true] at h
      obtain ⟨⟨⟨⟨⟨⟨⟨⟨_, h0⟩, h1⟩, h2⟩, h3⟩, h4⟩, h5⟩, h6⟩, h7⟩ := h
      cases b <;> simp only [getP] <;> exact nilT_get p _ ‹_›
theorem leT_get : ∀ (p : List D8) (a b : Lay), leT a b = true → leO (getP none p a) (getP none p b) = true
  | [], a, b, h => by
    cases a with
    | nil =>
      have := nilT_get [] b h
      rw [this]; rfl
    | node v c0 c1 c2 c3 c4 c5 c6 c7 =>
      cases b with
      | nil =>
        cases v with
        | none => rfl
        | some v => simp [leT] at h
      | node v' c0' c1' c2' c3' c4' c5' c6' c7' =>
        simp only [leT, Bool.and_eq_true] at h
        obtain ⟨⟨⟨⟨⟨⟨⟨⟨h, _⟩, _⟩, _⟩, _⟩, _⟩, _⟩, _⟩, _⟩ := h
        exact h
  | c :: p, a, b, h => by
    cases a with
    | nil =>
      have := nilT_get (c :: p) b h
      rw [this]; rfl
    | node v c0 c1 c2 c3 c4 c5 c6 c7 =>
      cases b with
      | nil =>
        simp only [leT, Bool.and_eq_true] at h
        obtain ⟨⟨⟨⟨⟨⟨⟨⟨_, h0⟩, h1⟩, h2⟩, h3⟩, h4⟩, h5⟩, h6⟩, h7⟩ := h
        have : getP none (c :: p) (.node v c0 c1 c2 c3 c4 c5 c6 c7 : Lay) = none := by
          cases c <;> simp only [getP] <;> exact nilT_get p _ ‹_›
        rw [this]; rfl
      | node v' c0' c1' c2' c3' c4' c5' c6' c7' =>
        simp only [leT, Bool.and_eq_true] at h
        obtain ⟨⟨⟨⟨⟨⟨⟨⟨_, h0⟩, h1⟩, h2⟩, h3⟩, h4⟩, h5⟩, h6⟩, h7⟩ := h
        cases c <;> simp only [getP] <;> exact leT_get p _ _ ‹_›
theorem leT_raw {a b : Lay} (h : leT a b = true) (n : Nat) : leO (raw a [] n) (raw b [] n) = true := by
  have e : ∀ t : Lay, raw t [] n = getP none (path n) t := by
    intro t
    simp only [raw, getL]
    cases getP none (path n) t <;> rfl
  rw [e, e]
  exact leT_get _ _ _ h

theorem preW_raw {n : Nat} {y : Option AObj} : ∀ {pre : List (Nat × AObj)} {t : Lay}, raw (applyW (pre.map fun p => (p.1, some p.2)) t) [] n = some y → (∃ o, y = some o ∧ (n, o) ∈ pre) ∨ raw t [] n = some y
  | [], t, h => .inr h
  | (m, o) :: pre, t, h => by
    simp only [List.map_cons, applyW] at h
    rcases preW_raw h with ⟨o', h1, h2⟩ | h3
    · exact .inl ⟨o', h1, List.mem_cons_of_mem _ h2⟩
    · rw [raw_setL] at h3
      by_cases e : m = n
      · rw [if_pos e] at h3
        cases h3
        rw [← e]
        exact .inl ⟨o, rfl, List.mem_cons_self ..⟩
      · rw [if_neg e] at h3
        exact .inr h3
theorem preOK_all {top : Lay} {base : List Lay} : ∀ {pre : List (Nat × AObj)}, preOK top base pre = true → ∀ n o, (n, o) ∈ pre → raw top base n = some (some o)
  | [], _, n, o, h => by simp at h
  | (m, p) :: pre, hp, n, o, h => by
    simp only [preOK] at hp
    split at hp
    · rename_i o' ho
      split at hp
      · rename_i he
        have he := AObj.eqv_eq he
        rcases List.mem_cons.1 h with h | h
        · cases h
          rw [ho, he]
        · exact preOK_all hp n o h
      · cases hp
    · cases hp
theorem hasName_iff {n : Nat} : ∀ {pre : List (Nat × AObj)}, hasName n pre = true → ∃ o, (n, o) ∈ pre
  | [], h => by simp [hasName] at h
  | (m, p) :: pre, h => by
    simp only [hasName] at h
    split at h
    · rename_i e
      simp only [Nat.beq_eq] at e
      subst e
      exact ⟨p, List.mem_cons_self ..⟩
    · obtain ⟨o, ho⟩ := hasName_iff h
      exact ⟨o, List.mem_cons_of_mem _ ho⟩
theorem newOK_all {pre : List (Nat × AObj)} {top : Lay} {base : List Lay} : ∀ {post : List (Nat × Option AObj)}, newOK pre top base post = true → ∀ n o, (n, o) ∈ post → (∃ o', (n, o') ∈ pre) ∨ raw top base n = none
  | [], _, n, o, h => by simp at h
  | (m, p) :: post, hp, n, o, h => by
    simp only [newOK] at hp
    split at hp
    · rename_i hn
      rcases List.mem_cons.1 h with h | h
      · cases h; exact .inl (hasName_iff hn)
      · exact newOK_all hp n o h
    · split at hp
      · rename_i hr
        rcases List.mem_cons.1 h with h | h
        · cases h; exact .inr hr
        · exact newOK_all hp n o h
      · cases hp
/-- What is written does not hang on what lay there. -/
theorem applyW_same {n : Nat} : ∀ {l : List (Nat × Option AObj)} {t t' : Lay} {base base' : List Lay}, (∃ o, (n, o) ∈ l) ∨ raw t base n = raw t' base' n → raw (applyW l t) base n = raw (applyW l t') base' n
  | [], t, t', base, base', h => by
    rcases h with ⟨o, h⟩ | h
    · simp at h
    · exact h
  | (m, p) :: l, t, t', base, base', h => by
    simp only [applyW]
    refine applyW_same ?_
    by_cases e : m = n
    · right
      rw [raw_setL, raw_setL, if_pos e, if_pos e]
    · rcases h with ⟨o, h⟩ | h
      · rcases List.mem_cons.1 h with h | h
        · cases h; exact absurd rfl e
        · exact .inl ⟨o, h⟩
      · right
        rw [raw_setL, raw_setL, if_neg e, if_neg e]
        exact h

theorem hooks_nil {P : Program} : ∀ h ∈ ([] : List Hook), HookOK P h := fun _ h => by simp at h
theorem hooks_cons {P : Program} {a : Hook} {l : List Hook} (ha : HookOK P a) (hl : ∀ h ∈ l, HookOK P h) : ∀ h ∈ a :: l, HookOK P h := fun h hm => by
  rcases List.mem_cons.1 hm with rfl | hm
  · exact ha
  · exact hl h hm

theorem hook_of_run {P : Program} {hs : List Hook} (hok : ∀ h ∈ hs, HookOK P h) {h : Hook} (n : Nat) (hrun : hookRun h (evH P hs n (.call [] h.f h.args (start h))) = true) : HookOK P h := by
  obtain ⟨_, hsound⟩ := sound_evH hok n
  cases hr : evH P hs n (.call [] h.f h.args (start h)) with
  | no => rw [hr] at hrun; simp [hookRun] at hrun
  | many l => rw [hr] at hrun; simp [hookRun] at hrun
  | one e s' =>
    rw [hr] at hrun
    cases e with
    | val v =>
      simp only [hookRun, Bool.and_eq_true] at hrun
      obtain ⟨⟨hv, hle⟩, hrc0⟩ := hrun
      have hv := AV.beq_eq hv
      subst hv
      have hs := hsound (.call [] h.f h.args (start h)) [⟨.val h.v, s'⟩] (by show (evH P hs n _).toO = _; rw [hr]; rfl)
      have hle := leT_raw hle
      intro base args s hfit B w0 θ G w kind cs pk xs hi hfn hxs hrc hkind
      unfold Hook.fits at hfit
      split at hfit
      · cases hfit
      · rename_i hsrc
        rw [hsrc] at hrc
        have hds : s.ds = [] := by
          cases e : s.ds with
          | nil => rfl
          | cons d l => rw [e] at hfit; cases hfit
        rw [hds] at hfit
        simp only [Bool.and_eq_true] at hfit
        obtain ⟨⟨ha, hpre⟩, hnew⟩ := hfit
        have ha := AVL.beq_eq ha
        subst ha
        have hpre := preOK_all hpre
        have hnew := newOK_all hnew
        have hpreK : ∀ n o, (n, o) ∈ h.pre → raw (preW h) [] n ≠ none := fun n o hm => raw_applyW_mem _ _ _ n (some o) (List.mem_map.2 ⟨(n, o), hm, rfl⟩)
        have hpreS : ∀ n y, raw (preW h) [] n = some y → ∃ o, y = some o ∧ (n, o) ∈ h.pre := by
          intro n y hy
          rcases preW_raw hy with h1 | h1
          · exact h1
          · simp [raw, getL_nil] at h1
        have hInv : Inv B w0 θ G w (start h).top [] := ⟨hi.hr, fun n y e => by
          obtain ⟨o, rfl, hm⟩ := hpreS n y e
          exact hi.agree n _ (hpre n o hm)⟩
        have hknown : ∀ n, raw s'.top [] n ≠ none → raw (preW h) [] n = none → (∃ o, (n, o) ∈ h.post) := by
          intro n h1 h2
          refine Classical.byContradiction fun hno => ?_
          have := hle n
          rw [raw_applyW_ne _ _ _ _ (fun o ho => hno ⟨o, ho⟩), h2] at this
          cases e : raw s'.top [] n with
          | none => exact h1 e
          | some z => rw [e] at this; cases z <;> simp [leO] at this
        have hFN : FN θ G [] (start h).top [⟨.val h.v, s'⟩] := by
          intro o ho n h1 h2
          rw [List.mem_singleton.1 ho] at h2
          obtain ⟨q, hq⟩ := hknown n h2 h1
          refine hfn _ (List.mem_singleton.2 rfl) n ?_ (raw_applyW_mem _ _ _ n q hq)
          rcases hnew n q hq with ⟨o', ho'⟩ | h3
          · exact absurd h1 (hpreK n o' ho')
          · exact h3
        obtain ⟨out, hout, θ', G', w', pk', fr', hi', hext, hrc', hst, hkd, hlv⟩ := hs B w0 θ G w kind cs pk xs hInv hFN hxs hrc (fun _ => hkind hds)
        rw [List.mem_singleton.1 hout] at hi' hext hrc' hlv
        have hrcs : s'.rc = none := by
          cases e : s'.rc with
          | none => rfl
          | some z => rw [e] at hrc0; simp at hrc0
        have hrc' : RcR θ' none kind pk' cs := by rw [← hrcs]; exact hrc'
        refine ⟨h.out s, List.mem_singleton.2 rfl, θ', (fun n => match raw (applyW h.post s.top) base n with | some none => none | _ => G' n), w', pk', fr', ⟨hi'.hr.less fun n o e => ?_, fun n y e => ?_⟩, ⟨hext.le, Mo.applyW _ _ _, fun n e => ?_⟩, hrc', hst, hkd, hlv⟩
        · split at e
          · cases e
          · exact e
        · have e' : raw (applyW h.post s.top) base n = some y := e
          show (match raw (applyW h.post s.top) base n with | some none => none | _ => G' n) = y
          rw [e']
          cases y with
          | none => rfl
          | some o =>
            show G' n = some o
            by_cases hp : ∃ q, (n, q) ∈ h.post
            · have h1 : raw (applyW h.post (preW h)) [] n = some (some o) := by
                rw [← e']
                exact applyW_same (.inl hp)
              have h2 := hle n
              rw [h1] at h2
              cases e2 : raw s'.top [] n with
              | none => rw [e2] at h2; simp [leO] at h2
              | some z =>
                rw [e2] at h2
                cases z with
                | none => simp [leO] at h2
                | some o' =>
                  simp only [leO] at h2
                  rw [AObj.eqv_eq h2] at e2
                  exact hi'.agree n _ e2
            · have hno : ∀ q, (n, q) ∉ h.post := fun q hq => hp ⟨q, hq⟩
              rw [raw_applyW_ne _ _ _ _ hno] at e'
              cases e2 : raw s'.top [] n with
              | none => rw [(hext.same n e2).2]; exact hi.agree n _ e'
              | some z =>
                have h2 := hle n
                rw [raw_applyW_ne _ _ _ _ hno, e2] at h2
                cases e3 : raw (preW h) [] n with
                | none => rw [e3] at h2; cases z <;> simp [leO] at h2
                | some z3 =>
                  obtain ⟨o3, rfl, hm⟩ := hpreS n z3 e3
                  have h3 := hpre n o3 hm
                  rw [e'] at h3
                  simp only [Option.some.injEq] at h3
                  subst h3
                  rw [e3] at h2
                  cases z with
                  | none => simp [leO] at h2
                  | some o' =>
                    simp only [leO] at h2
                    rw [AObj.eqv_eq h2] at e2
                    exact hi'.agree n _ e2
        · have e' : raw (applyW h.post s.top) base n = none := e
          have hno : ∀ q, (n, q) ∉ h.post := fun q hq => raw_applyW_mem _ _ _ n q hq e'
          have h0 := e'
          rw [raw_applyW_ne _ _ _ _ hno] at h0
          have hp0 : raw (preW h) [] n = none := by
            cases e3 : raw (preW h) [] n with
            | none => rfl
            | some z3 =>
              obtain ⟨o3, _, hm⟩ := hpreS n z3 e3
              rw [hpre n o3 hm] at h0; cases h0
          have hs0 : raw s'.top [] n = none := by
            refine Classical.byContradiction fun hne => ?_
            obtain ⟨q, hq⟩ := hknown n hne hp0
            exact hno q hq
          refine ⟨(hext.same n hs0).1, ?_⟩
          show (match raw (applyW h.post s.top) base n with | some none => none | _ => G' n) = G n
          rw [e']
          exact (hext.same n hs0).2
    | _ => simp [hookRun] at hrun
end Go.AE
/-
  From a hook to a call's contract.
-/
namespace Go.AE
open Go.RowKit

/-- The start: no name stands for a block; the open values are given. -/
def th0 (env : Nat → Value) : Th := ⟨fun _ => none, fun _ => none, env⟩

theorem Base.grows {w w' : World} (h : Base (· < w.heap.size) w w') : w.heap.size ≤ w'.heap.size := by
  rcases Nat.eq_zero_or_pos w.heap.size with h0 | h0
  · omega
  · have := h.lt (w.heap.size - 1) (Nat.sub_lt h0 Nat.one_pos)
    omega
theorem Base.below {w w' : World} (h : Base (· < w.heap.size) w w') : Below w.heap.size w w' := ⟨h.os, h.tape, h.out, h.grows, h.old⟩

theorem calls_of_hook {P : Program} {h : Hook} (hok : HookOK P h) (hfit : h.fits [] h.args ⟨.nil, [], none, .nil, h.c, h.c⟩ = true) {xs : Array Value} {env : Nat → Value} (henv : ∀ i, (env i).cells = #[env i] ∧ (env i).oneCell' = true)
    (hargs : VRL (th0 env) h.args xs.toList) {b : Bool} (hv : h.v = .bool b) (w : World) : Calls P h.f xs w fun e w' => e = .returned (.bool b) ∧ Below w.heap.size w w' := by
  intro cs
  have hinv : Inv (· < w.heap.size) w (th0 env) (fun _ => none) w .nil [] := ⟨⟨fun _ _ e => by (exact absurd e (by simp)), fun _ _ _ _ _ _ _ _ _ _ e => by (exact absurd e (by simp)), ⟨fun _ h => h, fun _ _ => rfl, rfl, rfl, rfl⟩, henv⟩, fun n y e => by simp [raw, getL_nil] at e⟩
  obtain ⟨out, ho, θ', G', w', pk', fr', hi', hext, hrc', hst, ⟨hkd, hfn⟩, hdf, _, hlv⟩ := hok [] h.args ⟨.nil, [], none, .nil, h.c, h.c⟩ hfit (· < w.heap.size) w (th0 env) (fun _ => none) w .normal cs none xs hinv (fun _ _ _ _ _ => ⟨rfl, rfl, rfl⟩) hargs (RcR.normal _ _) (fun _ => rfl)
  obtain rfl := List.mem_singleton.1 ho
  obtain ⟨_, rfl⟩ := hrc'.of_normal
  obtain ⟨hm, fn, y, hf, hr, hy⟩ := hlv
  rw [hv] at hy
  simp only [VR] at hy
  subst hy
  exact ⟨.returned (.bool b), w', fr', ⟨rfl, hi'.hr.base.below⟩, hst, hfn, hm, hdf, hkd, fn, hf, hr⟩
theorem calls_of_hook' {P : Program} {h : Hook} (hok : HookOK P h) (hfit : h.fits [] h.args ⟨.nil, [], none, .nil, h.c, h.c⟩ = true) {xs : Array Value} {env : Nat → Value} (henv : ∀ i, (env i).cells = #[env i] ∧ (env i).oneCell' = true)
    (hargs : VRL (th0 env) h.args xs.toList) {R : Value → Prop} (hv : ∀ θ y, VR θ h.v y → R y) (w : World) : Calls P h.f xs w fun e w' => ∃ y, e = .returned y ∧ R y ∧ Below w.heap.size w w' := by
  intro cs
  have hinv : Inv (· < w.heap.size) w (th0 env) (fun _ => none) w .nil [] := ⟨⟨fun _ _ e => by (exact absurd e (by simp)), fun _ _ _ _ _ _ _ _ _ _ e => by (exact absurd e (by simp)), ⟨fun _ h => h, fun _ _ => rfl, rfl, rfl, rfl⟩, henv⟩, fun n y e => by simp [raw, getL_nil] at e⟩
  obtain ⟨out, ho, θ', G', w', pk', fr', hi', hext, hrc', hst, ⟨hkd, hfn⟩, hdf, _, hlv⟩ := hok [] h.args ⟨.nil, [], none, .nil, h.c, h.c⟩ hfit (· < w.heap.size) w (th0 env) (fun _ => none) w .normal cs none xs hinv (fun _ _ _ _ _ => ⟨rfl, rfl, rfl⟩) hargs (RcR.normal _ _) (fun _ => rfl)
  obtain rfl := List.mem_singleton.1 ho
  obtain ⟨_, rfl⟩ := hrc'.of_normal
  obtain ⟨hm, fn, y, hf, hr, hy⟩ := hlv
  exact ⟨.returned y, w', fr', ⟨y, rfl, hv θ' y hy, hi'.hr.base.below⟩, hst, hfn, hm, hdf, hkd, fn, hf, hr⟩
end Go.AE
/-
  A hook as a contract for walks by hand: its blocks are still described as before, all others are exactly as before. And back: a contract that was walked by hand as a hook.
-/
namespace Go.AE

theorem FR.anti {θ θ' : Th} (h : θ.Le θ') {f : Fn} {g0 g : Fn} (a : FR θ f g0) (b : FR θ' f g) : FR θ f g := by
  cases f with
  | func f => exact b
  | methodOf t n => exact b
  | yield l =>
    obtain ⟨c, d, r, e, _⟩ := a
    obtain ⟨c', d', r', e', rfl⟩ := b
    have := h.addr _ _ e
    rw [e'] at this; cases this
    exact ⟨_, _, _, e, rfl⟩
  | _ => exact a.elim

mutual
theorem VR.anti {θ θ' : Th} (h : θ.Le θ') : ∀ (v : AV) (x0 x : Value), VR θ v x0 → VR θ' v x → VR θ v x
  | .int _ _, _, _, _, k => by simpa only [VR] using k
  | .bool _, _, _, _, k => by simpa only [VR] using k
  | .str _, _, _, _, k => by simpa only [VR] using k
  | .strN _, _, _, _, k => by simpa only [VR] using k
  | .any, _, _, _, _ => by simp only [VR]
  | .opq _, _, _, _, k => by simp only [VR] at k ⊢; rw [k, h.env]
  | .ptr0, _, _, _, k => by simpa only [VR] using k
  | .sl0, _, _, _, k => by simpa only [VR] using k
  | .slE, _, _, _, k => by simpa only [VR] using k
  | .map0, _, _, _, k => by simpa only [VR] using k
  | .fn0, _, _, _, k => by simpa only [VR] using k
  | .if0, _, _, _, k => by simpa only [VR] using k
  | .ptr _ _, _, _, k0, k => by
    simp only [VR] at k0 k ⊢
    obtain ⟨b0, d0, r0, e0, _⟩ := k0
    obtain ⟨b, d, r, e, rfl⟩ := k
    have := h.addr _ _ e0
    rw [e] at this; cases this
    exact ⟨_, _, _, e0, rfl⟩
  | .sl _ _ _ _ _, _, _, k0, k => by
    simp only [VR] at k0 k ⊢
    obtain ⟨b0, d0, r0, c0, e0, _⟩ := k0
    obtain ⟨b, d, r, c, e, k⟩ := k
    have := h.addr _ _ e0
    rw [e] at this; cases this
    exact ⟨_, _, _, c, e0, k⟩
  | .map _, _, _, k0, k => by
    simp only [VR] at k0 k ⊢
    obtain ⟨b0, d0, r0, e0, _⟩ := k0
    obtain ⟨b, d, r, e, k⟩ := k
    have := h.addr _ _ e0
    rw [e] at this; cases this
    exact ⟨_, _, _, e0, k⟩
  | .fn _ fs cs, _, _, k0, k => by
    simp only [VR] at k0 k ⊢
    obtain ⟨g0, a0, b0, _, hf0, h10, h20⟩ := k0
    obtain ⟨g, a, b, rfl, hf, h1, h2⟩ := k
    exact ⟨g, a, b, rfl, hf0.anti h hf, VRL.anti h fs _ _ h10 h1, VRL.anti h cs _ _ h20 h2⟩
  | .ifc _ v, _, _, k0, k => by
    simp only [VR] at k0 k ⊢
    obtain ⟨y0, _, h10⟩ := k0
    obtain ⟨y, rfl, h1⟩ := k
    exact ⟨y, rfl, VR.anti h v _ _ h10 h1⟩
  | .agg cs, _, _, k0, k => by
    simp only [VR] at k0 k ⊢
    obtain ⟨y0, _, h10⟩ := k0
    obtain ⟨y, rfl, h1⟩ := k
    exact ⟨y, rfl, VRL.anti h cs _ _ h10 h1⟩
  | .tup cs, _, _, k0, k => by
    simp only [VR] at k0 k ⊢
    obtain ⟨y0, _, h10⟩ := k0
    obtain ⟨y, rfl, h1⟩ := k
    exact ⟨y, rfl, VRL.anti h cs _ _ h10 h1⟩
theorem VRL.anti {θ θ' : Th} (h : θ.Le θ') : ∀ (v : List AV) (x0 x : List Value), VRL θ v x0 → VRL θ' v x → VRL θ v x
  | [], _, _, _, k => by simpa only [VRL] using k
  | v :: vs, _, _, k0, k => by
    simp only [VRL] at k0 k ⊢
    obtain ⟨x0, xs0, rfl, h10, h20⟩ := k0
    obtain ⟨x, xs, rfl, h1, h2⟩ := k
    exact ⟨x, xs, rfl, VR.anti h v _ _ h10 h1, VRL.anti h vs _ _ h20 h2⟩
end

theorem DR.anti {θ θ' : Th} (h : θ.Le θ') {d : ADef} {x0 x : Deferred} (a : DR θ d x0) (k : DR θ' d x) : DR θ d x := by
  cases d with
  | coll n =>
    obtain ⟨b0, d0, r0, e0, _⟩ := a
    obtain ⟨b, d, r, e, rfl⟩ := k
    have := h.addr _ _ e0
    rw [e] at this; cases this
    exact ⟨_, _, _, e0, rfl⟩
  | call f cap args =>
    obtain ⟨cs0, as0, _, h10, h20⟩ := a
    obtain ⟨cs, as, rfl, h1, h2⟩ := k
    exact ⟨cs, as, rfl, VRL.anti h _ _ _ h10 h1, VRL.anti h _ _ _ h20 h2⟩
theorem DRL.anti {θ θ' : Th} (h : θ.Le θ') : ∀ {l : List ADef} {x0 x : List Deferred}, DRL θ l x0 → DRL θ' l x → DRL θ l x
  | [], _, _, _, k => k
  | _ :: _, _, _, a, k => by
    obtain ⟨x0, xs0, rfl, h10, h20⟩ := a
    obtain ⟨x, xs, rfl, h1, h2⟩ := k
    exact ⟨x, xs, rfl, h10.anti h h1, DRL.anti h h20 h2⟩
theorem ERL.anti {θ θ' : Th} (h : θ.Le θ') : ∀ {l : List (Nat × AV × AV)} {x0 x : List MapEntry}, ERL θ l x0 → ERL θ' l x → ERL θ l x
  | [], _, _, _, k => k
  | _ :: _, _, _, a, k => by
    obtain ⟨x0, xs0, rfl, ⟨s0, k0, v0⟩, h20⟩ := a
    obtain ⟨x, xs, rfl, ⟨s1, k1, v1⟩, h2⟩ := k
    have := h.stamp _ _ s0
    rw [s1] at this
    exact ⟨x, xs, rfl, ⟨by rw [s0, ← this], VR.anti h _ _ _ k0 k1, VR.anti h _ _ _ v0 v1⟩, ERL.anti h h20 h2⟩
theorem SR.anti {θ θ' : Th} (h : θ.Le θ') : ∀ {l x0 x : List Nat}, SR θ l x0 → SR θ' l x → SR θ l x
  | [], _, _, _, k => k
  | _ :: _, _, _, a, k => by
    obtain ⟨x0, xs0, rfl, s0, h20⟩ := a
    obtain ⟨x, xs, rfl, s1, h2⟩ := k
    have := h.stamp _ _ s0
    rw [s1] at this
    exact ⟨x, xs, rfl, by rw [s0, ← this], SR.anti h h20 h2⟩
theorem TR.anti {θ θ' : Th} (h : θ.Le θ') {T : Tm} {n : Nat} {t0 t : Array Value} (a : TR θ T n t0) (k : TR θ' T n t) : TR θ T n t := ⟨k.size, fun u => VR.anti h _ _ _ (a.val u) (k.val u)⟩

theorem ORel.anti {θ θ' : Th} (h : θ.Le θ') {d r d' r' : Nat} {o : AObj} {x0 x : Obj} (a : ORel θ d' r' o x0) (k : ORel θ' d r o x) : ORel θ d r o x := by
  cases o with
  | cells l t m =>
    obtain ⟨_, _, _, _, _, _, _, _, h40⟩ := a
    obtain ⟨cs, e, lo, hi, rfl, h1, h2, h3, h4⟩ := k
    refine ⟨cs, e, lo, hi, rfl, h1, h2, h3, fun i v hv => ?_⟩
    obtain ⟨y0, _, hr0⟩ := h40 i v hv
    obtain ⟨y, hy, hr⟩ := h4 i v hv
    exact ⟨y, hy, VR.anti h _ _ _ hr0 hr⟩
  | map es cl =>
    obtain ⟨_, _, _, _, h20, _, _⟩ := a
    obtain ⟨ents, L, rfl, h1, h2, h3, h4⟩ := k
    exact ⟨ents, L, rfl, h1, h20.anti h h2, h3, h4⟩
  | iter m since seen stepped start =>
    obtain ⟨_, _, h10, h20, _⟩ := a
    obtain ⟨sn, last, h1, h2, h3⟩ := k
    refine ⟨sn, last, ?_, h20.anti h h2, h3⟩
    cases m with
    | none => exact h1
    | some m =>
      obtain ⟨_, _, _, e0, _⟩ := h10
      obtain ⟨b, d', r', e, hx⟩ := h1
      have := h.addr _ _ e0
      rw [e] at this; cases this
      exact ⟨_, _, _, e0, hx⟩
  | loop st pd T n ps as bd dn =>
    obtain ⟨_, _, _, _, h30, _, _, _, _, _, _, e0, _⟩ := a
    obtain ⟨lp, rfl, h1, h2, h3, h4, h5, h6, b, d', r', e, h7⟩ := k
    have := h.addr _ _ e0
    rw [e] at this; cases this
    exact ⟨lp, rfl, h1, h2, h30.anti h h3, h4, h5, h6, _, _, _, e0, h7⟩
  | fill n v t =>
    obtain ⟨_, _, _, _, _, _, _, _, h40⟩ := a
    obtain ⟨cs, e, lo, hi, rfl, h1, h2, h3, h4⟩ := k
    refine ⟨cs, e, lo, hi, rfl, h1, h2, h3, fun i hi => ?_⟩
    obtain ⟨y0, _, hr0⟩ := h40 i hi
    obtain ⟨y, hy, hr⟩ := h4 i hi
    exact ⟨y, hy, VR.anti h _ _ _ hr0 hr⟩
  | dfr calls =>
    obtain ⟨_, _, h10⟩ := a
    obtain ⟨cs, rfl, h1⟩ := k
    refine ⟨cs, rfl, ?_⟩
    rename_i cs0 _
    cases calls <;> cases cs0 <;> cases cs <;> simp only at h1 h10 ⊢
    exact h10.anti h h1

/-- What was known at first is known still, under the first names. -/
theorem HR.anti {B K : Nat → Prop} {w0 w1 w w' : World} {θ θ' : Th} {G G' : Hp} (h : HR B w0 θ G w) (hle : θ.Le θ') (k : HR K w1 θ' G' w') (hG : ∀ n o, G n = some o → G' n = some o) (hb : Base B w0 w') : HR B w0 θ G w' := by
  refine ⟨fun n o e => ?_, h.sep, hb, h.env⟩
  obtain ⟨b, d, r, x0, a0, hB, _, ho0⟩ := h.obj n o e
  obtain ⟨b', d', r', x, a, _, hx, ho⟩ := k.obj n o (hG n o e)
  have := hle.addr _ _ a0
  rw [a] at this; cases this
  exact ⟨_, _, _, x, a0, hB, hx, ho0.anti hle ho⟩

/-- The blocks that nothing is known of. -/
def Unk (θ : Th) (G : Hp) (w : World) (i : Nat) : Prop := i < w.heap.size ∧ ∀ n o b d r, G n = some o → θ.addr n = some (b, d, r) → i ≠ b
theorem HR.unk {B : Nat → Prop} {w0 w : World} {θ : Th} {G : Hp} (h : HR B w0 θ G w) : HR (Unk θ G w) w θ G w :=
  ⟨fun n o e => by
    obtain ⟨b, d, r, x, a, _, hx, ho⟩ := h.obj n o e
    exact ⟨b, d, r, x, a, fun k => k.2 n o b d r e a rfl, hx, ho⟩, h.sep, ⟨fun _ k => k.1, fun _ _ => rfl, rfl, rfl, rfl⟩, h.env⟩
theorem HR.known {B : Nat → Prop} {w0 w : World} {θ : Th} {G : Hp} (h : HR B w0 θ G w) {i : Nat} (hi : B i) : Unk θ G w i := by
  refine ⟨h.base.lt i hi, ?_⟩
  rintro n o b d r e a rfl
  obtain ⟨b', d', r', x, a', hB, _, _⟩ := h.obj n o e
  rw [a] at a'; cases a'
  exact hB hi
theorem HR.rebase {B : Nat → Prop} {w0 w w' : World} {θ : Th} {G : Hp} (h : HR B w0 θ G w) (k : Base (Unk θ G w) w w') : Base B w0 w' :=
  ⟨fun i hi => k.lt i (h.known hi), fun i hi => (k.old i (h.known hi)).trans (h.base.old i hi), k.tape.trans h.base.tape, k.os.trans h.base.os, k.out.trans h.base.out⟩
theorem HR.wider {B K : Nat → Prop} {w0 w1 w' : World} {θ' : Th} {G' : Hp} (k : HR K w1 θ' G' w') (hb : Base B w0 w') (hK : ∀ i, B i → K i) : HR B w0 θ' G' w' :=
  ⟨fun n o e => by
    obtain ⟨b, d, r, x, a, hB, hx, ho⟩ := k.obj n o e
    exact ⟨b, d, r, x, a, fun hi => hB (hK b hi), hx, ho⟩, k.sep, hb, k.env⟩

theorem hook_agree {h : Hook} {G : Hp} (hpre : ∀ n o, (n, o) ∈ h.pre → G n = some o) : ∀ n y, raw (preW h) [] n = some y → G n = y := by
  intro n y hy
  rcases preW_raw hy with ⟨o, rfl, hm⟩ | h1
  · exact hpre n o hm
  · simp [raw, getL_nil] at h1

/-- A hook as a contract. -/
theorem calls_hook {P : Program} {h : Hook} (hok : HookOK P h) (hfit : h.fits [] h.args (start h) = true) {B : Nat → Prop} {w0 w : World} {θ : Th} {G : Hp} (hr : HR B w0 θ G w)
    (hpre : ∀ n o, (n, o) ∈ h.pre → G n = some o) (hfree : ∀ n o, (n, o) ∈ h.post → hasName n h.pre = false → Free θ G n) {xs : Array Value} (hargs : VRL θ h.args xs.toList) :
    Calls P h.f xs w fun e w' => ∃ y θ' G', e = .returned y ∧ θ.Le θ' ∧ VR θ' h.v y ∧ HR B w0 θ' G' w' ∧ Base (Unk θ G w) w w' ∧ (∀ n y, raw (applyW h.post (preW h)) [] n = some y → G' n = y) ∧
      (∀ n, raw (applyW h.post (preW h)) [] n = none → (θ'.addr n = θ.addr n ∧ θ'.stamp n = θ.stamp n) ∧ G' n = G n) := by
  intro cs
  have hinv : Inv (Unk θ G w) w θ G w (preW h) [] := ⟨hr.unk, hook_agree hpre⟩
  have hFN : FN θ G [] (start h).top [h.out (start h)] := by
    intro o ho n h1 h2
    obtain rfl := List.mem_singleton.1 ho
    refine Classical.byContradiction fun hno => ?_
    refine h2 ?_
    have : raw (applyW h.post (preW h)) [] n = none := by
      rw [raw_applyW_ne _ _ _ _ fun o ho => ?_]
      · exact h1
      · refine hno (hfree n o ho ?_)
        cases e : hasName n h.pre with
        | false => rfl
        | true =>
          obtain ⟨o', ho'⟩ := hasName_iff e
          exact absurd h1 (raw_applyW_mem _ _ _ n (some o') (List.mem_map.2 ⟨(n, o'), ho', rfl⟩))
    exact this
  obtain ⟨out, ho, θ', G', w', pk', fr', hi', hext, hrc', hst, ⟨hkd, hfn⟩, hdf, _, hlv⟩ := hok [] h.args (start h) hfit (Unk θ G w) w θ G w .normal cs none xs hinv hFN hargs (RcR.normal _ _) (fun _ => rfl)
  obtain rfl := List.mem_singleton.1 ho
  obtain ⟨_, rfl⟩ := hrc'.of_normal
  obtain ⟨hm, fn, y, hf, hrs, hy⟩ := hlv
  exact ⟨.returned y, w', fr', ⟨y, θ', G', rfl, hext.le, hy, hi'.hr.wider (hr.rebase hi'.hr.base) fun i hi => hr.known hi, hi'.hr.base, hi'.agree, hext.same⟩, hst, hfn, hm, hdf, hkd, fn, hf, hrs⟩

/-- A hook that leaves all as it is. -/
theorem calls_pure {P : Program} {h : Hook} (hok : HookOK P h) (hfit : h.fits [] h.args (start h) = true) {B : Nat → Prop} {w0 w : World} {θ : Th} {G : Hp} (hr : HR B w0 θ G w)
    (hpre : ∀ n o, (n, o) ∈ h.pre → G n = some o) (hfree : ∀ n o, (n, o) ∈ h.post → Free θ G n) {xs : Array Value} (hargs : VRL θ h.args xs.toList) :
    Calls P h.f xs w fun e w' => ∃ y θ', e = .returned y ∧ θ.Le θ' ∧ VR θ' h.v y ∧ HR B w0 θ G w' ∧ Base (Unk θ G w) w w' := by
  refine (calls_hook hok hfit hr hpre (fun n o hm _ => hfree n o hm) hargs).mono ?_
  rintro e w' ⟨y, θ', G', rfl, hle, hy, hr', hb, hag, hsame⟩
  refine ⟨y, θ', rfl, hle, hy, hr.anti hle hr' (fun n o e => ?_) (hr.rebase hb), hb⟩
  cases e' : raw (applyW h.post (preW h)) [] n with
  | none => rw [(hsame n e').2]; exact e
  | some z =>
    by_cases hp : ∃ o, (n, o) ∈ h.post
    · obtain ⟨o', ho'⟩ := hp
      have := (hfree n _ ho').obj
      rw [e] at this; cases this
    · have h1 := hag n z e'
      rw [raw_applyW_ne _ _ _ _ fun o ho => hp ⟨o, ho⟩] at e'
      have h2 := hook_agree hpre n z e'
      rw [h1, ← h2]; exact e

/-- A contract, walked by hand, as a hook: it leaves all as it is; the names in 'post' are those that its walk may use. -/
theorem hook_of_calls {P : Program} {h : Hook} (hpost : ∀ n o, (n, o) ∈ h.post → o = none ∧ hasName n h.pre = false)
    (H : ∀ (B : Nat → Prop) (w0 : World) (θ : Th) (G : Hp) (w : World) (xs : Array Value), HR B w0 θ G w → (∀ n o, (n, o) ∈ h.pre → G n = some o) → (∀ n o, (n, o) ∈ h.post → Free θ G n) → VRL θ h.args xs.toList →
      Calls P h.f xs w fun e w' => ∃ y, e = .returned y ∧ VR θ h.v y ∧ HR B w0 θ G w') : HookOK P h := by
  intro base args s hfit B w0 θ G w kind cs pk xs hi hfn hxs hrc hkind
  unfold Hook.fits at hfit
  split at hfit
  · cases hfit
  · rename_i hsrc
    rw [hsrc] at hrc
    have hds : s.ds = [] := by
      cases e : s.ds with
      | nil => rfl
      | cons d l => rw [e] at hfit; cases hfit
    rw [hds] at hfit
    simp only [Bool.and_eq_true] at hfit
    obtain ⟨⟨ha, hpre⟩, hnew⟩ := hfit
    have ha := AVL.beq_eq ha
    subst ha
    have hpre := preOK_all hpre
    have hnew := newOK_all hnew
    obtain rfl := hkind hds
    obtain ⟨_, rfl⟩ := hrc.of_normal
    have hfree : ∀ n o, (n, o) ∈ h.post → Free θ G n := by
      intro n o hm
      refine hfn _ (List.mem_singleton.2 rfl) n ?_ (raw_applyW_mem _ _ _ n o hm)
      rcases hnew n o hm with ⟨o', ho'⟩ | h3
      · have := (hpost n o hm).2
        have h2 : ∀ {l : List (Nat × AObj)}, (n, o') ∈ l → hasName n l = true := by
          intro l
          induction l with
          | nil => intro h; simp at h
          | cons a l ih =>
            intro h
            simp only [hasName]
            split
            · rfl
            · rename_i e
              rcases List.mem_cons.1 h with h | h
              · subst h; simp at e
              · exact ih h
        rw [h2 ho'] at this; cases this
      · exact h3
    obtain ⟨e, w', fr', ⟨y, rfl, hy, hr'⟩, hst, hfn', hm, hdf, hkd, fn, hf, hr⟩ := H B w0 θ G w xs hi.hr (fun n o hm => hi.agree n _ (hpre n o hm)) hfree hxs cs
    refine ⟨h.out s, List.mem_singleton.2 rfl, θ, G, w', none, fr', ⟨hr', fun n y e => ?_⟩, ⟨Th.Le.refl θ, Mo.applyW _ _ _, fun n _ => ⟨⟨rfl, rfl⟩, rfl⟩⟩, hrc, hst, ⟨hkd, hfn'⟩, hdf, ⟨fn, hf⟩, hm, fn, y, hf, hr, hy⟩
    have e' : raw (applyW h.post s.top) base n = some y := e
    by_cases hp : ∃ o, (n, o) ∈ h.post
    · obtain ⟨o, ho⟩ := hp
      rw [(hfree n o ho).obj]
      have : ∀ {l : List (Nat × Option AObj)} {t : Lay}, (∀ n o, (n, o) ∈ l → o = none) → (∃ o, (n, o) ∈ l) ∨ raw t base n = some none → raw (applyW l t) base n = some none := by
        intro l
        induction l with
        | nil => intro t _ h; rcases h with ⟨o, h⟩ | h
                 · simp at h
                 · exact h
        | cons a l ih =>
          intro t hl h
          obtain ⟨m, q⟩ := a
          have hq : q = none := hl m q (List.mem_cons_self ..)
          subst hq
          simp only [applyW]
          refine ih (fun n o hm => hl n o (List.mem_cons_of_mem _ hm)) ?_
          by_cases e : m = n
          · right; rw [raw_setL, if_pos e]
          · rcases h with ⟨o, h⟩ | h
            · rcases List.mem_cons.1 h with h | h
              · cases h; exact absurd rfl e
              · exact .inl ⟨o, h⟩
            · right; rw [raw_setL, if_neg e]; exact h
      rw [this (fun n o hm => (hpost n o hm).1) (.inl ⟨o, ho⟩)] at e'
      cases e'; rfl
    · rw [raw_applyW_ne _ _ _ _ fun o ho => hp ⟨o, ho⟩] at e'
      exact hi.agree n y e'

/-- The same, where the call writes: what is known behind it is what 'post' says. -/
theorem hook_of_calls2 {P : Program} {h : Hook}
    (H : ∀ (B : Nat → Prop) (w0 : World) (θ : Th) (G : Hp) (w : World) (xs : Array Value), HR B w0 θ G w → (∀ n o, (n, o) ∈ h.pre → G n = some o) → (∀ n o, (n, o) ∈ h.post → (∃ o', (n, o') ∈ h.pre) ∨ Free θ G n) → VRL θ h.args xs.toList →
      Calls P h.f xs w fun e w' => ∃ y, e = .returned y ∧ VR θ h.v y ∧ HR B w0 θ (applyG h.post G) w') : HookOK P h := by
  intro base args s hfit B w0 θ G w kind cs pk xs hi hfn hxs hrc hkind
  unfold Hook.fits at hfit
  split at hfit
  · cases hfit
  · rename_i hsrc
    rw [hsrc] at hrc
    have hds : s.ds = [] := by
      cases e : s.ds with
      | nil => rfl
      | cons d l => rw [e] at hfit; cases hfit
    rw [hds] at hfit
    simp only [Bool.and_eq_true] at hfit
    obtain ⟨⟨ha, hpre⟩, hnew⟩ := hfit
    have ha := AVL.beq_eq ha
    subst ha
    have hpre := preOK_all hpre
    have hnew := newOK_all hnew
    obtain rfl := hkind hds
    obtain ⟨_, rfl⟩ := hrc.of_normal
    have hfree : ∀ n o, (n, o) ∈ h.post → (∃ o', (n, o') ∈ h.pre) ∨ Free θ G n := by
      intro n o hm
      rcases hnew n o hm with h1 | h3
      · exact .inl h1
      · exact .inr (hfn _ (List.mem_singleton.2 rfl) n h3 (raw_applyW_mem _ _ _ n o hm))
    obtain ⟨e, w', fr', ⟨y, rfl, hy, hr'⟩, hst, hfn', hm, hdf, hkd, fn, hf, hr⟩ := H B w0 θ G w xs hi.hr (fun n o hm => hi.agree n _ (hpre n o hm)) hfree hxs cs
    refine ⟨h.out s, List.mem_singleton.2 rfl, θ, applyG h.post G, w', none, fr', ⟨hr', agree_applyW h.post s.top base G hi.agree⟩, ⟨Th.Le.refl θ, Mo.applyW _ _ _, fun n hn => ⟨⟨rfl, rfl⟩, ?_⟩⟩, hrc, hst, ⟨hkd, hfn'⟩, hdf, ⟨fn, hf⟩, hm, fn, y, hf, hr, hy⟩
    exact applyG_ne _ _ _ fun o ho => raw_applyW_mem _ _ _ n o ho hn

/-- Blocks that are new and that nothing is said of. -/
theorem HR.more {B : Nat → Prop} {w0 w w' : World} {θ : Th} {G : Hp} (h : HR B w0 θ G w) (hs : w.heap.size ≤ w'.heap.size) (ho : ∀ i, i < w.heap.size → w'.heap[i]? = w.heap[i]?)
    (ht : w'.tape = w.tape) (hos : w'.os = w.os) (hout : w'.output = w.output) : HR B w0 θ G w' :=
  ⟨fun n o e => by
    obtain ⟨b, d, r, x, a, hB, hx, hr⟩ := h.obj n o e
    exact ⟨b, d, r, x, a, hB, by rw [ho b (lt_of_heap hx)]; exact hx, hr⟩, h.sep,
   ⟨fun i hi => Nat.lt_of_lt_of_le (h.base.lt i hi) hs, fun i hi => (ho i (h.base.lt i hi)).trans (h.base.old i hi), ht.trans h.base.tape, hos.trans h.base.os, hout.trans h.base.out⟩, h.env⟩
end Go.AE
