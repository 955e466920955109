/- The engine, part Y: a twin that is evaluated faster: operations, code, calls. -/
import Derived.Test.YtoomemfhcbajoaaV2EngWx2
section
namespace Go.Eng
set_option linter.unusedVariables false
set_option linter.unusedSimpArgs false
noncomputable section

/-! ### Rows -/
def rlenX (r : Row) : Nat :=
  match r with
  | .I _ l => lenX l
  | .G l => lenX l
  | .F _ n => n
  | .M l => lenM l
theorem rlenX_eq (r : Row) : rlenX r = r.len := by cases r <;> simp [rlenX, Row.len, lenX_eq]
def rgetO (r : Row) : Nat → Option AV :=
  match r with
  | .I k l => fun j => match getO l j with
    | some n => some (.int k n)
    | none => none
  | .G l => fun j => getO l j
  | .F f n => fun j => cond (Nat.blt j n) (some (f j)) none
  | .M l => fun j => cond (Nat.blt j (lenM l)) (some (getM l j)) none
theorem rgetO_eq (r : Row) (j : Nat) : rgetO r j = if j < r.len then some (r.get j) else none := by
  by_cases h : j < r.len
  · rw [if_pos h]
    cases r with
    | I k l =>
      have h' : j < l.length := h
      simp [rgetO, getO_eq, Row.get, h']
    | G l =>
      have h' : j < l.length := h
      simp [rgetO, getO_eq, Row.get, h']
    | F f n =>
      have : Nat.blt j n = true := by rw [Nat.blt_eq]; exact h
      simp only [rgetO, this, Row.get, cond_true]
    | M l =>
      have : Nat.blt j (lenM l) = true := by rw [Nat.blt_eq]; exact h
      simp only [rgetO, this, Row.get, cond_true]
  · rw [if_neg h]
    cases r with
    | I k l =>
      have h' : ¬ j < l.length := h
      simp [rgetO, getO_eq, Nat.le_of_not_lt h']
    | G l =>
      have h' : ¬ j < l.length := h
      simp [rgetO, getO_eq, Nat.le_of_not_lt h']
    | F f n =>
      have : Nat.blt j n = false := by
        cases hb : Nat.blt j n with
        | false => rfl
        | true => rw [Nat.blt_eq] at hb; exact absurd hb h
      simp only [rgetO, this, cond_false]
    | M l =>
      have : Nat.blt j (lenM l) = false := by
        cases hb : Nat.blt j (lenM l) with
        | false => rfl
        | true => rw [Nat.blt_eq] at hb; exact absurd hb h
      simp only [rgetO, this, cond_false]
def fitX (r : Row) (off n : Nat) : Bool :=
  match n with
  | 0 => Nat.ble off (rlenX r)
  | m + 1 => match rgetO r (Nat.add off m) with
    | some _ => true
    | none => false
theorem fitX_eq (r : Row) (off n : Nat) : fitX r off n = decide (off + n ≤ r.len) := by
  have key : ∀ p q : Bool, (p = true ↔ q = true) → p = q := by intro p q h; cases p <;> cases q <;> simp at h ⊢
  cases n with
  | zero => apply key; simp [fitX, rlenX_eq]
  | succ m =>
    simp only [fitX, rgetO_eq]
    have e : Nat.add off m = off + m := rfl
    rw [e]
    by_cases h : off + m < r.len
    · rw [if_pos h]; symm; simp only [decide_eq_true_eq]; omega
    · rw [if_neg h]; symm; simp only [decide_eq_false_iff_not]; omega
def cutX (r : Row) (o n : Nat) : Row :=
  match r with
  | .I k l => .I k (takeX (dropX l o) n)
  | .G l => Row.ofList (takeX (dropX l o) n)
  | .F f m => Row.sub (.F f m) o n
  | .M l => Row.cut (.M l) o n
theorem cutX_eq (r : Row) (o n : Nat) : cutX r o n = r.cut o n := by
  cases r with
  | M l => rfl
  | _ => simp [cutX, Row.cut, Row.sub, takeX_eq, dropX_eq]
def rsetX (r : Row) (j : Nat) (v : AV) : Row :=
  match r, v with
  | .I k l, .int k' n => cond (kindX k' k) (.I k (setX l j n)) (.G (setX (mapX (.int k) l) j v))
  | .I k l, v => .G (setX (mapX (.int k) l) j v)
  | .G l, v => .G (setX l j v)
  | .F f n, v => Row.set (.F f n) j v
  | .M l, v => Row.set (.M l) j v
theorem rsetX_eq : rsetX = Row.set := by
  funext r j v
  cases r with
  | I k l =>
    cases v
    case int k' n => simp only [rsetX, Row.set, kindX_if, setX_eq, mapX_eq]
    all_goals simp only [rsetX, Row.set, setX_eq, mapX_eq]
  | G l => cases v <;> simp only [rsetX, Row.set, setX_eq]
  | F f n => cases v <;> simp only [rsetX]
  | M l => cases v <;> simp only [rsetX]
def rsetAllX (r : Row) (j : Nat) (l : List AV) : Row := List.rec (motive := fun _ => Row → Nat → Row) (fun r _ => r) (fun v _ ih r j => ih (rsetX r j v) (Nat.succ j)) l r j
theorem rsetAllX_eq : ∀ (l : List AV) (r : Row) (j : Nat), rsetAllX r j l = r.setAll j l
  | [], r, j => rfl
  | v :: l, r, j => by
    have : rsetAllX r j (v :: l) = rsetAllX (rsetX r j v) (j + 1) l := rfl
    rw [this, rsetAllX_eq l, rsetX_eq]; rfl
def toListX (r : Row) : List AV :=
  match r with
  | .I k l => mapX (.int k) l
  | .G l => l
  | .F f n => listOf f 0 n
  | .M l => listOf (getM l) 0 (lenM l)
theorem toListX_eq (r : Row) : toListX r = r.toList := by cases r <;> simp [toListX, Row.toList, mapX_eq]

def readVX (P : Program) (t : TypeId) (r : Row) (off : Nat) : Option AV :=
  match aggT P t with
  | some true => match sizeT P t with
    | some n => cond (fitX r off n) (some (.agg (cutX r off n))) none
    | none => none
  | some false => rgetO r off
  | none => none
theorem readVX_eq : readVX = readV := by
  funext P t r off
  unfold readVX readV
  cases aggT P t with
  | none => rfl
  | some b =>
    cases b with
    | false => dsimp only; rw [rgetO_eq]
    | true =>
      dsimp only
      cases sizeT P t with
      | none => rfl
      | some n =>
        dsimp only
        rw [fitX_eq, cutX_eq]
        by_cases h : off + n ≤ r.len
        · rw [if_pos h, decide_eq_true h]; rfl
        · rw [if_neg h, decide_eq_false h]; rfl

def loadVX (P : Program) (H : Heap) (t : TypeId) (a : AV) : Option AV :=
  match a with
  | .ptr d i v off => match hRowX H d i v with
    | some r => match readVX P t r off with
      | some x => some (upV d x)
      | none => none
    | none => none
  | .ptrT s r off => match readVX P t r off with
    | some x => some (upO s x)
    | none => none
  | _ => none
theorem loadVX_eq : loadVX = loadV := by
  funext P H t a
  unfold loadVX loadV
  rw [hRowX_eq, readVX_eq]
  cases a <;> dsimp only
  case ptr d i v off =>
    cases hRow H d i v with
    | none => rfl
    | some r => dsimp only; cases readV P t r off <;> rfl
  case ptrT s r off => cases readV P t r off <;> rfl

def putAX (r : Row) (off : Nat) (q : Row) : Row :=
  match r with
  | .M l => putA (.M l) off q
  | .I k l => rsetAllX (.I k l) off (toListX q)
  | .G l => rsetAllX (.G l) off (toListX q)
  | .F f n => rsetAllX (.F f n) off (toListX q)
theorem putAX_eq (r : Row) (off : Nat) (q : Row) : putAX r off q = putA r off q := by
  cases r <;> simp only [putAX, putA, rsetAllX_eq, toListX_eq]
def storeVX (P : Program) (H : Heap) (t : TypeId) (a x : AV) : Option Delta :=
  match a with
  | .ptr d i v off => cond (hLockX H d) none (match hRowX H d i v with
    | none => none
    | some r => match sizeT P t with
      | none => none
      | some n => match x.row with
        | none => none
        | some q => cond (Nat.beq (rlenX q) n) (cond (fitX r off (rlenX q)) (match d with
          | 0 => some (.set 0 i (v, .row (putAX r off q)))
          | d + 1 => match x with
            | .slc 0 _ _ _ _ _ _ => storeV P H t a x
            | _ => some (.set (d + 1) i (v, .row (putAX r off (dnR (d + 1) q))))) none) none)
  | _ => none
theorem storeVX_eq : storeVX = storeV := by
  funext P H t a x
  unfold storeVX
  rw [hRowX_eq, hLockX_eq]
  cases a <;> try (simp only [storeV]; done)
  rename_i d i v off
  dsimp only
  conv => rhs; unfold storeV
  dsimp only
  cases hlk : hLock H d with
  | true => rfl
  | false =>
    simp only [cond_false, Bool.false_eq_true, if_false]
    cases hr : hRow H d i v with
    | none => rfl
    | some r =>
      cases hs : sizeT P t with
      | none => rfl
      | some n =>
        cases hx : x.row with
        | none => rfl
        | some q =>
          dsimp only
          rw [rlenX_eq, fitX_eq]
          by_cases hq : q.len = n
          · have : Nat.beq q.len n = true := by simpa using hq
            rw [this, cond_true]
            by_cases hf : off + q.len ≤ r.len
            · have hf' : off + n ≤ r.len := by omega
              rw [decide_eq_true hf, cond_true, if_pos ⟨hq, hf'⟩]
              cases d with
              | zero => simp only [putAX_eq, dnR]
              | succ d =>
                cases x
                case slc d' j w o sz len cap =>
                  cases d' with
                  | zero =>
                    dsimp only
                    unfold storeV
                    dsimp only
                    rw [hlk]
                    simp only [Bool.false_eq_true, if_false, hr, hs, hx]
                    rw [if_pos ⟨hq, hf'⟩]
                  | succ d' => simp only [putAX_eq]
                all_goals simp only [putAX_eq]
            · have hf' : ¬ off + n ≤ r.len := by omega
              rw [decide_eq_false hf, cond_false, if_neg (fun h => hf' h.2)]
          · have : Nat.beq q.len n = false := by
              cases hb : Nat.beq q.len n with
              | false => rfl
              | true => exact absurd (by simpa using hb) hq
            rw [this, cond_false, if_neg (fun h => hq h.1)]

def idxX (i : Int) (len : Nat) : Bool := Int.rec (motive := fun _ => Bool) (fun m => Nat.ble (Nat.succ m) len) (fun _ => false) i
theorem idxX_eq (i : Int) (len : Nat) : idxX i len = decide (0 ≤ i ∧ i < len) := by
  have key : ∀ p q : Bool, (p = true ↔ q = true) → p = q := by intro p q h; cases p <;> cases q <;> simp at h ⊢
  cases i with
  | ofNat m =>
    have : idxX (.ofNat m) len = Nat.ble (Nat.succ m) len := rfl
    rw [this]; apply key; rw [Nat.ble_eq]; simp only [decide_eq_true_eq, Int.ofNat_eq_natCast]; omega
  | negSucc m =>
    have : idxX (.negSucc m) len = false := rfl
    rw [this]; symm; simp only [decide_eq_false_iff_not]; omega
def indexAddrVX (P : Program) (t : TypeId) (x : AV) (i : Int) : Option AV :=
  match P.underlying t with
  | some (.array n e) => match sizeT P e with
    | some z => cond (idxX i n) (addOff x (Nat.mul i.toNat z)) none
    | none => none
  | some (.slice e) => match x with
    | .slc d j v off sz len _ => cond (idxX i len) (match sizeT P e with
      | some z => cond (Nat.beq z sz) (some (.ptr d j v (Nat.add off (Nat.mul i.toNat sz)))) none
      | none => none) none
    | .slcT s r sz len _ => cond (idxX i len) (match sizeT P e with
      | some z => cond (Nat.beq z sz) (some (.ptrT s r (Nat.mul i.toNat sz))) none
      | none => none) none
    | _ => none
  | _ => none
theorem indexAddrVX_eq : indexAddrVX = indexAddrV := by
  funext P t x i
  unfold indexAddrVX indexAddrV
  cases P.underlying t with
  | none => rfl
  | some td =>
    have ck : ∀ (len sz e : Nat) (y : Option AV), cond (idxX i len) (match sizeT P e with
      | some z => cond (Nat.beq z sz) y none
      | none => none) none = if 0 ≤ i ∧ i < (len : Int) ∧ sizeT P e = some sz then y else none := by
      intro len sz e y
      rw [idxX_eq]
      by_cases h : 0 ≤ i ∧ i < (len : Int)
      · rw [decide_eq_true h, cond_true]
        cases hz : sizeT P e with
        | none => simp
        | some z =>
          dsimp only
          by_cases e2 : z = sz
          · subst e2; simp [h.1, h.2]
          · have : Nat.beq z sz = false := by
              cases hb : Nat.beq z sz with
              | false => rfl
              | true => exact absurd (by simpa using hb) e2
            rw [this, cond_false, if_neg]
            rintro ⟨_, _, h3⟩; exact e2 (Option.some.inj h3)
      · rw [decide_eq_false h, cond_false, if_neg (fun x => h ⟨x.1, x.2.1⟩)]
    cases td <;> try rfl
    case array n e =>
      dsimp only
      cases sizeT P e with
      | none => rfl
      | some z =>
        dsimp only
        rw [idxX_eq]
        by_cases h : 0 ≤ i ∧ i < (n : Int)
        · rw [decide_eq_true h, if_pos h]; rfl
        · rw [decide_eq_false h, if_neg h]; rfl
    case slice e =>
      cases x <;> try rfl
      · exact ck _ _ _ _
      · exact ck _ _ _ _

/-! ### Operations -/
def opdX (fr : Frm) (x : Operand) : AV := Operand.rec (motive := fun _ => AV) (fun t => fGetX fr t) (fun v => constV v) (fun _ => .undef) (fun f => .fn (.func f) [] []) x
theorem opdX_eq : opdX = opd := by
  funext fr x
  cases x <;> simp [opdX, opd, fGetX_eq]
def opdsX (fr : Frm) (l : List Operand) : List AV := mapX (opdX fr) l
theorem opdsX_eq : opdsX = opds := by
  funext fr l
  unfold opdsX
  rw [mapX_eq, opdX_eq]
  induction l with
  | nil => rfl
  | cons x l ih => simp only [List.map_cons, opds, ih]
def wantVX (ops : Array Oper) (fr : Frm) (o : Oper) : Want :=
  match o.guard with
  | none => .run
  | some (j, want) => match (ops[j]?).bind (·.dst) with
    | none => .lost
    | some d => match fGetX fr d with
      | .bool b => if b == want then .run else .skip
      | .tup _ => .skip
      | _ => .lost
theorem wantVX_eq : wantVX = wantV := by
  funext ops fr o
  unfold wantVX wantV
  rw [fGetX_eq]
  cases o.guard with
  | none => rfl
  | some jw =>
    obtain ⟨j, want⟩ := jw
    dsimp only
    cases (ops[j]?).bind (·.dst) with
    | none => rfl
    | some d => dsimp only; cases fGet fr d <;> rfl
def binVX (P : Program) (op : BinOp) (t : TypeId) (x y : AV) : Option AV :=
  match op with
  | .shl => binV P .shl t x y
  | .shr => binV P .shr t x y
  | op => match x with
    | .int k a => match y with
      | .int k' b => cond (kindX k k') (intBinX op k a b) none
      | _ => binV P op t x y
    | _ => binV P op t x y
theorem binVX_eq : binVX = binV := by
  funext P op t x y
  cases op <;> first | rfl | skip
  all_goals
    (simp only [binVX]
     cases x <;> try rfl
     cases y <;> try rfl
     simp only [kindX_if, intBinX_eq, binV])
def callVX (P : Program) (call : CallT) (fr : Frm) (H : Heap) (nx : Nat) (c : Call) : Option (AV × Delta) :=
  match c.callee with
  | .value f => match opdX fr f with
    | .fn (.func g) a b => match call (.fn g) (appX a (appX (opdsX fr c.args.toList) b)) H with
      | some (v, H) => some (v, .heap H)
      | none => none
    | .yld d i => match call (.round d i) (opdsX fr c.args.toList) H with
      | some (v, H) => some (v, .heap H)
      | none => none
    | _ => none
  | _ => callV P call fr H nx c
theorem callVX_eq : callVX = callV := by
  funext P call fr H nx c
  unfold callVX
  cases hc : c.callee with
  | value f =>
    unfold callV
    rw [hc, opdX_eq, opdsX_eq]
    dsimp only
    cases opd fr f <;> try rfl
    case fn g a b =>
      cases g <;> try rfl
      dsimp only
      rw [appX_eq, appX_eq]
      cases call _ _ H with
      | none => rfl
      | some x => rfl
    case yld d i =>
      dsimp only
      cases call _ _ H with
      | none => rfl
      | some x => rfl
  | _ => rfl
def kpX (o : Option AV) : Option (AV × Delta) := Option.rec (motive := fun _ => Option (AV × Delta)) none (fun v => some (v, .keep)) o
theorem kpX_eq (o : Option AV) : kpX o = kp o := by cases o <;> rfl
def opX (op : Op) : Oper → Program → CallT → Frm → Heap → Nat → Option (AV × Delta) :=
  match op with
  | .move x => fun _ _ _ fr _ _ => some (opdX fr x, .keep)
  | .assign x => fun _ _ _ fr _ _ => some (opdX fr x, .keep)
  | .pick c a b => fun _ _ _ fr _ _ => match opdX fr c with
    | .bool t => some (cond t (opdX fr a) (opdX fr b), .keep)
    | _ => none
  | .alloc t => fun _ P call _ _ nx => match (zeroT P t).bind AV.row with
    | some z => some (.ptr 0 nx 0 0, .push (.row (symB call (segR z) z)))
    | none => none
  | .box _ x => fun _ _ call fr _ nx => match (opdX fr x).row with
    | some r => some (.ptr 0 nx 0 0, .push (.row (symB call (segR r) r)))
    | none => none
  | .load t a => fun _ P _ fr H _ => kpX (loadVX P H t (opdX fr a))
  | .store t a x => fun _ P _ fr H _ => match storeVX P H t (opdX fr a) (opdX fr x) with
    | some δ => some (.tup [], δ)
    | none => none
  | .nilCheck x => fun _ _ _ fr _ _ => match opdX fr x with
    | .ptr d i v off => some (.ptr d i v off, .keep)
    | .ptrT s r off => some (.ptrT s r off, .keep)
    | _ => none
  | .binOp op t x y _ => fun _ P _ fr _ _ => kpX (binVX P op t (opdX fr x) (opdX fr y))
  | .unOp op _ x => fun _ _ _ fr _ _ => kpX (unV op (opdX fr x))
  | .convert src dst x => fun _ P _ fr _ _ => match P.underlying src with
    | some _ => match P.underlying dst with
      | some (.int k) => match opdX fr x with
        | .int _ n => some (.int k (wrapX k n), .keep)
        | _ => none
      | _ => none
    | none => none
  | .fieldAddr t x f => fun _ P _ fr _ _ => kpX (fieldAddrV P t (opdX fr x) f)
  | .field t x f => fun _ P _ fr _ _ => kpX (fieldV P t (opdX fr x) f)
  | .indexAddr t x i => fun _ P _ fr _ _ => match opdX fr i with
    | .int _ n => kpX (indexAddrVX P t (opdX fr x) n)
    | _ => none
  | .lookup t m k ok => fun _ P _ fr H _ => kpX (lookupV P H t (opdX fr m) (opdX fr k) ok)
  | .extract t ix => fun _ _ _ fr _ _ => match opdX fr t with
    | .tup l => match getO l ix with
      | some v => some (v, .keep)
      | none => none
    | _ => none
  | .call c => fun _ P call fr H nx => callVX P call fr H nx c
  | _ => fun o P call fr H nx => evalOp P call fr H nx o
theorem opX_eq (o : Oper) (P : Program) (call : CallT) (fr : Frm) (H : Heap) (nx : Nat) : opX o.op o P call fr H nx = evalOp P call fr H nx o := by
  unfold evalOp
  cases ho : o.op
  case pick c a b =>
    simp only [opX, opdX_eq]
    cases opd fr c <;> try rfl
    rename_i t; cases t <;> rfl
  case alloc t => simp only [opX]; cases (zeroT P t).bind AV.row <;> rfl
  case box t x => simp only [opX, opdX_eq]; cases (opd fr x).row <;> rfl
  case store t a x => simp only [opX, opdX_eq, storeVX_eq]; cases storeV P H t (opd fr a) (opd fr x) <;> rfl
  case convert s d x =>
    simp only [opX, opdX_eq, wrapX_eq]
    cases P.underlying s with
    | none => rfl
    | some u =>
      cases P.underlying d with
      | none => rfl
      | some u' => cases u' <;> cases opd fr x <;> rfl
  case extract t ix =>
    simp only [opX, opdX_eq, getO_eq]
    cases opd fr t <;> rfl
  all_goals first
    | (simp only [opX, opdX_eq, kpX_eq, loadVX_eq, binVX_eq, indexAddrVX_eq, callVX_eq]; done)
    | (simp only [opX, opdX_eq, kpX_eq, loadVX_eq, binVX_eq, indexAddrVX_eq, callVX_eq]; rfl)
    | (simp only [opX]; unfold evalOp; rw [ho])

end
end Go.Eng
end
section
namespace Go.Eng
set_option linter.unusedVariables false
set_option linter.unusedSimpArgs false
noncomputable section

def putOX (nt : Nat) (fr : Frm) (dst : Option Tmp) (v : AV) : Frm := Option.rec (motive := fun _ => Frm) fr (fun d => Bool.rec (motive := fun _ => Frm) fr (fPutX fr d v) (Nat.ble (Nat.succ d) nt)) dst
theorem putOX_eq : putOX = putO := by
  funext nt fr dst v
  cases dst with
  | none => rfl
  | some d =>
    have e : putOX nt fr (some d) v = Bool.rec (motive := fun _ => Frm) fr (fPutX fr d v) (Nat.blt d nt) := rfl
    rw [e, fPutX_eq]
    simp only [putO]
    cases Nat.blt d nt <;> rfl
def onX (δ : Delta) (H : Heap) : Heap := Delta.rec (motive := fun _ => Heap) H (fun b => hPushX H b) (fun d i b => hSetX H d i b) (fun H => H) δ
theorem onX_eq (δ : Delta) (H : Heap) : onX δ H = δ.on H := by cases δ <;> simp [onX, Delta.on, hPushX_eq, hSetX_eq]

def runX (P : Program) (nt : Nat) (call : CallT) (dst : Option Tmp) (op : Op) (o : Oper) (ih : Frm → Heap → Option (Frm × Heap)) (fr : Frm) (H : Heap) : Option (Frm × Heap) :=
  Option.rec (motive := fun _ => Option (Frm × Heap)) none (fun vd => Prod.rec (motive := fun _ => Option (Frm × Heap)) (fun v δ => ih (putOX nt fr dst v) (onX δ H)) vd) (opX op o P call fr H (hNextX H))
def runOpsX (P : Program) (nt : Nat) (call : CallT) (ops : Array Oper) (l : List Oper) : Frm → Heap → Option (Frm × Heap) :=
  List.rec (motive := fun _ => Frm → Heap → Option (Frm × Heap)) (fun fr H => some (fr, H)) (fun o _ ih => Oper.rec (motive := fun _ => Frm → Heap → Option (Frm × Heap)) (fun dst op _ _ _ guard => Option.rec (motive := fun _ => Frm → Heap → Option (Frm × Heap))
    (runX P nt call dst op o ih)
    (fun _ fr H => Want.rec (motive := fun _ => Option (Frm × Heap)) (runX P nt call dst op o ih fr H) (ih (putOX nt fr dst (.tup [])) H) none (wantVX ops fr o)) guard) o) l
theorem runOpsX_eq (P : Program) (nt : Nat) (call : CallT) (ops : Array Oper) : ∀ (l : List Oper) (fr : Frm) (H : Heap), runOpsX P nt call ops l fr H = runOps P nt call ops l fr H
  | [], fr, H => rfl
  | o :: l, fr, H => by
    have hrun : runX P nt call o.dst o.op o (runOpsX P nt call ops l) fr H = (match evalOp P call fr H (hNext H) o with
        | none => none
        | some (v, δ) => runOps P nt call ops l (putO nt fr o.dst v) (δ.on H)) := by
      unfold runX
      rw [opX_eq, hNextX_eq, putOX_eq]
      cases evalOp P call fr H (hNext H) o with
      | none => rfl
      | some vd =>
        obtain ⟨v, δ⟩ := vd
        dsimp only
        rw [onX_eq, runOpsX_eq P nt call ops l]
    have e : runOpsX P nt call ops (o :: l) fr H = Option.rec (motive := fun _ => Option (Frm × Heap)) (runX P nt call o.dst o.op o (runOpsX P nt call ops l) fr H)
      (fun _ => Want.rec (motive := fun _ => Option (Frm × Heap)) (runX P nt call o.dst o.op o (runOpsX P nt call ops l) fr H) (runOpsX P nt call ops l (putOX nt fr o.dst (.tup [])) H) none (wantVX ops fr o)) o.guard := by
      obtain ⟨dst, op, ty, pos, after, guard⟩ := o
      cases guard <;> rfl
    rw [e, hrun, wantVX_eq, putOX_eq]
    conv => rhs; unfold runOps
    cases hg : o.guard with
    | none =>
      have hw : wantV ops fr o = .run := by unfold wantV; rw [hg]
      rw [hw]
      rfl
    | some jw =>
      dsimp only
      cases wantV ops fr o with
      | lost => rfl
      | skip => exact runOpsX_eq P nt call ops l _ _
      | run => rfl

def hKillX (H : Heap) (d i : Nat) : Heap := hSetX H d i ((hGetX H d i).1, .dead)
theorem hKillX_eq : hKillX = hKill := by funext H d i; unfold hKillX hKill; rw [hSetX_eq, hGetX_eq]
def hHideX (bef : Nat) (recs : List Rec) : Heap → Heap :=
  List.rec (motive := fun _ => Heap → Heap) (fun H => H) (fun r _ ih H => match r.writes with
    | some (d, i) => cond (bef.testBit r.ix) (ih H) (ih (hKillX H d i))
    | none => ih H) recs
theorem hHideX_eq (bef : Nat) : ∀ (recs : List Rec) (H : Heap), hHideX bef recs H = hHide H bef recs
  | [], H => rfl
  | r :: l, H => by
    have e : hHideX bef (r :: l) H = (match r.writes with
      | some (d, i) => cond (bef.testBit r.ix) (hHideX bef l H) (hHideX bef l (hKillX H d i))
      | none => hHideX bef l H) := rfl
    rw [e, hKillX_eq]
    simp only [hHide]
    cases r.writes with
    | none => exact hHideX_eq bef l H
    | some x =>
      obtain ⟨d, i⟩ := x
      dsimp only
      cases bef.testBit r.ix with
      | true => exact hHideX_eq bef l H
      | false => exact hHideX_eq bef l _
def lockAllX (H : Heap) : Heap := mapX (fun l => Lvl.mk true l.bs) H
theorem lockAllX_eq (H : Heap) : lockAllX H = hLockAll H := by
  unfold lockAllX
  rw [mapX_eq]
  cases H with
  | nil => rfl
  | cons l r =>
    simp only [List.map_cons, hLockAll]
    congr 1
    induction r with
    | nil => rfl
    | cons l r ih => simp only [List.map_cons, hLockAll, ih]
def atX (v : AV) : Touch :=
  match v with
  | .ptr d i _ _ => .blk d i
  | .slc d i _ _ _ _ _ => .blk d i
  | .map d i => .blk d i
  | _ => .none
def readsOfX (fr : Frm) (o : Oper) : Touch :=
  match o.op with
  | .load _ a => atX (opdX fr a)
  | .store _ a _ => atX (opdX fr a)
  | .lookup _ m _ _ => atX (opdX fr m)
  | .call c => readsOf fr o
  | .mapUpdate .. => readsOf fr o
  | .insert .. => readsOf fr o
  | _ => .none
theorem readsOfX_eq : readsOfX = readsOf := by
  funext fr o
  unfold readsOfX
  cases ho : o.op <;> try rfl
  all_goals first | (unfold readsOf; rw [ho, opdX_eq]; done) | (unfold readsOf; rw [ho, opdX_eq]; rfl) | (unfold readsOf; rw [ho])
def drawStepX (P : Program) (call : CallT) (ops : Array Oper) (bef : Nat) (fr : Frm) (H : Heap) (nx : Nat) (recs : List Rec) (o : Oper) : Option Ent :=
  match wantVX ops fr o with
  | .lost => none
  | .skip => some ⟨.tup [], .none, none⟩
  | .run =>
    cond (isCallV o) (match opX o.op o P call fr (lockAllX (hHideX bef recs H)) nx with
      | some (v, _) => some ⟨v, .all, none⟩
      | none => none)
    (match opX o.op o P call fr (hHideX bef recs H) nx with
      | some (v, .keep) => some ⟨v, readsOfX fr o, none⟩
      | some (v, .push b) => cond (mayPush o && !isDead b && isDead0 (hGetX H 0 nx) && !hLockX H 0) (some ⟨v, readsOfX fr o, some (0, nx, (0, b))⟩) none
      | some (v, .set d i b) => cond (!isDead b.2 && (Nat.beq b.1 (hGetX H d i).1 || Nat.beq b.1 (Nat.succ (hGetX H d i).1)) && !isDead (hGetX (hHideX bef recs H) d i).2 && mayWrite bef d i recs) (some ⟨v, readsOfX fr o, some (d, i, b)⟩) none
      | _ => none)
theorem cond_if {α : Type} (b : Bool) (x y : α) : cond b x y = if b then x else y := by cases b <;> rfl
theorem drawStepX_eq : drawStepX = drawStep := by
  funext P call ops bef fr H nx recs o
  unfold drawStepX drawStep
  simp only [wantVX_eq, opX_eq, hHideX_eq, lockAllX_eq, readsOfX_eq, hGetX_eq, hLockX_eq, cond_if]
  rfl
def putWX (H : Heap) (x : Option (Nat × Nat × (Nat × Blk))) : Heap :=
  match x with
  | none => H
  | some (d, i, b) => hSetX H d i b
theorem putWX_eq : putWX = putW := by
  funext H x
  cases x with
  | none => rfl
  | some x => simp only [putWX, putW, hSetX_eq]
def drawOpsX (P : Program) (nt : Nat) (call : CallT) (ops : Array Oper) (befs : Array Nat) (l : List Oper) : Nat → Frm → Heap → Nat → List Rec → Option (Frm × Heap) :=
  List.rec (motive := fun _ => Nat → Frm → Heap → Nat → List Rec → Option (Frm × Heap)) (fun _ fr H _ _ => some (fr, H))
    (fun o _ ih j fr H nx recs => match drawStepX P call ops (befs.getD j 0) fr H nx recs o with
      | some e => ih (Nat.succ j) (putOX nt fr o.dst e.v) (putWX H e.wr) (cond (mayPush o) (Nat.succ nx) nx) (⟨j, e.rd, e.wr.map fun x => (x.1, x.2.1)⟩ :: recs)
      | none => none) l
theorem drawOpsX_eq (P : Program) (nt : Nat) (call : CallT) (ops : Array Oper) (befs : Array Nat) : ∀ (l : List Oper) (j : Nat) (fr : Frm) (H : Heap) (nx : Nat) (recs : List Rec), drawOpsX P nt call ops befs l j fr H nx recs = drawOps P nt call ops befs j l fr H nx recs
  | [], j, fr, H, nx, recs => rfl
  | o :: l, j, fr, H, nx, recs => by
    have e : drawOpsX P nt call ops befs (o :: l) j fr H nx recs = (match drawStepX P call ops (befs.getD j 0) fr H nx recs o with
      | some e => drawOpsX P nt call ops befs l (Nat.succ j) (putOX nt fr o.dst e.v) (putWX H e.wr) (cond (mayPush o) (Nat.succ nx) nx) (⟨j, e.rd, e.wr.map fun x => (x.1, x.2.1)⟩ :: recs)
      | none => none) := rfl
    rw [e, drawStepX_eq, putOX_eq, putWX_eq]
    conv => rhs; unfold drawOps
    cases drawStep P call ops (befs.getD j 0) fr H nx recs o with
    | none => rfl
    | some e =>
      dsimp only
      rw [drawOpsX_eq P nt call ops befs l, cond_if]

/-! ### Code -/
def cutAtX (fr : Frm) (l : Lvl) (r : Heap) (k : Nat) : Nat → Heap :=
  Nat.rec (motive := fun _ => Nat → Heap) (fun _ => l :: r) (fun _ ih m => cond (anyX (fun x => refV m x.2) fr || anyX (fun x => refB m x.2) (takeX l.bs m)) (ih (Nat.succ m)) (Lvl.mk l.lock (takeX l.bs m) :: r)) k
theorem cutAtX_eq (fr : Frm) (l : Lvl) (r : Heap) : ∀ (k m : Nat), cutAtX fr l r k m = cutAt fr l r k m
  | 0, m => rfl
  | k + 1, m => by
    have e : cutAtX fr l r (k + 1) m = cond (anyX (fun x => refV m x.2) fr || anyX (fun x => refB m x.2) (takeX l.bs m)) (cutAtX fr l r k (m + 1)) (Lvl.mk l.lock (takeX l.bs m) :: r) := rfl
    rw [e, cutAtX_eq fr l r k]
    simp only [cutAt, anyX_eq, takeX_eq, cond_if]
def cutToX (n : Nat) (fr : Frm) (H : Heap) : Heap :=
  match H with
  | [] => []
  | l :: r => cond (Nat.ble (lenX l.bs) n) (l :: r) (cutAtX fr l r 4 n)
theorem cutToX_eq : cutToX = cutTo := by
  funext n fr H
  cases H with
  | nil => rfl
  | cons l r => simp only [cutToX, cutTo, lenX_eq, cutAtX_eq, cond_if]
def tidyX (n : Nat) (fr : Frm) (H : Heap) : Frm × Heap :=
  match cutToX n fr H with
  | [] => (fr, [])
  | l :: r => cond (Nat.ble (lenX l.bs) (Nat.succ n)) (fr, l :: r) (tidyAt n 4 fr (l :: r))
theorem tidy_short {n k : Nat} {fr : Frm} {l : Lvl} {r : Heap} (h : l.bs.length ≤ n + 1) : tidyAt n k fr (l :: r) = (fr, l :: r) := by
  cases k with
  | zero => rfl
  | succ k =>
    unfold tidyAt
    have : hole fr l.bs 4 n = none := by
      unfold hole
      rw [if_neg (by simp; omega)]
    dsimp only
    rw [this]
theorem tidyX_eq : tidyX = tidy := by
  funext n fr H
  unfold tidyX tidy
  rw [cutToX_eq]
  cases cutTo n fr H with
  | nil => rfl
  | cons l r =>
    dsimp only
    rw [lenX_eq]
    cases hb : Nat.ble l.bs.length (Nat.succ n) with
    | true => rw [cond_true, tidy_short (by simpa using hb)]
    | false => rfl
def iterX (body : Frm → Heap → Option (Ex × Frm × Heap)) (n : Nat) (fu : Nat) : Frm → Heap → Option (Ex × Frm × Heap) :=
  Nat.rec (motive := fun _ => Frm → Heap → Option (Ex × Frm × Heap)) (fun _ _ => none) (fun _ ih fr H => match body fr H with
    | some (.normal, fr, H) => ih (tidyX n fr H).1 (tidyX n fr H).2
    | r => r) fu
theorem iterX_eq (body : Frm → Heap → Option (Ex × Frm × Heap)) (n : Nat) : ∀ (fu : Nat) (fr : Frm) (H : Heap), iterX body n fu fr H = iter body n fu fr H
  | 0, fr, H => rfl
  | fu + 1, fr, H => by
    have e : iterX body n (fu + 1) fr H = (match body fr H with
      | some (.normal, fr, H) => iterX body n fu (tidyX n fr H).1 (tidyX n fr H).2
      | r => r) := rfl
    rw [e, tidyX_eq]
    conv => rhs; unfold iter
    cases body fr H with
    | none => rfl
    | some r =>
      obtain ⟨x, fr1, H1⟩ := r
      cases x <;> first | rfl | exact iterX_eq body n fu _ _
def hereX (cx : Cx) (H : Heap) : Bool :=
  match cx.ro with
  | none => true
  | some (d, i) => match hGetX H d i with
    | (0, .loop _) => true
    | _ => false
theorem hereX_eq (cx : Cx) (H : Heap) : hereX cx H = cx.here H := by unfold hereX Cx.here; rw [hGetX_eq]; cases cx.ro <;> rfl
def execX (cx : Cx) (c : Code) : Frm → Heap → Option (Ex × Frm × Heap) :=
  Code.rec (motive := fun _ => Frm → Heap → Option (Ex × Frm × Heap))
    (fun fr H => some (.normal, fr, H))
    (fun id ops draw fr H => match (cond draw (cond (slotsOk ops (Region.before ops)) (drawOpsX cx.P cx.nt cx.call ops (Region.before ops) ops.toList 0 fr (hPad H (pushes ops.toList)) (hNextX H) []) none) (runOpsX cx.P cx.nt cx.call ops ops.toList fr H)) with
      | some (fr, H) => some (.normal, iceIf (cx.kt id) fr H)
      | none => none)
    (fun _ _ a b fr H => match a fr H with
      | some (.normal, fr, H) => b fr H
      | r => r)
    (fun c _ _ a b fr H => match opdX fr c with
      | .bool t => cond t (a fr H) (b fr H)
      | _ => none)
    (fun id _ b fr H => match b fr H with
      | some (.exit id', fr, H) => cond (Nat.beq id' id) (some (.normal, fr, H)) (some (.exit id', fr, H))
      | r => r)
    (fun _ b fr H => iterX b (hNextX H) cx.fu fr H)
    (fun f params assign body _ _ fr H => match opdX fr f with
      | .fn (.func g) a b => cond (!hereX cx H || hLockX H 0) none
        (match cx.call (.fn g) (appX a (.yld 0 (hNextX H) :: b)) (hPushX H (.loop { state := .ready, pending := none, fn := cx.fn, nt := cx.nt, fr, params := params.toList, assign, body })) with
        | some (_, H1) => match hGetX H1 0 (hNextX H) with
          | (0, .loop l) => match l.state with
            | .busy => none
            | _ => match endEx l.pending with
              | some e => some (e, fr, hKillX H1 0 (hNextX H))
              | none => none
          | _ => none
        | none => none)
      | _ => none)
    (fun id fr H => some (.exit id, fr, H))
    (fun _ b fr H => match b fr H with
      | some (.goto _, _, _) => none
      | r => r)
    (fun _ fr H => some (.normal, fr, H))
    (fun l fr H => some (.goto l, fr, H))
    (fun fr H => some (.ret, fr, H))
    (fun _ _ _ => none) c
theorem execX_eq (cx : Cx) : ∀ (c : Code) (fr : Frm) (H : Heap), execX cx c fr H = exec cx c fr H := by
  intro c
  induction c with
  | skip => intro fr H; rfl
  | label => intro fr H; rfl
  | exit => intro fr H; rfl
  | goto => intro fr H; rfl
  | ret => intro fr H; rfl
  | refuse => intro fr H; rfl
  | region id ops draw =>
    intro fr H
    have e : execX cx (.region id ops draw) fr H = (match (cond draw (cond (slotsOk ops (Region.before ops)) (drawOpsX cx.P cx.nt cx.call ops (Region.before ops) ops.toList 0 fr (hPad H (pushes ops.toList)) (hNextX H) []) none) (runOpsX cx.P cx.nt cx.call ops ops.toList fr H)) with
      | some (fr, H) => some (.normal, iceIf (cx.kt id) fr H)
      | none => none) := rfl
    rw [e, drawOpsX_eq, runOpsX_eq, hNextX_eq, cond_if, cond_if]
    conv => rhs; unfold exec
    rfl
  | seq a b iha ihb =>
    intro fr H
    have e : execX cx (.seq a b) fr H = (match execX cx a fr H with
      | some (.normal, fr, H) => execX cx b fr H
      | r => r) := rfl
    rw [e, iha]
    conv => rhs; unfold exec
    cases exec cx a fr H with
    | none => rfl
    | some r =>
      obtain ⟨x, fr1, H1⟩ := r
      cases x <;> first | rfl | exact ihb _ _
  | cond c a b iha ihb =>
    intro fr H
    have e : execX cx (.cond c a b) fr H = (match opdX fr c with
      | .bool t => cond t (execX cx a fr H) (execX cx b fr H)
      | _ => none) := rfl
    rw [e, opdX_eq]
    conv => rhs; unfold exec
    cases opd fr c <;> try rfl
    rename_i t
    cases t
    · exact ihb _ _
    · exact iha _ _
  | block id b ih =>
    intro fr H
    have e : execX cx (.block id b) fr H = (match execX cx b fr H with
      | some (.exit id', fr, H) => cond (Nat.beq id' id) (some (.normal, fr, H)) (some (.exit id', fr, H))
      | r => r) := rfl
    rw [e, ih]
    conv => rhs; unfold exec
    cases exec cx b fr H with
    | none => rfl
    | some r =>
      obtain ⟨x, fr1, H1⟩ := r
      cases x <;> try rfl
      dsimp only
      rw [cond_if]
  | loop b ih =>
    intro fr H
    have e : execX cx (.loop b) fr H = iterX (execX cx b) (hNextX H) cx.fu fr H := rfl
    have hb : execX cx b = exec cx b := by funext fr H; exact ih fr H
    rw [e, hb, iterX_eq, hNextX_eq]
    conv => rhs; unfold exec
  | rangeFunc f params assign body _ _ =>
    intro fr H
    have e : execX cx (.rangeFunc f params assign body) fr H = (match opdX fr f with
      | .fn (.func g) a b => cond (!hereX cx H || hLockX H 0) none
        (match cx.call (.fn g) (appX a (.yld 0 (hNextX H) :: b)) (hPushX H (.loop { state := .ready, pending := none, fn := cx.fn, nt := cx.nt, fr, params := params.toList, assign, body })) with
        | some (_, H1) => match hGetX H1 0 (hNextX H) with
          | (0, .loop l) => match l.state with
            | .busy => none
            | _ => match endEx l.pending with
              | some e => some (e, fr, hKillX H1 0 (hNextX H))
              | none => none
          | _ => none
        | none => none)
      | _ => none) := rfl
    rw [e, opdX_eq, hereX_eq, hLockX_eq, hPushX_eq, hNextX_eq, hGetX_eq, hKillX_eq]
    conv => rhs; unfold exec
    cases opd fr f <;> try rfl
    rename_i g a b
    cases g <;> try rfl
    rename_i g
    dsimp only
    rw [cond_if, appX_eq]
    unfold rangeStart
    split
    · rfl
    · cases cx.call (.fn g) (a ++ .yld 0 (hNext H) :: b) (hPush H (.loop { state := .ready, pending := none, fn := cx.fn, nt := cx.nt, fr, params := params.toList, assign, body })) with
      | none => rfl
      | some r =>
        obtain ⟨v, H1⟩ := r
        dsimp only
        rcases hGet H1 0 (hNext H) with ⟨ver, B⟩
        cases ver with
        | succ n => cases B <;> rfl
        | zero =>
          cases B <;> try rfl
          rename_i l
          rcases l with ⟨st, _, _, _, _, _, _, _⟩
          cases st <;> rfl
  | scope b ih =>
    intro fr H
    have e : execX cx (.scope b) fr H = (match execX cx b fr H with
      | some (.goto _, _, _) => none
      | r => r) := rfl
    rw [e, ih]
    conv => rhs; unfold exec
    cases exec cx b fr H with
    | none => rfl
    | some r =>
      obtain ⟨x, fr1, H1⟩ := r
      cases x <;> rfl

/-! ### Calls -/
def argFrmX (l : List AV) : Nat → Frm := List.rec (motive := fun _ => Nat → Frm) (fun _ => []) (fun v _ ih x => (x, upV 1 v) :: ih (Nat.succ x)) l
theorem argFrmX_eq : ∀ (l : List AV) (x : Nat), argFrmX l x = argFrm x l
  | [], x => rfl
  | v :: l, x => by
    have e : argFrmX (v :: l) x = (x, upV 1 v) :: argFrmX l (x + 1) := rfl
    rw [e, argFrmX_eq l]; rfl
def callNX (P : Program) (ora : CallT → FuncId → List AV → Heap → Option (AV × Heap)) (KT : FuncId → Nat → Nat) (fu : Nat) (n : Nat) : CallT :=
  Nat.rec (motive := fun _ => CallT) (fun tgt _ _ => match tgt with
    | .mode => (ora (fun _ _ _ => none) 1000000 [] []).map fun _ => (.undef, [])
    | _ => none) (fun _ ih tgt args H => match tgt with
    | .mode => (ora (fun _ _ _ => none) 1000000 [] []).map fun _ => (.undef, [])
    | .fn f => match ora ih f args H with
      | some r => some r
      | none => match P.funcs[f]? with
        | none => none
        | some fn => match fn.body with
          | none => none
          | some c => cond (Nat.ble (lenX args) fn.ntmps)
            (match execX ⟨P, ih, fu, f, fn.ntmps, KT f, none⟩ c (argFrmX args 0) (⟨false, []⟩ :: H) with
            | some (e, fr, l :: H') => (match e with
              | .normal | .ret => match resV P fr (l :: H') fn.results.toList with
                | some vs => some (frzV l.bs 5 (one vs), H')
                | none => none
              | _ => none)
            | _ => none) none
    | .round d i => match hGetX H d i with
      | (0, .loop l) => cond (hLockX H d) none (match l.state with
        | .ready => match putPs l.nt (upFrm (d + 1) l.fr) l.params (mapX (upV 1) args) with
          | some fr => match execX ⟨P, ih, fu, l.fn, l.nt, KT l.fn, some (d + 1, i)⟩ l.assign fr (⟨false, []⟩ :: H) with
            | some (.normal, fr, H1) => match hGetX H1 (d + 1) i with
              | (0, .loop l1) => match l1.state with
                | .ready =>
                  match execX ⟨P, ih, fu, l.fn, l.nt, KT l.fn, some (d + 1, i)⟩ l.body fr (hSetX H1 (d + 1) i (0, .loop { l1 with state := .busy })) with
                  | some (e, _, _ :: H2) => match hGetX H2 d i with
                    | (0, .loop l2) => some (.bool (jumpOf e).isNone, hSetX H2 d i (0, .loop { l2 with state := if (jumpOf e).isNone then .ready else .done, pending := jumpOf e }))
                    | _ => none
                  | _ => none
                | _ => none
              | _ => none
            | _ => none
          | none => none
        | _ => none)
      | _ => none) n
theorem callNX_eq (P : Program) (ora : CallT → FuncId → List AV → Heap → Option (AV × Heap)) (KT : FuncId → Nat → Nat) (fu : Nat) : ∀ (n : Nat) (tgt : Tgt) (args : List AV) (H : Heap), callNX P ora KT fu n tgt args H = callN P ora KT fu n tgt args H
  | 0, tgt, args, H => by cases tgt <;> rfl
  | n + 1, tgt, args, H => by
    have ih : callNX P ora KT fu n = callN P ora KT fu n := by funext t a h; exact callNX_eq P ora KT fu n t a h
    cases tgt with
    | mode => rfl
    | fn f =>
      have e : callNX P ora KT fu (n + 1) (.fn f) args H = (match ora (callNX P ora KT fu n) f args H with
        | some r => some r
        | none => match P.funcs[f]? with
          | none => none
          | some fn => match fn.body with
            | none => none
            | some c => cond (Nat.ble (lenX args) fn.ntmps)
              (match execX ⟨P, callNX P ora KT fu n, fu, f, fn.ntmps, KT f, none⟩ c (argFrmX args 0) (⟨false, []⟩ :: H) with
              | some (e, fr, l :: H') => (match e with
                | .normal | .ret => match resV P fr (l :: H') fn.results.toList with
                  | some vs => some (frzV l.bs 5 (one vs), H')
                  | none => none
                | _ => none)
              | _ => none) none) := rfl
      rw [e, ih]
      conv => rhs; unfold callN
      simp only [execX_eq, argFrmX_eq, lenX_eq, cond_if]
      rfl
    | round d i =>
      have e : callNX P ora KT fu (n + 1) (.round d i) args H = (match hGetX H d i with
        | (0, .loop l) => cond (hLockX H d) none (match l.state with
          | .ready => match putPs l.nt (upFrm (d + 1) l.fr) l.params (mapX (upV 1) args) with
            | some fr => match execX ⟨P, callNX P ora KT fu n, fu, l.fn, l.nt, KT l.fn, some (d + 1, i)⟩ l.assign fr (⟨false, []⟩ :: H) with
              | some (.normal, fr, H1) => match hGetX H1 (d + 1) i with
                | (0, .loop l1) => match l1.state with
                  | .ready =>
                    match execX ⟨P, callNX P ora KT fu n, fu, l.fn, l.nt, KT l.fn, some (d + 1, i)⟩ l.body fr (hSetX H1 (d + 1) i (0, .loop { l1 with state := .busy })) with
                    | some (e, _, _ :: H2) => match hGetX H2 d i with
                      | (0, .loop l2) => some (.bool (jumpOf e).isNone, hSetX H2 d i (0, .loop { l2 with state := if (jumpOf e).isNone then .ready else .done, pending := jumpOf e }))
                      | _ => none
                    | _ => none
                  | _ => none
                | _ => none
              | _ => none
            | none => none
          | _ => none)
        | _ => none) := rfl
      rw [e, ih]
      conv => rhs; unfold callN
      simp only [execX_eq, mapX_eq, hGetX_eq, hSetX_eq, hLockX_eq, cond_if]
      rfl

end
end Go.Eng
end
