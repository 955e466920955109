/- The engine as a tree: regions, code, calls. -/
import Derived.Test.YtjmjkhpfipglcaaV4EngTe
namespace Go.Eng
set_option linter.unusedVariables false
set_option linter.unusedSimpArgs false
noncomputable section

/-- A slot whose boolean has been tested. -/
def markF (f : HFrm) (y : Nat) (b : Bool) : HFrm := List.rec (motive := fun _ => HFrm) [] (fun p r ih => Bool.rec (motive := fun _ => HFrm) (p :: ih) ((p.1, (.bool b, some 1)) :: r) (Nat.beq p.1 y)) f
theorem markF_eq : ∀ (f : HFrm) (y : Nat) (b : Bool), fGet (strip f) y = .bool b → strip (markF f y b) = strip f
  | [], y, b, _ => rfl
  | (x, v) :: r, y, b, h => by
    have e : markF ((x, v) :: r) y b = Bool.rec (motive := fun _ => HFrm) ((x, v) :: markF r y b) ((x, (.bool b, some 1)) :: r) (Nat.beq x y) := rfl
    rw [strip_cons, fGet] at h
    rw [e]
    cases hb : Nat.beq x y with
    | true =>
      rw [hb] at h
      have h : v.1 = .bool b := h
      show (x, AV.bool b) :: strip r = (x, v.1) :: strip r
      rw [h]
    | false =>
      rw [hb] at h
      show (x, v.1) :: strip (markF r y b) = (x, v.1) :: strip r
      rw [markF_eq r y b h]
/-- A test of a slot's boolean, and the frame behind it. -/
def testT {α : Type} (fr : HFrm) (d : Nat) (t e : HFrm → Tr α) : Tr α :=
  match hGetF fr d with
  | (.bool b, none) => .ite b (t (markF fr d true)) (e (markF fr d false))
  | (.bool b, some _) => cond b (t fr) (e fr)
  | _ => .bad
theorem testT_some {α : Type} {fr : HFrm} {d : Nat} {t e : HFrm → Tr α} {x : α} (h : (testT fr d t e).run = some x) : ∃ b fr', fGet (strip fr) d = .bool b ∧ strip fr' = strip fr ∧ (if b then t fr' else e fr').run = some x := by
  unfold testT at h
  split at h
  · rename_i b hg
    have hg' : fGet (strip fr) d = .bool b := by rw [← hGetF_eq, hg]
    rcases Tr.ite_some h with ⟨rfl, h⟩ | ⟨rfl, h⟩
    · exact ⟨true, _, hg', markF_eq _ _ _ hg', h⟩
    · exact ⟨false, _, hg', markF_eq _ _ _ hg', h⟩
  · rename_i b n hg
    have hg' : fGet (strip fr) d = .bool b := by rw [← hGetF_eq, hg]
    refine ⟨b, fr, hg', rfl, ?_⟩
    cases b <;> exact h
  · exact (Tr.bad_some h).elim
def wantT (ops : Array Oper) (fr : HFrm) (o : Oper) : Tr (Bool × HFrm) :=
  match o.guard with
  | none => .ok (true, fr)
  | some (j, want) => match (ops[j]?).bind (·.dst) with
    | none => .bad
    | some d => match (hGetF fr d).1 with
      | .bool _ => cond want (testT fr d (fun fr => .ok (true, fr)) (fun fr => .ok (false, fr))) (testT fr d (fun fr => .ok (false, fr)) (fun fr => .ok (true, fr)))
      | .tup _ => .ok (false, fr)
      | _ => .bad
theorem wantT_ok {ops : Array Oper} {fr : HFrm} {o : Oper} {r : Bool × HFrm} (h : (wantT ops fr o).run = some r) : wantV ops (strip fr) o = (if r.1 then .run else .skip) ∧ strip r.2 = strip fr := by
  unfold wantT at h
  unfold wantV
  cases hg : o.guard with
  | none =>
    rw [hg] at h
    rw [← Tr.ok_some h]; exact ⟨rfl, rfl⟩
  | some jw =>
    obtain ⟨j, want⟩ := jw
    rw [hg] at h
    dsimp only at h ⊢
    cases hd : (ops[j]?).bind (·.dst) with
    | none => rw [hd] at h; exact (Tr.bad_some h).elim
    | some d =>
      rw [hd] at h
      dsimp only at h ⊢
      have he := hGetF_eq fr d
      rw [he] at h
      cases hv : fGet (strip fr) d <;> rw [hv] at h <;> try exact (Tr.bad_some h).elim
      case bool b =>
        dsimp only at h ⊢
        cases want with
        | true =>
          rw [cond_true] at h
          obtain ⟨b', fr', h1, h2, h3⟩ := testT_some h
          rw [hv] at h1
          cases h1
          cases b <;> (have h3 := Tr.ok_some h3; rw [← h3]; exact ⟨rfl, h2⟩)
        | false =>
          rw [cond_false] at h
          obtain ⟨b', fr', h1, h2, h3⟩ := testT_some h
          rw [hv] at h1
          cases h1
          cases b <;> (have h3 := Tr.ok_some h3; rw [← h3]; exact ⟨rfl, h2⟩)
      case tup l => rw [← Tr.ok_some h]; exact ⟨rfl, rfl⟩

def runOpsT (P : Program) (nt : Nat) (call : CallT) (callR : CallTr) (ops : Array Oper) : List Oper → HFrm → Heap → Tr (HFrm × Heap)
  | [], fr, H => .ok (fr, H)
  | o :: r, fr, H => (wantT ops fr o).bind fun b => cond b.1
    ((opT o.op o P call callR b.2 H (hNextX H)).bind fun y => runOpsT P nt call callR ops r (putOT nt b.2 o.dst y.1) (onX y.2 H))
    (runOpsT P nt call callR ops r (putOT nt b.2 o.dst (.tup [], none)) H)
theorem runOpsT_ok {P : Program} {nt : Nat} {call : CallT} {callR : CallTr} (hC : callR.Ok call) {ops : Array Oper} : ∀ (l : List Oper) (fr : HFrm) (H : Heap) (x : HFrm × Heap), (runOpsT P nt call callR ops l fr H).run = some x → runOps P nt call ops l (strip fr) H = some (strip x.1, x.2)
  | [], fr, H, x, h => by rw [← Tr.ok_some h]; rfl
  | o :: r, fr, H, x, h => by
    simp only [runOpsT] at h
    obtain ⟨b, h1, h⟩ := Tr.bind_some h
    unfold runOps
    obtain ⟨hw, hs⟩ := wantT_ok h1
    rw [hw, ← hs]
    obtain ⟨b, fr1⟩ := b
    dsimp only at h ⊢
    cases b with
    | false =>
      have := runOpsT_ok hC r _ _ _ h
      rw [putOT_eq] at this
      exact this
    | true =>
      rw [cond_true] at h
      obtain ⟨y, h2, h⟩ := Tr.bind_some h
      have h2 := opT_ok hC h2
      rw [hNextX_eq] at h2
      have := runOpsT_ok hC r _ _ _ h
      rw [putOT_eq, onX_eq] at this
      rw [if_pos rfl]
      dsimp only
      rw [h2]
      exact this

def readsOfT (fr : HFrm) (o : Oper) : Touch := readsOfX (strip fr) o
def drawStepT (P : Program) (call : CallT) (callR : CallTr) (ops : Array Oper) (bef : Nat) (fr0 : HFrm) (H : Heap) (nx : Nat) (recs : List Rec) (o : Oper) : Tr (Ent × Option Nat × HFrm) :=
  (wantT ops fr0 o).bind fun b => cond b.1
    (cond (isCallV o) ((opT o.op o P call callR b.2 (lockAllX (hHideX bef recs H)) nx).bind fun y => .ok (⟨y.1.1, .all, none⟩, y.1.2, b.2))
      ((opT o.op o P call callR b.2 (hHideX bef recs H) nx).bind fun y => match y.2 with
        | .keep => .ok (⟨y.1.1, readsOfT b.2 o, none⟩, y.1.2, b.2)
        | .push q => cond (mayPush o && !isDead q && isDead0 (hGetX H 0 nx) && !hLockX H 0) (.ok (⟨y.1.1, readsOfT b.2 o, some (0, nx, (0, q))⟩, y.1.2, b.2)) .bad
        | .set d i q => cond (!isDead q.2 && Nat.beq q.1 (hGetX H d i).1 && !isDead (hGetX (hHideX bef recs H) d i).2 && mayWrite bef d i recs) (.ok (⟨y.1.1, readsOfT b.2 o, some (d, i, q)⟩, y.1.2, b.2)) .bad
        | _ => .bad))
    (.ok (⟨.tup [], .none, none⟩, none, b.2))
theorem drawStepT_ok {P : Program} {call : CallT} {callR : CallTr} (hC : callR.Ok call) {ops : Array Oper} {bef : Nat} {fr : HFrm} {H : Heap} {nx : Nat} {recs : List Rec} {o : Oper} {e : Ent × Option Nat × HFrm} (h : (drawStepT P call callR ops bef fr H nx recs o).run = some e) :
    drawStep P call ops bef (strip fr) H nx recs o = some e.1 ∧ strip e.2.2 = strip fr := by
  unfold drawStepT at h
  unfold drawStep
  simp only [hHideX_eq, lockAllX_eq, readsOfT, readsOfX_eq, hGetX_eq, hLockX_eq] at h
  obtain ⟨b, h1, h⟩ := Tr.bind_some h
  obtain ⟨hw, hs⟩ := wantT_ok h1
  rw [hw, ← hs]
  obtain ⟨b, fr1⟩ := b
  dsimp only at h ⊢
  cases b with
  | false =>
    rw [cond_false] at h
    rw [← Tr.ok_some h]; exact ⟨rfl, rfl⟩
  | true =>
    rw [cond_true] at h
    rw [if_pos rfl]
    dsimp only
    cases hcv : isCallV o with
    | true =>
      rw [hcv, cond_true] at h
      obtain ⟨y, h2, h⟩ := Tr.bind_some h
      rw [if_pos rfl, opT_ok hC h2, ← Tr.ok_some h]
      exact ⟨rfl, rfl⟩
    | false =>
      rw [hcv, cond_false] at h
      obtain ⟨y, h2, h⟩ := Tr.bind_some h
      rw [if_neg (by simp), opT_ok hC h2]
      split at h
      · rename_i hy
        rw [hy, ← Tr.ok_some h]; exact ⟨rfl, rfl⟩
      · rename_i b hy
        obtain ⟨hc, h⟩ := Tr.cond_bad h
        rw [hy]
        dsimp only
        rw [if_pos hc, ← Tr.ok_some h]; exact ⟨rfl, rfl⟩
      · rename_i d i b hy
        obtain ⟨hc, h⟩ := Tr.cond_bad h
        rw [hy]
        dsimp only
        rw [if_pos hc, ← Tr.ok_some h]; exact ⟨rfl, rfl⟩
      · exact (Tr.bad_some h).elim
def drawOpsT (P : Program) (nt : Nat) (call : CallT) (callR : CallTr) (ops : Array Oper) (befs : Array Nat) : List Oper → Nat → HFrm → Heap → Nat → List Rec → Tr (HFrm × Heap)
  | [], _, fr, H, _, _ => .ok (fr, H)
  | o :: r, j, fr, H, nx, recs => (drawStepT P call callR ops (befs.getD j 0) fr H nx recs o).bind fun e =>
    drawOpsT P nt call callR ops befs r (j + 1) (putOT nt e.2.2 o.dst (e.1.v, e.2.1)) (putWX H e.1.wr) (if mayPush o then nx + 1 else nx) (⟨j, e.1.rd, e.1.wr.map fun x => (x.1, x.2.1)⟩ :: recs)
theorem drawOpsT_ok {P : Program} {nt : Nat} {call : CallT} {callR : CallTr} (hC : callR.Ok call) {ops : Array Oper} {befs : Array Nat} : ∀ (l : List Oper) (j : Nat) (fr : HFrm) (H : Heap) (nx : Nat) (recs : List Rec) (x : HFrm × Heap),
    (drawOpsT P nt call callR ops befs l j fr H nx recs).run = some x → drawOps P nt call ops befs j l (strip fr) H nx recs = some (strip x.1, x.2)
  | [], j, fr, H, nx, recs, x, h => by rw [← Tr.ok_some h]; rfl
  | o :: r, j, fr, H, nx, recs, x, h => by
    simp only [drawOpsT] at h
    obtain ⟨e, h1, h⟩ := Tr.bind_some h
    obtain ⟨hd, hs⟩ := drawStepT_ok hC h1
    unfold drawOps
    rw [hd, ← hs]
    have := drawOpsT_ok hC r _ _ _ _ _ _ h
    rw [putOT_eq, putWX_eq] at this
    exact this

/-! ### Code -/
def blocksOf : Code → List (Nat × Code)
  | .block id b => (id, b) :: blocksOf b
  | .loop b => blocksOf b
  | .seq a b => blocksOf a ++ blocksOf b
  | .cond _ a b => blocksOf a ++ blocksOf b
  | .scope b => blocksOf b
  | _ => []
def bodyOf (f : Func) : Code := match f.body with | some c => c | none => .skip
abbrev Res := Ex × HFrm × Heap
def Res.st (x : Res) : Ex × Frm × Heap := (x.1, strip x.2.1, x.2.2)
/-- What is known of whole blocks, by their numbers; of loops over functions, by their operands. -/
abbrev BlkT := Nat → HFrm → Heap → Option (Tr Res)
abbrev RgT := Operand → HFrm → Heap → Option (Tr Res)
def BlkT.Ok (bl : BlkT) (cx : Cx) (c : Code) : Prop := ∀ id b, (id, b) ∈ blocksOf c → ∀ fr H t x, bl id fr H = some t → t.run = some x → exec cx (.block id b) (strip fr) H = some x.st
def rangesOf : Code → List (Operand × Array Tmp × Code × Code)
  | .rangeFunc f ps a b => [(f, ps, a, b)]
  | .loop b => rangesOf b
  | .block _ b => rangesOf b
  | .seq a b => rangesOf a ++ rangesOf b
  | .cond _ a b => rangesOf a ++ rangesOf b
  | .scope b => rangesOf b
  | _ => []
def RgT.Ok (rg : RgT) (cx : Cx) (c : Code) : Prop := ∀ f ps a b, (f, ps, a, b) ∈ rangesOf c → ∀ fr H t x, rg f fr H = some t → t.run = some x → exec cx (.rangeFunc f ps a b) (strip fr) H = some x.st
/-- A block of which it is known what it does from one state. -/
def blkE (bl : BlkT) (id0 : Nat) (fr0 : Frm) (H0 : Heap) (u : Tr Res) : BlkT := fun id fr H => cond (Nat.beq id id0) (some (.reqP (strip fr = fr0 ∧ H = H0) u)) (bl id fr H)
theorem blkE_ok {bl : BlkT} {cx : Cx} {c : Code} (h : bl.Ok cx c) {id0 : Nat} {fr0 : Frm} {H0 : Heap} {u : Tr Res} {B : Code} (hB : ∀ b, (id0, b) ∈ blocksOf c → b = B) (k : ∀ x, u.run = some x → exec cx (.block id0 B) fr0 H0 = some x.st) : (blkE bl id0 fr0 H0 u).Ok cx c := by
  intro id b hm fr H t y ht hy
  unfold blkE at ht
  cases hb : Nat.beq id id0 with
  | true =>
    have hid := Nat.eq_of_beq_eq_true hb
    subst hid
    rw [hb, cond_true, Option.some.injEq] at ht
    subst ht
    obtain ⟨⟨h1, h2⟩, h3⟩ := Tr.reqP_some hy
    rw [h1, h2, hB b hm]
    exact k y h3
  | false =>
    rw [hb, cond_false] at ht
    exact h id b hm fr H t y ht hy
/-- A loop over a function of which it is known what it does from one state. -/
def rgE (rg : RgT) (tf : Operand → Bool) (fr0 : Frm) (H0 : Heap) (u : Tr Res) : RgT := fun f fr H => cond (tf f) (some (.reqP (strip fr = fr0 ∧ H = H0) u)) (rg f fr H)
theorem rgE_ok {rg : RgT} {cx : Cx} {c : Code} (h : rg.Ok cx c) {tf : Operand → Bool} {fr0 : Frm} {H0 : Heap} {u : Tr Res} (k : ∀ f ps a b, tf f = true → (f, ps, a, b) ∈ rangesOf c → ∀ x, u.run = some x → exec cx (.rangeFunc f ps a b) fr0 H0 = some x.st) : (rgE rg tf fr0 H0 u).Ok cx c := by
  intro f ps a b hm fr H t y ht hy
  unfold rgE at ht
  cases hb : tf f with
  | true =>
    rw [hb, cond_true, Option.some.injEq] at ht
    subst ht
    obtain ⟨⟨h1, h2⟩, h3⟩ := Tr.reqP_some hy
    rw [h1, h2]
    exact k f ps a b hb hm y h3
  | false =>
    rw [hb, cond_false] at ht
    exact h f ps a b hm fr H t y ht hy
def noBT : BlkT := fun _ _ _ => none
def noRT : RgT := fun _ _ _ => none
theorem noBT_ok (cx : Cx) (c : Code) : noBT.Ok cx c := fun _ _ _ _ _ _ _ h => by cases h
theorem noRT_ok (cx : Cx) (c : Code) : noRT.Ok cx c := fun _ _ _ _ _ _ _ _ _ h => by cases h
/-- A loop, carried out at most k times. -/
def iterT (body : HFrm → Heap → Tr Res) (n : Nat) : Nat → HFrm → Heap → Tr Res
  | 0, _, _ => .bad
  | k + 1, fr, H => (body fr H).bind fun x => match x with
    | (.normal, fr, H) => iterT body n k fr (cutTo n (strip fr) H)
    | r => .ok r
theorem iter_more {body : Frm → Heap → Option (Ex × Frm × Heap)} {n : Nat} : ∀ (k m : Nat) (fr : Frm) (H : Heap) (x : Ex × Frm × Heap), iter body n k fr H = some x → k ≤ m → iter body n m fr H = some x
  | 0, m, fr, H, x, h, _ => by simp [iter] at h
  | k + 1, 0, fr, H, x, h, hk => by omega
  | k + 1, m + 1, fr, H, x, h, hk => by
    unfold iter at h ⊢
    cases hb : body fr H with
    | none => rw [hb] at h; simp at h
    | some y =>
      rw [hb] at h
      obtain ⟨e, f, g⟩ := y
      cases e
      case normal => exact iter_more k m _ _ _ h (by omega)
      all_goals exact h
theorem iterT_ok {body : HFrm → Heap → Tr Res} {body' : Frm → Heap → Option (Ex × Frm × Heap)} {n : Nat} (hb : ∀ fr H x, (body fr H).run = some x → body' (strip fr) H = some x.st) : ∀ (k : Nat) (fr : HFrm) (H : Heap) (x : Res), (iterT body n k fr H).run = some x → iter body' n k (strip fr) H = some x.st
  | 0, fr, H, x, h => (Tr.bad_some h).elim
  | k + 1, fr, H, x, h => by
    simp only [iterT] at h
    obtain ⟨y, h1, h⟩ := Tr.bind_some h
    unfold iter
    rw [hb _ _ _ h1]
    obtain ⟨e, f, g⟩ := y
    cases e
    case normal => exact iterT_ok hb k _ _ _ h
    all_goals
      have h := Tr.ok_some h
      rw [← h]; rfl
def execT (cx : Cx) (callR : CallTr) (bl : BlkT) (rg : RgT) : Code → HFrm → Heap → Tr Res
  | .skip, fr, H => .ok (.normal, fr, H)
  | .label _, fr, H => .ok (.normal, fr, H)
  | .exit id, fr, H => .ok (.exit id, fr, H)
  | .goto l, fr, H => .ok (.goto l, fr, H)
  | .ret, fr, H => .ok (.ret, fr, H)
  | .region id ops draw, fr, H =>
    (cond draw (cond (slotsOk ops (Region.before ops)) (drawOpsT cx.P cx.nt cx.call callR ops (Region.before ops) ops.toList 0 fr (hPad H (pushes ops.toList)) (hNextX H) []) .bad) (runOpsT cx.P cx.nt cx.call callR ops ops.toList fr H)).bind fun x => .ok (.normal, hKillF x.1 (cx.kt id), x.2)
  | .seq a b, fr, H => (execT cx callR bl rg a fr H).bind fun x => match x with
    | (.normal, fr, H) => execT cx callR bl rg b fr H
    | r => .ok r
  | .cond c a b, fr, H => match c with
    | .tmp d => testT fr d (fun fr => execT cx callR bl rg a fr H) (fun fr => execT cx callR bl rg b fr H)
    | c => match (opdT fr c).1 with
      | .bool t => cond t (execT cx callR bl rg a fr H) (execT cx callR bl rg b fr H)
      | _ => .bad
  | .block id b, fr, H => match bl id fr H with
    | some t => t
    | none => (execT cx callR bl rg b fr H).bind fun x => match x with
      | (.exit id', fr, H) => cond (Nat.beq id' id) (.ok (.normal, fr, H)) (.ok (.exit id', fr, H))
      | r => .ok r
  | .scope b, fr, H => (execT cx callR bl rg b fr H).bind fun x => match x with
    | (.goto _, _, _) => .bad
    | r => .ok r
  | .rangeFunc f _ _ _, fr, H => match rg f fr H with
    | some t => t
    | none => .bad
  | .loop b, fr, H => cond (Nat.ble 12 cx.fu) (iterT (execT cx callR bl rg b) (hNextX H) 12 fr H) .bad
  | .refuse _, _, _ => .bad

theorem execT_ok {cx : Cx} {callR : CallTr} {bl : BlkT} {rg : RgT} (hC : callR.Ok cx.call) : ∀ (c : Code), bl.Ok cx c → rg.Ok cx c → ∀ (fr : HFrm) (H : Heap) (x : Res), (execT cx callR bl rg c fr H).run = some x → exec cx c (strip fr) H = some x.st := by
  intro c
  induction c with
  | skip => intro _ _ fr H x h; rw [← Tr.ok_some h]; rfl
  | label => intro _ _ fr H x h; rw [← Tr.ok_some h]; rfl
  | exit => intro _ _ fr H x h; rw [← Tr.ok_some h]; rfl
  | goto => intro _ _ fr H x h; rw [← Tr.ok_some h]; rfl
  | ret => intro _ _ fr H x h; rw [← Tr.ok_some h]; rfl
  | refuse => intro _ _ fr H x h; exact (Tr.bad_some h).elim
  | loop b ih =>
    intro hb hr fr H x h
    simp only [execT] at h
    obtain ⟨hk, h⟩ := Tr.cond_bad h
    rw [Nat.ble_eq] at hk
    unfold exec
    rw [hNextX_eq] at h
    exact iter_more _ _ _ _ _ (iterT_ok (fun fr H x h => ih hb hr fr H x h) 12 fr H x h) hk
  | rangeFunc f ps a b =>
    intro _ hr fr H x h
    simp only [execT] at h
    split at h
    · rename_i t ht
      exact hr f ps a b (by simp [rangesOf]) fr H t x ht h
    · exact (Tr.bad_some h).elim
  | region id ops draw =>
    intro _ _ fr H x h
    simp only [execT] at h
    obtain ⟨y, h1, h⟩ := Tr.bind_some h
    rw [← Tr.ok_some h]
    unfold exec
    cases draw with
    | true =>
      rw [cond_true] at h1
      obtain ⟨hs, h1⟩ := Tr.cond_bad h1
      rw [hNextX_eq] at h1
      simp only [if_true, hs]
      rw [drawOpsT_ok hC _ _ _ _ _ _ _ h1]
      simp only [Res.st, hKillF_eq]
    | false =>
      rw [cond_false] at h1
      simp only [Bool.false_eq_true, if_false]
      rw [runOpsT_ok hC _ _ _ _ h1]
      simp only [Res.st, hKillF_eq]
  | seq a b iha ihb =>
    intro hb hr fr H x h
    have hba : bl.Ok cx a := fun id b' hm => hb id b' (List.mem_append_left _ hm)
    have hbb : bl.Ok cx b := fun id b' hm => hb id b' (List.mem_append_right _ hm)
    have hra : rg.Ok cx a := fun f ps u v hm => hr f ps u v (List.mem_append_left _ hm)
    have hrb : rg.Ok cx b := fun f ps u v hm => hr f ps u v (List.mem_append_right _ hm)
    simp only [execT] at h
    obtain ⟨y, h1, h⟩ := Tr.bind_some h
    have h1 := iha hba hra _ _ _ h1
    unfold exec
    rw [h1]
    obtain ⟨e, fr1, H1⟩ := y
    cases e
    case normal => exact ihb hbb hrb _ _ _ h
    all_goals
      have h := Tr.ok_some h
      rw [← h]; rfl
  | cond c a b iha ihb =>
    intro hb hr fr H x h
    have hba : bl.Ok cx a := fun id b' hm => hb id b' (List.mem_append_left _ hm)
    have hbb : bl.Ok cx b := fun id b' hm => hb id b' (List.mem_append_right _ hm)
    have hra : rg.Ok cx a := fun f ps u v hm => hr f ps u v (List.mem_append_left _ hm)
    have hrb : rg.Ok cx b := fun f ps u v hm => hr f ps u v (List.mem_append_right _ hm)
    simp only [execT] at h
    unfold exec
    split at h
    · rename_i d
      obtain ⟨b', fr', h1, h2, h3⟩ := testT_some h
      have e : opd (strip fr) (.tmp d) = .bool b' := h1
      rw [e, ← h2]
      cases b' with
      | true => exact iha hba hra _ _ _ h3
      | false => exact ihb hbb hrb _ _ _ h3
    · rename_i c' hne
      rw [opdT_eq] at h
      split at h
      · rename_i t hc
        rw [hc]
        cases t with
        | true => exact iha hba hra _ _ _ h
        | false => exact ihb hbb hrb _ _ _ h
      · exact (Tr.bad_some h).elim
  | block id b ih =>
    intro hb hr fr H x h
    have hbb : bl.Ok cx b := fun id' b' hm => hb id' b' (by simp only [blocksOf]; exact List.mem_cons_of_mem _ hm)
    simp only [execT] at h
    split at h
    · rename_i t ht
      exact hb id b (by simp [blocksOf]) _ _ _ _ ht h
    · obtain ⟨y, h1, h⟩ := Tr.bind_some h
      have h1 := ih hbb hr _ _ _ h1
      unfold exec
      rw [h1]
      obtain ⟨e, fr1, H1⟩ := y
      cases e
      case exit id' =>
        dsimp only [Res.st] at h ⊢
        rw [cond_if] at h
        split at h
        · rename_i hid
          rw [if_pos hid, ← Tr.ok_some h]
        · rename_i hid
          rw [if_neg hid, ← Tr.ok_some h]
      all_goals
        have h := Tr.ok_some h
        rw [← h]; rfl
  | scope b ih =>
    intro hb hr fr H x h
    simp only [execT] at h
    obtain ⟨y, h1, h⟩ := Tr.bind_some h
    have h1 := ih hb hr _ _ _ h1
    unfold exec
    rw [h1]
    obtain ⟨e, fr1, H1⟩ := y
    cases e
    case goto => exact (Tr.bad_some h).elim
    all_goals
      have h := Tr.ok_some h
      rw [← h]; rfl

end
end Go.Eng
