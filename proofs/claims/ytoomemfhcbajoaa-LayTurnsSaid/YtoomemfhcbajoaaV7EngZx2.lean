/- The engine, part Z: a twin that is evaluated faster: regions, code, calls. -/
import Derived.Test.YtoomemfhcbajoaaV7EngXx2
section
namespace Go.Eng
set_option linter.unusedVariables false
set_option linter.unusedSimpArgs false
noncomputable section

def putOX (nt:Nat) (fr:Frm) (dst:Option Tmp) (v:AV):Frm:=Option.rec (motive:=fun _=>Frm) fr (fun d=>Bool.rec (motive:=fun _=>Frm) fr (fPutX fr d v) (Nat.ble (Nat.succ d) nt)) dst
theorem putOX_eq:putOX=putO:=by
 funext nt fr dst v
 cases dst with
 | none=>rfl
 | some d =>
   have e:putOX nt fr (some d) v=Bool.rec (motive:=fun _=>Frm) fr (fPutX fr d v) (Nat.blt d nt):=rfl
   rw[e,fPutX_eq]
   simp only[putO]
   cases Nat.blt d nt<;>rfl
def onX (δ:Delta) (H:Heap):Heap:=Delta.rec (motive:=fun _=>Heap) H (fun b=>hPushX H b) (fun d i b=>hSetX H d i b) (fun H=>H) δ
theorem onX_eq (δ:Delta) (H:Heap):onX δ H=δ.on H:=by cases δ<;>simp[onX,Delta.on,hPushX_eq,hSetX_eq]

def runX (P:Program) (nt:Nat) (call:CallT) (dst:Option Tmp) (op:Op) (o:Oper) (ih:Frm→Heap→Option (Frm×Heap)) (fr:Frm) (H:Heap):Option (Frm×Heap) :=
 Option.rec (motive:=fun _=>Option (Frm×Heap)) none (fun vd=>Prod.rec (motive:=fun _=>Option (Frm×Heap)) (fun v δ=>ih (putOX nt fr dst v) (onX δ H)) vd) (opX op o P call fr H (hNextX H))
def runOpsX (P:Program) (nt:Nat) (call:CallT) (ops:Array Oper) (l:List Oper):Frm→Heap→Option (Frm×Heap) :=
 List.rec (motive:=fun _=>Frm→Heap→Option (Frm×Heap)) (fun fr H=>some (fr,H)) (fun o _ ih=>Oper.rec (motive:=fun _=>Frm→Heap→Option (Frm×Heap)) (fun dst op _ _ _ guard=>Option.rec (motive:=fun _=>Frm→Heap→Option (Frm×Heap))
  (runX P nt call dst op o ih)
  (fun _ fr H=>Want.rec (motive:=fun _=>Option (Frm×Heap)) (runX P nt call dst op o ih fr H) (ih (putOX nt fr dst (.tup [])) H) none (wantVX ops fr o)) guard) o) l
theorem runOpsX_eq (P:Program) (nt:Nat) (call:CallT) (ops:Array Oper):∀ (l:List Oper) (fr:Frm) (H:Heap),runOpsX P nt call ops l fr H=runOps P nt call ops l fr H
 | [],fr,H=>rfl
 | o :: l,fr,H=>by
   have hrun:runX P nt call o.dst o.op o (runOpsX P nt call ops l) fr H=(match evalOp P call fr H (hNext H) o with
    | none=>none
    | some (v,δ)=>runOps P nt call ops l (putO nt fr o.dst v) (δ.on H)):=by
    unfold runX
    rw[opX_eq,hNextX_eq,putOX_eq]
    cases evalOp P call fr H (hNext H) o with
    | none=>rfl
    | some vd =>
      obtain ⟨v,δ⟩:=vd
      dsimp only
      rw[onX_eq,runOpsX_eq P nt call ops l]
   have e:runOpsX P nt call ops (o::l) fr H=Option.rec (motive:=fun _=>Option (Frm×Heap)) (runX P nt call o.dst o.op o (runOpsX P nt call ops l) fr H)
    (fun _=>Want.rec (motive:=fun _=>Option (Frm×Heap)) (runX P nt call o.dst o.op o (runOpsX P nt call ops l) fr H) (runOpsX P nt call ops l (putOX nt fr o.dst (.tup [])) H) none (wantVX ops fr o)) o.guard:=by
    obtain ⟨dst,op,ty,pos,after,guard⟩:=o
    cases guard<;>rfl
   rw[e,hrun,wantVX_eq,putOX_eq]
   conv=>rhs;unfold runOps
   cases hg:o.guard with
   | none =>
     have hw:wantV ops fr o=.run:=by unfold wantV;rw[hg]
     rw[hw]
     rfl
   | some jw =>
     dsimp only
     cases wantV ops fr o with
     | lost=>rfl
     | skip=>exact runOpsX_eq P nt call ops l _ _
     | run=>rfl

def hKillX (H:Heap) (d i:Nat):Heap:=hSetX H d i ((hGetX H d i).1,.dead)
theorem hKillX_eq:hKillX=hKill:=by funext H d i;unfold hKillX hKill;rw[hSetX_eq,hGetX_eq]
def hHideX (bef:Nat) (recs:List Rec):Heap→Heap :=
 List.rec (motive:=fun _=>Heap→Heap) (fun H=>H) (fun r _ ih H=>match r.writes with
  | some (d,i)=>cond (bef.testBit r.ix) (ih H) (ih (hKillX H d i))
  | none=>ih H) recs
theorem hHideX_eq (bef:Nat):∀ (recs:List Rec) (H:Heap),hHideX bef recs H=hHide H bef recs
 | [],H=>rfl
 | r :: l,H=>by
   have e:hHideX bef (r::l) H=(match r.writes with
    | some (d,i)=>cond (bef.testBit r.ix) (hHideX bef l H) (hHideX bef l (hKillX H d i))
    | none=>hHideX bef l H):=rfl
   rw[e,hKillX_eq]
   simp only[hHide]
   cases r.writes with
   | none=>exact hHideX_eq bef l H
   | some x =>
     obtain ⟨d,i⟩:=x
     dsimp only
     cases bef.testBit r.ix with
     | true=>exact hHideX_eq bef l H
     | false=>exact hHideX_eq bef l _
def lockAllX (H:Heap):Heap:=mapX (fun l=>Lvl.mk true l.bs) H
theorem lockAllX_eq (H:Heap):lockAllX H=hLockAll H:=by
 unfold lockAllX
 rw[mapX_eq]
 cases H with
 | nil=>rfl
 | cons l r =>
   simp only[List.map_cons,hLockAll]
   congr 1
   induction r with
   | nil=>rfl
   | cons l r ih=>simp only[List.map_cons,hLockAll,ih]
def atX (v:AV):Touch :=
 match v with
 | .ptr d i _ _=>.blk d i
 | .slc d i _ _ _ _ _=>.blk d i
 | .map d i=>.blk d i
 | _=>.none
def readsOfX (fr:Frm) (o:Oper):Touch :=
 match o.op with
 | .load _ a=>atX (opdX fr a)
 | .store _ a _=>atX (opdX fr a)
 | .lookup _ m _ _=>atX (opdX fr m)
 | .call c=>readsOf fr o
 | .mapUpdate ..=>readsOf fr o
 | .insert ..=>readsOf fr o
 | _=>.none
theorem readsOfX_eq:readsOfX=readsOf:=by
 funext fr o
 unfold readsOfX
 cases ho:o.op<;>try rfl
 all_goals first | (unfold readsOf;rw[ho,opdX_eq];done) | (unfold readsOf;rw[ho,opdX_eq];rfl) | (unfold readsOf;rw[ho])
def drawStepX (P:Program) (call:CallT) (ops:Array Oper) (bef:Nat) (fr:Frm) (H:Heap) (nx:Nat) (recs:List Rec) (o:Oper):Option Ent :=
 match wantVX ops fr o with
 | .lost=>none
 | .skip=>some ⟨.tup [],.none,none⟩
 | .run =>
   cond (isCallV o) (match opX o.op o P call fr (lockAllX (hHideX bef recs H)) nx with
    | some (v,_)=>some ⟨v,.all,none⟩
    | none=>none)
   (match opX o.op o P call fr (hHideX bef recs H) nx with
     | some (v,.keep)=>some ⟨v,readsOfX fr o,none⟩
     | some (v,.push b)=>cond (mayPush o && !isDead b && isDead0 (hGetX H 0 nx) && !hLockX H 0) (some ⟨v,readsOfX fr o,some (0,nx,(0,b))⟩) none
     | some (v,.set d i b)=>cond (!isDead b.2 && (Nat.beq b.1 (hGetX H d i).1 || Nat.beq b.1 (Nat.succ (hGetX H d i).1)) && !isDead (hGetX (hHideX bef recs H) d i).2 && mayWrite bef d i recs) (some ⟨v,readsOfX fr o,some (d,i,b)⟩) none
     | _=>none)
theorem cond_if {α:Type} (b:Bool) (x y:α):cond b x y=if b then x else y:=by cases b<;>rfl
theorem drawStepX_eq:drawStepX=drawStep:=by
 funext P call ops bef fr H nx recs o
 unfold drawStepX drawStep
 simp only[wantVX_eq,opX_eq,hHideX_eq,lockAllX_eq,readsOfX_eq,hGetX_eq,hLockX_eq,cond_if]
 rfl
def putWX (H:Heap) (x:Option (Nat×Nat×(Nat×Blk))):Heap :=
 match x with
 | none=>H
 | some (d,i,b)=>hSetX H d i b
theorem putWX_eq:putWX=putW:=by
 funext H x
 cases x with
 | none=>rfl
 | some x=>simp only[putWX,putW,hSetX_eq]
def drawOpsX (P:Program) (nt:Nat) (call:CallT) (ops:Array Oper) (befs:Array Nat) (l:List Oper):Nat→Frm→Heap→Nat→List Rec→Option (Frm×Heap) :=
 List.rec (motive:=fun _=>Nat→Frm→Heap→Nat→List Rec→Option (Frm×Heap)) (fun _ fr H _ _=>some (fr,H))
  (fun o _ ih j fr H nx recs=>match drawStepX P call ops (befs.getD j 0) fr H nx recs o with
    | some e=>ih (Nat.succ j) (putOX nt fr o.dst e.v) (putWX H e.wr) (cond (mayPush o) (Nat.succ nx) nx) (⟨j,e.rd,e.wr.map fun x=>(x.1,x.2.1)⟩::recs)
    | none=>none) l
theorem drawOpsX_eq (P:Program) (nt:Nat) (call:CallT) (ops:Array Oper) (befs:Array Nat):∀ (l:List Oper) (j:Nat) (fr:Frm) (H:Heap) (nx:Nat) (recs:List Rec),drawOpsX P nt call ops befs l j fr H nx recs=drawOps P nt call ops befs j l fr H nx recs
 | [],j,fr,H,nx,recs=>rfl
 | o :: l,j,fr,H,nx,recs=>by
   have e:drawOpsX P nt call ops befs (o::l) j fr H nx recs=(match drawStepX P call ops (befs.getD j 0) fr H nx recs o with
    | some e=>drawOpsX P nt call ops befs l (Nat.succ j) (putOX nt fr o.dst e.v) (putWX H e.wr) (cond (mayPush o) (Nat.succ nx) nx) (⟨j,e.rd,e.wr.map fun x=>(x.1,x.2.1)⟩::recs)
    | none=>none):=rfl
   rw[e,drawStepX_eq,putOX_eq,putWX_eq]
   conv=>rhs;unfold drawOps
   cases drawStep P call ops (befs.getD j 0) fr H nx recs o with
   | none=>rfl
   | some e =>
     dsimp only
     rw[drawOpsX_eq P nt call ops befs l,cond_if]

def cutAtX (fr:Frm) (l:Lvl) (r:Heap) (k:Nat):Nat→Heap :=
 Nat.rec (motive:=fun _=>Nat→Heap) (fun _=>l::r) (fun _ ih m=>cond (anyX (fun x=>refV m x.2) fr || anyX (fun x=>refB m x.2) (takeX l.bs m)) (ih (Nat.succ m)) (Lvl.mk l.lock (takeX l.bs m)::r)) k
theorem cutAtX_eq (fr:Frm) (l:Lvl) (r:Heap):∀ (k m:Nat),cutAtX fr l r k m=cutAt fr l r k m
 | 0,m=>rfl
 | k+1,m=>by
   have e:cutAtX fr l r (k+1) m=cond (anyX (fun x=>refV m x.2) fr || anyX (fun x=>refB m x.2) (takeX l.bs m)) (cutAtX fr l r k (m+1)) (Lvl.mk l.lock (takeX l.bs m)::r):=rfl
   rw[e,cutAtX_eq fr l r k]
   simp only[cutAt,anyX_eq,takeX_eq,cond_if]
def cutToX (n:Nat) (fr:Frm) (H:Heap):Heap :=
 match H with
 | []=>[]
 | l::r=>cond (Nat.ble (lenX l.bs) n) (l::r) (cutAtX fr l r 4 n)
theorem cutToX_eq:cutToX=cutTo:=by
 funext n fr H
 cases H with
 | nil=>rfl
 | cons l r=>simp only[cutToX,cutTo,lenX_eq,cutAtX_eq,cond_if]
def tidyX (n:Nat) (fr:Frm) (H:Heap):Frm×Heap :=
 match cutToX n fr H with
 | []=>(fr,[])
 | l::r=>cond (Nat.ble (lenX l.bs) (Nat.succ n)) (fr,l::r) (tidyAt n 4 fr (l::r))
theorem tidy_short {n k:Nat} {fr:Frm} {l:Lvl} {r:Heap} (h:l.bs.length≤n+1):tidyAt n k fr (l::r)=(fr,l::r):=by
 cases k with
 | zero=>rfl
 | succ k =>
   unfold tidyAt
   have:hole fr l.bs 4 n=none:=by
    unfold hole
    rw[if_neg (by simp;omega)]
   dsimp only
   rw[this]
theorem tidyX_eq:tidyX=tidy:=by
 funext n fr H
 unfold tidyX tidy
 rw[cutToX_eq]
 cases cutTo n fr H with
 | nil=>rfl
 | cons l r =>
   dsimp only
   rw[lenX_eq]
   cases hb:Nat.ble l.bs.length (Nat.succ n) with
   | true=>rw[cond_true,tidy_short (by simpa using hb)]
   | false=>rfl
def iterX (body:Frm→Heap→Option (Ex×Frm×Heap)) (n:Nat) (fu:Nat):Frm→Heap→Option (Ex×Frm×Heap) :=
 Nat.rec (motive:=fun _=>Frm→Heap→Option (Ex×Frm×Heap)) (fun _ _=>none) (fun _ ih fr H=>match body fr H with
  | some (.normal,fr,H)=>ih (tidyX n fr H).1 (tidyX n fr H).2
  | r=>r) fu
theorem iterX_eq (body:Frm→Heap→Option (Ex×Frm×Heap)) (n:Nat):∀ (fu:Nat) (fr:Frm) (H:Heap),iterX body n fu fr H=iter body n fu fr H
 | 0,fr,H=>rfl
 | fu+1,fr,H=>by
   have e:iterX body n (fu+1) fr H=(match body fr H with
    | some (.normal,fr,H)=>iterX body n fu (tidyX n fr H).1 (tidyX n fr H).2
    | r=>r):=rfl
   rw[e,tidyX_eq]
   conv=>rhs;unfold iter
   cases body fr H with
   | none=>rfl
   | some r =>
     obtain ⟨x,fr1,H1⟩:=r
     cases x<;>first | rfl | exact iterX_eq body n fu _ _
def hereX (cx:Cx) (H:Heap):Bool :=
 match cx.ro with
 | none=>true
 | some (d,i)=>match hGetX H d i with
   | (0,.loop _)=>true
   | _=>false
theorem hereX_eq (cx:Cx) (H:Heap):hereX cx H=cx.here H:=by unfold hereX Cx.here;rw[hGetX_eq];cases cx.ro<;>rfl
def execX (cx:Cx) (c:Code):Frm→Heap→Option (Ex×Frm×Heap) :=
 Code.rec (motive:=fun _=>Frm→Heap→Option (Ex×Frm×Heap))
  (fun fr H=>some (.normal,fr,H))
  (fun id ops draw fr H=>match (cond draw (cond (slotsOk ops (Region.before ops)) (drawOpsX cx.P cx.nt cx.call ops (Region.before ops) ops.toList 0 fr (hPad H (pushes ops.toList)) (hNextX H) []) none) (runOpsX cx.P cx.nt cx.call ops ops.toList fr H)) with
    | some (fr,H)=>some (.normal,iceIf (cx.kt id) fr H)
    | none=>none)
  (fun _ _ a b fr H=>match a fr H with
    | some (.normal,fr,H)=>b fr H
    | r=>r)
  (fun c _ _ a b fr H=>match opdX fr c with
    | .bool t=>cond t (a fr H) (b fr H)
    | _=>none)
  (fun id _ b fr H=>match b fr H with
    | some (.exit id',fr,H)=>cond (Nat.beq id' id) (some (.normal,fr,H)) (some (.exit id',fr,H))
    | r=>r)
  (fun _ b fr H=>iterX b (hNextX H) cx.fu fr H)
  (fun f params assign body _ _ fr H=>match opdX fr f with
    | .fn (.func g) a b=>cond (!hereX cx H || hLockX H 0) none
      (match cx.call (.fn g) (appX a (.yld 0 (hNextX H)::b)) (hPushX H (.loop { state:=.ready,pending:=none,fn:=cx.fn,nt:=cx.nt,fr,params:=params.toList,assign,body })) with
      | some (_,H1)=>match hGetX H1 0 (hNextX H) with
        | (0,.loop l)=>match l.state with
          | .busy=>none
          | _=>match endEx l.pending with
            | some e=>some (e,fr,hKillX H1 0 (hNextX H))
            | none=>none
        | _=>none
      | none=>none)
    | _=>none)
  (fun id fr H=>some (.exit id,fr,H))
  (fun _ b fr H=>match b fr H with
    | some (.goto _,_,_)=>none
    | r=>r)
  (fun _ fr H=>some (.normal,fr,H))
  (fun l fr H=>some (.goto l,fr,H))
  (fun fr H=>some (.ret,fr,H))
  (fun _ _ _=>none) c
theorem execX_eq (cx:Cx):∀ (c:Code) (fr:Frm) (H:Heap),execX cx c fr H=exec cx c fr H:=by
 intro c
 induction c with
 | skip=>intro fr H;rfl
 | label=>intro fr H;rfl
 | exit=>intro fr H;rfl
 | goto=>intro fr H;rfl
 | ret=>intro fr H;rfl
 | refuse=>intro fr H;rfl
 | region id ops draw =>
   intro fr H
   have e:execX cx (.region id ops draw) fr H=(match (cond draw (cond (slotsOk ops (Region.before ops)) (drawOpsX cx.P cx.nt cx.call ops (Region.before ops) ops.toList 0 fr (hPad H (pushes ops.toList)) (hNextX H) []) none) (runOpsX cx.P cx.nt cx.call ops ops.toList fr H)) with
    | some (fr,H)=>some (.normal,iceIf (cx.kt id) fr H)
    | none=>none):=rfl
   rw[e,drawOpsX_eq,runOpsX_eq,hNextX_eq,cond_if,cond_if]
   conv=>rhs;unfold exec
   rfl
 | seq a b iha ihb =>
   intro fr H
   have e:execX cx (.seq a b) fr H=(match execX cx a fr H with
    | some (.normal,fr,H)=>execX cx b fr H
    | r=>r):=rfl
   rw[e,iha]
   conv=>rhs;unfold exec
   cases exec cx a fr H with
   | none=>rfl
   | some r =>
     obtain ⟨x,fr1,H1⟩:=r
     cases x<;>first | rfl | exact ihb _ _
 | cond c a b iha ihb =>
   intro fr H
   have e:execX cx (.cond c a b) fr H=(match opdX fr c with
    | .bool t=>cond t (execX cx a fr H) (execX cx b fr H)
    | _=>none):=rfl
   rw[e,opdX_eq]
   conv=>rhs;unfold exec
   cases opd fr c<;>try rfl
   rename_i t
   cases t
   · exact ihb _ _
   · exact iha _ _
 | block id b ih =>
   intro fr H
   have e:execX cx (.block id b) fr H=(match execX cx b fr H with
    | some (.exit id',fr,H)=>cond (Nat.beq id' id) (some (.normal,fr,H)) (some (.exit id',fr,H))
    | r=>r):=rfl
   rw[e,ih]
   conv=>rhs;unfold exec
   cases exec cx b fr H with
   | none=>rfl
   | some r =>
     obtain ⟨x,fr1,H1⟩:=r
     cases x<;>try rfl
     dsimp only
     rw[cond_if]
 | loop b ih =>
   intro fr H
   have e:execX cx (.loop b) fr H=iterX (execX cx b) (hNextX H) cx.fu fr H:=rfl
   have hb:execX cx b=exec cx b:=by funext fr H;exact ih fr H
   rw[e,hb,iterX_eq,hNextX_eq]
   conv=>rhs;unfold exec
 | rangeFunc f params assign body _ _ =>
   intro fr H
   have e : execX cx (.rangeFunc f params assign body) fr H=(match opdX fr f with
    | .fn (.func g) a b=>cond (!hereX cx H || hLockX H 0) none
      (match cx.call (.fn g) (appX a (.yld 0 (hNextX H)::b)) (hPushX H (.loop { state:=.ready,pending:=none,fn:=cx.fn,nt:=cx.nt,fr,params:=params.toList,assign,body })) with
      | some (_,H1)=>match hGetX H1 0 (hNextX H) with
        | (0,.loop l)=>match l.state with
          | .busy=>none
          | _=>match endEx l.pending with
            | some e=>some (e,fr,hKillX H1 0 (hNextX H))
            | none=>none
        | _=>none
      | none=>none)
    | _=>none):=rfl
   rw[e,opdX_eq,hereX_eq,hLockX_eq,hPushX_eq,hNextX_eq,hGetX_eq,hKillX_eq]
   conv=>rhs;unfold exec
   cases opd fr f<;>try rfl
   rename_i g a b
   cases g<;>try rfl
   rename_i g
   dsimp only
   rw[cond_if,appX_eq]
   unfold rangeStart
   split
   · rfl
   · cases cx.call (.fn g) (a++.yld 0 (hNext H)::b) (hPush H (.loop { state:=.ready,pending:=none,fn:=cx.fn,nt:=cx.nt,fr,params:=params.toList,assign,body })) with
     | none=>rfl
     | some r =>
       obtain ⟨v,H1⟩:=r
       dsimp only
       rcases hGet H1 0 (hNext H) with ⟨ver,B⟩
       cases ver with
       | succ n=>cases B<;>rfl
       | zero =>
         cases B<;>try rfl
         rename_i l
         rcases l with ⟨st,_,_,_,_,_,_,_⟩
         cases st<;>rfl
 | scope b ih =>
   intro fr H
   have e:execX cx (.scope b) fr H=(match execX cx b fr H with
    | some (.goto _,_,_)=>none
    | r=>r):=rfl
   rw[e,ih]
   conv=>rhs;unfold exec
   cases exec cx b fr H with
   | none=>rfl
   | some r =>
     obtain ⟨x,fr1,H1⟩:=r
     cases x<;>rfl

def argFrmX (l:List AV):Nat→Frm:=List.rec (motive:=fun _=>Nat→Frm) (fun _=>[]) (fun v _ ih x=>(x,upV 1 v)::ih (Nat.succ x)) l
theorem argFrmX_eq:∀ (l:List AV) (x:Nat),argFrmX l x=argFrm x l
 | [],x=>rfl
 | v::l,x=>by
   have e:argFrmX (v::l) x=(x,upV 1 v)::argFrmX l (x+1):=rfl
   rw[e,argFrmX_eq l];rfl
def callNX (P : Program) (ora:CallT→FuncId→List AV→Heap→Option (AV×Heap)) (KT:FuncId→Nat→Nat) (fu:Nat) (n:Nat):CallT :=
 Nat.rec (motive:=fun _=>CallT) (fun tgt _ _=>match tgt with
  | .mode=>(ora (fun _ _ _=>none) 1000000 [] []).map fun _=>(.undef,[])
  | _=>none) (fun _ ih tgt args H=>match tgt with
  | .mode=>(ora (fun _ _ _=>none) 1000000 [] []).map fun _=>(.undef,[])
  | .fn f => match ora ih f args H with
    | some r=>some r
    | none => match P.funcs[f]? with
      | none=>none
      | some fn=>match fn.body with
        | none=>none
        | some c=>cond (Nat.ble (lenX args) fn.ntmps)
          (match execX ⟨P,ih,fu,f,fn.ntmps,KT f,none⟩ c (argFrmX args 0) (⟨false,[]⟩::H) with
          | some (e,fr,l::H')=>(match e with
            | .normal | .ret=>match resV P fr (l::H') fn.results.toList with
              | some vs=>some (frzV l.bs 5 (one vs),H')
              | none=>none
            | _=>none)
          | _=>none) none
  | .round d i => match hGetX H d i with
    | (0, .loop l)=>cond (hLockX H d) none (match l.state with
      | .ready => match putPs l.nt (upFrm (d+1) l.fr) l.params (mapX (upV 1) args) with
        | some fr => match execX ⟨P,ih,fu,l.fn,l.nt,KT l.fn,some (d+1,i)⟩ l.assign fr (⟨false,[]⟩::H) with
          | some (.normal,fr,H1)=>match hGetX H1 (d+1) i with
            | (0, .loop l1)=>match l1.state with
              | .ready =>
                match execX ⟨P,ih,fu,l.fn,l.nt,KT l.fn,some (d+1,i)⟩ l.body fr (hSetX H1 (d+1) i (0,.loop { l1 with state:=.busy })) with
                | some (e,_,_::H2)=>match hGetX H2 d i with
                  | (0,.loop l2)=>some (.bool (jumpOf e).isNone,hSetX H2 d i (0,.loop { l2 with state:=if (jumpOf e).isNone then .ready else .done,pending:=jumpOf e }))
                  | _=>none
                | _=>none
              | _=>none
            | _=>none
          | _=>none
        | none=>none
      | _=>none)
    | _=>none) n
theorem callNX_eq (P:Program) (ora:CallT→FuncId→List AV→Heap→Option (AV×Heap)) (KT:FuncId→Nat→Nat) (fu:Nat):∀ (n:Nat) (tgt:Tgt) (args:List AV) (H:Heap),callNX P ora KT fu n tgt args H=callN P ora KT fu n tgt args H
 | 0,tgt,args,H=>by cases tgt<;>rfl
 | n + 1, tgt,args,H=>by
   have ih:callNX P ora KT fu n=callN P ora KT fu n:=by funext t a h;exact callNX_eq P ora KT fu n t a h
   cases tgt with
   | mode=>rfl
   | fn f =>
     have e : callNX P ora KT fu (n+1) (.fn f) args H=(match ora (callNX P ora KT fu n) f args H with
      | some r=>some r
      | none => match P.funcs[f]? with
        | none=>none
        | some fn=>match fn.body with
          | none=>none
          | some c=>cond (Nat.ble (lenX args) fn.ntmps)
            (match execX ⟨P,callNX P ora KT fu n,fu,f,fn.ntmps,KT f,none⟩ c (argFrmX args 0) (⟨false,[]⟩::H) with
            | some (e,fr,l::H')=>(match e with
              | .normal | .ret=>match resV P fr (l::H') fn.results.toList with
                | some vs=>some (frzV l.bs 5 (one vs),H')
                | none=>none
              | _=>none)
            | _=>none) none):=rfl
     rw[e,ih]
     conv=>rhs;unfold callN
     simp only[execX_eq,argFrmX_eq,lenX_eq,cond_if]
     rfl
   | round d i =>
     have e : callNX P ora KT fu (n+1) (.round d i) args H=(match hGetX H d i with
      | (0, .loop l)=>cond (hLockX H d) none (match l.state with
        | .ready => match putPs l.nt (upFrm (d+1) l.fr) l.params (mapX (upV 1) args) with
          | some fr => match execX ⟨P,callNX P ora KT fu n,fu,l.fn,l.nt,KT l.fn,some (d+1,i)⟩ l.assign fr (⟨false,[]⟩::H) with
            | some (.normal,fr,H1)=>match hGetX H1 (d+1) i with
              | (0, .loop l1)=>match l1.state with
                | .ready =>
                  match execX ⟨P,callNX P ora KT fu n,fu,l.fn,l.nt,KT l.fn,some (d+1,i)⟩ l.body fr (hSetX H1 (d+1) i (0,.loop { l1 with state:=.busy })) with
                  | some (e,_,_::H2)=>match hGetX H2 d i with
                    | (0,.loop l2)=>some (.bool (jumpOf e).isNone,hSetX H2 d i (0,.loop { l2 with state:=if (jumpOf e).isNone then .ready else .done,pending:=jumpOf e }))
                    | _=>none
                  | _=>none
                | _=>none
              | _=>none
            | _=>none
          | none=>none
        | _=>none)
      | _=>none):=rfl
     rw[e,ih]
     conv=>rhs;unfold callN
     simp only[execX_eq,mapX_eq,hGetX_eq,hSetX_eq,hLockX_eq,cond_if]
     rfl

end
end Go.Eng
end
section
namespace Go.Eng
set_option linter.unusedVariables false
set_option linter.unusedSimpArgs false

def noR (f:AV→Bool) (r:Row):Bool :=
 match r with
 | .I ..=>true
 | .G l=>l.all f
 | .F ..=>true
 | .M l=>arrs l
def noH:Nat→AV→Bool
 | 0,_=>false
 | n+1,v=>match v with
   | .undef | .bool _ | .int _ _ | .str _ | .nilp | .nils | .nilm | .nilf=>true
   | .ptrT none _ _=>true
   | .slcT none _ _ _ _=>true
   | .agg r=>noR (noH n) r
   | .tup l=>l.all (noH n)
   | .fn _ a b=>a.all (noH n) && b.all (noH n)
   | _=>false
theorem all_getD {f:AV→Bool}:∀ {l:List AV} {j:Nat},l.all f=true→j<l.length→f (l.getD j .undef)=true
 | [],j,_,h=>by simp at h
 | x::l,0,h,_=>by simp at h;simpa using h.1
 | x::l,j+1,h,hj=>by
   simp only[List.all_cons,Bool.and_eq_true] at h
   rw[List.getD_cons_succ]
   exact all_getD h.2 (by simpa using hj)
theorem noH_any {p:Pst} {M N:Mu}:∀ (n:Nat) {v:AV} {c:Value},noH n v=true→VRel p M v c→VRel p N v c
 | 0,v,c,h,_=>by simp[noH] at h
 | n + 1,v,c,h,hv=>by
   have ih:=@noH_any p M N n
   cases hv with
   | undef c=>exact .undef c
   | bool b=>exact .bool b
   | int k n=>exact .int k n
   | str s=>exact .str s
   | nilp=>exact .nilp
   | nils=>exact .nils
   | nilm=>exact .nilm
   | nilf=>exact .nilf
   | ptr h0=>simp[noH] at h
   | slc h0=>simp[noH] at h
   | map h0=>simp[noH] at h
   | yld h0=>simp[noH] at h
   | ptrT vs h0 h1 hv =>
     rename_i s r off b o
     cases s with
     | some s=>simp[noH] at h
     | none=>exact .ptrT vs h0 h1 hv
   | slcT vs h0 h1 hv hl hf hx =>
     rename_i s r sz len b o x cc full
     cases s with
     | some s=>simp[noH] at h
     | none=>exact .slcT vs h0 h1 hv hl hf hx
   | slcN=>exact .slcN
   | fn ha hb va vb =>
     simp only[noH,Bool.and_eq_true] at h
     exact .fn ha hb (fun j hj=>ih (all_getD h.1 hj) (va j hj)) (fun j hj=>ih (all_getD h.2 hj) (vb j hj))
   | agg hs h1 hv =>
     rename_i r cs
     simp only[noH] at h
     cases r with
     | I k l=>exact .agg hs h1 (fun j hj=>(hv j hj).anyInt _ _)
     | F f m=>exact .agg hs h1 hv
     | M l=>exact .agg hs h1 (RRel.arrs h hv)
     | G l=>exact .agg hs h1 (fun j hj=>ih (all_getD (f:=noH n) h hj) (hv j hj))
   | tup hs hv =>
     simp only[noH] at h
     exact .tup hs (fun j hj=>ih (all_getD h hj) (hv j hj))

structure Ora where
 f:FuncId
 args:List AV
 v:AV
def OneOk (P:Program) (e:Ora):Prop:=∀ (H:Heap),H≠[]→∀ (p:Pst) (M:Mu) (w:World) (cargs:Array Value),HRel p M H w→CRel p M e.args cargs →
 (∃ fn,P.funcs[e.f]?=some fn∧fn.body.isNone=false)∧CallsIn Fence.wide 0 P e.f cargs w (Post p M H w e.v H)

theorem one_of_call {P:Program} {call:CallT} (hC:CallOk P call) {e:Ora} {H':Heap} (h:call (.fn e.f) e.args [⟨true,[]⟩]=some (e.v,H')) (hn:e.args.all (noH 9)=true):OneOk P e:=by
 intro H hne p M w cargs hH hA
 have hH0:HRel p Mu.no [⟨true,[]⟩] w:=⟨hH.pers,(fun d i v B hg hB=>by
  cases d<;>simp[hGet,nthBlk] at hg<;>exact absurd hg.2.symm hB),(fun d i v B d' i' v' B' b o t o' t' hg hB hg' hB' hm hm'=>by cases hm),(fun d i v t hm=>by cases hm)⟩
 have hA0:CRel p Mu.no e.args cargs:=⟨hA.1,fun j hj=>noH_any 9 (all_getD hn hj) (hA.2 j hj)⟩
 obtain ⟨h1,h2⟩:=hC (.fn e.f) e.args _ e.v H' h (by simp) p Mu.no w cargs hH0 hA0
 refine ⟨h1,h2.mono ?_⟩
 rintro en w' ⟨cv,rfl,st,p',M',hE,hv⟩
 have hM:Mu.le M' M:=fun d i v t hm=>by
  have h3:=(hE.rel.dom d i v t hm).1
  have h4:hLock [⟨true,[]⟩] d=true:=by cases d<;>rfl
  rw[st.next d h4] at h3
  cases d<;>simp[hNextAt] at h3
 have all:∀ b,Go.Eng.keep Mu.no [⟨true,[]⟩] b:=fun b d i u B _ _ _ o t hm=>by cases hm
 have no:∀ {b:Nat},¬ (hLock [⟨true,[]⟩] 0=false∧∃ i u o' t',Mu.no 0 i u=some (b,o',t')):=fun h=>by have:=h.1;cases this
 refine ⟨cv,rfl,Still.refl H,p',M,{ Evo.refl hH with pst:=hE.pst,rel:=⟨hE.rel.pers,?_,hH.apart,hH.dom⟩,stay:=hE.stay.weaken (fun b _ _=>all b),fresh:=fun b o v hv=>(hE.fresh b o v hv).imp_right fun h=>h.elim .inl fun h=>(no h).elim },hv.mono (Pst.le.refl _) hM⟩
 intro d i u B hg hB
 obtain ⟨b,o,t,k1,k2,k3⟩:=hH.live d i u B hg hB
 have hlt:=k2.lt hB
 refine ⟨b,o,t,k1,k2.mono hE.pst (Mu.le.refl _) (hE.stay.block b hlt (all b)),fun x=>?_⟩
 cases hx:p' b x with
 | none=>rfl
 | some y =>
   rcases hE.fresh b x y hx with h | h | ⟨h,_⟩
   · rw[k3] at h;cases h
   · omega
   · cases h

noncomputable def eqR (f:AV→AV→Bool) (r s:Row):Bool :=
 match r,s with
 | .I k l,.I k' l'=>kindX k k' && listEqI l l'
 | .G l,.G l'=>listEqV f l l'
 | _,_=>false
where
 listEqI:List Int→List Int→Bool
  | [],[]=>true
  | x::a,y::b=>eqX x y && listEqI a b
  | _,_=>false
 listEqV (f:AV→AV→Bool):List AV→List AV→Bool
  | [],[]=>true
  | x::a,y::b=>f x y && listEqV f a b
  | _,_=>false
def eqOp:Option Nat→Option Nat→Bool
 | none,none=>true
 | some a,some b=>Nat.beq a b
 | _,_=>false
noncomputable def eqA:Nat→AV→AV→Bool
 | 0,_,_=>false
 | n+1,v,u=>match v,u with
   | .bool a,.bool b=>a == b
   | .int k a,.int k' b=>kindX k k' && eqX a b
   | .nilp,.nilp=>true
   | .nils,.nils=>true
   | .nilm,.nilm=>true
   | .ptrT s r o,.ptrT s' r' o'=>eqOp s s' && (eqR (eqA n) r r' && Nat.beq o o')
   | .slcT s r z l b,.slcT s' r' z' l' b'=>eqOp s s' && (eqR (eqA n) r r' && (Nat.beq z z' && (Nat.beq l l' && b == b')))
   | .agg r,.agg r'=>eqR (eqA n) r r'
   | _,_=>false
theorem listEqI_eq:∀ (l m:List Int),eqR.listEqI l m=true→l=m
 | [],[],_=>rfl
 | [],_::_,h=>by simp[eqR.listEqI] at h
 | _::_,[],h=>by simp[eqR.listEqI] at h
 | x::a,y::b,h=>by
   simp only[eqR.listEqI,Bool.and_eq_true,eqX_eq,beq_iff_eq] at h
   rw[h.1,listEqI_eq a b h.2]
theorem listEqV_eq {f:AV→AV→Bool} (hf:∀ x y,f x y=true→x=y):∀ (l m:List AV),eqR.listEqV f l m=true→l=m
 | [],[],_=>rfl
 | [],_::_,h=>by simp[eqR.listEqV] at h
 | _::_,[],h=>by simp[eqR.listEqV] at h
 | x::a,y::b,h=>by
   simp only[eqR.listEqV,Bool.and_eq_true] at h
   rw[hf _ _ h.1,listEqV_eq hf a b h.2]
theorem eqR_eq {f:AV→AV→Bool} (hf:∀ x y,f x y=true→x=y) (r s:Row) (h:eqR f r s=true):r=s:=by
 cases r<;>cases s<;>simp only[eqR,Bool.and_eq_true,kindX_eq,decide_eq_true_eq] at h<;>try (simp at h;done)
 · rw[h.1,listEqI_eq _ _ h.2]
 · rw[listEqV_eq hf _ _ h]
theorem eqOp_eq (a b:Option Nat) (h:eqOp a b=true):a=b:=by
 cases a<;>cases b<;>simp[eqOp] at h ⊢;exact h
theorem eqA_eq:∀ (n:Nat) (x y:AV),eqA n x y=true→x=y
 | 0,x,y,h=>by simp[eqA] at h
 | n+1,x,y,h=>by
   have ih:=eqA_eq n
   cases x<;>cases y<;>simp only[eqA,Bool.and_eq_true,kindX_eq,eqX_eq,decide_eq_true_eq,beq_iff_eq] at h<;>try (first | rfl | (simp at h;done))
   case bool.bool=>rw[h]
   case int.int=>rw[h.1,h.2]
   case ptrT.ptrT=>rw[eqOp_eq _ _ h.1,eqR_eq ih _ _ h.2.1,Nat.eq_of_beq_eq_true h.2.2]
   case slcT.slcT=>rw[eqOp_eq _ _ h.1,eqR_eq ih _ _ h.2.1,Nat.eq_of_beq_eq_true h.2.2.1,Nat.eq_of_beq_eq_true h.2.2.2.1,h.2.2.2.2]
   case agg.agg=>rw[eqR_eq ih _ _ h]

noncomputable def oraT:List Ora→CallT→FuncId→List AV→Heap→Option (AV×Heap)
 | [],_,_,_,_=>none
 | e::r,c,f,args,H=>if Nat.beq e.f f && eqR.listEqV (eqA 9) e.args args then some (e.v,H) else oraT r c f args H
theorem oraT_ok {P:Program}:∀ (tab:List Ora),(∀ e ∈ tab,OneOk P e)→OraOk P (oraT tab)
 | [],_=>fun call _ f args H v H' h=>by simp[oraT] at h
 | e :: r,hT=>fun call hC f args H v H' h=>by
   simp only[oraT] at h
   split at h
   · rename_i hc
     simp only[Bool.and_eq_true] at hc
     have e1:=Nat.eq_of_beq_eq_true hc.1
     have e2:=listEqV_eq (eqA_eq 9) _ _ hc.2
     have e3:=Option.some.inj h
     simp only[Prod.mk.injEq] at e3
     obtain ⟨e3,e4⟩:=e3
     subst e1;subst e2;subst e3;subst e4
     exact hT e (by simp) H
   · exact oraT_ok r (fun e' he=>hT e' (List.mem_cons_of_mem _ he)) call hC f args H v H' h

end Go.Eng
end
