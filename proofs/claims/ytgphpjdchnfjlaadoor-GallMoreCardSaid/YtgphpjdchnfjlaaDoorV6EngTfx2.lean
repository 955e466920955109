/- The engine as a tree: regions, code, calls. -/
import Derived.Test.YtgphpjdchnfjlaaDoorV6EngTe
set_option linter.unusedVariables false
set_option linter.unusedSimpArgs false
section
namespace Go.Eng
noncomputable section

def vQ (f:aG) (y:Nat) (b:Bool):aG:=List.rec (motive:=fun _=>aG) [] (fun p r ih=>Bool.rec (motive:=fun _=>aG) (p::ih) ((p.1,(.bool b,some 1))::r) (Nat.beq p.1 y)) f
theorem tn:∀ (f:aG) (y:Nat) (b:Bool),bM (strip f) y=.bool b→strip (vQ f y b)=strip f
 | [],y,b,_=>rfl
 | (x,v)::r,y,b,h=>by
   have e:vQ ((x,v)::r) y b=Bool.rec (motive:=fun _=>aG) ((x,v)::vQ r y b) ((x,(.bool b,some 1))::r) (Nat.beq x y):=rfl;rw[cO,bM] at h;rw[e];cases hb:Nat.beq x y with
   | true =>
     rw[hb] at h;have h:v.1=.bool b:=h;show (x,AV.bool b)::strip r=(x,v.1)::strip r;rw[h]
   | false =>
     rw[hb] at h;show (x,v.1)::strip (vQ r y b)=(x,v.1)::strip r;rw[tn r y b h]
def uy {α:Type} (fr:aG) (d:Nat) (t e:aG→Tr α):Tr α :=
 match lU fr d with
 | (.bool b,none)=>.ite b (t (vQ fr d true)) (e (vQ fr d false))
 | (.bool b,some _)=>cond b (t fr) (e fr)
 | _=>.bad
theorem jv {α:Type} {fr:aG} {d:Nat} {t e:aG→Tr α} {x:α} (h:(uy fr d t e).run=some x):∃ b fr',bM (strip fr) d=.bool b∧strip fr'=strip fr∧(if b then t fr' else e fr').run=some x:=by
 unfold uy at h;split at h
 · rename_i b hg;have hg':bM (strip fr) d=.bool b:=by rw[← ff,hg]
   rcases Tr.kA h with ⟨rfl,h⟩ | ⟨rfl,h⟩
   · exact ⟨true,_,hg',tn _ _ _ hg',h⟩
   · exact ⟨false,_,hg',tn _ _ _ hg',h⟩
 · rename_i b n hg;have hg':bM (strip fr) d=.bool b:=by rw[← ff,hg]
   refine ⟨b,fr,hg',rfl,?_⟩;cases b<;>exact h
 · exact (Tr.ag h).elim
def DJ (ops:Array Oper) (fr:aG) (o:Oper):Tr (Bool×aG) :=
 match o.guard with
 | none=>.ok (true,fr)
 | some (j,want)=>match (ops[j]?).bind (·.dst) with
   | none=>.bad
   | some d=>match (lU fr d).1 with
     | .bool _=>cond want (uy fr d (fun fr=>.ok (true,fr)) (fun fr=>.ok (false,fr))) (uy fr d (fun fr=>.ok (false,fr)) (fun fr=>.ok (true,fr)))
     | .tup _=>.ok (false,fr)
     | _=>.bad
theorem Ay {ops:Array Oper} {fr:aG} {o:Oper} {r:Bool×aG} (h:(DJ ops fr o).run=some r):lX ops (strip fr) o=(if r.1 then .run else .skip)∧strip r.2=strip fr:=by
 unfold DJ at h;unfold lX;cases hg:o.guard with
 | none =>
   rw[hg] at h;rw[← Tr.ab h];exact ⟨rfl,rfl⟩
 | some jw =>
   obtain ⟨j,want⟩:=jw;rw[hg] at h;dsimp only at h ⊢;cases hd:(ops[j]?).bind (·.dst) with
   | none=>rw[hd] at h;exact (Tr.ag h).elim
   | some d =>
     rw[hd] at h;dsimp only at h ⊢;have he:=ff fr d;rw[he] at h;cases hv:bM (strip fr) d<;>rw[hv] at h<;>try exact (Tr.ag h).elim
     case bool b =>
      dsimp only at h ⊢
      cases want with
      | true =>
        rw[cond_true] at h
        obtain ⟨b',fr',h1,h2,h3⟩:=jv h
        rw[hv] at h1
        cases h1
        cases b<;>(have h3:=Tr.ab h3;rw[← h3];exact ⟨rfl,h2⟩)
      | false =>
        rw[cond_false] at h
        obtain ⟨b',fr',h1,h2,h3⟩:=jv h
        rw[hv] at h1
        cases h1
        cases b<;>(have h3:=Tr.ab h3;rw[← h3];exact ⟨rfl,h2⟩)
     case tup l=>rw[← Tr.ab h];exact ⟨rfl,rfl⟩

def iL (P:Program) (nt:Nat) (call:aL) (callR:bp) (ops:Array Oper):List Oper→aG→aa→Tr (aG×aa)
 | [],fr,H=>.ok (fr,H)
 | o::r,fr,H=>(DJ ops fr o).bind fun b=>cond b.1
   ((O2 o.op o P call callR b.2 H (wS H)).bind fun y=>iL P nt call callR ops r (rh nt b.2 o.dst y.1) (Sl y.2 H))
   (iL P nt call callR ops r (rh nt b.2 o.dst (.tup [],none)) H)
theorem fx {P:Program} {nt:Nat} {call:aL} {callR:bp} (hC:callR.Ok call) {ops:Array Oper}:∀ (l:List Oper) (fr:aG) (H:aa) (x:aG×aa),(iL P nt call callR ops l fr H).run=some x→fb P nt call ops l (strip fr) H=some (strip x.1,x.2)
 | [],fr,H,x,h=>by rw[← Tr.ab h];rfl
 | o :: r,fr,H,x,h=>by
   simp only[iL] at h;obtain ⟨b,h1,h⟩:=Tr.bind_some h;unfold fb;obtain ⟨hw,hs⟩:=Ay h1;rw[hw,← hs];obtain ⟨b,fr1⟩:=b;dsimp only at h ⊢;cases b with
   | false =>
     have:=fx hC r _ _ _ h;rw[mQ] at this;exact this
   | true =>
     rw[cond_true] at h;obtain ⟨y,h2,h⟩:=Tr.bind_some h;have h2:=Bx hC h2;rw[qh] at h2;have:=fx hC r _ _ _ h;rw[mQ,My] at this;rw[if_pos rfl];dsimp only;rw[h2];exact this

def pL (fr:aG) (o:Oper):Touch:=ud (strip fr) o
def qb (P:Program) (call:aL) (callR:bp) (ops:Array Oper) (bef:Nat) (dZ:aG) (H:aa) (nx:Nat) (recs:List Rec) (o:Oper):Tr (uK×Option Nat×aG) :=
 (DJ ops dZ o).bind fun b=>cond b.1
   (cond (fo o) ((O2 o.op o P call callR b.2 (th (mz bef recs H)) nx).bind fun y=>.ok (⟨y.1.1,.all,none⟩,y.1.2,b.2))
     ((O2 o.op o P call callR b.2 (mz bef recs H) nx).bind fun y=>match y.2 with
       | .bE=>.ok (⟨y.1.1,pL b.2 o,none⟩,y.1.2,b.2)
       | .push q=>cond (jJ o && !mD q && rU (nQ H 0 nx) && !j0 H 0) (.ok (⟨y.1.1,pL b.2 o,some (0,nx,(0,q))⟩,y.1.2,b.2)) .bad
       | .set d i q=>.req (bC (bH (nQ H d i).1 q.1) (bH q.1 (Nat.succ (nQ H d i).1))) (cond (!mD q.2 && !mD (nQ (mz bef recs H) d i).2 && kE bef d i recs) (.ok (⟨y.1.1,pL b.2 o,some (d,i,q)⟩,y.1.2,b.2)) .bad)
       | _=>.bad))
   (.ok (⟨.tup [],.none,none⟩,none,b.2))
theorem wA {P:Program} {call:aL} {callR:bp} (hC:callR.Ok call) {ops:Array Oper} {bef:Nat} {fr:aG} {H:aa} {nx:Nat} {recs:List Rec} {o:Oper} {e:uK×Option Nat×aG} (h:(qb P call callR ops bef fr H nx recs o).run=some e) :
 gQ P call ops bef (strip fr) H nx recs o=some e.1∧strip e.2.2=strip fr:=by
 unfold qb at h
 unfold gQ
 simp only[na,yD,pL,zg,pr,gq] at h
 obtain ⟨b,h1,h⟩:=Tr.bind_some h
 obtain ⟨hw,hs⟩:=Ay h1
 rw[hw,← hs]
 obtain ⟨b,fr1⟩:=b
 dsimp only at h ⊢
 cases b with
 | false =>
   rw[cond_false] at h
   rw[← Tr.ab h];exact ⟨rfl,rfl⟩
 | true =>
   rw[cond_true] at h
   rw[if_pos rfl]
   dsimp only
   cases hcv:fo o with
   | true =>
     rw[hcv,cond_true] at h
     obtain ⟨y,h2,h⟩:=Tr.bind_some h
     rw[if_pos rfl,Bx hC h2,← Tr.ab h]
     exact ⟨rfl,rfl⟩
   | false =>
     rw[hcv,cond_false] at h
     obtain ⟨y,h2,h⟩:=Tr.bind_some h
     rw[if_neg (by simp),Bx hC h2]
     split at h
     · rename_i hy
       rw[hy,← Tr.ab h];exact ⟨rfl,rfl⟩
     · rename_i b hy
       obtain ⟨hc,h⟩:=Tr.aY h
       rw[hy]
       dsimp only
       rw[if_pos hc,← Tr.ab h];exact ⟨rfl,rfl⟩
     · rename_i d i b hy
       obtain ⟨hv,h⟩:=Tr.aS h
       obtain ⟨hc,h⟩:=Tr.aY h
       rw[hy]
       dsimp only
       rw[cD,lq,lq,Bool.and_eq_true,decide_eq_true_eq,decide_eq_true_eq] at hv
       have hv':(Nat.beq b.1 (az H d i).1 || Nat.beq b.1 (Nat.succ (az H d i).1))=true:=by
        simp only[Bool.or_eq_true,Nat.beq_eq];omega
       simp only[Bool.and_eq_true] at hc
       rw[if_pos (by simp only[Bool.and_eq_true];exact ⟨⟨⟨hc.1.1,hv'⟩,hc.1.2⟩,hc.2⟩),← Tr.ab h];exact ⟨rfl,rfl⟩
     · exact (Tr.ag h).elim
def o6 (P:Program) (nt:Nat) (call:aL) (callR:bp) (ops:Array Oper) (befs:Array Nat):List Oper→Nat→aG→aa→Nat→List Rec→Tr (aG×aa)
 | [],_,fr,H,_,_=>.ok (fr,H)
 | o::r,j,fr,H,nx,recs=>(qb P call callR ops (befs.getD j 0) fr H nx recs o).bind fun e =>
   o6 P nt call callR ops befs r (j+1) (rh nt e.2.2 o.dst (e.1.v,e.2.1)) (GV H e.1.wr) (if jJ o then nx+1 else nx) (⟨j,e.1.rd,e.1.wr.map fun x=>(x.1,x.2.1)⟩::recs)
theorem qO {P:Program} {nt:Nat} {call:aL} {callR:bp} (hC:callR.Ok call) {ops:Array Oper} {befs:Array Nat}:∀ (l:List Oper) (j:Nat) (fr:aG) (H:aa) (nx:Nat) (recs:List Rec) (x:aG×aa),
 (o6 P nt call callR ops befs l j fr H nx recs).run=some x→gI P nt call ops befs j l (strip fr) H nx recs=some (strip x.1,x.2)
 | [],j,fr,H,nx,recs,x,h=>by rw[← Tr.ab h];rfl
 | o::r,j,fr,H,nx,recs,x,h=>by
   simp only[o6] at h;obtain ⟨e,h1,h⟩:=Tr.bind_some h;obtain ⟨hd,hs⟩:=wA hC h1;unfold gI;rw[hd,← hs];have:=qO hC r _ _ _ _ _ _ h;rw[mQ,GW] at this;exact this

def aO:Code→List (Nat×Code)
 | .block id b=>(id,b)::aO b
 | .loop b=>aO b
 | .seq a b=>aO a++aO b
 | .cond _ a b=>aO a++aO b
 | .scope b=>aO b
 | _=>[]
def a7 (f:Func):Code:=match f.body with | some c=>c | none=>.skip
abbrev eD:=Ex×aG×aa
def eD.st (x:eD):Ex×aE×aa:=(x.1,strip x.2.1,x.2.2)
abbrev eE:=Nat→aG→aa→Option (Tr eD)
abbrev nJ:=Operand→aG→aa→Option (Tr eD)
def eE.Ok (bl:eE) (cx:Cx) (c:Code):Prop:=∀ id b,(id,b) ∈ aO c→∀ fr H t x,bl id fr H=some t→t.run=some x→exec cx (.block id b) (strip fr) H=some x.st
def dK:Code→List (Operand×Array Tmp×Code×Code)
 | .rangeFunc f ps a b=>[(f,ps,a,b)]
 | .loop b=>dK b
 | .block _ b=>dK b
 | .seq a b=>dK a++dK b
 | .cond _ a b=>dK a++dK b
 | .scope b=>dK b
 | _=>[]
def nJ.Ok (rg:nJ) (cx:Cx) (c:Code):Prop:=∀ f ps a b,(f,ps,a,b) ∈ dK c→∀ fr H t x,rg f fr H=some t→t.run=some x→exec cx (.rangeFunc f ps a b) (strip fr) H=some x.st
def c9 (bl:eE) (id0:Nat) (dZ:aE) (H0:aa) (u:Tr eD):eE:=fun id fr H=>cond (Nat.beq id id0) (some (.reqP (strip fr=dZ∧H=H0) u)) (bl id fr H)
theorem bf {bl:eE} {cx:Cx} {c:Code} (h:bl.Ok cx c) {id0:Nat} {dZ:aE} {H0:aa} {u:Tr eD} {B:Code} (hB:∀ b,(id0,b) ∈ aO c→b=B) (k:∀ x,u.run=some x→exec cx (.block id0 B) dZ H0=some x.st):(c9 bl id0 dZ H0 u).Ok cx c:=by
 intro id b hm fr H t y ht hy;unfold c9 at ht;cases hb:Nat.beq id id0 with
 | true =>
   have uW:=Nat.eq_of_beq_eq_true hb;subst uW;rw[hb,cond_true,Option.some.injEq] at ht;subst ht;obtain ⟨⟨h1,h2⟩,h3⟩:=Tr.gx hy;rw[h1,h2,hB b hm];exact k y h3
 | false =>
   rw[hb,cond_false] at ht;exact h id b hm fr H t y ht hy
def HN (rg:nJ) (tf:Operand→Bool) (dZ:aE) (H0:aa) (u:Tr eD):nJ:=fun f fr H=>cond (tf f) (some (.reqP (strip fr=dZ∧H=H0) u)) (rg f fr H)
theorem BC {rg:nJ} {cx:Cx} {c:Code} (h:rg.Ok cx c) {tf:Operand→Bool} {dZ:aE} {H0:aa} {u:Tr eD} (k:∀ f ps a b,tf f=true→(f,ps,a,b) ∈ dK c→∀ x,u.run=some x→exec cx (.rangeFunc f ps a b) dZ H0=some x.st):(HN rg tf dZ H0 u).Ok cx c:=by
 intro f ps a b hm fr H t y ht hy;unfold HN at ht;cases hb:tf f with
 | true =>
   rw[hb,cond_true,Option.some.injEq] at ht;subst ht;obtain ⟨⟨h1,h2⟩,h3⟩:=Tr.gx hy;rw[h1,h2];exact k f ps a b hb hm y h3
 | false =>
   rw[hb,cond_false] at ht;exact h f ps a b hm fr H t y ht hy
def aV:eE:=fun _ _ _=>none
def aR:nJ:=fun _ _ _=>none
theorem aj (cx:Cx) (c:Code):aV.Ok cx c:=fun _ _ _ _ _ _ _ h=>by cases h
theorem ak (cx:Cx) (c:Code):aR.Ok cx c:=fun _ _ _ _ _ _ _ _ _ h=>by cases h
def yI (g:AV→AV):aG→aG
 | []=>[]
 | (x,(v,h))::r=>(x,(nE g v,h))::yI g r
theorem yJ (g:AV→AV):∀ fr:aG,strip (yI g fr)=qy g (strip fr)
 | []=>rfl
 | (x,(v,h))::r=>by
   have e:yI g ((x,(v,h))::r)=(x,(nE g v,h))::yI g r:=rfl;rw[e,cO,cO,qy,yJ g r]
def lQ (n:Nat):Nat→aG→aa→aG×aa
 | 0,fr,H=>(fr,H)
 | k + 1,fr,H=>match H with
   | []=>(fr,[])
   | l::r=>cond (Nat.ble (kC l.bs) (Nat.succ n)) (fr,l::r) (match hole (strip fr) l.bs 4 n with
     | none=>(fr,l::r)
     | some h=>lQ n k (yI (ve (l.bs.length-1) h) fr) (mn n (qy (ve (l.bs.length-1) h) (strip fr)) (xM (l.bs.length-1) h l::r)))
theorem uz (n:Nat):∀ (k:Nat) (fr:aG) (H:aa),(strip (lQ n k fr H).1,(lQ n k fr H).2)=j8 n k (strip fr) H
 | 0,fr,H=>rfl
 | k+1,fr,[]=>rfl
 | k + 1,fr,l::r=>by
   cases hb:Nat.ble (kC l.bs) (Nat.succ n) with
   | true =>
     have:lQ n (k+1) fr (l::r)=(fr,l::r):=by
      unfold lQ;dsimp only;rw[hb];rfl
     rw[this,BT (by rw[eA] at hb;simpa using hb)]
   | false =>
     unfold lQ j8;dsimp only;rw[hb,cond_false];cases hole (strip fr) l.bs 4 n with
     | none=>rfl
     | some h =>
       dsimp only;rw[uz n k,yJ]
def DF (n:Nat) (fr:aG) (H:aa):aG×aa:=lQ n 4 fr (mn n (strip fr) H)
theorem Hr (n:Nat) (fr:aG) (H:aa):(strip (DF n fr H).1,(DF n fr H).2)=tidy n (strip fr) H:=uz n 4 fr _
def CJ (body:aG→aa→Tr eD) (n:Nat):Nat→aG→aa→Tr eD
 | 0,_,_=>.bad
 | k+1,fr,H=>(body fr H).bind fun x=>match x with
   | (.normal,fr,H)=>CJ body n k (DF n fr H).1 (DF n fr H).2
   | r=>.ok r
theorem vL {body:aE→aa→Option (Ex×aE×aa)} {n:Nat}:∀ (k m:Nat) (fr:aE) (H:aa) (x:Ex×aE×aa),iter body n k fr H=some x→k≤m→iter body n m fr H=some x
 | 0,m,fr,H,x,h,_=>by simp[iter] at h
 | k+1,0,fr,H,x,h,hk=>by omega
 | k + 1,m+1,fr,H,x,h,hk=>by
   unfold iter at h ⊢;cases hb:body fr H with
   | none=>rw[hb] at h;simp at h
   | some y =>
     rw[hb] at h;obtain ⟨e,f,g⟩:=y;cases e;case normal=>exact vL k m _ _ _ h wO
     all_goals exact h
theorem yu {body:aG→aa→Tr eD} {body':aE→aa→Option (Ex×aE×aa)} {n:Nat} (hb:∀ fr H x,(body fr H).run=some x→body' (strip fr) H=some x.st):∀ (k:Nat) (fr:aG) (H:aa) (x:eD),(CJ body n k fr H).run=some x→iter body' n k (strip fr) H=some x.st
 | 0,fr,H,x,h=>(Tr.ag h).elim
 | k+1,fr,H,x,h=>by
   simp only[CJ] at h;obtain ⟨y,h1,h⟩:=Tr.bind_some h;unfold iter;rw[hb _ _ _ h1];obtain ⟨e,f,g⟩:=y;cases e;case normal =>
    have e:=Hr n f g
    have h:=yu hb k _ _ _ h
    show iter body' n k (tidy n (strip f) g).1 (tidy n (strip f) g).2=_
    rw[← e];exact h
   all_goals
    have h:=Tr.ab h
    rw[← h];rfl
def oz (f:AV→Tr AV):List AV→Tr (List AV)
 | []=>.ok []
 | v::l=>(f v).bind fun u=>(oz f l).bind fun m=>.ok (u::m)
theorem eT {f:AV→Tr AV} {g:AV→AV} (hf:∀ v u,(f v).run=some u→g v=u):∀ (l m:List AV),(oz f l).run=some m→l.map g=m
 | [],m,h=>Tr.ab h
 | v::l,m,h=>by
   simp only[oz] at h;obtain ⟨u,h1,h⟩:=Tr.bind_some h;obtain ⟨n,h2,h⟩:=Tr.bind_some h;rw[← Tr.ab h,List.map_cons,hf _ _ h1,eT hf l n h2]
def mI (f:AV→Tr AV):List dh→Tr (List dh)
 | []=>.ok []
 | .one v::l=>(f v).bind fun u=>(mI f l).bind fun m=>.ok (.one u::m)
 | .arr k z n::l=>(mI f l).bind fun m=>.ok (.arr k z n::m)
theorem gZ {f:AV→Tr AV} {g:AV→AV} (hf:∀ v u,(f v).run=some u→g v=u):∀ (l m:List dh),(mI f l).run=some m→mapM' g l=m
 | [],m,h=>Tr.ab h
 | .one v::l,m,h=>by
   simp only[mI] at h;obtain ⟨u,h1,h⟩:=Tr.bind_some h;obtain ⟨n,h2,h⟩:=Tr.bind_some h;rw[← Tr.ab h,mapM',hf _ _ h1,gZ hf l n h2]
 | .arr k z n::l,m,h=>by
   simp only[mI] at h;obtain ⟨n,h2,h⟩:=Tr.bind_some h;rw[← Tr.ab h,mapM',gZ hf l n h2]
def qM (cap:Option Nat) (len:Nat):Bool :=
 match cap with
 | none=>false
 | some c=>aU c len
theorem kj (cap:Option Nat) (len:Nat):qM cap len=(cap == some len):=by
 cases cap with
 | none=>rfl
 | some c=>simp only[qM,fP];rw[Bool.eq_iff_iff];simp
def yo (i ver:Nat) (r:Row):AV→Tr AV
 | .ptr d j v off=>cond (Nat.beq d 0 && Nat.beq j i) (.req (aU v ver) (.ok (.ptrT none r off))) (.ok (.ptr d j v off))
 | .slc d j v off sz len cap=>cond (Nat.beq d 0 && Nat.beq j i) (.req (aU v ver) (match r with
    | .M [.arr k z N]=>.req (dX off (fK len sz) 0 N) (.ok (.slcT none (.M [.arr k (iO z off) (fK len sz)]) sz len (qM cap len)))
    | .I k l=>cond (uU (.I k l) off (Nat.mul len sz)) (.ok (.slcT none (.I k (lW (lT l off) (Nat.mul len sz))) sz len (qM cap len))) .bad
    | _=>.bad)) (.ok (.slc d j v off sz len cap))
 | v=>.ok v
theorem vu {d j i:Nat} {x:Bool} (h:(Nat.beq d 0 && Nat.beq j i)=true):(Nat.beq d 0 && (Nat.beq j i && x))=x:=by
 rw[Bool.and_eq_true] at h;rw[h.1,h.2];rfl
theorem vv {d j i:Nat} {x:Bool} (h:(Nat.beq d 0 && Nat.beq j i)=false):(Nat.beq d 0 && (Nat.beq j i && x))=false:=by
 rw[← Bool.and_assoc,h];rfl
theorem yp {i ver:Nat} {r:Row}:∀ v u,(yo i ver r v).run=some u→nD i ver r v=u:=by
 intro v u h;cases v with
 | ptr d j v off =>
   simp only[yo] at h;simp only[nD];cases hc:(Nat.beq d 0 && Nat.beq j i) with
   | false=>rw[hc,cond_false] at h;rw[vv hc,if_neg (by simp)];exact Tr.ab h
   | true =>
     rw[hc,cond_true] at h;obtain ⟨h1,h⟩:=Tr.aS h;rw[fP,decide_eq_true_eq] at h1;rw[vu hc,if_pos (by simpa using h1)];exact Tr.ab h
 | slc d j v off sz len cap =>
   simp only[yo] at h;simp only[nD];cases hc:(Nat.beq d 0 && Nat.beq j i) with
   | false=>rw[hc,cond_false] at h;rw[vv hc,if_neg (by simp)];exact Tr.ab h
   | true =>
     rw[hc,cond_true] at h;obtain ⟨h1,h2⟩:=Tr.aS h;clear h;rw[fP,decide_eq_true_eq] at h1;rw[vu hc];split at h2
     · obtain ⟨h3,h⟩:=Tr.aS h2;rw[j4,decide_eq_true_eq,cQ] at h3;rw[if_pos (by simp[h1,Row.len,aB,aQ];omega),← Tr.ab h,kj,cQ,mW];rfl
     · obtain ⟨h3,h⟩:=Tr.aY h2;rw[kZ,decide_eq_true_eq] at h3;rw[if_pos (by simp only[h1,Bool.and_eq_true];exact ⟨by simp,Nat.ble_eq_true_of_le h3⟩),← Tr.ab h,kj,ij,gS];rfl
     · exact (Tr.ag h2).elim
 | _=>exact Tr.ab h
def yK (f:AV→Tr AV) (v:AV):Tr AV :=
 match v with
 | .agg (.G l)=>(oz f l).bind fun m=>.ok (.agg (.G m))
 | .agg (.M l)=>(mI f l).bind fun m=>.ok (.agg (.M m))
 | .fn g a b=>(oz f a).bind fun a'=>(oz f b).bind fun b'=>.ok (.fn g a' b')
 | v=>f v
theorem tm {f:AV→Tr AV} {g:AV→AV} (hf:∀ v u,(f v).run=some u→g v=u):∀ v u,(yK f v).run=some u→nE g v=u:=by
 intro v u h;unfold yK at h;split at h
 · obtain ⟨m,h1,h⟩:=Tr.bind_some h;rw[← Tr.ab h,← eT hf _ _ h1];rfl
 · obtain ⟨m,h1,h⟩:=Tr.bind_some h;rw[← Tr.ab h,← gZ hf _ _ h1];rfl
 · obtain ⟨a',h1,h⟩:=Tr.bind_some h;obtain ⟨b',h2,h⟩:=Tr.bind_some h;rw[← Tr.ab h,← eT hf _ _ h1,← eT hf _ _ h2];rfl
 · rename_i n1 n2 n3;have:=hf _ _ h;rw[← this];unfold nE;split
   · exact absurd rfl (n1 _)
   · exact absurd rfl (n2 _)
   · exact absurd rfl (n3 _ _ _)
   · rfl
def Gr (f:AV→Tr AV):ao→Tr ao
 | .row r=>match r with
   | .G l=>(oz (yK f) l).bind fun m=>.ok (.row (.G m))
   | .M l=>(mI (yK f) l).bind fun m=>.ok (.row (.M m))
   | r=>.ok (.row r)
 | b=>.ok b
theorem Gs {f:AV→Tr AV} {g:AV→AV} (hf:∀ v u,(f v).run=some u→g v=u) (b u:ao) (h:(Gr f b).run=some u):qx g b=u:=by
 cases b with
 | row r =>
   simp only[Gr] at h;cases r with
   | G l =>
     obtain ⟨m,h1,h⟩:=Tr.bind_some h;rw[← Tr.ab h,← eT (tm hf) _ _ h1];rfl
   | M l =>
     obtain ⟨m,h1,h⟩:=Tr.bind_some h;rw[← Tr.ab h,← gZ (tm hf) _ _ h1];rfl
   | I k l=>rw[← Tr.ab h];rfl
   | F z n=>rw[← Tr.ab h];rfl
 | dead=>exact Tr.ab h
 | map es=>exact Tr.ab h
 | fmap kq f g c=>exact Tr.ab h
 | loop l=>exact Tr.ab h
def wZ (f:AV→Tr AV):List (Nat×ao)→Tr (List (Nat×ao))
 | []=>.ok []
 | (v,b)::r=>(Gr f b).bind fun b'=>(wZ f r).bind fun r'=>.ok ((v,b')::r')
theorem vP {f:AV→Tr AV} {g:AV→AV} (hf:∀ v u,(f v).run=some u→g v=u):∀ (l m:List (Nat×ao)),(wZ f l).run=some m→jH g l=m
 | [],m,h=>Tr.ab h
 | (v,b)::r,m,h=>by
   simp only[wZ] at h;obtain ⟨b',h1,h⟩:=Tr.bind_some h;obtain ⟨r',h2,h⟩:=Tr.bind_some h;rw[← Tr.ab h,jH,Gs hf _ _ h1,vP hf r r' h2]
def CT (f:AV→Tr AV):aG→Tr aG
 | []=>.ok []
 | (x,(v,h))::r=>(yK f v).bind fun v'=>(CT f r).bind fun r'=>.ok ((x,(v',h))::r')
theorem yH {f:AV→Tr AV} {g:AV→AV} (hf:∀ v u,(f v).run=some u→g v=u):∀ (l m:aG),(CT f l).run=some m→qy g (strip l)=strip m
 | [],m,h=>by rw[← Tr.ab h];rfl
 | (x,(v,hh))::r,m,h=>by
   simp only[CT] at h;obtain ⟨v',h1,h⟩:=Tr.bind_some h;obtain ⟨r',h2,h⟩:=Tr.bind_some h;rw[← Tr.ab h,cO,cO,qy,tm hf _ _ h1,yH hf r r' h2]
def sW (i:Nat) (fr:aG) (l:bK):Tr (aG×bK) :=
 match Bt l.bs i with
 | (ver,.row r)=>cond (wV r && (DO (fun x=>p7 (pR i) x.2) (strip fr) || DO (fun x=>ML (pR i) x.2) l.bs)) ((CT (yo i ver r) fr).bind fun fr'=>(wZ (yo i ver r) l.bs).bind fun bs'=>.ok (fr',{ l with bs:=bR bs' i (ver,.dead) })) (.ok (fr,l))
 | _=>.ok (fr,l)
theorem qj {i:Nat} {fr:aG} {l:bK} {y:aG×bK} (h:(sW i fr l).run=some y):mB i (strip fr) l=(strip y.1,y.2):=by
 unfold sW at h;unfold mB;rw[rZ] at h;split at h
 · rename_i ver r hb;rw[hb];dsimp only;rw[rD,rD] at h;cases hc:(wV r && ((strip fr).any (fun x=>p7 (pR i) x.2) || l.bs.any (fun x=>ML (pR i) x.2))) with
   | true =>
     rw[hc,cond_true] at h;obtain ⟨fr',h1,h⟩:=Tr.bind_some h;obtain ⟨bs',h2,h⟩:=Tr.bind_some h;rw[if_pos rfl,yH yp _ _ h1,vP yp _ _ h2,← Tr.ab h]
   | false =>
     rw[hc,cond_false] at h;rw[if_neg (by simp),← Tr.ab h]
 · rename_i hno;have h:=Tr.ab h;subst h;split
   · rename_i ver r hb;exact absurd hb (hno ver r)
   · rfl
def rO:Nat→aG→bK→Tr (aG×bK)
 | 0,fr,l=>.ok (fr,l)
 | n+1,fr,l=>(rO n fr l).bind fun y=>sW n y.1 y.2
theorem sU:∀ (n:Nat) (fr:aG) (l:bK) (y:aG×bK),(rO n fr l).run=some y→jg n (strip fr) l=(strip y.1,y.2)
 | 0,fr,l,y,h=>by rw[← Tr.ab h];rfl
 | n+1,fr,l,y,h=>by
   simp only[rO] at h;obtain ⟨z,h1,h⟩:=Tr.bind_some h;have h1:=sU n fr l z h1;simp only[jg];rw[h1];exact qj h
def pw:Nat→aG→bK→Tr (aG×bK)
 | 0,fr,l=>.ok (fr,l)
 | n+1,fr,l=>(pw n fr l).bind fun y=>cond (DO (fun x=>p7 (pR n) x.2) (strip y.1)) (.ok y) (sW n y.1 y.2)
theorem qV:∀ (n:Nat) (fr:aG) (l:bK) (y:aG×bK),(pw n fr l).run=some y→ey n (strip fr) l=(strip y.1,y.2)
 | 0,fr,l,y,h=>by rw[← Tr.ab h];rfl
 | n + 1,fr,l,y,h=>by
   simp only[pw] at h;obtain ⟨z,h1,h⟩:=Tr.bind_some h;have h1:=qV n fr l z h1;simp only[ey];rw[h1];dsimp only;rw[rD] at h;cases hc:(strip z.1).any (fun x=>p7 (pR n) x.2) with
   | true =>
     rw[hc,cond_true] at h;rw[if_pos rfl,Tr.ab h]
   | false =>
     rw[hc,cond_false] at h;rw[if_neg (by simp)];exact qj h
def CN (s:Nat):aG→Option Nat
 | []=>none
 | (x,(v,_))::r=>cond (Nat.beq x s) (match v with
   | .slc 0 i _ _ _ _ _=>some i
   | _=>none) (CN s r)
theorem yy (s:Nat):∀ fr:aG,CN s fr=CM s (strip fr)
 | []=>rfl
 | (x,(v,h))::r=>by
   rw[cO];simp only[CN,CM,yy s r];cases Nat.beq x s<;>rfl
def wU (s:Nat) (fr:aG) (H:aa):Tr (aG×aa) :=
 match H with
 | []=>.ok (fr,[])
 | l::r=>cond l.lock (.ok (fr,l::r)) (match CN s fr with
   | some i=>(sW i fr l).bind fun y=>.ok (y.1,y.2::r)
   | none=>.ok (fr,l::r))
theorem Bc {s:Nat} {fr:aG} {H:aa} {y:aG×aa} (h:(wU s fr H).run=some y):wT s (strip fr) H=(strip y.1,y.2):=by
 unfold wU at h;unfold wT;cases H with
 | nil=>rw[← Tr.ab h]
 | cons l r =>
   dsimp only at h ⊢;cases hl:l.lock with
   | true =>
     rw[hl,cond_true] at h;rw[if_pos rfl,← Tr.ab h]
   | false =>
     rw[hl,cond_false,yy] at h;rw[if_neg (by simp)];split at h
     · rename_i i hi;obtain ⟨z,h1,h⟩:=Tr.bind_some h;have h1:=qj h1;rw[hi];dsimp only;rw[h1,← Tr.ab h]
     · rename_i hi;rw[hi,← Tr.ab h]
def rP (m:Nat) (fr:aG) (H:aa):Tr (aG×aa) :=
 cond (iH m 4000) (match H with
  | []=>.ok (gp fr m,[])
  | l::r=>cond l.lock (.ok (gp fr m,l::r)) ((rO (kC l.bs) (gp fr m) l).bind fun y=>.ok (y.1,cond (Nat.beq (Nat.shiftRight m 4003) 0) (y.2::r) (vg (Nat.shiftRight m 4003) (y.2::r))))) (cond (iH m 4001) (wU (Nat.shiftRight m 4003) (gp fr m) H) (cond (iH m 4002) (uy (gp fr m) (Nat.shiftRight m 4003) (fun fr=>.ok (fr,H)) (fun fr=>match H with
  | []=>.ok (fr,[])
  | l::r=>cond l.lock (.ok (fr,l::r)) ((pw (kC l.bs) fr l).bind fun y=>.ok (y.1,y.2::r)))) (.ok (gp fr m,H))))
theorem sX {m:Nat} {fr:aG} {H:aa} {y:aG×aa} (h:(rP m fr H).run=some y):jh m (strip fr) H=(strip y.1,y.2):=by
 unfold rP at h;unfold jh;cases hm:iH m 4000 with
 | false =>
   rw[hm,cond_false] at h;rw[if_neg (by simp)];cases hm2:iH m 4001 with
   | false =>
     rw[hm2,cond_false] at h;rw[if_neg (by simp)];cases hm3:iH m 4002 with
     | false =>
       rw[hm3,cond_false] at h;rw[if_neg (by simp),← Tr.ab h,eR]
     | true =>
       rw[hm3,cond_true] at h;rw[if_pos rfl];obtain ⟨b,fr',h1,h2,h3⟩:=jv h;rw[eR] at h1 h2;rw[h1];cases b with
       | true =>
         simp only[if_true] at h3;rw[← Tr.ab h3,h2]
       | false =>
         simp only[Bool.false_eq_true,if_false] at h3;cases H with
         | nil =>
           dsimp only at h3;rw[← Tr.ab h3,← h2];rfl
         | cons l r =>
           dsimp only at h3;show uX (bT (strip fr) m) (l::r)=_;rw[← h2];unfold uX;dsimp only;cases hl:l.lock with
           | true =>
             rw[hl,cond_true] at h3;rw[if_pos rfl,← Tr.ab h3]
           | false =>
             rw[hl,cond_false] at h3;obtain ⟨z,h4,h5⟩:=Tr.bind_some h3;have h4:=qV _ _ _ _ h4;rw[eA] at h4;rw[if_neg (by simp),h4,← Tr.ab h5]
   | true =>
     rw[hm2,cond_true] at h;rw[if_pos rfl];have h1:=Bc h;rw[eR] at h1;exact h1
 | true =>
   rw[hm,cond_true] at h;rw[if_pos rfl];cases H with
   | nil =>
     rw[← Tr.ab h,eR];simp only[Eb,vg,ite_self]
   | cons l r =>
     dsimp only at h;unfold Eb;dsimp only;cases hl:l.lock with
     | true =>
       rw[hl,cond_true] at h;simp only[if_true];rw[← Tr.ab h,eR];simp only[vg,hl,if_true,ite_self]
     | false =>
       rw[hl,cond_false] at h;obtain ⟨z,h1,h⟩:=Tr.bind_some h;have h1:=sU _ _ _ _ h1;rw[eA,eR] at h1;simp only[Bool.false_eq_true,if_false,h1];rw[← Tr.ab h];cases Nat.beq (Nat.shiftRight m 4003) 0<;>rfl
def I4:aG→aG
 | []=>[]
 | (x,(v,h))::r=>(x,(vS v,h))::I4 r
theorem tE:∀ fr:aG,strip (I4 fr)=Em (strip fr)
 | []=>rfl
 | (x,(v,h))::r=>by
   simp only[I4,cO,Em,tD,tE r]
def rQ (m:Nat) (fr:aG) (H:aa):Tr (aG×aa) :=
 cond (iH m 3998) ((rP m fr H).bind fun y=>uy y.1 (Nat.shiftRight m 4003) (fun fr=>.ok (fr,y.2)) (fun fr=>.ok (fr,vg (Nat.shiftRight m 3985 % 4096) y.2))) (rP m fr H)
theorem sY {m:Nat} {fr:aG} {H:aa} {y:aG×aa} (h:(rQ m fr H).run=some y):ll m (strip fr) H=(strip y.1,y.2):=by
 unfold rQ at h;unfold ll;cases hm:iH m 3998 with
 | false =>
   rw[hm,cond_false] at h;rw[if_neg (by simp)];exact sX h
 | true =>
   rw[hm,cond_true] at h;rw[if_pos rfl];obtain ⟨z,h1,h⟩:=Tr.bind_some h;have h1:=sX h1;obtain ⟨b,fr',h2,h3,h4⟩:=jv h;rw[h1];dsimp only;rw[h2];cases b with
   | true =>
     simp only[if_true] at h4;rw[← Tr.ab h4,h3]
   | false =>
     simp only[Bool.false_eq_true,if_false] at h4;rw[← Tr.ab h4,h3]
def CY (s sz:Nat):aG→aG
 | []=>[]
 | (x,(v,h))::r=>(x,(cond (Nat.beq x s) (I1 sz v) v,h))::CY s sz r
theorem ra (s sz:Nat):∀ fr:aG,strip (CY s sz fr)=Ek s sz (strip fr)
 | []=>rfl
 | (x,(v,h))::r=>by
   simp only[CY,cO,Ek,ra s sz r]
def rR (m:Nat) (fr:aG) (H:aa):Tr (aG×aa) :=
 cond (iH m 3997) ((rQ m fr H).bind fun y=>.ok (CY (Nat.shiftRight m 3985 % 4096 / 8) (Nat.shiftRight m 3985 % 8) y.1,y.2)) (rQ m fr H)
theorem sZ {m:Nat} {fr:aG} {H:aa} {y:aG×aa} (h:(rR m fr H).run=some y):ln m (strip fr) H=(strip y.1,y.2):=by
 unfold rR at h;unfold ln;cases hm:iH m 3997 with
 | false =>
   rw[hm,cond_false] at h;rw[if_neg (by simp)];exact sY h
 | true =>
   rw[hm,cond_true] at h;rw[if_pos rfl];obtain ⟨z,h1,h⟩:=Tr.bind_some h;have h1:=sY h1;rw[h1,← Tr.ab h,ra]
def Bb (m:Nat) (fr:aG) (H:aa):Tr (aG×aa) :=
 cond (iH m 3999) ((rR m fr H).bind fun y=>.ok (I4 y.1,y.2)) (rR m fr H)
theorem Ec {m:Nat} {fr:aG} {H:aa} {y:aG×aa} (h:(Bb m fr H).run=some y):px m (strip fr) H=(strip y.1,y.2):=by
 unfold Bb at h;unfold px;cases hm:iH m 3999 with
 | false =>
   rw[hm,cond_false] at h;rw[if_neg (by simp)];exact sZ h
 | true =>
   rw[hm,cond_true] at h;rw[if_pos rfl];obtain ⟨z,h1,h⟩:=Tr.bind_some h;have h1:=sZ h1;rw[h1,← Tr.ab h,tE]
def aJ (cx:Cx) (callR:bp) (bl:eE) (rg:nJ):Code→aG→aa→Tr eD
 | .skip,fr,H=>.ok (.normal,fr,H)
 | .label _,fr,H=>.ok (.normal,fr,H)
 | .exit id,fr,H=>.ok (.exit id,fr,H)
 | .goto l,fr,H=>.ok (.goto l,fr,H)
 | .ret,fr,H=>.ok (.ret,fr,H)
 | .region id ops draw,fr,H =>
   (cond draw (cond (ga ops (Region.before ops)) (o6 cx.P cx.nt cx.call callR ops (Region.before ops) ops.toList 0 fr (oj H (c6 ops.toList)) (wS H) []) .bad) (iL cx.P cx.nt cx.call callR ops ops.toList fr H)).bind fun x=>(Bb (cx.kt id) x.1 x.2).bind fun y=>.ok (.normal,y.1,y.2)
 | .seq a b,fr,H=>(aJ cx callR bl rg a fr H).bind fun x=>match x with
   | (.normal,fr,H)=>aJ cx callR bl rg b fr H
   | r=>.ok r
 | .cond c a b,fr,H=>match c with
   | .tmp d=>uy fr d (fun fr=>aJ cx callR bl rg a fr H) (fun fr=>aJ cx callR bl rg b fr H)
   | c=>match (cA fr c).1 with
     | .bool t=>cond t (aJ cx callR bl rg a fr H) (aJ cx callR bl rg b fr H)
     | _=>.bad
 | .block id b,fr,H=>match bl id fr H with
   | some t=>t
   | none=>(aJ cx callR bl rg b fr H).bind fun x=>match x with
     | (.exit id',fr,H)=>cond (Nat.beq id' id) (.ok (.normal,fr,H)) (.ok (.exit id',fr,H))
     | r=>.ok r
 | .scope b,fr,H=>(aJ cx callR bl rg b fr H).bind fun x=>match x with
   | (.goto _,_,_)=>.bad
   | r=>.ok r
 | .rangeFunc f _ _ _,fr,H=>match rg f fr H with
   | some t=>t
   | none=>.bad
 | .loop b,fr,H=>cond (Nat.ble 12 cx.fu) (CJ (aJ cx callR bl rg b) (wS H) 12 fr H) .bad
 | .refuse _,_,_=>.bad

theorem fe {cx:Cx} {callR:bp} {bl:eE} {rg:nJ} (hC:callR.Ok cx.call):∀ (c:Code),bl.Ok cx c→rg.Ok cx c→∀ (fr:aG) (H:aa) (x:eD),(aJ cx callR bl rg c fr H).run=some x→exec cx c (strip fr) H=some x.st:=by
 intro c;induction c with
 | skip=>intro _ _ fr H x h;rw[← Tr.ab h];rfl
 | label=>intro _ _ fr H x h;rw[← Tr.ab h];rfl
 | exit=>intro _ _ fr H x h;rw[← Tr.ab h];rfl
 | goto=>intro _ _ fr H x h;rw[← Tr.ab h];rfl
 | ret=>intro _ _ fr H x h;rw[← Tr.ab h];rfl
 | refuse=>intro _ _ fr H x h;exact (Tr.ag h).elim
 | loop b ih =>
   intro hb hr fr H x h;simp only[aJ] at h;obtain ⟨hk,h⟩:=Tr.aY h;rw[Nat.ble_eq] at hk;unfold exec;rw[qh] at h;exact vL _ _ _ _ _ (yu (fun fr H x h=>ih hb hr fr H x h) 12 fr H x h) hk
 | rangeFunc f ps a b =>
   intro _ hr fr H x h;simp only[aJ] at h;split at h
   · rename_i t ht;exact hr f ps a b (by simp[dK]) fr H t x ht h
   · exact (Tr.ag h).elim
 | region id ops draw =>
   intro _ _ fr H x h;simp only[aJ] at h;obtain ⟨y,h1,h⟩:=Tr.bind_some h;obtain ⟨z,h2,h⟩:=Tr.bind_some h;have h2:=Ec h2;rw[← Tr.ab h];unfold exec;cases draw with
   | true =>
     rw[cond_true] at h1;obtain ⟨hs,h1⟩:=Tr.aY h1;rw[qh] at h1;simp only[if_true,hs];rw[qO hC _ _ _ _ _ _ _ h1];dsimp only;rw[h2];rfl
   | false =>
     rw[cond_false] at h1;simp only[Bool.false_eq_true,if_false];rw[fx hC _ _ _ _ h1];dsimp only;rw[h2];rfl
 | seq a b iha ihb =>
   intro hb hr fr H x h;have hba:bl.Ok cx a:=fun id b' hm=>hb id b' (List.mem_append_left _ hm);have hbb:bl.Ok cx b:=fun id b' hm=>hb id b' (List.mem_append_right _ hm);have hra:rg.Ok cx a:=fun f ps u v hm=>hr f ps u v (List.mem_append_left _ hm);have hrb:rg.Ok cx b:=fun f ps u v hm=>hr f ps u v (List.mem_append_right _ hm);simp only[aJ] at h;obtain ⟨y,h1,h⟩:=Tr.bind_some h;have h1:=iha hba hra _ _ _ h1;unfold exec;rw[h1];obtain ⟨e,fr1,H1⟩:=y;cases e;case normal=>exact ihb hbb hrb _ _ _ h
   all_goals
    have h:=Tr.ab h
    rw[← h];rfl
 | cond c a b iha ihb =>
   intro hb hr fr H x h;have hba:bl.Ok cx a:=fun id b' hm=>hb id b' (List.mem_append_left _ hm);have hbb:bl.Ok cx b:=fun id b' hm=>hb id b' (List.mem_append_right _ hm);have hra:rg.Ok cx a:=fun f ps u v hm=>hr f ps u v (List.mem_append_left _ hm);have hrb:rg.Ok cx b:=fun f ps u v hm=>hr f ps u v (List.mem_append_right _ hm);simp only[aJ] at h;unfold exec;split at h
   · rename_i d;obtain ⟨b',fr',h1,h2,h3⟩:=jv h;have e:b9 (strip fr) (.tmp d)=.bool b':=h1;rw[e,← h2];cases b' with
     | true=>exact iha hba hra _ _ _ h3
     | false=>exact ihb hbb hrb _ _ _ h3
   · rename_i c' hne;rw[a8] at h;split at h
     · rename_i t hc;rw[hc];cases t with
       | true=>exact iha hba hra _ _ _ h
       | false=>exact ihb hbb hrb _ _ _ h
     · exact (Tr.ag h).elim
 | block id b ih =>
   intro hb hr fr H x h;have hbb:bl.Ok cx b:=fun id' b' hm=>hb id' b' (by simp only[aO];exact List.mem_cons_of_mem _ hm);simp only[aJ] at h;split at h
   · rename_i t ht;exact hb id b (by simp[aO]) _ _ _ _ ht h
   · obtain ⟨y,h1,h⟩:=Tr.bind_some h;have h1:=ih hbb hr _ _ _ h1;unfold exec;rw[h1];obtain ⟨e,fr1,H1⟩:=y;cases e;case exit id' =>
      dsimp only[eD.st] at h ⊢
      rw[Ij] at h
      split at h
      · rename_i uW
        rw[if_pos uW,← Tr.ab h]
      · rename_i uW
        rw[if_neg uW,← Tr.ab h]
     all_goals
      have h:=Tr.ab h
      rw[← h];rfl
 | scope b ih =>
   intro hb hr fr H x h;simp only[aJ] at h;obtain ⟨y,h1,h⟩:=Tr.bind_some h;have h1:=ih hb hr _ _ _ h1;unfold exec;rw[h1];obtain ⟨e,fr1,H1⟩:=y;cases e;case goto=>exact (Tr.ag h).elim
   all_goals
    have h:=Tr.ab h
    rw[← h];rfl

end
end Go.Eng
end
section
namespace Go.Eng
noncomputable section

def nC   (bs:List (Nat×ao)):Nat→AV→Tr AV
 | 0,_=>.ok .undef
 | n + 1,v=>match v with
   | .ptr d i ver off=>match d with
     | d+1=>.ok (.ptr d i ver off)
     | 0 => match Bt bs i with
       | (w,.row r)=>cond (Nat.beq w ver) (match r with
         | .I k l=>.ok (.ptrT none (.I k l) off)
         | .F f m=>.ok (.ptrT none (.F f m) off)
         | .M l=>cond (fO l) (.ok (.ptrT none (.M l) off)) ((mI (nC bs n) l).bind fun m=>.ok (.ptrT (some 0) (.M m) off))
         | .G l=>(oz (nC bs n) l).bind fun m=>.ok (.ptrT (some 0) (.G m) off)) .bad
       | _=>.bad
   | .slc d i ver off sz len cap=>match d with
     | d+1=>.ok (.slc d i ver off sz len cap)
     | 0 => match Bt bs i with
       | (w,.row r)=>.req (aU w ver) (match r with
         | .M [.arr k z N]=>.req (dX off (fK len sz) 0 N) (.ok (.slcT none (.M [.arr k (iO z off) (fK len sz)]) sz len (qM cap len)))
         | .I k l=>cond (uU (.I k l) off (Nat.mul len sz)) (.ok (.slcT none (.I k (lW (lT l off) (Nat.mul len sz))) sz len (qM cap len))) .bad
         | .F f N=>.req (dX off (fK len sz) 0 N) (.ok (.slcT none (.F (fun j=>f (ah off j)) (fK len sz)) sz len (qM cap len)))
         | .G l=>cond (uU (.G l) off (Nat.mul len sz)) ((oz (nC bs n) (lW (lT l off) (Nat.mul len sz))).bind fun m=>.ok (.slcT (some 0) (.G m) sz len (qM cap len))) .bad
         | _=>.bad)
       | _=>.bad
   | .ptrT s r off=>match s with
     | none=>.ok (.ptrT none r off)
     | some (s+1)=>.ok (.ptrT (some s) r off)
     | some 0=>match r with
       | .G l=>(oz (nC bs n) l).bind fun m=>.ok (.ptrT (some 0) (.G m) off)
       | .M l=>cond (fO l) (.ok (.ptrT none (.M l) off)) ((mI (nC bs n) l).bind fun m=>.ok (.ptrT (some 0) (.M m) off))
       | r=>.ok (.ptrT none r off)
   | .slcT s r sz len full=>match s with
     | none=>.ok (.slcT none r sz len full)
     | some (s+1)=>.ok (.slcT (some s) r sz len full)
     | some 0=>match r with
       | .G l=>(oz (nC bs n) l).bind fun m=>.ok (.slcT (some 0) (.G m) sz len full)
       | .M l=>cond (fO l) (.ok (.slcT none (.M l) sz len full)) ((mI (nC bs n) l).bind fun m=>.ok (.slcT (some 0) (.M m) sz len full))
       | r=>.ok (.slcT none r sz len full)
   | .map d i=>match d with
     | d+1=>.ok (.map d i)
     | 0=>.ok .undef
   | .yld d i=>match d with
     | d+1=>.ok (.yld d i)
     | 0=>.ok .undef
   | .fn f a b=>(oz (nC bs n) a).bind fun a'=>(oz (nC bs n) b).bind fun b'=>.ok (.fn f a' b')
   | .agg r=>match r with
     | .G l=>(oz (nC bs n) l).bind fun m=>.ok (.agg (.G m))
     | .M l=>(mI (nC bs n) l).bind fun m=>.ok (.agg (.M m))
     | r=>.ok (.agg r)
   | .tup l=>(oz (nC bs n) l).bind fun m=>.ok (.tup m)
   | v=>.ok v
theorem Cy (bs:List (Nat×ao)):∀ (n:Nat) (v u:AV),(nC bs n v).run=some u→dE bs n v=u
 | 0,v,u,h=>Tr.ab h
 | n + 1,v,  u,h=>by
   have ih:=Cy bs n;simp only[nC,rZ] at h;cases v with
   | ptr d i ver off =>
     cases d with
     | succ d=>exact Tr.ab h
     | zero =>
       dsimp only at h;simp only[dE];split at h
       · rename_i w r hg;obtain ⟨hw,h⟩:=Tr.aY h;rw[hg];dsimp only;rw[if_pos hw];cases r with
         | I k l=>exact Tr.ab h
         | F f m=>exact Tr.ab h
         | G l =>
           obtain ⟨m,h1,h⟩:=Tr.bind_some h;rw[← Tr.ab h,← eT ih _ _ h1]
         | M l =>
           dsimp only at h ⊢;cases ha:fO l with
           | true=>rw[ha,cond_true] at h;rw[if_pos rfl];exact Tr.ab h
           | false =>
             rw[ha,cond_false] at h;obtain ⟨m,h1,h⟩:=Tr.bind_some h;rw[if_neg (by simp),← Tr.ab h,← gZ ih _ _ h1]
       · exact (Tr.ag h).elim
   | slc d i ver off sz len cap =>
     cases d with
     | succ d=>exact Tr.ab h
     | zero =>
       dsimp only at h;simp only[dE];split at h
       · rename_i w r hg;obtain ⟨hw,h'⟩:=Tr.aS h;clear h;rw[fP,decide_eq_true_eq] at hw;subst hw;rw[hg];dsimp only;split at h'
         · rename_i k z N;have h:=h';obtain ⟨hc,h⟩:=Tr.aS h;rw[j4,decide_eq_true_eq,cQ] at hc;rw[if_pos ⟨by simp,by simp only[Row.len,aB,aQ];omega⟩,← Tr.ab h,kj,cQ,mW];simp only[Row.sub,fO,if_true]
         · have h:=h';obtain ⟨hc,h⟩:=Tr.aY h;rw[kZ,decide_eq_true_eq] at hc;rw[if_pos ⟨by simp,hc⟩,← Tr.ab h,kj,ij,gS];rfl
         · have h:=h';obtain ⟨hc,h⟩:=Tr.aS h;rw[j4,decide_eq_true_eq,cQ] at hc;rw[if_pos ⟨by simp,by simp only[Row.len];omega⟩,← Tr.ab h,kj,cQ];simp only[Row.sub,aF]
         · have h:=h';obtain ⟨hc,h⟩:=Tr.aY h;rw[kZ,decide_eq_true_eq] at hc;obtain ⟨m,h1,h⟩:=Tr.bind_some h;rw[ij,gS] at h1;rw[if_pos ⟨by simp,hc⟩,← Tr.ab h,kj,← eT ih _ _ h1];rfl
         · exact (Tr.ag h').elim
       · exact (Tr.ag h).elim
   | ptrT s r off =>
     cases s with
     | none=>exact Tr.ab h
     | some s =>
       cases s with
       | succ s=>exact Tr.ab h
       | zero =>
         simp only[dE];cases r with
         | I k l=>exact Tr.ab h
         | F f m=>exact Tr.ab h
         | G l =>
           obtain ⟨m,h1,h⟩:=Tr.bind_some h;rw[← Tr.ab h,← eT ih _ _ h1]
         | M l =>
           dsimp only at h ⊢;cases ha:fO l with
           | true=>rw[ha,cond_true] at h;rw[if_pos rfl];exact Tr.ab h
           | false =>
             rw[ha,cond_false] at h;obtain ⟨m,h1,h⟩:=Tr.bind_some h;rw[if_neg (by simp),← Tr.ab h,← gZ ih _ _ h1]
   | slcT s r sz len full =>
     cases s with
     | none=>exact Tr.ab h
     | some s =>
       cases s with
       | succ s=>exact Tr.ab h
       | zero =>
         simp only[dE];cases r with
         | I k l=>exact Tr.ab h
         | F f m=>exact Tr.ab h
         | G l =>
           obtain ⟨m,h1,h⟩:=Tr.bind_some h;rw[← Tr.ab h,← eT ih _ _ h1]
         | M l =>
           dsimp only at h ⊢;cases ha:fO l with
           | true=>rw[ha,cond_true] at h;rw[if_pos rfl];exact Tr.ab h
           | false =>
             rw[ha,cond_false] at h;obtain ⟨m,h1,h⟩:=Tr.bind_some h;rw[if_neg (by simp),← Tr.ab h,← gZ ih _ _ h1]
   | map d i=>cases d<;>exact Tr.ab h
   | yld d i=>cases d<;>exact Tr.ab h
   | fn f a b =>
     obtain ⟨a',h1,h⟩:=Tr.bind_some h;obtain ⟨b',h2,h⟩:=Tr.bind_some h;simp only[dE];rw[← Tr.ab h,← eT ih _ _ h1,← eT ih _ _ h2]
   | agg r =>
     simp only[dE];cases r with
     | I k l=>exact Tr.ab h
     | F f m=>exact Tr.ab h
     | G l =>
       obtain ⟨m,h1,h⟩:=Tr.bind_some h;rw[← Tr.ab h,← eT ih _ _ h1]
     | M l =>
       obtain ⟨m,h1,h⟩:=Tr.bind_some h;rw[← Tr.ab h,← gZ ih _ _ h1]
   | tup l =>
     obtain ⟨m,h1,h⟩:=Tr.bind_some h;simp only[dE];rw[← Tr.ab h,← eT ih _ _ h1]
   | _=>exact Tr.ab h

def H4 (l:List HV):Nat→aG:=List.rec (motive:=fun _=>Nat→aG) (fun _=>[]) (fun v _ ih x=>(x,(mX 1 v.1,v.2))::ih (Nat.succ x)) l
theorem wo:∀ (l:List HV) (x:Nat),strip (H4 l x)=eh x (jW l)
 | [],x=>rfl
 | v::l,x=>by
   have e:H4 (v::l) x=(x,(mX 1 v.1,v.2))::H4 l (x+1):=rfl;rw[e,cO,wo l];rfl
def hints (f:aE):aG:=List.rec (motive:=fun _=>aG) [] (fun p _ ih=>(p.1,(p.2,none))::ih) f
theorem aP:∀ f:aE,strip (hints f)=f
 | []=>rfl
 | (x,v)::r=>by
   have e:hints ((x,v)::r)=(x,(v,none))::hints r:=rfl;rw[e,cO,aP r]
def BB (P:Program) (fr:aG) (H:aa):List ResultVar→Tr (List AV)
 | []=>.ok []
 | .tmp t::r=>(BB P fr H r).bind fun l=>.ok ((lU fr t).1::l)
 | .cell a t::r=>(loadT P H t (cA fr (.tmp a))).bind fun v=>(BB P fr H r).bind fun l=>.ok (v::l)
theorem xn {P:Program} {fr:aG} {H:aa}:∀ (l:List ResultVar) (vs:List AV),(BB P fr H l).run=some vs→gy P (strip fr) H l=some vs
 | [],vs,h=>by rw[← Tr.ab h];rfl
 | .tmp t::r,vs,h=>by
   simp only[BB] at h;obtain ⟨l,h1,h⟩:=Tr.bind_some h;simp only[gy];rw[xn r l h1,← Tr.ab h,ff];rfl
 | .cell a t::r,vs,h=>by
   simp only[BB] at h;obtain ⟨v,h0,h⟩:=Tr.bind_some h;obtain ⟨l,h1,h⟩:=Tr.bind_some h;have h0:=yB h0;rw[a8] at h0;simp only[gy];have e:b9 (strip fr) (.tmp a)=bM (strip fr) a:=rfl;rw[e] at h0;rw[h0];dsimp only;rw[xn r l h1,← Tr.ab h];rfl
def Kb (fr:aG) (rs:List ResultVar):Option Nat :=
 match rs with
 | [.tmp t]=>(lU fr t).2
 | _=>none
def MC (P:Program) (rs:List ResultVar) (x:eD):Tr (HV×aa) :=
 match x with
 | (e,fr,l::H)=>match e with
   | .normal | .ret=>(BB P fr (l::H) rs).bind fun vs=>(nC l.bs 5 (one vs)).bind fun v=>.ok ((v,Kb fr rs),H)
   | _=>.bad
 | _=>.bad
theorem De {P:Program} {rs:List ResultVar} {x:eD} {y:HV×aa} (h:(MC P rs x).run=some y):∃ l vs,x.2.2=l::y.2∧(x.1=.normal∨x.1=.ret)∧gy P (strip x.2.1) x.2.2 rs=some vs∧dE l.bs 5 (one vs)=y.1.1:=by
 unfold MC at h;split at h
 · rename_i e fr l H;have key:((BB P fr (l::H) rs).bind fun vs=>(nC l.bs 5 (one vs)).bind fun v=>Tr.ok (((v,Kb fr rs),H):HV×aa)).run=some y→∃ vs,l::H=l::y.2∧gy P (strip fr) (l::H) rs=some vs∧dE l.bs 5 (one vs)=y.1.1:=by
    intro h;obtain ⟨vs,h1,h⟩:=Tr.bind_some h;obtain ⟨v,h2,h⟩:=Tr.bind_some h;have h:=Tr.ab h;refine ⟨vs,by rw[← h],xn _ _ h1,?_⟩;rw[Cy _ _ _ _ h2,← h]
   split at h
   · obtain ⟨vs,h1,h2,h3⟩:=key h;exact ⟨l,vs,h1,.inl rfl,h2,h3⟩
   · obtain ⟨vs,h1,h2,h3⟩:=key h;exact ⟨l,vs,h1,.inr rfl,h2,h3⟩
   · exact (Tr.ag h).elim
 · exact (Tr.ag h).elim
def bz (P:Program) (call:aL) (fu:Nat) (f:FuncId) (fn:Func) (kt:Nat→Nat) (callR:bp) (bl:eE) (rg:nJ) (args:List HV) (H:aa):Tr (HV×aa) :=
 (aJ ⟨P,call,fu,f,fn.ntmps,kt,none⟩ callR bl rg (a7 fn) (H4 args 0) (⟨false,[]⟩::H)).bind fun x=>MC P fn.results.toList x
theorem oY {P:Program} {ora:aL→FuncId→List AV→aa→Option (AV×aa)} {KT:FuncId→Nat→Nat} {fu n:Nat} {f:FuncId} {fn:Func} (hf:P.funcs[f]?=some fn) (hb:fn.body.isSome=true) {args:List HV} {H:aa} (ho:ora (df P ora KT fu n) f (jW args) H=none) (hle:Nat.ble args.length fn.ntmps=true)
 {callR:bp} (hC:callR.Ok (df P ora KT fu n)) {bl:eE} (hB:bl.Ok ⟨P,df P ora KT fu n,fu,f,fn.ntmps,KT f,none⟩ (a7 fn)) {rg:nJ} (hR:rg.Ok ⟨P,df P ora KT fu n,fu,f,fn.ntmps,KT f,none⟩ (a7 fn)) {y:HV×aa}
 (h:(bz P (df P ora KT fu n) fu f fn (KT f) callR bl rg args H).run=some y):df P ora KT fu (n+1) (.fn f) (jW args) H=some (y.1.1,y.2):=by
 unfold bz at h
 obtain ⟨x,h1,h⟩:=Tr.bind_some h
 have h1:=fe hC _ hB hR _ _ _ h1
 rw[wo] at h1
 obtain ⟨l,vs,k1,k2,k3,k4⟩:=De h
 obtain ⟨c,hc⟩:=Option.isSome_iff_exists.1 hb
 have hbody:a7 fn=c:=by unfold a7;rw[hc]
 rw[hbody] at h1
 obtain ⟨e,fr,H1⟩:=x
 dsimp only[eD.st] at h1 k1 k2 k3
 rw[k1] at h1 k3
 have hl:(jW args).length=args.length:=by unfold jW;rw[jI,List.length_map]
 simp only[df,ho,hf,hc,hl,hle,if_true,h1]
 rcases k2 with rfl | rfl<;>simp only[k3]<;>rw[k4]

theorem ik {cx:Cx} {id:Nat} {b:Code} {fr fr1:aE} {H H1:aa} (h:iter (exec cx b) (aX H) cx.fu fr H=some (.exit id,fr1,H1)):exec cx (.block id (.loop b)) fr H=some (.normal,fr1,H1):=by
 unfold exec;have:exec cx (.loop b) fr H=some (.exit id,fr1,H1):=by unfold exec;exact h
 rw[this];dsimp only;rw[if_pos (by simp)]
theorem dp {cx:Cx} {id:Nat} {b:Code} {fr fr1:aE} {H H1:aa} {e:Ex} (he:∀ id',e=.exit id'→Nat.beq id' id=false) (h:iter (exec cx b) (aX H) cx.fu fr H=some (e,fr1,H1)):exec cx (.block id (.loop b)) fr H=some (e,fr1,H1):=by
 unfold exec;have:exec cx (.loop b) fr H=some (e,fr1,H1):=by unfold exec;exact h
 rw[this];cases e with
 | exit id'=>dsimp only;rw[if_neg (by rw[he id' rfl];simp)]
 | _=>rfl
def fN (p:Nat→Bool):Nat→Nat→Nat
 | 0,j=>j
 | k+1,j=>if p j then j else fN p k (j+1)
theorem rL (p:Nat→Bool):∀ (k j:Nat),j≤fN p k j∧fN p k j≤j+k∧(∀ i,j≤i→i<fN p k j→p i=false)∧(fN p k j<j+k→p (fN p k j)=true)
 | 0,j=>⟨Nat.le_refl _,Nat.le_refl _,fun i h1 h2=>absurd h2 (by simp only[fN];omega),fun h=>absurd h (by simp only[fN];omega)⟩
 | k + 1,j=>by
   simp only[fN];by_cases h:p j=true
   · rw[if_pos h];exact ⟨Nat.le_refl _,by omega,fun i h1 h2=>by omega,fun _=>h⟩
   · rw[if_neg h];obtain ⟨h1,h2,h3,h4⟩:=rL p k (j+1);refine ⟨by omega,by omega,fun i k1 k2=>?_,fun k1=>h4 wO⟩;by_cases e:i=j
     · subst e;simpa using h
     · exact h3 i wO k2
theorem iU {body:aE→aa→Option (Ex×aE×aa)} {n:Nat} (F:Nat→aE) (G:Nat→aa) (N:Nat) (p:Nat→Bool) (X:Nat→Ex×aE×aa)
 (hs:∀ j,j<N→p j=false→∃ f g,body (F j) (G j)=some (.normal,f,g)∧tidy n f g=(F (j+1),G (j+1)))
 (hh:∀ j,j<N→p j=true→body (F j) (G j)=some (X j)∧(X j).1≠.normal) (he:body (F N) (G N)=some (X N)∧(X N).1≠.normal) :
 ∀ (k j fu:Nat),j+k=N→k<fu→iter body n fu (F j) (G j)=some (X (fN p k j))
 | 0,j,0,_,h=>by omega
 | 0,j,fu+1,hj,_=>by
   have:j=N:=by omega
   subst this;unfold iter;rw[he.1];obtain ⟨x,hx⟩:∃ x,x=X j:=⟨_,rfl⟩
   have hn:=he.2;simp only[fN];rw[← hx] at hn ⊢;obtain ⟨e,f,g⟩:=x;cases e<;>first | exact absurd rfl hn | rfl
 | k+1,j,0,_,h=>by omega
 | k + 1,j,fu+1,hj,hf=>by
   unfold iter;cases hp:p j with
   | true =>
     obtain ⟨h1,h2⟩:=hh j wO hp;rw[h1];simp only[fN];rw[if_pos hp];obtain ⟨x,hx⟩:∃ x,x=X j:=⟨_,rfl⟩
     rw[← hx] at h2 ⊢;obtain ⟨e,f,g⟩:=x;cases e<;>first | exact absurd rfl h2 | rfl
   | false =>
     obtain ⟨f,g,h1,h2⟩:=hs j wO hp;rw[h1];dsimp only;rw[h2];simp only[fN];rw[if_neg (by rw[hp];simp)];exact iU F G N p X hs hh he k (j+1) fu wO wO
end
end Go.Eng
end
