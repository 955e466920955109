/- The engine as a tree: regions, code, calls. -/
import Derived.Test.YtoomemfhcbajoaaV5EngTe
set_option linter.unusedVariables false
set_option linter.unusedSimpArgs false
section
namespace Go.Eng
noncomputable section

def uZ (f:aE) (y:Nat) (b:Bool):aE:=List.rec (motive:=fun _=>aE) [] (fun p r ih=>Bool.rec (motive:=fun _=>aE) (p::ih) ((p.1,(.bool b,some 1))::r) (Nat.beq p.1 y)) f
theorem sB:∀ (f:aE) (y:Nat) (b:Bool),bo (strip f) y=.bool b→strip (uZ f y b)=strip f
 | [],y,b,_=>rfl
 | (x,v)::r,y,b,h=>by
   have e:uZ ((x,v)::r) y b=Bool.rec (motive:=fun _=>aE) ((x,v)::uZ r y b) ((x,(.bool b,some 1))::r) (Nat.beq x y):=rfl
   rw[c6,bo] at h
   rw[e]
   cases hb:Nat.beq x y with
   | true =>
     rw[hb] at h
     have h:v.1=.bool b:=h
     show (x,AV.bool b)::strip r=(x,v.1)::strip r
     rw[h]
   | false =>
     rw[hb] at h
     show (x,v.1)::strip (uZ r y b)=(x,v.1)::strip r
     rw[sB r y b h]
def vw {α:Type} (fr:aE) (d:Nat) (t e:aE→Tr α):Tr α :=
 match lx fr d with
 | (.bool b,none)=>.ite b (t (uZ fr d true)) (e (uZ fr d false))
 | (.bool b,some _)=>cond b (t fr) (e fr)
 | _=>.bad
theorem lh {α:Type} {fr:aE} {d:Nat} {t e:aE→Tr α} {x:α} (h:(vw fr d t e).run=some x):∃ b fr',bo (strip fr) d=.bool b∧strip fr'=strip fr∧(if b then t fr' else e fr').run=some x:=by
 unfold vw at h
 split at h
 · rename_i b hg
   have hg':bo (strip fr) d=.bool b:=by rw[← fc,hg]
   rcases Tr.gd h with ⟨rfl,h⟩ | ⟨rfl,h⟩
   · exact ⟨true,_,hg',sB _ _ _ hg',h⟩
   · exact ⟨false,_,hg',sB _ _ _ hg',h⟩
 · rename_i b n hg
   have hg':bo (strip fr) d=.bool b:=by rw[← fc,hg]
   refine ⟨b,fr,hg',rfl,?_⟩
   cases b<;>exact h
 · exact (Tr.ae h).elim
def Co (ops:Array Oper) (fr:aE) (o:Oper):Tr (Bool×aE) :=
 match o.guard with
 | none=>.ok (true,fr)
 | some (j,want)=>match (ops[j]?).bind (·.dst) with
   | none=>.bad
   | some d=>match (lx fr d).1 with
     | .bool _=>cond want (vw fr d (fun fr=>.ok (true,fr)) (fun fr=>.ok (false,fr))) (vw fr d (fun fr=>.ok (false,fr)) (fun fr=>.ok (true,fr)))
     | .tup _=>.ok (false,fr)
     | _=>.bad
theorem zL {ops:Array Oper} {fr:aE} {o:Oper} {r:Bool×aE} (h:(Co ops fr o).run=some r):ib ops (strip fr) o=(if r.1 then .run else .skip)∧strip r.2=strip fr:=by
 unfold Co at h
 unfold ib
 cases hg:o.guard with
 | none =>
   rw[hg] at h
   rw[← Tr.ab h];exact ⟨rfl,rfl⟩
 | some jw =>
   obtain ⟨j,want⟩:=jw
   rw[hg] at h
   dsimp only at h ⊢
   cases hd:(ops[j]?).bind (·.dst) with
   | none=>rw[hd] at h;exact (Tr.ae h).elim
   | some d =>
     rw[hd] at h
     dsimp only at h ⊢
     have he:=fc fr d
     rw[he] at h
     cases hv:bo (strip fr) d<;>rw[hv] at h<;>try exact (Tr.ae h).elim
     case bool b =>
      dsimp only at h ⊢
      cases want with
      | true =>
        rw[cond_true] at h
        obtain ⟨b',fr',h1,h2,h3⟩:=lh h
        rw[hv] at h1
        cases h1
        cases b<;>(have h3:=Tr.ab h3;rw[← h3];exact ⟨rfl,h2⟩)
      | false =>
        rw[cond_false] at h
        obtain ⟨b',fr',h1,h2,h3⟩:=lh h
        rw[hv] at h1
        cases h1
        cases b<;>(have h3:=Tr.ab h3;rw[← h3];exact ⟨rfl,h2⟩)
     case tup l=>rw[← Tr.ab h];exact ⟨rfl,rfl⟩

def iG (P:Program) (nt:Nat) (call:aQ) (callR:bE) (ops:Array Oper):List Oper→aE→aa→Tr (aE×aa)
 | [],fr,H=>.ok (fr,H)
 | o::r,fr,H=>(Co ops fr o).bind fun b=>cond b.1
   ((Lm o.op o P call callR b.2 H (fp H)).bind fun y=>iG P nt call callR ops r (qM nt b.2 o.dst y.1) (Mk y.2 H))
   (iG P nt call callR ops r (qM nt b.2 o.dst (.tup [],none)) H)
theorem fv {P:Program} {nt:Nat} {call:aQ} {callR:bE} (hC:callR.Ok call) {ops:Array Oper}:∀ (l:List Oper) (fr:aE) (H:aa) (x:aE×aa),(iG P nt call callR ops l fr H).run=some x→dB P nt call ops l (strip fr) H=some (strip x.1,x.2)
 | [],fr,H,x,h=>by rw[← Tr.ab h];rfl
 | o :: r,fr,H,x,h=>by
   simp only[iG] at h
   obtain ⟨b,h1,h⟩:=Tr.bind_some h
   unfold dB
   obtain ⟨hw,hs⟩:=zL h1
   rw[hw,← hs]
   obtain ⟨b,fr1⟩:=b
   dsimp only at h ⊢
   cases b with
   | false =>
     have:=fv hC r _ _ _ h
     rw[mc] at this
     exact this
   | true =>
     rw[cond_true] at h
     obtain ⟨y,h2,h⟩:=Tr.bind_some h
     have h2:=Az hC h2
     rw[gF] at h2
     have:=fv hC r _ _ _ h
     rw[mc,Fb] at this
     rw[if_pos rfl]
     dsimp only
     rw[h2]
     exact this

def pc (fr:aE) (o:Oper):Touch:=kf (strip fr) o
def pE (P:Program) (call:aQ) (callR:bE) (ops:Array Oper) (bef:Nat) (fr0:aE) (H:aa) (nx:Nat) (recs:List Rec) (o:Oper):Tr (tC×Option Nat×aE) :=
 (Co ops fr0 o).bind fun b=>cond b.1
   (cond (eN o) ((Lm o.op o P call callR b.2 (oS (iR bef recs H)) nx).bind fun y=>.ok (⟨y.1.1,.all,none⟩,y.1.2,b.2))
     ((Lm o.op o P call callR b.2 (iR bef recs H) nx).bind fun y=>match y.2 with
       | .aZ=>.ok (⟨y.1.1,pc b.2 o,none⟩,y.1.2,b.2)
       | .push q=>cond (gi o && !gH q && oK (eE H 0 nx) && !fo H 0) (.ok (⟨y.1.1,pc b.2 o,some (0,nx,(0,q))⟩,y.1.2,b.2)) .bad
       | .set d i q=>.req (cM (bY (eE H d i).1 q.1) (bY q.1 (Nat.succ (eE H d i).1))) (cond (!gH q.2 && !gH (eE (iR bef recs H) d i).2 && iY bef d i recs) (.ok (⟨y.1.1,pc b.2 o,some (d,i,q)⟩,y.1.2,b.2)) .bad)
       | _=>.bad))
   (.ok (⟨.tup [],.none,none⟩,none,b.2))
theorem vQ {P:Program} {call:aQ} {callR:bE} (hC:callR.Ok call) {ops:Array Oper} {bef:Nat} {fr:aE} {H:aa} {nx:Nat} {recs:List Rec} {o:Oper} {e:tC×Option Nat×aE} (h:(pE P call callR ops bef fr H nx recs o).run=some e) :
 eD P call ops bef (strip fr) H nx recs o=some e.1∧strip e.2.2=strip fr:=by
 unfold pE at h
 unfold eD
 simp only[jW,qI,pc,qO,g7,dW] at h
 obtain ⟨b,h1,h⟩:=Tr.bind_some h
 obtain ⟨hw,hs⟩:=zL h1
 rw[hw,← hs]
 obtain ⟨b,fr1⟩:=b
 dsimp only at h ⊢
 cases b with
 | false =>
   rw[cond_false] at h
   rw[← Tr.ab h];exact ⟨rfl,rfl⟩
 | true =>
   rw[cond_true] at h
   rw[if_pos rfl]
   dsimp only
   cases hcv:eN o with
   | true =>
     rw[hcv,cond_true] at h
     obtain ⟨y,h2,h⟩:=Tr.bind_some h
     rw[if_pos rfl,Az hC h2,← Tr.ab h]
     exact ⟨rfl,rfl⟩
   | false =>
     rw[hcv,cond_false] at h
     obtain ⟨y,h2,h⟩:=Tr.bind_some h
     rw[if_neg (by simp),Az hC h2]
     split at h
     · rename_i hy
       rw[hy,← Tr.ab h];exact ⟨rfl,rfl⟩
     · rename_i b hy
       obtain ⟨hc,h⟩:=Tr.aJ h
       rw[hy]
       dsimp only
       rw[if_pos hc,← Tr.ab h];exact ⟨rfl,rfl⟩
     · rename_i d i b hy
       obtain ⟨hv,h⟩:=Tr.aH h
       obtain ⟨hc,h⟩:=Tr.aJ h
       rw[hy]
       dsimp only
       rw[n8,kQ,kQ,Bool.and_eq_true,decide_eq_true_eq,decide_eq_true_eq] at hv
       have hv':(Nat.beq b.1 (aq H d i).1 || Nat.beq b.1 (Nat.succ (aq H d i).1))=true:=by
        simp only[Bool.or_eq_true,Nat.beq_eq];omega
       simp only[Bool.and_eq_true] at hc
       rw[if_pos (by simp only[Bool.and_eq_true];exact ⟨⟨⟨hc.1.1,hv'⟩,hc.1.2⟩,hc.2⟩),← Tr.ab h];exact ⟨rfl,rfl⟩
     · exact (Tr.ae h).elim
def ot (P:Program) (nt:Nat) (call:aQ) (callR:bE) (ops:Array Oper) (befs:Array Nat):List Oper→Nat→aE→aa→Nat→List Rec→Tr (aE×aa)
 | [],_,fr,H,_,_=>.ok (fr,H)
 | o::r,j,fr,H,nx,recs=>(pE P call callR ops (befs.getD j 0) fr H nx recs o).bind fun e =>
   ot P nt call callR ops befs r (j+1) (qM nt e.2.2 o.dst (e.1.v,e.2.1)) (yY H e.1.wr) (if gi o then nx+1 else nx) (⟨j,e.1.rd,e.1.wr.map fun x=>(x.1,x.2.1)⟩::recs)
theorem qo {P:Program} {nt:Nat} {call:aQ} {callR:bE} (hC:callR.Ok call) {ops:Array Oper} {befs:Array Nat}:∀ (l:List Oper) (j:Nat) (fr:aE) (H:aa) (nx:Nat) (recs:List Rec) (x:aE×aa),
 (ot P nt call callR ops befs l j fr H nx recs).run=some x→fi P nt call ops befs j l (strip fr) H nx recs=some (strip x.1,x.2)
 | [],j,fr,H,nx,recs,x,h=>by rw[← Tr.ab h];rfl
 | o::r,j,fr,H,nx,recs,x,h=>by
   simp only[ot] at h
   obtain ⟨e,h1,h⟩:=Tr.bind_some h
   obtain ⟨hd,hs⟩:=vQ hC h1
   unfold fi
   rw[hd,← hs]
   have:=qo hC r _ _ _ _ _ _ h
   rw[mc,yZ] at this
   exact this

def aN:Code→List (Nat×Code)
 | .block id b=>(id,b)::aN b
 | .loop b=>aN b
 | .seq a b=>aN a++aN b
 | .cond _ a b=>aN a++aN b
 | .scope b=>aN b
 | _=>[]
def bO (f:Func):Code:=match f.body with | some c=>c | none=>.skip
abbrev nj:=Ex×aE×aa
def nj.st (x:nj):Ex×ar×aa:=(x.1,strip x.2.1,x.2.2)
abbrev gv:=Nat→aE→aa→Option (Tr nj)
abbrev ri:=Operand→aE→aa→Option (Tr nj)
def gv.Ok (bl:gv) (cx:Cx) (c:Code):Prop:=∀ id b,(id,b) ∈ aN c→∀ fr H t x,bl id fr H=some t→t.run=some x→exec cx (.block id b) (strip fr) H=some x.st
def dV:Code→List (Operand×Array Tmp×Code×Code)
 | .rangeFunc f ps a b=>[(f,ps,a,b)]
 | .loop b=>dV b
 | .block _ b=>dV b
 | .seq a b=>dV a++dV b
 | .cond _ a b=>dV a++dV b
 | .scope b=>dV b
 | _=>[]
def ri.Ok (rg:ri) (cx:Cx) (c:Code):Prop:=∀ f ps a b,(f,ps,a,b) ∈ dV c→∀ fr H t x,rg f fr H=some t→t.run=some x→exec cx (.rangeFunc f ps a b) (strip fr) H=some x.st
def cX (bl:gv) (id0:Nat) (fr0:ar) (H0:aa) (u:Tr nj):gv:=fun id fr H=>cond (Nat.beq id id0) (some (.reqP (strip fr=fr0∧H=H0) u)) (bl id fr H)
theorem aW {bl:gv} {cx:Cx} {c:Code} (h:bl.Ok cx c) {id0:Nat} {fr0:ar} {H0:aa} {u:Tr nj} {B:Code} (hB:∀ b,(id0,b) ∈ aN c→b=B) (k:∀ x,u.run=some x→exec cx (.block id0 B) fr0 H0=some x.st):(cX bl id0 fr0 H0 u).Ok cx c:=by
 intro id b hm fr H t y ht hy
 unfold cX at ht
 cases hb:Nat.beq id id0 with
 | true =>
   have v7:=Nat.eq_of_beq_eq_true hb
   subst v7
   rw[hb,cond_true,Option.some.injEq] at ht
   subst ht
   obtain ⟨⟨h1,h2⟩,h3⟩:=Tr.cW hy
   rw[h1,h2,hB b hm]
   exact k y h3
 | false =>
   rw[hb,cond_false] at ht
   exact h id b hm fr H t y ht hy
def Kd (rg:ri) (tf:Operand→Bool) (fr0:ar) (H0:aa) (u:Tr nj):ri:=fun f fr H=>cond (tf f) (some (.reqP (strip fr=fr0∧H=H0) u)) (rg f fr H)
theorem wS {rg:ri} {cx:Cx} {c:Code} (h:rg.Ok cx c) {tf:Operand→Bool} {fr0:ar} {H0:aa} {u:Tr nj} (k:∀ f ps a b,tf f=true→(f,ps,a,b) ∈ dV c→∀ x,u.run=some x→exec cx (.rangeFunc f ps a b) fr0 H0=some x.st):(Kd rg tf fr0 H0 u).Ok cx c:=by
 intro f ps a b hm fr H t y ht hy
 unfold Kd at ht
 cases hb:tf f with
 | true =>
   rw[hb,cond_true,Option.some.injEq] at ht
   subst ht
   obtain ⟨⟨h1,h2⟩,h3⟩:=Tr.cW hy
   rw[h1,h2]
   exact k f ps a b hb hm y h3
 | false =>
   rw[hb,cond_false] at ht
   exact h f ps a b hm fr H t y ht hy
def aO:gv:=fun _ _ _=>none
def aP:ri:=fun _ _ _=>none
theorem af (cx:Cx) (c:Code):aO.Ok cx c:=fun _ _ _ _ _ _ _ h=>by cases h
theorem ag (cx:Cx) (c:Code):aP.Ok cx c:=fun _ _ _ _ _ _ _ _ _ h=>by cases h
def yC (g:AV→AV):aE→aE
 | []=>[]
 | (x,(v,h))::r=>(x,(mX g v,h))::yC g r
theorem yD (g:AV→AV):∀ fr:aE,strip (yC g fr)=p6 g (strip fr)
 | []=>rfl
 | (x,(v,h))::r=>by
   have e:yC g ((x,(v,h))::r)=(x,(mX g v,h))::yC g r:=rfl
   rw[e,c6,c6,p6,yD g r]
def lj (n:Nat):Nat→aE→aa→aE×aa
 | 0,fr,H=>(fr,H)
 | k + 1,fr,H=>match H with
   | []=>(fr,[])
   | l::r=>cond (Nat.ble (iC l.bs) (Nat.succ n)) (fr,l::r) (match hole (strip fr) l.bs 4 n with
     | none=>(fr,l::r)
     | some h=>lj n k (yC (ud (l.bs.length-1) h) fr) (lq n (p6 (ud (l.bs.length-1) h) (strip fr)) (xn (l.bs.length-1) h l::r)))
theorem ti (n:Nat):∀ (k:Nat) (fr:aE) (H:aa),(strip (lj n k fr H).1,(lj n k fr H).2)=jf n k (strip fr) H
 | 0,fr,H=>rfl
 | k+1,fr,[]=>rfl
 | k + 1,fr,l::r=>by
   cases hb:Nat.ble (iC l.bs) (Nat.succ n) with
   | true =>
     have:lj n (k+1) fr (l::r)=(fr,l::r):=by
      unfold lj;dsimp only;rw[hb];rfl
     rw[this,tp (by rw[dg] at hb;simpa using hb)]
   | false =>
     unfold lj jf
     dsimp only
     rw[hb,cond_false]
     cases hole (strip fr) l.bs 4 n with
     | none=>rfl
     | some h =>
       dsimp only
       rw[ti n k,yD]
def Ck (n:Nat) (fr:aE) (H:aa):aE×aa:=lj n 4 fr (lq n (strip fr) H)
theorem FJ (n:Nat) (fr:aE) (H:aa):(strip (Ck n fr H).1,(Ck n fr H).2)=tidy n (strip fr) H:=ti n 4 fr _
def By (body:aE→aa→Tr nj) (n:Nat):Nat→aE→aa→Tr nj
 | 0,_,_=>.bad
 | k+1,fr,H=>(body fr H).bind fun x=>match x with
   | (.normal,fr,H)=>By body n k (Ck n fr H).1 (Ck n fr H).2
   | r=>.ok r
theorem uT {body:ar→aa→Option (Ex×ar×aa)} {n:Nat}:∀ (k m:Nat) (fr:ar) (H:aa) (x:Ex×ar×aa),iter body n k fr H=some x→k≤m→iter body n m fr H=some x
 | 0,m,fr,H,x,h,_=>by simp[iter] at h
 | k+1,0,fr,H,x,h,hk=>by omega
 | k + 1,m+1,fr,H,x,h,hk=>by
   unfold iter at h ⊢
   cases hb:body fr H with
   | none=>rw[hb] at h;simp at h
   | some y =>
     rw[hb] at h
     obtain ⟨e,f,g⟩:=y
     cases e
     case normal=>exact uT k m _ _ _ h (by omega)
     all_goals exact h
theorem yg {body:aE→aa→Tr nj} {body':ar→aa→Option (Ex×ar×aa)} {n:Nat} (hb:∀ fr H x,(body fr H).run=some x→body' (strip fr) H=some x.st):∀ (k:Nat) (fr:aE) (H:aa) (x:nj),(By body n k fr H).run=some x→iter body' n k (strip fr) H=some x.st
 | 0,fr,H,x,h=>(Tr.ae h).elim
 | k+1,fr,H,x,h=>by
   simp only[By] at h
   obtain ⟨y,h1,h⟩:=Tr.bind_some h
   unfold iter
   rw[hb _ _ _ h1]
   obtain ⟨e,f,g⟩:=y
   cases e
   case normal =>
    have e:=FJ n f g
    have h:=yg hb k _ _ _ h
    show iter body' n k (tidy n (strip f) g).1 (tidy n (strip f) g).2=_
    rw[← e];exact h
   all_goals
    have h:=Tr.ab h
    rw[← h];rfl
def nF (f:AV→Tr AV):List AV→Tr (List AV)
 | []=>.ok []
 | v::l=>(f v).bind fun u=>(nF f l).bind fun m=>.ok (u::m)
theorem eP {f:AV→Tr AV} {g:AV→AV} (hf:∀ v u,(f v).run=some u→g v=u):∀ (l m:List AV),(nF f l).run=some m→l.map g=m
 | [],m,h=>Tr.ab h
 | v::l,m,h=>by
   simp only[nF] at h
   obtain ⟨u,h1,h⟩:=Tr.bind_some h
   obtain ⟨n,h2,h⟩:=Tr.bind_some h
   rw[← Tr.ab h,List.map_cons,hf _ _ h1,eP hf l n h2]
def l7 (f:AV→Tr AV):List ah→Tr (List ah)
 | []=>.ok []
 | .one v::l=>(f v).bind fun u=>(l7 f l).bind fun m=>.ok (.one u::m)
 | .arr k z n::l=>(l7 f l).bind fun m=>.ok (.arr k z n::m)
theorem g9 {f:AV→Tr AV} {g:AV→AV} (hf:∀ v u,(f v).run=some u→g v=u):∀ (l m:List ah),(l7 f l).run=some m→mapM' g l=m
 | [],m,h=>Tr.ab h
 | .one v::l,m,h=>by
   simp only[l7] at h
   obtain ⟨u,h1,h⟩:=Tr.bind_some h
   obtain ⟨n,h2,h⟩:=Tr.bind_some h
   rw[← Tr.ab h,mapM',hf _ _ h1,g9 hf l n h2]
 | .arr k z n::l,m,h=>by
   simp only[l7] at h
   obtain ⟨n,h2,h⟩:=Tr.bind_some h
   rw[← Tr.ab h,mapM',g9 hf l n h2]
def qn (cap:Option Nat) (len:Nat):Bool :=
 match cap with
 | none=>false
 | some c=>bM c len
theorem jQ (cap:Option Nat) (len:Nat):qn cap len=(cap == some len):=by
 cases cap with
 | none=>rfl
 | some c=>simp only[qn,gz];rw[Bool.eq_iff_iff];simp
def x9 (i ver:Nat) (r:Row):AV→Tr AV
 | .ptr d j v off=>cond (Nat.beq d 0 && Nat.beq j i) (.req (bM v ver) (.ok (.ptrT none r off))) (.ok (.ptr d j v off))
 | .slc d j v off sz len cap=>cond (Nat.beq d 0 && Nat.beq j i) (.req (bM v ver) (match r with
    | .M [.arr k z N]=>.req (iB off (iZ len sz) 0 N) (.ok (.slcT none (.M [.arr k (bm z off) (iZ len sz)]) sz len (qn cap len)))
    | .I k l=>cond (tP (.I k l) off (Nat.mul len sz)) (.ok (.slcT none (.I k (iv (lu l off) (Nat.mul len sz))) sz len (qn cap len))) .bad
    | _=>.bad)) (.ok (.slc d j v off sz len cap))
 | v=>.ok v
theorem ur {d j i:Nat} {x:Bool} (h:(Nat.beq d 0 && Nat.beq j i)=true):(Nat.beq d 0 && (Nat.beq j i && x))=x:=by
 rw[Bool.and_eq_true] at h
 rw[h.1,h.2];rfl
theorem uu {d j i:Nat} {x:Bool} (h:(Nat.beq d 0 && Nat.beq j i)=false):(Nat.beq d 0 && (Nat.beq j i && x))=false:=by
 rw[← Bool.and_assoc,h];rfl
theorem ya {i ver:Nat} {r:Row}:∀ v u,(x9 i ver r v).run=some u→mU i ver r v=u:=by
 intro v u h
 cases v with
 | ptr d j v off =>
   simp only[x9] at h
   simp only[mU]
   cases hc:(Nat.beq d 0 && Nat.beq j i) with
   | false=>rw[hc,cond_false] at h;rw[uu hc,if_neg (by simp)];exact Tr.ab h
   | true =>
     rw[hc,cond_true] at h
     obtain ⟨h1,h⟩:=Tr.aH h
     rw[gz,decide_eq_true_eq] at h1
     rw[ur hc,if_pos (by simpa using h1)];exact Tr.ab h
 | slc d j v off sz len cap =>
   simp only[x9] at h
   simp only[mU]
   cases hc:(Nat.beq d 0 && Nat.beq j i) with
   | false=>rw[hc,cond_false] at h;rw[uu hc,if_neg (by simp)];exact Tr.ab h
   | true =>
     rw[hc,cond_true] at h
     obtain ⟨h1,h2⟩:=Tr.aH h
     clear h
     rw[gz,decide_eq_true_eq] at h1
     rw[ur hc]
     split at h2
     · obtain ⟨h3,h⟩:=Tr.aH h2
       rw[gG,decide_eq_true_eq,cA] at h3
       rw[if_pos (by simp[h1,Row.len,av,aI];omega),← Tr.ab h,jQ,cA,ml]
       rfl
     · obtain ⟨h3,h⟩:=Tr.aJ h2
       rw[kH,decide_eq_true_eq] at h3
       rw[if_pos (by simp only[h1,Bool.and_eq_true];exact ⟨by simp,Nat.ble_eq_true_of_le h3⟩),← Tr.ab h,jQ,gl,g6]
       rfl
     · exact (Tr.ae h2).elim
 | _=>exact Tr.ab h
def yE (f:AV→Tr AV) (v:AV):Tr AV :=
 match v with
 | .agg (.G l)=>(nF f l).bind fun m=>.ok (.agg (.G m))
 | .agg (.M l)=>(l7 f l).bind fun m=>.ok (.agg (.M m))
 | .fn g a b=>(nF f a).bind fun a'=>(nF f b).bind fun b'=>.ok (.fn g a' b')
 | v=>f v
theorem sA {f:AV→Tr AV} {g:AV→AV} (hf:∀ v u,(f v).run=some u→g v=u):∀ v u,(yE f v).run=some u→mX g v=u:=by
 intro v u h
 unfold yE at h
 split at h
 · obtain ⟨m,h1,h⟩:=Tr.bind_some h
   rw[← Tr.ab h,← eP hf _ _ h1];rfl
 · obtain ⟨m,h1,h⟩:=Tr.bind_some h
   rw[← Tr.ab h,← g9 hf _ _ h1];rfl
 · obtain ⟨a',h1,h⟩:=Tr.bind_some h
   obtain ⟨b',h2,h⟩:=Tr.bind_some h
   rw[← Tr.ab h,← eP hf _ _ h1,← eP hf _ _ h2];rfl
 · rename_i n1 n2 n3
   have:=hf _ _ h
   rw[← this]
   unfold mX
   split
   · exact absurd rfl (n1 _)
   · exact absurd rfl (n2 _)
   · exact absurd rfl (n3 _ _ _)
   · rfl
def EM (f:AV→Tr AV):ai→Tr ai
 | .row r=>match r with
   | .G l=>(nF (yE f) l).bind fun m=>.ok (.row (.G m))
   | .M l=>(l7 (yE f) l).bind fun m=>.ok (.row (.M m))
   | r=>.ok (.row r)
 | b=>.ok b
theorem EN {f:AV→Tr AV} {g:AV→AV} (hf:∀ v u,(f v).run=some u→g v=u) (b u:ai) (h:(EM f b).run=some u):pZ g b=u:=by
 cases b with
 | row r =>
   simp only[EM] at h
   cases r with
   | G l =>
     obtain ⟨m,h1,h⟩:=Tr.bind_some h
     rw[← Tr.ab h,← eP (sA hf) _ _ h1];rfl
   | M l =>
     obtain ⟨m,h1,h⟩:=Tr.bind_some h
     rw[← Tr.ab h,← g9 (sA hf) _ _ h1];rfl
   | I k l=>rw[← Tr.ab h];rfl
   | F z n=>rw[← Tr.ab h];rfl
 | dead=>exact Tr.ab h
 | map es=>exact Tr.ab h
 | fmap kq f g c=>exact Tr.ab h
 | loop l=>exact Tr.ab h
def wo (f:AV→Tr AV):List (Nat×ai)→Tr (List (Nat×ai))
 | []=>.ok []
 | (v,b)::r=>(EM f b).bind fun b'=>(wo f r).bind fun r'=>.ok ((v,b')::r')
theorem uY {f:AV→Tr AV} {g:AV→AV} (hf:∀ v u,(f v).run=some u→g v=u):∀ (l m:List (Nat×ai)),(wo f l).run=some m→jx g l=m
 | [],m,h=>Tr.ab h
 | (v,b)::r,m,h=>by
   simp only[wo] at h
   obtain ⟨b',h1,h⟩:=Tr.bind_some h
   obtain ⟨r',h2,h⟩:=Tr.bind_some h
   rw[← Tr.ab h,jx,EN hf _ _ h1,uY hf r r' h2]
def BJ (f:AV→Tr AV):aE→Tr aE
 | []=>.ok []
 | (x,(v,h))::r=>(yE f v).bind fun v'=>(BJ f r).bind fun r'=>.ok ((x,(v',h))::r')
theorem yB {f:AV→Tr AV} {g:AV→AV} (hf:∀ v u,(f v).run=some u→g v=u):∀ (l m:aE),(BJ f l).run=some m→p6 g (strip l)=strip m
 | [],m,h=>by rw[← Tr.ab h];rfl
 | (x,(v,hh))::r,m,h=>by
   simp only[BJ] at h
   obtain ⟨v',h1,h⟩:=Tr.bind_some h
   obtain ⟨r',h2,h⟩:=Tr.bind_some h
   rw[← Tr.ab h,c6,c6,p6,sA hf _ _ h1,yB hf r r' h2]
def sl (i:Nat) (fr:aE) (l:aU):Tr (aE×aU) :=
 match Aw l.bs i with
 | (ver,.row r)=>cond (wa r && (tH (fun x=>py (pf i) x.2) (strip fr) || tH (fun x=>JH (pf i) x.2) l.bs)) ((BJ (x9 i ver r) fr).bind fun fr'=>(wo (x9 i ver r) l.bs).bind fun bs'=>.ok (fr',{ l with bs:=bW bs' i (ver,.dead) })) (.ok (fr,l))
 | _=>.ok (fr,l)
theorem pQ {i:Nat} {fr:aE} {l:aU} {y:aE×aU} (h:(sl i fr l).run=some y):lU i (strip fr) l=(strip y.1,y.2):=by
 unfold sl at h
 unfold lU
 rw[rv] at h
 split at h
 · rename_i ver r hb
   rw[hb]
   dsimp only
   rw[n9,n9] at h
   cases hc:(wa r && ((strip fr).any (fun x=>py (pf i) x.2) || l.bs.any (fun x=>JH (pf i) x.2))) with
   | true =>
     rw[hc,cond_true] at h
     obtain ⟨fr',h1,h⟩:=Tr.bind_some h
     obtain ⟨bs',h2,h⟩:=Tr.bind_some h
     rw[if_pos rfl,yB ya _ _ h1,uY ya _ _ h2,← Tr.ab h]
   | false =>
     rw[hc,cond_false] at h
     rw[if_neg (by simp),← Tr.ab h]
 · rename_i hno
   have h:=Tr.ab h
   subst h
   split
   · rename_i ver r hb
     exact absurd hb (hno ver r)
   · rfl
def rl:Nat→aE→aU→Tr (aE×aU)
 | 0,fr,l=>.ok (fr,l)
 | n+1,fr,l=>(rl n fr l).bind fun y=>sl n y.1 y.2
theorem sj:∀ (n:Nat) (fr:aE) (l:aU) (y:aE×aU),(rl n fr l).run=some y→iV n (strip fr) l=(strip y.1,y.2)
 | 0,fr,l,y,h=>by rw[← Tr.ab h];rfl
 | n+1,fr,l,y,h=>by
   simp only[rl] at h
   obtain ⟨z,h1,h⟩:=Tr.bind_some h
   have h1:=sj n fr l z h1
   simp only[iV]
   rw[h1]
   exact pQ h
def oI:Nat→aE→aU→Tr (aE×aU)
 | 0,fr,l=>.ok (fr,l)
 | n+1,fr,l=>(oI n fr l).bind fun y=>cond (tH (fun x=>py (pf n) x.2) (strip y.1)) (.ok y) (sl n y.1 y.2)
theorem qD:∀ (n:Nat) (fr:aE) (l:aU) (y:aE×aU),(oI n fr l).run=some y→eh n (strip fr) l=(strip y.1,y.2)
 | 0,fr,l,y,h=>by rw[← Tr.ab h];rfl
 | n + 1,fr,l,y,h=>by
   simp only[oI] at h
   obtain ⟨z,h1,h⟩:=Tr.bind_some h
   have h1:=qD n fr l z h1
   simp only[eh]
   rw[h1]
   dsimp only
   rw[n9] at h
   cases hc:(strip z.1).any (fun x=>py (pf n) x.2) with
   | true =>
     rw[hc,cond_true] at h
     rw[if_pos rfl,Tr.ab h]
   | false =>
     rw[hc,cond_false] at h
     rw[if_neg (by simp)]
     exact pQ h
def BC (s:Nat):aE→Option Nat
 | []=>none
 | (x,(v,_))::r=>cond (Nat.beq x s) (match v with
   | .slc 0 i _ _ _ _ _=>some i
   | _=>none) (BC s r)
theorem yq (s:Nat):∀ fr:aE,BC s fr=BB s (strip fr)
 | []=>rfl
 | (x,(v,h))::r=>by
   rw[c6]
   simp only[BC,BB,yq s r]
   cases Nat.beq x s<;>rfl
def v9 (s:Nat) (fr:aE) (H:aa):Tr (aE×aa) :=
 match H with
 | []=>.ok (fr,[])
 | l::r=>cond l.lock (.ok (fr,l::r)) (match BC s fr with
   | some i=>(sl i fr l).bind fun y=>.ok (y.1,y.2::r)
   | none=>.ok (fr,l::r))
theorem Ak {s:Nat} {fr:aE} {H:aa} {y:aE×aa} (h:(v9 s fr H).run=some y):v8 s (strip fr) H=(strip y.1,y.2):=by
 unfold v9 at h
 unfold v8
 cases H with
 | nil=>rw[← Tr.ab h]
 | cons l r =>
   dsimp only at h ⊢
   cases hl:l.lock with
   | true =>
     rw[hl,cond_true] at h
     rw[if_pos rfl,← Tr.ab h]
   | false =>
     rw[hl,cond_false,yq] at h
     rw[if_neg (by simp)]
     split at h
     · rename_i i hi
       obtain ⟨z,h1,h⟩:=Tr.bind_some h
       have h1:=pQ h1
       rw[hi]
       dsimp only
       rw[h1,← Tr.ab h]
     · rename_i hi
       rw[hi,← Tr.ab h]
def Aj (m:Nat) (fr:aE) (H:aa):Tr (aE×aa) :=
 cond (nH m 4000) (match H with
  | []=>.ok (gE fr m,[])
  | l::r=>cond l.lock (.ok (gE fr m,l::r)) ((rl (iC l.bs) (gE fr m) l).bind fun y=>.ok (y.1,cond (Nat.beq (Nat.shiftRight m 4003) 0) (y.2::r) (EV (Nat.shiftRight m 4003) (y.2::r))))) (cond (nH m 4001) (v9 (Nat.shiftRight m 4003) (gE fr m) H) (cond (nH m 4002) (vw (gE fr m) (Nat.shiftRight m 4003) (fun fr=>.ok (fr,H)) (fun fr=>match H with
  | []=>.ok (fr,[])
  | l::r=>cond l.lock (.ok (fr,l::r)) ((oI (iC l.bs) fr l).bind fun y=>.ok (y.1,y.2::r)))) (.ok (gE fr m,H))))
theorem CX {m:Nat} {fr:aE} {H:aa} {y:aE×aa} (h:(Aj m fr H).run=some y):lV m (strip fr) H=(strip y.1,y.2):=by
 unfold Aj at h
 unfold lV
 cases hm:nH m 4000 with
 | false =>
   rw[hm,cond_false] at h
   rw[if_neg (by simp)]
   cases hm2:nH m 4001 with
   | false =>
     rw[hm2,cond_false] at h
     rw[if_neg (by simp)]
     cases hm3:nH m 4002 with
     | false =>
       rw[hm3,cond_false] at h
       rw[if_neg (by simp),← Tr.ab h,eM]
     | true =>
       rw[hm3,cond_true] at h
       rw[if_pos rfl]
       obtain ⟨b,fr',h1,h2,h3⟩:=lh h
       rw[eM] at h1 h2
       rw[h1]
       cases b with
       | true =>
         simp only[if_true] at h3
         rw[← Tr.ab h3,h2]
       | false =>
         simp only[Bool.false_eq_true,if_false] at h3
         cases H with
         | nil =>
           dsimp only at h3
           rw[← Tr.ab h3,← h2];rfl
         | cons l r =>
           dsimp only at h3
           show tR (bJ (strip fr) m) (l::r)=_
           rw[← h2]
           unfold tR
           dsimp only
           cases hl:l.lock with
           | true =>
             rw[hl,cond_true] at h3
             rw[if_pos rfl,← Tr.ab h3]
           | false =>
             rw[hl,cond_false] at h3
             obtain ⟨z,h4,h5⟩:=Tr.bind_some h3
             have h4:=qD _ _ _ _ h4
             rw[dg] at h4
             rw[if_neg (by simp),h4,← Tr.ab h5]
   | true =>
     rw[hm2,cond_true] at h
     rw[if_pos rfl]
     have h1:=Ak h
     rw[eM] at h1
     exact h1
 | true =>
   rw[hm,cond_true] at h
   rw[if_pos rfl]
   cases H with
   | nil =>
     rw[← Tr.ab h,eM]
     simp only[CW,EV,ite_self]
   | cons l r =>
     dsimp only at h
     unfold CW
     dsimp only
     cases hl:l.lock with
     | true =>
       rw[hl,cond_true] at h
       simp only[if_true]
       rw[← Tr.ab h,eM]
       simp only[EV,hl,if_true,ite_self]
     | false =>
       rw[hl,cond_false] at h
       obtain ⟨z,h1,h⟩:=Tr.bind_some h
       have h1:=sj _ _ _ _ h1
       rw[dg,eM] at h1
       simp only[Bool.false_eq_true,if_false,h1]
       rw[← Tr.ab h]
       cases Nat.beq (Nat.shiftRight m 4003) 0<;>rfl
def aG (cx:Cx) (callR:bE) (bl:gv) (rg:ri):Code→aE→aa→Tr nj
 | .skip,fr,H=>.ok (.normal,fr,H)
 | .label _,fr,H=>.ok (.normal,fr,H)
 | .exit id,fr,H=>.ok (.exit id,fr,H)
 | .goto l,fr,H=>.ok (.goto l,fr,H)
 | .ret,fr,H=>.ok (.ret,fr,H)
 | .region id ops draw,fr,H =>
   (cond draw (cond (eS ops (Region.before ops)) (ot cx.P cx.nt cx.call callR ops (Region.before ops) ops.toList 0 fr (kN H (cD ops.toList)) (fp H) []) .bad) (iG cx.P cx.nt cx.call callR ops ops.toList fr H)).bind fun x=>(Aj (cx.kt id) x.1 x.2).bind fun y=>.ok (.normal,y.1,y.2)
 | .seq a b,fr,H=>(aG cx callR bl rg a fr H).bind fun x=>match x with
   | (.normal,fr,H)=>aG cx callR bl rg b fr H
   | r=>.ok r
 | .cond c a b,fr,H=>match c with
   | .tmp d=>vw fr d (fun fr=>aG cx callR bl rg a fr H) (fun fr=>aG cx callR bl rg b fr H)
   | c=>match (bZ fr c).1 with
     | .bool t=>cond t (aG cx callR bl rg a fr H) (aG cx callR bl rg b fr H)
     | _=>.bad
 | .block id b,fr,H=>match bl id fr H with
   | some t=>t
   | none=>(aG cx callR bl rg b fr H).bind fun x=>match x with
     | (.exit id',fr,H)=>cond (Nat.beq id' id) (.ok (.normal,fr,H)) (.ok (.exit id',fr,H))
     | r=>.ok r
 | .scope b,fr,H=>(aG cx callR bl rg b fr H).bind fun x=>match x with
   | (.goto _,_,_)=>.bad
   | r=>.ok r
 | .rangeFunc f _ _ _,fr,H=>match rg f fr H with
   | some t=>t
   | none=>.bad
 | .loop b,fr,H=>cond (Nat.ble 12 cx.fu) (By (aG cx callR bl rg b) (fp H) 12 fr H) .bad
 | .refuse _,_,_=>.bad

theorem oA {cx:Cx} {callR:bE} {bl:gv} {rg:ri} (hC:callR.Ok cx.call):∀ (c:Code),bl.Ok cx c→rg.Ok cx c→∀ (fr:aE) (H:aa) (x:nj),(aG cx callR bl rg c fr H).run=some x→exec cx c (strip fr) H=some x.st:=by
 intro c
 induction c with
 | skip=>intro _ _ fr H x h;rw[← Tr.ab h];rfl
 | label=>intro _ _ fr H x h;rw[← Tr.ab h];rfl
 | exit=>intro _ _ fr H x h;rw[← Tr.ab h];rfl
 | goto=>intro _ _ fr H x h;rw[← Tr.ab h];rfl
 | ret=>intro _ _ fr H x h;rw[← Tr.ab h];rfl
 | refuse=>intro _ _ fr H x h;exact (Tr.ae h).elim
 | loop b ih =>
   intro hb hr fr H x h
   simp only[aG] at h
   obtain ⟨hk,h⟩:=Tr.aJ h
   rw[Nat.ble_eq] at hk
   unfold exec
   rw[gF] at h
   exact uT _ _ _ _ _ (yg (fun fr H x h=>ih hb hr fr H x h) 12 fr H x h) hk
 | rangeFunc f ps a b =>
   intro _ hr fr H x h
   simp only[aG] at h
   split at h
   · rename_i t ht
     exact hr f ps a b (by simp[dV]) fr H t x ht h
   · exact (Tr.ae h).elim
 | region id ops draw =>
   intro _ _ fr H x h
   simp only[aG] at h
   obtain ⟨y,h1,h⟩:=Tr.bind_some h
   obtain ⟨z,h2,h⟩:=Tr.bind_some h
   have h2:=CX h2
   rw[← Tr.ab h]
   unfold exec
   cases draw with
   | true =>
     rw[cond_true] at h1
     obtain ⟨hs,h1⟩:=Tr.aJ h1
     rw[gF] at h1
     simp only[if_true,hs]
     rw[qo hC _ _ _ _ _ _ _ h1]
     dsimp only
     rw[h2]
     rfl
   | false =>
     rw[cond_false] at h1
     simp only[Bool.false_eq_true,if_false]
     rw[fv hC _ _ _ _ h1]
     dsimp only
     rw[h2]
     rfl
 | seq a b iha ihb =>
   intro hb hr fr H x h
   have hba:bl.Ok cx a:=fun id b' hm=>hb id b' (List.mem_append_left _ hm)
   have hbb:bl.Ok cx b:=fun id b' hm=>hb id b' (List.mem_append_right _ hm)
   have hra:rg.Ok cx a:=fun f ps u v hm=>hr f ps u v (List.mem_append_left _ hm)
   have hrb:rg.Ok cx b:=fun f ps u v hm=>hr f ps u v (List.mem_append_right _ hm)
   simp only[aG] at h
   obtain ⟨y,h1,h⟩:=Tr.bind_some h
   have h1:=iha hba hra _ _ _ h1
   unfold exec
   rw[h1]
   obtain ⟨e,fr1,H1⟩:=y
   cases e
   case normal=>exact ihb hbb hrb _ _ _ h
   all_goals
    have h:=Tr.ab h
    rw[← h];rfl
 | cond c a b iha ihb =>
   intro hb hr fr H x h
   have hba:bl.Ok cx a:=fun id b' hm=>hb id b' (List.mem_append_left _ hm)
   have hbb:bl.Ok cx b:=fun id b' hm=>hb id b' (List.mem_append_right _ hm)
   have hra:rg.Ok cx a:=fun f ps u v hm=>hr f ps u v (List.mem_append_left _ hm)
   have hrb:rg.Ok cx b:=fun f ps u v hm=>hr f ps u v (List.mem_append_right _ hm)
   simp only[aG] at h
   unfold exec
   split at h
   · rename_i d
     obtain ⟨b',fr',h1,h2,h3⟩:=lh h
     have e:bH (strip fr) (.tmp d)=.bool b':=h1
     rw[e,← h2]
     cases b' with
     | true=>exact iha hba hra _ _ _ h3
     | false=>exact ihb hbb hrb _ _ _ h3
   · rename_i c' hne
     rw[aL] at h
     split at h
     · rename_i t hc
       rw[hc]
       cases t with
       | true=>exact iha hba hra _ _ _ h
       | false=>exact ihb hbb hrb _ _ _ h
     · exact (Tr.ae h).elim
 | block id b ih =>
   intro hb hr fr H x h
   have hbb:bl.Ok cx b:=fun id' b' hm=>hb id' b' (by simp only[aN];exact List.mem_cons_of_mem _ hm)
   simp only[aG] at h
   split at h
   · rename_i t ht
     exact hb id b (by simp[aN]) _ _ _ _ ht h
   · obtain ⟨y,h1,h⟩:=Tr.bind_some h
     have h1:=ih hbb hr _ _ _ h1
     unfold exec
     rw[h1]
     obtain ⟨e,fr1,H1⟩:=y
     cases e
     case exit id' =>
      dsimp only[nj.st] at h ⊢
      rw[fV] at h
      split at h
      · rename_i v7
        rw[if_pos v7,← Tr.ab h]
      · rename_i v7
        rw[if_neg v7,← Tr.ab h]
     all_goals
      have h:=Tr.ab h
      rw[← h];rfl
 | scope b ih =>
   intro hb hr fr H x h
   simp only[aG] at h
   obtain ⟨y,h1,h⟩:=Tr.bind_some h
   have h1:=ih hb hr _ _ _ h1
   unfold exec
   rw[h1]
   obtain ⟨e,fr1,H1⟩:=y
   cases e
   case goto=>exact (Tr.ae h).elim
   all_goals
    have h:=Tr.ab h
    rw[← h];rfl

end
end Go.Eng
end
section
namespace Go.Eng
noncomputable section

def mT   (bs:List (Nat×ai)):Nat→AV→Tr AV
 | 0,_=>.ok .undef
 | n + 1,v=>match v with
   | .ptr d i ver off=>match d with
     | d+1=>.ok (.ptr d i ver off)
     | 0 => match Aw bs i with
       | (w,.row r)=>cond (Nat.beq w ver) (match r with
         | .I k l=>.ok (.ptrT none (.I k l) off)
         | .F f m=>.ok (.ptrT none (.F f m) off)
         | .M l=>cond (fU l) (.ok (.ptrT none (.M l) off)) ((l7 (mT bs n) l).bind fun m=>.ok (.ptrT (some 0) (.M m) off))
         | .G l=>(nF (mT bs n) l).bind fun m=>.ok (.ptrT (some 0) (.G m) off)) .bad
       | _=>.bad
   | .slc d i ver off sz len cap=>match d with
     | d+1=>.ok (.slc d i ver off sz len cap)
     | 0 => match Aw bs i with
       | (w,.row r)=>.req (bM w ver) (match r with
         | .M [.arr k z N]=>.req (iB off (iZ len sz) 0 N) (.ok (.slcT none (.M [.arr k (bm z off) (iZ len sz)]) sz len (qn cap len)))
         | .I k l=>cond (tP (.I k l) off (Nat.mul len sz)) (.ok (.slcT none (.I k (iv (lu l off) (Nat.mul len sz))) sz len (qn cap len))) .bad
         | .F f N=>.req (iB off (iZ len sz) 0 N) (.ok (.slcT none (.F (fun j=>f (bB off j)) (iZ len sz)) sz len (qn cap len)))
         | .G l=>cond (tP (.G l) off (Nat.mul len sz)) ((nF (mT bs n) (iv (lu l off) (Nat.mul len sz))).bind fun m=>.ok (.slcT (some 0) (.G m) sz len (qn cap len))) .bad
         | _=>.bad)
       | _=>.bad
   | .ptrT s r off=>match s with
     | none=>.ok (.ptrT none r off)
     | some (s+1)=>.ok (.ptrT (some s) r off)
     | some 0=>match r with
       | .G l=>(nF (mT bs n) l).bind fun m=>.ok (.ptrT (some 0) (.G m) off)
       | .M l=>cond (fU l) (.ok (.ptrT none (.M l) off)) ((l7 (mT bs n) l).bind fun m=>.ok (.ptrT (some 0) (.M m) off))
       | r=>.ok (.ptrT none r off)
   | .slcT s r sz len full=>match s with
     | none=>.ok (.slcT none r sz len full)
     | some (s+1)=>.ok (.slcT (some s) r sz len full)
     | some 0=>match r with
       | .G l=>(nF (mT bs n) l).bind fun m=>.ok (.slcT (some 0) (.G m) sz len full)
       | .M l=>cond (fU l) (.ok (.slcT none (.M l) sz len full)) ((l7 (mT bs n) l).bind fun m=>.ok (.slcT (some 0) (.M m) sz len full))
       | r=>.ok (.slcT none r sz len full)
   | .map d i=>match d with
     | d+1=>.ok (.map d i)
     | 0=>.ok .undef
   | .yld d i=>match d with
     | d+1=>.ok (.yld d i)
     | 0=>.ok .undef
   | .fn f a b=>(nF (mT bs n) a).bind fun a'=>(nF (mT bs n) b).bind fun b'=>.ok (.fn f a' b')
   | .agg r=>match r with
     | .G l=>(nF (mT bs n) l).bind fun m=>.ok (.agg (.G m))
     | .M l=>(l7 (mT bs n) l).bind fun m=>.ok (.agg (.M m))
     | r=>.ok (.agg r)
   | .tup l=>(nF (mT bs n) l).bind fun m=>.ok (.tup m)
   | v=>.ok v
theorem Bm (bs:List (Nat×ai)):∀ (n:Nat) (v u:AV),(mT bs n v).run=some u→dE bs n v=u
 | 0,v,u,h=>Tr.ab h
 | n + 1,v,  u,h=>by
   have ih:=Bm bs n
   simp only[mT,rv] at h
   cases v with
   | ptr d i ver off =>
     cases d with
     | succ d=>exact Tr.ab h
     | zero =>
       dsimp only at h
       simp only[dE]
       split at h
       · rename_i w r hg
         obtain ⟨hw,h⟩:=Tr.aJ h
         rw[hg]
         dsimp only
         rw[if_pos hw]
         cases r with
         | I k l=>exact Tr.ab h
         | F f m=>exact Tr.ab h
         | G l =>
           obtain ⟨m,h1,h⟩:=Tr.bind_some h
           rw[← Tr.ab h,← eP ih _ _ h1]
         | M l =>
           dsimp only at h ⊢
           cases ha:fU l with
           | true=>rw[ha,cond_true] at h;rw[if_pos rfl];exact Tr.ab h
           | false =>
             rw[ha,cond_false] at h
             obtain ⟨m,h1,h⟩:=Tr.bind_some h
             rw[if_neg (by simp),← Tr.ab h,← g9 ih _ _ h1]
       · exact (Tr.ae h).elim
   | slc d i ver off sz len cap =>
     cases d with
     | succ d=>exact Tr.ab h
     | zero =>
       dsimp only at h
       simp only[dE]
       split at h
       · rename_i w r hg
         obtain ⟨hw,h'⟩:=Tr.aH h
         clear h
         rw[gz,decide_eq_true_eq] at hw
         subst hw
         rw[hg]
         dsimp only
         split at h'
         · rename_i k z N
           have h:=h'
           obtain ⟨hc,h⟩:=Tr.aH h
           rw[gG,decide_eq_true_eq,cA] at hc
           rw[if_pos ⟨by simp,by simp only[Row.len,av,aI];omega⟩,← Tr.ab h,jQ,cA,ml]
           simp only[Row.sub,fU,if_true]
         · have h:=h'
           obtain ⟨hc,h⟩:=Tr.aJ h
           rw[kH,decide_eq_true_eq] at hc
           rw[if_pos ⟨by simp,hc⟩,← Tr.ab h,jQ,gl,g6]
           rfl
         · have h:=h'
           obtain ⟨hc,h⟩:=Tr.aH h
           rw[gG,decide_eq_true_eq,cA] at hc
           rw[if_pos ⟨by simp,by simp only[Row.len];omega⟩,← Tr.ab h,jQ,cA]
           simp only[Row.sub,bD]
         · have h:=h'
           obtain ⟨hc,h⟩:=Tr.aJ h
           rw[kH,decide_eq_true_eq] at hc
           obtain ⟨m,h1,h⟩:=Tr.bind_some h
           rw[gl,g6] at h1
           rw[if_pos ⟨by simp,hc⟩,← Tr.ab h,jQ,← eP ih _ _ h1]
           rfl
         · exact (Tr.ae h').elim
       · exact (Tr.ae h).elim
   | ptrT s r off =>
     cases s with
     | none=>exact Tr.ab h
     | some s =>
       cases s with
       | succ s=>exact Tr.ab h
       | zero =>
         simp only[dE]
         cases r with
         | I k l=>exact Tr.ab h
         | F f m=>exact Tr.ab h
         | G l =>
           obtain ⟨m,h1,h⟩:=Tr.bind_some h
           rw[← Tr.ab h,← eP ih _ _ h1]
         | M l =>
           dsimp only at h ⊢
           cases ha:fU l with
           | true=>rw[ha,cond_true] at h;rw[if_pos rfl];exact Tr.ab h
           | false =>
             rw[ha,cond_false] at h
             obtain ⟨m,h1,h⟩:=Tr.bind_some h
             rw[if_neg (by simp),← Tr.ab h,← g9 ih _ _ h1]
   | slcT s r sz len full =>
     cases s with
     | none=>exact Tr.ab h
     | some s =>
       cases s with
       | succ s=>exact Tr.ab h
       | zero =>
         simp only[dE]
         cases r with
         | I k l=>exact Tr.ab h
         | F f m=>exact Tr.ab h
         | G l =>
           obtain ⟨m,h1,h⟩:=Tr.bind_some h
           rw[← Tr.ab h,← eP ih _ _ h1]
         | M l =>
           dsimp only at h ⊢
           cases ha:fU l with
           | true=>rw[ha,cond_true] at h;rw[if_pos rfl];exact Tr.ab h
           | false =>
             rw[ha,cond_false] at h
             obtain ⟨m,h1,h⟩:=Tr.bind_some h
             rw[if_neg (by simp),← Tr.ab h,← g9 ih _ _ h1]
   | map d i=>cases d<;>exact Tr.ab h
   | yld d i=>cases d<;>exact Tr.ab h
   | fn f a b =>
     obtain ⟨a',h1,h⟩:=Tr.bind_some h
     obtain ⟨b',h2,h⟩:=Tr.bind_some h
     simp only[dE]
     rw[← Tr.ab h,← eP ih _ _ h1,← eP ih _ _ h2]
   | agg r =>
     simp only[dE]
     cases r with
     | I k l=>exact Tr.ab h
     | F f m=>exact Tr.ab h
     | G l =>
       obtain ⟨m,h1,h⟩:=Tr.bind_some h
       rw[← Tr.ab h,← eP ih _ _ h1]
     | M l =>
       obtain ⟨m,h1,h⟩:=Tr.bind_some h
       rw[← Tr.ab h,← g9 ih _ _ h1]
   | tup l =>
     obtain ⟨m,h1,h⟩:=Tr.bind_some h
     simp only[dE]
     rw[← Tr.ab h,← eP ih _ _ h1]
   | _=>exact Tr.ab h

def F2 (l:List HV):Nat→aE:=List.rec (motive:=fun _=>Nat→aE) (fun _=>[]) (fun v _ ih x=>(x,(fm 1 v.1,v.2))::ih (Nat.succ x)) l
theorem A7:∀ (l:List HV) (x:Nat),strip (F2 l x)=fT x (qX l)
 | [],x=>rfl
 | v::l,x=>by
   have e:F2 (v::l) x=(x,(fm 1 v.1,v.2))::F2 l (x+1):=rfl
   rw[e,c6,A7 l];rfl
def hints (f:ar):aE:=List.rec (motive:=fun _=>aE) [] (fun p _ ih=>(p.1,(p.2,none))::ih) f
theorem g8:∀ f:ar,strip (hints f)=f
 | []=>rfl
 | (x,v)::r=>by
   have e:hints ((x,v)::r)=(x,(v,none))::hints r:=rfl
   rw[e,c6,g8 r]
def AG (P:Program) (fr:aE) (H:aa):List ResultVar→Tr (List AV)
 | []=>.ok []
 | .tmp t::r=>(AG P fr H r).bind fun l=>.ok ((lx fr t).1::l)
 | .cell a t::r=>(loadT P H t (bZ fr (.tmp a))).bind fun v=>(AG P fr H r).bind fun l=>.ok (v::l)
theorem wQ {P:Program} {fr:aE} {H:aa}:∀ (l:List ResultVar) (vs:List AV),(AG P fr H l).run=some vs→gL P (strip fr) H l=some vs
 | [],vs,h=>by rw[← Tr.ab h];rfl
 | .tmp t::r,vs,h=>by
   simp only[AG] at h
   obtain ⟨l,h1,h⟩:=Tr.bind_some h
   simp only[gL]
   rw[wQ r l h1,← Tr.ab h,fc];rfl
 | .cell a t::r,vs,h=>by
   simp only[AG] at h
   obtain ⟨v,h0,h⟩:=Tr.bind_some h
   obtain ⟨l,h1,h⟩:=Tr.bind_some h
   have h0:=yv h0
   rw[aL] at h0
   simp only[gL]
   have e:bH (strip fr) (.tmp a)=bo (strip fr) a:=rfl
   rw[e] at h0
   rw[h0]
   dsimp only
   rw[wQ r l h1,← Tr.ab h];rfl
def HS (fr:aE) (rs:List ResultVar):Option Nat :=
 match rs with
 | [.tmp t]=>(lx fr t).2
 | _=>none
def Jz (P:Program) (rs:List ResultVar) (x:nj):Tr (HV×aa) :=
 match x with
 | (e,fr,l::H)=>match e with
   | .normal | .ret=>(AG P fr (l::H) rs).bind fun vs=>(mT l.bs 5 (one vs)).bind fun v=>.ok ((v,HS fr rs),H)
   | _=>.bad
 | _=>.bad
theorem Ha {P:Program} {rs:List ResultVar} {x:nj} {y:HV×aa} (h:(Jz P rs x).run=some y):∃ l vs,x.2.2=l::y.2∧(x.1=.normal∨x.1=.ret)∧gL P (strip x.2.1) x.2.2 rs=some vs∧dE l.bs 5 (one vs)=y.1.1:=by
 unfold Jz at h
 split at h
 · rename_i e fr l H
   have key:((AG P fr (l::H) rs).bind fun vs=>(mT l.bs 5 (one vs)).bind fun v=>Tr.ok (((v,HS fr rs),H):HV×aa)).run=some y→∃ vs,l::H=l::y.2∧gL P (strip fr) (l::H) rs=some vs∧dE l.bs 5 (one vs)=y.1.1:=by
    intro h
    obtain ⟨vs,h1,h⟩:=Tr.bind_some h
    obtain ⟨v,h2,h⟩:=Tr.bind_some h
    have h:=Tr.ab h
    refine ⟨vs,by rw[← h],wQ _ _ h1,?_⟩
    rw[Bm _ _ _ _ h2,← h]
   split at h
   · obtain ⟨vs,h1,h2,h3⟩:=key h;exact ⟨l,vs,h1,.inl rfl,h2,h3⟩
   · obtain ⟨vs,h1,h2,h3⟩:=key h;exact ⟨l,vs,h1,.inr rfl,h2,h3⟩
   · exact (Tr.ae h).elim
 · exact (Tr.ae h).elim
def bn (P:Program) (call:aQ) (fu:Nat) (f:FuncId) (fn:Func) (kt:Nat→Nat) (callR:bE) (bl:gv) (rg:ri) (args:List HV) (H:aa):Tr (HV×aa) :=
 (aG ⟨P,call,fu,f,fn.ntmps,kt,none⟩ callR bl rg (bO fn) (F2 args 0) (⟨false,[]⟩::H)).bind fun x=>Jz P fn.results.toList x
theorem xx {P:Program} {ora:aQ→FuncId→List AV→aa→Option (AV×aa)} {KT:FuncId→Nat→Nat} {fu n:Nat} {f:FuncId} {fn:Func} (hf:P.funcs[f]?=some fn) (hb:fn.body.isSome=true) {args:List HV} {H:aa} (ho:ora (cT P ora KT fu n) f (qX args) H=none) (hle:Nat.ble args.length fn.ntmps=true)
 {callR:bE} (hC:callR.Ok (cT P ora KT fu n)) {bl:gv} (hB:bl.Ok ⟨P,cT P ora KT fu n,fu,f,fn.ntmps,KT f,none⟩ (bO fn)) {rg:ri} (hR:rg.Ok ⟨P,cT P ora KT fu n,fu,f,fn.ntmps,KT f,none⟩ (bO fn)) {y:HV×aa}
 (h:(bn P (cT P ora KT fu n) fu f fn (KT f) callR bl rg args H).run=some y):cT P ora KT fu (n+1) (.fn f) (qX args) H=some (y.1.1,y.2):=by
 unfold bn at h
 obtain ⟨x,h1,h⟩:=Tr.bind_some h
 have h1:=oA hC _ hB hR _ _ _ h1
 rw[A7] at h1
 obtain ⟨l,vs,k1,k2,k3,k4⟩:=Ha h
 obtain ⟨c,hc⟩:=Option.isSome_iff_exists.1 hb
 have hbody:bO fn=c:=by unfold bO;rw[hc]
 rw[hbody] at h1
 obtain ⟨e,fr,H1⟩:=x
 dsimp only[nj.st] at h1 k1 k2 k3
 rw[k1] at h1 k3
 have hl:(qX args).length=args.length:=by unfold qX;rw[jy,List.length_map]
 simp only[cT,ho,hf,hc,hl,hle,if_true,h1]
 rcases k2 with rfl | rfl<;>simp only[k3]<;>rw[k4]

theorem dT {cx:Cx} {id:Nat} {b:Code} {fr fr1:ar} {H H1:aa} (h:iter (exec cx b) (an H) cx.fu fr H=some (.exit id,fr1,H1)):exec cx (.block id (.loop b)) fr H=some (.normal,fr1,H1):=by
 unfold exec
 have:exec cx (.loop b) fr H=some (.exit id,fr1,H1):=by unfold exec;exact h
 rw[this]
 dsimp only
 rw[if_pos (by simp)]
theorem dZ {cx:Cx} {id:Nat} {b:Code} {fr fr1:ar} {H H1:aa} {e:Ex} (he:∀ id',e=.exit id'→Nat.beq id' id=false) (h:iter (exec cx b) (an H) cx.fu fr H=some (e,fr1,H1)):exec cx (.block id (.loop b)) fr H=some (e,fr1,H1):=by
 unfold exec
 have:exec cx (.loop b) fr H=some (e,fr1,H1):=by unfold exec;exact h
 rw[this]
 cases e with
 | exit id'=>dsimp only;rw[if_neg (by rw[he id' rfl];simp)]
 | _=>rfl
def fN (p:Nat→Bool):Nat→Nat→Nat
 | 0,j=>j
 | k+1,j=>if p j then j else fN p k (j+1)
theorem mB (p:Nat→Bool):∀ (k j:Nat),j≤fN p k j∧fN p k j≤j+k∧(∀ i,j≤i→i<fN p k j→p i=false)∧(fN p k j<j+k→p (fN p k j)=true)
 | 0,j=>⟨Nat.le_refl _,Nat.le_refl _,fun i h1 h2=>absurd h2 (by simp only[fN];omega),fun h=>absurd h (by simp only[fN];omega)⟩
 | k + 1,j=>by
   simp only[fN]
   by_cases h:p j=true
   · rw[if_pos h]
     exact ⟨Nat.le_refl _,by omega,fun i h1 h2=>by omega,fun _=>h⟩
   · rw[if_neg h]
     obtain ⟨h1,h2,h3,h4⟩:=mB p k (j+1)
     refine ⟨by omega,by omega,fun i k1 k2=>?_,fun k1=>h4 (by omega)⟩
     by_cases e:i=j
     · subst e;simpa using h
     · exact h3 i (by omega) k2
theorem mE {body:ar→aa→Option (Ex×ar×aa)} {n:Nat} (F:Nat→ar) (G:Nat→aa) (N:Nat) (p:Nat→Bool) (X:Nat→Ex×ar×aa)
 (hs:∀ j,j<N→p j=false→∃ f g,body (F j) (G j)=some (.normal,f,g)∧tidy n f g=(F (j+1),G (j+1)))
 (hh:∀ j,j<N→p j=true→body (F j) (G j)=some (X j)∧(X j).1≠.normal) (he:body (F N) (G N)=some (X N)∧(X N).1≠.normal) :
 ∀ (k j fu:Nat),j+k=N→k<fu→iter body n fu (F j) (G j)=some (X (fN p k j))
 | 0,j,0,_,h=>by omega
 | 0,j,fu+1,hj,_=>by
   have:j=N:=by omega
   subst this
   unfold iter
   rw[he.1]
   obtain ⟨x,hx⟩:∃ x,x=X j:=⟨_,rfl⟩
   have hn:=he.2
   simp only[fN]
   rw[← hx] at hn ⊢
   obtain ⟨e,f,g⟩:=x
   cases e<;>first | exact absurd rfl hn | rfl
 | k+1,j,0,_,h=>by omega
 | k + 1,j,fu+1,hj,hf=>by
   unfold iter
   cases hp:p j with
   | true =>
     obtain ⟨h1,h2⟩:=hh j (by omega) hp
     rw[h1]
     simp only[fN]
     rw[if_pos hp]
     obtain ⟨x,hx⟩:∃ x,x=X j:=⟨_,rfl⟩
     rw[← hx] at h2 ⊢
     obtain ⟨e,f,g⟩:=x
     cases e<;>first | exact absurd rfl h2 | rfl
   | false =>
     obtain ⟨f,g,h1,h2⟩:=hs j (by omega) hp
     rw[h1]
     dsimp only
     rw[h2]
     simp only[fN]
     rw[if_neg (by rw[hp];simp)]
     exact mE F G N p X hs hh he k (j+1) fu (by omega) (by omega)
theorem sq {body:ar→aa→Option (Ex×ar×aa)} {n:Nat} (I:Nat→ar→aa→Prop) (Q:Ex×ar×aa→Prop) (N:Nat)
 (hr:∀ j fr H,I j fr H→(∃ e f g,body fr H=some (e,f,g)∧((e=.normal∧j<N∧I (j+1) (tidy n f g).1 (tidy n f g).2)∨(e≠.normal∧Q (e,f,g))))) :
 ∀ (fu j:Nat) (fr:ar) (H:aa),I j fr H→N-j<fu→∃ x,iter body n fu fr H=some x∧Q x
 | 0,j,fr,H,_,h=>by omega
 | fu+1,j,fr,H,hI,h=>by
   obtain ⟨e,f,g,h1,h2⟩:=hr j fr H hI
   unfold iter
   rw[h1]
   rcases h2 with ⟨rfl,hj,h2⟩ | ⟨he,hq⟩
   · dsimp only
     exact sq I Q N hr fu (j+1) _ _ h2 (by omega)
   · cases e<;>first | exact absurd rfl he | exact ⟨_,rfl,hq⟩

end
end Go.Eng
end
