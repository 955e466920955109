/- The engine as a tree: regions, code, calls. -/
import Derived.Test.YtgphpjdchnfjlaaDoorV6EngTe
set_option linter.unusedVariables false
set_option linter.unusedSimpArgs false
namespace Go.Eng
noncomputable section

def vA (f:aH) (y:Nat) (b:Bool):aH:=List.rec (motive:=fun _=>aH) [] (fun p r ih=>Bool.rec (motive:=fun _=>aH) (p::ih) ((p.1,(.bool b,some 1))::r) (Nat.beq p.1 y)) f
theorem sX:∀ (f:aH) (y:Nat) (b:Bool),bH (strip f) y=.bool b→strip (vA f y b)=strip f
 | [],y,b,_=>rfl
 | (x,v)::r,y,b,h=>by
   have e:vA ((x,v)::r) y b=Bool.rec (motive:=fun _=>aH) ((x,v)::vA r y b) ((x,(.bool b,some 1))::r) (Nat.beq x y):=rfl;rw[cO,bH] at h;rw[e];cases hb:Nat.beq x y with
   | true =>
     rw[hb] at h;have h:v.1=.bool b:=h;show (x,AV.bool b)::strip r=(x,v.1)::strip r;rw[h]
   | false =>
     rw[hb] at h;show (x,v.1)::strip (vA r y b)=(x,v.1)::strip r;rw[sX r y b h]
def ub {α:Type} (fr:aH) (d:Nat) (t e:aH→Tr α):Tr α :=
 match lD fr d with
 | (.bool b,none)=>.ite b (t (vA fr d true)) (e (vA fr d false))
 | (.bool b,some _)=>cond b (t fr) (e fr)
 | _=>.bad
theorem jn {α:Type} {fr:aH} {d:Nat} {t e:aH→Tr α} {x:α} (h:(ub fr d t e).run=some x):∃ b fr',bH (strip fr) d=.bool b∧strip fr'=strip fr∧(if b then t fr' else e fr').run=some x:=by
 unfold ub at h;split at h
 · rename_i b hg;have hg':bH (strip fr) d=.bool b:=by rw[← fe,hg]
   rcases Tr.kh h with ⟨rfl,h⟩ | ⟨rfl,h⟩
   · exact ⟨true,_,hg',sX _ _ _ hg',h⟩
   · exact ⟨false,_,hg',sX _ _ _ hg',h⟩
 · rename_i b n hg;have hg':bH (strip fr) d=.bool b:=by rw[← fe,hg]
   refine ⟨b,fr,hg',rfl,?_⟩;cases b<;>exact h
 · exact (Tr.ah h).elim
def DF (ops:Array Oper) (fr:aH) (o:Oper):Tr (Bool×aH) :=
 match o.guard with
 | none=>.ok (true,fr)
 | some (j,want)=>match (ops[j]?).bind (·.dst) with
   | none=>.bad
   | some d=>match (lD fr d).1 with
     | .bool _=>cond want (ub fr d (fun fr=>.ok (true,fr)) (fun fr=>.ok (false,fr))) (ub fr d (fun fr=>.ok (false,fr)) (fun fr=>.ok (true,fr)))
     | .tup _=>.ok (false,fr)
     | _=>.bad
theorem Ap {ops:Array Oper} {fr:aH} {o:Oper} {r:Bool×aH} (h:(DF ops fr o).run=some r):lI ops (strip fr) o=(if r.1 then .run else .skip)∧strip r.2=strip fr:=by
 unfold DF at h;unfold lI;cases hg:o.guard with
 | none =>
   rw[hg] at h;rw[← Tr.ae h];exact ⟨rfl,rfl⟩
 | some jw =>
   obtain ⟨j,want⟩:=jw;rw[hg] at h;dsimp only at h ⊢;cases hd:(ops[j]?).bind (·.dst) with
   | none=>rw[hd] at h;exact (Tr.ah h).elim
   | some d =>
     rw[hd] at h;dsimp only at h ⊢;have he:=fe fr d;rw[he] at h;cases hv:bH (strip fr) d<;>rw[hv] at h<;>try exact (Tr.ah h).elim
     case bool b =>
      dsimp only at h ⊢
      cases want with
      | true =>
        rw[cond_true] at h
        obtain ⟨b',fr',h1,h2,h3⟩:=jn h
        rw[hv] at h1
        cases h1
        cases b<;>(have h3:=Tr.ae h3;rw[← h3];exact ⟨rfl,h2⟩)
      | false =>
        rw[cond_false] at h
        obtain ⟨b',fr',h1,h2,h3⟩:=jn h
        rw[hv] at h1
        cases h1
        cases b<;>(have h3:=Tr.ae h3;rw[← h3];exact ⟨rfl,h2⟩)
     case tup l=>rw[← Tr.ae h];exact ⟨rfl,rfl⟩

def iH (P:Program) (nt:Nat) (call:aJ) (callR:bt) (ops:Array Oper):List Oper→aH→ab→Tr (aH×ab)
 | [],fr,H=>.ok (fr,H)
 | o::r,fr,H=>(DF ops fr o).bind fun b=>cond b.1
   ((OW o.op o P call callR b.2 H (wx H)).bind fun y=>iH P nt call callR ops r (qJ nt b.2 o.dst y.1) (Su y.2 H))
   (iH P nt call callR ops r (qJ nt b.2 o.dst (.tup [],none)) H)
theorem fz {P:Program} {nt:Nat} {call:aJ} {callR:bt} (hC:callR.Ok call) {ops:Array Oper}:∀ (l:List Oper) (fr:aH) (H:ab) (x:aH×ab),(iH P nt call callR ops l fr H).run=some x→fb P nt call ops l (strip fr) H=some (strip x.1,x.2)
 | [],fr,H,x,h=>by rw[← Tr.ae h];rfl
 | o :: r,fr,H,x,h=>by
   simp only[iH] at h;obtain ⟨b,h1,h⟩:=Tr.bind_some h;unfold fb;obtain ⟨hw,hs⟩:=Ap h1;rw[hw,← hs];obtain ⟨b,fr1⟩:=b;dsimp only at h ⊢;cases b with
   | false =>
     have:=fz hC r _ _ _ h;rw[my] at this;exact this
   | true =>
     rw[cond_true] at h;obtain ⟨y,h2,h⟩:=Tr.bind_some h;have h2:=Bt hC h2;rw[pQ] at h2;have:=fz hC r _ _ _ h;rw[my,Mr] at this;rw[if_pos rfl];dsimp only;rw[h2];exact this

def pg (fr:aH) (o:Oper):Touch:=tG (strip fr) o
def pJ (P:Program) (call:aJ) (callR:bt) (ops:Array Oper) (bef:Nat) (fr0:aH) (H:ab) (nx:Nat) (recs:List Rec) (o:Oper):Tr (ur×Option Nat×aH) :=
 (DF ops fr0 o).bind fun b=>cond b.1
   (cond (fo o) ((OW o.op o P call callR b.2 (sR (l8 bef recs H)) nx).bind fun y=>.ok (⟨y.1.1,.all,none⟩,y.1.2,b.2))
     ((OW o.op o P call callR b.2 (l8 bef recs H) nx).bind fun y=>match y.2 with
       | .bC=>.ok (⟨y.1.1,pg b.2 o,none⟩,y.1.2,b.2)
       | .push q=>cond (jB o && !mc q && rq (nj H 0 nx) && !jP H 0) (.ok (⟨y.1.1,pg b.2 o,some (0,nx,(0,q))⟩,y.1.2,b.2)) .bad
       | .set d i q=>.req (bV (fp (nj H d i).1 q.1) (fp q.1 (Nat.succ (nj H d i).1))) (cond (!mc q.2 && !mc (nj (l8 bef recs H) d i).2 && kn bef d i recs) (.ok (⟨y.1.1,pg b.2 o,some (d,i,q)⟩,y.1.2,b.2)) .bad)
       | _=>.bad))
   (.ok (⟨.tup [],.none,none⟩,none,b.2))
theorem wa {P:Program} {call:aJ} {callR:bt} (hC:callR.Ok call) {ops:Array Oper} {bef:Nat} {fr:aH} {H:ab} {nx:Nat} {recs:List Rec} {o:Oper} {e:ur×Option Nat×aH} (h:(pJ P call callR ops bef fr H nx recs o).run=some e) :
 gO P call ops bef (strip fr) H nx recs o=some e.1∧strip e.2.2=strip fr:=by
 unfold pJ at h
 unfold gO
 simp only[mP,yv,pg,y8,oU,gq] at h
 obtain ⟨b,h1,h⟩:=Tr.bind_some h
 obtain ⟨hw,hs⟩:=Ap h1
 rw[hw,← hs]
 obtain ⟨b,fr1⟩:=b
 dsimp only at h ⊢
 cases b with
 | false =>
   rw[cond_false] at h
   rw[← Tr.ae h];exact ⟨rfl,rfl⟩
 | true =>
   rw[cond_true] at h
   rw[if_pos rfl]
   dsimp only
   cases hcv:fo o with
   | true =>
     rw[hcv,cond_true] at h
     obtain ⟨y,h2,h⟩:=Tr.bind_some h
     rw[if_pos rfl,Bt hC h2,← Tr.ae h]
     exact ⟨rfl,rfl⟩
   | false =>
     rw[hcv,cond_false] at h
     obtain ⟨y,h2,h⟩:=Tr.bind_some h
     rw[if_neg (by simp),Bt hC h2]
     split at h
     · rename_i hy
       rw[hy,← Tr.ae h];exact ⟨rfl,rfl⟩
     · rename_i b hy
       obtain ⟨hc,h⟩:=Tr.aX h
       rw[hy]
       dsimp only
       rw[if_pos hc,← Tr.ae h];exact ⟨rfl,rfl⟩
     · rename_i d i b hy
       obtain ⟨hv,h⟩:=Tr.aU h
       obtain ⟨hc,h⟩:=Tr.aX h
       rw[hy]
       dsimp only
       rw[bZ,kV,kV,Bool.and_eq_true,decide_eq_true_eq,decide_eq_true_eq] at hv
       have hv':(Nat.beq b.1 (az H d i).1 || Nat.beq b.1 (Nat.succ (az H d i).1))=true:=by
        simp only[Bool.or_eq_true,Nat.beq_eq];omega
       simp only[Bool.and_eq_true] at hc
       rw[if_pos (by simp only[Bool.and_eq_true];exact ⟨⟨⟨hc.1.1,hv'⟩,hc.1.2⟩,hc.2⟩),← Tr.ae h];exact ⟨rfl,rfl⟩
     · exact (Tr.ah h).elim
def oG (P:Program) (nt:Nat) (call:aJ) (callR:bt) (ops:Array Oper) (befs:Array Nat):List Oper→Nat→aH→ab→Nat→List Rec→Tr (aH×ab)
 | [],_,fr,H,_,_=>.ok (fr,H)
 | o::r,j,fr,H,nx,recs=>(pJ P call callR ops (befs.getD j 0) fr H nx recs o).bind fun e =>
   oG P nt call callR ops befs r (j+1) (qJ nt e.2.2 o.dst (e.1.v,e.2.1)) (GU H e.1.wr) (if jB o then nx+1 else nx) (⟨j,e.1.rd,e.1.wr.map fun x=>(x.1,x.2.1)⟩::recs)
theorem qo {P:Program} {nt:Nat} {call:aJ} {callR:bt} (hC:callR.Ok call) {ops:Array Oper} {befs:Array Nat}:∀ (l:List Oper) (j:Nat) (fr:aH) (H:ab) (nx:Nat) (recs:List Rec) (x:aH×ab),
 (oG P nt call callR ops befs l j fr H nx recs).run=some x→gE P nt call ops befs j l (strip fr) H nx recs=some (strip x.1,x.2)
 | [],j,fr,H,nx,recs,x,h=>by rw[← Tr.ae h];rfl
 | o::r,j,fr,H,nx,recs,x,h=>by
   simp only[oG] at h;obtain ⟨e,h1,h⟩:=Tr.bind_some h;obtain ⟨hd,hs⟩:=wa hC h1;unfold gE;rw[hd,← hs];have:=qo hC r _ _ _ _ _ _ h;rw[my,GV] at this;exact this

def aP:Code→List (Nat×Code)
 | .block id b=>(id,b)::aP b
 | .loop b=>aP b
 | .seq a b=>aP a++aP b
 | .cond _ a b=>aP a++aP b
 | .scope b=>aP b
 | _=>[]
def bA (f:Func):Code:=match f.body with | some c=>c | none=>.skip
abbrev eB:=Ex×aH×ab
def eB.st (x:eB):Ex×aC×ab:=(x.1,strip x.2.1,x.2.2)
abbrev eV:=Nat→aH→ab→Option (Tr eB)
abbrev om:=Operand→aH→ab→Option (Tr eB)
def eV.Ok (bl:eV) (cx:Cx) (c:Code):Prop:=∀ id b,(id,b) ∈ aP c→∀ fr H t x,bl id fr H=some t→t.run=some x→exec cx (.block id b) (strip fr) H=some x.st
def dX:Code→List (Operand×Array Tmp×Code×Code)
 | .rangeFunc f ps a b=>[(f,ps,a,b)]
 | .loop b=>dX b
 | .block _ b=>dX b
 | .seq a b=>dX a++dX b
 | .cond _ a b=>dX a++dX b
 | .scope b=>dX b
 | _=>[]
def om.Ok (rg:om) (cx:Cx) (c:Code):Prop:=∀ f ps a b,(f,ps,a,b) ∈ dX c→∀ fr H t x,rg f fr H=some t→t.run=some x→exec cx (.rangeFunc f ps a b) (strip fr) H=some x.st
def cV (bl:eV) (id0:Nat) (fr0:aC) (H0:ab) (u:Tr eB):eV:=fun id fr H=>cond (Nat.beq id id0) (some (.reqP (strip fr=fr0∧H=H0) u)) (bl id fr H)
theorem aZ {bl:eV} {cx:Cx} {c:Code} (h:bl.Ok cx c) {id0:Nat} {fr0:aC} {H0:ab} {u:Tr eB} {B:Code} (hB:∀ b,(id0,b) ∈ aP c→b=B) (k:∀ x,u.run=some x→exec cx (.block id0 B) fr0 H0=some x.st):(cV bl id0 fr0 H0 u).Ok cx c:=by
 intro id b hm fr H t y ht hy;unfold cV at ht;cases hb:Nat.beq id id0 with
 | true =>
   have uF:=Nat.eq_of_beq_eq_true hb;subst uF;rw[hb,cond_true,Option.some.injEq] at ht;subst ht;obtain ⟨⟨h1,h2⟩,h3⟩:=Tr.gv hy;rw[h1,h2,hB b hm];exact k y h3
 | false =>
   rw[hb,cond_false] at ht;exact h id b hm fr H t y ht hy
def MD (rg:om) (tf:Operand→Bool) (fr0:aC) (H0:ab) (u:Tr eB):om:=fun f fr H=>cond (tf f) (some (.reqP (strip fr=fr0∧H=H0) u)) (rg f fr H)
theorem G1 {rg:om} {cx:Cx} {c:Code} (h:rg.Ok cx c) {tf:Operand→Bool} {fr0:aC} {H0:ab} {u:Tr eB} (k:∀ f ps a b,tf f=true→(f,ps,a,b) ∈ dX c→∀ x,u.run=some x→exec cx (.rangeFunc f ps a b) fr0 H0=some x.st):(MD rg tf fr0 H0 u).Ok cx c:=by
 intro f ps a b hm fr H t y ht hy;unfold MD at ht;cases hb:tf f with
 | true =>
   rw[hb,cond_true,Option.some.injEq] at ht;subst ht;obtain ⟨⟨h1,h2⟩,h3⟩:=Tr.gv hy;rw[h1,h2];exact k f ps a b hb hm y h3
 | false =>
   rw[hb,cond_false] at ht;exact h f ps a b hm fr H t y ht hy
def aR:eV:=fun _ _ _=>none
def aQ:om:=fun _ _ _=>none
theorem aj (cx:Cx) (c:Code):aR.Ok cx c:=fun _ _ _ _ _ _ _ h=>by cases h
theorem ak (cx:Cx) (c:Code):aQ.Ok cx c:=fun _ _ _ _ _ _ _ _ _ h=>by cases h
def yA (g:AV→AV):aH→aH
 | []=>[]
 | (x,(v,h))::r=>(x,(na g v,h))::yA g r
theorem yB (g:AV→AV):∀ fr:aH,strip (yA g fr)=p8 g (strip fr)
 | []=>rfl
 | (x,(v,h))::r=>by
   have e:yA g ((x,(v,h))::r)=(x,(na g v,h))::yA g r:=rfl;rw[e,cO,cO,p8,yB g r]
def lx (n:Nat):Nat→aH→ab→aH×ab
 | 0,fr,H=>(fr,H)
 | k + 1,fr,H=>match H with
   | []=>(fr,[])
   | l::r=>cond (Nat.ble (kj l.bs) (Nat.succ n)) (fr,l::r) (match hole (strip fr) l.bs 4 n with
     | none=>(fr,l::r)
     | some h=>lx n k (yA (uN (l.bs.length-1) h) fr) (lX n (p8 (uN (l.bs.length-1) h) (strip fr)) (xz (l.bs.length-1) h l::r)))
theorem uc (n:Nat):∀ (k:Nat) (fr:aH) (H:ab),(strip (lx n k fr H).1,(lx n k fr H).2)=jU n k (strip fr) H
 | 0,fr,H=>rfl
 | k+1,fr,[]=>rfl
 | k + 1,fr,l::r=>by
   cases hb:Nat.ble (kj l.bs) (Nat.succ n) with
   | true =>
     have:lx n (k+1) fr (l::r)=(fr,l::r):=by
      unfold lx;dsimp only;rw[hb];rfl
     rw[this,BQ (by rw[eh] at hb;simpa using hb)]
   | false =>
     unfold lx jU;dsimp only;rw[hb,cond_false];cases hole (strip fr) l.bs 4 n with
     | none=>rfl
     | some h =>
       dsimp only;rw[uc n k,yB]
def DB (n:Nat) (fr:aH) (H:ab):aH×ab:=lx n 4 fr (lX n (strip fr) H)
theorem Ho (n:Nat) (fr:aH) (H:ab):(strip (DB n fr H).1,(DB n fr H).2)=tidy n (strip fr) H:=uc n 4 fr _
def CF (body:aH→ab→Tr eB) (n:Nat):Nat→aH→ab→Tr eB
 | 0,_,_=>.bad
 | k+1,fr,H=>(body fr H).bind fun x=>match x with
   | (.normal,fr,H)=>CF body n k (DB n fr H).1 (DB n fr H).2
   | r=>.ok r
theorem vu {body:aC→ab→Option (Ex×aC×ab)} {n:Nat}:∀ (k m:Nat) (fr:aC) (H:ab) (x:Ex×aC×ab),iter body n k fr H=some x→k≤m→iter body n m fr H=some x
 | 0,m,fr,H,x,h,_=>by simp[iter] at h
 | k+1,0,fr,H,x,h,hk=>by omega
 | k + 1,m+1,fr,H,x,h,hk=>by
   unfold iter at h ⊢;cases hb:body fr H with
   | none=>rw[hb] at h;simp at h
   | some y =>
     rw[hb] at h;obtain ⟨e,f,g⟩:=y;cases e;case normal=>exact vu k m _ _ _ h wO
     all_goals exact h
theorem yj {body:aH→ab→Tr eB} {body':aC→ab→Option (Ex×aC×ab)} {n:Nat} (hb:∀ fr H x,(body fr H).run=some x→body' (strip fr) H=some x.st):∀ (k:Nat) (fr:aH) (H:ab) (x:eB),(CF body n k fr H).run=some x→iter body' n k (strip fr) H=some x.st
 | 0,fr,H,x,h=>(Tr.ah h).elim
 | k+1,fr,H,x,h=>by
   simp only[CF] at h;obtain ⟨y,h1,h⟩:=Tr.bind_some h;unfold iter;rw[hb _ _ _ h1];obtain ⟨e,f,g⟩:=y;cases e;case normal =>
    have e:=Ho n f g
    have h:=yj hb k _ _ _ h
    show iter body' n k (tidy n (strip f) g).1 (tidy n (strip f) g).2=_
    rw[← e];exact h
   all_goals
    have h:=Tr.ae h
    rw[← h];rfl
def nN (f:AV→Tr AV):List AV→Tr (List AV)
 | []=>.ok []
 | v::l=>(f v).bind fun u=>(nN f l).bind fun m=>.ok (u::m)
theorem eS {f:AV→Tr AV} {g:AV→AV} (hf:∀ v u,(f v).run=some u→g v=u):∀ (l m:List AV),(nN f l).run=some m→l.map g=m
 | [],m,h=>Tr.ae h
 | v::l,m,h=>by
   simp only[nN] at h;obtain ⟨u,h1,h⟩:=Tr.bind_some h;obtain ⟨n,h2,h⟩:=Tr.bind_some h;rw[← Tr.ae h,List.map_cons,hf _ _ h1,eS hf l n h2]
def mh (f:AV→Tr AV):List dj→Tr (List dj)
 | []=>.ok []
 | .one v::l=>(f v).bind fun u=>(mh f l).bind fun m=>.ok (.one u::m)
 | .arr k z n::l=>(mh f l).bind fun m=>.ok (.arr k z n::m)
theorem gT {f:AV→Tr AV} {g:AV→AV} (hf:∀ v u,(f v).run=some u→g v=u):∀ (l m:List dj),(mh f l).run=some m→mapM' g l=m
 | [],m,h=>Tr.ae h
 | .one v::l,m,h=>by
   simp only[mh] at h;obtain ⟨u,h1,h⟩:=Tr.bind_some h;obtain ⟨n,h2,h⟩:=Tr.bind_some h;rw[← Tr.ae h,mapM',hf _ _ h1,gT hf l n h2]
 | .arr k z n::l,m,h=>by
   simp only[mh] at h;obtain ⟨n,h2,h⟩:=Tr.bind_some h;rw[← Tr.ae h,mapM',gT hf l n h2]
def qm (cap:Option Nat) (len:Nat):Bool :=
 match cap with
 | none=>false
 | some c=>cg c len
theorem j6 (cap:Option Nat) (len:Nat):qm cap len=(cap == some len):=by
 cases cap with
 | none=>rfl
 | some c=>simp only[qm,ft];rw[Bool.eq_iff_iff];simp
def yd (i ver:Nat) (r:Row):AV→Tr AV
 | .ptr d j v off=>cond (Nat.beq d 0 && Nat.beq j i) (.req (cg v ver) (.ok (.ptrT none r off))) (.ok (.ptr d j v off))
 | .slc d j v off sz len cap=>cond (Nat.beq d 0 && Nat.beq j i) (.req (cg v ver) (match r with
    | .M [.arr k z N]=>.req (eD off (fK len sz) 0 N) (.ok (.slcT none (.M [.arr k (rJ z off) (fK len sz)]) sz len (qm cap len)))
    | .I k l=>cond (uC (.I k l) off (Nat.mul len sz)) (.ok (.slcT none (.I k (lH (lB l off) (Nat.mul len sz))) sz len (qm cap len))) .bad
    | _=>.bad)) (.ok (.slc d j v off sz len cap))
 | v=>.ok v
theorem vc {d j i:Nat} {x:Bool} (h:(Nat.beq d 0 && Nat.beq j i)=true):(Nat.beq d 0 && (Nat.beq j i && x))=x:=by
 rw[Bool.and_eq_true] at h;rw[h.1,h.2];rfl
theorem ve {d j i:Nat} {x:Bool} (h:(Nat.beq d 0 && Nat.beq j i)=false):(Nat.beq d 0 && (Nat.beq j i && x))=false:=by
 rw[← Bool.and_assoc,h];rfl
theorem ye {i ver:Nat} {r:Row}:∀ v u,(yd i ver r v).run=some u→m9 i ver r v=u:=by
 intro v u h;cases v with
 | ptr d j v off =>
   simp only[yd] at h;simp only[m9];cases hc:(Nat.beq d 0 && Nat.beq j i) with
   | false=>rw[hc,cond_false] at h;rw[ve hc,if_neg (by simp)];exact Tr.ae h
   | true =>
     rw[hc,cond_true] at h;obtain ⟨h1,h⟩:=Tr.aU h;rw[ft,decide_eq_true_eq] at h1;rw[vc hc,if_pos (by simpa using h1)];exact Tr.ae h
 | slc d j v off sz len cap =>
   simp only[yd] at h;simp only[m9];cases hc:(Nat.beq d 0 && Nat.beq j i) with
   | false=>rw[hc,cond_false] at h;rw[ve hc,if_neg (by simp)];exact Tr.ae h
   | true =>
     rw[hc,cond_true] at h;obtain ⟨h1,h2⟩:=Tr.aU h;clear h;rw[ft,decide_eq_true_eq] at h1;rw[vc hc];split at h2
     · obtain ⟨h3,h⟩:=Tr.aU h2;rw[jQ,decide_eq_true_eq,cP] at h3;rw[if_pos (by simp[h1,Row.len,aA,aT];omega),← Tr.ae h,j6,cP,mG];rfl
     · obtain ⟨h3,h⟩:=Tr.aX h2;rw[kN,decide_eq_true_eq] at h3;rw[if_pos (by simp only[h1,Bool.and_eq_true];exact ⟨by simp,Nat.ble_eq_true_of_le h3⟩),← Tr.ae h,j6,hJ,gP];rfl
     · exact (Tr.ah h2).elim
 | _=>exact Tr.ae h
def yC (f:AV→Tr AV) (v:AV):Tr AV :=
 match v with
 | .agg (.G l)=>(nN f l).bind fun m=>.ok (.agg (.G m))
 | .agg (.M l)=>(mh f l).bind fun m=>.ok (.agg (.M m))
 | .fn g a b=>(nN f a).bind fun a'=>(nN f b).bind fun b'=>.ok (.fn g a' b')
 | v=>f v
theorem sW {f:AV→Tr AV} {g:AV→AV} (hf:∀ v u,(f v).run=some u→g v=u):∀ v u,(yC f v).run=some u→na g v=u:=by
 intro v u h;unfold yC at h;split at h
 · obtain ⟨m,h1,h⟩:=Tr.bind_some h;rw[← Tr.ae h,← eS hf _ _ h1];rfl
 · obtain ⟨m,h1,h⟩:=Tr.bind_some h;rw[← Tr.ae h,← gT hf _ _ h1];rfl
 · obtain ⟨a',h1,h⟩:=Tr.bind_some h;obtain ⟨b',h2,h⟩:=Tr.bind_some h;rw[← Tr.ae h,← eS hf _ _ h1,← eS hf _ _ h2];rfl
 · rename_i n1 n2 n3;have:=hf _ _ h;rw[← this];unfold na;split
   · exact absurd rfl (n1 _)
   · exact absurd rfl (n2 _)
   · exact absurd rfl (n3 _ _ _)
   · rfl
def Gm (f:AV→Tr AV):an→Tr an
 | .row r=>match r with
   | .G l=>(nN (yC f) l).bind fun m=>.ok (.row (.G m))
   | .M l=>(mh (yC f) l).bind fun m=>.ok (.row (.M m))
   | r=>.ok (.row r)
 | b=>.ok b
theorem Gn {f:AV→Tr AV} {g:AV→AV} (hf:∀ v u,(f v).run=some u→g v=u) (b u:an) (h:(Gm f b).run=some u):p7 g b=u:=by
 cases b with
 | row r =>
   simp only[Gm] at h;cases r with
   | G l =>
     obtain ⟨m,h1,h⟩:=Tr.bind_some h;rw[← Tr.ae h,← eS (sW hf) _ _ h1];rfl
   | M l =>
     obtain ⟨m,h1,h⟩:=Tr.bind_some h;rw[← Tr.ae h,← gT (sW hf) _ _ h1];rfl
   | I k l=>rw[← Tr.ae h];rfl
   | F z n=>rw[← Tr.ae h];rfl
 | dead=>exact Tr.ae h
 | map es=>exact Tr.ae h
 | fmap kq f g c=>exact Tr.ae h
 | loop l=>exact Tr.ae h
def wD (f:AV→Tr AV):List (Nat×an)→Tr (List (Nat×an))
 | []=>.ok []
 | (v,b)::r=>(Gm f b).bind fun b'=>(wD f r).bind fun r'=>.ok ((v,b')::r')
theorem vz {f:AV→Tr AV} {g:AV→AV} (hf:∀ v u,(f v).run=some u→g v=u):∀ (l m:List (Nat×an)),(wD f l).run=some m→jA g l=m
 | [],m,h=>Tr.ae h
 | (v,b)::r,m,h=>by
   simp only[wD] at h;obtain ⟨b',h1,h⟩:=Tr.bind_some h;obtain ⟨r',h2,h⟩:=Tr.bind_some h;rw[← Tr.ae h,jA,Gn hf _ _ h1,vz hf r r' h2]
def CN (f:AV→Tr AV):aH→Tr aH
 | []=>.ok []
 | (x,(v,h))::r=>(yC f v).bind fun v'=>(CN f r).bind fun r'=>.ok ((x,(v',h))::r')
theorem yz {f:AV→Tr AV} {g:AV→AV} (hf:∀ v u,(f v).run=some u→g v=u):∀ (l m:aH),(CN f l).run=some m→p8 g (strip l)=strip m
 | [],m,h=>by rw[← Tr.ae h];rfl
 | (x,(v,hh))::r,m,h=>by
   simp only[CN] at h;obtain ⟨v',h1,h⟩:=Tr.bind_some h;obtain ⟨r',h2,h⟩:=Tr.bind_some h;rw[← Tr.ae h,cO,cO,p8,sW hf _ _ h1,yz hf r r' h2]
def sF (i:Nat) (fr:aH) (l:bG):Tr (aH×bG) :=
 match Bo l.bs i with
 | (ver,.row r)=>cond (wA r && (DK (fun x=>pF (pq i) x.2) (strip fr) || DK (fun x=>MI (pq i) x.2) l.bs)) ((CN (yd i ver r) fr).bind fun fr'=>(wD (yd i ver r) l.bs).bind fun bs'=>.ok (fr',{ l with bs:=bK bs' i (ver,.dead) })) (.ok (fr,l))
 | _=>.ok (fr,l)
theorem pS {i:Nat} {fr:aH} {l:bG} {y:aH×bG} (h:(sF i fr l).run=some y):ma i (strip fr) l=(strip y.1,y.2):=by
 unfold sF at h;unfold ma;rw[rC] at h;split at h
 · rename_i ver r hb;rw[hb];dsimp only;rw[q8,q8] at h;cases hc:(wA r && ((strip fr).any (fun x=>pF (pq i) x.2) || l.bs.any (fun x=>MI (pq i) x.2))) with
   | true =>
     rw[hc,cond_true] at h;obtain ⟨fr',h1,h⟩:=Tr.bind_some h;obtain ⟨bs',h2,h⟩:=Tr.bind_some h;rw[if_pos rfl,yz ye _ _ h1,vz ye _ _ h2,← Tr.ae h]
   | false =>
     rw[hc,cond_false] at h;rw[if_neg (by simp),← Tr.ae h]
 · rename_i hno;have h:=Tr.ae h;subst h;split
   · rename_i ver r hb;exact absurd hb (hno ver r)
   · rfl
def rk:Nat→aH→bG→Tr (aH×bG)
 | 0,fr,l=>.ok (fr,l)
 | n+1,fr,l=>(rk n fr l).bind fun y=>sF n y.1 y.2
theorem sD:∀ (n:Nat) (fr:aH) (l:bG) (y:aH×bG),(rk n fr l).run=some y→iX n (strip fr) l=(strip y.1,y.2)
 | 0,fr,l,y,h=>by rw[← Tr.ae h];rfl
 | n+1,fr,l,y,h=>by
   simp only[rk] at h;obtain ⟨z,h1,h⟩:=Tr.bind_some h;have h1:=sD n fr l z h1;simp only[iX];rw[h1];exact pS h
def oW:Nat→aH→bG→Tr (aH×bG)
 | 0,fr,l=>.ok (fr,l)
 | n+1,fr,l=>(oW n fr l).bind fun y=>cond (DK (fun x=>pF (pq n) x.2) (strip y.1)) (.ok y) (sF n y.1 y.2)
theorem qy:∀ (n:Nat) (fr:aH) (l:bG) (y:aH×bG),(oW n fr l).run=some y→ef n (strip fr) l=(strip y.1,y.2)
 | 0,fr,l,y,h=>by rw[← Tr.ae h];rfl
 | n + 1,fr,l,y,h=>by
   simp only[oW] at h;obtain ⟨z,h1,h⟩:=Tr.bind_some h;have h1:=qy n fr l z h1;simp only[ef];rw[h1];dsimp only;rw[q8] at h;cases hc:(strip z.1).any (fun x=>pF (pq n) x.2) with
   | true =>
     rw[hc,cond_true] at h;rw[if_pos rfl,Tr.ae h]
   | false =>
     rw[hc,cond_false] at h;rw[if_neg (by simp)];exact pS h
def CI (s:Nat):aH→Option Nat
 | []=>none
 | (x,(v,_))::r=>cond (Nat.beq x s) (match v with
   | .slc 0 i _ _ _ _ _=>some i
   | _=>none) (CI s r)
theorem yp (s:Nat):∀ fr:aH,CI s fr=CH s (strip fr)
 | []=>rfl
 | (x,(v,h))::r=>by
   rw[cO];simp only[CI,CH,yp s r];cases Nat.beq x s<;>rfl
def wz (s:Nat) (fr:aH) (H:ab):Tr (aH×ab) :=
 match H with
 | []=>.ok (fr,[])
 | l::r=>cond l.lock (.ok (fr,l::r)) (match CI s fr with
   | some i=>(sF i fr l).bind fun y=>.ok (y.1,y.2::r)
   | none=>.ok (fr,l::r))
theorem A7 {s:Nat} {fr:aH} {H:ab} {y:aH×ab} (h:(wz s fr H).run=some y):wy s (strip fr) H=(strip y.1,y.2):=by
 unfold wz at h;unfold wy;cases H with
 | nil=>rw[← Tr.ae h]
 | cons l r =>
   dsimp only at h ⊢;cases hl:l.lock with
   | true =>
     rw[hl,cond_true] at h;rw[if_pos rfl,← Tr.ae h]
   | false =>
     rw[hl,cond_false,yp] at h;rw[if_neg (by simp)];split at h
     · rename_i i hi;obtain ⟨z,h1,h⟩:=Tr.bind_some h;have h1:=pS h1;rw[hi];dsimp only;rw[h1,← Tr.ae h]
     · rename_i hi;rw[hi,← Tr.ae h]
def rl (m:Nat) (fr:aH) (H:ab):Tr (aH×ab) :=
 cond (iE m 4000) (match H with
  | []=>.ok (gp fr m,[])
  | l::r=>cond l.lock (.ok (gp fr m,l::r)) ((rk (kj l.bs) (gp fr m) l).bind fun y=>.ok (y.1,cond (Nat.beq (Nat.shiftRight m 4003) 0) (y.2::r) (uP (Nat.shiftRight m 4003) (y.2::r))))) (cond (iE m 4001) (wz (Nat.shiftRight m 4003) (gp fr m) H) (cond (iE m 4002) (ub (gp fr m) (Nat.shiftRight m 4003) (fun fr=>.ok (fr,H)) (fun fr=>match H with
  | []=>.ok (fr,[])
  | l::r=>cond l.lock (.ok (fr,l::r)) ((oW (kj l.bs) fr l).bind fun y=>.ok (y.1,y.2::r)))) (.ok (gp fr m,H))))
theorem sG {m:Nat} {fr:aH} {H:ab} {y:aH×ab} (h:(rl m fr H).run=some y):iY m (strip fr) H=(strip y.1,y.2):=by
 unfold rl at h;unfold iY;cases hm:iE m 4000 with
 | false =>
   rw[hm,cond_false] at h;rw[if_neg (by simp)];cases hm2:iE m 4001 with
   | false =>
     rw[hm2,cond_false] at h;rw[if_neg (by simp)];cases hm3:iE m 4002 with
     | false =>
       rw[hm3,cond_false] at h;rw[if_neg (by simp),← Tr.ae h,eQ]
     | true =>
       rw[hm3,cond_true] at h;rw[if_pos rfl];obtain ⟨b,fr',h1,h2,h3⟩:=jn h;rw[eQ] at h1 h2;rw[h1];cases b with
       | true =>
         simp only[if_true] at h3;rw[← Tr.ae h3,h2]
       | false =>
         simp only[Bool.false_eq_true,if_false] at h3;cases H with
         | nil =>
           dsimp only at h3;rw[← Tr.ae h3,← h2];rfl
         | cons l r =>
           dsimp only at h3;show uG (bN (strip fr) m) (l::r)=_;rw[← h2];unfold uG;dsimp only;cases hl:l.lock with
           | true =>
             rw[hl,cond_true] at h3;rw[if_pos rfl,← Tr.ae h3]
           | false =>
             rw[hl,cond_false] at h3;obtain ⟨z,h4,h5⟩:=Tr.bind_some h3;have h4:=qy _ _ _ _ h4;rw[eh] at h4;rw[if_neg (by simp),h4,← Tr.ae h5]
   | true =>
     rw[hm2,cond_true] at h;rw[if_pos rfl];have h1:=A7 h;rw[eQ] at h1;exact h1
 | true =>
   rw[hm,cond_true] at h;rw[if_pos rfl];cases H with
   | nil =>
     rw[← Tr.ae h,eQ];simp only[D5,uP,ite_self]
   | cons l r =>
     dsimp only at h;unfold D5;dsimp only;cases hl:l.lock with
     | true =>
       rw[hl,cond_true] at h;simp only[if_true];rw[← Tr.ae h,eQ];simp only[uP,hl,if_true,ite_self]
     | false =>
       rw[hl,cond_false] at h;obtain ⟨z,h1,h⟩:=Tr.bind_some h;have h1:=sD _ _ _ _ h1;rw[eh,eQ] at h1;simp only[Bool.false_eq_true,if_false,h1];rw[← Tr.ae h];cases Nat.beq (Nat.shiftRight m 4003) 0<;>rfl
def I2:aH→aH
 | []=>[]
 | (x,(v,h))::r=>(x,(vC v,h))::I2 r
theorem th:∀ fr:aH,strip (I2 fr)=Eg (strip fr)
 | []=>rfl
 | (x,(v,h))::r=>by
   simp only[I2,cO,Eg,tg,th r]
def rm (m:Nat) (fr:aH) (H:ab):Tr (aH×ab) :=
 cond (iE m 3998) ((rl m fr H).bind fun y=>ub y.1 (Nat.shiftRight m 4003) (fun fr=>.ok (fr,y.2)) (fun fr=>.ok (fr,uP (Nat.shiftRight m 3985 % 4096) y.2))) (rl m fr H)
theorem sH {m:Nat} {fr:aH} {H:ab} {y:aH×ab} (h:(rm m fr H).run=some y):kT m (strip fr) H=(strip y.1,y.2):=by
 unfold rm at h;unfold kT;cases hm:iE m 3998 with
 | false =>
   rw[hm,cond_false] at h;rw[if_neg (by simp)];exact sG h
 | true =>
   rw[hm,cond_true] at h;rw[if_pos rfl];obtain ⟨z,h1,h⟩:=Tr.bind_some h;have h1:=sG h1;obtain ⟨b,fr',h2,h3,h4⟩:=jn h;rw[h1];dsimp only;rw[h2];cases b with
   | true =>
     simp only[if_true] at h4;rw[← Tr.ae h4,h3]
   | false =>
     simp only[Bool.false_eq_true,if_false] at h4;rw[← Tr.ae h4,h3]
def CT (s sz:Nat):aH→aH
 | []=>[]
 | (x,(v,h))::r=>(x,(cond (Nat.beq x s) (IY sz v) v,h))::CT s sz r
theorem qG (s sz:Nat):∀ fr:aH,strip (CT s sz fr)=Ee s sz (strip fr)
 | []=>rfl
 | (x,(v,h))::r=>by
   simp only[CT,cO,Ee,qG s sz r]
def rn (m:Nat) (fr:aH) (H:ab):Tr (aH×ab) :=
 cond (iE m 3997) ((rm m fr H).bind fun y=>.ok (CT (Nat.shiftRight m 3985 % 4096 / 8) (Nat.shiftRight m 3985 % 8) y.1,y.2)) (rm m fr H)
theorem sI {m:Nat} {fr:aH} {H:ab} {y:aH×ab} (h:(rn m fr H).run=some y):kU m (strip fr) H=(strip y.1,y.2):=by
 unfold rn at h;unfold kU;cases hm:iE m 3997 with
 | false =>
   rw[hm,cond_false] at h;rw[if_neg (by simp)];exact sH h
 | true =>
   rw[hm,cond_true] at h;rw[if_pos rfl];obtain ⟨z,h1,h⟩:=Tr.bind_some h;have h1:=sH h1;rw[h1,← Tr.ae h,qG]
def A6 (m:Nat) (fr:aH) (H:ab):Tr (aH×ab) :=
 cond (iE m 3999) ((rn m fr H).bind fun y=>.ok (I2 y.1,y.2)) (rn m fr H)
theorem D6 {m:Nat} {fr:aH} {H:ab} {y:aH×ab} (h:(A6 m fr H).run=some y):oX m (strip fr) H=(strip y.1,y.2):=by
 unfold A6 at h;unfold oX;cases hm:iE m 3999 with
 | false =>
   rw[hm,cond_false] at h;rw[if_neg (by simp)];exact sI h
 | true =>
   rw[hm,cond_true] at h;rw[if_pos rfl];obtain ⟨z,h1,h⟩:=Tr.bind_some h;have h1:=sI h1;rw[h1,← Tr.ae h,th]
def aS (cx:Cx) (callR:bt) (bl:eV) (rg:om):Code→aH→ab→Tr eB
 | .skip,fr,H=>.ok (.normal,fr,H)
 | .label _,fr,H=>.ok (.normal,fr,H)
 | .exit id,fr,H=>.ok (.exit id,fr,H)
 | .goto l,fr,H=>.ok (.goto l,fr,H)
 | .ret,fr,H=>.ok (.ret,fr,H)
 | .region id ops draw,fr,H =>
   (cond draw (cond (gd ops (Region.before ops)) (oG cx.P cx.nt cx.call callR ops (Region.before ops) ops.toList 0 fr (nF H (c8 ops.toList)) (wx H) []) .bad) (iH cx.P cx.nt cx.call callR ops ops.toList fr H)).bind fun x=>(A6 (cx.kt id) x.1 x.2).bind fun y=>.ok (.normal,y.1,y.2)
 | .seq a b,fr,H=>(aS cx callR bl rg a fr H).bind fun x=>match x with
   | (.normal,fr,H)=>aS cx callR bl rg b fr H
   | r=>.ok r
 | .cond c a b,fr,H=>match c with
   | .tmp d=>ub fr d (fun fr=>aS cx callR bl rg a fr H) (fun fr=>aS cx callR bl rg b fr H)
   | c=>match (b8 fr c).1 with
     | .bool t=>cond t (aS cx callR bl rg a fr H) (aS cx callR bl rg b fr H)
     | _=>.bad
 | .block id b,fr,H=>match bl id fr H with
   | some t=>t
   | none=>(aS cx callR bl rg b fr H).bind fun x=>match x with
     | (.exit id',fr,H)=>cond (Nat.beq id' id) (.ok (.normal,fr,H)) (.ok (.exit id',fr,H))
     | r=>.ok r
 | .scope b,fr,H=>(aS cx callR bl rg b fr H).bind fun x=>match x with
   | (.goto _,_,_)=>.bad
   | r=>.ok r
 | .rangeFunc f _ _ _,fr,H=>match rg f fr H with
   | some t=>t
   | none=>.bad
 | .loop b,fr,H=>cond (Nat.ble 12 cx.fu) (CF (aS cx callR bl rg b) (wx H) 12 fr H) .bad
 | .refuse _,_,_=>.bad

theorem fQ {cx:Cx} {callR:bt} {bl:eV} {rg:om} (hC:callR.Ok cx.call):∀ (c:Code),bl.Ok cx c→rg.Ok cx c→∀ (fr:aH) (H:ab) (x:eB),(aS cx callR bl rg c fr H).run=some x→exec cx c (strip fr) H=some x.st:=by
 intro c;induction c with
 | skip=>intro _ _ fr H x h;rw[← Tr.ae h];rfl
 | label=>intro _ _ fr H x h;rw[← Tr.ae h];rfl
 | exit=>intro _ _ fr H x h;rw[← Tr.ae h];rfl
 | goto=>intro _ _ fr H x h;rw[← Tr.ae h];rfl
 | ret=>intro _ _ fr H x h;rw[← Tr.ae h];rfl
 | refuse=>intro _ _ fr H x h;exact (Tr.ah h).elim
 | loop b ih =>
   intro hb hr fr H x h;simp only[aS] at h;obtain ⟨hk,h⟩:=Tr.aX h;rw[Nat.ble_eq] at hk;unfold exec;rw[pQ] at h;exact vu _ _ _ _ _ (yj (fun fr H x h=>ih hb hr fr H x h) 12 fr H x h) hk
 | rangeFunc f ps a b =>
   intro _ hr fr H x h;simp only[aS] at h;split at h
   · rename_i t ht;exact hr f ps a b (by simp[dX]) fr H t x ht h
   · exact (Tr.ah h).elim
 | region id ops draw =>
   intro _ _ fr H x h;simp only[aS] at h;obtain ⟨y,h1,h⟩:=Tr.bind_some h;obtain ⟨z,h2,h⟩:=Tr.bind_some h;have h2:=D6 h2;rw[← Tr.ae h];unfold exec;cases draw with
   | true =>
     rw[cond_true] at h1;obtain ⟨hs,h1⟩:=Tr.aX h1;rw[pQ] at h1;simp only[if_true,hs];rw[qo hC _ _ _ _ _ _ _ h1];dsimp only;rw[h2];rfl
   | false =>
     rw[cond_false] at h1;simp only[Bool.false_eq_true,if_false];rw[fz hC _ _ _ _ h1];dsimp only;rw[h2];rfl
 | seq a b iha ihb =>
   intro hb hr fr H x h;have hba:bl.Ok cx a:=fun id b' hm=>hb id b' (List.mem_append_left _ hm);have hbb:bl.Ok cx b:=fun id b' hm=>hb id b' (List.mem_append_right _ hm);have hra:rg.Ok cx a:=fun f ps u v hm=>hr f ps u v (List.mem_append_left _ hm);have hrb:rg.Ok cx b:=fun f ps u v hm=>hr f ps u v (List.mem_append_right _ hm);simp only[aS] at h;obtain ⟨y,h1,h⟩:=Tr.bind_some h;have h1:=iha hba hra _ _ _ h1;unfold exec;rw[h1];obtain ⟨e,fr1,H1⟩:=y;cases e;case normal=>exact ihb hbb hrb _ _ _ h
   all_goals
    have h:=Tr.ae h
    rw[← h];rfl
 | cond c a b iha ihb =>
   intro hb hr fr H x h;have hba:bl.Ok cx a:=fun id b' hm=>hb id b' (List.mem_append_left _ hm);have hbb:bl.Ok cx b:=fun id b' hm=>hb id b' (List.mem_append_right _ hm);have hra:rg.Ok cx a:=fun f ps u v hm=>hr f ps u v (List.mem_append_left _ hm);have hrb:rg.Ok cx b:=fun f ps u v hm=>hr f ps u v (List.mem_append_right _ hm);simp only[aS] at h;unfold exec;split at h
   · rename_i d;obtain ⟨b',fr',h1,h2,h3⟩:=jn h;have e:bU (strip fr) (.tmp d)=.bool b':=h1;rw[e,← h2];cases b' with
     | true=>exact iha hba hra _ _ _ h3
     | false=>exact ihb hbb hrb _ _ _ h3
   · rename_i c' hne;rw[bf] at h;split at h
     · rename_i t hc;rw[hc];cases t with
       | true=>exact iha hba hra _ _ _ h
       | false=>exact ihb hbb hrb _ _ _ h
     · exact (Tr.ah h).elim
 | block id b ih =>
   intro hb hr fr H x h;have hbb:bl.Ok cx b:=fun id' b' hm=>hb id' b' (by simp only[aP];exact List.mem_cons_of_mem _ hm);simp only[aS] at h;split at h
   · rename_i t ht;exact hb id b (by simp[aP]) _ _ _ _ ht h
   · obtain ⟨y,h1,h⟩:=Tr.bind_some h;have h1:=ih hbb hr _ _ _ h1;unfold exec;rw[h1];obtain ⟨e,fr1,H1⟩:=y;cases e;case exit id' =>
      dsimp only[eB.st] at h ⊢
      rw[Ie] at h
      split at h
      · rename_i uF
        rw[if_pos uF,← Tr.ae h]
      · rename_i uF
        rw[if_neg uF,← Tr.ae h]
     all_goals
      have h:=Tr.ae h
      rw[← h];rfl
 | scope b ih =>
   intro hb hr fr H x h;simp only[aS] at h;obtain ⟨y,h1,h⟩:=Tr.bind_some h;have h1:=ih hb hr _ _ _ h1;unfold exec;rw[h1];obtain ⟨e,fr1,H1⟩:=y;cases e;case goto=>exact (Tr.ah h).elim
   all_goals
    have h:=Tr.ae h
    rw[← h];rfl

end
end Go.Eng
