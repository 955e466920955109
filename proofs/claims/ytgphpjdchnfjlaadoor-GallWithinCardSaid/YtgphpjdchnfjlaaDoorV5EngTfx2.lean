/- The engine as a tree: regions, code, calls. -/
import Derived.Test.YtgphpjdchnfjlaaDoorV5EngTe
set_option linter.unusedVariables false
set_option linter.unusedSimpArgs false
section
namespace Go.Eng
noncomputable section

def wb (f:aT) (y:Nat) (b:Bool):aT:=List.rec (motive:=fun _=>aT) [] (fun p r ih=>Bool.rec (motive:=fun _=>aT) (p::ih) ((p.1,(.bool b,some 1))::r) (Nat.beq p.1 y)) f
theorem tx:∀ (f:aT) (y:Nat) (b:Bool),bM (strip f) y=.bool b→strip (wb f y b)=strip f
 | [],y,b,_=>rfl
 | (x,v)::r,y,b,h=>by
   have e:wb ((x,v)::r) y b=Bool.rec (motive:=fun _=>aT) ((x,v)::wb r y b) ((x,(.bool b,some 1))::r) (Nat.beq x y):=rfl;rw[dg,bM] at h;rw[e];cases hb:Nat.beq x y with
   | true =>
     rw[hb] at h;have h:v.1=.bool b:=h;show (x,AV.bool b)::strip r=(x,v.1)::strip r;rw[h]
   | false =>
     rw[hb] at h;show (x,v.1)::strip (wb r y b)=(x,v.1)::strip r;rw[tx r y b h]
def wD {α:Type} (fr:aT) (d:Nat) (t e:aT→Tr α):Tr α :=
 match lU fr d with
 | (.bool b,none)=>.ite b (t (wb fr d true)) (e (wb fr d false))
 | (.bool b,some _)=>cond b (t fr) (e fr)
 | _=>.bad
theorem lO {α:Type} {fr:aT} {d:Nat} {t e:aT→Tr α} {x:α} (h:(wD fr d t e).run=some x):∃ b fr',bM (strip fr) d=.bool b∧strip fr'=strip fr∧(if b then t fr' else e fr').run=some x:=by
 unfold wD at h;split at h
 · rename_i b hg;have hg':bM (strip fr) d=.bool b:=by rw[← fp,hg]
   rcases Tr.kD h with ⟨rfl,h⟩ | ⟨rfl,h⟩
   · exact ⟨true,_,hg',tx _ _ _ hg',h⟩
   · exact ⟨false,_,hg',tx _ _ _ hg',h⟩
 · rename_i b n hg;have hg':bM (strip fr) d=.bool b:=by rw[← fp,hg]
   refine ⟨b,fr,hg',rfl,?_⟩;cases b<;>exact h
 · exact (Tr.ai h).elim
def D6 (ops:Array Oper) (fr:aT) (o:Oper):Tr (Bool×aT) :=
 match o.guard with
 | none=>.ok (true,fr)
 | some (j,want)=>match (ops[j]?).bind (·.dst) with
   | none=>.bad
   | some d=>match (lU fr d).1 with
     | .bool _=>cond want (wD fr d (fun fr=>.ok (true,fr)) (fun fr=>.ok (false,fr))) (wD fr d (fun fr=>.ok (false,fr)) (fun fr=>.ok (true,fr)))
     | .tup _=>.ok (false,fr)
     | _=>.bad
theorem A0 {ops:Array Oper} {fr:aT} {o:Oper} {r:Bool×aT} (h:(D6 ops fr o).run=some r):lX ops (strip fr) o=(if r.1 then .run else .skip)∧strip r.2=strip fr:=by
 unfold D6 at h;unfold lX;cases hg:o.guard with
 | none =>
   rw[hg] at h;rw[← Tr.af h];exact ⟨rfl,rfl⟩
 | some jw =>
   obtain ⟨j,want⟩:=jw;rw[hg] at h;dsimp only at h ⊢;cases hd:(ops[j]?).bind (·.dst) with
   | none=>rw[hd] at h;exact (Tr.ai h).elim
   | some d =>
     rw[hd] at h;dsimp only at h ⊢;have he:=fp fr d;rw[he] at h;cases hv:bM (strip fr) d<;>rw[hv] at h<;>try exact (Tr.ai h).elim
     case bool b =>
      dsimp only at h ⊢
      cases want with
      | true =>
        rw[cond_true] at h
        obtain ⟨b',fr',h1,h2,h3⟩:=lO h
        rw[hv] at h1
        cases h1
        cases b<;>(have h3:=Tr.af h3;rw[← h3];exact ⟨rfl,h2⟩)
      | false =>
        rw[cond_false] at h
        obtain ⟨b',fr',h1,h2,h3⟩:=lO h
        rw[hv] at h1
        cases h1
        cases b<;>(have h3:=Tr.af h3;rw[← h3];exact ⟨rfl,h2⟩)
     case tup l=>rw[← Tr.af h];exact ⟨rfl,rfl⟩

def iV (P:Program) (nt:Nat) (call:aO) (callR:bx) (ops:Array Oper):List Oper→aT→aa→Tr (aT×aa)
 | [],fr,H=>.ok (fr,H)
 | o::r,fr,H=>(D6 ops fr o).bind fun b=>cond b.1
   ((PE o.op o P call callR b.2 H (xh H)).bind fun y=>iV P nt call callR ops r (rm nt b.2 o.dst y.1) (Tm y.2 H))
   (iV P nt call callR ops r (rm nt b.2 o.dst (.tup [],none)) H)
theorem fF {P:Program} {nt:Nat} {call:aO} {callR:bx} (hC:callR.Ok call) {ops:Array Oper}:∀ (l:List Oper) (fr:aT) (H:aa) (x:aT×aa),(iV P nt call callR ops l fr H).run=some x→fm P nt call ops l (strip fr) H=some (strip x.1,x.2)
 | [],fr,H,x,h=>by rw[← Tr.af h];rfl
 | o :: r,fr,H,x,h=>by
   simp only[iV] at h;obtain ⟨b,h1,h⟩:=Tr.bind_some h;unfold fm;obtain ⟨hw,hs⟩:=A0 h1;rw[hw,← hs];obtain ⟨b,fr1⟩:=b;dsimp only at h ⊢;cases b with
   | false =>
     have:=fF hC r _ _ _ h;rw[mU] at this;exact this
   | true =>
     rw[cond_true] at h;obtain ⟨y,h2,h⟩:=Tr.bind_some h;have h2:=BX hC h2;rw[qn] at h2;have:=fF hC r _ _ _ h;rw[mU,MX] at this;rw[if_pos rfl];dsimp only;rw[h2];exact this

def pL (fr:aT) (o:Oper):Touch:=ui (strip fr) o
def qg (P:Program) (call:aO) (callR:bx) (ops:Array Oper) (bef:Nat) (fr0:aT) (H:aa) (nx:Nat) (recs:List Rec) (o:Oper):Tr (uU×Option Nat×aT) :=
 (D6 ops fr0 o).bind fun b=>cond b.1
   (cond (fB o) ((PE o.op o P call callR b.2 (tp (mE bef recs H)) nx).bind fun y=>.ok (⟨y.1.1,.all,none⟩,y.1.2,b.2))
     ((PE o.op o P call callR b.2 (mE bef recs H) nx).bind fun y=>match y.2 with
       | .bG=>.ok (⟨y.1.1,pL b.2 o,none⟩,y.1.2,b.2)
       | .push q=>cond (jL o && !mI q && rY (nN H 0 nx) && !j5 H 0) (.ok (⟨y.1.1,pL b.2 o,some (0,nx,(0,q))⟩,y.1.2,b.2)) .bad
       | .set d i q=>.req (bT (dW (nN H d i).1 q.1) (dW q.1 (Nat.succ (nN H d i).1))) (cond (!mI q.2 && !mI (nN (mE bef recs H) d i).2 && kG bef d i recs) (.ok (⟨y.1.1,pL b.2 o,some (d,i,q)⟩,y.1.2,b.2)) .bad)
       | _=>.bad))
   (.ok (⟨.tup [],.none,none⟩,none,b.2))
theorem wT {P:Program} {call:aO} {callR:bx} (hC:callR.Ok call) {ops:Array Oper} {bef:Nat} {fr:aT} {H:aa} {nx:Nat} {recs:List Rec} {o:Oper} {e:uU×Option Nat×aT} (h:(qg P call callR ops bef fr H nx recs o).run=some e) :
 ij P call ops bef (strip fr) H nx recs o=some e.1∧strip e.2.2=strip fr:=by
 unfold qg at h
 unfold ij
 simp only[ng,zf,pL,zP,pt,gG] at h
 obtain ⟨b,h1,h⟩:=Tr.bind_some h
 obtain ⟨hw,hs⟩:=A0 h1
 rw[hw,← hs]
 obtain ⟨b,fr1⟩:=b
 dsimp only at h ⊢
 cases b with
 | false =>
   rw[cond_false] at h
   rw[← Tr.af h];exact ⟨rfl,rfl⟩
 | true =>
   rw[cond_true] at h
   rw[if_pos rfl]
   dsimp only
   cases hcv:fB o with
   | true =>
     rw[hcv,cond_true] at h
     obtain ⟨y,h2,h⟩:=Tr.bind_some h
     rw[if_pos rfl,BX hC h2,← Tr.af h]
     exact ⟨rfl,rfl⟩
   | false =>
     rw[hcv,cond_false] at h
     obtain ⟨y,h2,h⟩:=Tr.bind_some h
     rw[if_neg (by simp),BX hC h2]
     split at h
     · rename_i hy
       rw[hy,← Tr.af h];exact ⟨rfl,rfl⟩
     · rename_i b hy
       obtain ⟨hc,h⟩:=Tr.a7 h
       rw[hy]
       dsimp only
       rw[if_pos hc,← Tr.af h];exact ⟨rfl,rfl⟩
     · rename_i d i b hy
       obtain ⟨hv,h⟩:=Tr.aX h
       obtain ⟨hc,h⟩:=Tr.a7 h
       rw[hy]
       dsimp only
       rw[ct,ln,ln,Bool.and_eq_true,decide_eq_true_eq,decide_eq_true_eq] at hv
       have hv':(Nat.beq b.1 (aB H d i).1 || Nat.beq b.1 (Nat.succ (aB H d i).1))=true:=by
        simp only[Bool.or_eq_true,Nat.beq_eq];omega
       simp only[Bool.and_eq_true] at hc
       rw[if_pos (by simp only[Bool.and_eq_true];exact ⟨⟨⟨hc.1.1,hv'⟩,hc.1.2⟩,hc.2⟩),← Tr.af h];exact ⟨rfl,rfl⟩
     · exact (Tr.ai h).elim
def o6 (P:Program) (nt:Nat) (call:aO) (callR:bx) (ops:Array Oper) (befs:Array Nat):List Oper→Nat→aT→aa→Nat→List Rec→Tr (aT×aa)
 | [],_,fr,H,_,_=>.ok (fr,H)
 | o::r,j,fr,H,nx,recs=>(qg P call callR ops (befs.getD j 0) fr H nx recs o).bind fun e =>
   o6 P nt call callR ops befs r (j+1) (rm nt e.2.2 o.dst (e.1.v,e.2.1)) (Hm H e.1.wr) (if jL o then nx+1 else nx) (⟨j,e.1.rd,e.1.wr.map fun x=>(x.1,x.2.1)⟩::recs)
theorem qV {P:Program} {nt:Nat} {call:aO} {callR:bx} (hC:callR.Ok call) {ops:Array Oper} {befs:Array Nat}:∀ (l:List Oper) (j:Nat) (fr:aT) (H:aa) (nx:Nat) (recs:List Rec) (x:aT×aa),
 (o6 P nt call callR ops befs l j fr H nx recs).run=some x→gT P nt call ops befs j l (strip fr) H nx recs=some (strip x.1,x.2)
 | [],j,fr,H,nx,recs,x,h=>by rw[← Tr.af h];rfl
 | o::r,j,fr,H,nx,recs,x,h=>by
   simp only[o6] at h;obtain ⟨e,h1,h⟩:=Tr.bind_some h;obtain ⟨hd,hs⟩:=wT hC h1;unfold gT;rw[hd,← hs];have:=qV hC r _ _ _ _ _ _ h;rw[mU,Hn] at this;exact this

def aI:Code→List (Nat×Code)
 | .block id b=>(id,b)::aI b
 | .loop b=>aI b
 | .seq a b=>aI a++aI b
 | .cond _ a b=>aI a++aI b
 | .scope b=>aI b
 | _=>[]
def aW (f:Func):Code:=match f.body with | some c=>c | none=>.skip
abbrev ev:=Ex×aT×aa
def ev.st (x:ev):Ex×aD×aa:=(x.1,strip x.2.1,x.2.2)
abbrev eV:=Nat→aT→aa→Option (Tr ev)
abbrev nZ:=Operand→aT→aa→Option (Tr ev)
def eV.Ok (bl:eV) (cx:Cx) (c:Code):Prop:=∀ id b,(id,b) ∈ aI c→∀ fr H t x,bl id fr H=some t→t.run=some x→exec cx (.block id b) (strip fr) H=some x.st
def dH:Code→List (Operand×Array Tmp×Code×Code)
 | .rangeFunc f ps a b=>[(f,ps,a,b)]
 | .loop b=>dH b
 | .block _ b=>dH b
 | .seq a b=>dH a++dH b
 | .cond _ a b=>dH a++dH b
 | .scope b=>dH b
 | _=>[]
def nZ.Ok (rg:nZ) (cx:Cx) (c:Code):Prop:=∀ f ps a b,(f,ps,a,b) ∈ dH c→∀ fr H t x,rg f fr H=some t→t.run=some x→exec cx (.rangeFunc f ps a b) (strip fr) H=some x.st
def cE (bl:eV) (id0:Nat) (fr0:aD) (H0:aa) (u:Tr ev):eV:=fun id fr H=>cond (Nat.beq id id0) (some (.reqP (strip fr=fr0∧H=H0) u)) (bl id fr H)
theorem aU {bl:eV} {cx:Cx} {c:Code} (h:bl.Ok cx c) {id0:Nat} {fr0:aD} {H0:aa} {u:Tr ev} {B:Code} (hB:∀ b,(id0,b) ∈ aI c→b=B) (k:∀ x,u.run=some x→exec cx (.block id0 B) fr0 H0=some x.st):(cE bl id0 fr0 H0 u).Ok cx c:=by
 intro id b hm fr H t y ht hy;unfold cE at ht;cases hb:Nat.beq id id0 with
 | true =>
   have vi:=Nat.eq_of_beq_eq_true hb;subst vi;rw[hb,cond_true,Option.some.injEq] at ht;subst ht;obtain ⟨⟨h1,h2⟩,h3⟩:=Tr.gM hy;rw[h1,h2,hB b hm];exact k y h3
 | false =>
   rw[hb,cond_false] at ht;exact h id b hm fr H t y ht hy
def EY (rg:nZ) (tf:Operand→Bool) (fr0:aD) (H0:aa) (u:Tr ev):nZ:=fun f fr H=>cond (tf f) (some (.reqP (strip fr=fr0∧H=H0) u)) (rg f fr H)
theorem xL {rg:nZ} {cx:Cx} {c:Code} (h:rg.Ok cx c) {tf:Operand→Bool} {fr0:aD} {H0:aa} {u:Tr ev} (k:∀ f ps a b,tf f=true→(f,ps,a,b) ∈ dH c→∀ x,u.run=some x→exec cx (.rangeFunc f ps a b) fr0 H0=some x.st):(EY rg tf fr0 H0 u).Ok cx c:=by
 intro f ps a b hm fr H t y ht hy;unfold EY at ht;cases hb:tf f with
 | true =>
   rw[hb,cond_true,Option.some.injEq] at ht;subst ht;obtain ⟨⟨h1,h2⟩,h3⟩:=Tr.gM hy;rw[h1,h2];exact k f ps a b hb hm y h3
 | false =>
   rw[hb,cond_false] at ht;exact h f ps a b hm fr H t y ht hy
def aK:eV:=fun _ _ _=>none
def aJ:nZ:=fun _ _ _=>none
theorem ah (cx:Cx) (c:Code):aK.Ok cx c:=fun _ _ _ _ _ _ _ h=>by cases h
theorem aj (cx:Cx) (c:Code):aJ.Ok cx c:=fun _ _ _ _ _ _ _ _ _ h=>by cases h
def zk (g:AV→AV):aT→aT
 | []=>[]
 | (x,(v,h))::r=>(x,(nF g v,h))::zk g r
theorem zm (g:AV→AV):∀ fr:aT,strip (zk g fr)=qE g (strip fr)
 | []=>rfl
 | (x,(v,h))::r=>by
   have e:zk g ((x,(v,h))::r)=(x,(nF g v,h))::zk g r:=rfl;rw[e,dg,dg,qE,zm g r]
def lP (n:Nat):Nat→aT→aa→aT×aa
 | 0,fr,H=>(fr,H)
 | k + 1,fr,H=>match H with
   | []=>(fr,[])
   | l::r=>cond (Nat.ble (kF l.bs) (Nat.succ n)) (fr,l::r) (match hole (strip fr) l.bs 4 n with
     | none=>(fr,l::r)
     | some h=>lP n k (zk (vq (l.bs.length-1) h) fr) (mz n (qE (vq (l.bs.length-1) h) (strip fr)) (x9 (l.bs.length-1) h l::r)))
theorem uH (n:Nat):∀ (k:Nat) (fr:aT) (H:aa),(strip (lP n k fr H).1,(lP n k fr H).2)=kb n k (strip fr) H
 | 0,fr,H=>rfl
 | k+1,fr,[]=>rfl
 | k + 1,fr,l::r=>by
   cases hb:Nat.ble (kF l.bs) (Nat.succ n) with
   | true =>
     have:lP n (k+1) fr (l::r)=(fr,l::r):=by
      unfold lP;dsimp only;rw[hb];rfl
     rw[this,Ck (by rw[eH] at hb;simpa using hb)]
   | false =>
     unfold lP kb;dsimp only;rw[hb,cond_false];cases hole (strip fr) l.bs 4 n with
     | none=>rfl
     | some h =>
       dsimp only;rw[uH n k,zm]
def D2 (n:Nat) (fr:aT) (H:aa):aT×aa:=lP n 4 fr (mz n (strip fr) H)
theorem HW (n:Nat) (fr:aT) (H:aa):(strip (D2 n fr H).1,(D2 n fr H).2)=tidy n (strip fr) H:=uH n 4 fr _
def Db (body:aT→aa→Tr ev) (n:Nat):Nat→aT→aa→Tr ev
 | 0,_,_=>.bad
 | k+1,fr,H=>(body fr H).bind fun x=>match x with
   | (.normal,fr,H)=>Db body n k (D2 n fr H).1 (D2 n fr H).2
   | r=>.ok r
theorem vY {body:aD→aa→Option (Ex×aD×aa)} {n:Nat}:∀ (k m:Nat) (fr:aD) (H:aa) (x:Ex×aD×aa),iter body n k fr H=some x→k≤m→iter body n m fr H=some x
 | 0,m,fr,H,x,h,_=>by simp[iter] at h
 | k+1,0,fr,H,x,h,hk=>by omega
 | k + 1,m+1,fr,H,x,h,hk=>by
   unfold iter at h ⊢;cases hb:body fr H with
   | none=>rw[hb] at h;simp at h
   | some y =>
     rw[hb] at h;obtain ⟨e,f,g⟩:=y;cases e;case normal=>exact vY k m _ _ _ h wO
     all_goals exact h
theorem yT {body:aT→aa→Tr ev} {body':aD→aa→Option (Ex×aD×aa)} {n:Nat} (hb:∀ fr H x,(body fr H).run=some x→body' (strip fr) H=some x.st):∀ (k:Nat) (fr:aT) (H:aa) (x:ev),(Db body n k fr H).run=some x→iter body' n k (strip fr) H=some x.st
 | 0,fr,H,x,h=>(Tr.ai h).elim
 | k+1,fr,H,x,h=>by
   simp only[Db] at h;obtain ⟨y,h1,h⟩:=Tr.bind_some h;unfold iter;rw[hb _ _ _ h1];obtain ⟨e,f,g⟩:=y;cases e;case normal =>
    have e:=HW n f g
    have h:=yT hb k _ _ _ h
    show iter body' n k (tidy n (strip f) g).1 (tidy n (strip f) g).2=_
    rw[← e];exact h
   all_goals
    have h:=Tr.af h
    rw[← h];rfl
def oz (f:AV→Tr AV):List AV→Tr (List AV)
 | []=>.ok []
 | v::l=>(f v).bind fun u=>(oz f l).bind fun m=>.ok (u::m)
theorem fc {f:AV→Tr AV} {g:AV→AV} (hf:∀ v u,(f v).run=some u→g v=u):∀ (l m:List AV),(oz f l).run=some m→l.map g=m
 | [],m,h=>Tr.af h
 | v::l,m,h=>by
   simp only[oz] at h;obtain ⟨u,h1,h⟩:=Tr.bind_some h;obtain ⟨n,h2,h⟩:=Tr.bind_some h;rw[← Tr.af h,List.map_cons,hf _ _ h1,fc hf l n h2]
def mN (f:AV→Tr AV):List da→Tr (List da)
 | []=>.ok []
 | .one v::l=>(f v).bind fun u=>(mN f l).bind fun m=>.ok (.one u::m)
 | .arr k z n::l=>(mN f l).bind fun m=>.ok (.arr k z n::m)
theorem iq {f:AV→Tr AV} {g:AV→AV} (hf:∀ v u,(f v).run=some u→g v=u):∀ (l m:List da),(mN f l).run=some m→mapM' g l=m
 | [],m,h=>Tr.af h
 | .one v::l,m,h=>by
   simp only[mN] at h;obtain ⟨u,h1,h⟩:=Tr.bind_some h;obtain ⟨n,h2,h⟩:=Tr.bind_some h;rw[← Tr.af h,mapM',hf _ _ h1,iq hf l n h2]
 | .arr k z n::l,m,h=>by
   simp only[mN] at h;obtain ⟨n,h2,h⟩:=Tr.bind_some h;rw[← Tr.af h,mapM',iq hf l n h2]
def qT (cap:Option Nat) (len:Nat):Bool :=
 match cap with
 | none=>false
 | some c=>cH c len
theorem ko (cap:Option Nat) (len:Nat):qT cap len=(cap == some len):=by
 cases cap with
 | none=>rfl
 | some c=>simp only[qT,fV];rw[Bool.eq_iff_iff];simp
def yO (i ver:Nat) (r:Row):AV→Tr AV
 | .ptr d j v off=>cond (Nat.beq d 0 && Nat.beq j i) (.req (cH v ver) (.ok (.ptrT none r off))) (.ok (.ptr d j v off))
 | .slc d j v off sz len cap=>cond (Nat.beq d 0 && Nat.beq j i) (.req (cH v ver) (match r with
    | .M [.arr k z N]=>.req (dP off (fR len sz) 0 N) (.ok (.slcT none (.M [.arr k (qO z off) (fR len sz)]) sz len (qT cap len)))
    | .I k l=>cond (vg (.I k l) off (Nat.mul len sz)) (.ok (.slcT none (.I k (lW (lS l off) (Nat.mul len sz))) sz len (qT cap len))) .bad
    | _=>.bad)) (.ok (.slc d j v off sz len cap))
 | v=>.ok v
theorem vJ {d j i:Nat} {x:Bool} (h:(Nat.beq d 0 && Nat.beq j i)=true):(Nat.beq d 0 && (Nat.beq j i && x))=x:=by
 rw[Bool.and_eq_true] at h;rw[h.1,h.2];rfl
theorem vK {d j i:Nat} {x:Bool} (h:(Nat.beq d 0 && Nat.beq j i)=false):(Nat.beq d 0 && (Nat.beq j i && x))=false:=by
 rw[← Bool.and_assoc,h];rfl
theorem yP {i ver:Nat} {r:Row}:∀ v u,(yO i ver r v).run=some u→nE i ver r v=u:=by
 intro v u h;cases v with
 | ptr d j v off =>
   simp only[yO] at h;simp only[nE];cases hc:(Nat.beq d 0 && Nat.beq j i) with
   | false=>rw[hc,cond_false] at h;rw[vK hc,if_neg (by simp)];exact Tr.af h
   | true =>
     rw[hc,cond_true] at h;obtain ⟨h1,h⟩:=Tr.aX h;rw[fV,decide_eq_true_eq] at h1;rw[vJ hc,if_pos (by simpa using h1)];exact Tr.af h
 | slc d j v off sz len cap =>
   simp only[yO] at h;simp only[nE];cases hc:(Nat.beq d 0 && Nat.beq j i) with
   | false=>rw[hc,cond_false] at h;rw[vK hc,if_neg (by simp)];exact Tr.af h
   | true =>
     rw[hc,cond_true] at h;obtain ⟨h1,h2⟩:=Tr.aX h;clear h;rw[fV,decide_eq_true_eq] at h1;rw[vJ hc];split at h2
     · obtain ⟨h3,h⟩:=Tr.aX h2;rw[j6,decide_eq_true_eq,cY] at h3;rw[if_pos (by simp[h1,Row.len,aE,aV];omega),← Tr.af h,ko,cY,m5];rfl
     · obtain ⟨h3,h⟩:=Tr.a7 h2;rw[ld,decide_eq_true_eq] at h3;rw[if_pos (by simp only[h1,Bool.and_eq_true];exact ⟨by simp,Nat.ble_eq_true_of_le h3⟩),← Tr.af h,ko,iA,ik];rfl
     · exact (Tr.ai h2).elim
 | _=>exact Tr.af h
def zn (f:AV→Tr AV) (v:AV):Tr AV :=
 match v with
 | .agg (.G l)=>(oz f l).bind fun m=>.ok (.agg (.G m))
 | .agg (.M l)=>(mN f l).bind fun m=>.ok (.agg (.M m))
 | .fn g a b=>(oz f a).bind fun a'=>(oz f b).bind fun b'=>.ok (.fn g a' b')
 | v=>f v
theorem tw {f:AV→Tr AV} {g:AV→AV} (hf:∀ v u,(f v).run=some u→g v=u):∀ v u,(zn f v).run=some u→nF g v=u:=by
 intro v u h;unfold zn at h;split at h
 · obtain ⟨m,h1,h⟩:=Tr.bind_some h;rw[← Tr.af h,← fc hf _ _ h1];rfl
 · obtain ⟨m,h1,h⟩:=Tr.bind_some h;rw[← Tr.af h,← iq hf _ _ h1];rfl
 · obtain ⟨a',h1,h⟩:=Tr.bind_some h;obtain ⟨b',h2,h⟩:=Tr.bind_some h;rw[← Tr.af h,← fc hf _ _ h1,← fc hf _ _ h2];rfl
 · rename_i n1 n2 n3;have:=hf _ _ h;rw[← this];unfold nF;split
   · exact absurd rfl (n1 _)
   · exact absurd rfl (n2 _)
   · exact absurd rfl (n3 _ _ _)
   · rfl
def GP (f:AV→Tr AV):al→Tr al
 | .row r=>match r with
   | .G l=>(oz (zn f) l).bind fun m=>.ok (.row (.G m))
   | .M l=>(mN (zn f) l).bind fun m=>.ok (.row (.M m))
   | r=>.ok (.row r)
 | b=>.ok b
theorem GQ {f:AV→Tr AV} {g:AV→AV} (hf:∀ v u,(f v).run=some u→g v=u) (b u:al) (h:(GP f b).run=some u):qD g b=u:=by
 cases b with
 | row r =>
   simp only[GP] at h;cases r with
   | G l =>
     obtain ⟨m,h1,h⟩:=Tr.bind_some h;rw[← Tr.af h,← fc (tw hf) _ _ h1];rfl
   | M l =>
     obtain ⟨m,h1,h⟩:=Tr.bind_some h;rw[← Tr.af h,← iq (tw hf) _ _ h1];rfl
   | I k l=>rw[← Tr.af h];rfl
   | F z n=>rw[← Tr.af h];rfl
 | dead=>exact Tr.af h
 | map es=>exact Tr.af h
 | fmap kq f g c=>exact Tr.af h
 | loop l=>exact Tr.af h
def xr (f:AV→Tr AV):List (Nat×al)→Tr (List (Nat×al))
 | []=>.ok []
 | (v,b)::r=>(GP f b).bind fun b'=>(xr f r).bind fun r'=>.ok ((v,b')::r')
theorem wa {f:AV→Tr AV} {g:AV→AV} (hf:∀ v u,(f v).run=some u→g v=u):∀ (l m:List (Nat×al)),(xr f l).run=some m→jJ g l=m
 | [],m,h=>Tr.af h
 | (v,b)::r,m,h=>by
   simp only[xr] at h;obtain ⟨b',h1,h⟩:=Tr.bind_some h;obtain ⟨r',h2,h⟩:=Tr.bind_some h;rw[← Tr.af h,jJ,GQ hf _ _ h1,wa hf r r' h2]
def Dj (f:AV→Tr AV):aT→Tr aT
 | []=>.ok []
 | (x,(v,h))::r=>(zn f v).bind fun v'=>(Dj f r).bind fun r'=>.ok ((x,(v',h))::r')
theorem zj {f:AV→Tr AV} {g:AV→AV} (hf:∀ v u,(f v).run=some u→g v=u):∀ (l m:aT),(Dj f l).run=some m→qE g (strip l)=strip m
 | [],m,h=>by rw[← Tr.af h];rfl
 | (x,(v,hh))::r,m,h=>by
   simp only[Dj] at h;obtain ⟨v',h1,h⟩:=Tr.bind_some h;obtain ⟨r',h2,h⟩:=Tr.bind_some h;rw[← Tr.af h,dg,dg,qE,tw hf _ _ h1,zj hf r r' h2]
def ta (i:Nat) (fr:aT) (l:bC):Tr (aT×bC) :=
 match BT l.bs i with
 | (ver,.row r)=>cond (xk r && (Eb (fun x=>qa (pS i) x.2) (strip fr) || Eb (fun x=>Nm (pS i) x.2) l.bs)) ((Dj (yO i ver r) fr).bind fun fr'=>(xr (yO i ver r) l.bs).bind fun bs'=>.ok (fr',{ l with bs:=bO bs' i (ver,.dead) })) (.ok (fr,l))
 | _=>.ok (fr,l)
theorem qp {i:Nat} {fr:aT} {l:bC} {y:aT×bC} (h:(ta i fr l).run=some y):mG i (strip fr) l=(strip y.1,y.2):=by
 unfold ta at h;unfold mG;rw[sb] at h;split at h
 · rename_i ver r hb;rw[hb];dsimp only;rw[rH,rH] at h;cases hc:(xk r && ((strip fr).any (fun x=>qa (pS i) x.2) || l.bs.any (fun x=>Nm (pS i) x.2))) with
   | true =>
     rw[hc,cond_true] at h;obtain ⟨fr',h1,h⟩:=Tr.bind_some h;obtain ⟨bs',h2,h⟩:=Tr.bind_some h;rw[if_pos rfl,zj yP _ _ h1,wa yP _ _ h2,← Tr.af h]
   | false =>
     rw[hc,cond_false] at h;rw[if_neg (by simp),← Tr.af h]
 · rename_i hno;have h:=Tr.af h;subst h;split
   · rename_i ver r hb;exact absurd hb (hno ver r)
   · rfl
def rU:Nat→aT→bC→Tr (aT×bC)
 | 0,fr,l=>.ok (fr,l)
 | n+1,fr,l=>(rU n fr l).bind fun y=>ta n y.1 y.2
theorem s8:∀ (n:Nat) (fr:aT) (l:bC) (y:aT×bC),(rU n fr l).run=some y→jm n (strip fr) l=(strip y.1,y.2)
 | 0,fr,l,y,h=>by rw[← Tr.af h];rfl
 | n+1,fr,l,y,h=>by
   simp only[rU] at h;obtain ⟨z,h1,h⟩:=Tr.bind_some h;have h1:=s8 n fr l z h1;simp only[jm];rw[h1];exact qp h
def px:Nat→aT→bC→Tr (aT×bC)
 | 0,fr,l=>.ok (fr,l)
 | n+1,fr,l=>(px n fr l).bind fun y=>cond (Eb (fun x=>qa (pS n) x.2) (strip y.1)) (.ok y) (ta n y.1 y.2)
theorem rb:∀ (n:Nat) (fr:aT) (l:bC) (y:aT×bC),(px n fr l).run=some y→eG n (strip fr) l=(strip y.1,y.2)
 | 0,fr,l,y,h=>by rw[← Tr.af h];rfl
 | n + 1,fr,l,y,h=>by
   simp only[px] at h;obtain ⟨z,h1,h⟩:=Tr.bind_some h;have h1:=rb n fr l z h1;simp only[eG];rw[h1];dsimp only;rw[rH] at h;cases hc:(strip z.1).any (fun x=>qa (pS n) x.2) with
   | true =>
     rw[hc,cond_true] at h;rw[if_pos rfl,Tr.af h]
   | false =>
     rw[hc,cond_false] at h;rw[if_neg (by simp)];exact qp h
def Df (s:Nat):aT→Option Nat
 | []=>none
 | (x,(v,_))::r=>cond (Nat.beq x s) (match v with
   | .slc 0 i _ _ _ _ _=>some i
   | _=>none) (Df s r)
theorem yZ (s:Nat):∀ fr:aT,Df s fr=De s (strip fr)
 | []=>rfl
 | (x,(v,h))::r=>by
   rw[dg];simp only[Df,De,yZ s r];cases Nat.beq x s<;>rfl
def xj (s:Nat) (fr:aT) (H:aa):Tr (aT×aa) :=
 match H with
 | []=>.ok (fr,[])
 | l::r=>cond l.lock (.ok (fr,l::r)) (match Df s fr with
   | some i=>(ta i fr l).bind fun y=>.ok (y.1,y.2::r)
   | none=>.ok (fr,l::r))
theorem BE {s:Nat} {fr:aT} {H:aa} {y:aT×aa} (h:(xj s fr H).run=some y):xi s (strip fr) H=(strip y.1,y.2):=by
 unfold xj at h;unfold xi;cases H with
 | nil=>rw[← Tr.af h]
 | cons l r =>
   dsimp only at h ⊢;cases hl:l.lock with
   | true =>
     rw[hl,cond_true] at h;rw[if_pos rfl,← Tr.af h]
   | false =>
     rw[hl,cond_false,yZ] at h;rw[if_neg (by simp)];split at h
     · rename_i i hi;obtain ⟨z,h1,h⟩:=Tr.bind_some h;have h1:=qp h1;rw[hi];dsimp only;rw[h1,← Tr.af h]
     · rename_i hi;rw[hi,← Tr.af h]
def rV (m:Nat) (fr:aT) (H:aa):Tr (aT×aa) :=
 cond (l6 m 4000) (match H with
  | []=>.ok (gF fr m,[])
  | l::r=>cond l.lock (.ok (gF fr m,l::r)) ((rU (kF l.bs) (gF fr m) l).bind fun y=>.ok (y.1,cond (Nat.beq (Nat.shiftRight m 4003) 0) (y.2::r) (GZ (Nat.shiftRight m 4003) (y.2::r))))) (cond (l6 m 4001) (xj (Nat.shiftRight m 4003) (gF fr m) H) (cond (l6 m 4002) (wD (gF fr m) (Nat.shiftRight m 4003) (fun fr=>.ok (fr,H)) (fun fr=>match H with
  | []=>.ok (fr,[])
  | l::r=>cond l.lock (.ok (fr,l::r)) ((px (kF l.bs) fr l).bind fun y=>.ok (y.1,y.2::r)))) (.ok (gF fr m,H))))
theorem tb {m:Nat} {fr:aT} {H:aa} {y:aT×aa} (h:(rV m fr H).run=some y):ll m (strip fr) H=(strip y.1,y.2):=by
 unfold rV at h;unfold ll;cases hm:l6 m 4000 with
 | false =>
   rw[hm,cond_false] at h;rw[if_neg (by simp)];cases hm2:l6 m 4001 with
   | false =>
     rw[hm2,cond_false] at h;rw[if_neg (by simp)];cases hm3:l6 m 4002 with
     | false =>
       rw[hm3,cond_false] at h;rw[if_neg (by simp),← Tr.af h,eZ]
     | true =>
       rw[hm3,cond_true] at h;rw[if_pos rfl];obtain ⟨b,fr',h1,h2,h3⟩:=lO h;rw[eZ] at h1 h2;rw[h1];cases b with
       | true =>
         simp only[if_true] at h3;rw[← Tr.af h3,h2]
       | false =>
         simp only[Bool.false_eq_true,if_false] at h3;cases H with
         | nil =>
           dsimp only at h3;rw[← Tr.af h3,← h2];rfl
         | cons l r =>
           dsimp only at h3;show vj (bV (strip fr) m) (l::r)=_;rw[← h2];unfold vj;dsimp only;cases hl:l.lock with
           | true =>
             rw[hl,cond_true] at h3;rw[if_pos rfl,← Tr.af h3]
           | false =>
             rw[hl,cond_false] at h3;obtain ⟨z,h4,h5⟩:=Tr.bind_some h3;have h4:=rb _ _ _ _ h4;rw[eH] at h4;rw[if_neg (by simp),h4,← Tr.af h5]
   | true =>
     rw[hm2,cond_true] at h;rw[if_pos rfl];have h1:=BE h;rw[eZ] at h1;exact h1
 | true =>
   rw[hm,cond_true] at h;rw[if_pos rfl];cases H with
   | nil =>
     rw[← Tr.af h,eZ];simp only[EA,GZ,ite_self]
   | cons l r =>
     dsimp only at h;unfold EA;dsimp only;cases hl:l.lock with
     | true =>
       rw[hl,cond_true] at h;simp only[if_true];rw[← Tr.af h,eZ];simp only[GZ,hl,if_true,ite_self]
     | false =>
       rw[hl,cond_false] at h;obtain ⟨z,h1,h⟩:=Tr.bind_some h;have h1:=s8 _ _ _ _ h1;rw[eH,eZ] at h1;simp only[Bool.false_eq_true,if_false,h1];rw[← Tr.af h];cases Nat.beq (Nat.shiftRight m 4003) 0<;>rfl
def Js:aT→aT
 | []=>[]
 | (x,(v,h))::r=>(x,(we v,h))::Js r
theorem tL:∀ fr:aT,strip (Js fr)=EK (strip fr)
 | []=>rfl
 | (x,(v,h))::r=>by
   simp only[Js,dg,EK,tK,tL r]
def BD (m:Nat) (fr:aT) (H:aa):Tr (aT×aa) :=
 cond (l6 m 3999) ((rV m fr H).bind fun y=>.ok (Js y.1,y.2)) (rV m fr H)
theorem EB {m:Nat} {fr:aT} {H:aa} {y:aT×aa} (h:(BD m fr H).run=some y):py m (strip fr) H=(strip y.1,y.2):=by
 unfold BD at h;unfold py;cases hm:l6 m 3999 with
 | false =>
   rw[hm,cond_false] at h;rw[if_neg (by simp)];exact tb h
 | true =>
   rw[hm,cond_true] at h;rw[if_pos rfl];obtain ⟨z,h1,h⟩:=Tr.bind_some h;have h1:=tb h1;rw[h1,← Tr.af h,tL]
def aF (cx:Cx) (callR:bx) (bl:eV) (rg:nZ):Code→aT→aa→Tr ev
 | .skip,fr,H=>.ok (.normal,fr,H)
 | .label _,fr,H=>.ok (.normal,fr,H)
 | .exit id,fr,H=>.ok (.exit id,fr,H)
 | .goto l,fr,H=>.ok (.goto l,fr,H)
 | .ret,fr,H=>.ok (.ret,fr,H)
 | .region id ops draw,fr,H =>
   (cond draw (cond (gm ops (Region.before ops)) (o6 cx.P cx.nt cx.call callR ops (Region.before ops) ops.toList 0 fr (oj H (df ops.toList)) (xh H) []) .bad) (iV cx.P cx.nt cx.call callR ops ops.toList fr H)).bind fun x=>(BD (cx.kt id) x.1 x.2).bind fun y=>.ok (.normal,y.1,y.2)
 | .seq a b,fr,H=>(aF cx callR bl rg a fr H).bind fun x=>match x with
   | (.normal,fr,H)=>aF cx callR bl rg b fr H
   | r=>.ok r
 | .cond c a b,fr,H=>match c with
   | .tmp d=>wD fr d (fun fr=>aF cx callR bl rg a fr H) (fun fr=>aF cx callR bl rg b fr H)
   | c=>match (cD fr c).1 with
     | .bool t=>cond t (aF cx callR bl rg a fr H) (aF cx callR bl rg b fr H)
     | _=>.bad
 | .block id b,fr,H=>match bl id fr H with
   | some t=>t
   | none=>(aF cx callR bl rg b fr H).bind fun x=>match x with
     | (.exit id',fr,H)=>cond (Nat.beq id' id) (.ok (.normal,fr,H)) (.ok (.exit id',fr,H))
     | r=>.ok r
 | .scope b,fr,H=>(aF cx callR bl rg b fr H).bind fun x=>match x with
   | (.goto _,_,_)=>.bad
   | r=>.ok r
 | .rangeFunc f _ _ _,fr,H=>match rg f fr H with
   | some t=>t
   | none=>.bad
 | .loop b,fr,H=>cond (Nat.ble 12 cx.fu) (Db (aF cx callR bl rg b) (xh H) 12 fr H) .bad
 | .refuse _,_,_=>.bad

theorem fX {cx:Cx} {callR:bx} {bl:eV} {rg:nZ} (hC:callR.Ok cx.call):∀ (c:Code),bl.Ok cx c→rg.Ok cx c→∀ (fr:aT) (H:aa) (x:ev),(aF cx callR bl rg c fr H).run=some x→exec cx c (strip fr) H=some x.st:=by
 intro c;induction c with
 | skip=>intro _ _ fr H x h;rw[← Tr.af h];rfl
 | label=>intro _ _ fr H x h;rw[← Tr.af h];rfl
 | exit=>intro _ _ fr H x h;rw[← Tr.af h];rfl
 | goto=>intro _ _ fr H x h;rw[← Tr.af h];rfl
 | ret=>intro _ _ fr H x h;rw[← Tr.af h];rfl
 | refuse=>intro _ _ fr H x h;exact (Tr.ai h).elim
 | loop b ih =>
   intro hb hr fr H x h;simp only[aF] at h;obtain ⟨hk,h⟩:=Tr.a7 h;rw[Nat.ble_eq] at hk;unfold exec;rw[qn] at h;exact vY _ _ _ _ _ (yT (fun fr H x h=>ih hb hr fr H x h) 12 fr H x h) hk
 | rangeFunc f ps a b =>
   intro _ hr fr H x h;simp only[aF] at h;split at h
   · rename_i t ht;exact hr f ps a b (by simp[dH]) fr H t x ht h
   · exact (Tr.ai h).elim
 | region id ops draw =>
   intro _ _ fr H x h;simp only[aF] at h;obtain ⟨y,h1,h⟩:=Tr.bind_some h;obtain ⟨z,h2,h⟩:=Tr.bind_some h;have h2:=EB h2;rw[← Tr.af h];unfold exec;cases draw with
   | true =>
     rw[cond_true] at h1;obtain ⟨hs,h1⟩:=Tr.a7 h1;rw[qn] at h1;simp only[if_true,hs];rw[qV hC _ _ _ _ _ _ _ h1];dsimp only;rw[h2];rfl
   | false =>
     rw[cond_false] at h1;simp only[Bool.false_eq_true,if_false];rw[fF hC _ _ _ _ h1];dsimp only;rw[h2];rfl
 | seq a b iha ihb =>
   intro hb hr fr H x h;have hba:bl.Ok cx a:=fun id b' hm=>hb id b' (List.mem_append_left _ hm);have hbb:bl.Ok cx b:=fun id b' hm=>hb id b' (List.mem_append_right _ hm);have hra:rg.Ok cx a:=fun f ps u v hm=>hr f ps u v (List.mem_append_left _ hm);have hrb:rg.Ok cx b:=fun f ps u v hm=>hr f ps u v (List.mem_append_right _ hm);simp only[aF] at h;obtain ⟨y,h1,h⟩:=Tr.bind_some h;have h1:=iha hba hra _ _ _ h1;unfold exec;rw[h1];obtain ⟨e,fr1,H1⟩:=y;cases e;case normal=>exact ihb hbb hrb _ _ _ h
   all_goals
    have h:=Tr.af h
    rw[← h];rfl
 | cond c a b iha ihb =>
   intro hb hr fr H x h;have hba:bl.Ok cx a:=fun id b' hm=>hb id b' (List.mem_append_left _ hm);have hbb:bl.Ok cx b:=fun id b' hm=>hb id b' (List.mem_append_right _ hm);have hra:rg.Ok cx a:=fun f ps u v hm=>hr f ps u v (List.mem_append_left _ hm);have hrb:rg.Ok cx b:=fun f ps u v hm=>hr f ps u v (List.mem_append_right _ hm);simp only[aF] at h;unfold exec;split at h
   · rename_i d;obtain ⟨b',fr',h1,h2,h3⟩:=lO h;have e:b5 (strip fr) (.tmp d)=.bool b':=h1;rw[e,← h2];cases b' with
     | true=>exact iha hba hra _ _ _ h3
     | false=>exact ihb hbb hrb _ _ _ h3
   · rename_i c' hne;rw[bh] at h;split at h
     · rename_i t hc;rw[hc];cases t with
       | true=>exact iha hba hra _ _ _ h
       | false=>exact ihb hbb hrb _ _ _ h
     · exact (Tr.ai h).elim
 | block id b ih =>
   intro hb hr fr H x h;have hbb:bl.Ok cx b:=fun id' b' hm=>hb id' b' (by simp only[aI];exact List.mem_cons_of_mem _ hm);simp only[aF] at h;split at h
   · rename_i t ht;exact hb id b (by simp[aI]) _ _ _ _ ht h
   · obtain ⟨y,h1,h⟩:=Tr.bind_some h;have h1:=ih hbb hr _ _ _ h1;unfold exec;rw[h1];obtain ⟨e,fr1,H1⟩:=y;cases e;case exit id' =>
      dsimp only[ev.st] at h ⊢
      rw[IJ] at h
      split at h
      · rename_i vi
        rw[if_pos vi,← Tr.af h]
      · rename_i vi
        rw[if_neg vi,← Tr.af h]
     all_goals
      have h:=Tr.af h
      rw[← h];rfl
 | scope b ih =>
   intro hb hr fr H x h;simp only[aF] at h;obtain ⟨y,h1,h⟩:=Tr.bind_some h;have h1:=ih hb hr _ _ _ h1;unfold exec;rw[h1];obtain ⟨e,fr1,H1⟩:=y;cases e;case goto=>exact (Tr.ai h).elim
   all_goals
    have h:=Tr.af h
    rw[← h];rfl

end
end Go.Eng
end
section
namespace Go.Eng
noncomputable section

def nD   (bs:List (Nat×al)):Nat→AV→Tr AV
 | 0,_=>.ok .undef
 | n + 1,v=>match v with
   | .ptr d i ver off=>match d with
     | d+1=>.ok (.ptr d i ver off)
     | 0 => match BT bs i with
       | (w,.row r)=>cond (Nat.beq w ver) (match r with
         | .I k l=>.ok (.ptrT none (.I k l) off)
         | .F f m=>.ok (.ptrT none (.F f m) off)
         | .M l=>cond (fU l) (.ok (.ptrT none (.M l) off)) ((mN (nD bs n) l).bind fun m=>.ok (.ptrT (some 0) (.M m) off))
         | .G l=>(oz (nD bs n) l).bind fun m=>.ok (.ptrT (some 0) (.G m) off)) .bad
       | _=>.bad
   | .slc d i ver off sz len cap=>match d with
     | d+1=>.ok (.slc d i ver off sz len cap)
     | 0 => match BT bs i with
       | (w,.row r)=>.req (cH w ver) (match r with
         | .M [.arr k z N]=>.req (dP off (fR len sz) 0 N) (.ok (.slcT none (.M [.arr k (qO z off) (fR len sz)]) sz len (qT cap len)))
         | .I k l=>cond (vg (.I k l) off (Nat.mul len sz)) (.ok (.slcT none (.I k (lW (lS l off) (Nat.mul len sz))) sz len (qT cap len))) .bad
         | .F f N=>.req (dP off (fR len sz) 0 N) (.ok (.slcT none (.F (fun j=>f (au off j)) (fR len sz)) sz len (qT cap len)))
         | .G l=>cond (vg (.G l) off (Nat.mul len sz)) ((oz (nD bs n) (lW (lS l off) (Nat.mul len sz))).bind fun m=>.ok (.slcT (some 0) (.G m) sz len (qT cap len))) .bad
         | _=>.bad)
       | _=>.bad
   | .ptrT s r off=>match s with
     | none=>.ok (.ptrT none r off)
     | some (s+1)=>.ok (.ptrT (some s) r off)
     | some 0=>match r with
       | .G l=>(oz (nD bs n) l).bind fun m=>.ok (.ptrT (some 0) (.G m) off)
       | .M l=>cond (fU l) (.ok (.ptrT none (.M l) off)) ((mN (nD bs n) l).bind fun m=>.ok (.ptrT (some 0) (.M m) off))
       | r=>.ok (.ptrT none r off)
   | .slcT s r sz len full=>match s with
     | none=>.ok (.slcT none r sz len full)
     | some (s+1)=>.ok (.slcT (some s) r sz len full)
     | some 0=>match r with
       | .G l=>(oz (nD bs n) l).bind fun m=>.ok (.slcT (some 0) (.G m) sz len full)
       | .M l=>cond (fU l) (.ok (.slcT none (.M l) sz len full)) ((mN (nD bs n) l).bind fun m=>.ok (.slcT (some 0) (.M m) sz len full))
       | r=>.ok (.slcT none r sz len full)
   | .map d i=>match d with
     | d+1=>.ok (.map d i)
     | 0=>.ok .undef
   | .yld d i=>match d with
     | d+1=>.ok (.yld d i)
     | 0=>.ok .undef
   | .fn f a b=>(oz (nD bs n) a).bind fun a'=>(oz (nD bs n) b).bind fun b'=>.ok (.fn f a' b')
   | .agg r=>match r with
     | .G l=>(oz (nD bs n) l).bind fun m=>.ok (.agg (.G m))
     | .M l=>(mN (nD bs n) l).bind fun m=>.ok (.agg (.M m))
     | r=>.ok (.agg r)
   | .tup l=>(oz (nD bs n) l).bind fun m=>.ok (.tup m)
   | v=>.ok v
theorem CY (bs:List (Nat×al)):∀ (n:Nat) (v u:AV),(nD bs n v).run=some u→dL bs n v=u
 | 0,v,u,h=>Tr.af h
 | n + 1,v,  u,h=>by
   have ih:=CY bs n;simp only[nD,sb] at h;cases v with
   | ptr d i ver off =>
     cases d with
     | succ d=>exact Tr.af h
     | zero =>
       dsimp only at h;simp only[dL];split at h
       · rename_i w r hg;obtain ⟨hw,h⟩:=Tr.a7 h;rw[hg];dsimp only;rw[if_pos hw];cases r with
         | I k l=>exact Tr.af h
         | F f m=>exact Tr.af h
         | G l =>
           obtain ⟨m,h1,h⟩:=Tr.bind_some h;rw[← Tr.af h,← fc ih _ _ h1]
         | M l =>
           dsimp only at h ⊢;cases ha:fU l with
           | true=>rw[ha,cond_true] at h;rw[if_pos rfl];exact Tr.af h
           | false =>
             rw[ha,cond_false] at h;obtain ⟨m,h1,h⟩:=Tr.bind_some h;rw[if_neg (by simp),← Tr.af h,← iq ih _ _ h1]
       · exact (Tr.ai h).elim
   | slc d i ver off sz len cap =>
     cases d with
     | succ d=>exact Tr.af h
     | zero =>
       dsimp only at h;simp only[dL];split at h
       · rename_i w r hg;obtain ⟨hw,h'⟩:=Tr.aX h;clear h;rw[fV,decide_eq_true_eq] at hw;subst hw;rw[hg];dsimp only;split at h'
         · rename_i k z N;have h:=h';obtain ⟨hc,h⟩:=Tr.aX h;rw[j6,decide_eq_true_eq,cY] at hc;rw[if_pos ⟨by simp,by simp only[Row.len,aE,aV];omega⟩,← Tr.af h,ko,cY,m5];simp only[Row.sub,fU,if_true]
         · have h:=h';obtain ⟨hc,h⟩:=Tr.a7 h;rw[ld,decide_eq_true_eq] at hc;rw[if_pos ⟨by simp,hc⟩,← Tr.af h,ko,iA,ik];rfl
         · have h:=h';obtain ⟨hc,h⟩:=Tr.aX h;rw[j6,decide_eq_true_eq,cY] at hc;rw[if_pos ⟨by simp,by simp only[Row.len];omega⟩,← Tr.af h,ko,cY];simp only[Row.sub,aH]
         · have h:=h';obtain ⟨hc,h⟩:=Tr.a7 h;rw[ld,decide_eq_true_eq] at hc;obtain ⟨m,h1,h⟩:=Tr.bind_some h;rw[iA,ik] at h1;rw[if_pos ⟨by simp,hc⟩,← Tr.af h,ko,← fc ih _ _ h1];rfl
         · exact (Tr.ai h').elim
       · exact (Tr.ai h).elim
   | ptrT s r off =>
     cases s with
     | none=>exact Tr.af h
     | some s =>
       cases s with
       | succ s=>exact Tr.af h
       | zero =>
         simp only[dL];cases r with
         | I k l=>exact Tr.af h
         | F f m=>exact Tr.af h
         | G l =>
           obtain ⟨m,h1,h⟩:=Tr.bind_some h;rw[← Tr.af h,← fc ih _ _ h1]
         | M l =>
           dsimp only at h ⊢;cases ha:fU l with
           | true=>rw[ha,cond_true] at h;rw[if_pos rfl];exact Tr.af h
           | false =>
             rw[ha,cond_false] at h;obtain ⟨m,h1,h⟩:=Tr.bind_some h;rw[if_neg (by simp),← Tr.af h,← iq ih _ _ h1]
   | slcT s r sz len full =>
     cases s with
     | none=>exact Tr.af h
     | some s =>
       cases s with
       | succ s=>exact Tr.af h
       | zero =>
         simp only[dL];cases r with
         | I k l=>exact Tr.af h
         | F f m=>exact Tr.af h
         | G l =>
           obtain ⟨m,h1,h⟩:=Tr.bind_some h;rw[← Tr.af h,← fc ih _ _ h1]
         | M l =>
           dsimp only at h ⊢;cases ha:fU l with
           | true=>rw[ha,cond_true] at h;rw[if_pos rfl];exact Tr.af h
           | false =>
             rw[ha,cond_false] at h;obtain ⟨m,h1,h⟩:=Tr.bind_some h;rw[if_neg (by simp),← Tr.af h,← iq ih _ _ h1]
   | map d i=>cases d<;>exact Tr.af h
   | yld d i=>cases d<;>exact Tr.af h
   | fn f a b =>
     obtain ⟨a',h1,h⟩:=Tr.bind_some h;obtain ⟨b',h2,h⟩:=Tr.bind_some h;simp only[dL];rw[← Tr.af h,← fc ih _ _ h1,← fc ih _ _ h2]
   | agg r =>
     simp only[dL];cases r with
     | I k l=>exact Tr.af h
     | F f m=>exact Tr.af h
     | G l =>
       obtain ⟨m,h1,h⟩:=Tr.bind_some h;rw[← Tr.af h,← fc ih _ _ h1]
     | M l =>
       obtain ⟨m,h1,h⟩:=Tr.bind_some h;rw[← Tr.af h,← iq ih _ _ h1]
   | tup l =>
     obtain ⟨m,h1,h⟩:=Tr.bind_some h;simp only[dL];rw[← Tr.af h,← fc ih _ _ h1]
   | _=>exact Tr.af h

def Iv (l:List HV):Nat→aT:=List.rec (motive:=fun _=>Nat→aT) (fun _=>[]) (fun v _ ih x=>(x,(mf 1 v.1,v.2))::ih (Nat.succ x)) l
theorem wI:∀ (l:List HV) (x:Nat),strip (Iv l x)=eE x (jY l)
 | [],x=>rfl
 | v::l,x=>by
   have e:Iv (v::l) x=(x,(mf 1 v.1,v.2))::Iv l (x+1):=rfl;rw[e,dg,wI l];rfl
def hints (f:aD):aT:=List.rec (motive:=fun _=>aT) [] (fun p _ ih=>(p.1,(p.2,none))::ih) f
theorem aN:∀ f:aD,strip (hints f)=f
 | []=>rfl
 | (x,v)::r=>by
   have e:hints ((x,v)::r)=(x,(v,none))::hints r:=rfl;rw[e,dg,aN r]
def B4 (P:Program) (fr:aT) (H:aa):List ResultVar→Tr (List AV)
 | []=>.ok []
 | .tmp t::r=>(B4 P fr H r).bind fun l=>.ok ((lU fr t).1::l)
 | .cell a t::r=>(loadT P H t (cD fr (.tmp a))).bind fun v=>(B4 P fr H r).bind fun l=>.ok (v::l)
theorem xJ {P:Program} {fr:aT} {H:aa}:∀ (l:List ResultVar) (vs:List AV),(B4 P fr H l).run=some vs→gN P (strip fr) H l=some vs
 | [],vs,h=>by rw[← Tr.af h];rfl
 | .tmp t::r,vs,h=>by
   simp only[B4] at h;obtain ⟨l,h1,h⟩:=Tr.bind_some h;simp only[gN];rw[xJ r l h1,← Tr.af h,fp];rfl
 | .cell a t::r,vs,h=>by
   simp only[B4] at h;obtain ⟨v,h0,h⟩:=Tr.bind_some h;obtain ⟨l,h1,h⟩:=Tr.bind_some h;have h0:=zd h0;rw[bh] at h0;simp only[gN];have e:b5 (strip fr) (.tmp a)=bM (strip fr) a:=rfl;rw[e] at h0;rw[h0];dsimp only;rw[xJ r l h1,← Tr.af h];rfl
def KA (fr:aT) (rs:List ResultVar):Option Nat :=
 match rs with
 | [.tmp t]=>(lU fr t).2
 | _=>none
def M8 (P:Program) (rs:List ResultVar) (x:ev):Tr (HV×aa) :=
 match x with
 | (e,fr,l::H)=>match e with
   | .normal | .ret=>(B4 P fr (l::H) rs).bind fun vs=>(nD l.bs 5 (one vs)).bind fun v=>.ok ((v,KA fr rs),H)
   | _=>.bad
 | _=>.bad
theorem DA {P:Program} {rs:List ResultVar} {x:ev} {y:HV×aa} (h:(M8 P rs x).run=some y):∃ l vs,x.2.2=l::y.2∧(x.1=.normal∨x.1=.ret)∧gN P (strip x.2.1) x.2.2 rs=some vs∧dL l.bs 5 (one vs)=y.1.1:=by
 unfold M8 at h;split at h
 · rename_i e fr l H;have key:((B4 P fr (l::H) rs).bind fun vs=>(nD l.bs 5 (one vs)).bind fun v=>Tr.ok (((v,KA fr rs),H):HV×aa)).run=some y→∃ vs,l::H=l::y.2∧gN P (strip fr) (l::H) rs=some vs∧dL l.bs 5 (one vs)=y.1.1:=by
    intro h;obtain ⟨vs,h1,h⟩:=Tr.bind_some h;obtain ⟨v,h2,h⟩:=Tr.bind_some h;have h:=Tr.af h;refine ⟨vs,by rw[← h],xJ _ _ h1,?_⟩;rw[CY _ _ _ _ h2,← h]
   split at h
   · obtain ⟨vs,h1,h2,h3⟩:=key h;exact ⟨l,vs,h1,.inl rfl,h2,h3⟩
   · obtain ⟨vs,h1,h2,h3⟩:=key h;exact ⟨l,vs,h1,.inr rfl,h2,h3⟩
   · exact (Tr.ai h).elim
 · exact (Tr.ai h).elim
def aZ (P:Program) (call:aO) (fu:Nat) (f:FuncId) (fn:Func) (kt:Nat→Nat) (callR:bx) (bl:eV) (rg:nZ) (args:List HV) (H:aa):Tr (HV×aa) :=
 (aF ⟨P,call,fu,f,fn.ntmps,kt,none⟩ callR bl rg (aW fn) (Iv args 0) (⟨false,[]⟩::H)).bind fun x=>M8 P fn.results.toList x
theorem oY {P:Program} {ora:aO→FuncId→List AV→aa→Option (AV×aa)} {KT:FuncId→Nat→Nat} {fu n:Nat} {f:FuncId} {fn:Func} (hf:P.funcs[f]?=some fn) (hb:fn.body.isSome=true) {args:List HV} {H:aa} (ho:ora (dv P ora KT fu n) f (jY args) H=none) (hle:Nat.ble args.length fn.ntmps=true)
 {callR:bx} (hC:callR.Ok (dv P ora KT fu n)) {bl:eV} (hB:bl.Ok ⟨P,dv P ora KT fu n,fu,f,fn.ntmps,KT f,none⟩ (aW fn)) {rg:nZ} (hR:rg.Ok ⟨P,dv P ora KT fu n,fu,f,fn.ntmps,KT f,none⟩ (aW fn)) {y:HV×aa}
 (h:(aZ P (dv P ora KT fu n) fu f fn (KT f) callR bl rg args H).run=some y):dv P ora KT fu (n+1) (.fn f) (jY args) H=some (y.1.1,y.2):=by
 unfold aZ at h
 obtain ⟨x,h1,h⟩:=Tr.bind_some h
 have h1:=fX hC _ hB hR _ _ _ h1
 rw[wI] at h1
 obtain ⟨l,vs,k1,k2,k3,k4⟩:=DA h
 obtain ⟨c,hc⟩:=Option.isSome_iff_exists.1 hb
 have hbody:aW fn=c:=by unfold aW;rw[hc]
 rw[hbody] at h1
 obtain ⟨e,fr,H1⟩:=x
 dsimp only[ev.st] at h1 k1 k2 k3
 rw[k1] at h1 k3
 have hl:(jY args).length=args.length:=by unfold jY;rw[jK,List.length_map]
 simp only[dv,ho,hf,hc,hl,hle,if_true,h1]
 rcases k2 with rfl | rfl<;>simp only[k3]<;>rw[k4]

theorem iD {cx:Cx} {id:Nat} {b:Code} {fr fr1:aD} {H H1:aa} (h:iter (exec cx b) (a6 H) cx.fu fr H=some (.exit id,fr1,H1)):exec cx (.block id (.loop b)) fr H=some (.normal,fr1,H1):=by
 unfold exec;have:exec cx (.loop b) fr H=some (.exit id,fr1,H1):=by unfold exec;exact h
 rw[this];dsimp only;rw[if_pos (by simp)]
theorem cU {cx:Cx} {id:Nat} {b:Code} {fr fr1:aD} {H H1:aa} {e:Ex} (he:∀ id',e=.exit id'→Nat.beq id' id=false) (h:iter (exec cx b) (a6 H) cx.fu fr H=some (e,fr1,H1)):exec cx (.block id (.loop b)) fr H=some (e,fr1,H1):=by
 unfold exec;have:exec cx (.loop b) fr H=some (e,fr1,H1):=by unfold exec;exact h
 rw[this];cases e with
 | exit id'=>dsimp only;rw[if_neg (by rw[he id' rfl];simp)]
 | _=>rfl
def fN (p:Nat→Bool):Nat→Nat→Nat
 | 0,j=>j
 | k+1,j=>if p j then j else fN p k (j+1)
theorem rR (p:Nat→Bool):∀ (k j:Nat),j≤fN p k j∧fN p k j≤j+k∧(∀ i,j≤i→i<fN p k j→p i=false)∧(fN p k j<j+k→p (fN p k j)=true)
 | 0,j=>⟨Nat.le_refl _,Nat.le_refl _,fun i h1 h2=>absurd h2 (by simp only[fN];omega),fun h=>absurd h (by simp only[fN];omega)⟩
 | k + 1,j=>by
   simp only[fN];by_cases h:p j=true
   · rw[if_pos h];exact ⟨Nat.le_refl _,by omega,fun i h1 h2=>by omega,fun _=>h⟩
   · rw[if_neg h];obtain ⟨h1,h2,h3,h4⟩:=rR p k (j+1);refine ⟨by omega,by omega,fun i k1 k2=>?_,fun k1=>h4 wO⟩;by_cases e:i=j
     · subst e;simpa using h
     · exact h3 i wO k2
theorem jb {body:aD→aa→Option (Ex×aD×aa)} {n:Nat} (F:Nat→aD) (G:Nat→aa) (N:Nat) (p:Nat→Bool) (X:Nat→Ex×aD×aa)
 (hs:∀ j,j<N→p j=false→∃ f g,body (F j) (G j)=some (.normal,f,g)∧tidy n f g=(F (j+1),G (j+1)))
 (hh:∀ j,j<N→p j=true→body (F j) (G j)=some (X j)∧(X j).1≠.normal) (he:body (F N) (G N)=some (X N)∧(X N).1≠.normal) :
 ∀ (k j fu:Nat),j+k=N→k<fu→iter body n fu (F j) (G j)=some (X (fN p k j))
 | 0,j,0,_,h=>by omega
 | 0,j,fu+1,hj,_=>by
   have:j=N:=by omega
   subst this;unfold iter;rw[he.1];obtain ⟨x,hx⟩:∃ x,x=X j:=⟨_,rfl⟩
   have hn:=he.2;simp only[fN];rw[← hx] at hn ⊢;obtain ⟨e,f,g⟩:=x;cases e<;>first | exact absurd rfl hn | rfl
 | k+1,j,0,_,h=>by omega
 | k + 1,j,fu+1,hj,hf=>by
   unfold iter;cases hp:p j with
   | true =>
     obtain ⟨h1,h2⟩:=hh j wO hp;rw[h1];simp only[fN];rw[if_pos hp];obtain ⟨x,hx⟩:∃ x,x=X j:=⟨_,rfl⟩
     rw[← hx] at h2 ⊢;obtain ⟨e,f,g⟩:=x;cases e<;>first | exact absurd rfl h2 | rfl
   | false =>
     obtain ⟨f,g,h1,h2⟩:=hs j wO hp;rw[h1];dsimp only;rw[h2];simp only[fN];rw[if_neg (by rw[hp];simp)];exact jb F G N p X hs hh he k (j+1) fu wO wO
theorem yU {body:aD→aa→Option (Ex×aD×aa)} {n:Nat} (I:Nat→aD→aa→Prop) (Q:Ex×aD×aa→Prop) (N:Nat)
 (hr:∀ j fr H,I j fr H→(∃ e f g,body fr H=some (e,f,g)∧((e=.normal∧j<N∧I (j+1) (tidy n f g).1 (tidy n f g).2)∨(e≠.normal∧Q (e,f,g))))) :
 ∀ (fu j:Nat) (fr:aD) (H:aa),I j fr H→N-j<fu→∃ x,iter body n fu fr H=some x∧Q x
 | 0,j,fr,H,_,h=>by omega
 | fu+1,j,fr,H,hI,h=>by
   obtain ⟨e,f,g,h1,h2⟩:=hr j fr H hI;unfold iter;rw[h1];rcases h2 with ⟨rfl,hj,h2⟩ | ⟨he,hq⟩
   · dsimp only;exact yU I Q N hr fu (j+1) _ _ h2 wO
   · cases e<;>first | exact absurd rfl he | exact ⟨_,rfl,hq⟩

end
end Go.Eng
end
