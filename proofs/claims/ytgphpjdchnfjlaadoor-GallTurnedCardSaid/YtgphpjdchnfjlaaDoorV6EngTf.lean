/- The engine as a tree: regions, code, calls. -/
import Derived.Test.YtgphpjdchnfjlaaDoorV6EngTe
set_option linter.unusedVariables false
set_option linter.unusedSimpArgs false
namespace Go.Eng
noncomputable section

def wo (f:aO) (y:Nat) (b:Bool):aO:=List.rec (motive:=fun _=>aO) [] (fun p r ih=>Bool.rec (motive:=fun _=>aO) (p::ih) ((p.1,(.bool b,some 1))::r) (Nat.beq p.1 y)) f
theorem tK:∀ (f:aO) (y:Nat) (b:Bool),bO (strip f) y=.bool b→strip (wo f y b)=strip f
 | [],y,b,_=>rfl
 | (x,v)::r,y,b,h=>by
   have e:wo ((x,v)::r) y b=Bool.rec (motive:=fun _=>aO) ((x,v)::wo r y b) ((x,(.bool b,some 1))::r) (Nat.beq x y):=rfl;rw[cX,bO] at h;rw[e];cases hb:Nat.beq x y with
   | true =>
     rw[hb] at h;have h:v.1=.bool b:=h;show (x,AV.bool b)::strip r=(x,v.1)::strip r;rw[h]
   | false =>
     rw[hb] at h;show (x,v.1)::strip (wo r y b)=(x,v.1)::strip r;rw[tK r y b h]
def uQ {α:Type} (fr:aO) (d:Nat) (t e:aO→Tr α):Tr α :=
 match l7 fr d with
 | (.bool b,none)=>.ite b (t (wo fr d true)) (e (wo fr d false))
 | (.bool b,some _)=>cond b (t fr) (e fr)
 | _=>.bad
theorem jJ {α:Type} {fr:aO} {d:Nat} {t e:aO→Tr α} {x:α} (h:(uQ fr d t e).run=some x):∃ b fr',bO (strip fr) d=.bool b∧strip fr'=strip fr∧(if b then t fr' else e fr').run=some x:=by
 unfold uQ at h;split at h
 · rename_i b hg;have hg':bO (strip fr) d=.bool b:=by rw[← fm,hg]
   rcases Tr.kL h with ⟨rfl,h⟩ | ⟨rfl,h⟩
   · exact ⟨true,_,hg',tK _ _ _ hg',h⟩
   · exact ⟨false,_,hg',tK _ _ _ hg',h⟩
 · rename_i b n hg;have hg':bO (strip fr) d=.bool b:=by rw[← fm,hg]
   refine ⟨b,fr,hg',rfl,?_⟩;cases b<;>exact h
 · exact (Tr.ah h).elim
def Eo (ops:Array Oper) (fr:aO) (o:Oper):Tr (Bool×aO) :=
 match o.guard with
 | none=>.ok (true,fr)
 | some (j,want)=>match (ops[j]?).bind (·.dst) with
   | none=>.bad
   | some d=>match (l7 fr d).1 with
     | .bool _=>cond want (uQ fr d (fun fr=>.ok (true,fr)) (fun fr=>.ok (false,fr))) (uQ fr d (fun fr=>.ok (false,fr)) (fun fr=>.ok (true,fr)))
     | .tup _=>.ok (false,fr)
     | _=>.bad
theorem A9 {ops:Array Oper} {fr:aO} {o:Oper} {r:Bool×aO} (h:(Eo ops fr o).run=some r):ma ops (strip fr) o=(if r.1 then .run else .skip)∧strip r.2=strip fr:=by
 unfold Eo at h;unfold ma;cases hg:o.guard with
 | none =>
   rw[hg] at h;rw[← Tr.ae h];exact ⟨rfl,rfl⟩
 | some jw =>
   obtain ⟨j,want⟩:=jw;rw[hg] at h;dsimp only at h ⊢;cases hd:(ops[j]?).bind (·.dst) with
   | none=>rw[hd] at h;exact (Tr.ah h).elim
   | some d =>
     rw[hd] at h;dsimp only at h ⊢;have he:=fm fr d;rw[he] at h;cases hv:bO (strip fr) d<;>rw[hv] at h<;>try exact (Tr.ah h).elim
     case bool b =>
      dsimp only at h ⊢
      cases want with
      | true =>
        rw[cond_true] at h
        obtain ⟨b',fr',h1,h2,h3⟩:=jJ h
        rw[hv] at h1
        cases h1
        cases b<;>(have h3:=Tr.ae h3;rw[← h3];exact ⟨rfl,h2⟩)
      | false =>
        rw[cond_false] at h
        obtain ⟨b',fr',h1,h2,h3⟩:=jJ h
        rw[hv] at h1
        cases h1
        cases b<;>(have h3:=Tr.ae h3;rw[← h3];exact ⟨rfl,h2⟩)
     case tup l=>rw[← Tr.ae h];exact ⟨rfl,rfl⟩

def jb (P:Program) (nt:Nat) (call:aN) (callR:bw) (ops:Array Oper):List Oper→aO→aa→Tr (aO×aa)
 | [],fr,H=>.ok (fr,H)
 | o::r,fr,H=>(Eo ops fr o).bind fun b=>cond b.1
   ((Qz o.op o P call callR b.2 H (xr H)).bind fun y=>jb P nt call callR ops r (rv nt b.2 o.dst y.1) (T5 y.2 H))
   (jb P nt call callR ops r (rv nt b.2 o.dst (.tup [],none)) H)
theorem fE {P:Program} {nt:Nat} {call:aN} {callR:bw} (hC:callR.Ok call) {ops:Array Oper}:∀ (l:List Oper) (fr:aO) (H:aa) (x:aO×aa),(jb P nt call callR ops l fr H).run=some x→fj P nt call ops l (strip fr) H=some (strip x.1,x.2)
 | [],fr,H,x,h=>by rw[← Tr.ae h];rfl
 | o :: r,fr,H,x,h=>by
   simp only[jb] at h;obtain ⟨b,h1,h⟩:=Tr.bind_some h;unfold fj;obtain ⟨hw,hs⟩:=A9 h1;rw[hw,← hs];obtain ⟨b,fr1⟩:=b;dsimp only at h ⊢;cases b with
   | false =>
     have:=fE hC r _ _ _ h;rw[mU] at this;exact this
   | true =>
     rw[cond_true] at h;obtain ⟨y,h2,h⟩:=Tr.bind_some h;have h2:=Cd hC h2;rw[qp] at h2;have:=fE hC r _ _ _ h;rw[mU,NU] at this;rw[if_pos rfl];dsimp only;rw[h2];exact this

def pM (fr:aO) (o:Oper):Touch:=uy (strip fr) o
def qj (P:Program) (call:aN) (callR:bw) (ops:Array Oper) (bef:Nat) (fr0:aO) (H:aa) (nx:Nat) (recs:List Rec) (o:Oper):Tr (ve×Option Nat×aO) :=
 (Eo ops fr0 o).bind fun b=>cond b.1
   (cond (fx o) ((Qz o.op o P call callR b.2 (tD (mG bef recs H)) nx).bind fun y=>.ok (⟨y.1.1,.all,none⟩,y.1.2,b.2))
     ((Qz o.op o P call callR b.2 (mG bef recs H) nx).bind fun y=>match y.2 with
       | .bD=>.ok (⟨y.1.1,pM b.2 o,none⟩,y.1.2,b.2)
       | .push q=>cond (jX o && !mK q && r7 (nQ H 0 nx) && !kg H 0) (.ok (⟨y.1.1,pM b.2 o,some (0,nx,(0,q))⟩,y.1.2,b.2)) .bad
       | .set d i q=>.req (cr (eU (nQ H d i).1 q.1) (eU q.1 (Nat.succ (nQ H d i).1))) (cond (!mK q.2 && !mK (nQ (mG bef recs H) d i).2 && kO bef d i recs) (.ok (⟨y.1.1,pM b.2 o,some (d,i,q)⟩,y.1.2,b.2)) .bad)
       | _=>.bad))
   (.ok (⟨.tup [],.none,none⟩,none,b.2))
theorem xa {P:Program} {call:aN} {callR:bw} (hC:callR.Ok call) {ops:Array Oper} {bef:Nat} {fr:aO} {H:aa} {nx:Nat} {recs:List Rec} {o:Oper} {e:ve×Option Nat×aO} (h:(qj P call callR ops bef fr H nx recs o).run=some e) :
 ij P call ops bef (strip fr) H nx recs o=some e.1∧strip e.2.2=strip fr:=by
 unfold qj at h
 unfold ij
 simp only[ni,zj,pM,zV,pr,gG] at h
 obtain ⟨b,h1,h⟩:=Tr.bind_some h
 obtain ⟨hw,hs⟩:=A9 h1
 rw[hw,← hs]
 obtain ⟨b,fr1⟩:=b
 dsimp only at h ⊢
 cases b with
 | false =>
   rw[cond_false] at h
   rw[← Tr.ae h];exact ⟨rfl,rfl⟩
 | true =>
   rw[cond_true] at h
   rw[if_pos rfl]
   dsimp only
   cases hcv:fx o with
   | true =>
     rw[hcv,cond_true] at h
     obtain ⟨y,h2,h⟩:=Tr.bind_some h
     rw[if_pos rfl,Cd hC h2,← Tr.ae h]
     exact ⟨rfl,rfl⟩
   | false =>
     rw[hcv,cond_false] at h
     obtain ⟨y,h2,h⟩:=Tr.bind_some h
     rw[if_neg (by simp),Cd hC h2]
     split at h
     · rename_i hy
       rw[hy,← Tr.ae h];exact ⟨rfl,rfl⟩
     · rename_i b hy
       obtain ⟨hc,h⟩:=Tr.a6 h
       rw[hy]
       dsimp only
       rw[if_pos hc,← Tr.ae h];exact ⟨rfl,rfl⟩
     · rename_i d i b hy
       obtain ⟨hv,h⟩:=Tr.aW h
       obtain ⟨hc,h⟩:=Tr.a6 h
       rw[hy]
       dsimp only
       rw[ct,lD,lD,Bool.and_eq_true,decide_eq_true_eq,decide_eq_true_eq] at hv
       have hv':(Nat.beq b.1 (aB H d i).1 || Nat.beq b.1 (Nat.succ (aB H d i).1))=true:=by
        simp only[Bool.or_eq_true,Nat.beq_eq];omega
       simp only[Bool.and_eq_true] at hc
       rw[if_pos (by simp only[Bool.and_eq_true];exact ⟨⟨⟨hc.1.1,hv'⟩,hc.1.2⟩,hc.2⟩),← Tr.ae h];exact ⟨rfl,rfl⟩
     · exact (Tr.ah h).elim
def o7 (P:Program) (nt:Nat) (call:aN) (callR:bw) (ops:Array Oper) (befs:Array Nat):List Oper→Nat→aO→aa→Nat→List Rec→Tr (aO×aa)
 | [],_,fr,H,_,_=>.ok (fr,H)
 | o::r,j,fr,H,nx,recs=>(qj P call callR ops (befs.getD j 0) fr H nx recs o).bind fun e =>
   o7 P nt call callR ops befs r (j+1) (rv nt e.2.2 o.dst (e.1.v,e.2.1)) (HG H e.1.wr) (if jX o then nx+1 else nx) (⟨j,e.1.rd,e.1.wr.map fun x=>(x.1,x.2.1)⟩::recs)
theorem q8 {P:Program} {nt:Nat} {call:aN} {callR:bw} (hC:callR.Ok call) {ops:Array Oper} {befs:Array Nat}:∀ (l:List Oper) (j:Nat) (fr:aO) (H:aa) (nx:Nat) (recs:List Rec) (x:aO×aa),
 (o7 P nt call callR ops befs l j fr H nx recs).run=some x→gU P nt call ops befs j l (strip fr) H nx recs=some (strip x.1,x.2)
 | [],j,fr,H,nx,recs,x,h=>by rw[← Tr.ae h];rfl
 | o::r,j,fr,H,nx,recs,x,h=>by
   simp only[o7] at h;obtain ⟨e,h1,h⟩:=Tr.bind_some h;obtain ⟨hd,hs⟩:=xa hC h1;unfold gU;rw[hd,← hs];have:=q8 hC r _ _ _ _ _ _ h;rw[mU,HI] at this;exact this

def aP:Code→List (Nat×Code)
 | .block id b=>(id,b)::aP b
 | .loop b=>aP b
 | .seq a b=>aP a++aP b
 | .cond _ a b=>aP a++aP b
 | .scope b=>aP b
 | _=>[]
def aZ (f:Func):Code:=match f.body with | some c=>c | none=>.skip
abbrev db:=Ex×aO×aa
def db.st (x:db):Ex×aD×aa:=(x.1,strip x.2.1,x.2.2)
abbrev eV:=Nat→aO→aa→Option (Tr db)
abbrev nZ:=Operand→aO→aa→Option (Tr db)
def eV.Ok (bl:eV) (cx:Cx) (c:Code):Prop:=∀ id b,(id,b) ∈ aP c→∀ fr H t x,bl id fr H=some t→t.run=some x→exec cx (.block id b) (strip fr) H=some x.st
def dO:Code→List (Operand×Array Tmp×Code×Code)
 | .rangeFunc f ps a b=>[(f,ps,a,b)]
 | .loop b=>dO b
 | .block _ b=>dO b
 | .seq a b=>dO a++dO b
 | .cond _ a b=>dO a++dO b
 | .scope b=>dO b
 | _=>[]
def nZ.Ok (rg:nZ) (cx:Cx) (c:Code):Prop:=∀ f ps a b,(f,ps,a,b) ∈ dO c→∀ fr H t x,rg f fr H=some t→t.run=some x→exec cx (.rangeFunc f ps a b) (strip fr) H=some x.st
def bP (bl:eV) (id0:Nat) (fr0:aD) (H0:aa) (u:Tr db):eV:=fun id fr H=>cond (Nat.beq id id0) (some (.reqP (strip fr=fr0∧H=H0) u)) (bl id fr H)
theorem az {bl:eV} {cx:Cx} {c:Code} (h:bl.Ok cx c) {id0:Nat} {fr0:aD} {H0:aa} {u:Tr db} {B:Code} (hB:∀ b,(id0,b) ∈ aP c→b=B) (k:∀ x,u.run=some x→exec cx (.block id0 B) fr0 H0=some x.st):(bP bl id0 fr0 H0 u).Ok cx c:=by
 intro id b hm fr H t y ht hy;unfold bP at ht;cases hb:Nat.beq id id0 with
 | true =>
   have vp:=Nat.eq_of_beq_eq_true hb;subst vp;rw[hb,cond_true,Option.some.injEq] at ht;subst ht;obtain ⟨⟨h1,h2⟩,h3⟩:=Tr.gL hy;rw[h1,h2,hB b hm];exact k y h3
 | false =>
   rw[hb,cond_false] at ht;exact h id b hm fr H t y ht hy
def HO (rg:nZ) (tf:Operand→Bool) (fr0:aD) (H0:aa) (u:Tr db):nZ:=fun f fr H=>cond (tf f) (some (.reqP (strip fr=fr0∧H=H0) u)) (rg f fr H)
theorem Ci {rg:nZ} {cx:Cx} {c:Code} (h:rg.Ok cx c) {tf:Operand→Bool} {fr0:aD} {H0:aa} {u:Tr db} (k:∀ f ps a b,tf f=true→(f,ps,a,b) ∈ dO c→∀ x,u.run=some x→exec cx (.rangeFunc f ps a b) fr0 H0=some x.st):(HO rg tf fr0 H0 u).Ok cx c:=by
 intro f ps a b hm fr H t y ht hy;unfold HO at ht;cases hb:tf f with
 | true =>
   rw[hb,cond_true,Option.some.injEq] at ht;subst ht;obtain ⟨⟨h1,h2⟩,h3⟩:=Tr.gL hy;rw[h1,h2];exact k f ps a b hb hm y h3
 | false =>
   rw[hb,cond_false] at ht;exact h f ps a b hm fr H t y ht hy
def aS:eV:=fun _ _ _=>none
def aR:nZ:=fun _ _ _=>none
theorem ai (cx:Cx) (c:Code):aS.Ok cx c:=fun _ _ _ _ _ _ _ h=>by cases h
theorem aj (cx:Cx) (c:Code):aR.Ok cx c:=fun _ _ _ _ _ _ _ _ _ h=>by cases h
def zq (g:AV→AV):aO→aO
 | []=>[]
 | (x,(v,h))::r=>(x,(nH g v,h))::zq g r
theorem zt (g:AV→AV):∀ fr:aO,strip (zq g fr)=qG g (strip fr)
 | []=>rfl
 | (x,(v,h))::r=>by
   have e:zq g ((x,(v,h))::r)=(x,(nH g v,h))::zq g r:=rfl;rw[e,cX,cX,qG,zt g r]
def lV (n:Nat):Nat→aO→aa→aO×aa
 | 0,fr,H=>(fr,H)
 | k + 1,fr,H=>match H with
   | []=>(fr,[])
   | l::r=>cond (Nat.ble (kN l.bs) (Nat.succ n)) (fr,l::r) (match hole (strip fr) l.bs 4 n with
     | none=>(fr,l::r)
     | some h=>lV n k (zq (vB (l.bs.length-1) h) fr) (mA n (qG (vB (l.bs.length-1) h) (strip fr)) (yg (l.bs.length-1) h l::r)))
theorem uR (n:Nat):∀ (k:Nat) (fr:aO) (H:aa),(strip (lV n k fr H).1,(lV n k fr H).2)=kr n k (strip fr) H
 | 0,fr,H=>rfl
 | k+1,fr,[]=>rfl
 | k + 1,fr,l::r=>by
   cases hb:Nat.ble (kN l.bs) (Nat.succ n) with
   | true =>
     have:lV n (k+1) fr (l::r)=(fr,l::r):=by
      unfold lV;dsimp only;rw[hb];rfl
     rw[this,Cy (by rw[eE] at hb;simpa using hb)]
   | false =>
     unfold lV kr;dsimp only;rw[hb,cond_false];cases hole (strip fr) l.bs 4 n with
     | none=>rfl
     | some h =>
       dsimp only;rw[uR n k,zt]
def Ej (n:Nat) (fr:aO) (H:aa):aO×aa:=lV n 4 fr (mA n (strip fr) H)
theorem Im (n:Nat) (fr:aO) (H:aa):(strip (Ej n fr H).1,(Ej n fr H).2)=tidy n (strip fr) H:=uR n 4 fr _
def Dn (body:aO→aa→Tr db) (n:Nat):Nat→aO→aa→Tr db
 | 0,_,_=>.bad
 | k+1,fr,H=>(body fr H).bind fun x=>match x with
   | (.normal,fr,H)=>Dn body n k (Ej n fr H).1 (Ej n fr H).2
   | r=>.ok r
theorem wi {body:aD→aa→Option (Ex×aD×aa)} {n:Nat}:∀ (k m:Nat) (fr:aD) (H:aa) (x:Ex×aD×aa),iter body n k fr H=some x→k≤m→iter body n m fr H=some x
 | 0,m,fr,H,x,h,_=>by simp[iter] at h
 | k+1,0,fr,H,x,h,hk=>by omega
 | k + 1,m+1,fr,H,x,h,hk=>by
   unfold iter at h ⊢;cases hb:body fr H with
   | none=>rw[hb] at h;simp at h
   | some y =>
     rw[hb] at h;obtain ⟨e,f,g⟩:=y;cases e;case normal=>exact wi k m _ _ _ h wO
     all_goals exact h
theorem yW {body:aO→aa→Tr db} {body':aD→aa→Option (Ex×aD×aa)} {n:Nat} (hb:∀ fr H x,(body fr H).run=some x→body' (strip fr) H=some x.st):∀ (k:Nat) (fr:aO) (H:aa) (x:db),(Dn body n k fr H).run=some x→iter body' n k (strip fr) H=some x.st
 | 0,fr,H,x,h=>(Tr.ah h).elim
 | k+1,fr,H,x,h=>by
   simp only[Dn] at h;obtain ⟨y,h1,h⟩:=Tr.bind_some h;unfold iter;rw[hb _ _ _ h1];obtain ⟨e,f,g⟩:=y;cases e;case normal =>
    have e:=Im n f g
    have h:=yW hb k _ _ _ h
    show iter body' n k (tidy n (strip f) g).1 (tidy n (strip f) g).2=_
    rw[← e];exact h
   all_goals
    have h:=Tr.ae h
    rw[← h];rfl
def oA (f:AV→Tr AV):List AV→Tr (List AV)
 | []=>.ok []
 | v::l=>(f v).bind fun u=>(oA f l).bind fun m=>.ok (u::m)
theorem fc {f:AV→Tr AV} {g:AV→AV} (hf:∀ v u,(f v).run=some u→g v=u):∀ (l m:List AV),(oA f l).run=some m→l.map g=m
 | [],m,h=>Tr.ae h
 | v::l,m,h=>by
   simp only[oA] at h;obtain ⟨u,h1,h⟩:=Tr.bind_some h;obtain ⟨n,h2,h⟩:=Tr.bind_some h;rw[← Tr.ae h,List.map_cons,hf _ _ h1,fc hf l n h2]
def mO (f:AV→Tr AV):List dp→Tr (List dp)
 | []=>.ok []
 | .one v::l=>(f v).bind fun u=>(mO f l).bind fun m=>.ok (.one u::m)
 | .arr k z n::l=>(mO f l).bind fun m=>.ok (.arr k z n::m)
theorem iv {f:AV→Tr AV} {g:AV→AV} (hf:∀ v u,(f v).run=some u→g v=u):∀ (l m:List dp),(mO f l).run=some m→mapM' g l=m
 | [],m,h=>Tr.ae h
 | .one v::l,m,h=>by
   simp only[mO] at h;obtain ⟨u,h1,h⟩:=Tr.bind_some h;obtain ⟨n,h2,h⟩:=Tr.bind_some h;rw[← Tr.ae h,mapM',hf _ _ h1,iv hf l n h2]
 | .arr k z n::l,m,h=>by
   simp only[mO] at h;obtain ⟨n,h2,h⟩:=Tr.bind_some h;rw[← Tr.ae h,mapM',iv hf l n h2]
def qY (cap:Option Nat) (len:Nat):Bool :=
 match cap with
 | none=>false
 | some c=>cg c len
theorem kD (cap:Option Nat) (len:Nat):qY cap len=(cap == some len):=by
 cases cap with
 | none=>rfl
 | some c=>simp only[qY,fZ];rw[Bool.eq_iff_iff];simp
def yR (i ver:Nat) (r:Row):AV→Tr AV
 | .ptr d j v off=>cond (Nat.beq d 0 && Nat.beq j i) (.req (cg v ver) (.ok (.ptrT none r off))) (.ok (.ptr d j v off))
 | .slc d j v off sz len cap=>cond (Nat.beq d 0 && Nat.beq j i) (.req (cg v ver) (match r with
    | .M [.arr k z N]=>.req (dN off (fT len sz) 0 N) (.ok (.slcT none (.M [.arr k (jI z off) (fT len sz)]) sz len (qY cap len)))
    | .I k l=>cond (vo (.I k l) off (Nat.mul len sz)) (.ok (.slcT none (.I k (l9 (lZ l off) (Nat.mul len sz))) sz len (qY cap len))) .bad
    | _=>.bad)) (.ok (.slc d j v off sz len cap))
 | v=>.ok v
theorem vR {d j i:Nat} {x:Bool} (h:(Nat.beq d 0 && Nat.beq j i)=true):(Nat.beq d 0 && (Nat.beq j i && x))=x:=by
 rw[Bool.and_eq_true] at h;rw[h.1,h.2];rfl
theorem vS {d j i:Nat} {x:Bool} (h:(Nat.beq d 0 && Nat.beq j i)=false):(Nat.beq d 0 && (Nat.beq j i && x))=false:=by
 rw[← Bool.and_assoc,h];rfl
theorem yS {i ver:Nat} {r:Row}:∀ v u,(yR i ver r v).run=some u→nG i ver r v=u:=by
 intro v u h;cases v with
 | ptr d j v off =>
   simp only[yR] at h;simp only[nG];cases hc:(Nat.beq d 0 && Nat.beq j i) with
   | false=>rw[hc,cond_false] at h;rw[vS hc,if_neg (by simp)];exact Tr.ae h
   | true =>
     rw[hc,cond_true] at h;obtain ⟨h1,h⟩:=Tr.aW h;rw[fZ,decide_eq_true_eq] at h1;rw[vR hc,if_pos (by simpa using h1)];exact Tr.ae h
 | slc d j v off sz len cap =>
   simp only[yR] at h;simp only[nG];cases hc:(Nat.beq d 0 && Nat.beq j i) with
   | false=>rw[hc,cond_false] at h;rw[vS hc,if_neg (by simp)];exact Tr.ae h
   | true =>
     rw[hc,cond_true] at h;obtain ⟨h1,h2⟩:=Tr.aW h;clear h;rw[fZ,decide_eq_true_eq] at h1;rw[vR hc];split at h2
     · obtain ⟨h3,h⟩:=Tr.aW h2;rw[kh,decide_eq_true_eq,cO] at h3;rw[if_pos (by simp[h1,Row.len,aE,aU];omega),← Tr.ae h,kD,cO,m5];rfl
     · obtain ⟨h3,h⟩:=Tr.a6 h2;rw[lr,decide_eq_true_eq] at h3;rw[if_pos (by simp only[h1,Bool.and_eq_true];exact ⟨by simp,Nat.ble_eq_true_of_le h3⟩),← Tr.ae h,kD,iC,ik];rfl
     · exact (Tr.ah h2).elim
 | _=>exact Tr.ae h
def zu (f:AV→Tr AV) (v:AV):Tr AV :=
 match v with
 | .agg (.G l)=>(oA f l).bind fun m=>.ok (.agg (.G m))
 | .agg (.M l)=>(mO f l).bind fun m=>.ok (.agg (.M m))
 | .fn g a b=>(oA f a).bind fun a'=>(oA f b).bind fun b'=>.ok (.fn g a' b')
 | v=>f v
theorem tJ {f:AV→Tr AV} {g:AV→AV} (hf:∀ v u,(f v).run=some u→g v=u):∀ v u,(zu f v).run=some u→nH g v=u:=by
 intro v u h;unfold zu at h;split at h
 · obtain ⟨m,h1,h⟩:=Tr.bind_some h;rw[← Tr.ae h,← fc hf _ _ h1];rfl
 · obtain ⟨m,h1,h⟩:=Tr.bind_some h;rw[← Tr.ae h,← iv hf _ _ h1];rfl
 · obtain ⟨a',h1,h⟩:=Tr.bind_some h;obtain ⟨b',h2,h⟩:=Tr.bind_some h;rw[← Tr.ae h,← fc hf _ _ h1,← fc hf _ _ h2];rfl
 · rename_i n1 n2 n3;have:=hf _ _ h;rw[← this];unfold nH;split
   · exact absurd rfl (n1 _)
   · exact absurd rfl (n2 _)
   · exact absurd rfl (n3 _ _ _)
   · rfl
def G8 (f:AV→Tr AV):ak→Tr ak
 | .row r=>match r with
   | .G l=>(oA (zu f) l).bind fun m=>.ok (.row (.G m))
   | .M l=>(mO (zu f) l).bind fun m=>.ok (.row (.M m))
   | r=>.ok (.row r)
 | b=>.ok b
theorem G9 {f:AV→Tr AV} {g:AV→AV} (hf:∀ v u,(f v).run=some u→g v=u) (b u:ak) (h:(G8 f b).run=some u):qF g b=u:=by
 cases b with
 | row r =>
   simp only[G8] at h;cases r with
   | G l =>
     obtain ⟨m,h1,h⟩:=Tr.bind_some h;rw[← Tr.ae h,← fc (tJ hf) _ _ h1];rfl
   | M l =>
     obtain ⟨m,h1,h⟩:=Tr.bind_some h;rw[← Tr.ae h,← iv (tJ hf) _ _ h1];rfl
   | I k l=>rw[← Tr.ae h];rfl
   | F z n=>rw[← Tr.ae h];rfl
 | dead=>exact Tr.ae h
 | map es=>exact Tr.ae h
 | fmap kq f g c=>exact Tr.ae h
 | loop l=>exact Tr.ae h
def xz (f:AV→Tr AV):List (Nat×ak)→Tr (List (Nat×ak))
 | []=>.ok []
 | (v,b)::r=>(G8 f b).bind fun b'=>(xz f r).bind fun r'=>.ok ((v,b')::r')
theorem wm {f:AV→Tr AV} {g:AV→AV} (hf:∀ v u,(f v).run=some u→g v=u):∀ (l m:List (Nat×ak)),(xz f l).run=some m→jV g l=m
 | [],m,h=>Tr.ae h
 | (v,b)::r,m,h=>by
   simp only[xz] at h;obtain ⟨b',h1,h⟩:=Tr.bind_some h;obtain ⟨r',h2,h⟩:=Tr.bind_some h;rw[← Tr.ae h,jV,G9 hf _ _ h1,wm hf r r' h2]
def Dy (f:AV→Tr AV):aO→Tr aO
 | []=>.ok []
 | (x,(v,h))::r=>(zu f v).bind fun v'=>(Dy f r).bind fun r'=>.ok ((x,(v',h))::r')
theorem zp {f:AV→Tr AV} {g:AV→AV} (hf:∀ v u,(f v).run=some u→g v=u):∀ (l m:aO),(Dy f l).run=some m→qG g (strip l)=strip m
 | [],m,h=>by rw[← Tr.ae h];rfl
 | (x,(v,hh))::r,m,h=>by
   simp only[Dy] at h;obtain ⟨v',h1,h⟩:=Tr.bind_some h;obtain ⟨r',h2,h⟩:=Tr.bind_some h;rw[← Tr.ae h,cX,cX,qG,tJ hf _ _ h1,zp hf r r' h2]
def tl (i:Nat) (fr:aO) (l:bB):Tr (aO×bB) :=
 match B9 l.bs i with
 | (ver,.row r)=>cond (xv r && (Eu (fun x=>qe (pT i) x.2) (strip fr) || Eu (fun x=>Oa (pT i) x.2) l.bs)) ((Dy (yR i ver r) fr).bind fun fr'=>(xz (yR i ver r) l.bs).bind fun bs'=>.ok (fr',{ l with bs:=bT bs' i (ver,.dead) })) (.ok (fr,l))
 | _=>.ok (fr,l)
theorem qt {i:Nat} {fr:aO} {l:bB} {y:aO×bB} (h:(tl i fr l).run=some y):mI i (strip fr) l=(strip y.1,y.2):=by
 unfold tl at h;unfold mI;rw[se] at h;split at h
 · rename_i ver r hb;rw[hb];dsimp only;rw[rO,rO] at h;cases hc:(xv r && ((strip fr).any (fun x=>qe (pT i) x.2) || l.bs.any (fun x=>Oa (pT i) x.2))) with
   | true =>
     rw[hc,cond_true] at h;obtain ⟨fr',h1,h⟩:=Tr.bind_some h;obtain ⟨bs',h2,h⟩:=Tr.bind_some h;rw[if_pos rfl,zp yS _ _ h1,wm yS _ _ h2,← Tr.ae h]
   | false =>
     rw[hc,cond_false] at h;rw[if_neg (by simp),← Tr.ae h]
 · rename_i hno;have h:=Tr.ae h;subst h;split
   · rename_i ver r hb;exact absurd hb (hno ver r)
   · rfl
def rY:Nat→aO→bB→Tr (aO×bB)
 | 0,fr,l=>.ok (fr,l)
 | n+1,fr,l=>(rY n fr l).bind fun y=>tl n y.1 y.2
theorem tj:∀ (n:Nat) (fr:aO) (l:bB) (y:aO×bB),(rY n fr l).run=some y→jt n (strip fr) l=(strip y.1,y.2)
 | 0,fr,l,y,h=>by rw[← Tr.ae h];rfl
 | n+1,fr,l,y,h=>by
   simp only[rY] at h;obtain ⟨z,h1,h⟩:=Tr.bind_some h;have h1:=tj n fr l z h1;simp only[jt];rw[h1];exact qt h
def pw:Nat→aO→bB→Tr (aO×bB)
 | 0,fr,l=>.ok (fr,l)
 | n+1,fr,l=>(pw n fr l).bind fun y=>cond (Eu (fun x=>qe (pT n) x.2) (strip y.1)) (.ok y) (tl n y.1 y.2)
theorem rj:∀ (n:Nat) (fr:aO) (l:bB) (y:aO×bB),(pw n fr l).run=some y→eD n (strip fr) l=(strip y.1,y.2)
 | 0,fr,l,y,h=>by rw[← Tr.ae h];rfl
 | n + 1,fr,l,y,h=>by
   simp only[pw] at h;obtain ⟨z,h1,h⟩:=Tr.bind_some h;have h1:=rj n fr l z h1;simp only[eD];rw[h1];dsimp only;rw[rO] at h;cases hc:(strip z.1).any (fun x=>qe (pT n) x.2) with
   | true =>
     rw[hc,cond_true] at h;rw[if_pos rfl,Tr.ae h]
   | false =>
     rw[hc,cond_false] at h;rw[if_neg (by simp)];exact qt h
def Dt (s:Nat):aO→Option Nat
 | []=>none
 | (x,(v,_))::r=>cond (Nat.beq x s) (match v with
   | .slc 0 i _ _ _ _ _=>some i
   | _=>none) (Dt s r)
theorem ze (s:Nat):∀ fr:aO,Dt s fr=Ds s (strip fr)
 | []=>rfl
 | (x,(v,h))::r=>by
   rw[cX];simp only[Dt,Ds,ze s r];cases Nat.beq x s<;>rfl
def xu (s:Nat) (fr:aO) (H:aa):Tr (aO×aa) :=
 match H with
 | []=>.ok (fr,[])
 | l::r=>cond l.lock (.ok (fr,l::r)) (match Dt s fr with
   | some i=>(tl i fr l).bind fun y=>.ok (y.1,y.2::r)
   | none=>.ok (fr,l::r))
theorem BP {s:Nat} {fr:aO} {H:aa} {y:aO×aa} (h:(xu s fr H).run=some y):xt s (strip fr) H=(strip y.1,y.2):=by
 unfold xu at h;unfold xt;cases H with
 | nil=>rw[← Tr.ae h]
 | cons l r =>
   dsimp only at h ⊢;cases hl:l.lock with
   | true =>
     rw[hl,cond_true] at h;rw[if_pos rfl,← Tr.ae h]
   | false =>
     rw[hl,cond_false,ze] at h;rw[if_neg (by simp)];split at h
     · rename_i i hi;obtain ⟨z,h1,h⟩:=Tr.bind_some h;have h1:=qt h1;rw[hi];dsimp only;rw[h1,← Tr.ae h]
     · rename_i hi;rw[hi,← Tr.ae h]
def rZ (m:Nat) (fr:aO) (H:aa):Tr (aO×aa) :=
 cond (iY m 4000) (match H with
  | []=>.ok (gF fr m,[])
  | l::r=>cond l.lock (.ok (gF fr m,l::r)) ((rY (kN l.bs) (gF fr m) l).bind fun y=>.ok (y.1,cond (Nat.beq (Nat.shiftRight m 4003) 0) (y.2::r) (vD (Nat.shiftRight m 4003) (y.2::r))))) (cond (iY m 4001) (xu (Nat.shiftRight m 4003) (gF fr m) H) (cond (iY m 4002) (uQ (gF fr m) (Nat.shiftRight m 4003) (fun fr=>.ok (fr,H)) (fun fr=>match H with
  | []=>.ok (fr,[])
  | l::r=>cond l.lock (.ok (fr,l::r)) ((pw (kN l.bs) fr l).bind fun y=>.ok (y.1,y.2::r)))) (.ok (gF fr m,H))))
theorem tm {m:Nat} {fr:aO} {H:aa} {y:aO×aa} (h:(rZ m fr H).run=some y):ju m (strip fr) H=(strip y.1,y.2):=by
 unfold rZ at h;unfold ju;cases hm:iY m 4000 with
 | false =>
   rw[hm,cond_false] at h;rw[if_neg (by simp)];cases hm2:iY m 4001 with
   | false =>
     rw[hm2,cond_false] at h;rw[if_neg (by simp)];cases hm3:iY m 4002 with
     | false =>
       rw[hm3,cond_false] at h;rw[if_neg (by simp),← Tr.ae h,fa]
     | true =>
       rw[hm3,cond_true] at h;rw[if_pos rfl];obtain ⟨b,fr',h1,h2,h3⟩:=jJ h;rw[fa] at h1 h2;rw[h1];cases b with
       | true =>
         simp only[if_true] at h3;rw[← Tr.ae h3,h2]
       | false =>
         simp only[Bool.false_eq_true,if_false] at h3;cases H with
         | nil =>
           dsimp only at h3;rw[← Tr.ae h3,← h2];rfl
         | cons l r =>
           dsimp only at h3;show vq (bX (strip fr) m) (l::r)=_;rw[← h2];unfold vq;dsimp only;cases hl:l.lock with
           | true =>
             rw[hl,cond_true] at h3;rw[if_pos rfl,← Tr.ae h3]
           | false =>
             rw[hl,cond_false] at h3;obtain ⟨z,h4,h5⟩:=Tr.bind_some h3;have h4:=rj _ _ _ _ h4;rw[eE] at h4;rw[if_neg (by simp),h4,← Tr.ae h5]
   | true =>
     rw[hm2,cond_true] at h;rw[if_pos rfl];have h1:=BP h;rw[fa] at h1;exact h1
 | true =>
   rw[hm,cond_true] at h;rw[if_pos rfl];cases H with
   | nil =>
     rw[← Tr.ae h,fa];simp only[EP,vD,ite_self]
   | cons l r =>
     dsimp only at h;unfold EP;dsimp only;cases hl:l.lock with
     | true =>
       rw[hl,cond_true] at h;simp only[if_true];rw[← Tr.ae h,fa];simp only[vD,hl,if_true,ite_self]
     | false =>
       rw[hl,cond_false] at h;obtain ⟨z,h1,h⟩:=Tr.bind_some h;have h1:=tj _ _ _ _ h1;rw[eE,fa] at h1;simp only[Bool.false_eq_true,if_false,h1];rw[← Tr.ae h];cases Nat.beq (Nat.shiftRight m 4003) 0<;>rfl
def J2:aO→aO
 | []=>[]
 | (x,(v,h))::r=>(x,(wv v,h))::J2 r
theorem ub:∀ fr:aO,strip (J2 fr)=Fa (strip fr)
 | []=>rfl
 | (x,(v,h))::r=>by
   simp only[J2,cX,Fa,ua,ub r]
def r4 (m:Nat) (fr:aO) (H:aa):Tr (aO×aa) :=
 cond (iY m 3998) ((rZ m fr H).bind fun y=>uQ y.1 (Nat.shiftRight m 4003) (fun fr=>.ok (fr,y.2)) (fun fr=>.ok (fr,vD (Nat.shiftRight m 3985 % 4096) y.2))) (rZ m fr H)
theorem tn {m:Nat} {fr:aO} {H:aa} {y:aO×aa} (h:(r4 m fr H).run=some y):lB m (strip fr) H=(strip y.1,y.2):=by
 unfold r4 at h;unfold lB;cases hm:iY m 3998 with
 | false =>
   rw[hm,cond_false] at h;rw[if_neg (by simp)];exact tm h
 | true =>
   rw[hm,cond_true] at h;rw[if_pos rfl];obtain ⟨z,h1,h⟩:=Tr.bind_some h;have h1:=tm h1;obtain ⟨b,fr',h2,h3,h4⟩:=jJ h;rw[h1];dsimp only;rw[h2];cases b with
   | true =>
     simp only[if_true] at h4;rw[← Tr.ae h4,h3]
   | false =>
     simp only[Bool.false_eq_true,if_false] at h4;rw[← Tr.ae h4,h3]
def DD (s sz:Nat):aO→aO
 | []=>[]
 | (x,(v,h))::r=>(x,(cond (Nat.beq x s) (JY sz v) v,h))::DD s sz r
theorem rr (s sz:Nat):∀ fr:aO,strip (DD s sz fr)=EZ s sz (strip fr)
 | []=>rfl
 | (x,(v,h))::r=>by
   simp only[DD,cX,EZ,rr s sz r]
def r5 (m:Nat) (fr:aO) (H:aa):Tr (aO×aa) :=
 cond (iY m 3997) ((r4 m fr H).bind fun y=>.ok (DD (Nat.shiftRight m 3985 % 4096 / 8) (Nat.shiftRight m 3985 % 8) y.1,y.2)) (r4 m fr H)
theorem tp {m:Nat} {fr:aO} {H:aa} {y:aO×aa} (h:(r5 m fr H).run=some y):lC m (strip fr) H=(strip y.1,y.2):=by
 unfold r5 at h;unfold lC;cases hm:iY m 3997 with
 | false =>
   rw[hm,cond_false] at h;rw[if_neg (by simp)];exact tn h
 | true =>
   rw[hm,cond_true] at h;rw[if_pos rfl];obtain ⟨z,h1,h⟩:=Tr.bind_some h;have h1:=tn h1;rw[h1,← Tr.ae h,rr]
def BO (m:Nat) (fr:aO) (H:aa):Tr (aO×aa) :=
 cond (iY m 3999) ((r5 m fr H).bind fun y=>.ok (J2 y.1,y.2)) (r5 m fr H)
theorem ER {m:Nat} {fr:aO} {H:aa} {y:aO×aa} (h:(BO m fr H).run=some y):px m (strip fr) H=(strip y.1,y.2):=by
 unfold BO at h;unfold px;cases hm:iY m 3999 with
 | false =>
   rw[hm,cond_false] at h;rw[if_neg (by simp)];exact tp h
 | true =>
   rw[hm,cond_true] at h;rw[if_pos rfl];obtain ⟨z,h1,h⟩:=Tr.bind_some h;have h1:=tp h1;rw[h1,← Tr.ae h,ub]
def aJ (cx:Cx) (callR:bw) (bl:eV) (rg:nZ):Code→aO→aa→Tr db
 | .skip,fr,H=>.ok (.normal,fr,H)
 | .label _,fr,H=>.ok (.normal,fr,H)
 | .exit id,fr,H=>.ok (.exit id,fr,H)
 | .goto l,fr,H=>.ok (.goto l,fr,H)
 | .ret,fr,H=>.ok (.ret,fr,H)
 | .region id ops draw,fr,H =>
   (cond draw (cond (gp ops (Region.before ops)) (o7 cx.P cx.nt cx.call callR ops (Region.before ops) ops.toList 0 fr (om H (dc ops.toList)) (xr H) []) .bad) (jb cx.P cx.nt cx.call callR ops ops.toList fr H)).bind fun x=>(BO (cx.kt id) x.1 x.2).bind fun y=>.ok (.normal,y.1,y.2)
 | .seq a b,fr,H=>(aJ cx callR bl rg a fr H).bind fun x=>match x with
   | (.normal,fr,H)=>aJ cx callR bl rg b fr H
   | r=>.ok r
 | .cond c a b,fr,H=>match c with
   | .tmp d=>uQ fr d (fun fr=>aJ cx callR bl rg a fr H) (fun fr=>aJ cx callR bl rg b fr H)
   | c=>match (cA fr c).1 with
     | .bool t=>cond t (aJ cx callR bl rg a fr H) (aJ cx callR bl rg b fr H)
     | _=>.bad
 | .block id b,fr,H=>match bl id fr H with
   | some t=>t
   | none=>(aJ cx callR bl rg b fr H).bind fun x=>match x with
     | (.exit id',fr,H)=>cond (Nat.beq id' id) (.ok (.normal,fr,H)) (.ok (.exit id',fr,H))
     | r=>.ok r
 | .scope b,fr,H=>(aJ cx callR bl rg b fr H).bind fun x=>match x with
   | (.goto _,_,_)=>.bad
   | r=>.ok r
 | .rangeFunc f _ _ _,fr,H=>match rg f fr H with
   | some t=>t
   | none=>.bad
 | .loop b,fr,H=>cond (Nat.ble 12 cx.fu) (Dn (aJ cx callR bl rg b) (xr H) 12 fr H) .bad
 | .refuse _,_,_=>.bad

theorem ga {cx:Cx} {callR:bw} {bl:eV} {rg:nZ} (hC:callR.Ok cx.call):∀ (c:Code),bl.Ok cx c→rg.Ok cx c→∀ (fr:aO) (H:aa) (x:db),(aJ cx callR bl rg c fr H).run=some x→exec cx c (strip fr) H=some x.st:=by
 intro c;induction c with
 | skip=>intro _ _ fr H x h;rw[← Tr.ae h];rfl
 | label=>intro _ _ fr H x h;rw[← Tr.ae h];rfl
 | exit=>intro _ _ fr H x h;rw[← Tr.ae h];rfl
 | goto=>intro _ _ fr H x h;rw[← Tr.ae h];rfl
 | ret=>intro _ _ fr H x h;rw[← Tr.ae h];rfl
 | refuse=>intro _ _ fr H x h;exact (Tr.ah h).elim
 | loop b ih =>
   intro hb hr fr H x h;simp only[aJ] at h;obtain ⟨hk,h⟩:=Tr.a6 h;rw[Nat.ble_eq] at hk;unfold exec;rw[qp] at h;exact wi _ _ _ _ _ (yW (fun fr H x h=>ih hb hr fr H x h) 12 fr H x h) hk
 | rangeFunc f ps a b =>
   intro _ hr fr H x h;simp only[aJ] at h;split at h
   · rename_i t ht;exact hr f ps a b (by simp[dO]) fr H t x ht h
   · exact (Tr.ah h).elim
 | region id ops draw =>
   intro _ _ fr H x h;simp only[aJ] at h;obtain ⟨y,h1,h⟩:=Tr.bind_some h;obtain ⟨z,h2,h⟩:=Tr.bind_some h;have h2:=ER h2;rw[← Tr.ae h];unfold exec;cases draw with
   | true =>
     rw[cond_true] at h1;obtain ⟨hs,h1⟩:=Tr.a6 h1;rw[qp] at h1;simp only[if_true,hs];rw[q8 hC _ _ _ _ _ _ _ h1];dsimp only;rw[h2];rfl
   | false =>
     rw[cond_false] at h1;simp only[Bool.false_eq_true,if_false];rw[fE hC _ _ _ _ h1];dsimp only;rw[h2];rfl
 | seq a b iha ihb =>
   intro hb hr fr H x h;have hba:bl.Ok cx a:=fun id b' hm=>hb id b' (List.mem_append_left _ hm);have hbb:bl.Ok cx b:=fun id b' hm=>hb id b' (List.mem_append_right _ hm);have hra:rg.Ok cx a:=fun f ps u v hm=>hr f ps u v (List.mem_append_left _ hm);have hrb:rg.Ok cx b:=fun f ps u v hm=>hr f ps u v (List.mem_append_right _ hm);simp only[aJ] at h;obtain ⟨y,h1,h⟩:=Tr.bind_some h;have h1:=iha hba hra _ _ _ h1;unfold exec;rw[h1];obtain ⟨e,fr1,H1⟩:=y;cases e;case normal=>exact ihb hbb hrb _ _ _ h
   all_goals
    have h:=Tr.ae h
    rw[← h];rfl
 | cond c a b iha ihb =>
   intro hb hr fr H x h;have hba:bl.Ok cx a:=fun id b' hm=>hb id b' (List.mem_append_left _ hm);have hbb:bl.Ok cx b:=fun id b' hm=>hb id b' (List.mem_append_right _ hm);have hra:rg.Ok cx a:=fun f ps u v hm=>hr f ps u v (List.mem_append_left _ hm);have hrb:rg.Ok cx b:=fun f ps u v hm=>hr f ps u v (List.mem_append_right _ hm);simp only[aJ] at h;unfold exec;split at h
   · rename_i d;obtain ⟨b',fr',h1,h2,h3⟩:=jJ h;have e:b9 (strip fr) (.tmp d)=.bool b':=h1;rw[e,← h2];cases b' with
     | true=>exact iha hba hra _ _ _ h3
     | false=>exact ihb hbb hrb _ _ _ h3
   · rename_i c' hne;rw[bf] at h;split at h
     · rename_i t hc;rw[hc];cases t with
       | true=>exact iha hba hra _ _ _ h
       | false=>exact ihb hbb hrb _ _ _ h
     · exact (Tr.ah h).elim
 | block id b ih =>
   intro hb hr fr H x h;have hbb:bl.Ok cx b:=fun id' b' hm=>hb id' b' (by simp only[aP];exact List.mem_cons_of_mem _ hm);simp only[aJ] at h;split at h
   · rename_i t ht;exact hb id b (by simp[aP]) _ _ _ _ ht h
   · obtain ⟨y,h1,h⟩:=Tr.bind_some h;have h1:=ih hbb hr _ _ _ h1;unfold exec;rw[h1];obtain ⟨e,fr1,H1⟩:=y;cases e;case exit id' =>
      dsimp only[db.st] at h ⊢
      rw[Jh] at h
      split at h
      · rename_i vp
        rw[if_pos vp,← Tr.ae h]
      · rename_i vp
        rw[if_neg vp,← Tr.ae h]
     all_goals
      have h:=Tr.ae h
      rw[← h];rfl
 | scope b ih =>
   intro hb hr fr H x h;simp only[aJ] at h;obtain ⟨y,h1,h⟩:=Tr.bind_some h;have h1:=ih hb hr _ _ _ h1;unfold exec;rw[h1];obtain ⟨e,fr1,H1⟩:=y;cases e;case goto=>exact (Tr.ah h).elim
   all_goals
    have h:=Tr.ae h
    rw[← h];rfl

end
end Go.Eng
