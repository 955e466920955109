/- The engine as a tree: regions, code, calls. -/
import Derived.Test.YtgphpjdchnfjlaaDoorV3EngTe
set_option linter.unusedVariables false
set_option linter.unusedSimpArgs false
section
namespace Go.Eng
noncomputable section

def uk (f:aK) (y:Nat) (b:Bool):aK:=List.rec (motive:=fun _=>aK) [] (fun p r ih=>Bool.rec (motive:=fun _=>aK) (p::ih) ((p.1,(.bool b,some 1))::r) (Nat.beq p.1 y)) f
theorem rP:∀ (f:aK) (y:Nat) (b:Bool),bx (strip f) y=.bool b→strip (uk f y b)=strip f
 | [],y,b,_=>rfl
 | (x,v)::r,y,b,h=>by
   have e:uk ((x,v)::r) y b=Bool.rec (motive:=fun _=>aK) ((x,v)::uk r y b) ((x,(.bool b,some 1))::r) (Nat.beq x y):=rfl
   rw[cP,bx] at h
   rw[e]
   cases hb:Nat.beq x y with
   | true =>
     rw[hb] at h
     have h:v.1=.bool b:=h
     show (x,AV.bool b)::strip r=(x,v.1)::strip r
     rw[h]
   | false =>
     rw[hb] at h
     show (x,v.1)::strip (uk r y b)=(x,v.1)::strip r
     rw[rP r y b h]
def uI {α:Type} (fr:aK) (d:Nat) (t e:aK→Tr α):Tr α :=
 match kH fr d with
 | (.bool b,none)=>.ite b (t (uk fr d true)) (e (uk fr d false))
 | (.bool b,some _)=>cond b (t fr) (e fr)
 | _=>.bad
theorem kB {α:Type} {fr:aK} {d:Nat} {t e:aK→Tr α} {x:α} (h:(uI fr d t e).run=some x):∃ b fr',bx (strip fr) d=.bool b∧strip fr'=strip fr∧(if b then t fr' else e fr').run=some x:=by
 unfold uI at h
 split at h
 · rename_i b hg
   have hg':bx (strip fr) d=.bool b:=by rw[← eA,hg]
   rcases Tr.jE h with ⟨rfl,h⟩ | ⟨rfl,h⟩
   · exact ⟨true,_,hg',rP _ _ _ hg',h⟩
   · exact ⟨false,_,hg',rP _ _ _ hg',h⟩
 · rename_i b n hg
   have hg':bx (strip fr) d=.bool b:=by rw[← eA,hg]
   refine ⟨b,fr,hg',rfl,?_⟩
   cases b<;>exact h
 · exact (Tr.ae h).elim
def BQ (ops:Array Oper) (fr:aK) (o:Oper):Tr (Bool×aK) :=
 match o.guard with
 | none=>.ok (true,fr)
 | some (j,want)=>match (ops[j]?).bind (·.dst) with
   | none=>.bad
   | some d=>match (kH fr d).1 with
     | .bool _=>cond want (uI fr d (fun fr=>.ok (true,fr)) (fun fr=>.ok (false,fr))) (uI fr d (fun fr=>.ok (false,fr)) (fun fr=>.ok (true,fr)))
     | .tup _=>.ok (false,fr)
     | _=>.bad
theorem yK {ops:Array Oper} {fr:aK} {o:Oper} {r:Bool×aK} (h:(BQ ops fr o).run=some r):gw ops (strip fr) o=(if r.1 then .run else .skip)∧strip r.2=strip fr:=by
 unfold BQ at h
 unfold gw
 cases hg:o.guard with
 | none =>
   rw[hg] at h
   rw[← Tr.ab h];exact ⟨rfl,rfl⟩
 | some jw =>
   obtain ⟨j,want⟩:=jw
   rw[hg] at h
   dsimp only at h ⊢
   cases hd:(ops[j]?).bind (·.dst) with
   | none=>rw[hd] at h;exact (Tr.ae h).elim
   | some d =>
     rw[hd] at h
     dsimp only at h ⊢
     have he:=eA fr d
     rw[he] at h
     cases hv:bx (strip fr) d<;>rw[hv] at h<;>try exact (Tr.ae h).elim
     case bool b =>
      dsimp only at h ⊢
      cases want with
      | true =>
        rw[cond_true] at h
        obtain ⟨b',fr',h1,h2,h3⟩:=kB h
        rw[hv] at h1
        cases h1
        cases b<;>(have h3:=Tr.ab h3;rw[← h3];exact ⟨rfl,h2⟩)
      | false =>
        rw[cond_false] at h
        obtain ⟨b',fr',h1,h2,h3⟩:=kB h
        rw[hv] at h1
        cases h1
        cases b<;>(have h3:=Tr.ab h3;rw[← h3];exact ⟨rfl,h2⟩)
     case tup l=>rw[← Tr.ab h];exact ⟨rfl,rfl⟩

def gV (P:Program) (nt:Nat) (call:aA) (callR:bj) (ops:Array Oper):List Oper→aK→aa→Tr (aK×aa)
 | [],fr,H=>.ok (fr,H)
 | o::r,fr,H=>(BQ ops fr o).bind fun b=>cond b.1
   ((Lk o.op o P call callR b.2 H (eN H)).bind fun y=>gV P nt call callR ops r (pU nt b.2 o.dst y.1) (L8 y.2 H))
   (gV P nt call callR ops r (pU nt b.2 o.dst (.tup [],none)) H)
theorem eR {P:Program} {nt:Nat} {call:aA} {callR:bj} (hC:callR.Ok call) {ops:Array Oper}:∀ (l:List Oper) (fr:aK) (H:aa) (x:aK×aa),(gV P nt call callR ops l fr H).run=some x→dV P nt call ops l (strip fr) H=some (strip x.1,x.2)
 | [],fr,H,x,h=>by rw[← Tr.ab h];rfl
 | o :: r,fr,H,x,h=>by
   simp only[gV] at h
   obtain ⟨b,h1,h⟩:=Tr.bind_some h
   unfold dV
   obtain ⟨hw,hs⟩:=yK h1
   rw[hw,← hs]
   obtain ⟨b,fr1⟩:=b
   dsimp only at h ⊢
   cases b with
   | false =>
     have:=eR hC r _ _ _ h
     rw[lK] at this
     exact this
   | true =>
     rw[cond_true] at h
     obtain ⟨y,h2,h⟩:=Tr.bind_some h
     have h2:=zQ hC h2
     rw[fO] at h2
     have:=eR hC r _ _ _ h
     rw[lK,En] at this
     rw[if_pos rfl]
     dsimp only
     rw[h2]
     exact this

def oo (fr:aK) (o:Oper):Touch:=jM (strip fr) o
def oQ (P:Program) (call:aA) (callR:bj) (ops:Array Oper) (bef:Nat) (dy:aK) (H:aa) (nx:Nat) (recs:List Rec) (o:Oper):Tr (sL×Option Nat×aK) :=
 (BQ ops dy o).bind fun b=>cond b.1
   (cond (ed o) ((Lk o.op o P call callR b.2 (ob (ir bef recs H)) nx).bind fun y=>.ok (⟨y.1.1,.all,none⟩,y.1.2,b.2))
     ((Lk o.op o P call callR b.2 (ir bef recs H) nx).bind fun y=>match y.2 with
       | .a8=>.ok (⟨y.1.1,oo b.2 o,none⟩,y.1.2,b.2)
       | .push q=>cond (fz o && !iB q && nY (dS H 0 nx) && !eM H 0) (.ok (⟨y.1.1,oo b.2 o,some (0,nx,(0,q))⟩,y.1.2,b.2)) .bad
       | .set d i q=>.req (bY (jS (dS H d i).1 q.1) (jS q.1 (Nat.succ (dS H d i).1))) (cond (!iB q.2 && !iB (dS (ir bef recs H) d i).2 && iG bef d i recs) (.ok (⟨y.1.1,oo b.2 o,some (d,i,q)⟩,y.1.2,b.2)) .bad)
       | _=>.bad))
   (.ok (⟨.tup [],.none,none⟩,none,b.2))
theorem uW {P:Program} {call:aA} {callR:bj} (hC:callR.Ok call) {ops:Array Oper} {bef:Nat} {fr:aK} {H:aa} {nx:Nat} {recs:List Rec} {o:Oper} {e:sL×Option Nat×aK} (h:(oQ P call callR ops bef fr H nx recs o).run=some e) :
 dQ P call ops bef (strip fr) H nx recs o=some e.1∧strip e.2.2=strip fr:=by
 unfold oQ at h
 unfold dQ
 simp only[jA,pR,oo,pW,gk,dA] at h
 obtain ⟨b,h1,h⟩:=Tr.bind_some h
 obtain ⟨hw,hs⟩:=yK h1
 rw[hw,← hs]
 obtain ⟨b,fr1⟩:=b
 dsimp only at h ⊢
 cases b with
 | false =>
   rw[cond_false] at h
   rw[← Tr.ab h];exact ⟨rfl,rfl⟩
 | true =>
   rw[cond_true] at h
   rw[if_pos rfl]
   dsimp only
   cases hcv:ed o with
   | true =>
     rw[hcv,cond_true] at h
     obtain ⟨y,h2,h⟩:=Tr.bind_some h
     rw[if_pos rfl,zQ hC h2,← Tr.ab h]
     exact ⟨rfl,rfl⟩
   | false =>
     rw[hcv,cond_false] at h
     obtain ⟨y,h2,h⟩:=Tr.bind_some h
     rw[if_neg (by simp),zQ hC h2]
     split at h
     · rename_i hy
       rw[hy,← Tr.ab h];exact ⟨rfl,rfl⟩
     · rename_i b hy
       obtain ⟨hc,h⟩:=Tr.aL h
       rw[hy]
       dsimp only
       rw[if_pos hc,← Tr.ab h];exact ⟨rfl,rfl⟩
     · rename_i d i b hy
       obtain ⟨hv,h⟩:=Tr.aH h
       obtain ⟨hc,h⟩:=Tr.aL h
       rw[hy]
       dsimp only
       rw[bP,iD,iD,Bool.and_eq_true,decide_eq_true_eq,decide_eq_true_eq] at hv
       have hv':(Nat.beq b.1 (ar H d i).1 || Nat.beq b.1 (Nat.succ (ar H d i).1))=true:=by
        simp only[Bool.or_eq_true,Nat.beq_eq];omega
       simp only[Bool.and_eq_true] at hc
       rw[if_pos (by simp only[Bool.and_eq_true];exact ⟨⟨⟨hc.1.1,hv'⟩,hc.1.2⟩,hc.2⟩),← Tr.ab h];exact ⟨rfl,rfl⟩
     · exact (Tr.ae h).elim
def nH (P:Program) (nt:Nat) (call:aA) (callR:bj) (ops:Array Oper) (befs:Array Nat):List Oper→Nat→aK→aa→Nat→List Rec→Tr (aK×aa)
 | [],_,fr,H,_,_=>.ok (fr,H)
 | o::r,j,fr,H,nx,recs=>(oQ P call callR ops (befs.getD j 0) fr H nx recs o).bind fun e =>
   nH P nt call callR ops befs r (j+1) (pU nt e.2.2 o.dst (e.1.v,e.2.1)) (xE H e.1.wr) (if fz o then nx+1 else nx) (⟨j,e.1.rd,e.1.wr.map fun x=>(x.1,x.2.1)⟩::recs)
theorem pE {P:Program} {nt:Nat} {call:aA} {callR:bj} (hC:callR.Ok call) {ops:Array Oper} {befs:Array Nat}:∀ (l:List Oper) (j:Nat) (fr:aK) (H:aa) (nx:Nat) (recs:List Rec) (x:aK×aa),
 (nH P nt call callR ops befs l j fr H nx recs).run=some x→eG P nt call ops befs j l (strip fr) H nx recs=some (strip x.1,x.2)
 | [],j,fr,H,nx,recs,x,h=>by rw[← Tr.ab h];rfl
 | o::r,j,fr,H,nx,recs,x,h=>by
   simp only[nH] at h
   obtain ⟨e,h1,h⟩:=Tr.bind_some h
   obtain ⟨hd,hs⟩:=uW hC h1
   unfold eG
   rw[hd,← hs]
   have:=pE hC r _ _ _ _ _ _ h
   rw[lK,xF] at this
   exact this

def aP:Code→List (Nat×Code)
 | .block id b=>(id,b)::aP b
 | .loop b=>aP b
 | .seq a b=>aP a++aP b
 | .cond _ a b=>aP a++aP b
 | .scope b=>aP b
 | _=>[]
def bw (f:Func):Code:=match f.body with | some c=>c | none=>.skip
abbrev gZ:=Ex×aK×aa
def gZ.st (x:gZ):Ex×az×aa:=(x.1,strip x.2.1,x.2.2)
abbrev fc:=Nat→aK→aa→Option (Tr gZ)
abbrev oJ:=Operand→aK→aa→Option (Tr gZ)
def fc.Ok (bl:fc) (cx:Cx) (c:Code):Prop:=∀ id b,(id,b) ∈ aP c→∀ fr H t x,bl id fr H=some t→t.run=some x→exec cx (.block id b) (strip fr) H=some x.st
def dU:Code→List (Operand×Array Tmp×Code×Code)
 | .rangeFunc f ps a b=>[(f,ps,a,b)]
 | .loop b=>dU b
 | .block _ b=>dU b
 | .seq a b=>dU a++dU b
 | .cond _ a b=>dU a++dU b
 | .scope b=>dU b
 | _=>[]
def oJ.Ok (rg:oJ) (cx:Cx) (c:Code):Prop:=∀ f ps a b,(f,ps,a,b) ∈ dU c→∀ fr H t x,rg f fr H=some t→t.run=some x→exec cx (.rangeFunc f ps a b) (strip fr) H=some x.st
def dN (bl:fc) (id0:Nat) (dy:az) (H0:aa) (u:Tr gZ):fc:=fun id fr H=>cond (Nat.beq id id0) (some (.reqP (strip fr=dy∧H=H0) u)) (bl id fr H)
theorem bu {bl:fc} {cx:Cx} {c:Code} (h:bl.Ok cx c) {id0:Nat} {dy:az} {H0:aa} {u:Tr gZ} {B:Code} (hB:∀ b,(id0,b) ∈ aP c→b=B) (k:∀ x,u.run=some x→exec cx (.block id0 B) dy H0=some x.st):(dN bl id0 dy H0 u).Ok cx c:=by
 intro id b hm fr H t y ht hy
 unfold dN at ht
 cases hb:Nat.beq id id0 with
 | true =>
   have ta:=Nat.eq_of_beq_eq_true hb
   subst ta
   rw[hb,cond_true,Option.some.injEq] at ht
   subst ht
   obtain ⟨⟨h1,h2⟩,h3⟩:=Tr.fS hy
   rw[h1,h2,hB b hm]
   exact k y h3
 | false =>
   rw[hb,cond_false] at ht
   exact h id b hm fr H t y ht hy
def L9 (rg:oJ) (tf:Operand→Bool) (dy:az) (H0:aa) (u:Tr gZ):oJ:=fun f fr H=>cond (tf f) (some (.reqP (strip fr=dy∧H=H0) u)) (rg f fr H)
theorem Jw {rg:oJ} {cx:Cx} {c:Code} (h:rg.Ok cx c) {tf:Operand→Bool} {dy:az} {H0:aa} {u:Tr gZ} (k:∀ f ps a b,tf f=true→(f,ps,a,b) ∈ dU c→∀ x,u.run=some x→exec cx (.rangeFunc f ps a b) dy H0=some x.st):(L9 rg tf dy H0 u).Ok cx c:=by
 intro f ps a b hm fr H t y ht hy
 unfold L9 at ht
 cases hb:tf f with
 | true =>
   rw[hb,cond_true,Option.some.injEq] at ht
   subst ht
   obtain ⟨⟨h1,h2⟩,h3⟩:=Tr.fS hy
   rw[h1,h2]
   exact k f ps a b hb hm y h3
 | false =>
   rw[hb,cond_false] at ht
   exact h f ps a b hm fr H t y ht hy
def bo:fc:=fun _ _ _=>none
def bp:oJ:=fun _ _ _=>none
theorem ak (cx:Cx) (c:Code):bo.Ok cx c:=fun _ _ _ _ _ _ _ h=>by cases h
theorem al (cx:Cx) (c:Code):bp.Ok cx c:=fun _ _ _ _ _ _ _ _ _ h=>by cases h
def xj (g:AV→AV):aK→aK
 | []=>[]
 | (x,(v,h))::r=>(x,(mB g v,h))::xj g r
theorem xk (g:AV→AV):∀ fr:aK,strip (xj g fr)=pg g (strip fr)
 | []=>rfl
 | (x,(v,h))::r=>by
   have e:xj g ((x,(v,h))::r)=(x,(mB g v,h))::xj g r:=rfl
   rw[e,cP,cP,pg,xk g r]
def kC (n:Nat):Nat→aK→aa→aK×aa
 | 0,fr,H=>(fr,H)
 | k + 1,fr,H=>match H with
   | []=>(fr,[])
   | l::r=>cond (Nat.ble (gQ l.bs) (Nat.succ n)) (fr,l::r) (match hole (strip fr) l.bs 4 n with
     | none=>(fr,l::r)
     | some h=>kC n k (xj (tl (l.bs.length-1) h) fr) (iW n (pg (tl (l.bs.length-1) h) (strip fr)) (wa (l.bs.length-1) h l::r)))
theorem sx (n:Nat):∀ (k:Nat) (fr:aK) (H:aa),(strip (kC n k fr H).1,(kC n k fr H).2)=iM n k (strip fr) H
 | 0,fr,H=>rfl
 | k+1,fr,[]=>rfl
 | k + 1,fr,l::r=>by
   cases hb:Nat.ble (gQ l.bs) (Nat.succ n) with
   | true =>
     have:kC n (k+1) fr (l::r)=(fr,l::r):=by
      unfold kC;dsimp only;rw[hb];rfl
     rw[this,sB (by rw[c5] at hb;simpa using hb)]
   | false =>
     unfold kC iM
     dsimp only
     rw[hb,cond_false]
     cases hole (strip fr) l.bs 4 n with
     | none=>rfl
     | some h =>
       dsimp only
       rw[sx n k,xk]
def BM (n:Nat) (fr:aK) (H:aa):aK×aa:=kC n 4 fr (iW n (strip fr) H)
theorem ES (n:Nat) (fr:aK) (H:aa):(strip (BM n fr H).1,(BM n fr H).2)=tidy n (strip fr) H:=sx n 4 fr _
def A1 (body:aK→aa→Tr gZ) (n:Nat):Nat→aK→aa→Tr gZ
 | 0,_,_=>.bad
 | k+1,fr,H=>(body fr H).bind fun x=>match x with
   | (.normal,fr,H)=>A1 body n k (BM n fr H).1 (BM n fr H).2
   | r=>.ok r
theorem uf {body:az→aa→Option (Ex×az×aa)} {n:Nat}:∀ (k m:Nat) (fr:az) (H:aa) (x:Ex×az×aa),iter body n k fr H=some x→k≤m→iter body n m fr H=some x
 | 0,m,fr,H,x,h,_=>by simp[iter] at h
 | k+1,0,fr,H,x,h,hk=>by omega
 | k + 1,m+1,fr,H,x,h,hk=>by
   unfold iter at h ⊢
   cases hb:body fr H with
   | none=>rw[hb] at h;simp at h
   | some y =>
     rw[hb] at h
     obtain ⟨e,f,g⟩:=y
     cases e
     case normal=>exact uf k m _ _ _ h (by omega)
     all_goals exact h
theorem wZ {body:aK→aa→Tr gZ} {body':az→aa→Option (Ex×az×aa)} {n:Nat} (hb:∀ fr H x,(body fr H).run=some x→body' (strip fr) H=some x.st):∀ (k:Nat) (fr:aK) (H:aa) (x:gZ),(A1 body n k fr H).run=some x→iter body' n k (strip fr) H=some x.st
 | 0,fr,H,x,h=>(Tr.ae h).elim
 | k+1,fr,H,x,h=>by
   simp only[A1] at h
   obtain ⟨y,h1,h⟩:=Tr.bind_some h
   unfold iter
   rw[hb _ _ _ h1]
   obtain ⟨e,f,g⟩:=y
   cases e
   case normal =>
    have e:=ES n f g
    have h:=wZ hb k _ _ _ h
    show iter body' n k (tidy n (strip f) g).1 (tidy n (strip f) g).2=_
    rw[← e];exact h
   all_goals
    have h:=Tr.ab h
    rw[← h];rfl
def mY (f:AV→Tr AV):List AV→Tr (List AV)
 | []=>.ok []
 | v::l=>(f v).bind fun u=>(mY f l).bind fun m=>.ok (u::m)
theorem ef {f:AV→Tr AV} {g:AV→AV} (hf:∀ v u,(f v).run=some u→g v=u):∀ (l m:List AV),(mY f l).run=some m→l.map g=m
 | [],m,h=>Tr.ab h
 | v::l,m,h=>by
   simp only[mY] at h
   obtain ⟨u,h1,h⟩:=Tr.bind_some h
   obtain ⟨n,h2,h⟩:=Tr.bind_some h
   rw[← Tr.ab h,List.map_cons,hf _ _ h1,ef hf l n h2]
def lD (f:AV→Tr AV):List aw→Tr (List aw)
 | []=>.ok []
 | .one v::l=>(f v).bind fun u=>(lD f l).bind fun m=>.ok (.one u::m)
 | .arr k z n::l=>(lD f l).bind fun m=>.ok (.arr k z n::m)
theorem gp {f:AV→Tr AV} {g:AV→AV} (hf:∀ v u,(f v).run=some u→g v=u):∀ (l m:List aw),(lD f l).run=some m→mapM' g l=m
 | [],m,h=>Tr.ab h
 | .one v::l,m,h=>by
   simp only[lD] at h
   obtain ⟨u,h1,h⟩:=Tr.bind_some h
   obtain ⟨n,h2,h⟩:=Tr.bind_some h
   rw[← Tr.ab h,mapM',hf _ _ h1,gp hf l n h2]
 | .arr k z n::l,m,h=>by
   simp only[lD] at h
   obtain ⟨n,h2,h⟩:=Tr.bind_some h
   rw[← Tr.ab h,mapM',gp hf l n h2]
def pC (cap:Option Nat) (len:Nat):Bool :=
 match cap with
 | none=>false
 | some c=>fX c len
theorem ju (cap:Option Nat) (len:Nat):pC cap len=(cap == some len):=by
 cases cap with
 | none=>rfl
 | some c=>simp only[pC,eK];rw[Bool.eq_iff_iff];simp
def wV (i ver:Nat) (r:Row):AV→Tr AV
 | .ptr d j v off=>cond (Nat.beq d 0 && Nat.beq j i) (.req (fX v ver) (.ok (.ptrT none r off))) (.ok (.ptr d j v off))
 | .slc d j v off sz len cap=>cond (Nat.beq d 0 && Nat.beq j i) (.req (fX v ver) (match r with
    | .M [.arr k z N]=>.req (nv off (ff len sz) 0 N) (.ok (.slcT none (.M [.arr k (yN z off) (ff len sz)]) sz len (pC cap len)))
    | .I k l=>cond (s6 (.I k l) off (Nat.mul len sz)) (.ok (.slcT none (.I k (gM (kG l off) (Nat.mul len sz))) sz len (pC cap len))) .bad
    | _=>.bad)) (.ok (.slc d j v off sz len cap))
 | v=>.ok v
theorem tG {d j i:Nat} {x:Bool} (h:(Nat.beq d 0 && Nat.beq j i)=true):(Nat.beq d 0 && (Nat.beq j i && x))=x:=by
 rw[Bool.and_eq_true] at h
 rw[h.1,h.2];rfl
theorem tH {d j i:Nat} {x:Bool} (h:(Nat.beq d 0 && Nat.beq j i)=false):(Nat.beq d 0 && (Nat.beq j i && x))=false:=by
 rw[← Bool.and_assoc,h];rfl
theorem wW {i ver:Nat} {r:Row}:∀ v u,(wV i ver r v).run=some u→mA i ver r v=u:=by
 intro v u h
 cases v with
 | ptr d j v off =>
   simp only[wV] at h
   simp only[mA]
   cases hc:(Nat.beq d 0 && Nat.beq j i) with
   | false=>rw[hc,cond_false] at h;rw[tH hc,if_neg (by simp)];exact Tr.ab h
   | true =>
     rw[hc,cond_true] at h
     obtain ⟨h1,h⟩:=Tr.aH h
     rw[eK,decide_eq_true_eq] at h1
     rw[tG hc,if_pos (by simpa using h1)];exact Tr.ab h
 | slc d j v off sz len cap =>
   simp only[wV] at h
   simp only[mA]
   cases hc:(Nat.beq d 0 && Nat.beq j i) with
   | false=>rw[hc,cond_false] at h;rw[tH hc,if_neg (by simp)];exact Tr.ab h
   | true =>
     rw[hc,cond_true] at h
     obtain ⟨h1,h2⟩:=Tr.aH h
     clear h
     rw[eK,decide_eq_true_eq] at h1
     rw[tG hc]
     split at h2
     · obtain ⟨h3,h⟩:=Tr.aH h2
       rw[iA,decide_eq_true_eq,cq] at h3
       rw[if_pos (by simp[h1,Row.len,au,aF];omega),← Tr.ab h,ju,cq,lR]
       rfl
     · obtain ⟨h3,h⟩:=Tr.aL h2
       rw[j7,decide_eq_true_eq] at h3
       rw[if_pos (by simp only[h1,Bool.and_eq_true];exact ⟨by simp,Nat.ble_eq_true_of_le h3⟩),← Tr.ab h,ju,fD,gi]
       rfl
     · exact (Tr.ae h2).elim
 | _=>exact Tr.ab h
def xl (f:AV→Tr AV) (v:AV):Tr AV :=
 match v with
 | .agg (.G l)=>(mY f l).bind fun m=>.ok (.agg (.G m))
 | .agg (.M l)=>(lD f l).bind fun m=>.ok (.agg (.M m))
 | .fn g a b=>(mY f a).bind fun a'=>(mY f b).bind fun b'=>.ok (.fn g a' b')
 | v=>f v
theorem rO {f:AV→Tr AV} {g:AV→AV} (hf:∀ v u,(f v).run=some u→g v=u):∀ v u,(xl f v).run=some u→mB g v=u:=by
 intro v u h
 unfold xl at h
 split at h
 · obtain ⟨m,h1,h⟩:=Tr.bind_some h
   rw[← Tr.ab h,← ef hf _ _ h1];rfl
 · obtain ⟨m,h1,h⟩:=Tr.bind_some h
   rw[← Tr.ab h,← gp hf _ _ h1];rfl
 · obtain ⟨a',h1,h⟩:=Tr.bind_some h
   obtain ⟨b',h2,h⟩:=Tr.bind_some h
   rw[← Tr.ab h,← ef hf _ _ h1,← ef hf _ _ h2];rfl
 · rename_i n1 n2 n3
   have:=hf _ _ h
   rw[← this]
   unfold mB
   split
   · exact absurd rfl (n1 _)
   · exact absurd rfl (n2 _)
   · exact absurd rfl (n3 _ _ _)
   · rfl
def D6 (f:AV→Tr AV):av→Tr av
 | .row r=>match r with
   | .G l=>(mY (xl f) l).bind fun m=>.ok (.row (.G m))
   | .M l=>(lD (xl f) l).bind fun m=>.ok (.row (.M m))
   | r=>.ok (.row r)
 | b=>.ok b
theorem D7 {f:AV→Tr AV} {g:AV→AV} (hf:∀ v u,(f v).run=some u→g v=u) (b u:av) (h:(D6 f b).run=some u):pf g b=u:=by
 cases b with
 | row r =>
   simp only[D6] at h
   cases r with
   | G l =>
     obtain ⟨m,h1,h⟩:=Tr.bind_some h
     rw[← Tr.ab h,← ef (rO hf) _ _ h1];rfl
   | M l =>
     obtain ⟨m,h1,h⟩:=Tr.bind_some h
     rw[← Tr.ab h,← gp (rO hf) _ _ h1];rfl
   | I k l=>rw[← Tr.ab h];rfl
   | F z n=>rw[← Tr.ab h];rfl
 | dead=>exact Tr.ab h
 | map es=>exact Tr.ab h
 | fmap kq f g c=>exact Tr.ab h
 | loop l=>exact Tr.ab h
def vp (f:AV→Tr AV):List (Nat×av)→Tr (List (Nat×av))
 | []=>.ok []
 | (v,b)::r=>(D6 f b).bind fun b'=>(vp f r).bind fun r'=>.ok ((v,b')::r')
theorem uj {f:AV→Tr AV} {g:AV→AV} (hf:∀ v u,(f v).run=some u→g v=u):∀ (l m:List (Nat×av)),(vp f l).run=some m→iZ g l=m
 | [],m,h=>Tr.ab h
 | (v,b)::r,m,h=>by
   simp only[vp] at h
   obtain ⟨b',h1,h⟩:=Tr.bind_some h
   obtain ⟨r',h2,h⟩:=Tr.bind_some h
   rw[← Tr.ab h,iZ,D7 hf _ _ h1,uj hf r r' h2]
def Bc (f:AV→Tr AV):aK→Tr aK
 | []=>.ok []
 | (x,(v,h))::r=>(xl f v).bind fun v'=>(Bc f r).bind fun r'=>.ok ((x,(v',h))::r')
theorem xi {f:AV→Tr AV} {g:AV→AV} (hf:∀ v u,(f v).run=some u→g v=u):∀ (l m:aK),(Bc f l).run=some m→pg g (strip l)=strip m
 | [],m,h=>by rw[← Tr.ab h];rfl
 | (x,(v,hh))::r,m,h=>by
   simp only[Bc] at h
   obtain ⟨v',h1,h⟩:=Tr.bind_some h
   obtain ⟨r',h2,h⟩:=Tr.bind_some h
   rw[← Tr.ab h,cP,cP,pg,rO hf _ _ h1,xi hf r r' h2]
def rE (i:Nat) (fr:aK) (l:bL):Tr (aK×bL) :=
 match zM l.bs i with
 | (ver,.row r)=>cond (vm r && (sS (fun x=>oM (ow i) x.2) (strip fr) || sS (fun x=>JB (ow i) x.2) l.bs)) ((Bc (wV i ver r) fr).bind fun fr'=>(vp (wV i ver r) l.bs).bind fun bs'=>.ok (fr',{ l with bs:=bB bs' i (ver,.dead) })) (.ok (fr,l))
 | _=>.ok (fr,l)
theorem o5 {i:Nat} {fr:aK} {l:bL} {y:aK×bL} (h:(rE i fr l).run=some y):ln i (strip fr) l=(strip y.1,y.2):=by
 unfold rE at h
 unfold ln
 rw[qx] at h
 split at h
 · rename_i ver r hb
   rw[hb]
   dsimp only
   rw[nz,nz] at h
   cases hc:(vm r && ((strip fr).any (fun x=>oM (ow i) x.2) || l.bs.any (fun x=>JB (ow i) x.2))) with
   | true =>
     rw[hc,cond_true] at h
     obtain ⟨fr',h1,h⟩:=Tr.bind_some h
     obtain ⟨bs',h2,h⟩:=Tr.bind_some h
     rw[if_pos rfl,xi wW _ _ h1,uj wW _ _ h2,← Tr.ab h]
   | false =>
     rw[hc,cond_false] at h
     rw[if_neg (by simp),← Tr.ab h]
 · rename_i hno
   have h:=Tr.ab h
   subst h
   split
   · rename_i ver r hb
     exact absurd hb (hno ver r)
   · rfl
def qt:Nat→aK→bL→Tr (aK×bL)
 | 0,fr,l=>.ok (fr,l)
 | n+1,fr,l=>(qt n fr l).bind fun y=>rE n y.1 y.2
theorem rC:∀ (n:Nat) (fr:aK) (l:bL) (y:aK×bL),(qt n fr l).run=some y→iz n (strip fr) l=(strip y.1,y.2)
 | 0,fr,l,y,h=>by rw[← Tr.ab h];rfl
 | n+1,fr,l,y,h=>by
   simp only[qt] at h
   obtain ⟨z,h1,h⟩:=Tr.bind_some h
   have h1:=rC n fr l z h1
   simp only[iz]
   rw[h1]
   exact o5 h
def nX:Nat→aK→bL→Tr (aK×bL)
 | 0,fr,l=>.ok (fr,l)
 | n+1,fr,l=>(nX n fr l).bind fun y=>cond (sS (fun x=>oM (ow n) x.2) (strip y.1)) (.ok y) (rE n y.1 y.2)
theorem pM:∀ (n:Nat) (fr:aK) (l:bL) (y:aK×bL),(nX n fr l).run=some y→dI n (strip fr) l=(strip y.1,y.2)
 | 0,fr,l,y,h=>by rw[← Tr.ab h];rfl
 | n + 1,fr,l,y,h=>by
   simp only[nX] at h
   obtain ⟨z,h1,h⟩:=Tr.bind_some h
   have h1:=pM n fr l z h1
   simp only[dI]
   rw[h1]
   dsimp only
   rw[nz] at h
   cases hc:(strip z.1).any (fun x=>oM (ow n) x.2) with
   | true =>
     rw[hc,cond_true] at h
     rw[if_pos rfl,Tr.ab h]
   | false =>
     rw[hc,cond_false] at h
     rw[if_neg (by simp)]
     exact o5 h
def A4 (s:Nat):aK→Option Nat
 | []=>none
 | (x,(v,_))::r=>cond (Nat.beq x s) (match v with
   | .slc 0 i _ _ _ _ _=>some i
   | _=>none) (A4 s r)
theorem xb (s:Nat):∀ fr:aK,A4 s fr=A3 s (strip fr)
 | []=>rfl
 | (x,(v,h))::r=>by
   rw[cP]
   simp only[A4,A3,xb s r]
   cases Nat.beq x s<;>rfl
def vl (s:Nat) (fr:aK) (H:aa):Tr (aK×aa) :=
 match H with
 | []=>.ok (fr,[])
 | l::r=>cond l.lock (.ok (fr,l::r)) (match A4 s fr with
   | some i=>(rE i fr l).bind fun y=>.ok (y.1,y.2::r)
   | none=>.ok (fr,l::r))
theorem zx {s:Nat} {fr:aK} {H:aa} {y:aK×aa} (h:(vl s fr H).run=some y):vk s (strip fr) H=(strip y.1,y.2):=by
 unfold vl at h
 unfold vk
 cases H with
 | nil=>rw[← Tr.ab h]
 | cons l r =>
   dsimp only at h ⊢
   cases hl:l.lock with
   | true =>
     rw[hl,cond_true] at h
     rw[if_pos rfl,← Tr.ab h]
   | false =>
     rw[hl,cond_false,xb] at h
     rw[if_neg (by simp)]
     split at h
     · rename_i i hi
       obtain ⟨z,h1,h⟩:=Tr.bind_some h
       have h1:=o5 h1
       rw[hi]
       dsimp only
       rw[h1,← Tr.ab h]
     · rename_i hi
       rw[hi,← Tr.ab h]
def zw (m:Nat) (fr:aK) (H:aa):Tr (aK×aa) :=
 cond (m4 m 4000) (match H with
  | []=>.ok (fM fr m,[])
  | l::r=>cond l.lock (.ok (fM fr m,l::r)) ((qt (gQ l.bs) (fM fr m) l).bind fun y=>.ok (y.1,cond (Nat.beq (Nat.shiftRight m 4003) 0) (y.2::r) (Ee (Nat.shiftRight m 4003) (y.2::r))))) (cond (m4 m 4001) (vl (Nat.shiftRight m 4003) (fM fr m) H) (cond (m4 m 4002) (uI (fM fr m) (Nat.shiftRight m 4003) (fun fr=>.ok (fr,H)) (fun fr=>match H with
  | []=>.ok (fr,[])
  | l::r=>cond l.lock (.ok (fr,l::r)) ((nX (gQ l.bs) fr l).bind fun y=>.ok (y.1,y.2::r)))) (.ok (fM fr m,H))))
theorem Cj {m:Nat} {fr:aK} {H:aa} {y:aK×aa} (h:(zw m fr H).run=some y):lq m (strip fr) H=(strip y.1,y.2):=by
 unfold zw at h
 unfold lq
 cases hm:m4 m 4000 with
 | false =>
   rw[hm,cond_false] at h
   rw[if_neg (by simp)]
   cases hm2:m4 m 4001 with
   | false =>
     rw[hm2,cond_false] at h
     rw[if_neg (by simp)]
     cases hm3:m4 m 4002 with
     | false =>
       rw[hm3,cond_false] at h
       rw[if_neg (by simp),← Tr.ab h,dZ]
     | true =>
       rw[hm3,cond_true] at h
       rw[if_pos rfl]
       obtain ⟨b,fr',h1,h2,h3⟩:=kB h
       rw[dZ] at h1 h2
       rw[h1]
       cases b with
       | true =>
         simp only[if_true] at h3
         rw[← Tr.ab h3,h2]
       | false =>
         simp only[Bool.false_eq_true,if_false] at h3
         cases H with
         | nil =>
           dsimp only at h3
           rw[← Tr.ab h3,← h2];rfl
         | cons l r =>
           dsimp only at h3
           show tb (bH (strip fr) m) (l::r)=_
           rw[← h2]
           unfold tb
           dsimp only
           cases hl:l.lock with
           | true =>
             rw[hl,cond_true] at h3
             rw[if_pos rfl,← Tr.ab h3]
           | false =>
             rw[hl,cond_false] at h3
             obtain ⟨z,h4,h5⟩:=Tr.bind_some h3
             have h4:=pM _ _ _ _ h4
             rw[c5] at h4
             rw[if_neg (by simp),h4,← Tr.ab h5]
   | true =>
     rw[hm2,cond_true] at h
     rw[if_pos rfl]
     have h1:=zx h
     rw[dZ] at h1
     exact h1
 | true =>
   rw[hm,cond_true] at h
   rw[if_pos rfl]
   cases H with
   | nil =>
     rw[← Tr.ab h,dZ]
     simp only[Ci,Ee,ite_self]
   | cons l r =>
     dsimp only at h
     unfold Ci
     dsimp only
     cases hl:l.lock with
     | true =>
       rw[hl,cond_true] at h
       simp only[if_true]
       rw[← Tr.ab h,dZ]
       simp only[Ee,hl,if_true,ite_self]
     | false =>
       rw[hl,cond_false] at h
       obtain ⟨z,h1,h⟩:=Tr.bind_some h
       have h1:=rC _ _ _ _ h1
       rw[c5,dZ] at h1
       simp only[Bool.false_eq_true,if_false,h1]
       rw[← Tr.ab h]
       cases Nat.beq (Nat.shiftRight m 4003) 0<;>rfl
def aZ (cx:Cx) (callR:bj) (bl:fc) (rg:oJ):Code→aK→aa→Tr gZ
 | .skip,fr,H=>.ok (.normal,fr,H)
 | .label _,fr,H=>.ok (.normal,fr,H)
 | .exit id,fr,H=>.ok (.exit id,fr,H)
 | .goto l,fr,H=>.ok (.goto l,fr,H)
 | .ret,fr,H=>.ok (.ret,fr,H)
 | .region id ops draw,fr,H =>
   (cond draw (cond (ep ops (Region.before ops)) (nH cx.P cx.nt cx.call callR ops (Region.before ops) ops.toList 0 fr (lj H (cg ops.toList)) (eN H) []) .bad) (gV cx.P cx.nt cx.call callR ops ops.toList fr H)).bind fun x=>(zw (cx.kt id) x.1 x.2).bind fun y=>.ok (.normal,y.1,y.2)
 | .seq a b,fr,H=>(aZ cx callR bl rg a fr H).bind fun x=>match x with
   | (.normal,fr,H)=>aZ cx callR bl rg b fr H
   | r=>.ok r
 | .cond c a b,fr,H=>match c with
   | .tmp d=>uI fr d (fun fr=>aZ cx callR bl rg a fr H) (fun fr=>aZ cx callR bl rg b fr H)
   | c=>match (bT fr c).1 with
     | .bool t=>cond t (aZ cx callR bl rg a fr H) (aZ cx callR bl rg b fr H)
     | _=>.bad
 | .block id b,fr,H=>match bl id fr H with
   | some t=>t
   | none=>(aZ cx callR bl rg b fr H).bind fun x=>match x with
     | (.exit id',fr,H)=>cond (Nat.beq id' id) (.ok (.normal,fr,H)) (.ok (.exit id',fr,H))
     | r=>.ok r
 | .scope b,fr,H=>(aZ cx callR bl rg b fr H).bind fun x=>match x with
   | (.goto _,_,_)=>.bad
   | r=>.ok r
 | .rangeFunc f _ _ _,fr,H=>match rg f fr H with
   | some t=>t
   | none=>.bad
 | .loop b,fr,H=>cond (Nat.ble 12 cx.fu) (A1 (aZ cx callR bl rg b) (eN H) 12 fr H) .bad
 | .refuse _,_,_=>.bad

theorem im {cx:Cx} {callR:bj} {bl:fc} {rg:oJ} (hC:callR.Ok cx.call):∀ (c:Code),bl.Ok cx c→rg.Ok cx c→∀ (fr:aK) (H:aa) (x:gZ),(aZ cx callR bl rg c fr H).run=some x→exec cx c (strip fr) H=some x.st:=by
 intro c
 induction c with
 | skip=>intro _ _ fr H x h;rw[← Tr.ab h];rfl
 | label=>intro _ _ fr H x h;rw[← Tr.ab h];rfl
 | exit=>intro _ _ fr H x h;rw[← Tr.ab h];rfl
 | goto=>intro _ _ fr H x h;rw[← Tr.ab h];rfl
 | ret=>intro _ _ fr H x h;rw[← Tr.ab h];rfl
 | refuse=>intro _ _ fr H x h;exact (Tr.ae h).elim
 | loop b ih =>
   intro hb hr fr H x h
   simp only[aZ] at h
   obtain ⟨hk,h⟩:=Tr.aL h
   rw[Nat.ble_eq] at hk
   unfold exec
   rw[fO] at h
   exact uf _ _ _ _ _ (wZ (fun fr H x h=>ih hb hr fr H x h) 12 fr H x h) hk
 | rangeFunc f ps a b =>
   intro _ hr fr H x h
   simp only[aZ] at h
   split at h
   · rename_i t ht
     exact hr f ps a b (by simp[dU]) fr H t x ht h
   · exact (Tr.ae h).elim
 | region id ops draw =>
   intro _ _ fr H x h
   simp only[aZ] at h
   obtain ⟨y,h1,h⟩:=Tr.bind_some h
   obtain ⟨z,h2,h⟩:=Tr.bind_some h
   have h2:=Cj h2
   rw[← Tr.ab h]
   unfold exec
   cases draw with
   | true =>
     rw[cond_true] at h1
     obtain ⟨hs,h1⟩:=Tr.aL h1
     rw[fO] at h1
     simp only[if_true,hs]
     rw[pE hC _ _ _ _ _ _ _ h1]
     dsimp only
     rw[h2]
     rfl
   | false =>
     rw[cond_false] at h1
     simp only[Bool.false_eq_true,if_false]
     rw[eR hC _ _ _ _ h1]
     dsimp only
     rw[h2]
     rfl
 | seq a b iha ihb =>
   intro hb hr fr H x h
   have hba:bl.Ok cx a:=fun id b' hm=>hb id b' (List.mem_append_left _ hm)
   have hbb:bl.Ok cx b:=fun id b' hm=>hb id b' (List.mem_append_right _ hm)
   have hra:rg.Ok cx a:=fun f ps u v hm=>hr f ps u v (List.mem_append_left _ hm)
   have hrb:rg.Ok cx b:=fun f ps u v hm=>hr f ps u v (List.mem_append_right _ hm)
   simp only[aZ] at h
   obtain ⟨y,h1,h⟩:=Tr.bind_some h
   have h1:=iha hba hra _ _ _ h1
   unfold exec
   rw[h1]
   obtain ⟨e,fr1,H1⟩:=y
   cases e
   case normal=>exact ihb hbb hrb _ _ _ h
   all_goals
    have h:=Tr.ab h
    rw[← h];rfl
 | cond c a b iha ihb =>
   intro hb hr fr H x h
   have hba:bl.Ok cx a:=fun id b' hm=>hb id b' (List.mem_append_left _ hm)
   have hbb:bl.Ok cx b:=fun id b' hm=>hb id b' (List.mem_append_right _ hm)
   have hra:rg.Ok cx a:=fun f ps u v hm=>hr f ps u v (List.mem_append_left _ hm)
   have hrb:rg.Ok cx b:=fun f ps u v hm=>hr f ps u v (List.mem_append_right _ hm)
   simp only[aZ] at h
   unfold exec
   split at h
   · rename_i d
     obtain ⟨b',fr',h1,h2,h3⟩:=kB h
     have e:bE (strip fr) (.tmp d)=.bool b':=h1
     rw[e,← h2]
     cases b' with
     | true=>exact iha hba hra _ _ _ h3
     | false=>exact ihb hbb hrb _ _ _ h3
   · rename_i c' hne
     rw[aQ] at h
     split at h
     · rename_i t hc
       rw[hc]
       cases t with
       | true=>exact iha hba hra _ _ _ h
       | false=>exact ihb hbb hrb _ _ _ h
     · exact (Tr.ae h).elim
 | block id b ih =>
   intro hb hr fr H x h
   have hbb:bl.Ok cx b:=fun id' b' hm=>hb id' b' (by simp only[aP];exact List.mem_cons_of_mem _ hm)
   simp only[aZ] at h
   split at h
   · rename_i t ht
     exact hb id b (by simp[aP]) _ _ _ _ ht h
   · obtain ⟨y,h1,h⟩:=Tr.bind_some h
     have h1:=ih hbb hr _ _ _ h1
     unfold exec
     rw[h1]
     obtain ⟨e,fr1,H1⟩:=y
     cases e
     case exit id' =>
      dsimp only[gZ.st] at h ⊢
      rw[fo] at h
      split at h
      · rename_i ta
        rw[if_pos ta,← Tr.ab h]
      · rename_i ta
        rw[if_neg ta,← Tr.ab h]
     all_goals
      have h:=Tr.ab h
      rw[← h];rfl
 | scope b ih =>
   intro hb hr fr H x h
   simp only[aZ] at h
   obtain ⟨y,h1,h⟩:=Tr.bind_some h
   have h1:=ih hb hr _ _ _ h1
   unfold exec
   rw[h1]
   obtain ⟨e,fr1,H1⟩:=y
   cases e
   case goto=>exact (Tr.ae h).elim
   all_goals
    have h:=Tr.ab h
    rw[← h];rfl

end
end Go.Eng
end
section
namespace Go.Eng
noncomputable section

def mz   (bs:List (Nat×av)):Nat→AV→Tr AV
 | 0,_=>.ok .undef
 | n + 1,v=>match v with
   | .ptr d i ver off=>match d with
     | d+1=>.ok (.ptr d i ver off)
     | 0 => match zM bs i with
       | (w,.row r)=>cond (Nat.beq w ver) (match r with
         | .I k l=>.ok (.ptrT none (.I k l) off)
         | .F f m=>.ok (.ptrT none (.F f m) off)
         | .M l=>cond (fk l) (.ok (.ptrT none (.M l) off)) ((lD (mz bs n) l).bind fun m=>.ok (.ptrT (some 0) (.M m) off))
         | .G l=>(mY (mz bs n) l).bind fun m=>.ok (.ptrT (some 0) (.G m) off)) .bad
       | _=>.bad
   | .slc d i ver off sz len cap=>match d with
     | d+1=>.ok (.slc d i ver off sz len cap)
     | 0 => match zM bs i with
       | (w,.row r)=>.req (fX w ver) (match r with
         | .M [.arr k z N]=>.req (nv off (ff len sz) 0 N) (.ok (.slcT none (.M [.arr k (yN z off) (ff len sz)]) sz len (pC cap len)))
         | .I k l=>cond (s6 (.I k l) off (Nat.mul len sz)) (.ok (.slcT none (.I k (gM (kG l off) (Nat.mul len sz))) sz len (pC cap len))) .bad
         | .F f N=>.req (nv off (ff len sz) 0 N) (.ok (.slcT none (.F (fun j=>f (aG off j)) (ff len sz)) sz len (pC cap len)))
         | .G l=>cond (s6 (.G l) off (Nat.mul len sz)) ((mY (mz bs n) (gM (kG l off) (Nat.mul len sz))).bind fun m=>.ok (.slcT (some 0) (.G m) sz len (pC cap len))) .bad
         | _=>.bad)
       | _=>.bad
   | .ptrT s r off=>match s with
     | none=>.ok (.ptrT none r off)
     | some (s+1)=>.ok (.ptrT (some s) r off)
     | some 0=>match r with
       | .G l=>(mY (mz bs n) l).bind fun m=>.ok (.ptrT (some 0) (.G m) off)
       | .M l=>cond (fk l) (.ok (.ptrT none (.M l) off)) ((lD (mz bs n) l).bind fun m=>.ok (.ptrT (some 0) (.M m) off))
       | r=>.ok (.ptrT none r off)
   | .slcT s r sz len full=>match s with
     | none=>.ok (.slcT none r sz len full)
     | some (s+1)=>.ok (.slcT (some s) r sz len full)
     | some 0=>match r with
       | .G l=>(mY (mz bs n) l).bind fun m=>.ok (.slcT (some 0) (.G m) sz len full)
       | .M l=>cond (fk l) (.ok (.slcT none (.M l) sz len full)) ((lD (mz bs n) l).bind fun m=>.ok (.slcT (some 0) (.M m) sz len full))
       | r=>.ok (.slcT none r sz len full)
   | .map d i=>match d with
     | d+1=>.ok (.map d i)
     | 0=>.ok .undef
   | .yld d i=>match d with
     | d+1=>.ok (.yld d i)
     | 0=>.ok .undef
   | .fn f a b=>(mY (mz bs n) a).bind fun a'=>(mY (mz bs n) b).bind fun b'=>.ok (.fn f a' b')
   | .agg r=>match r with
     | .G l=>(mY (mz bs n) l).bind fun m=>.ok (.agg (.G m))
     | .M l=>(lD (mz bs n) l).bind fun m=>.ok (.agg (.M m))
     | r=>.ok (.agg r)
   | .tup l=>(mY (mz bs n) l).bind fun m=>.ok (.tup m)
   | v=>.ok v
theorem AO (bs:List (Nat×av)):∀ (n:Nat) (v u:AV),(mz bs n v).run=some u→cX bs n v=u
 | 0,v,u,h=>Tr.ab h
 | n + 1,v,  u,h=>by
   have ih:=AO bs n
   simp only[mz,qx] at h
   cases v with
   | ptr d i ver off =>
     cases d with
     | succ d=>exact Tr.ab h
     | zero =>
       dsimp only at h
       simp only[cX]
       split at h
       · rename_i w r hg
         obtain ⟨hw,h⟩:=Tr.aL h
         rw[hg]
         dsimp only
         rw[if_pos hw]
         cases r with
         | I k l=>exact Tr.ab h
         | F f m=>exact Tr.ab h
         | G l =>
           obtain ⟨m,h1,h⟩:=Tr.bind_some h
           rw[← Tr.ab h,← ef ih _ _ h1]
         | M l =>
           dsimp only at h ⊢
           cases ha:fk l with
           | true=>rw[ha,cond_true] at h;rw[if_pos rfl];exact Tr.ab h
           | false =>
             rw[ha,cond_false] at h
             obtain ⟨m,h1,h⟩:=Tr.bind_some h
             rw[if_neg (by simp),← Tr.ab h,← gp ih _ _ h1]
       · exact (Tr.ae h).elim
   | slc d i ver off sz len cap =>
     cases d with
     | succ d=>exact Tr.ab h
     | zero =>
       dsimp only at h
       simp only[cX]
       split at h
       · rename_i w r hg
         obtain ⟨hw,h'⟩:=Tr.aH h
         clear h
         rw[eK,decide_eq_true_eq] at hw
         subst hw
         rw[hg]
         dsimp only
         split at h'
         · rename_i k z N
           have h:=h'
           obtain ⟨hc,h⟩:=Tr.aH h
           rw[iA,decide_eq_true_eq,cq] at hc
           rw[if_pos ⟨by simp,by simp only[Row.len,au,aF];omega⟩,← Tr.ab h,ju,cq,lR]
           simp only[Row.sub,fk,if_true]
         · have h:=h'
           obtain ⟨hc,h⟩:=Tr.aL h
           rw[j7,decide_eq_true_eq] at hc
           rw[if_pos ⟨by simp,hc⟩,← Tr.ab h,ju,fD,gi]
           rfl
         · have h:=h'
           obtain ⟨hc,h⟩:=Tr.aH h
           rw[iA,decide_eq_true_eq,cq] at hc
           rw[if_pos ⟨by simp,by simp only[Row.len];omega⟩,← Tr.ab h,ju,cq]
           simp only[Row.sub,aJ]
         · have h:=h'
           obtain ⟨hc,h⟩:=Tr.aL h
           rw[j7,decide_eq_true_eq] at hc
           obtain ⟨m,h1,h⟩:=Tr.bind_some h
           rw[fD,gi] at h1
           rw[if_pos ⟨by simp,hc⟩,← Tr.ab h,ju,← ef ih _ _ h1]
           rfl
         · exact (Tr.ae h').elim
       · exact (Tr.ae h).elim
   | ptrT s r off =>
     cases s with
     | none=>exact Tr.ab h
     | some s =>
       cases s with
       | succ s=>exact Tr.ab h
       | zero =>
         simp only[cX]
         cases r with
         | I k l=>exact Tr.ab h
         | F f m=>exact Tr.ab h
         | G l =>
           obtain ⟨m,h1,h⟩:=Tr.bind_some h
           rw[← Tr.ab h,← ef ih _ _ h1]
         | M l =>
           dsimp only at h ⊢
           cases ha:fk l with
           | true=>rw[ha,cond_true] at h;rw[if_pos rfl];exact Tr.ab h
           | false =>
             rw[ha,cond_false] at h
             obtain ⟨m,h1,h⟩:=Tr.bind_some h
             rw[if_neg (by simp),← Tr.ab h,← gp ih _ _ h1]
   | slcT s r sz len full =>
     cases s with
     | none=>exact Tr.ab h
     | some s =>
       cases s with
       | succ s=>exact Tr.ab h
       | zero =>
         simp only[cX]
         cases r with
         | I k l=>exact Tr.ab h
         | F f m=>exact Tr.ab h
         | G l =>
           obtain ⟨m,h1,h⟩:=Tr.bind_some h
           rw[← Tr.ab h,← ef ih _ _ h1]
         | M l =>
           dsimp only at h ⊢
           cases ha:fk l with
           | true=>rw[ha,cond_true] at h;rw[if_pos rfl];exact Tr.ab h
           | false =>
             rw[ha,cond_false] at h
             obtain ⟨m,h1,h⟩:=Tr.bind_some h
             rw[if_neg (by simp),← Tr.ab h,← gp ih _ _ h1]
   | map d i=>cases d<;>exact Tr.ab h
   | yld d i=>cases d<;>exact Tr.ab h
   | fn f a b =>
     obtain ⟨a',h1,h⟩:=Tr.bind_some h
     obtain ⟨b',h2,h⟩:=Tr.bind_some h
     simp only[cX]
     rw[← Tr.ab h,← ef ih _ _ h1,← ef ih _ _ h2]
   | agg r =>
     simp only[cX]
     cases r with
     | I k l=>exact Tr.ab h
     | F f m=>exact Tr.ab h
     | G l =>
       obtain ⟨m,h1,h⟩:=Tr.bind_some h
       rw[← Tr.ab h,← ef ih _ _ h1]
     | M l =>
       obtain ⟨m,h1,h⟩:=Tr.bind_some h
       rw[← Tr.ab h,← gp ih _ _ h1]
   | tup l =>
     obtain ⟨m,h1,h⟩:=Tr.bind_some h
     simp only[cX]
     rw[← Tr.ab h,← ef ih _ _ h1]
   | _=>exact Tr.ab h

def Fs (l:List HV):Nat→aK:=List.rec (motive:=fun _=>Nat→aK) (fun _=>[]) (fun v _ ih x=>(x,(kO 1 v.1,v.2))::ih (Nat.succ x)) l
theorem uN:∀ (l:List HV) (x:Nat),strip (Fs l x)=eJ x (lW l)
 | [],x=>rfl
 | v::l,x=>by
   have e:Fs (v::l) x=(x,(kO 1 v.1,v.2))::Fs l (x+1):=rfl
   rw[e,cP,uN l];rfl
def hints (f:az):aK:=List.rec (motive:=fun _=>aK) [] (fun p _ ih=>(p.1,(p.2,none))::ih) f
theorem bn:∀ f:az,strip (hints f)=f
 | []=>rfl
 | (x,v)::r=>by
   have e:hints ((x,v)::r)=(x,(v,none))::hints r:=rfl
   rw[e,cP,bn r]
def zT (P:Program) (fr:aK) (H:aa):List ResultVar→Tr (List AV)
 | []=>.ok []
 | .tmp t::r=>(zT P fr H r).bind fun l=>.ok ((kH fr t).1::l)
 | .cell a t::r=>(loadT P H t (bT fr (.tmp a))).bind fun v=>(zT P fr H r).bind fun l=>.ok (v::l)
theorem vI {P:Program} {fr:aK} {H:aa}:∀ (l:List ResultVar) (vs:List AV),(zT P fr H l).run=some vs→fT P (strip fr) H l=some vs
 | [],vs,h=>by rw[← Tr.ab h];rfl
 | .tmp t::r,vs,h=>by
   simp only[zT] at h
   obtain ⟨l,h1,h⟩:=Tr.bind_some h
   simp only[fT]
   rw[vI r l h1,← Tr.ab h,eA];rfl
 | .cell a t::r,vs,h=>by
   simp only[zT] at h
   obtain ⟨v,h0,h⟩:=Tr.bind_some h
   obtain ⟨l,h1,h⟩:=Tr.bind_some h
   have h0:=xe h0
   rw[aQ] at h0
   simp only[fT]
   have e:bE (strip fr) (.tmp a)=bx (strip fr) a:=rfl
   rw[e] at h0
   rw[h0]
   dsimp only
   rw[vI r l h1,← Tr.ab h];rfl
def G8 (fr:aK) (rs:List ResultVar):Option Nat :=
 match rs with
 | [.tmp t]=>(kH fr t).2
 | _=>none
def Jq (P:Program) (rs:List ResultVar) (x:gZ):Tr (HV×aa) :=
 match x with
 | (e,fr,l::H)=>match e with
   | .normal | .ret=>(zT P fr (l::H) rs).bind fun vs=>(mz l.bs 5 (one vs)).bind fun v=>.ok ((v,G8 fr rs),H)
   | _=>.bad
 | _=>.bad
theorem Bs {P:Program} {rs:List ResultVar} {x:gZ} {y:HV×aa} (h:(Jq P rs x).run=some y):∃ l vs,x.2.2=l::y.2∧(x.1=.normal∨x.1=.ret)∧fT P (strip x.2.1) x.2.2 rs=some vs∧cX l.bs 5 (one vs)=y.1.1:=by
 unfold Jq at h
 split at h
 · rename_i e fr l H
   have key:((zT P fr (l::H) rs).bind fun vs=>(mz l.bs 5 (one vs)).bind fun v=>Tr.ok (((v,G8 fr rs),H):HV×aa)).run=some y→∃ vs,l::H=l::y.2∧fT P (strip fr) (l::H) rs=some vs∧cX l.bs 5 (one vs)=y.1.1:=by
    intro h
    obtain ⟨vs,h1,h⟩:=Tr.bind_some h
    obtain ⟨v,h2,h⟩:=Tr.bind_some h
    have h:=Tr.ab h
    refine ⟨vs,by rw[← h],vI _ _ h1,?_⟩
    rw[AO _ _ _ _ h2,← h]
   split at h
   · obtain ⟨vs,h1,h2,h3⟩:=key h;exact ⟨l,vs,h1,.inl rfl,h2,h3⟩
   · obtain ⟨vs,h1,h2,h3⟩:=key h;exact ⟨l,vs,h1,.inr rfl,h2,h3⟩
   · exact (Tr.ae h).elim
 · exact (Tr.ae h).elim
def bA (P:Program) (call:aA) (fu:Nat) (f:FuncId) (fn:Func) (kt:Nat→Nat) (callR:bj) (bl:fc) (rg:oJ) (args:List HV) (H:aa):Tr (HV×aa) :=
 (aZ ⟨P,call,fu,f,fn.ntmps,kt,none⟩ callR bl rg (bw fn) (Fs args 0) (⟨false,[]⟩::H)).bind fun x=>Jq P fn.results.toList x
theorem qS {P:Program} {ora:aA→FuncId→List AV→aa→Option (AV×aa)} {KT:FuncId→Nat→Nat} {fu n:Nat} {f:FuncId} {fn:Func} (hf:P.funcs[f]?=some fn) (hb:fn.body.isSome=true) {args:List HV} {H:aa} (ho:ora (cU P ora KT fu n) f (lW args) H=none) (hle:Nat.ble args.length fn.ntmps=true)
 {callR:bj} (hC:callR.Ok (cU P ora KT fu n)) {bl:fc} (hB:bl.Ok ⟨P,cU P ora KT fu n,fu,f,fn.ntmps,KT f,none⟩ (bw fn)) {rg:oJ} (hR:rg.Ok ⟨P,cU P ora KT fu n,fu,f,fn.ntmps,KT f,none⟩ (bw fn)) {y:HV×aa}
 (h:(bA P (cU P ora KT fu n) fu f fn (KT f) callR bl rg args H).run=some y):cU P ora KT fu (n+1) (.fn f) (lW args) H=some (y.1.1,y.2):=by
 unfold bA at h
 obtain ⟨x,h1,h⟩:=Tr.bind_some h
 have h1:=im hC _ hB hR _ _ _ h1
 rw[uN] at h1
 obtain ⟨l,vs,k1,k2,k3,k4⟩:=Bs h
 obtain ⟨c,hc⟩:=Option.isSome_iff_exists.1 hb
 have hbody:bw fn=c:=by unfold bw;rw[hc]
 rw[hbody] at h1
 obtain ⟨e,fr,H1⟩:=x
 dsimp only[gZ.st] at h1 k1 k2 k3
 rw[k1] at h1 k3
 have hl:(lW args).length=args.length:=by unfold lW;rw[gT,List.length_map]
 simp only[cU,ho,hf,hc,hl,hle,if_true,h1]
 rcases k2 with rfl | rfl<;>simp only[k3]<;>rw[k4]

theorem gx {cx:Cx} {id:Nat} {b:Code} {fr fr1:az} {H H1:aa} (h:iter (exec cx b) (aN H) cx.fu fr H=some (.exit id,fr1,H1)):exec cx (.block id (.loop b)) fr H=some (.normal,fr1,H1):=by
 unfold exec
 have:exec cx (.loop b) fr H=some (.exit id,fr1,H1):=by unfold exec;exact h
 rw[this]
 dsimp only
 rw[if_pos (by simp)]
theorem dD {cx:Cx} {id:Nat} {b:Code} {fr fr1:az} {H H1:aa} {e:Ex} (he:∀ id',e=.exit id'→Nat.beq id' id=false) (h:iter (exec cx b) (aN H) cx.fu fr H=some (e,fr1,H1)):exec cx (.block id (.loop b)) fr H=some (e,fr1,H1):=by
 unfold exec
 have:exec cx (.loop b) fr H=some (e,fr1,H1):=by unfold exec;exact h
 rw[this]
 cases e with
 | exit id'=>dsimp only;rw[if_neg (by rw[he id' rfl];simp)]
 | _=>rfl
def fN (p:Nat→Bool):Nat→Nat→Nat
 | 0,j=>j
 | k+1,j=>if p j then j else fN p k (j+1)
theorem u0 (p:Nat→Bool):∀ (k j:Nat),j≤fN p k j∧fN p k j≤j+k∧(∀ i,j≤i→i<fN p k j→p i=false)∧(fN p k j<j+k→p (fN p k j)=true)
 | 0,j=>⟨Nat.le_refl _,Nat.le_refl _,fun i h1 h2=>absurd h2 (by simp only[fN];omega),fun h=>absurd h (by simp only[fN];omega)⟩
 | k + 1,j=>by
   simp only[fN]
   by_cases h:p j=true
   · rw[if_pos h]
     exact ⟨Nat.le_refl _,by omega,fun i h1 h2=>by omega,fun _=>h⟩
   · rw[if_neg h]
     obtain ⟨h1,h2,h3,h4⟩:=u0 p k (j+1)
     refine ⟨by omega,by omega,fun i k1 k2=>?_,fun k1=>h4 (by omega)⟩
     by_cases e:i=j
     · subst e;simpa using h
     · exact h3 i (by omega) k2
theorem jF {body:az→aa→Option (Ex×az×aa)} {n:Nat} (F:Nat→az) (G:Nat→aa) (N:Nat) (p:Nat→Bool) (X:Nat→Ex×az×aa)
 (hs:∀ j,j<N→p j=false→∃ f g,body (F j) (G j)=some (.normal,f,g)∧tidy n f g=(F (j+1),G (j+1)))
 (hh:∀ j,j<N→p j=true→body (F j) (G j)=some (X j)∧(X j).1≠.normal) (he:body (F N) (G N)=some (X N)∧(X N).1≠.normal) :
 ∀ (k j fu:Nat),j+k=N→k<fu→iter body n fu (F j) (G j)=some (X (fN p k j))
 | 0,j,0,_,h=>by omega
 | 0,j,fu+1,hj,_=>by
   have:j=N:=by omega
   subst this
   unfold iter
   rw[he.1]
   obtain ⟨x,hx⟩:∃ x,x=X j:=⟨_,rfl⟩
   have hn:=he.2
   simp only[fN]
   rw[← hx] at hn ⊢
   obtain ⟨e,f,g⟩:=x
   cases e<;>first | exact absurd rfl hn | rfl
 | k+1,j,0,_,h=>by omega
 | k + 1,j,fu+1,hj,hf=>by
   unfold iter
   cases hp:p j with
   | true =>
     obtain ⟨h1,h2⟩:=hh j (by omega) hp
     rw[h1]
     simp only[fN]
     rw[if_pos hp]
     obtain ⟨x,hx⟩:∃ x,x=X j:=⟨_,rfl⟩
     rw[← hx] at h2 ⊢
     obtain ⟨e,f,g⟩:=x
     cases e<;>first | exact absurd rfl h2 | rfl
   | false =>
     obtain ⟨f,g,h1,h2⟩:=hs j (by omega) hp
     rw[h1]
     dsimp only
     rw[h2]
     simp only[fN]
     rw[if_neg (by rw[hp];simp)]
     exact jF F G N p X hs hh he k (j+1) fu (by omega) (by omega)
end
end Go.Eng
end
