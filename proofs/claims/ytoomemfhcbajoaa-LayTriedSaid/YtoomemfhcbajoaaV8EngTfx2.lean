/- The engine as a tree: regions, code, calls. -/
import Derived.Test.YtoomemfhcbajoaaV8EngTe
set_option linter.unusedVariables false
set_option linter.unusedSimpArgs false
section
namespace Go.Eng
noncomputable section

def uN (f:aC) (y:Nat) (b:Bool):aC:=List.rec (motive:=fun _=>aC) [] (fun p r ih=>Bool.rec (motive:=fun _=>aC) (p::ih) ((p.1,(.bool b,some 1))::r) (Nat.beq p.1 y)) f
theorem sm:∀ (f:aC) (y:Nat) (b:Bool),bk (strip f) y=.bool b→strip (uN f y b)=strip f
 | [],y,b,_=>rfl
 | (x,v)::r,y,b,h=>by
   have e:uN ((x,v)::r) y b=Bool.rec (motive:=fun _=>aC) ((x,v)::uN r y b) ((x,(.bool b,some 1))::r) (Nat.beq x y):=rfl
   rw[cQ,bk] at h
   rw[e]
   cases hb:Nat.beq x y with
   | true =>
     rw[hb] at h
     have h:v.1=.bool b:=h
     show (x,AV.bool b)::strip r=(x,v.1)::strip r
     rw[h]
   | false =>
     rw[hb] at h
     show (x,v.1)::strip (uN r y b)=(x,v.1)::strip r
     rw[sm r y b h]
def vl {α:Type} (fr:aC) (d:Nat) (t e:aC→Tr α):Tr α :=
 match lh fr d with
 | (.bool b,none)=>.ite b (t (uN fr d true)) (e (uN fr d false))
 | (.bool b,some _)=>cond b (t fr) (e fr)
 | _=>.bad
theorem kW {α:Type} {fr:aC} {d:Nat} {t e:aC→Tr α} {x:α} (h:(vl fr d t e).run=some x):∃ b fr',bk (strip fr) d=.bool b∧strip fr'=strip fr∧(if b then t fr' else e fr').run=some x:=by
 unfold vl at h
 split at h
 · rename_i b hg
   have hg':bk (strip fr) d=.bool b:=by rw[← fe,hg]
   rcases Tr.ff h with ⟨rfl,h⟩ | ⟨rfl,h⟩
   · exact ⟨true,_,hg',sm _ _ _ hg',h⟩
   · exact ⟨false,_,hg',sm _ _ _ hg',h⟩
 · rename_i b n hg
   have hg':bk (strip fr) d=.bool b:=by rw[← fe,hg]
   refine ⟨b,fr,hg',rfl,?_⟩
   cases b<;>exact h
 · exact (Tr.ae h).elim
def Cq (ops:Array Oper) (fr:aC) (o:Oper):Tr (Bool×aC) :=
 match o.guard with
 | none=>.ok (true,fr)
 | some (j,want)=>match (ops[j]?).bind (·.dst) with
   | none=>.bad
   | some d=>match (lh fr d).1 with
     | .bool _=>cond want (vl fr d (fun fr=>.ok (true,fr)) (fun fr=>.ok (false,fr))) (vl fr d (fun fr=>.ok (false,fr)) (fun fr=>.ok (true,fr)))
     | .tup _=>.ok (false,fr)
     | _=>.bad
theorem zx {ops:Array Oper} {fr:aC} {o:Oper} {r:Bool×aC} (h:(Cq ops fr o).run=some r):g6 ops (strip fr) o=(if r.1 then .run else .skip)∧strip r.2=strip fr:=by
 unfold Cq at h
 unfold g6
 cases hg:o.guard with
 | none =>
   rw[hg] at h
   rw[← Tr.ab h];exact ⟨rfl,rfl⟩
 | some jw =>
   obtain ⟨j,want⟩:=jw
   rw[hg] at h
   dsimp only at h ⊢
   cases hd:(ops[j]?).bind (·.dst) with
   | none=>rw[hd] at h;exact (Tr.ae h).elim
   | some d =>
     rw[hd] at h
     dsimp only at h ⊢
     have he:=fe fr d
     rw[he] at h
     cases hv:bk (strip fr) d<;>rw[hv] at h<;>try exact (Tr.ae h).elim
     case bool b =>
      dsimp only at h ⊢
      cases want with
      | true =>
        rw[cond_true] at h
        obtain ⟨b',fr',h1,h2,h3⟩:=kW h
        rw[hv] at h1
        cases h1
        cases b<;>(have h3:=Tr.ab h3;rw[← h3];exact ⟨rfl,h2⟩)
      | false =>
        rw[cond_false] at h
        obtain ⟨b',fr',h1,h2,h3⟩:=kW h
        rw[hv] at h1
        cases h1
        cases b<;>(have h3:=Tr.ab h3;rw[← h3];exact ⟨rfl,h2⟩)
     case tup l=>rw[← Tr.ab h];exact ⟨rfl,rfl⟩

def iy (P:Program) (nt:Nat) (call:aJ) (callR:bB) (ops:Array Oper):List Oper→aC→aa→Tr (aC×aa)
 | [],fr,H=>.ok (fr,H)
 | o::r,fr,H=>(Cq ops fr o).bind fun b=>cond b.1
   ((Lb o.op o P call callR b.2 H (fx H)).bind fun y=>iy P nt call callR ops r (qE nt b.2 o.dst y.1) (L7 y.2 H))
   (iy P nt call callR ops r (qE nt b.2 o.dst (.tup [],none)) H)
theorem fA {P:Program} {nt:Nat} {call:aJ} {callR:bB} (hC:callR.Ok call) {ops:Array Oper}:∀ (l:List Oper) (fr:aC) (H:aa) (x:aC×aa),(iy P nt call callR ops l fr H).run=some x→dr P nt call ops l (strip fr) H=some (strip x.1,x.2)
 | [],fr,H,x,h=>by rw[← Tr.ab h];rfl
 | o :: r,fr,H,x,h=>by
   simp only[iy] at h
   obtain ⟨b,h1,h⟩:=Tr.bind_some h
   unfold dr
   obtain ⟨hw,hs⟩:=zx h1
   rw[hw,← hs]
   obtain ⟨b,fr1⟩:=b
   dsimp only at h ⊢
   cases b with
   | false =>
     have:=fA hC r _ _ _ h
     rw[lY] at this
     exact this
   | true =>
     rw[cond_true] at h
     obtain ⟨y,h2,h⟩:=Tr.bind_some h
     have h2:=Ah hC h2
     rw[gw] at h2
     have:=fA hC r _ _ _ h
     rw[lY,E0] at this
     rw[if_pos rfl]
     dsimp only
     rw[h2]
     exact this

def oX (fr:aC) (o:Oper):Touch:=j6 (strip fr) o
def pt (P:Program) (call:aJ) (callR:bB) (ops:Array Oper) (bef:Nat) (fr0:aC) (H:aa) (nx:Nat) (recs:List Rec) (o:Oper):Tr (th×Option Nat×aC) :=
 (Cq ops fr0 o).bind fun b=>cond b.1
   (cond (eN o) ((Lb o.op o P call callR b.2 (oJ (iJ bef recs H)) nx).bind fun y=>.ok (⟨y.1.1,.all,none⟩,y.1.2,b.2))
     ((Lb o.op o P call callR b.2 (iJ bef recs H) nx).bind fun y=>match y.2 with
       | .aS=>.ok (⟨y.1.1,oX b.2 o,none⟩,y.1.2,b.2)
       | .push q=>cond (gh o && !gy q && oC (eE H 0 nx) && !fv H 0) (.ok (⟨y.1.1,oX b.2 o,some (0,nx,(0,q))⟩,y.1.2,b.2)) .bad
       | .set d i q=>.req (jI (jz (eE H d i).1 q.1) (jz q.1 (Nat.succ (eE H d i).1))) (cond (!gy q.2 && !gy (eE (iJ bef recs H) d i).2 && iP bef d i recs) (.ok (⟨y.1.1,oX b.2 o,some (d,i,q)⟩,y.1.2,b.2)) .bad)
       | _=>.bad))
   (.ok (⟨.tup [],.none,none⟩,none,b.2))
theorem vG {P:Program} {call:aJ} {callR:bB} (hC:callR.Ok call) {ops:Array Oper} {bef:Nat} {fr:aC} {H:aa} {nx:Nat} {recs:List Rec} {o:Oper} {e:th×Option Nat×aC} (h:(pt P call callR ops bef fr H nx recs o).run=some e) :
 eC P call ops bef (strip fr) H nx recs o=some e.1∧strip e.2.2=strip fr:=by
 unfold pt at h
 unfold eC
 simp only[jQ,qA,oX,qG,gS,dQ] at h
 obtain ⟨b,h1,h⟩:=Tr.bind_some h
 obtain ⟨hw,hs⟩:=zx h1
 rw[hw,← hs]
 obtain ⟨b,fr1⟩:=b
 dsimp only at h ⊢
 cases b with
 | false =>
   rw[cond_false] at h
   rw[← Tr.ab h];exact ⟨rfl,rfl⟩
 | true =>
   rw[cond_true] at h
   rw[if_pos rfl]
   dsimp only
   cases hcv:eN o with
   | true =>
     rw[hcv,cond_true] at h
     obtain ⟨y,h2,h⟩:=Tr.bind_some h
     rw[if_pos rfl,Ah hC h2,← Tr.ab h]
     exact ⟨rfl,rfl⟩
   | false =>
     rw[hcv,cond_false] at h
     obtain ⟨y,h2,h⟩:=Tr.bind_some h
     rw[if_neg (by simp),Ah hC h2]
     split at h
     · rename_i hy
       rw[hy,← Tr.ab h];exact ⟨rfl,rfl⟩
     · rename_i b hy
       obtain ⟨hc,h⟩:=Tr.aF h
       rw[hy]
       dsimp only
       rw[if_pos hc,← Tr.ab h];exact ⟨rfl,rfl⟩
     · rename_i d i b hy
       obtain ⟨hv,h⟩:=Tr.aD h
       obtain ⟨hc,h⟩:=Tr.aF h
       rw[hy]
       dsimp only
       rw[nT,kK,kK,Bool.and_eq_true,decide_eq_true_eq,decide_eq_true_eq] at hv
       have hv':(Nat.beq b.1 (ao H d i).1 || Nat.beq b.1 (Nat.succ (ao H d i).1))=true:=by
        simp only[Bool.or_eq_true,Nat.beq_eq];omega
       simp only[Bool.and_eq_true] at hc
       rw[if_pos (by simp only[Bool.and_eq_true];exact ⟨⟨⟨hc.1.1,hv'⟩,hc.1.2⟩,hc.2⟩),← Tr.ab h];exact ⟨rfl,rfl⟩
     · exact (Tr.ae h).elim
def ob (P:Program) (nt:Nat) (call:aJ) (callR:bB) (ops:Array Oper) (befs:Array Nat):List Oper→Nat→aC→aa→Nat→List Rec→Tr (aC×aa)
 | [],_,fr,H,_,_=>.ok (fr,H)
 | o::r,j,fr,H,nx,recs=>(pt P call callR ops (befs.getD j 0) fr H nx recs o).bind fun e =>
   ob P nt call callR ops befs r (j+1) (qE nt e.2.2 o.dst (e.1.v,e.2.1)) (yH H e.1.wr) (if gh o then nx+1 else nx) (⟨j,e.1.rd,e.1.wr.map fun x=>(x.1,x.2.1)⟩::recs)
theorem qg {P:Program} {nt:Nat} {call:aJ} {callR:bB} (hC:callR.Ok call) {ops:Array Oper} {befs:Array Nat}:∀ (l:List Oper) (j:Nat) (fr:aC) (H:aa) (nx:Nat) (recs:List Rec) (x:aC×aa),
 (ob P nt call callR ops befs l j fr H nx recs).run=some x→fm P nt call ops befs j l (strip fr) H nx recs=some (strip x.1,x.2)
 | [],j,fr,H,nx,recs,x,h=>by rw[← Tr.ab h];rfl
 | o::r,j,fr,H,nx,recs,x,h=>by
   simp only[ob] at h
   obtain ⟨e,h1,h⟩:=Tr.bind_some h
   obtain ⟨hd,hs⟩:=vG hC h1
   unfold fm
   rw[hd,← hs]
   have:=qg hC r _ _ _ _ _ _ h
   rw[lY,yI] at this
   exact this

def aM:Code→List (Nat×Code)
 | .block id b=>(id,b)::aM b
 | .loop b=>aM b
 | .seq a b=>aM a++aM b
 | .cond _ a b=>aM a++aM b
 | .scope b=>aM b
 | _=>[]
def bR (f:Func):Code:=match f.body with | some c=>c | none=>.skip
abbrev nS:=Ex×aC×aa
def nS.st (x:nS):Ex×aq×aa:=(x.1,strip x.2.1,x.2.2)
abbrev gN:=Nat→aC→aa→Option (Tr nS)
abbrev rr:=Operand→aC→aa→Option (Tr nS)
def gN.Ok (bl:gN) (cx:Cx) (c:Code):Prop:=∀ id b,(id,b) ∈ aM c→∀ fr H t x,bl id fr H=some t→t.run=some x→exec cx (.block id b) (strip fr) H=some x.st
def dO:Code→List (Operand×Array Tmp×Code×Code)
 | .rangeFunc f ps a b=>[(f,ps,a,b)]
 | .loop b=>dO b
 | .block _ b=>dO b
 | .seq a b=>dO a++dO b
 | .cond _ a b=>dO a++dO b
 | .scope b=>dO b
 | _=>[]
def rr.Ok (rg:rr) (cx:Cx) (c:Code):Prop:=∀ f ps a b,(f,ps,a,b) ∈ dO c→∀ fr H t x,rg f fr H=some t→t.run=some x→exec cx (.rangeFunc f ps a b) (strip fr) H=some x.st
def dp (bl:gN) (id0:Nat) (fr0:aq) (H0:aa) (u:Tr nS):gN:=fun id fr H=>cond (Nat.beq id id0) (some (.reqP (strip fr=fr0∧H=H0) u)) (bl id fr H)
theorem aW {bl:gN} {cx:Cx} {c:Code} (h:bl.Ok cx c) {id0:Nat} {fr0:aq} {H0:aa} {u:Tr nS} {B:Code} (hB:∀ b,(id0,b) ∈ aM c→b=B) (k:∀ x,u.run=some x→exec cx (.block id0 B) fr0 H0=some x.st):(dp bl id0 fr0 H0 u).Ok cx c:=by
 intro id b hm fr H t y ht hy
 unfold dp at ht
 cases hb:Nat.beq id id0 with
 | true =>
   have vS:=Nat.eq_of_beq_eq_true hb
   subst vS
   rw[hb,cond_true,Option.some.injEq] at ht
   subst ht
   obtain ⟨⟨h1,h2⟩,h3⟩:=Tr.cY hy
   rw[h1,h2,hB b hm]
   exact k y h3
 | false =>
   rw[hb,cond_false] at ht
   exact h id b hm fr H t y ht hy
def J7 (rg:rr) (tf:Operand→Bool) (fr0:aq) (H0:aa) (u:Tr nS):rr:=fun f fr H=>cond (tf f) (some (.reqP (strip fr=fr0∧H=H0) u)) (rg f fr H)
theorem wG {rg:rr} {cx:Cx} {c:Code} (h:rg.Ok cx c) {tf:Operand→Bool} {fr0:aq} {H0:aa} {u:Tr nS} (k:∀ f ps a b,tf f=true→(f,ps,a,b) ∈ dO c→∀ x,u.run=some x→exec cx (.rangeFunc f ps a b) fr0 H0=some x.st):(J7 rg tf fr0 H0 u).Ok cx c:=by
 intro f ps a b hm fr H t y ht hy
 unfold J7 at ht
 cases hb:tf f with
 | true =>
   rw[hb,cond_true,Option.some.injEq] at ht
   subst ht
   obtain ⟨⟨h1,h2⟩,h3⟩:=Tr.cY hy
   rw[h1,h2]
   exact k f ps a b hb hm y h3
 | false =>
   rw[hb,cond_false] at ht
   exact h f ps a b hm fr H t y ht hy
def aT:gN:=fun _ _ _=>none
def aU:rr:=fun _ _ _=>none
theorem af (cx:Cx) (c:Code):aT.Ok cx c:=fun _ _ _ _ _ _ _ h=>by cases h
theorem ag (cx:Cx) (c:Code):aU.Ok cx c:=fun _ _ _ _ _ _ _ _ _ h=>by cases h
def yj (g:AV→AV):aC→aC
 | []=>[]
 | (x,(v,h))::r=>(x,(mO g v,h))::yj g r
theorem yk (g:AV→AV):∀ fr:aC,strip (yj g fr)=pR g (strip fr)
 | []=>rfl
 | (x,(v,h))::r=>by
   have e:yj g ((x,(v,h))::r)=(x,(mO g v,h))::yj g r:=rfl
   rw[e,cQ,cQ,pR,yk g r]
def kX (n:Nat):Nat→aC→aa→aC×aa
 | 0,fr,H=>(fr,H)
 | k + 1,fr,H=>match H with
   | []=>(fr,[])
   | l::r=>cond (Nat.ble (iu l.bs) (Nat.succ n)) (fr,l::r) (match hole (strip fr) l.bs 4 n with
     | none=>(fr,l::r)
     | some h=>kX n k (yj (tM (l.bs.length-1) h) fr) (ld n (pR (tM (l.bs.length-1) h) (strip fr)) (wW (l.bs.length-1) h l::r)))
theorem s5 (n:Nat):∀ (k:Nat) (fr:aC) (H:aa),(strip (kX n k fr H).1,(kX n k fr H).2)=iW n k (strip fr) H
 | 0,fr,H=>rfl
 | k+1,fr,[]=>rfl
 | k + 1,fr,l::r=>by
   cases hb:Nat.ble (iu l.bs) (Nat.succ n) with
   | true =>
     have:kX n (k+1) fr (l::r)=(fr,l::r):=by
      unfold kX;dsimp only;rw[hb];rfl
     rw[this,s7 (by rw[c5] at hb;simpa using hb)]
   | false =>
     unfold kX iW
     dsimp only
     rw[hb,cond_false]
     cases hole (strip fr) l.bs 4 n with
     | none=>rfl
     | some h =>
       dsimp only
       rw[s5 n k,yk]
def Cm (n:Nat) (fr:aC) (H:aa):aC×aa:=kX n 4 fr (ld n (strip fr) H)
theorem FG (n:Nat) (fr:aC) (H:aa):(strip (Cm n fr H).1,(Cm n fr H).2)=tidy n (strip fr) H:=s5 n 4 fr _
def Bt (body:aC→aa→Tr nS) (n:Nat):Nat→aC→aa→Tr nS
 | 0,_,_=>.bad
 | k+1,fr,H=>(body fr H).bind fun x=>match x with
   | (.normal,fr,H)=>Bt body n k (Cm n fr H).1 (Cm n fr H).2
   | r=>.ok r
theorem uF {body:aq→aa→Option (Ex×aq×aa)} {n:Nat}:∀ (k m:Nat) (fr:aq) (H:aa) (x:Ex×aq×aa),iter body n k fr H=some x→k≤m→iter body n m fr H=some x
 | 0,m,fr,H,x,h,_=>by simp[iter] at h
 | k+1,0,fr,H,x,h,hk=>by omega
 | k + 1,m+1,fr,H,x,h,hk=>by
   unfold iter at h ⊢
   cases hb:body fr H with
   | none=>rw[hb] at h;simp at h
   | some y =>
     rw[hb] at h
     obtain ⟨e,f,g⟩:=y
     cases e
     case normal=>exact uF k m _ _ _ h (by omega)
     all_goals exact h
theorem xU {body:aC→aa→Tr nS} {body':aq→aa→Option (Ex×aq×aa)} {n:Nat} (hb:∀ fr H x,(body fr H).run=some x→body' (strip fr) H=some x.st):∀ (k:Nat) (fr:aC) (H:aa) (x:nS),(Bt body n k fr H).run=some x→iter body' n k (strip fr) H=some x.st
 | 0,fr,H,x,h=>(Tr.ae h).elim
 | k+1,fr,H,x,h=>by
   simp only[Bt] at h
   obtain ⟨y,h1,h⟩:=Tr.bind_some h
   unfold iter
   rw[hb _ _ _ h1]
   obtain ⟨e,f,g⟩:=y
   cases e
   case normal =>
    have e:=FG n f g
    have h:=xU hb k _ _ _ h
    show iter body' n k (tidy n (strip f) g).1 (tidy n (strip f) g).2=_
    rw[← e];exact h
   all_goals
    have h:=Tr.ab h
    rw[← h];rfl
def nu (f:AV→Tr AV):List AV→Tr (List AV)
 | []=>.ok []
 | v::l=>(f v).bind fun u=>(nu f l).bind fun m=>.ok (u::m)
theorem eP {f:AV→Tr AV} {g:AV→AV} (hf:∀ v u,(f v).run=some u→g v=u):∀ (l m:List AV),(nu f l).run=some m→l.map g=m
 | [],m,h=>Tr.ab h
 | v::l,m,h=>by
   simp only[nu] at h
   obtain ⟨u,h1,h⟩:=Tr.bind_some h
   obtain ⟨n,h2,h⟩:=Tr.bind_some h
   rw[← Tr.ab h,List.map_cons,hf _ _ h1,eP hf l n h2]
def lS (f:AV→Tr AV):List ah→Tr (List ah)
 | []=>.ok []
 | .one v::l=>(f v).bind fun u=>(lS f l).bind fun m=>.ok (.one u::m)
 | .arr k z n::l=>(lS f l).bind fun m=>.ok (.arr k z n::m)
theorem gU {f:AV→Tr AV} {g:AV→AV} (hf:∀ v u,(f v).run=some u→g v=u):∀ (l m:List ah),(lS f l).run=some m→mapM' g l=m
 | [],m,h=>Tr.ab h
 | .one v::l,m,h=>by
   simp only[lS] at h
   obtain ⟨u,h1,h⟩:=Tr.bind_some h
   obtain ⟨n,h2,h⟩:=Tr.bind_some h
   rw[← Tr.ab h,mapM',hf _ _ h1,gU hf l n h2]
 | .arr k z n::l,m,h=>by
   simp only[lS] at h
   obtain ⟨n,h2,h⟩:=Tr.bind_some h
   rw[← Tr.ab h,mapM',gU hf l n h2]
def qf (cap:Option Nat) (len:Nat):Bool :=
 match cap with
 | none=>false
 | some c=>cT c len
theorem jK (cap:Option Nat) (len:Nat):qf cap len=(cap == some len):=by
 cases cap with
 | none=>rfl
 | some c=>simp only[qf,gr];rw[Bool.eq_iff_iff];simp
def xN (i ver:Nat) (r:Row):AV→Tr AV
 | .ptr d j v off=>cond (Nat.beq d 0 && Nat.beq j i) (.req (cT v ver) (.ok (.ptrT none r off))) (.ok (.ptr d j v off))
 | .slc d j v off sz len cap=>cond (Nat.beq d 0 && Nat.beq j i) (.req (cT v ver) (match r with
    | .M [.arr k z N]=>.req (kH off (iQ len sz) 0 N) (.ok (.slcT none (.M [.arr k (ep z off) (iQ len sz)]) sz len (qf cap len)))
    | .I k l=>cond (tB (.I k l) off (Nat.mul len sz)) (.ok (.slcT none (.I k (ig (lg l off) (Nat.mul len sz))) sz len (qf cap len))) .bad
    | _=>.bad)) (.ok (.slc d j v off sz len cap))
 | v=>.ok v
theorem ua {d j i:Nat} {x:Bool} (h:(Nat.beq d 0 && Nat.beq j i)=true):(Nat.beq d 0 && (Nat.beq j i && x))=x:=by
 rw[Bool.and_eq_true] at h
 rw[h.1,h.2];rfl
theorem ub {d j i:Nat} {x:Bool} (h:(Nat.beq d 0 && Nat.beq j i)=false):(Nat.beq d 0 && (Nat.beq j i && x))=false:=by
 rw[← Bool.and_assoc,h];rfl
theorem xO {i ver:Nat} {r:Row}:∀ v u,(xN i ver r v).run=some u→mM i ver r v=u:=by
 intro v u h
 cases v with
 | ptr d j v off =>
   simp only[xN] at h
   simp only[mM]
   cases hc:(Nat.beq d 0 && Nat.beq j i) with
   | false=>rw[hc,cond_false] at h;rw[ub hc,if_neg (by simp)];exact Tr.ab h
   | true =>
     rw[hc,cond_true] at h
     obtain ⟨h1,h⟩:=Tr.aD h
     rw[gr,decide_eq_true_eq] at h1
     rw[ua hc,if_pos (by simpa using h1)];exact Tr.ab h
 | slc d j v off sz len cap =>
   simp only[xN] at h
   simp only[mM]
   cases hc:(Nat.beq d 0 && Nat.beq j i) with
   | false=>rw[hc,cond_false] at h;rw[ub hc,if_neg (by simp)];exact Tr.ab h
   | true =>
     rw[hc,cond_true] at h
     obtain ⟨h1,h2⟩:=Tr.aD h
     clear h
     rw[gr,decide_eq_true_eq] at h1
     rw[ua hc]
     split at h2
     · obtain ⟨h3,h⟩:=Tr.aD h2
       rw[gx,decide_eq_true_eq,b5] at h3
       rw[if_pos (by simp[h1,Row.len,au,aE];omega),← Tr.ab h,jK,b5,l9]
       rfl
     · obtain ⟨h3,h⟩:=Tr.aF h2
       rw[kA,decide_eq_true_eq] at h3
       rw[if_pos (by simp only[h1,Bool.and_eq_true];exact ⟨by simp,Nat.ble_eq_true_of_le h3⟩),← Tr.ab h,jK,gl,gR]
       rfl
     · exact (Tr.ae h2).elim
 | _=>exact Tr.ab h
def yl (f:AV→Tr AV) (v:AV):Tr AV :=
 match v with
 | .agg (.G l)=>(nu f l).bind fun m=>.ok (.agg (.G m))
 | .agg (.M l)=>(lS f l).bind fun m=>.ok (.agg (.M m))
 | .fn g a b=>(nu f a).bind fun a'=>(nu f b).bind fun b'=>.ok (.fn g a' b')
 | v=>f v
theorem sl {f:AV→Tr AV} {g:AV→AV} (hf:∀ v u,(f v).run=some u→g v=u):∀ v u,(yl f v).run=some u→mO g v=u:=by
 intro v u h
 unfold yl at h
 split at h
 · obtain ⟨m,h1,h⟩:=Tr.bind_some h
   rw[← Tr.ab h,← eP hf _ _ h1];rfl
 · obtain ⟨m,h1,h⟩:=Tr.bind_some h
   rw[← Tr.ab h,← gU hf _ _ h1];rfl
 · obtain ⟨a',h1,h⟩:=Tr.bind_some h
   obtain ⟨b',h2,h⟩:=Tr.bind_some h
   rw[← Tr.ab h,← eP hf _ _ h1,← eP hf _ _ h2];rfl
 · rename_i n1 n2 n3
   have:=hf _ _ h
   rw[← this]
   unfold mO
   split
   · exact absurd rfl (n1 _)
   · exact absurd rfl (n2 _)
   · exact absurd rfl (n3 _ _ _)
   · rfl
def EK (f:AV→Tr AV):ak→Tr ak
 | .row r=>match r with
   | .G l=>(nu (yl f) l).bind fun m=>.ok (.row (.G m))
   | .M l=>(lS (yl f) l).bind fun m=>.ok (.row (.M m))
   | r=>.ok (.row r)
 | b=>.ok b
theorem EL {f:AV→Tr AV} {g:AV→AV} (hf:∀ v u,(f v).run=some u→g v=u) (b u:ak) (h:(EK f b).run=some u):pQ g b=u:=by
 cases b with
 | row r =>
   simp only[EK] at h
   cases r with
   | G l =>
     obtain ⟨m,h1,h⟩:=Tr.bind_some h
     rw[← Tr.ab h,← eP (sl hf) _ _ h1];rfl
   | M l =>
     obtain ⟨m,h1,h⟩:=Tr.bind_some h
     rw[← Tr.ab h,← gU (sl hf) _ _ h1];rfl
   | I k l=>rw[← Tr.ab h];rfl
   | F z n=>rw[← Tr.ab h];rfl
 | dead=>exact Tr.ab h
 | map es=>exact Tr.ab h
 | fmap kq f g c=>exact Tr.ab h
 | loop l=>exact Tr.ab h
def v9 (f:AV→Tr AV):List (Nat×ak)→Tr (List (Nat×ak))
 | []=>.ok []
 | (v,b)::r=>(EK f b).bind fun b'=>(v9 f r).bind fun r'=>.ok ((v,b')::r')
theorem uM {f:AV→Tr AV} {g:AV→AV} (hf:∀ v u,(f v).run=some u→g v=u):∀ (l m:List (Nat×ak)),(v9 f l).run=some m→jm g l=m
 | [],m,h=>Tr.ab h
 | (v,b)::r,m,h=>by
   simp only[v9] at h
   obtain ⟨b',h1,h⟩:=Tr.bind_some h
   obtain ⟨r',h2,h⟩:=Tr.bind_some h
   rw[← Tr.ab h,jm,EL hf _ _ h1,uM hf r r' h2]
def BF (f:AV→Tr AV):aC→Tr aC
 | []=>.ok []
 | (x,(v,h))::r=>(yl f v).bind fun v'=>(BF f r).bind fun r'=>.ok ((x,(v',h))::r')
theorem yi {f:AV→Tr AV} {g:AV→AV} (hf:∀ v u,(f v).run=some u→g v=u):∀ (l m:aC),(BF f l).run=some m→pR g (strip l)=strip m
 | [],m,h=>by rw[← Tr.ab h];rfl
 | (x,(v,hh))::r,m,h=>by
   simp only[BF] at h
   obtain ⟨v',h1,h⟩:=Tr.bind_some h
   obtain ⟨r',h2,h⟩:=Tr.bind_some h
   rw[← Tr.ab h,cQ,cQ,pR,sl hf _ _ h1,yi hf r r' h2]
def sc (i:Nat) (fr:aC) (l:aV):Tr (aC×aV) :=
 match Ae l.bs i with
 | (ver,.row r)=>cond (vV r && (tr (fun x=>pj (o5 i) x.2) (strip fr) || tr (fun x=>JG (o5 i) x.2) l.bs)) ((BF (xN i ver r) fr).bind fun fr'=>(v9 (xN i ver r) l.bs).bind fun bs'=>.ok (fr',{ l with bs:=bN bs' i (ver,.dead) })) (.ok (fr,l))
 | _=>.ok (fr,l)
theorem pI {i:Nat} {fr:aC} {l:aV} {y:aC×aV} (h:(sc i fr l).run=some y):lK i (strip fr) l=(strip y.1,y.2):=by
 unfold sc at h
 unfold lK
 rw[rh] at h
 split at h
 · rename_i ver r hb
   rw[hb]
   dsimp only
   rw[nU,nU] at h
   cases hc:(vV r && ((strip fr).any (fun x=>pj (o5 i) x.2) || l.bs.any (fun x=>JG (o5 i) x.2))) with
   | true =>
     rw[hc,cond_true] at h
     obtain ⟨fr',h1,h⟩:=Tr.bind_some h
     obtain ⟨bs',h2,h⟩:=Tr.bind_some h
     rw[if_pos rfl,yi xO _ _ h1,uM xO _ _ h2,← Tr.ab h]
   | false =>
     rw[hc,cond_false] at h
     rw[if_neg (by simp),← Tr.ab h]
 · rename_i hno
   have h:=Tr.ab h
   subst h
   split
   · rename_i ver r hb
     exact absurd hb (hno ver r)
   · rfl
def q8:Nat→aC→aV→Tr (aC×aV)
 | 0,fr,l=>.ok (fr,l)
 | n+1,fr,l=>(q8 n fr l).bind fun y=>sc n y.1 y.2
theorem sa:∀ (n:Nat) (fr:aC) (l:aV) (y:aC×aV),(q8 n fr l).run=some y→iN n (strip fr) l=(strip y.1,y.2)
 | 0,fr,l,y,h=>by rw[← Tr.ab h];rfl
 | n+1,fr,l,y,h=>by
   simp only[q8] at h
   obtain ⟨z,h1,h⟩:=Tr.bind_some h
   have h1:=sa n fr l z h1
   simp only[iN]
   rw[h1]
   exact pI h
def oA:Nat→aC→aV→Tr (aC×aV)
 | 0,fr,l=>.ok (fr,l)
 | n+1,fr,l=>(oA n fr l).bind fun y=>cond (tr (fun x=>pj (o5 n) x.2) (strip y.1)) (.ok y) (sc n y.1 y.2)
theorem qv:∀ (n:Nat) (fr:aC) (l:aV) (y:aC×aV),(oA n fr l).run=some y→ec n (strip fr) l=(strip y.1,y.2)
 | 0,fr,l,y,h=>by rw[← Tr.ab h];rfl
 | n + 1,fr,l,y,h=>by
   simp only[oA] at h
   obtain ⟨z,h1,h⟩:=Tr.bind_some h
   have h1:=qv n fr l z h1
   simp only[ec]
   rw[h1]
   dsimp only
   rw[nU] at h
   cases hc:(strip z.1).any (fun x=>pj (o5 n) x.2) with
   | true =>
     rw[hc,cond_true] at h
     rw[if_pos rfl,Tr.ab h]
   | false =>
     rw[hc,cond_false] at h
     rw[if_neg (by simp)]
     exact pI h
def Bx (s:Nat):aC→Option Nat
 | []=>none
 | (x,(v,_))::r=>cond (Nat.beq x s) (match v with
   | .slc 0 i _ _ _ _ _=>some i
   | _=>none) (Bx s r)
theorem x9 (s:Nat):∀ fr:aC,Bx s fr=Bw s (strip fr)
 | []=>rfl
 | (x,(v,h))::r=>by
   rw[cQ]
   simp only[Bx,Bw,x9 s r]
   cases Nat.beq x s<;>rfl
def vU (s:Nat) (fr:aC) (H:aa):Tr (aC×aa) :=
 match H with
 | []=>.ok (fr,[])
 | l::r=>cond l.lock (.ok (fr,l::r)) (match Bx s fr with
   | some i=>(sc i fr l).bind fun y=>.ok (y.1,y.2::r)
   | none=>.ok (fr,l::r))
theorem z5 {s:Nat} {fr:aC} {H:aa} {y:aC×aa} (h:(vU s fr H).run=some y):vT s (strip fr) H=(strip y.1,y.2):=by
 unfold vU at h
 unfold vT
 cases H with
 | nil=>rw[← Tr.ab h]
 | cons l r =>
   dsimp only at h ⊢
   cases hl:l.lock with
   | true =>
     rw[hl,cond_true] at h
     rw[if_pos rfl,← Tr.ab h]
   | false =>
     rw[hl,cond_false,x9] at h
     rw[if_neg (by simp)]
     split at h
     · rename_i i hi
       obtain ⟨z,h1,h⟩:=Tr.bind_some h
       have h1:=pI h1
       rw[hi]
       dsimp only
       rw[h1,← Tr.ab h]
     · rename_i hi
       rw[hi,← Tr.ab h]
def z4 (m:Nat) (fr:aC) (H:aa):Tr (aC×aa) :=
 cond (nw m 4000) (match H with
  | []=>.ok (gv fr m,[])
  | l::r=>cond l.lock (.ok (gv fr m,l::r)) ((q8 (iu l.bs) (gv fr m) l).bind fun y=>.ok (y.1,cond (Nat.beq (Nat.shiftRight m 4003) 0) (y.2::r) (ET (Nat.shiftRight m 4003) (y.2::r))))) (cond (nw m 4001) (vU (Nat.shiftRight m 4003) (gv fr m) H) (cond (nw m 4002) (vl (gv fr m) (Nat.shiftRight m 4003) (fun fr=>.ok (fr,H)) (fun fr=>match H with
  | []=>.ok (fr,[])
  | l::r=>cond l.lock (.ok (fr,l::r)) ((oA (iu l.bs) fr l).bind fun y=>.ok (y.1,y.2::r)))) (.ok (gv fr m,H))))
theorem CW {m:Nat} {fr:aC} {H:aa} {y:aC×aa} (h:(z4 m fr H).run=some y):lL m (strip fr) H=(strip y.1,y.2):=by
 unfold z4 at h
 unfold lL
 cases hm:nw m 4000 with
 | false =>
   rw[hm,cond_false] at h
   rw[if_neg (by simp)]
   cases hm2:nw m 4001 with
   | false =>
     rw[hm2,cond_false] at h
     rw[if_neg (by simp)]
     cases hm3:nw m 4002 with
     | false =>
       rw[hm3,cond_false] at h
       rw[if_neg (by simp),← Tr.ab h,eM]
     | true =>
       rw[hm3,cond_true] at h
       rw[if_pos rfl]
       obtain ⟨b,fr',h1,h2,h3⟩:=kW h
       rw[eM] at h1 h2
       rw[h1]
       cases b with
       | true =>
         simp only[if_true] at h3
         rw[← Tr.ab h3,h2]
       | false =>
         simp only[Bool.false_eq_true,if_false] at h3
         cases H with
         | nil =>
           dsimp only at h3
           rw[← Tr.ab h3,← h2];rfl
         | cons l r =>
           dsimp only at h3
           show tD (bG (strip fr) m) (l::r)=_
           rw[← h2]
           unfold tD
           dsimp only
           cases hl:l.lock with
           | true =>
             rw[hl,cond_true] at h3
             rw[if_pos rfl,← Tr.ab h3]
           | false =>
             rw[hl,cond_false] at h3
             obtain ⟨z,h4,h5⟩:=Tr.bind_some h3
             have h4:=qv _ _ _ _ h4
             rw[c5] at h4
             rw[if_neg (by simp),h4,← Tr.ab h5]
   | true =>
     rw[hm2,cond_true] at h
     rw[if_pos rfl]
     have h1:=z5 h
     rw[eM] at h1
     exact h1
 | true =>
   rw[hm,cond_true] at h
   rw[if_pos rfl]
   cases H with
   | nil =>
     rw[← Tr.ab h,eM]
     simp only[CV,ET,ite_self]
   | cons l r =>
     dsimp only at h
     unfold CV
     dsimp only
     cases hl:l.lock with
     | true =>
       rw[hl,cond_true] at h
       simp only[if_true]
       rw[← Tr.ab h,eM]
       simp only[ET,hl,if_true,ite_self]
     | false =>
       rw[hl,cond_false] at h
       obtain ⟨z,h1,h⟩:=Tr.bind_some h
       have h1:=sa _ _ _ _ h1
       rw[c5,eM] at h1
       simp only[Bool.false_eq_true,if_false,h1]
       rw[← Tr.ab h]
       cases Nat.beq (Nat.shiftRight m 4003) 0<;>rfl
def aN (cx:Cx) (callR:bB) (bl:gN) (rg:rr):Code→aC→aa→Tr nS
 | .skip,fr,H=>.ok (.normal,fr,H)
 | .label _,fr,H=>.ok (.normal,fr,H)
 | .exit id,fr,H=>.ok (.exit id,fr,H)
 | .goto l,fr,H=>.ok (.goto l,fr,H)
 | .ret,fr,H=>.ok (.ret,fr,H)
 | .region id ops draw,fr,H =>
   (cond draw (cond (eS ops (Region.before ops)) (ob cx.P cx.nt cx.call callR ops (Region.before ops) ops.toList 0 fr (kF H (b8 ops.toList)) (fx H) []) .bad) (iy cx.P cx.nt cx.call callR ops ops.toList fr H)).bind fun x=>(z4 (cx.kt id) x.1 x.2).bind fun y=>.ok (.normal,y.1,y.2)
 | .seq a b,fr,H=>(aN cx callR bl rg a fr H).bind fun x=>match x with
   | (.normal,fr,H)=>aN cx callR bl rg b fr H
   | r=>.ok r
 | .cond c a b,fr,H=>match c with
   | .tmp d=>vl fr d (fun fr=>aN cx callR bl rg a fr H) (fun fr=>aN cx callR bl rg b fr H)
   | c=>match (bQ fr c).1 with
     | .bool t=>cond t (aN cx callR bl rg a fr H) (aN cx callR bl rg b fr H)
     | _=>.bad
 | .block id b,fr,H=>match bl id fr H with
   | some t=>t
   | none=>(aN cx callR bl rg b fr H).bind fun x=>match x with
     | (.exit id',fr,H)=>cond (Nat.beq id' id) (.ok (.normal,fr,H)) (.ok (.exit id',fr,H))
     | r=>.ok r
 | .scope b,fr,H=>(aN cx callR bl rg b fr H).bind fun x=>match x with
   | (.goto _,_,_)=>.bad
   | r=>.ok r
 | .rangeFunc f _ _ _,fr,H=>match rg f fr H with
   | some t=>t
   | none=>.bad
 | .loop b,fr,H=>cond (Nat.ble 12 cx.fu) (Bt (aN cx callR bl rg b) (fx H) 12 fr H) .bad
 | .refuse _,_,_=>.bad

theorem oh {cx:Cx} {callR:bB} {bl:gN} {rg:rr} (hC:callR.Ok cx.call):∀ (c:Code),bl.Ok cx c→rg.Ok cx c→∀ (fr:aC) (H:aa) (x:nS),(aN cx callR bl rg c fr H).run=some x→exec cx c (strip fr) H=some x.st:=by
 intro c
 induction c with
 | skip=>intro _ _ fr H x h;rw[← Tr.ab h];rfl
 | label=>intro _ _ fr H x h;rw[← Tr.ab h];rfl
 | exit=>intro _ _ fr H x h;rw[← Tr.ab h];rfl
 | goto=>intro _ _ fr H x h;rw[← Tr.ab h];rfl
 | ret=>intro _ _ fr H x h;rw[← Tr.ab h];rfl
 | refuse=>intro _ _ fr H x h;exact (Tr.ae h).elim
 | loop b ih =>
   intro hb hr fr H x h
   simp only[aN] at h
   obtain ⟨hk,h⟩:=Tr.aF h
   rw[Nat.ble_eq] at hk
   unfold exec
   rw[gw] at h
   exact uF _ _ _ _ _ (xU (fun fr H x h=>ih hb hr fr H x h) 12 fr H x h) hk
 | rangeFunc f ps a b =>
   intro _ hr fr H x h
   simp only[aN] at h
   split at h
   · rename_i t ht
     exact hr f ps a b (by simp[dO]) fr H t x ht h
   · exact (Tr.ae h).elim
 | region id ops draw =>
   intro _ _ fr H x h
   simp only[aN] at h
   obtain ⟨y,h1,h⟩:=Tr.bind_some h
   obtain ⟨z,h2,h⟩:=Tr.bind_some h
   have h2:=CW h2
   rw[← Tr.ab h]
   unfold exec
   cases draw with
   | true =>
     rw[cond_true] at h1
     obtain ⟨hs,h1⟩:=Tr.aF h1
     rw[gw] at h1
     simp only[if_true,hs]
     rw[qg hC _ _ _ _ _ _ _ h1]
     dsimp only
     rw[h2]
     rfl
   | false =>
     rw[cond_false] at h1
     simp only[Bool.false_eq_true,if_false]
     rw[fA hC _ _ _ _ h1]
     dsimp only
     rw[h2]
     rfl
 | seq a b iha ihb =>
   intro hb hr fr H x h
   have hba:bl.Ok cx a:=fun id b' hm=>hb id b' (List.mem_append_left _ hm)
   have hbb:bl.Ok cx b:=fun id b' hm=>hb id b' (List.mem_append_right _ hm)
   have hra:rg.Ok cx a:=fun f ps u v hm=>hr f ps u v (List.mem_append_left _ hm)
   have hrb:rg.Ok cx b:=fun f ps u v hm=>hr f ps u v (List.mem_append_right _ hm)
   simp only[aN] at h
   obtain ⟨y,h1,h⟩:=Tr.bind_some h
   have h1:=iha hba hra _ _ _ h1
   unfold exec
   rw[h1]
   obtain ⟨e,fr1,H1⟩:=y
   cases e
   case normal=>exact ihb hbb hrb _ _ _ h
   all_goals
    have h:=Tr.ab h
    rw[← h];rfl
 | cond c a b iha ihb =>
   intro hb hr fr H x h
   have hba:bl.Ok cx a:=fun id b' hm=>hb id b' (List.mem_append_left _ hm)
   have hbb:bl.Ok cx b:=fun id b' hm=>hb id b' (List.mem_append_right _ hm)
   have hra:rg.Ok cx a:=fun f ps u v hm=>hr f ps u v (List.mem_append_left _ hm)
   have hrb:rg.Ok cx b:=fun f ps u v hm=>hr f ps u v (List.mem_append_right _ hm)
   simp only[aN] at h
   unfold exec
   split at h
   · rename_i d
     obtain ⟨b',fr',h1,h2,h3⟩:=kW h
     have e:bE (strip fr) (.tmp d)=.bool b':=h1
     rw[e,← h2]
     cases b' with
     | true=>exact iha hba hra _ _ _ h3
     | false=>exact ihb hbb hrb _ _ _ h3
   · rename_i c' hne
     rw[aH] at h
     split at h
     · rename_i t hc
       rw[hc]
       cases t with
       | true=>exact iha hba hra _ _ _ h
       | false=>exact ihb hbb hrb _ _ _ h
     · exact (Tr.ae h).elim
 | block id b ih =>
   intro hb hr fr H x h
   have hbb:bl.Ok cx b:=fun id' b' hm=>hb id' b' (by simp only[aM];exact List.mem_cons_of_mem _ hm)
   simp only[aN] at h
   split at h
   · rename_i t ht
     exact hb id b (by simp[aM]) _ _ _ _ ht h
   · obtain ⟨y,h1,h⟩:=Tr.bind_some h
     have h1:=ih hbb hr _ _ _ h1
     unfold exec
     rw[h1]
     obtain ⟨e,fr1,H1⟩:=y
     cases e
     case exit id' =>
      dsimp only[nS.st] at h ⊢
      rw[fW] at h
      split at h
      · rename_i vS
        rw[if_pos vS,← Tr.ab h]
      · rename_i vS
        rw[if_neg vS,← Tr.ab h]
     all_goals
      have h:=Tr.ab h
      rw[← h];rfl
 | scope b ih =>
   intro hb hr fr H x h
   simp only[aN] at h
   obtain ⟨y,h1,h⟩:=Tr.bind_some h
   have h1:=ih hb hr _ _ _ h1
   unfold exec
   rw[h1]
   obtain ⟨e,fr1,H1⟩:=y
   cases e
   case goto=>exact (Tr.ae h).elim
   all_goals
    have h:=Tr.ab h
    rw[← h];rfl

end
end Go.Eng
end
section
namespace Go.Eng
noncomputable section

def mL   (bs:List (Nat×ak)):Nat→AV→Tr AV
 | 0,_=>.ok .undef
 | n + 1,v=>match v with
   | .ptr d i ver off=>match d with
     | d+1=>.ok (.ptr d i ver off)
     | 0 => match Ae bs i with
       | (w,.row r)=>cond (Nat.beq w ver) (match r with
         | .I k l=>.ok (.ptrT none (.I k l) off)
         | .F f m=>.ok (.ptrT none (.F f m) off)
         | .M l=>cond (fV l) (.ok (.ptrT none (.M l) off)) ((lS (mL bs n) l).bind fun m=>.ok (.ptrT (some 0) (.M m) off))
         | .G l=>(nu (mL bs n) l).bind fun m=>.ok (.ptrT (some 0) (.G m) off)) .bad
       | _=>.bad
   | .slc d i ver off sz len cap=>match d with
     | d+1=>.ok (.slc d i ver off sz len cap)
     | 0 => match Ae bs i with
       | (w,.row r)=>.req (cT w ver) (match r with
         | .M [.arr k z N]=>.req (kH off (iQ len sz) 0 N) (.ok (.slcT none (.M [.arr k (ep z off) (iQ len sz)]) sz len (qf cap len)))
         | .I k l=>cond (tB (.I k l) off (Nat.mul len sz)) (.ok (.slcT none (.I k (ig (lg l off) (Nat.mul len sz))) sz len (qf cap len))) .bad
         | .F f N=>.req (kH off (iQ len sz) 0 N) (.ok (.slcT none (.F (fun j=>f (cM off j)) (iQ len sz)) sz len (qf cap len)))
         | .G l=>cond (tB (.G l) off (Nat.mul len sz)) ((nu (mL bs n) (ig (lg l off) (Nat.mul len sz))).bind fun m=>.ok (.slcT (some 0) (.G m) sz len (qf cap len))) .bad
         | _=>.bad)
       | _=>.bad
   | .ptrT s r off=>match s with
     | none=>.ok (.ptrT none r off)
     | some (s+1)=>.ok (.ptrT (some s) r off)
     | some 0=>match r with
       | .G l=>(nu (mL bs n) l).bind fun m=>.ok (.ptrT (some 0) (.G m) off)
       | .M l=>cond (fV l) (.ok (.ptrT none (.M l) off)) ((lS (mL bs n) l).bind fun m=>.ok (.ptrT (some 0) (.M m) off))
       | r=>.ok (.ptrT none r off)
   | .slcT s r sz len full=>match s with
     | none=>.ok (.slcT none r sz len full)
     | some (s+1)=>.ok (.slcT (some s) r sz len full)
     | some 0=>match r with
       | .G l=>(nu (mL bs n) l).bind fun m=>.ok (.slcT (some 0) (.G m) sz len full)
       | .M l=>cond (fV l) (.ok (.slcT none (.M l) sz len full)) ((lS (mL bs n) l).bind fun m=>.ok (.slcT (some 0) (.M m) sz len full))
       | r=>.ok (.slcT none r sz len full)
   | .map d i=>match d with
     | d+1=>.ok (.map d i)
     | 0=>.ok .undef
   | .yld d i=>match d with
     | d+1=>.ok (.yld d i)
     | 0=>.ok .undef
   | .fn f a b=>(nu (mL bs n) a).bind fun a'=>(nu (mL bs n) b).bind fun b'=>.ok (.fn f a' b')
   | .agg r=>match r with
     | .G l=>(nu (mL bs n) l).bind fun m=>.ok (.agg (.G m))
     | .M l=>(lS (mL bs n) l).bind fun m=>.ok (.agg (.M m))
     | r=>.ok (.agg r)
   | .tup l=>(nu (mL bs n) l).bind fun m=>.ok (.tup m)
   | v=>.ok v
theorem Be (bs:List (Nat×ak)):∀ (n:Nat) (v u:AV),(mL bs n v).run=some u→dw bs n v=u
 | 0,v,u,h=>Tr.ab h
 | n + 1,v,  u,h=>by
   have ih:=Be bs n
   simp only[mL,rh] at h
   cases v with
   | ptr d i ver off =>
     cases d with
     | succ d=>exact Tr.ab h
     | zero =>
       dsimp only at h
       simp only[dw]
       split at h
       · rename_i w r hg
         obtain ⟨hw,h⟩:=Tr.aF h
         rw[hg]
         dsimp only
         rw[if_pos hw]
         cases r with
         | I k l=>exact Tr.ab h
         | F f m=>exact Tr.ab h
         | G l =>
           obtain ⟨m,h1,h⟩:=Tr.bind_some h
           rw[← Tr.ab h,← eP ih _ _ h1]
         | M l =>
           dsimp only at h ⊢
           cases ha:fV l with
           | true=>rw[ha,cond_true] at h;rw[if_pos rfl];exact Tr.ab h
           | false =>
             rw[ha,cond_false] at h
             obtain ⟨m,h1,h⟩:=Tr.bind_some h
             rw[if_neg (by simp),← Tr.ab h,← gU ih _ _ h1]
       · exact (Tr.ae h).elim
   | slc d i ver off sz len cap =>
     cases d with
     | succ d=>exact Tr.ab h
     | zero =>
       dsimp only at h
       simp only[dw]
       split at h
       · rename_i w r hg
         obtain ⟨hw,h'⟩:=Tr.aD h
         clear h
         rw[gr,decide_eq_true_eq] at hw
         subst hw
         rw[hg]
         dsimp only
         split at h'
         · rename_i k z N
           have h:=h'
           obtain ⟨hc,h⟩:=Tr.aD h
           rw[gx,decide_eq_true_eq,b5] at hc
           rw[if_pos ⟨by simp,by simp only[Row.len,au,aE];omega⟩,← Tr.ab h,jK,b5,l9]
           simp only[Row.sub,fV,if_true]
         · have h:=h'
           obtain ⟨hc,h⟩:=Tr.aF h
           rw[kA,decide_eq_true_eq] at hc
           rw[if_pos ⟨by simp,hc⟩,← Tr.ab h,jK,gl,gR]
           rfl
         · have h:=h'
           obtain ⟨hc,h⟩:=Tr.aD h
           rw[gx,decide_eq_true_eq,b5] at hc
           rw[if_pos ⟨by simp,by simp only[Row.len];omega⟩,← Tr.ab h,jK,b5]
           simp only[Row.sub,bK]
         · have h:=h'
           obtain ⟨hc,h⟩:=Tr.aF h
           rw[kA,decide_eq_true_eq] at hc
           obtain ⟨m,h1,h⟩:=Tr.bind_some h
           rw[gl,gR] at h1
           rw[if_pos ⟨by simp,hc⟩,← Tr.ab h,jK,← eP ih _ _ h1]
           rfl
         · exact (Tr.ae h').elim
       · exact (Tr.ae h).elim
   | ptrT s r off =>
     cases s with
     | none=>exact Tr.ab h
     | some s =>
       cases s with
       | succ s=>exact Tr.ab h
       | zero =>
         simp only[dw]
         cases r with
         | I k l=>exact Tr.ab h
         | F f m=>exact Tr.ab h
         | G l =>
           obtain ⟨m,h1,h⟩:=Tr.bind_some h
           rw[← Tr.ab h,← eP ih _ _ h1]
         | M l =>
           dsimp only at h ⊢
           cases ha:fV l with
           | true=>rw[ha,cond_true] at h;rw[if_pos rfl];exact Tr.ab h
           | false =>
             rw[ha,cond_false] at h
             obtain ⟨m,h1,h⟩:=Tr.bind_some h
             rw[if_neg (by simp),← Tr.ab h,← gU ih _ _ h1]
   | slcT s r sz len full =>
     cases s with
     | none=>exact Tr.ab h
     | some s =>
       cases s with
       | succ s=>exact Tr.ab h
       | zero =>
         simp only[dw]
         cases r with
         | I k l=>exact Tr.ab h
         | F f m=>exact Tr.ab h
         | G l =>
           obtain ⟨m,h1,h⟩:=Tr.bind_some h
           rw[← Tr.ab h,← eP ih _ _ h1]
         | M l =>
           dsimp only at h ⊢
           cases ha:fV l with
           | true=>rw[ha,cond_true] at h;rw[if_pos rfl];exact Tr.ab h
           | false =>
             rw[ha,cond_false] at h
             obtain ⟨m,h1,h⟩:=Tr.bind_some h
             rw[if_neg (by simp),← Tr.ab h,← gU ih _ _ h1]
   | map d i=>cases d<;>exact Tr.ab h
   | yld d i=>cases d<;>exact Tr.ab h
   | fn f a b =>
     obtain ⟨a',h1,h⟩:=Tr.bind_some h
     obtain ⟨b',h2,h⟩:=Tr.bind_some h
     simp only[dw]
     rw[← Tr.ab h,← eP ih _ _ h1,← eP ih _ _ h2]
   | agg r =>
     simp only[dw]
     cases r with
     | I k l=>exact Tr.ab h
     | F f m=>exact Tr.ab h
     | G l =>
       obtain ⟨m,h1,h⟩:=Tr.bind_some h
       rw[← Tr.ab h,← eP ih _ _ h1]
     | M l =>
       obtain ⟨m,h1,h⟩:=Tr.bind_some h
       rw[← Tr.ab h,← gU ih _ _ h1]
   | tup l =>
     obtain ⟨m,h1,h⟩:=Tr.bind_some h
     simp only[dw]
     rw[← Tr.ab h,← eP ih _ _ h1]
   | _=>exact Tr.ab h

def F1 (l:List HV):Nat→aC:=List.rec (motive:=fun _=>Nat→aC) (fun _=>[]) (fun v _ ih x=>(x,(fq 1 v.1,v.2))::ih (Nat.succ x)) l
theorem AR:∀ (l:List HV) (x:Nat),strip (F1 l x)=fU x (qP l)
 | [],x=>rfl
 | v::l,x=>by
   have e:F1 (v::l) x=(x,(fq 1 v.1,v.2))::F1 l (x+1):=rfl
   rw[e,cQ,AR l];rfl
def hints (f:aq):aC:=List.rec (motive:=fun _=>aC) [] (fun p _ ih=>(p.1,(p.2,none))::ih) f
theorem gT:∀ f:aq,strip (hints f)=f
 | []=>rfl
 | (x,v)::r=>by
   have e:hints ((x,v)::r)=(x,(v,none))::hints r:=rfl
   rw[e,cQ,gT r]
def Ap (P:Program) (fr:aC) (H:aa):List ResultVar→Tr (List AV)
 | []=>.ok []
 | .tmp t::r=>(Ap P fr H r).bind fun l=>.ok ((lh fr t).1::l)
 | .cell a t::r=>(loadT P H t (bQ fr (.tmp a))).bind fun v=>(Ap P fr H r).bind fun l=>.ok (v::l)
theorem wD {P:Program} {fr:aC} {H:aa}:∀ (l:List ResultVar) (vs:List AV),(Ap P fr H l).run=some vs→gE P (strip fr) H l=some vs
 | [],vs,h=>by rw[← Tr.ab h];rfl
 | .tmp t::r,vs,h=>by
   simp only[Ap] at h
   obtain ⟨l,h1,h⟩:=Tr.bind_some h
   simp only[gE]
   rw[wD r l h1,← Tr.ab h,fe];rfl
 | .cell a t::r,vs,h=>by
   simp only[Ap] at h
   obtain ⟨v,h0,h⟩:=Tr.bind_some h
   obtain ⟨l,h1,h⟩:=Tr.bind_some h
   have h0:=yd h0
   rw[aH] at h0
   simp only[gE]
   have e:bE (strip fr) (.tmp a)=bk (strip fr) a:=rfl
   rw[e] at h0
   rw[h0]
   dsimp only
   rw[wD r l h1,← Tr.ab h];rfl
def HO (fr:aC) (rs:List ResultVar):Option Nat :=
 match rs with
 | [.tmp t]=>(lh fr t).2
 | _=>none
def Jw (P:Program) (rs:List ResultVar) (x:nS):Tr (HV×aa) :=
 match x with
 | (e,fr,l::H)=>match e with
   | .normal | .ret=>(Ap P fr (l::H) rs).bind fun vs=>(mL l.bs 5 (one vs)).bind fun v=>.ok ((v,HO fr rs),H)
   | _=>.bad
 | _=>.bad
theorem G6 {P:Program} {rs:List ResultVar} {x:nS} {y:HV×aa} (h:(Jw P rs x).run=some y):∃ l vs,x.2.2=l::y.2∧(x.1=.normal∨x.1=.ret)∧gE P (strip x.2.1) x.2.2 rs=some vs∧dw l.bs 5 (one vs)=y.1.1:=by
 unfold Jw at h
 split at h
 · rename_i e fr l H
   have key:((Ap P fr (l::H) rs).bind fun vs=>(mL l.bs 5 (one vs)).bind fun v=>Tr.ok (((v,HO fr rs),H):HV×aa)).run=some y→∃ vs,l::H=l::y.2∧gE P (strip fr) (l::H) rs=some vs∧dw l.bs 5 (one vs)=y.1.1:=by
    intro h
    obtain ⟨vs,h1,h⟩:=Tr.bind_some h
    obtain ⟨v,h2,h⟩:=Tr.bind_some h
    have h:=Tr.ab h
    refine ⟨vs,by rw[← h],wD _ _ h1,?_⟩
    rw[Be _ _ _ _ h2,← h]
   split at h
   · obtain ⟨vs,h1,h2,h3⟩:=key h;exact ⟨l,vs,h1,.inl rfl,h2,h3⟩
   · obtain ⟨vs,h1,h2,h3⟩:=key h;exact ⟨l,vs,h1,.inr rfl,h2,h3⟩
   · exact (Tr.ae h).elim
 · exact (Tr.ae h).elim
def bz (P:Program) (call:aJ) (fu:Nat) (f:FuncId) (fn:Func) (kt:Nat→Nat) (callR:bB) (bl:gN) (rg:rr) (args:List HV) (H:aa):Tr (HV×aa) :=
 (aN ⟨P,call,fu,f,fn.ntmps,kt,none⟩ callR bl rg (bR fn) (F1 args 0) (⟨false,[]⟩::H)).bind fun x=>Jw P fn.results.toList x
theorem xe {P:Program} {ora:aJ→FuncId→List AV→aa→Option (AV×aa)} {KT:FuncId→Nat→Nat} {fu n:Nat} {f:FuncId} {fn:Func} (hf:P.funcs[f]?=some fn) (hb:fn.body.isSome=true) {args:List HV} {H:aa} (ho:ora (cI P ora KT fu n) f (qP args) H=none) (hle:Nat.ble args.length fn.ntmps=true)
 {callR:bB} (hC:callR.Ok (cI P ora KT fu n)) {bl:gN} (hB:bl.Ok ⟨P,cI P ora KT fu n,fu,f,fn.ntmps,KT f,none⟩ (bR fn)) {rg:rr} (hR:rg.Ok ⟨P,cI P ora KT fu n,fu,f,fn.ntmps,KT f,none⟩ (bR fn)) {y:HV×aa}
 (h:(bz P (cI P ora KT fu n) fu f fn (KT f) callR bl rg args H).run=some y):cI P ora KT fu (n+1) (.fn f) (qP args) H=some (y.1.1,y.2):=by
 unfold bz at h
 obtain ⟨x,h1,h⟩:=Tr.bind_some h
 have h1:=oh hC _ hB hR _ _ _ h1
 rw[AR] at h1
 obtain ⟨l,vs,k1,k2,k3,k4⟩:=G6 h
 obtain ⟨c,hc⟩:=Option.isSome_iff_exists.1 hb
 have hbody:bR fn=c:=by unfold bR;rw[hc]
 rw[hbody] at h1
 obtain ⟨e,fr,H1⟩:=x
 dsimp only[nS.st] at h1 k1 k2 k3
 rw[k1] at h1 k3
 have hl:(qP args).length=args.length:=by unfold qP;rw[jn,List.length_map]
 simp only[cI,ho,hf,hc,hl,hle,if_true,h1]
 rcases k2 with rfl | rfl<;>simp only[k3]<;>rw[k4]

theorem cW {cx:Cx} {id:Nat} {b:Code} {fr fr1:aq} {H H1:aa} (h:iter (exec cx b) (al H) cx.fu fr H=some (.exit id,fr1,H1)):exec cx (.block id (.loop b)) fr H=some (.normal,fr1,H1):=by
 unfold exec
 have:exec cx (.loop b) fr H=some (.exit id,fr1,H1):=by unfold exec;exact h
 rw[this]
 dsimp only
 rw[if_pos (by simp)]
theorem cR {cx:Cx} {id:Nat} {b:Code} {fr fr1:aq} {H H1:aa} {e:Ex} (he:∀ id',e=.exit id'→Nat.beq id' id=false) (h:iter (exec cx b) (al H) cx.fu fr H=some (e,fr1,H1)):exec cx (.block id (.loop b)) fr H=some (e,fr1,H1):=by
 unfold exec
 have:exec cx (.loop b) fr H=some (e,fr1,H1):=by unfold exec;exact h
 rw[this]
 cases e with
 | exit id'=>dsimp only;rw[if_neg (by rw[he id' rfl];simp)]
 | _=>rfl
def fN (p:Nat→Bool):Nat→Nat→Nat
 | 0,j=>j
 | k+1,j=>if p j then j else fN p k (j+1)
theorem mj (p:Nat→Bool):∀ (k j:Nat),j≤fN p k j∧fN p k j≤j+k∧(∀ i,j≤i→i<fN p k j→p i=false)∧(fN p k j<j+k→p (fN p k j)=true)
 | 0,j=>⟨Nat.le_refl _,Nat.le_refl _,fun i h1 h2=>absurd h2 (by simp only[fN];omega),fun h=>absurd h (by simp only[fN];omega)⟩
 | k + 1,j=>by
   simp only[fN]
   by_cases h:p j=true
   · rw[if_pos h]
     exact ⟨Nat.le_refl _,by omega,fun i h1 h2=>by omega,fun _=>h⟩
   · rw[if_neg h]
     obtain ⟨h1,h2,h3,h4⟩:=mj p k (j+1)
     refine ⟨by omega,by omega,fun i k1 k2=>?_,fun k1=>h4 (by omega)⟩
     by_cases e:i=j
     · subst e;simpa using h
     · exact h3 i (by omega) k2
theorem mq {body:aq→aa→Option (Ex×aq×aa)} {n:Nat} (F:Nat→aq) (G:Nat→aa) (N:Nat) (p:Nat→Bool) (X:Nat→Ex×aq×aa)
 (hs:∀ j,j<N→p j=false→∃ f g,body (F j) (G j)=some (.normal,f,g)∧tidy n f g=(F (j+1),G (j+1)))
 (hh:∀ j,j<N→p j=true→body (F j) (G j)=some (X j)∧(X j).1≠.normal) (he:body (F N) (G N)=some (X N)∧(X N).1≠.normal) :
 ∀ (k j fu:Nat),j+k=N→k<fu→iter body n fu (F j) (G j)=some (X (fN p k j))
 | 0,j,0,_,h=>by omega
 | 0,j,fu+1,hj,_=>by
   have:j=N:=by omega
   subst this
   unfold iter
   rw[he.1]
   obtain ⟨x,hx⟩:∃ x,x=X j:=⟨_,rfl⟩
   have hn:=he.2
   simp only[fN]
   rw[← hx] at hn ⊢
   obtain ⟨e,f,g⟩:=x
   cases e<;>first | exact absurd rfl hn | rfl
 | k+1,j,0,_,h=>by omega
 | k + 1,j,fu+1,hj,hf=>by
   unfold iter
   cases hp:p j with
   | true =>
     obtain ⟨h1,h2⟩:=hh j (by omega) hp
     rw[h1]
     simp only[fN]
     rw[if_pos hp]
     obtain ⟨x,hx⟩:∃ x,x=X j:=⟨_,rfl⟩
     rw[← hx] at h2 ⊢
     obtain ⟨e,f,g⟩:=x
     cases e<;>first | exact absurd rfl h2 | rfl
   | false =>
     obtain ⟨f,g,h1,h2⟩:=hs j (by omega) hp
     rw[h1]
     dsimp only
     rw[h2]
     simp only[fN]
     rw[if_neg (by rw[hp];simp)]
     exact mq F G N p X hs hh he k (j+1) fu (by omega) (by omega)
theorem oD {body:aq→aa→Option (Ex×aq×aa)} {n:Nat} (I:Nat→aq→aa→Prop) (Q:Ex×aq×aa→Prop) (N:Nat)
 (hr:∀ j fr H,I j fr H→(∃ e f g,body fr H=some (e,f,g)∧((e=.normal∧j<N∧I (j+1) (tidy n f g).1 (tidy n f g).2)∨(e≠.normal∧Q (e,f,g))))) :
 ∀ (fu j:Nat) (fr:aq) (H:aa),I j fr H→N-j<fu→∃ x,iter body n fu fr H=some x∧Q x
 | 0,j,fr,H,_,h=>by omega
 | fu+1,j,fr,H,hI,h=>by
   obtain ⟨e,f,g,h1,h2⟩:=hr j fr H hI
   unfold iter
   rw[h1]
   rcases h2 with ⟨rfl,hj,h2⟩ | ⟨he,hq⟩
   · dsimp only
     exact oD I Q N hr fu (j+1) _ _ h2 (by omega)
   · cases e<;>first | exact absurd rfl he | exact ⟨_,rfl,hq⟩

end
end Go.Eng
end
