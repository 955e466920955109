/- The engine as a tree: regions, code, calls. -/
import Derived.Test.YtjmjkhpfipglcaaV7EngTe
section
namespace Go.Eng
set_option linter.unusedVariables false
set_option linter.unusedSimpArgs false
noncomputable section

def tS (f:a8) (y:Nat) (b:Bool):a8:=List.rec (motive:=fun _=>a8) [] (fun p r ih=>Bool.rec (motive:=fun _=>a8) (p::ih) ((p.1,(.bool b,some 1))::r) (Nat.beq p.1 y)) f
theorem rT:∀ (f:a8) (y:Nat) (b:Bool),cD (strip f) y=.bool b→strip (tS f y b)=strip f
 | [],y,b,_=>rfl
 | (x,v)::r,y,b,h=>by
   have e:tS ((x,v)::r) y b=Bool.rec (motive:=fun _=>a8) ((x,v)::tS r y b) ((x,(.bool b,some 1))::r) (Nat.beq x y):=rfl
   rw[dK,cD] at h
   rw[e]
   cases hb:Nat.beq x y with
   | true =>
     rw[hb] at h
     have h:v.1=.bool b:=h
     show (x,AV.bool b)::strip r=(x,v.1)::strip r
     rw[h]
   | false =>
     rw[hb] at h
     show (x,v.1)::strip (tS r y b)=(x,v.1)::strip r
     rw[rT r y b h]
def xG {α:Type} (fr:a8) (d:Nat) (t e:a8→Tr α):Tr α :=
 match pK fr d with
 | (.bool b,none)=>.ite b (t (tS fr d true)) (e (tS fr d false))
 | (.bool b,some _)=>cond b (t fr) (e fr)
 | _=>.bad
theorem nn {α:Type} {fr:a8} {d:Nat} {t e:a8→Tr α} {x:α} (h:(xG fr d t e).run=some x):∃ b fr',cD (strip fr) d=.bool b∧strip fr'=strip fr∧(if b then t fr' else e fr').run=some x:=by
 unfold xG at h
 split at h
 · rename_i b hg
   have hg':cD (strip fr) d=.bool b:=by rw[← jU,hg]
   rcases Tr.bH h with ⟨rfl,h⟩ | ⟨rfl,h⟩
   · exact ⟨true,_,hg',rT _ _ _ hg',h⟩
   · exact ⟨false,_,hg',rT _ _ _ hg',h⟩
 · rename_i b n hg
   have hg':cD (strip fr) d=.bool b:=by rw[← jU,hg]
   refine ⟨b,fr,hg',rfl,?_⟩
   cases b<;>exact h
 · exact (Tr.ag h).elim
def Ax (ops:Array Oper) (fr:a8) (o:Oper):Tr (Bool×a8) :=
 match o.guard with
 | none=>.ok (true,fr)
 | some (j,want)=>match (ops[j]?).bind (·.dst) with
   | none=>.bad
   | some d=>match (pK fr d).1 with
     | .bool _=>cond want (xG fr d (fun fr=>.ok (true,fr)) (fun fr=>.ok (false,fr))) (xG fr d (fun fr=>.ok (false,fr)) (fun fr=>.ok (true,fr)))
     | .tup _=>.ok (false,fr)
     | _=>.bad
theorem xL {ops:Array Oper} {fr:a8} {o:Oper} {r:Bool×a8} (h:(Ax ops fr o).run=some r):lP ops (strip fr) o=(if r.1 then .run else .skip)∧strip r.2=strip fr:=by
 unfold Ax at h
 unfold lP
 cases hg:o.guard with
 | none =>
   rw[hg] at h
   rw[← Tr.ab h];exact ⟨rfl,rfl⟩
 | some jw =>
   obtain ⟨j,want⟩:=jw
   rw[hg] at h
   dsimp only at h ⊢
   cases hd:(ops[j]?).bind (·.dst) with
   | none=>rw[hd] at h;exact (Tr.ag h).elim
   | some d =>
     rw[hd] at h
     dsimp only at h ⊢
     have he:=jU fr d
     rw[he] at h
     cases hv:cD (strip fr) d<;>rw[hv] at h<;>try exact (Tr.ag h).elim
     case bool b =>
      dsimp only at h ⊢
      cases want with
      | true =>
        rw[cond_true] at h
        obtain ⟨b',fr',h1,h2,h3⟩:=nn h
        rw[hv] at h1
        cases h1
        cases b<;>(have h3:=Tr.ab h3;rw[← h3];exact ⟨rfl,h2⟩)
      | false =>
        rw[cond_false] at h
        obtain ⟨b',fr',h1,h2,h3⟩:=nn h
        rw[hv] at h1
        cases h1
        cases b<;>(have h3:=Tr.ab h3;rw[← h3];exact ⟨rfl,h2⟩)
     case tup l=>rw[← Tr.ab h];exact ⟨rfl,rfl⟩

def oF (P:Program) (nt:Nat) (call:bG) (callR:cr) (ops:Array Oper):List Oper→a8→ae→Tr (a8×ae)
 | [],fr,H=>.ok (fr,H)
 | o::r,fr,H=>(Ax ops fr o).bind fun b=>cond b.1
   ((J1 o.op o P call callR b.2 H (uJ H)).bind fun y=>oF P nt call callR ops r (xg nt b.2 o.dst y.1) (NQ y.2 H))
   (oF P nt call callR ops r (xg nt b.2 o.dst (.tup [],none)) H)
theorem ni {P:Program} {nt:Nat} {call:bG} {callR:cr} (hC:callR.Ok call) {ops:Array Oper}:∀ (l:List Oper) (fr:a8) (H:ae) (x:a8×ae),(oF P nt call callR ops l fr H).run=some x→lM P nt call ops l (strip fr) H=some (strip x.1,x.2)
 | [],fr,H,x,h=>by rw[← Tr.ab h];rfl
 | o :: r,fr,H,x,h=>by
   simp only[oF] at h
   obtain ⟨b,h1,h⟩:=Tr.bind_some h
   unfold lM
   obtain ⟨hw,hs⟩:=xL h1
   rw[hw,← hs]
   obtain ⟨b,fr1⟩:=b
   dsimp only at h ⊢
   cases b with
   | false =>
     have:=ni hC r _ _ _ h
     rw[se] at this
     exact this
   | true =>
     rw[cond_true] at h
     obtain ⟨y,h2,h⟩:=Tr.bind_some h
     have h2:=yx hC h2
     rw[o6] at h2
     have:=ni hC r _ _ _ h
     rw[se,HG] at this
     rw[if_pos rfl]
     dsimp only
     rw[h2]
     exact this

def oB (fr:a8) (o:Oper):Touch:=sg (strip fr) o
def oT (P:Program) (call:bG) (callR:cr) (ops:Array Oper) (bef:Nat) (fr0:a8) (H:ae) (nx:Nat) (recs:List Rec) (o:Oper):Tr (sN×Option Nat×a8) :=
 (Ax ops fr0 o).bind fun b=>cond b.1
   (cond (fC o) ((J1 o.op o P call callR b.2 (rP (lB bef recs H)) nx).bind fun y=>.ok (⟨y.1.1,.all,none⟩,y.1.2,b.2))
     ((J1 o.op o P call callR b.2 (lB bef recs H) nx).bind fun y=>match y.2 with
       | .bO=>.ok (⟨y.1.1,oB b.2 o,none⟩,y.1.2,b.2)
       | .push q=>cond (jo o && !lF q && qw (mB H 0 nx) && !jB H 0) (.ok (⟨y.1.1,oB b.2 o,some (0,nx,(0,q))⟩,y.1.2,b.2)) .bad
       | .set d i q=>.req (cX (cB (mB H d i).1 q.1) (cB q.1 (Nat.succ (mB H d i).1))) (cond (!lF q.2 && !lF (mB (lB bef recs H) d i).2 && j0 bef d i recs) (.ok (⟨y.1.1,oB b.2 o,some (d,i,q)⟩,y.1.2,b.2)) .bad)
       | _=>.bad))
   (.ok (⟨.tup [],.none,none⟩,none,b.2))
theorem uA {P:Program} {call:bG} {callR:cr} (hC:callR.Ok call) {ops:Array Oper} {bef:Nat} {fr:a8} {H:ae} {nx:Nat} {recs:List Rec} {o:Oper} {e:sN×Option Nat×a8} (h:(oT P call callR ops bef fr H nx recs o).run=some e) :
 gT P call ops bef (strip fr) H nx recs o=some e.1∧strip e.2.2=strip fr:=by
 unfold oT at h
 unfold gT
 simp only[lY,wN,oB,xm,oa,gA] at h
 obtain ⟨b,h1,h⟩:=Tr.bind_some h
 obtain ⟨hw,hs⟩:=xL h1
 rw[hw,← hs]
 obtain ⟨b,fr1⟩:=b
 dsimp only at h ⊢
 cases b with
 | false =>
   rw[cond_false] at h
   rw[← Tr.ab h];exact ⟨rfl,rfl⟩
 | true =>
   rw[cond_true] at h
   rw[if_pos rfl]
   dsimp only
   cases hcv:fC o with
   | true =>
     rw[hcv,cond_true] at h
     obtain ⟨y,h2,h⟩:=Tr.bind_some h
     rw[if_pos rfl,yx hC h2,← Tr.ab h]
     exact ⟨rfl,rfl⟩
   | false =>
     rw[hcv,cond_false] at h
     obtain ⟨y,h2,h⟩:=Tr.bind_some h
     rw[if_neg (by simp),yx hC h2]
     split at h
     · rename_i hy
       rw[hy,← Tr.ab h];exact ⟨rfl,rfl⟩
     · rename_i b hy
       obtain ⟨hc,h⟩:=Tr.bg h
       rw[hy]
       dsimp only
       rw[if_pos hc,← Tr.ab h];exact ⟨rfl,rfl⟩
     · rename_i d i b hy
       obtain ⟨hv,h⟩:=Tr.aZ h
       obtain ⟨hc,h⟩:=Tr.bg h
       rw[hy]
       dsimp only
       rw[kf,eB,eB,Bool.and_eq_true,decide_eq_true_eq,decide_eq_true_eq] at hv
       have hv':(Nat.beq b.1 (aN H d i).1 || Nat.beq b.1 (Nat.succ (aN H d i).1))=true:=by
        simp only[Bool.or_eq_true,Nat.beq_eq];omega
       simp only[Bool.and_eq_true] at hc
       rw[if_pos (by simp only[Bool.and_eq_true];exact ⟨⟨⟨hc.1.1,hv'⟩,hc.1.2⟩,hc.2⟩),← Tr.ab h];exact ⟨rfl,rfl⟩
     · exact (Tr.ag h).elim
def nG (P:Program) (nt:Nat) (call:bG) (callR:cr) (ops:Array Oper) (befs:Array Nat):List Oper→Nat→a8→ae→Nat→List Rec→Tr (a8×ae)
 | [],_,fr,H,_,_=>.ok (fr,H)
 | o::r,j,fr,H,nx,recs=>(oT P call callR ops (befs.getD j 0) fr H nx recs o).bind fun e =>
   nG P nt call callR ops befs r (j+1) (xg nt e.2.2 o.dst (e.1.v,e.2.1)) (CU H e.1.wr) (if jo o then nx+1 else nx) (⟨j,e.1.rd,e.1.wr.map fun x=>(x.1,x.2.1)⟩::recs)
theorem pB {P:Program} {nt:Nat} {call:bG} {callR:cr} (hC:callR.Ok call) {ops:Array Oper} {befs:Array Nat}:∀ (l:List Oper) (j:Nat) (fr:a8) (H:ae) (nx:Nat) (recs:List Rec) (x:a8×ae),
 (nG P nt call callR ops befs l j fr H nx recs).run=some x→gG P nt call ops befs j l (strip fr) H nx recs=some (strip x.1,x.2)
 | [],j,fr,H,nx,recs,x,h=>by rw[← Tr.ab h];rfl
 | o::r,j,fr,H,nx,recs,x,h=>by
   simp only[nG] at h
   obtain ⟨e,h1,h⟩:=Tr.bind_some h
   obtain ⟨hd,hs⟩:=uA hC h1
   unfold gG
   rw[hd,← hs]
   have:=pB hC r _ _ _ _ _ _ h
   rw[se,CV] at this
   exact this

def av:Code→List (Nat×Code)
 | .block id b=>(id,b)::av b
 | .loop b=>av b
 | .seq a b=>av a++av b
 | .cond _ a b=>av a++av b
 | .scope b=>av b
 | _=>[]
def aL (f:Func):Code:=match f.body with | some c=>c | none=>.skip
abbrev dg:=Ex×a8×ae
def dg.st (x:dg):Ex×aO×ae:=(x.1,strip x.2.1,x.2.2)
abbrev iI:=Nat→a8→ae→Option (Tr dg)
abbrev uq:=Operand→a8→ae→Option (Tr dg)
def iI.Ok (bl:iI) (cx:Cx) (c:Code):Prop:=∀ id b,(id,b) ∈ av c→∀ fr H t x,bl id fr H=some t→t.run=some x→exec cx (.block id b) (strip fr) H=some x.st
def cM:Code→List (Operand×Array Tmp×Code×Code)
 | .rangeFunc f ps a b=>[(f,ps,a,b)]
 | .loop b=>cM b
 | .block _ b=>cM b
 | .seq a b=>cM a++cM b
 | .cond _ a b=>cM a++cM b
 | .scope b=>cM b
 | _=>[]
def uq.Ok (rg:uq) (cx:Cx) (c:Code):Prop:=∀ f ps a b,(f,ps,a,b) ∈ cM c→∀ fr H t x,rg f fr H=some t→t.run=some x→exec cx (.rangeFunc f ps a b) (strip fr) H=some x.st
def dc (bl:iI) (id0:Nat) (fr0:aO) (H0:ae) (u:Tr dg):iI:=fun id fr H=>cond (Nat.beq id id0) (some (.reqP (strip fr=fr0∧H=H0) u)) (bl id fr H)
theorem bf {bl:iI} {cx:Cx} {c:Code} (h:bl.Ok cx c) {id0:Nat} {fr0:aO} {H0:ae} {u:Tr dg} {B:Code} (hB:∀ b,(id0,b) ∈ av c→b=B) (k:∀ x,u.run=some x→exec cx (.block id0 B) fr0 H0=some x.st):(dc bl id0 fr0 H0 u).Ok cx c:=by
 intro id b hm fr H t y ht hy
 unfold dc at ht
 cases hb:Nat.beq id id0 with
 | true =>
   have wv:=Nat.eq_of_beq_eq_true hb
   subst wv
   rw[hb,cond_true,Option.some.injEq] at ht
   subst ht
   obtain ⟨⟨h1,h2⟩,h3⟩:=Tr.fX hy
   rw[h1,h2,hB b hm]
   exact k y h3
 | false =>
   rw[hb,cond_false] at ht
   exact h id b hm fr H t y ht hy
def th (rg:uq) (tf:Operand→Bool) (fr0:aO) (H0:ae) (u:Tr dg):uq:=fun f fr H=>cond (tf f) (some (.reqP (strip fr=fr0∧H=H0) u)) (rg f fr H)
theorem eX {rg:uq} {cx:Cx} {c:Code} (h:rg.Ok cx c) {tf:Operand→Bool} {fr0:aO} {H0:ae} {u:Tr dg} (k:∀ f ps a b,tf f=true→(f,ps,a,b) ∈ cM c→∀ x,u.run=some x→exec cx (.rangeFunc f ps a b) fr0 H0=some x.st):(th rg tf fr0 H0 u).Ok cx c:=by
 intro f ps a b hm fr H t y ht hy
 unfold th at ht
 cases hb:tf f with
 | true =>
   rw[hb,cond_true,Option.some.injEq] at ht
   subst ht
   obtain ⟨⟨h1,h2⟩,h3⟩:=Tr.fX hy
   rw[h1,h2]
   exact k f ps a b hb hm y h3
 | false =>
   rw[hb,cond_false] at ht
   exact h f ps a b hm fr H t y ht hy
def aJ:iI:=fun _ _ _=>none
def aK:uq:=fun _ _ _=>none
theorem ah (cx:Cx) (c:Code):aJ.Ok cx c:=fun _ _ _ _ _ _ _ h=>by cases h
theorem ai (cx:Cx) (c:Code):aK.Ok cx c:=fun _ _ _ _ _ _ _ _ _ h=>by cases h
def wR (g:AV→AV):a8→a8
 | []=>[]
 | (x,(v,h))::r=>(x,(mn g v,h))::wR g r
theorem wS (g:AV→AV):∀ fr:a8,strip (wR g fr)=pf g (strip fr)
 | []=>rfl
 | (x,(v,h))::r=>by
   have e:wR g ((x,(v,h))::r)=(x,(mn g v,h))::wR g r:=rfl
   rw[e,dK,dK,pf,wS g r]
def kI (n:Nat):Nat→a8→ae→a8×ae
 | 0,fr,H=>(fr,H)
 | k + 1,fr,H=>match H with
   | []=>(fr,[])
   | l::r=>cond (Nat.ble (kA l.bs) (Nat.succ n)) (fr,l::r) (match hole (strip fr) l.bs 4 n with
     | none=>(fr,l::r)
     | some h=>kI n k (wR (tc (l.bs.length-1) h) fr) (qZ n (pf (tc (l.bs.length-1) h) (strip fr)) (vD (l.bs.length-1) h l::r)))
theorem sA (n:Nat):∀ (k:Nat) (fr:a8) (H:ae),(strip (kI n k fr H).1,(kI n k fr H).2)=jG n k (strip fr) H
 | 0,fr,H=>rfl
 | k+1,fr,[]=>rfl
 | k + 1,fr,l::r=>by
   cases hb:Nat.ble (kA l.bs) (Nat.succ n) with
   | true =>
     have:kI n (k+1) fr (l::r)=(fr,l::r):=by
      unfold kI;dsimp only;rw[hb];rfl
     rw[this,yL (by rw[fa] at hb;simpa using hb)]
   | false =>
     unfold kI jG
     dsimp only
     rw[hb,cond_false]
     cases hole (strip fr) l.bs 4 n with
     | none=>rfl
     | some h =>
       dsimp only
       rw[sA n k,wS]
def Ap (n:Nat) (fr:a8) (H:ae):a8×ae:=kI n 4 fr (qZ n (strip fr) H)
theorem Dh (n:Nat) (fr:a8) (H:ae):(strip (Ap n fr H).1,(Ap n fr H).2)=tidy n (strip fr) H:=sA n 4 fr _
def zI (body:a8→ae→Tr dg) (n:Nat):Nat→a8→ae→Tr dg
 | 0,_,_=>.bad
 | k+1,fr,H=>(body fr H).bind fun x=>match x with
   | (.normal,fr,H)=>zI body n k (Ap n fr H).1 (Ap n fr H).2
   | r=>.ok r
theorem tP {body:aO→ae→Option (Ex×aO×ae)} {n:Nat}:∀ (k m:Nat) (fr:aO) (H:ae) (x:Ex×aO×ae),iter body n k fr H=some x→k≤m→iter body n m fr H=some x
 | 0,m,fr,H,x,h,_=>by simp[iter] at h
 | k+1,0,fr,H,x,h,hk=>by omega
 | k + 1,m+1,fr,H,x,h,hk=>by
   unfold iter at h ⊢
   cases hb:body fr H with
   | none=>rw[hb] at h;simp at h
   | some y =>
     rw[hb] at h
     obtain ⟨e,f,g⟩:=y
     cases e
     case normal=>exact tP k m _ _ _ h (by omega)
     all_goals exact h
theorem wF {body:a8→ae→Tr dg} {body':aO→ae→Option (Ex×aO×ae)} {n:Nat} (hb:∀ fr H x,(body fr H).run=some x→body' (strip fr) H=some x.st):∀ (k:Nat) (fr:a8) (H:ae) (x:dg),(zI body n k fr H).run=some x→iter body' n k (strip fr) H=some x.st
 | 0,fr,H,x,h=>(Tr.ag h).elim
 | k+1,fr,H,x,h=>by
   simp only[zI] at h
   obtain ⟨y,h1,h⟩:=Tr.bind_some h
   unfold iter
   rw[hb _ _ _ h1]
   obtain ⟨e,f,g⟩:=y
   cases e
   case normal =>
    have e:=Dh n f g
    have h:=wF hb k _ _ _ h
    show iter body' n k (tidy n (strip f) g).1 (tidy n (strip f) g).2=_
    rw[← e];exact h
   all_goals
    have h:=Tr.ab h
    rw[← h];rfl
def m5 (f:AV→Tr AV):List AV→Tr (List AV)
 | []=>.ok []
 | v::l=>(f v).bind fun u=>(m5 f l).bind fun m=>.ok (u::m)
theorem fe {f:AV→Tr AV} {g:AV→AV} (hf:∀ v u,(f v).run=some u→g v=u):∀ (l m:List AV),(m5 f l).run=some m→l.map g=m
 | [],m,h=>Tr.ab h
 | v::l,m,h=>by
   simp only[m5] at h
   obtain ⟨u,h1,h⟩:=Tr.bind_some h
   obtain ⟨n,h2,h⟩:=Tr.bind_some h
   rw[← Tr.ab h,List.map_cons,hf _ _ h1,fe hf l n h2]
def lG (f:AV→Tr AV):List aC→Tr (List aC)
 | []=>.ok []
 | .one v::l=>(f v).bind fun u=>(lG f l).bind fun m=>.ok (.one u::m)
 | .arr k z n::l=>(lG f l).bind fun m=>.ok (.arr k z n::m)
theorem g5 {f:AV→Tr AV} {g:AV→AV} (hf:∀ v u,(f v).run=some u→g v=u):∀ (l m:List aC),(lG f l).run=some m→mapM' g l=m
 | [],m,h=>Tr.ab h
 | .one v::l,m,h=>by
   simp only[lG] at h
   obtain ⟨u,h1,h⟩:=Tr.bind_some h
   obtain ⟨n,h2,h⟩:=Tr.bind_some h
   rw[← Tr.ab h,mapM',hf _ _ h1,g5 hf l n h2]
 | .arr k z n::l,m,h=>by
   simp only[lG] at h
   obtain ⟨n,h2,h⟩:=Tr.bind_some h
   rw[← Tr.ab h,mapM',g5 hf l n h2]
def pA (cap:Option Nat) (len:Nat):Bool :=
 match cap with
 | none=>false
 | some c=>dH c len
theorem jN (cap:Option Nat) (len:Nat):pA cap len=(cap == some len):=by
 cases cap with
 | none=>rfl
 | some c=>simp only[pA,cu];rw[Bool.eq_iff_iff];simp
def wB (i ver:Nat) (r:Row):AV→Tr AV
 | .ptr d j v off=>cond (Nat.beq d 0 && Nat.beq j i) (.req (dH v ver) (.ok (.ptrT none r off))) (.ok (.ptr d j v off))
 | .slc d j v off sz len cap=>cond (Nat.beq d 0 && Nat.beq j i) (.req (dH v ver) (match r with
    | .M [.arr k z N]=>.req (kO off (iS len sz) 0 N) (.ok (.slcT none (.M [.arr k (nv z off) (iS len sz)]) sz len (pA cap len)))
    | .I k l=>cond (sW (.I k l) off (Nat.mul len sz)) (.ok (.slcT none (.I k (kQ (kM l off) (Nat.mul len sz))) sz len (pA cap len))) .bad
    | _=>.bad)) (.ok (.slc d j v off sz len cap))
 | v=>.ok v
theorem tA {d j i:Nat} {x:Bool} (h:(Nat.beq d 0 && Nat.beq j i)=true):(Nat.beq d 0 && (Nat.beq j i && x))=x:=by
 rw[Bool.and_eq_true] at h
 rw[h.1,h.2];rfl
theorem tB {d j i:Nat} {x:Bool} (h:(Nat.beq d 0 && Nat.beq j i)=false):(Nat.beq d 0 && (Nat.beq j i && x))=false:=by
 rw[← Bool.and_assoc,h];rfl
theorem wC {i ver:Nat} {r:Row}:∀ v u,(wB i ver r v).run=some u→mj i ver r v=u:=by
 intro v u h
 cases v with
 | ptr d j v off =>
   simp only[wB] at h
   simp only[mj]
   cases hc:(Nat.beq d 0 && Nat.beq j i) with
   | false=>rw[hc,cond_false] at h;rw[tB hc,if_neg (by simp)];exact Tr.ab h
   | true =>
     rw[hc,cond_true] at h
     obtain ⟨h1,h⟩:=Tr.aZ h
     rw[cu,decide_eq_true_eq] at h1
     rw[tA hc,if_pos (by simpa using h1)];exact Tr.ab h
 | slc d j v off sz len cap =>
   simp only[wB] at h
   simp only[mj]
   cases hc:(Nat.beq d 0 && Nat.beq j i) with
   | false=>rw[hc,cond_false] at h;rw[tB hc,if_neg (by simp)];exact Tr.ab h
   | true =>
     rw[hc,cond_true] at h
     obtain ⟨h1,h2⟩:=Tr.aZ h
     clear h
     rw[cu,decide_eq_true_eq] at h1
     rw[tA hc]
     split at h2
     · obtain ⟨h3,h⟩:=Tr.aZ h2
       rw[fH,decide_eq_true_eq,cT] at h3
       rw[if_pos (by simp[h1,Row.len,aM,aT];omega),← Tr.ab h,jN,cT,jF]
       rfl
     · obtain ⟨h3,h⟩:=Tr.bg h2
       rw[kn,decide_eq_true_eq] at h3
       rw[if_pos (by simp only[h1,Bool.and_eq_true];exact ⟨by simp,Nat.ble_eq_true_of_le h3⟩),← Tr.ab h,jN,h8,gU]
       rfl
     · exact (Tr.ag h2).elim
 | _=>exact Tr.ab h
def wT (f:AV→Tr AV) (v:AV):Tr AV :=
 match v with
 | .agg (.G l)=>(m5 f l).bind fun m=>.ok (.agg (.G m))
 | .agg (.M l)=>(lG f l).bind fun m=>.ok (.agg (.M m))
 | .fn g a b=>(m5 f a).bind fun a'=>(m5 f b).bind fun b'=>.ok (.fn g a' b')
 | v=>f v
theorem rS {f:AV→Tr AV} {g:AV→AV} (hf:∀ v u,(f v).run=some u→g v=u):∀ v u,(wT f v).run=some u→mn g v=u:=by
 intro v u h
 unfold wT at h
 split at h
 · obtain ⟨m,h1,h⟩:=Tr.bind_some h
   rw[← Tr.ab h,← fe hf _ _ h1];rfl
 · obtain ⟨m,h1,h⟩:=Tr.bind_some h
   rw[← Tr.ab h,← g5 hf _ _ h1];rfl
 · obtain ⟨a',h1,h⟩:=Tr.bind_some h
   obtain ⟨b',h2,h⟩:=Tr.bind_some h
   rw[← Tr.ab h,← fe hf _ _ h1,← fe hf _ _ h2];rfl
 · rename_i n1 n2 n3
   have:=hf _ _ h
   rw[← this]
   unfold mn
   split
   · exact absurd rfl (n1 _)
   · exact absurd rfl (n2 _)
   · exact absurd rfl (n3 _ _ _)
   · rfl
def Ct (f:AV→Tr AV):aj→Tr aj
 | .row r=>match r with
   | .G l=>(m5 (wT f) l).bind fun m=>.ok (.row (.G m))
   | .M l=>(lG (wT f) l).bind fun m=>.ok (.row (.M m))
   | r=>.ok (.row r)
 | b=>.ok b
theorem Cu {f:AV→Tr AV} {g:AV→AV} (hf:∀ v u,(f v).run=some u→g v=u) (b u:aj) (h:(Ct f b).run=some u):pe g b=u:=by
 cases b with
 | row r =>
   simp only[Ct] at h
   cases r with
   | G l =>
     obtain ⟨m,h1,h⟩:=Tr.bind_some h
     rw[← Tr.ab h,← fe (rS hf) _ _ h1];rfl
   | M l =>
     obtain ⟨m,h1,h⟩:=Tr.bind_some h
     rw[← Tr.ab h,← g5 (rS hf) _ _ h1];rfl
   | I k l=>rw[← Tr.ab h];rfl
   | F z n=>rw[← Tr.ab h];rfl
 | dead=>exact Tr.ab h
 | map es=>exact Tr.ab h
 | fmap f g c=>exact Tr.ab h
 | loop l=>exact Tr.ab h
def uQ (f:AV→Tr AV):List (Nat×aj)→Tr (List (Nat×aj))
 | []=>.ok []
 | (v,b)::r=>(Ct f b).bind fun b'=>(uQ f r).bind fun r'=>.ok ((v,b')::r')
theorem tR {f:AV→Tr AV} {g:AV→AV} (hf:∀ v u,(f v).run=some u→g v=u):∀ (l m:List (Nat×aj)),(uQ f l).run=some m→jn g l=m
 | [],m,h=>Tr.ab h
 | (v,b)::r,m,h=>by
   simp only[uQ] at h
   obtain ⟨b',h1,h⟩:=Tr.bind_some h
   obtain ⟨r',h2,h⟩:=Tr.bind_some h
   rw[← Tr.ab h,jn,Cu hf _ _ h1,tR hf r r' h2]
def zP (f:AV→Tr AV):a8→Tr a8
 | []=>.ok []
 | (x,(v,h))::r=>(wT f v).bind fun v'=>(zP f r).bind fun r'=>.ok ((x,(v',h))::r')
theorem wQ {f:AV→Tr AV} {g:AV→AV} (hf:∀ v u,(f v).run=some u→g v=u):∀ (l m:a8),(zP f l).run=some m→pf g (strip l)=strip m
 | [],m,h=>by rw[← Tr.ab h];rfl
 | (x,(v,hh))::r,m,h=>by
   simp only[zP] at h
   obtain ⟨v',h1,h⟩:=Tr.bind_some h
   obtain ⟨r',h2,h⟩:=Tr.bind_some h
   rw[← Tr.ab h,dK,dK,pf,rS hf _ _ h1,wQ hf r r' h2]
def yj (i:Nat) (fr:a8) (l:b6):Tr (a8×b6) :=
 match yv l.bs i with
 | (ver,.row r)=>cond (uK r && (BH (fun x=>sP (ug i) x.2) (strip fr) || BH (fun x=>HX (ug i) x.2) l.bs)) ((zP (wB i ver r) fr).bind fun fr'=>(uQ (wB i ver r) l.bs).bind fun bs'=>.ok (fr',{ l with bs:=cC bs' i (ver,.dead) })) (.ok (fr,l))
 | _=>.ok (fr,l)
theorem A2 {i:Nat} {fr:a8} {l:b6} {y:a8×b6} (h:(yj i fr l).run=some y):pO i (strip fr) l=(strip y.1,y.2):=by
 unfold yj at h
 unfold pO
 rw[qA] at h
 split at h
 · rename_i ver r hb
   rw[hb]
   dsimp only
   rw[uu,uu] at h
   cases hc:(uK r && ((strip fr).any (fun x=>sP (ug i) x.2) || l.bs.any (fun x=>HX (ug i) x.2))) with
   | true =>
     rw[hc,cond_true] at h
     obtain ⟨fr',h1,h⟩:=Tr.bind_some h
     obtain ⟨bs',h2,h⟩:=Tr.bind_some h
     rw[if_pos rfl,wQ wC _ _ h1,tR wC _ _ h2,← Tr.ab h]
   | false =>
     rw[hc,cond_false] at h
     rw[if_neg (by simp),← Tr.ab h]
 · rename_i hno
   have h:=Tr.ab h
   subst h
   split
   · rename_i ver r hb
     exact absurd hb (hno ver r)
   · rfl
def qv:Nat→a8→b6→Tr (a8×b6)
 | 0,fr,l=>.ok (fr,l)
 | n+1,fr,l=>(qv n fr l).bind fun y=>yj n y.1 y.2
theorem rE:∀ (n:Nat) (fr:a8) (l:b6) (y:a8×b6),(qv n fr l).run=some y→iP n (strip fr) l=(strip y.1,y.2)
 | 0,fr,l,y,h=>by rw[← Tr.ab h];rfl
 | n+1,fr,l,y,h=>by
   simp only[qv] at h
   obtain ⟨z,h1,h⟩:=Tr.bind_some h
   have h1:=rE n fr l z h1
   simp only[iP]
   rw[h1]
   exact A2 h
def yk (m:Nat) (fr:a8) (H:ae):Tr (a8×ae) :=
 cond (uR m 4000) (match H with
  | []=>.ok (lC fr m,[])
  | l::r=>cond l.lock (.ok (lC fr m,l::r)) ((qv (kA l.bs) (lC fr m) l).bind fun y=>.ok (y.1,cond (Nat.beq (Nat.shiftRight m 4003) 0) (y.2::r) (CH (Nat.shiftRight m 4003) (y.2::r))))) (.ok (lC fr m,H))
theorem A4 {m:Nat} {fr:a8} {H:ae} {y:a8×ae} (h:(yk m fr H).run=some y):oe m (strip fr) H=(strip y.1,y.2):=by
 unfold yk at h
 unfold oe
 cases hm:uR m 4000 with
 | false =>
   rw[hm,cond_false] at h
   rw[if_neg (by simp),← Tr.ab h,jW]
 | true =>
   rw[hm,cond_true] at h
   rw[if_pos rfl]
   cases H with
   | nil =>
     rw[← Tr.ab h,jW]
     simp only[A1,CH,ite_self]
   | cons l r =>
     dsimp only at h
     unfold A1
     dsimp only
     cases hl:l.lock with
     | true =>
       rw[hl,cond_true] at h
       simp only[if_true]
       rw[← Tr.ab h,jW]
       simp only[CH,hl,if_true,ite_self]
     | false =>
       rw[hl,cond_false] at h
       obtain ⟨z,h1,h⟩:=Tr.bind_some h
       have h1:=rE _ _ _ _ h1
       rw[fa,jW] at h1
       simp only[Bool.false_eq_true,if_false,h1]
       rw[← Tr.ab h]
       cases Nat.beq (Nat.shiftRight m 4003) 0<;>rfl
def aH (cx:Cx) (callR:cr) (bl:iI) (rg:uq):Code→a8→ae→Tr dg
 | .skip,fr,H=>.ok (.normal,fr,H)
 | .label _,fr,H=>.ok (.normal,fr,H)
 | .exit id,fr,H=>.ok (.exit id,fr,H)
 | .goto l,fr,H=>.ok (.goto l,fr,H)
 | .ret,fr,H=>.ok (.ret,fr,H)
 | .region id ops draw,fr,H =>
   (cond draw (cond (gr ops (Region.before ops)) (nG cx.P cx.nt cx.call callR ops (Region.before ops) ops.toList 0 fr (oc H (db ops.toList)) (uJ H) []) .bad) (oF cx.P cx.nt cx.call callR ops ops.toList fr H)).bind fun x=>(yk (cx.kt id) x.1 x.2).bind fun y=>.ok (.normal,y.1,y.2)
 | .seq a b,fr,H=>(aH cx callR bl rg a fr H).bind fun x=>match x with
   | (.normal,fr,H)=>aH cx callR bl rg b fr H
   | r=>.ok r
 | .cond c a b,fr,H=>match c with
   | .tmp d=>xG fr d (fun fr=>aH cx callR bl rg a fr H) (fun fr=>aH cx callR bl rg b fr H)
   | c=>match (cI fr c).1 with
     | .bool t=>cond t (aH cx callR bl rg a fr H) (aH cx callR bl rg b fr H)
     | _=>.bad
 | .block id b,fr,H=>match bl id fr H with
   | some t=>t
   | none=>(aH cx callR bl rg b fr H).bind fun x=>match x with
     | (.exit id',fr,H)=>cond (Nat.beq id' id) (.ok (.normal,fr,H)) (.ok (.exit id',fr,H))
     | r=>.ok r
 | .scope b,fr,H=>(aH cx callR bl rg b fr H).bind fun x=>match x with
   | (.goto _,_,_)=>.bad
   | r=>.ok r
 | .rangeFunc f _ _ _,fr,H=>match rg f fr H with
   | some t=>t
   | none=>.bad
 | .loop b,fr,H=>cond (Nat.ble 12 cx.fu) (zI (aH cx callR bl rg b) (uJ H) 12 fr H) .bad
 | .refuse _,_,_=>.bad

theorem bK {cx:Cx} {callR:cr} {bl:iI} {rg:uq} (hC:callR.Ok cx.call):∀ (c:Code),bl.Ok cx c→rg.Ok cx c→∀ (fr:a8) (H:ae) (x:dg),(aH cx callR bl rg c fr H).run=some x→exec cx c (strip fr) H=some x.st:=by
 intro c
 induction c with
 | skip=>intro _ _ fr H x h;rw[← Tr.ab h];rfl
 | label=>intro _ _ fr H x h;rw[← Tr.ab h];rfl
 | exit=>intro _ _ fr H x h;rw[← Tr.ab h];rfl
 | goto=>intro _ _ fr H x h;rw[← Tr.ab h];rfl
 | ret=>intro _ _ fr H x h;rw[← Tr.ab h];rfl
 | refuse=>intro _ _ fr H x h;exact (Tr.ag h).elim
 | loop b ih =>
   intro hb hr fr H x h
   simp only[aH] at h
   obtain ⟨hk,h⟩:=Tr.bg h
   rw[Nat.ble_eq] at hk
   unfold exec
   rw[o6] at h
   exact tP _ _ _ _ _ (wF (fun fr H x h=>ih hb hr fr H x h) 12 fr H x h) hk
 | rangeFunc f ps a b =>
   intro _ hr fr H x h
   simp only[aH] at h
   split at h
   · rename_i t ht
     exact hr f ps a b (by simp[cM]) fr H t x ht h
   · exact (Tr.ag h).elim
 | region id ops draw =>
   intro _ _ fr H x h
   simp only[aH] at h
   obtain ⟨y,h1,h⟩:=Tr.bind_some h
   obtain ⟨z,h2,h⟩:=Tr.bind_some h
   have h2:=A4 h2
   rw[← Tr.ab h]
   unfold exec
   cases draw with
   | true =>
     rw[cond_true] at h1
     obtain ⟨hs,h1⟩:=Tr.bg h1
     rw[o6] at h1
     simp only[if_true,hs]
     rw[pB hC _ _ _ _ _ _ _ h1]
     dsimp only
     rw[h2]
     rfl
   | false =>
     rw[cond_false] at h1
     simp only[Bool.false_eq_true,if_false]
     rw[ni hC _ _ _ _ h1]
     dsimp only
     rw[h2]
     rfl
 | seq a b iha ihb =>
   intro hb hr fr H x h
   have hba:bl.Ok cx a:=fun id b' hm=>hb id b' (List.mem_append_left _ hm)
   have hbb:bl.Ok cx b:=fun id b' hm=>hb id b' (List.mem_append_right _ hm)
   have hra:rg.Ok cx a:=fun f ps u v hm=>hr f ps u v (List.mem_append_left _ hm)
   have hrb:rg.Ok cx b:=fun f ps u v hm=>hr f ps u v (List.mem_append_right _ hm)
   simp only[aH] at h
   obtain ⟨y,h1,h⟩:=Tr.bind_some h
   have h1:=iha hba hra _ _ _ h1
   unfold exec
   rw[h1]
   obtain ⟨e,fr1,H1⟩:=y
   cases e
   case normal=>exact ihb hbb hrb _ _ _ h
   all_goals
    have h:=Tr.ab h
    rw[← h];rfl
 | cond c a b iha ihb =>
   intro hb hr fr H x h
   have hba:bl.Ok cx a:=fun id b' hm=>hb id b' (List.mem_append_left _ hm)
   have hbb:bl.Ok cx b:=fun id b' hm=>hb id b' (List.mem_append_right _ hm)
   have hra:rg.Ok cx a:=fun f ps u v hm=>hr f ps u v (List.mem_append_left _ hm)
   have hrb:rg.Ok cx b:=fun f ps u v hm=>hr f ps u v (List.mem_append_right _ hm)
   simp only[aH] at h
   unfold exec
   split at h
   · rename_i d
     obtain ⟨b',fr',h1,h2,h3⟩:=nn h
     have e:cq (strip fr) (.tmp d)=.bool b':=h1
     rw[e,← h2]
     cases b' with
     | true=>exact iha hba hra _ _ _ h3
     | false=>exact ihb hbb hrb _ _ _ h3
   · rename_i c' hne
     rw[ba] at h
     split at h
     · rename_i t hc
       rw[hc]
       cases t with
       | true=>exact iha hba hra _ _ _ h
       | false=>exact ihb hbb hrb _ _ _ h
     · exact (Tr.ag h).elim
 | block id b ih =>
   intro hb hr fr H x h
   have hbb:bl.Ok cx b:=fun id' b' hm=>hb id' b' (by simp only[av];exact List.mem_cons_of_mem _ hm)
   simp only[aH] at h
   split at h
   · rename_i t ht
     exact hb id b (by simp[av]) _ _ _ _ ht h
   · obtain ⟨y,h1,h⟩:=Tr.bind_some h
     have h1:=ih hbb hr _ _ _ h1
     unfold exec
     rw[h1]
     obtain ⟨e,fr1,H1⟩:=y
     cases e
     case exit id' =>
      dsimp only[dg.st] at h ⊢
      rw[D4] at h
      split at h
      · rename_i wv
        rw[if_pos wv,← Tr.ab h]
      · rename_i wv
        rw[if_neg wv,← Tr.ab h]
     all_goals
      have h:=Tr.ab h
      rw[← h];rfl
 | scope b ih =>
   intro hb hr fr H x h
   simp only[aH] at h
   obtain ⟨y,h1,h⟩:=Tr.bind_some h
   have h1:=ih hb hr _ _ _ h1
   unfold exec
   rw[h1]
   obtain ⟨e,fr1,H1⟩:=y
   cases e
   case goto=>exact (Tr.ag h).elim
   all_goals
    have h:=Tr.ab h
    rw[← h];rfl

end
end Go.Eng
end
section
namespace Go.Eng
set_option linter.unusedVariables false
set_option linter.unusedSimpArgs false
noncomputable section

def mi   (bs:List (Nat×aj)):Nat→AV→Tr AV
 | 0,_=>.ok .undef
 | n + 1,v=>match v with
   | .ptr d i ver off=>match d with
     | d+1=>.ok (.ptr d i ver off)
     | 0 => match yv bs i with
       | (w,.row r)=>cond (Nat.beq w ver) (match r with
         | .I k l=>.ok (.ptrT none (.I k l) off)
         | .F f m=>.ok (.ptrT none (.F f m) off)
         | .M l=>cond (gy l) (.ok (.ptrT none (.M l) off)) ((lG (mi bs n) l).bind fun m=>.ok (.ptrT (some 0) (.M m) off))
         | .G l=>(m5 (mi bs n) l).bind fun m=>.ok (.ptrT (some 0) (.G m) off)) .bad
       | _=>.bad
   | .slc d i ver off sz len cap=>match d with
     | d+1=>.ok (.slc d i ver off sz len cap)
     | 0 => match yv bs i with
       | (w,.row r)=>.req (dH w ver) (match r with
         | .M [.arr k z N]=>.req (kO off (iS len sz) 0 N) (.ok (.slcT none (.M [.arr k (nv z off) (iS len sz)]) sz len (pA cap len)))
         | .I k l=>cond (sW (.I k l) off (Nat.mul len sz)) (.ok (.slcT none (.I k (kQ (kM l off) (Nat.mul len sz))) sz len (pA cap len))) .bad
         | .F f N=>.req (kO off (iS len sz) 0 N) (.ok (.slcT none (.F (fun j=>f (au off j)) (iS len sz)) sz len (pA cap len)))
         | .G l=>cond (sW (.G l) off (Nat.mul len sz)) ((m5 (mi bs n) (kQ (kM l off) (Nat.mul len sz))).bind fun m=>.ok (.slcT (some 0) (.G m) sz len (pA cap len))) .bad
         | _=>.bad)
       | _=>.bad
   | .ptrT s r off=>match s with
     | none=>.ok (.ptrT none r off)
     | some (s+1)=>.ok (.ptrT (some s) r off)
     | some 0=>match r with
       | .G l=>(m5 (mi bs n) l).bind fun m=>.ok (.ptrT (some 0) (.G m) off)
       | .M l=>cond (gy l) (.ok (.ptrT none (.M l) off)) ((lG (mi bs n) l).bind fun m=>.ok (.ptrT (some 0) (.M m) off))
       | r=>.ok (.ptrT none r off)
   | .slcT s r sz len full=>match s with
     | none=>.ok (.slcT none r sz len full)
     | some (s+1)=>.ok (.slcT (some s) r sz len full)
     | some 0=>match r with
       | .G l=>(m5 (mi bs n) l).bind fun m=>.ok (.slcT (some 0) (.G m) sz len full)
       | .M l=>cond (gy l) (.ok (.slcT none (.M l) sz len full)) ((lG (mi bs n) l).bind fun m=>.ok (.slcT (some 0) (.M m) sz len full))
       | r=>.ok (.slcT none r sz len full)
   | .map d i=>match d with
     | d+1=>.ok (.map d i)
     | 0=>.ok .undef
   | .yld d i=>match d with
     | d+1=>.ok (.yld d i)
     | 0=>.ok .undef
   | .fn f a b=>(m5 (mi bs n) a).bind fun a'=>(m5 (mi bs n) b).bind fun b'=>.ok (.fn f a' b')
   | .agg r=>match r with
     | .G l=>(m5 (mi bs n) l).bind fun m=>.ok (.agg (.G m))
     | .M l=>(lG (mi bs n) l).bind fun m=>.ok (.agg (.M m))
     | r=>.ok (.agg r)
   | .tup l=>(m5 (mi bs n) l).bind fun m=>.ok (.tup m)
   | v=>.ok v
theorem zw (bs:List (Nat×aj)):∀ (n:Nat) (v u:AV),(mi bs n v).run=some u→eI bs n v=u
 | 0,v,u,h=>Tr.ab h
 | n + 1,v,  u,h=>by
   have ih:=zw bs n
   simp only[mi,qA] at h
   cases v with
   | ptr d i ver off =>
     cases d with
     | succ d=>exact Tr.ab h
     | zero =>
       dsimp only at h
       simp only[eI]
       split at h
       · rename_i w r hg
         obtain ⟨hw,h⟩:=Tr.bg h
         rw[hg]
         dsimp only
         rw[if_pos hw]
         cases r with
         | I k l=>exact Tr.ab h
         | F f m=>exact Tr.ab h
         | G l =>
           obtain ⟨m,h1,h⟩:=Tr.bind_some h
           rw[← Tr.ab h,← fe ih _ _ h1]
         | M l =>
           dsimp only at h ⊢
           cases ha:gy l with
           | true=>rw[ha,cond_true] at h;rw[if_pos rfl];exact Tr.ab h
           | false =>
             rw[ha,cond_false] at h
             obtain ⟨m,h1,h⟩:=Tr.bind_some h
             rw[if_neg (by simp),← Tr.ab h,← g5 ih _ _ h1]
       · exact (Tr.ag h).elim
   | slc d i ver off sz len cap =>
     cases d with
     | succ d=>exact Tr.ab h
     | zero =>
       dsimp only at h
       simp only[eI]
       split at h
       · rename_i w r hg
         obtain ⟨hw,h'⟩:=Tr.aZ h
         clear h
         rw[cu,decide_eq_true_eq] at hw
         subst hw
         rw[hg]
         dsimp only
         split at h'
         · rename_i k z N
           have h:=h'
           obtain ⟨hc,h⟩:=Tr.aZ h
           rw[fH,decide_eq_true_eq,cT] at hc
           rw[if_pos ⟨by simp,by simp only[Row.len,aM,aT];omega⟩,← Tr.ab h,jN,cT,jF]
           simp only[Row.sub,gy,if_true]
         · have h:=h'
           obtain ⟨hc,h⟩:=Tr.bg h
           rw[kn,decide_eq_true_eq] at hc
           rw[if_pos ⟨by simp,hc⟩,← Tr.ab h,jN,h8,gU]
           rfl
         · have h:=h'
           obtain ⟨hc,h⟩:=Tr.aZ h
           rw[fH,decide_eq_true_eq,cT] at hc
           rw[if_pos ⟨by simp,by simp only[Row.len];omega⟩,← Tr.ab h,jN,cT]
           simp only[Row.sub,bP]
         · have h:=h'
           obtain ⟨hc,h⟩:=Tr.bg h
           rw[kn,decide_eq_true_eq] at hc
           obtain ⟨m,h1,h⟩:=Tr.bind_some h
           rw[h8,gU] at h1
           rw[if_pos ⟨by simp,hc⟩,← Tr.ab h,jN,← fe ih _ _ h1]
           rfl
         · exact (Tr.ag h').elim
       · exact (Tr.ag h).elim
   | ptrT s r off =>
     cases s with
     | none=>exact Tr.ab h
     | some s =>
       cases s with
       | succ s=>exact Tr.ab h
       | zero =>
         simp only[eI]
         cases r with
         | I k l=>exact Tr.ab h
         | F f m=>exact Tr.ab h
         | G l =>
           obtain ⟨m,h1,h⟩:=Tr.bind_some h
           rw[← Tr.ab h,← fe ih _ _ h1]
         | M l =>
           dsimp only at h ⊢
           cases ha:gy l with
           | true=>rw[ha,cond_true] at h;rw[if_pos rfl];exact Tr.ab h
           | false =>
             rw[ha,cond_false] at h
             obtain ⟨m,h1,h⟩:=Tr.bind_some h
             rw[if_neg (by simp),← Tr.ab h,← g5 ih _ _ h1]
   | slcT s r sz len full =>
     cases s with
     | none=>exact Tr.ab h
     | some s =>
       cases s with
       | succ s=>exact Tr.ab h
       | zero =>
         simp only[eI]
         cases r with
         | I k l=>exact Tr.ab h
         | F f m=>exact Tr.ab h
         | G l =>
           obtain ⟨m,h1,h⟩:=Tr.bind_some h
           rw[← Tr.ab h,← fe ih _ _ h1]
         | M l =>
           dsimp only at h ⊢
           cases ha:gy l with
           | true=>rw[ha,cond_true] at h;rw[if_pos rfl];exact Tr.ab h
           | false =>
             rw[ha,cond_false] at h
             obtain ⟨m,h1,h⟩:=Tr.bind_some h
             rw[if_neg (by simp),← Tr.ab h,← g5 ih _ _ h1]
   | map d i=>cases d<;>exact Tr.ab h
   | yld d i=>cases d<;>exact Tr.ab h
   | fn f a b =>
     obtain ⟨a',h1,h⟩:=Tr.bind_some h
     obtain ⟨b',h2,h⟩:=Tr.bind_some h
     simp only[eI]
     rw[← Tr.ab h,← fe ih _ _ h1,← fe ih _ _ h2]
   | agg r =>
     simp only[eI]
     cases r with
     | I k l=>exact Tr.ab h
     | F f m=>exact Tr.ab h
     | G l =>
       obtain ⟨m,h1,h⟩:=Tr.bind_some h
       rw[← Tr.ab h,← fe ih _ _ h1]
     | M l =>
       obtain ⟨m,h1,h⟩:=Tr.bind_some h
       rw[← Tr.ab h,← g5 ih _ _ h1]
   | tup l =>
     obtain ⟨m,h1,h⟩:=Tr.bind_some h
     simp only[eI]
     rw[← Tr.ab h,← fe ih _ _ h1]
   | _=>exact Tr.ab h

def DL (l:List HV):Nat→a8:=List.rec (motive:=fun _=>Nat→a8) (fun _=>[]) (fun v _ ih x=>(x,(xU 1 v.1,v.2))::ih (Nat.succ x)) l
theorem yY:∀ (l:List HV) (x:Nat),strip (DL l x)=kX x (py l)
 | [],x=>rfl
 | v::l,x=>by
   have e:DL (v::l) x=(x,(xU 1 v.1,v.2))::DL l (x+1):=rfl
   rw[e,dK,yY l];rfl
def hints (f:aO):a8:=List.rec (motive:=fun _=>a8) [] (fun p _ ih=>(p.1,(p.2,none))::ih) f
theorem aw:∀ f:aO,strip (hints f)=f
 | []=>rfl
 | (x,v)::r=>by
   have e:hints ((x,v)::r)=(x,(v,none))::hints r:=rfl
   rw[e,dK,aw r]
def yC (P:Program) (fr:a8) (H:ae):List ResultVar→Tr (List AV)
 | []=>.ok []
 | .tmp t::r=>(yC P fr H r).bind fun l=>.ok ((pK fr t).1::l)
 | .cell a t::r=>(loadT P H t (cI fr (.tmp a))).bind fun v=>(yC P fr H r).bind fun l=>.ok (v::l)
theorem vh {P:Program} {fr:a8} {H:ae}:∀ (l:List ResultVar) (vs:List AV),(yC P fr H l).run=some vs→mr P (strip fr) H l=some vs
 | [],vs,h=>by rw[← Tr.ab h];rfl
 | .tmp t::r,vs,h=>by
   simp only[yC] at h
   obtain ⟨l,h1,h⟩:=Tr.bind_some h
   simp only[mr]
   rw[vh r l h1,← Tr.ab h,jU];rfl
 | .cell a t::r,vs,h=>by
   simp only[yC] at h
   obtain ⟨v,h0,h⟩:=Tr.bind_some h
   obtain ⟨l,h1,h⟩:=Tr.bind_some h
   have h0:=wL h0
   rw[ba] at h0
   simp only[mr]
   have e:cq (strip fr) (.tmp a)=cD (strip fr) a:=rfl
   rw[e] at h0
   rw[h0]
   dsimp only
   rw[vh r l h1,← Tr.ab h];rfl
def Ge (fr:a8) (rs:List ResultVar):Option Nat :=
 match rs with
 | [.tmp t]=>(pK fr t).2
 | _=>none
def HI (P:Program) (rs:List ResultVar) (x:dg):Tr (HV×ae) :=
 match x with
 | (e,fr,l::H)=>match e with
   | .normal | .ret=>(yC P fr (l::H) rs).bind fun vs=>(mi l.bs 5 (one vs)).bind fun v=>.ok ((v,Ge fr rs),H)
   | _=>.bad
 | _=>.bad
theorem EY {P:Program} {rs:List ResultVar} {x:dg} {y:HV×ae} (h:(HI P rs x).run=some y):∃ l vs,x.2.2=l::y.2∧(x.1=.normal∨x.1=.ret)∧mr P (strip x.2.1) x.2.2 rs=some vs∧eI l.bs 5 (one vs)=y.1.1:=by
 unfold HI at h
 split at h
 · rename_i e fr l H
   have key:((yC P fr (l::H) rs).bind fun vs=>(mi l.bs 5 (one vs)).bind fun v=>Tr.ok (((v,Ge fr rs),H):HV×ae)).run=some y→∃ vs,l::H=l::y.2∧mr P (strip fr) (l::H) rs=some vs∧eI l.bs 5 (one vs)=y.1.1:=by
    intro h
    obtain ⟨vs,h1,h⟩:=Tr.bind_some h
    obtain ⟨v,h2,h⟩:=Tr.bind_some h
    have h:=Tr.ab h
    refine ⟨vs,by rw[← h],vh _ _ h1,?_⟩
    rw[zw _ _ _ _ h2,← h]
   split at h
   · obtain ⟨vs,h1,h2,h3⟩:=key h;exact ⟨l,vs,h1,.inl rfl,h2,h3⟩
   · obtain ⟨vs,h1,h2,h3⟩:=key h;exact ⟨l,vs,h1,.inr rfl,h2,h3⟩
   · exact (Tr.ag h).elim
 · exact (Tr.ag h).elim
def aW (P:Program) (call:bG) (fu:Nat) (f:FuncId) (fn:Func) (kt:Nat→Nat) (callR:cr) (bl:iI) (rg:uq) (args:List HV) (H:ae):Tr (HV×ae) :=
 (aH ⟨P,call,fu,f,fn.ntmps,kt,none⟩ callR bl rg (aL fn) (DL args 0) (⟨false,[]⟩::H)).bind fun x=>HI P fn.results.toList x
theorem vN {P:Program} {ora:bG→FuncId→List AV→ae→Option (AV×ae)} {KT:FuncId→Nat→Nat} {fu n:Nat} {f:FuncId} {fn:Func} (hf:P.funcs[f]?=some fn) (hb:fn.body.isSome=true) {args:List HV} {H:ae} (ho:ora (dN P ora KT fu n) f (py args) H=none) (hle:Nat.ble args.length fn.ntmps=true)
 {callR:cr} (hC:callR.Ok (dN P ora KT fu n)) {bl:iI} (hB:bl.Ok ⟨P,dN P ora KT fu n,fu,f,fn.ntmps,KT f,none⟩ (aL fn)) {rg:uq} (hR:rg.Ok ⟨P,dN P ora KT fu n,fu,f,fn.ntmps,KT f,none⟩ (aL fn)) {y:HV×ae}
 (h:(aW P (dN P ora KT fu n) fu f fn (KT f) callR bl rg args H).run=some y):dN P ora KT fu (n+1) (.fn f) (py args) H=some (y.1.1,y.2):=by
 unfold aW at h
 obtain ⟨x,h1,h⟩:=Tr.bind_some h
 have h1:=bK hC _ hB hR _ _ _ h1
 rw[yY] at h1
 obtain ⟨l,vs,k1,k2,k3,k4⟩:=EY h
 obtain ⟨c,hc⟩:=Option.isSome_iff_exists.1 hb
 have hbody:aL fn=c:=by unfold aL;rw[hc]
 rw[hbody] at h1
 obtain ⟨e,fr,H1⟩:=x
 dsimp only[dg.st] at h1 k1 k2 k3
 rw[k1] at h1 k3
 have hl:(py args).length=args.length:=by unfold py;rw[ma,List.length_map]
 simp only[dN,ho,hf,hc,hl,hle,if_true,h1]
 rcases k2 with rfl | rfl<;>simp only[k3]<;>rw[k4]

theorem c7 {cx:Cx} {id:Nat} {b:Code} {fr fr1:aO} {H H1:ae} (h:iter (exec cx b) (bm H) cx.fu fr H=some (.exit id,fr1,H1)):exec cx (.block id (.loop b)) fr H=some (.normal,fr1,H1):=by
 unfold exec
 have:exec cx (.loop b) fr H=some (.exit id,fr1,H1):=by unfold exec;exact h
 rw[this]
 dsimp only
 rw[if_pos (by simp)]
theorem dv {cx:Cx} {id:Nat} {b:Code} {fr fr1:aO} {H H1:ae} {e:Ex} (he:∀ id',e=.exit id'→Nat.beq id' id=false) (h:iter (exec cx b) (bm H) cx.fu fr H=some (e,fr1,H1)):exec cx (.block id (.loop b)) fr H=some (e,fr1,H1):=by
 unfold exec
 have:exec cx (.loop b) fr H=some (e,fr1,H1):=by unfold exec;exact h
 rw[this]
 cases e with
 | exit id'=>dsimp only;rw[if_neg (by rw[he id' rfl];simp)]
 | _=>rfl
def fN (p:Nat→Bool):Nat→Nat→Nat
 | 0,j=>j
 | k+1,j=>if p j then j else fN p k (j+1)
theorem ji (p:Nat→Bool):∀ (k j:Nat),j≤fN p k j∧fN p k j≤j+k∧(∀ i,j≤i→i<fN p k j→p i=false)∧(fN p k j<j+k→p (fN p k j)=true)
 | 0,j=>⟨Nat.le_refl _,Nat.le_refl _,fun i h1 h2=>absurd h2 (by simp only[fN];omega),fun h=>absurd h (by simp only[fN];omega)⟩
 | k + 1,j=>by
   simp only[fN]
   by_cases h:p j=true
   · rw[if_pos h]
     exact ⟨Nat.le_refl _,by omega,fun i h1 h2=>by omega,fun _=>h⟩
   · rw[if_neg h]
     obtain ⟨h1,h2,h3,h4⟩:=ji p k (j+1)
     refine ⟨by omega,by omega,fun i k1 k2=>?_,fun k1=>h4 (by omega)⟩
     by_cases e:i=j
     · subst e;simpa using h
     · exact h3 i (by omega) k2
theorem iF {body:aO→ae→Option (Ex×aO×ae)} {n:Nat} (F:Nat→aO) (G:Nat→ae) (N:Nat) (p:Nat→Bool) (X:Nat→Ex×aO×ae)
 (hs:∀ j,j<N→p j=false→∃ f g,body (F j) (G j)=some (.normal,f,g)∧tidy n f g=(F (j+1),G (j+1)))
 (hh:∀ j,j<N→p j=true→body (F j) (G j)=some (X j)∧(X j).1≠.normal) (he:body (F N) (G N)=some (X N)∧(X N).1≠.normal) :
 ∀ (k j fu:Nat),j+k=N→k<fu→iter body n fu (F j) (G j)=some (X (fN p k j))
 | 0,j,0,_,h=>by omega
 | 0,j,fu+1,hj,_=>by
   have:j=N:=by omega
   subst this
   unfold iter
   rw[he.1]
   obtain ⟨x,hx⟩:∃ x,x=X j:=⟨_,rfl⟩
   have hn:=he.2
   simp only[fN]
   rw[← hx] at hn ⊢
   obtain ⟨e,f,g⟩:=x
   cases e<;>first | exact absurd rfl hn | rfl
 | k+1,j,0,_,h=>by omega
 | k + 1,j,fu+1,hj,hf=>by
   unfold iter
   cases hp:p j with
   | true =>
     obtain ⟨h1,h2⟩:=hh j (by omega) hp
     rw[h1]
     simp only[fN]
     rw[if_pos hp]
     obtain ⟨x,hx⟩:∃ x,x=X j:=⟨_,rfl⟩
     rw[← hx] at h2 ⊢
     obtain ⟨e,f,g⟩:=x
     cases e<;>first | exact absurd rfl h2 | rfl
   | false =>
     obtain ⟨f,g,h1,h2⟩:=hs j (by omega) hp
     rw[h1]
     dsimp only
     rw[h2]
     simp only[fN]
     rw[if_neg (by rw[hp];simp)]
     exact iF F G N p X hs hh he k (j+1) fu (by omega) (by omega)
theorem wG {body:aO→ae→Option (Ex×aO×ae)} {n:Nat} (F:Nat→aO) (G:Nat→ae) (N:Nat) (X:Ex×aO×ae)
 (hs:∀ j,j<N→∃ f g,body (F j) (G j)=some (.normal,f,g)∧tidy n f g=(F (j+1),G (j+1)))
 (he:body (F N) (G N)=some X∧X.1≠.normal) (fu:Nat) (hf:N<fu):iter body n fu (F 0) (G 0)=some X:=by
 have:=iF (n:=n) F G N (fun _=>false) (fun _=>X) (fun j hj _=>hs j hj) (fun j _ h=>by cases h) he N 0 fu (by omega) hf
 exact this
theorem wH {body:aO→ae→Option (Ex×aO×ae)} {n:Nat} (I:Nat→aO→ae→Prop) (Q:Ex×aO×ae→Prop) (N:Nat)
 (hr:∀ j fr H,I j fr H→(∃ e f g,body fr H=some (e,f,g)∧((e=.normal∧j<N∧I (j+1) (tidy n f g).1 (tidy n f g).2)∨(e≠.normal∧Q (e,f,g))))) :
 ∀ (fu j:Nat) (fr:aO) (H:ae),I j fr H→N-j<fu→∃ x,iter body n fu fr H=some x∧Q x
 | 0,j,fr,H,_,h=>by omega
 | fu+1,j,fr,H,hI,h=>by
   obtain ⟨e,f,g,h1,h2⟩:=hr j fr H hI
   unfold iter
   rw[h1]
   rcases h2 with ⟨rfl,hj,h2⟩ | ⟨he,hq⟩
   · dsimp only
     exact wH I Q N hr fu (j+1) _ _ h2 (by omega)
   · cases e<;>first | exact absurd rfl he | exact ⟨_,rfl,hq⟩

end
end Go.Eng
end
