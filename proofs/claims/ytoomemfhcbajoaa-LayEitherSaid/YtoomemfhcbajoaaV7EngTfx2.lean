/- The engine as a tree: regions, code, calls. -/
import Derived.Test.YtoomemfhcbajoaaV7EngTe
set_option linter.unusedVariables false
set_option linter.unusedSimpArgs false
section
namespace Go.Eng
noncomputable section

def vN (f:aN) (y:Nat) (b:Bool):aN:=List.rec (motive:=fun _=>aN) [] (fun p r ih=>Bool.rec (motive:=fun _=>aN) (p::ih) ((p.1,(.bool b,some 1))::r) (Nat.beq p.1 y)) f
theorem ta:∀ (f:aN) (y:Nat) (b:Bool),br (strip f) y=.bool b→strip (vN f y b)=strip f
 | [],y,b,_=>rfl
 | (x,v)::r,y,b,h=>by
   have e:vN ((x,v)::r) y b=Bool.rec (motive:=fun _=>aN) ((x,v)::vN r y b) ((x,(.bool b,some 1))::r) (Nat.beq x y):=rfl
   rw[c6,br] at h
   rw[e]
   cases hb:Nat.beq x y with
   | true =>
     rw[hb] at h
     have h:v.1=.bool b:=h
     show (x,AV.bool b)::strip r=(x,v.1)::strip r
     rw[h]
   | false =>
     rw[hb] at h
     show (x,v.1)::strip (vN r y b)=(x,v.1)::strip r
     rw[ta r y b h]
def we {α:Type} (fr:aN) (d:Nat) (t e:aN→Tr α):Tr α :=
 match lK fr d with
 | (.bool b,none)=>.ite b (t (vN fr d true)) (e (vN fr d false))
 | (.bool b,some _)=>cond b (t fr) (e fr)
 | _=>.bad
theorem lB {α:Type} {fr:aN} {d:Nat} {t e:aN→Tr α} {x:α} (h:(we fr d t e).run=some x):∃ b fr',br (strip fr) d=.bool b∧strip fr'=strip fr∧(if b then t fr' else e fr').run=some x:=by
 unfold we at h
 split at h
 · rename_i b hg
   have hg':br (strip fr) d=.bool b:=by rw[← fv,hg]
   rcases Tr.im h with ⟨rfl,h⟩ | ⟨rfl,h⟩
   · exact ⟨true,_,hg',ta _ _ _ hg',h⟩
   · exact ⟨false,_,hg',ta _ _ _ hg',h⟩
 · rename_i b n hg
   have hg':br (strip fr) d=.bool b:=by rw[← fv,hg]
   refine ⟨b,fr,hg',rfl,?_⟩
   cases b<;>exact h
 · exact (Tr.ae h).elim
def C7 (ops:Array Oper) (fr:aN) (o:Oper):Tr (Bool×aN) :=
 match o.guard with
 | none=>.ok (true,fr)
 | some (j,want)=>match (ops[j]?).bind (·.dst) with
   | none=>.bad
   | some d=>match (lK fr d).1 with
     | .bool _=>cond want (we fr d (fun fr=>.ok (true,fr)) (fun fr=>.ok (false,fr))) (we fr d (fun fr=>.ok (false,fr)) (fun fr=>.ok (true,fr)))
     | .tup _=>.ok (false,fr)
     | _=>.bad
theorem An {ops:Array Oper} {fr:aN} {o:Oper} {r:Bool×aN} (h:(C7 ops fr o).run=some r):iz ops (strip fr) o=(if r.1 then .run else .skip)∧strip r.2=strip fr:=by
 unfold C7 at h
 unfold iz
 cases hg:o.guard with
 | none =>
   rw[hg] at h
   rw[← Tr.ab h];exact ⟨rfl,rfl⟩
 | some jw =>
   obtain ⟨j,want⟩:=jw
   rw[hg] at h
   dsimp only at h ⊢
   cases hd:(ops[j]?).bind (·.dst) with
   | none=>rw[hd] at h;exact (Tr.ae h).elim
   | some d =>
     rw[hd] at h
     dsimp only at h ⊢
     have he:=fv fr d
     rw[he] at h
     cases hv:br (strip fr) d<;>rw[hv] at h<;>try exact (Tr.ae h).elim
     case bool b =>
      dsimp only at h ⊢
      cases want with
      | true =>
        rw[cond_true] at h
        obtain ⟨b',fr',h1,h2,h3⟩:=lB h
        rw[hv] at h1
        cases h1
        cases b<;>(have h3:=Tr.ab h3;rw[← h3];exact ⟨rfl,h2⟩)
      | false =>
        rw[cond_false] at h
        obtain ⟨b',fr',h1,h2,h3⟩:=lB h
        rw[hv] at h1
        cases h1
        cases b<;>(have h3:=Tr.ab h3;rw[← h3];exact ⟨rfl,h2⟩)
     case tup l=>rw[← Tr.ab h];exact ⟨rfl,rfl⟩

def iT (P:Program) (nt:Nat) (call:aU) (callR:bD) (ops:Array Oper):List Oper→aN→aa→Tr (aN×aa)
 | [],fr,H=>.ok (fr,H)
 | o::r,fr,H=>(C7 ops fr o).bind fun b=>cond b.1
   ((Mk o.op o P call callR b.2 H (fI H)).bind fun y=>iT P nt call callR ops r (ri nt b.2 o.dst y.1) (ND y.2 H))
   (iT P nt call callR ops r (ri nt b.2 o.dst (.tup [],none)) H)
theorem fL {P:Program} {nt:Nat} {call:aU} {callR:bD} (hC:callR.Ok call) {ops:Array Oper}:∀ (l:List Oper) (fr:aN) (H:aa) (x:aN×aa),(iT P nt call callR ops l fr H).run=some x→dE P nt call ops l (strip fr) H=some (strip x.1,x.2)
 | [],fr,H,x,h=>by rw[← Tr.ab h];rfl
 | o :: r,fr,H,x,h=>by
   simp only[iT] at h
   obtain ⟨b,h1,h⟩:=Tr.bind_some h
   unfold dE
   obtain ⟨hw,hs⟩:=An h1
   rw[hw,← hs]
   obtain ⟨b,fr1⟩:=b
   dsimp only at h ⊢
   cases b with
   | false =>
     have:=fL hC r _ _ _ h
     rw[mC] at this
     exact this
   | true =>
     rw[cond_true] at h
     obtain ⟨y,h2,h⟩:=Tr.bind_some h
     have h2:=Be hC h2
     rw[gO] at h2
     have:=fL hC r _ _ _ h
     rw[mC,FY] at this
     rw[if_pos rfl]
     dsimp only
     rw[h2]
     exact this

def pz (fr:aN) (o:Oper):Touch:=ky (strip fr) o
def pY (P:Program) (call:aU) (callR:bD) (ops:Array Oper) (bef:Nat) (fr0:aN) (H:aa) (nx:Nat) (recs:List Rec) (o:Oper):Tr (um×Option Nat×aN) :=
 (C7 ops fr0 o).bind fun b=>cond b.1
   (cond (eY o) ((Mk o.op o P call callR b.2 (pf (jd bef recs H)) nx).bind fun y=>.ok (⟨y.1.1,.all,none⟩,y.1.2,b.2))
     ((Mk o.op o P call callR b.2 (jd bef recs H) nx).bind fun y=>match y.2 with
       | .bc=>.ok (⟨y.1.1,pz b.2 o,none⟩,y.1.2,b.2)
       | .push q=>cond (gy o && !gR q && o8 (eQ H 0 nx) && !fH H 0) (.ok (⟨y.1.1,pz b.2 o,some (0,nx,(0,q))⟩,y.1.2,b.2)) .bad
       | .set d i q=>.req (jW (iO (eQ H d i).1 q.1) (iO q.1 (Nat.succ (eQ H d i).1))) (cond (!gR q.2 && !gR (eQ (jd bef recs H) d i).2 && jj bef d i recs) (.ok (⟨y.1.1,pz b.2 o,some (d,i,q)⟩,y.1.2,b.2)) .bad)
       | _=>.bad))
   (.ok (⟨.tup [],.none,none⟩,none,b.2))
theorem wE {P:Program} {call:aU} {callR:bD} (hC:callR.Ok call) {ops:Array Oper} {bef:Nat} {fr:aN} {H:aa} {nx:Nat} {recs:List Rec} {o:Oper} {e:um×Option Nat×aN} (h:(pY P call callR ops bef fr H nx recs o).run=some e) :
 eP P call ops bef (strip fr) H nx recs o=some e.1∧strip e.2.2=strip fr:=by
 unfold pY at h
 unfold eP
 simp only[kb,ra,pz,rk,ij,ep] at h
 obtain ⟨b,h1,h⟩:=Tr.bind_some h
 obtain ⟨hw,hs⟩:=An h1
 rw[hw,← hs]
 obtain ⟨b,fr1⟩:=b
 dsimp only at h ⊢
 cases b with
 | false =>
   rw[cond_false] at h
   rw[← Tr.ab h];exact ⟨rfl,rfl⟩
 | true =>
   rw[cond_true] at h
   rw[if_pos rfl]
   dsimp only
   cases hcv:eY o with
   | true =>
     rw[hcv,cond_true] at h
     obtain ⟨y,h2,h⟩:=Tr.bind_some h
     rw[if_pos rfl,Be hC h2,← Tr.ab h]
     exact ⟨rfl,rfl⟩
   | false =>
     rw[hcv,cond_false] at h
     obtain ⟨y,h2,h⟩:=Tr.bind_some h
     rw[if_neg (by simp),Be hC h2]
     split at h
     · rename_i hy
       rw[hy,← Tr.ab h];exact ⟨rfl,rfl⟩
     · rename_i b hy
       obtain ⟨hc,h⟩:=Tr.aR h
       rw[hy]
       dsimp only
       rw[if_pos hc,← Tr.ab h];exact ⟨rfl,rfl⟩
     · rename_i d i b hy
       obtain ⟨hv,h⟩:=Tr.aP h
       obtain ⟨hc,h⟩:=Tr.aR h
       rw[hy]
       dsimp only
       rw[oA,ld,ld,Bool.and_eq_true,decide_eq_true_eq,decide_eq_true_eq] at hv
       have hv':(Nat.beq b.1 (aq H d i).1 || Nat.beq b.1 (Nat.succ (aq H d i).1))=true:=by
        simp only[Bool.or_eq_true,Nat.beq_eq];omega
       simp only[Bool.and_eq_true] at hc
       rw[if_pos (by simp only[Bool.and_eq_true];exact ⟨⟨⟨hc.1.1,hv'⟩,hc.1.2⟩,hc.2⟩),← Tr.ab h];exact ⟨rfl,rfl⟩
     · exact (Tr.ae h).elim
def oM (P:Program) (nt:Nat) (call:aU) (callR:bD) (ops:Array Oper) (befs:Array Nat):List Oper→Nat→aN→aa→Nat→List Rec→Tr (aN×aa)
 | [],_,fr,H,_,_=>.ok (fr,H)
 | o::r,j,fr,H,nx,recs=>(pY P call callR ops (befs.getD j 0) fr H nx recs o).bind fun e =>
   oM P nt call callR ops befs r (j+1) (ri nt e.2.2 o.dst (e.1.v,e.2.1)) (zF H e.1.wr) (if gy o then nx+1 else nx) (⟨j,e.1.rd,e.1.wr.map fun x=>(x.1,x.2.1)⟩::recs)
theorem qK {P:Program} {nt:Nat} {call:aU} {callR:bD} (hC:callR.Ok call) {ops:Array Oper} {befs:Array Nat}:∀ (l:List Oper) (j:Nat) (fr:aN) (H:aa) (nx:Nat) (recs:List Rec) (x:aN×aa),
 (oM P nt call callR ops befs l j fr H nx recs).run=some x→fB P nt call ops befs j l (strip fr) H nx recs=some (strip x.1,x.2)
 | [],j,fr,H,nx,recs,x,h=>by rw[← Tr.ab h];rfl
 | o::r,j,fr,H,nx,recs,x,h=>by
   simp only[oM] at h
   obtain ⟨e,h1,h⟩:=Tr.bind_some h
   obtain ⟨hd,hs⟩:=wE hC h1
   unfold fB
   rw[hd,← hs]
   have:=qK hC r _ _ _ _ _ _ h
   rw[mC,zG] at this
   exact this

def aJ:Code→List (Nat×Code)
 | .block id b=>(id,b)::aJ b
 | .loop b=>aJ b
 | .seq a b=>aJ a++aJ b
 | .cond _ a b=>aJ a++aJ b
 | .scope b=>aJ b
 | _=>[]
def bn (f:Func):Code:=match f.body with | some c=>c | none=>.skip
abbrev oz:=Ex×aN×aa
def oz.st (x:oz):Ex×ao×aa:=(x.1,strip x.2.1,x.2.2)
abbrev h9:=Nat→aN→aa→Option (Tr oz)
abbrev sb:=Operand→aN→aa→Option (Tr oz)
def h9.Ok (bl:h9) (cx:Cx) (c:Code):Prop:=∀ id b,(id,b) ∈ aJ c→∀ fr H t x,bl id fr H=some t→t.run=some x→exec cx (.block id b) (strip fr) H=some x.st
def eh:Code→List (Operand×Array Tmp×Code×Code)
 | .rangeFunc f ps a b=>[(f,ps,a,b)]
 | .loop b=>eh b
 | .block _ b=>eh b
 | .seq a b=>eh a++eh b
 | .cond _ a b=>eh a++eh b
 | .scope b=>eh b
 | _=>[]
def sb.Ok (rg:sb) (cx:Cx) (c:Code):Prop:=∀ f ps a b,(f,ps,a,b) ∈ eh c→∀ fr H t x,rg f fr H=some t→t.run=some x→exec cx (.rangeFunc f ps a b) (strip fr) H=some x.st
def bX (bl:h9) (id0:Nat) (fr0:ao) (H0:aa) (u:Tr oz):h9:=fun id fr H=>cond (Nat.beq id id0) (some (.reqP (strip fr=fr0∧H=H0) u)) (bl id fr H)
theorem aF {bl:h9} {cx:Cx} {c:Code} (h:bl.Ok cx c) {id0:Nat} {fr0:ao} {H0:aa} {u:Tr oz} {B:Code} (hB:∀ b,(id0,b) ∈ aJ c→b=B) (k:∀ x,u.run=some x→exec cx (.block id0 B) fr0 H0=some x.st):(bX bl id0 fr0 H0 u).Ok cx c:=by
 intro id b hm fr H t y ht hy
 unfold bX at ht
 cases hb:Nat.beq id id0 with
 | true =>
   have wS:=Nat.eq_of_beq_eq_true hb
   subst wS
   rw[hb,cond_true,Option.some.injEq] at ht
   subst ht
   obtain ⟨⟨h1,h2⟩,h3⟩:=Tr.di hy
   rw[h1,h2,hB b hm]
   exact k y h3
 | false =>
   rw[hb,cond_false] at ht
   exact h id b hm fr H t y ht hy
def Lb (rg:sb) (tf:Operand→Bool) (fr0:ao) (H0:aa) (u:Tr oz):sb:=fun f fr H=>cond (tf f) (some (.reqP (strip fr=fr0∧H=H0) u)) (rg f fr H)
theorem xC {rg:sb} {cx:Cx} {c:Code} (h:rg.Ok cx c) {tf:Operand→Bool} {fr0:ao} {H0:aa} {u:Tr oz} (k:∀ f ps a b,tf f=true→(f,ps,a,b) ∈ eh c→∀ x,u.run=some x→exec cx (.rangeFunc f ps a b) fr0 H0=some x.st):(Lb rg tf fr0 H0 u).Ok cx c:=by
 intro f ps a b hm fr H t y ht hy
 unfold Lb at ht
 cases hb:tf f with
 | true =>
   rw[hb,cond_true,Option.some.injEq] at ht
   subst ht
   obtain ⟨⟨h1,h2⟩,h3⟩:=Tr.di hy
   rw[h1,h2]
   exact k f ps a b hb hm y h3
 | false =>
   rw[hb,cond_false] at ht
   exact h f ps a b hm fr H t y ht hy
def aK:h9:=fun _ _ _=>none
def aL:sb:=fun _ _ _=>none
theorem af (cx:Cx) (c:Code):aK.Ok cx c:=fun _ _ _ _ _ _ _ h=>by cases h
theorem ag (cx:Cx) (c:Code):aL.Ok cx c:=fun _ _ _ _ _ _ _ _ _ h=>by cases h
def zh (g:AV→AV):aN→aN
 | []=>[]
 | (x,(v,h))::r=>(x,(nk g v,h))::zh g r
theorem zi (g:AV→AV):∀ fr:aN,strip (zh g fr)=qq g (strip fr)
 | []=>rfl
 | (x,(v,h))::r=>by
   have e:zh g ((x,(v,h))::r)=(x,(nk g v,h))::zh g r:=rfl
   rw[e,c6,c6,qq,zi g r]
def lC (n:Nat):Nat→aN→aa→aN×aa
 | 0,fr,H=>(fr,H)
 | k + 1,fr,H=>match H with
   | []=>(fr,[])
   | l::r=>cond (Nat.ble (iP l.bs) (Nat.succ n)) (fr,l::r) (match hole (strip fr) l.bs 4 n with
     | none=>(fr,l::r)
     | some h=>lC n k (zh (uQ (l.bs.length-1) h) fr) (lH n (qq (uQ (l.bs.length-1) h) (strip fr)) (xV (l.bs.length-1) h l::r)))
theorem ua (n:Nat):∀ (k:Nat) (fr:aN) (H:aa),(strip (lC n k fr H).1,(lC n k fr H).2)=jr n k (strip fr) H
 | 0,fr,H=>rfl
 | k+1,fr,[]=>rfl
 | k + 1,fr,l::r=>by
   cases hb:Nat.ble (iP l.bs) (Nat.succ n) with
   | true =>
     have:lC n (k+1) fr (l::r)=(fr,l::r):=by
      unfold lC;dsimp only;rw[hb];rfl
     rw[this,uc (by rw[dk] at hb;simpa using hb)]
   | false =>
     unfold lC jr
     dsimp only
     rw[hb,cond_false]
     cases hole (strip fr) l.bs 4 n with
     | none=>rfl
     | some h =>
       dsimp only
       rw[ua n k,zi]
def C0 (n:Nat) (fr:aN) (H:aa):aN×aa:=lC n 4 fr (lH n (strip fr) H)
theorem Gr (n:Nat) (fr:aN) (H:aa):(strip (C0 n fr H).1,(C0 n fr H).2)=tidy n (strip fr) H:=ua n 4 fr _
def Cb (body:aN→aa→Tr oz) (n:Nat):Nat→aN→aa→Tr oz
 | 0,_,_=>.bad
 | k+1,fr,H=>(body fr H).bind fun x=>match x with
   | (.normal,fr,H)=>Cb body n k (C0 n fr H).1 (C0 n fr H).2
   | r=>.ok r
theorem vF {body:ao→aa→Option (Ex×ao×aa)} {n:Nat}:∀ (k m:Nat) (fr:ao) (H:aa) (x:Ex×ao×aa),iter body n k fr H=some x→k≤m→iter body n m fr H=some x
 | 0,m,fr,H,x,h,_=>by simp[iter] at h
 | k+1,0,fr,H,x,h,hk=>by omega
 | k + 1,m+1,fr,H,x,h,hk=>by
   unfold iter at h ⊢
   cases hb:body fr H with
   | none=>rw[hb] at h;simp at h
   | some y =>
     rw[hb] at h
     obtain ⟨e,f,g⟩:=y
     cases e
     case normal=>exact vF k m _ _ _ h (by omega)
     all_goals exact h
theorem yP {body:aN→aa→Tr oz} {body':ao→aa→Option (Ex×ao×aa)} {n:Nat} (hb:∀ fr H x,(body fr H).run=some x→body' (strip fr) H=some x.st):∀ (k:Nat) (fr:aN) (H:aa) (x:oz),(Cb body n k fr H).run=some x→iter body' n k (strip fr) H=some x.st
 | 0,fr,H,x,h=>(Tr.ae h).elim
 | k+1,fr,H,x,h=>by
   simp only[Cb] at h
   obtain ⟨y,h1,h⟩:=Tr.bind_some h
   unfold iter
   rw[hb _ _ _ h1]
   obtain ⟨e,f,g⟩:=y
   cases e
   case normal =>
    have e:=Gr n f g
    have h:=yP hb k _ _ _ h
    show iter body' n k (tidy n (strip f) g).1 (tidy n (strip f) g).2=_
    rw[← e];exact h
   all_goals
    have h:=Tr.ab h
    rw[← h];rfl
def nZ (f:AV→Tr AV):List AV→Tr (List AV)
 | []=>.ok []
 | v::l=>(f v).bind fun u=>(nZ f l).bind fun m=>.ok (u::m)
theorem fb {f:AV→Tr AV} {g:AV→AV} (hf:∀ v u,(f v).run=some u→g v=u):∀ (l m:List AV),(nZ f l).run=some m→l.map g=m
 | [],m,h=>Tr.ab h
 | v::l,m,h=>by
   simp only[nZ] at h
   obtain ⟨u,h1,h⟩:=Tr.bind_some h
   obtain ⟨n,h2,h⟩:=Tr.bind_some h
   rw[← Tr.ab h,List.map_cons,hf _ _ h1,fb hf l n h2]
def mq (f:AV→Tr AV):List ah→Tr (List ah)
 | []=>.ok []
 | .one v::l=>(f v).bind fun u=>(mq f l).bind fun m=>.ok (.one u::m)
 | .arr k z n::l=>(mq f l).bind fun m=>.ok (.arr k z n::m)
theorem iq {f:AV→Tr AV} {g:AV→AV} (hf:∀ v u,(f v).run=some u→g v=u):∀ (l m:List ah),(mq f l).run=some m→mapM' g l=m
 | [],m,h=>Tr.ab h
 | .one v::l,m,h=>by
   simp only[mq] at h
   obtain ⟨u,h1,h⟩:=Tr.bind_some h
   obtain ⟨n,h2,h⟩:=Tr.bind_some h
   rw[← Tr.ab h,mapM',hf _ _ h1,iq hf l n h2]
 | .arr k z n::l,m,h=>by
   simp only[mq] at h
   obtain ⟨n,h2,h⟩:=Tr.bind_some h
   rw[← Tr.ab h,mapM',iq hf l n h2]
def qJ (cap:Option Nat) (len:Nat):Bool :=
 match cap with
 | none=>false
 | some c=>cL c len
theorem jY (cap:Option Nat) (len:Nat):qJ cap len=(cap == some len):=by
 cases cap with
 | none=>rfl
 | some c=>simp only[qJ,gm];rw[Bool.eq_iff_iff];simp
def yJ (i ver:Nat) (r:Row):AV→Tr AV
 | .ptr d j v off=>cond (Nat.beq d 0 && Nat.beq j i) (.req (cL v ver) (.ok (.ptrT none r off))) (.ok (.ptr d j v off))
 | .slc d j v off sz len cap=>cond (Nat.beq d 0 && Nat.beq j i) (.req (cL v ver) (match r with
    | .M [.arr k z N]=>.req (gF off (jk len sz) 0 N) (.ok (.slcT none (.M [.arr k (dW z off) (jk len sz)]) sz len (qJ cap len)))
    | .I k l=>cond (uB (.I k l) off (Nat.mul len sz)) (.ok (.slcT none (.I k (iK (lJ l off) (Nat.mul len sz))) sz len (qJ cap len))) .bad
    | _=>.bad)) (.ok (.slc d j v off sz len cap))
 | v=>.ok v
theorem u9 {d j i:Nat} {x:Bool} (h:(Nat.beq d 0 && Nat.beq j i)=true):(Nat.beq d 0 && (Nat.beq j i && x))=x:=by
 rw[Bool.and_eq_true] at h
 rw[h.1,h.2];rfl
theorem vc {d j i:Nat} {x:Bool} (h:(Nat.beq d 0 && Nat.beq j i)=false):(Nat.beq d 0 && (Nat.beq j i && x))=false:=by
 rw[← Bool.and_assoc,h];rfl
theorem yK {i ver:Nat} {r:Row}:∀ v u,(yJ i ver r v).run=some u→ni i ver r v=u:=by
 intro v u h
 cases v with
 | ptr d j v off =>
   simp only[yJ] at h
   simp only[ni]
   cases hc:(Nat.beq d 0 && Nat.beq j i) with
   | false=>rw[hc,cond_false] at h;rw[vc hc,if_neg (by simp)];exact Tr.ab h
   | true =>
     rw[hc,cond_true] at h
     obtain ⟨h1,h⟩:=Tr.aP h
     rw[gm,decide_eq_true_eq] at h1
     rw[u9 hc,if_pos (by simpa using h1)];exact Tr.ab h
 | slc d j v off sz len cap =>
   simp only[yJ] at h
   simp only[ni]
   cases hc:(Nat.beq d 0 && Nat.beq j i) with
   | false=>rw[hc,cond_false] at h;rw[vc hc,if_neg (by simp)];exact Tr.ab h
   | true =>
     rw[hc,cond_true] at h
     obtain ⟨h1,h2⟩:=Tr.aP h
     clear h
     rw[gm,decide_eq_true_eq] at h1
     rw[u9 hc]
     split at h2
     · obtain ⟨h3,h⟩:=Tr.aP h2
       rw[gQ,decide_eq_true_eq,cr] at h3
       rw[if_pos (by simp[h1,Row.len,ay,aO];omega),← Tr.ab h,jY,cr,mI]
       rfl
     · obtain ⟨h3,h⟩:=Tr.aR h2
       rw[kS,decide_eq_true_eq] at h3
       rw[if_pos (by simp only[h1,Bool.and_eq_true];exact ⟨by simp,Nat.ble_eq_true_of_le h3⟩),← Tr.ab h,jY,gB,ie]
       rfl
     · exact (Tr.ae h2).elim
 | _=>exact Tr.ab h
def zj (f:AV→Tr AV) (v:AV):Tr AV :=
 match v with
 | .agg (.G l)=>(nZ f l).bind fun m=>.ok (.agg (.G m))
 | .agg (.M l)=>(mq f l).bind fun m=>.ok (.agg (.M m))
 | .fn g a b=>(nZ f a).bind fun a'=>(nZ f b).bind fun b'=>.ok (.fn g a' b')
 | v=>f v
theorem s9 {f:AV→Tr AV} {g:AV→AV} (hf:∀ v u,(f v).run=some u→g v=u):∀ v u,(zj f v).run=some u→nk g v=u:=by
 intro v u h
 unfold zj at h
 split at h
 · obtain ⟨m,h1,h⟩:=Tr.bind_some h
   rw[← Tr.ab h,← fb hf _ _ h1];rfl
 · obtain ⟨m,h1,h⟩:=Tr.bind_some h
   rw[← Tr.ab h,← iq hf _ _ h1];rfl
 · obtain ⟨a',h1,h⟩:=Tr.bind_some h
   obtain ⟨b',h2,h⟩:=Tr.bind_some h
   rw[← Tr.ab h,← fb hf _ _ h1,← fb hf _ _ h2];rfl
 · rename_i n1 n2 n3
   have:=hf _ _ h
   rw[← this]
   unfold nk
   split
   · exact absurd rfl (n1 _)
   · exact absurd rfl (n2 _)
   · exact absurd rfl (n3 _ _ _)
   · rfl
def FI (f:AV→Tr AV):aj→Tr aj
 | .row r=>match r with
   | .G l=>(nZ (zj f) l).bind fun m=>.ok (.row (.G m))
   | .M l=>(mq (zj f) l).bind fun m=>.ok (.row (.M m))
   | r=>.ok (.row r)
 | b=>.ok b
theorem FJ {f:AV→Tr AV} {g:AV→AV} (hf:∀ v u,(f v).run=some u→g v=u) (b u:aj) (h:(FI f b).run=some u):qp g b=u:=by
 cases b with
 | row r =>
   simp only[FI] at h
   cases r with
   | G l =>
     obtain ⟨m,h1,h⟩:=Tr.bind_some h
     rw[← Tr.ab h,← fb (s9 hf) _ _ h1];rfl
   | M l =>
     obtain ⟨m,h1,h⟩:=Tr.bind_some h
     rw[← Tr.ab h,← iq (s9 hf) _ _ h1];rfl
   | I k l=>rw[← Tr.ab h];rfl
   | F z n=>rw[← Tr.ab h];rfl
 | dead=>exact Tr.ab h
 | map es=>exact Tr.ab h
 | fmap kq f g c=>exact Tr.ab h
 | loop l=>exact Tr.ab h
def w8 (f:AV→Tr AV):List (Nat×aj)→Tr (List (Nat×aj))
 | []=>.ok []
 | (v,b)::r=>(FI f b).bind fun b'=>(w8 f r).bind fun r'=>.ok ((v,b')::r')
theorem vM {f:AV→Tr AV} {g:AV→AV} (hf:∀ v u,(f v).run=some u→g v=u):∀ (l m:List (Nat×aj)),(w8 f l).run=some m→jE g l=m
 | [],m,h=>Tr.ab h
 | (v,b)::r,m,h=>by
   simp only[w8] at h
   obtain ⟨b',h1,h⟩:=Tr.bind_some h
   obtain ⟨r',h2,h⟩:=Tr.bind_some h
   rw[← Tr.ab h,jE,FJ hf _ _ h1,vM hf r r' h2]
def Co (f:AV→Tr AV):aN→Tr aN
 | []=>.ok []
 | (x,(v,h))::r=>(zj f v).bind fun v'=>(Co f r).bind fun r'=>.ok ((x,(v',h))::r')
theorem zg {f:AV→Tr AV} {g:AV→AV} (hf:∀ v u,(f v).run=some u→g v=u):∀ (l m:aN),(Co f l).run=some m→qq g (strip l)=strip m
 | [],m,h=>by rw[← Tr.ab h];rfl
 | (x,(v,hh))::r,m,h=>by
   simp only[Co] at h
   obtain ⟨v',h1,h⟩:=Tr.bind_some h
   obtain ⟨r',h2,h⟩:=Tr.bind_some h
   rw[← Tr.ab h,c6,c6,qq,s9 hf _ _ h1,zg hf r r' h2]
def sS (i:Nat) (fr:aN) (l:aV):Tr (aN×aV) :=
 match Ba l.bs i with
 | (ver,.row r)=>cond (wV r && (uu (fun x=>pQ (pC i) x.2) (strip fr) || uu (fun x=>KE (pC i) x.2) l.bs)) ((Co (yJ i ver r) fr).bind fun fr'=>(w8 (yJ i ver r) l.bs).bind fun bs'=>.ok (fr',{ l with bs:=bT bs' i (ver,.dead) })) (.ok (fr,l))
 | _=>.ok (fr,l)
theorem qe {i:Nat} {fr:aN} {l:aV} {y:aN×aV} (h:(sS i fr l).run=some y):mc i (strip fr) l=(strip y.1,y.2):=by
 unfold sS at h
 unfold mc
 rw[rX] at h
 split at h
 · rename_i ver r hb
   rw[hb]
   dsimp only
   rw[oB,oB] at h
   cases hc:(wV r && ((strip fr).any (fun x=>pQ (pC i) x.2) || l.bs.any (fun x=>KE (pC i) x.2))) with
   | true =>
     rw[hc,cond_true] at h
     obtain ⟨fr',h1,h⟩:=Tr.bind_some h
     obtain ⟨bs',h2,h⟩:=Tr.bind_some h
     rw[if_pos rfl,zg yK _ _ h1,vM yK _ _ h2,← Tr.ab h]
   | false =>
     rw[hc,cond_false] at h
     rw[if_neg (by simp),← Tr.ab h]
 · rename_i hno
   have h:=Tr.ab h
   subst h
   split
   · rename_i ver r hb
     exact absurd hb (hno ver r)
   · rfl
def rQ:Nat→aN→aV→Tr (aN×aV)
 | 0,fr,l=>.ok (fr,l)
 | n+1,fr,l=>(rQ n fr l).bind fun y=>sS n y.1 y.2
theorem sQ:∀ (n:Nat) (fr:aN) (l:aV) (y:aN×aV),(rQ n fr l).run=some y→jh n (strip fr) l=(strip y.1,y.2)
 | 0,fr,l,y,h=>by rw[← Tr.ab h];rfl
 | n+1,fr,l,y,h=>by
   simp only[rQ] at h
   obtain ⟨z,h1,h⟩:=Tr.bind_some h
   have h1:=sQ n fr l z h1
   simp only[jh]
   rw[h1]
   exact qe h
def o6:Nat→aN→aV→Tr (aN×aV)
 | 0,fr,l=>.ok (fr,l)
 | n+1,fr,l=>(o6 n fr l).bind fun y=>cond (uu (fun x=>pQ (pC n) x.2) (strip y.1)) (.ok y) (sS n y.1 y.2)
theorem qX:∀ (n:Nat) (fr:aN) (l:aV) (y:aN×aV),(o6 n fr l).run=some y→eH n (strip fr) l=(strip y.1,y.2)
 | 0,fr,l,y,h=>by rw[← Tr.ab h];rfl
 | n + 1,fr,l,y,h=>by
   simp only[o6] at h
   obtain ⟨z,h1,h⟩:=Tr.bind_some h
   have h1:=qX n fr l z h1
   simp only[eH]
   rw[h1]
   dsimp only
   rw[oB] at h
   cases hc:(strip z.1).any (fun x=>pQ (pC n) x.2) with
   | true =>
     rw[hc,cond_true] at h
     rw[if_pos rfl,Tr.ab h]
   | false =>
     rw[hc,cond_false] at h
     rw[if_neg (by simp)]
     exact qe h
def Cg (s:Nat):aN→Option Nat
 | []=>none
 | (x,(v,_))::r=>cond (Nat.beq x s) (match v with
   | .slc 0 i _ _ _ _ _=>some i
   | _=>none) (Cg s r)
theorem yY (s:Nat):∀ fr:aN,Cg s fr=Cf s (strip fr)
 | []=>rfl
 | (x,(v,h))::r=>by
   rw[c6]
   simp only[Cg,Cf,yY s r]
   cases Nat.beq x s<;>rfl
def wU (s:Nat) (fr:aN) (H:aa):Tr (aN×aa) :=
 match H with
 | []=>.ok (fr,[])
 | l::r=>cond l.lock (.ok (fr,l::r)) (match Cg s fr with
   | some i=>(sS i fr l).bind fun y=>.ok (y.1,y.2::r)
   | none=>.ok (fr,l::r))
theorem AU {s:Nat} {fr:aN} {H:aa} {y:aN×aa} (h:(wU s fr H).run=some y):wT s (strip fr) H=(strip y.1,y.2):=by
 unfold wU at h
 unfold wT
 cases H with
 | nil=>rw[← Tr.ab h]
 | cons l r =>
   dsimp only at h ⊢
   cases hl:l.lock with
   | true =>
     rw[hl,cond_true] at h
     rw[if_pos rfl,← Tr.ab h]
   | false =>
     rw[hl,cond_false,yY] at h
     rw[if_neg (by simp)]
     split at h
     · rename_i i hi
       obtain ⟨z,h1,h⟩:=Tr.bind_some h
       have h1:=qe h1
       rw[hi]
       dsimp only
       rw[h1,← Tr.ab h]
     · rename_i hi
       rw[hi,← Tr.ab h]
def AT (m:Nat) (fr:aN) (H:aa):Tr (aN×aa) :=
 cond (n6 m 4000) (match H with
  | []=>.ok (gN fr m,[])
  | l::r=>cond l.lock (.ok (gN fr m,l::r)) ((rQ (iP l.bs) (gN fr m) l).bind fun y=>.ok (y.1,cond (Nat.beq (Nat.shiftRight m 4003) 0) (y.2::r) (FR (Nat.shiftRight m 4003) (y.2::r))))) (cond (n6 m 4001) (wU (Nat.shiftRight m 4003) (gN fr m) H) (cond (n6 m 4002) (we (gN fr m) (Nat.shiftRight m 4003) (fun fr=>.ok (fr,H)) (fun fr=>match H with
  | []=>.ok (fr,[])
  | l::r=>cond l.lock (.ok (fr,l::r)) ((o6 (iP l.bs) fr l).bind fun y=>.ok (y.1,y.2::r)))) (.ok (gN fr m,H))))
theorem DG {m:Nat} {fr:aN} {H:aa} {y:aN×aa} (h:(AT m fr H).run=some y):me m (strip fr) H=(strip y.1,y.2):=by
 unfold AT at h
 unfold me
 cases hm:n6 m 4000 with
 | false =>
   rw[hm,cond_false] at h
   rw[if_neg (by simp)]
   cases hm2:n6 m 4001 with
   | false =>
     rw[hm2,cond_false] at h
     rw[if_neg (by simp)]
     cases hm3:n6 m 4002 with
     | false =>
       rw[hm3,cond_false] at h
       rw[if_neg (by simp),← Tr.ab h,eX]
     | true =>
       rw[hm3,cond_true] at h
       rw[if_pos rfl]
       obtain ⟨b,fr',h1,h2,h3⟩:=lB h
       rw[eX] at h1 h2
       rw[h1]
       cases b with
       | true =>
         simp only[if_true] at h3
         rw[← Tr.ab h3,h2]
       | false =>
         simp only[Bool.false_eq_true,if_false] at h3
         cases H with
         | nil =>
           dsimp only at h3
           rw[← Tr.ab h3,← h2];rfl
         | cons l r =>
           dsimp only at h3
           show uD (bL (strip fr) m) (l::r)=_
           rw[← h2]
           unfold uD
           dsimp only
           cases hl:l.lock with
           | true =>
             rw[hl,cond_true] at h3
             rw[if_pos rfl,← Tr.ab h3]
           | false =>
             rw[hl,cond_false] at h3
             obtain ⟨z,h4,h5⟩:=Tr.bind_some h3
             have h4:=qX _ _ _ _ h4
             rw[dk] at h4
             rw[if_neg (by simp),h4,← Tr.ab h5]
   | true =>
     rw[hm2,cond_true] at h
     rw[if_pos rfl]
     have h1:=AU h
     rw[eX] at h1
     exact h1
 | true =>
   rw[hm,cond_true] at h
   rw[if_pos rfl]
   cases H with
   | nil =>
     rw[← Tr.ab h,eX]
     simp only[DF,FR,ite_self]
   | cons l r =>
     dsimp only at h
     unfold DF
     dsimp only
     cases hl:l.lock with
     | true =>
       rw[hl,cond_true] at h
       simp only[if_true]
       rw[← Tr.ab h,eX]
       simp only[FR,hl,if_true,ite_self]
     | false =>
       rw[hl,cond_false] at h
       obtain ⟨z,h1,h⟩:=Tr.bind_some h
       have h1:=sQ _ _ _ _ h1
       rw[dk,eX] at h1
       simp only[Bool.false_eq_true,if_false,h1]
       rw[← Tr.ab h]
       cases Nat.beq (Nat.shiftRight m 4003) 0<;>rfl
def aM (cx:Cx) (callR:bD) (bl:h9) (rg:sb):Code→aN→aa→Tr oz
 | .skip,fr,H=>.ok (.normal,fr,H)
 | .label _,fr,H=>.ok (.normal,fr,H)
 | .exit id,fr,H=>.ok (.exit id,fr,H)
 | .goto l,fr,H=>.ok (.goto l,fr,H)
 | .ret,fr,H=>.ok (.ret,fr,H)
 | .region id ops draw,fr,H =>
   (cond draw (cond (fg ops (Region.before ops)) (oM cx.P cx.nt cx.call callR ops (Region.before ops) ops.toList 0 fr (kX H (cC ops.toList)) (fI H) []) .bad) (iT cx.P cx.nt cx.call callR ops ops.toList fr H)).bind fun x=>(AT (cx.kt id) x.1 x.2).bind fun y=>.ok (.normal,y.1,y.2)
 | .seq a b,fr,H=>(aM cx callR bl rg a fr H).bind fun x=>match x with
   | (.normal,fr,H)=>aM cx callR bl rg b fr H
   | r=>.ok r
 | .cond c a b,fr,H=>match c with
   | .tmp d=>we fr d (fun fr=>aM cx callR bl rg a fr H) (fun fr=>aM cx callR bl rg b fr H)
   | c=>match (bW fr c).1 with
     | .bool t=>cond t (aM cx callR bl rg a fr H) (aM cx callR bl rg b fr H)
     | _=>.bad
 | .block id b,fr,H=>match bl id fr H with
   | some t=>t
   | none=>(aM cx callR bl rg b fr H).bind fun x=>match x with
     | (.exit id',fr,H)=>cond (Nat.beq id' id) (.ok (.normal,fr,H)) (.ok (.exit id',fr,H))
     | r=>.ok r
 | .scope b,fr,H=>(aM cx callR bl rg b fr H).bind fun x=>match x with
   | (.goto _,_,_)=>.bad
   | r=>.ok r
 | .rangeFunc f _ _ _,fr,H=>match rg f fr H with
   | some t=>t
   | none=>.bad
 | .loop b,fr,H=>cond (Nat.ble 12 cx.fu) (Cb (aM cx callR bl rg b) (fI H) 12 fr H) .bad
 | .refuse _,_,_=>.bad

theorem oR {cx:Cx} {callR:bD} {bl:h9} {rg:sb} (hC:callR.Ok cx.call):∀ (c:Code),bl.Ok cx c→rg.Ok cx c→∀ (fr:aN) (H:aa) (x:oz),(aM cx callR bl rg c fr H).run=some x→exec cx c (strip fr) H=some x.st:=by
 intro c
 induction c with
 | skip=>intro _ _ fr H x h;rw[← Tr.ab h];rfl
 | label=>intro _ _ fr H x h;rw[← Tr.ab h];rfl
 | exit=>intro _ _ fr H x h;rw[← Tr.ab h];rfl
 | goto=>intro _ _ fr H x h;rw[← Tr.ab h];rfl
 | ret=>intro _ _ fr H x h;rw[← Tr.ab h];rfl
 | refuse=>intro _ _ fr H x h;exact (Tr.ae h).elim
 | loop b ih =>
   intro hb hr fr H x h
   simp only[aM] at h
   obtain ⟨hk,h⟩:=Tr.aR h
   rw[Nat.ble_eq] at hk
   unfold exec
   rw[gO] at h
   exact vF _ _ _ _ _ (yP (fun fr H x h=>ih hb hr fr H x h) 12 fr H x h) hk
 | rangeFunc f ps a b =>
   intro _ hr fr H x h
   simp only[aM] at h
   split at h
   · rename_i t ht
     exact hr f ps a b (by simp[eh]) fr H t x ht h
   · exact (Tr.ae h).elim
 | region id ops draw =>
   intro _ _ fr H x h
   simp only[aM] at h
   obtain ⟨y,h1,h⟩:=Tr.bind_some h
   obtain ⟨z,h2,h⟩:=Tr.bind_some h
   have h2:=DG h2
   rw[← Tr.ab h]
   unfold exec
   cases draw with
   | true =>
     rw[cond_true] at h1
     obtain ⟨hs,h1⟩:=Tr.aR h1
     rw[gO] at h1
     simp only[if_true,hs]
     rw[qK hC _ _ _ _ _ _ _ h1]
     dsimp only
     rw[h2]
     rfl
   | false =>
     rw[cond_false] at h1
     simp only[Bool.false_eq_true,if_false]
     rw[fL hC _ _ _ _ h1]
     dsimp only
     rw[h2]
     rfl
 | seq a b iha ihb =>
   intro hb hr fr H x h
   have hba:bl.Ok cx a:=fun id b' hm=>hb id b' (List.mem_append_left _ hm)
   have hbb:bl.Ok cx b:=fun id b' hm=>hb id b' (List.mem_append_right _ hm)
   have hra:rg.Ok cx a:=fun f ps u v hm=>hr f ps u v (List.mem_append_left _ hm)
   have hrb:rg.Ok cx b:=fun f ps u v hm=>hr f ps u v (List.mem_append_right _ hm)
   simp only[aM] at h
   obtain ⟨y,h1,h⟩:=Tr.bind_some h
   have h1:=iha hba hra _ _ _ h1
   unfold exec
   rw[h1]
   obtain ⟨e,fr1,H1⟩:=y
   cases e
   case normal=>exact ihb hbb hrb _ _ _ h
   all_goals
    have h:=Tr.ab h
    rw[← h];rfl
 | cond c a b iha ihb =>
   intro hb hr fr H x h
   have hba:bl.Ok cx a:=fun id b' hm=>hb id b' (List.mem_append_left _ hm)
   have hbb:bl.Ok cx b:=fun id b' hm=>hb id b' (List.mem_append_right _ hm)
   have hra:rg.Ok cx a:=fun f ps u v hm=>hr f ps u v (List.mem_append_left _ hm)
   have hrb:rg.Ok cx b:=fun f ps u v hm=>hr f ps u v (List.mem_append_right _ hm)
   simp only[aM] at h
   unfold exec
   split at h
   · rename_i d
     obtain ⟨b',fr',h1,h2,h3⟩:=lB h
     have e:bI (strip fr) (.tmp d)=.bool b':=h1
     rw[e,← h2]
     cases b' with
     | true=>exact iha hba hra _ _ _ h3
     | false=>exact ihb hbb hrb _ _ _ h3
   · rename_i c' hne
     rw[aS] at h
     split at h
     · rename_i t hc
       rw[hc]
       cases t with
       | true=>exact iha hba hra _ _ _ h
       | false=>exact ihb hbb hrb _ _ _ h
     · exact (Tr.ae h).elim
 | block id b ih =>
   intro hb hr fr H x h
   have hbb:bl.Ok cx b:=fun id' b' hm=>hb id' b' (by simp only[aJ];exact List.mem_cons_of_mem _ hm)
   simp only[aM] at h
   split at h
   · rename_i t ht
     exact hb id b (by simp[aJ]) _ _ _ _ ht h
   · obtain ⟨y,h1,h⟩:=Tr.bind_some h
     have h1:=ih hbb hr _ _ _ h1
     unfold exec
     rw[h1]
     obtain ⟨e,fr1,H1⟩:=y
     cases e
     case exit id' =>
      dsimp only[oz.st] at h ⊢
      rw[gl] at h
      split at h
      · rename_i wS
        rw[if_pos wS,← Tr.ab h]
      · rename_i wS
        rw[if_neg wS,← Tr.ab h]
     all_goals
      have h:=Tr.ab h
      rw[← h];rfl
 | scope b ih =>
   intro hb hr fr H x h
   simp only[aM] at h
   obtain ⟨y,h1,h⟩:=Tr.bind_some h
   have h1:=ih hb hr _ _ _ h1
   unfold exec
   rw[h1]
   obtain ⟨e,fr1,H1⟩:=y
   cases e
   case goto=>exact (Tr.ae h).elim
   all_goals
    have h:=Tr.ab h
    rw[← h];rfl

end
end Go.Eng
end
section
namespace Go.Eng
noncomputable section

def nh   (bs:List (Nat×aj)):Nat→AV→Tr AV
 | 0,_=>.ok .undef
 | n + 1,v=>match v with
   | .ptr d i ver off=>match d with
     | d+1=>.ok (.ptr d i ver off)
     | 0 => match Ba bs i with
       | (w,.row r)=>cond (Nat.beq w ver) (match r with
         | .I k l=>.ok (.ptrT none (.I k l) off)
         | .F f m=>.ok (.ptrT none (.F f m) off)
         | .M l=>cond (gk l) (.ok (.ptrT none (.M l) off)) ((mq (nh bs n) l).bind fun m=>.ok (.ptrT (some 0) (.M m) off))
         | .G l=>(nZ (nh bs n) l).bind fun m=>.ok (.ptrT (some 0) (.G m) off)) .bad
       | _=>.bad
   | .slc d i ver off sz len cap=>match d with
     | d+1=>.ok (.slc d i ver off sz len cap)
     | 0 => match Ba bs i with
       | (w,.row r)=>.req (cL w ver) (match r with
         | .M [.arr k z N]=>.req (gF off (jk len sz) 0 N) (.ok (.slcT none (.M [.arr k (dW z off) (jk len sz)]) sz len (qJ cap len)))
         | .I k l=>cond (uB (.I k l) off (Nat.mul len sz)) (.ok (.slcT none (.I k (iK (lJ l off) (Nat.mul len sz))) sz len (qJ cap len))) .bad
         | .F f N=>.req (gF off (jk len sz) 0 N) (.ok (.slcT none (.F (fun j=>f (b9 off j)) (jk len sz)) sz len (qJ cap len)))
         | .G l=>cond (uB (.G l) off (Nat.mul len sz)) ((nZ (nh bs n) (iK (lJ l off) (Nat.mul len sz))).bind fun m=>.ok (.slcT (some 0) (.G m) sz len (qJ cap len))) .bad
         | _=>.bad)
       | _=>.bad
   | .ptrT s r off=>match s with
     | none=>.ok (.ptrT none r off)
     | some (s+1)=>.ok (.ptrT (some s) r off)
     | some 0=>match r with
       | .G l=>(nZ (nh bs n) l).bind fun m=>.ok (.ptrT (some 0) (.G m) off)
       | .M l=>cond (gk l) (.ok (.ptrT none (.M l) off)) ((mq (nh bs n) l).bind fun m=>.ok (.ptrT (some 0) (.M m) off))
       | r=>.ok (.ptrT none r off)
   | .slcT s r sz len full=>match s with
     | none=>.ok (.slcT none r sz len full)
     | some (s+1)=>.ok (.slcT (some s) r sz len full)
     | some 0=>match r with
       | .G l=>(nZ (nh bs n) l).bind fun m=>.ok (.slcT (some 0) (.G m) sz len full)
       | .M l=>cond (gk l) (.ok (.slcT none (.M l) sz len full)) ((mq (nh bs n) l).bind fun m=>.ok (.slcT (some 0) (.M m) sz len full))
       | r=>.ok (.slcT none r sz len full)
   | .map d i=>match d with
     | d+1=>.ok (.map d i)
     | 0=>.ok .undef
   | .yld d i=>match d with
     | d+1=>.ok (.yld d i)
     | 0=>.ok .undef
   | .fn f a b=>(nZ (nh bs n) a).bind fun a'=>(nZ (nh bs n) b).bind fun b'=>.ok (.fn f a' b')
   | .agg r=>match r with
     | .G l=>(nZ (nh bs n) l).bind fun m=>.ok (.agg (.G m))
     | .M l=>(mq (nh bs n) l).bind fun m=>.ok (.agg (.M m))
     | r=>.ok (.agg r)
   | .tup l=>(nZ (nh bs n) l).bind fun m=>.ok (.tup m)
   | v=>.ok v
theorem BS (bs:List (Nat×aj)):∀ (n:Nat) (v u:AV),(nh bs n v).run=some u→dH bs n v=u
 | 0,v,u,h=>Tr.ab h
 | n + 1,v,  u,h=>by
   have ih:=BS bs n
   simp only[nh,rX] at h
   cases v with
   | ptr d i ver off =>
     cases d with
     | succ d=>exact Tr.ab h
     | zero =>
       dsimp only at h
       simp only[dH]
       split at h
       · rename_i w r hg
         obtain ⟨hw,h⟩:=Tr.aR h
         rw[hg]
         dsimp only
         rw[if_pos hw]
         cases r with
         | I k l=>exact Tr.ab h
         | F f m=>exact Tr.ab h
         | G l =>
           obtain ⟨m,h1,h⟩:=Tr.bind_some h
           rw[← Tr.ab h,← fb ih _ _ h1]
         | M l =>
           dsimp only at h ⊢
           cases ha:gk l with
           | true=>rw[ha,cond_true] at h;rw[if_pos rfl];exact Tr.ab h
           | false =>
             rw[ha,cond_false] at h
             obtain ⟨m,h1,h⟩:=Tr.bind_some h
             rw[if_neg (by simp),← Tr.ab h,← iq ih _ _ h1]
       · exact (Tr.ae h).elim
   | slc d i ver off sz len cap =>
     cases d with
     | succ d=>exact Tr.ab h
     | zero =>
       dsimp only at h
       simp only[dH]
       split at h
       · rename_i w r hg
         obtain ⟨hw,h'⟩:=Tr.aP h
         clear h
         rw[gm,decide_eq_true_eq] at hw
         subst hw
         rw[hg]
         dsimp only
         split at h'
         · rename_i k z N
           have h:=h'
           obtain ⟨hc,h⟩:=Tr.aP h
           rw[gQ,decide_eq_true_eq,cr] at hc
           rw[if_pos ⟨by simp,by simp only[Row.len,ay,aO];omega⟩,← Tr.ab h,jY,cr,mI]
           simp only[Row.sub,gk,if_true]
         · have h:=h'
           obtain ⟨hc,h⟩:=Tr.aR h
           rw[kS,decide_eq_true_eq] at hc
           rw[if_pos ⟨by simp,hc⟩,← Tr.ab h,jY,gB,ie]
           rfl
         · have h:=h'
           obtain ⟨hc,h⟩:=Tr.aP h
           rw[gQ,decide_eq_true_eq,cr] at hc
           rw[if_pos ⟨by simp,by simp only[Row.len];omega⟩,← Tr.ab h,jY,cr]
           simp only[Row.sub,bJ]
         · have h:=h'
           obtain ⟨hc,h⟩:=Tr.aR h
           rw[kS,decide_eq_true_eq] at hc
           obtain ⟨m,h1,h⟩:=Tr.bind_some h
           rw[gB,ie] at h1
           rw[if_pos ⟨by simp,hc⟩,← Tr.ab h,jY,← fb ih _ _ h1]
           rfl
         · exact (Tr.ae h').elim
       · exact (Tr.ae h).elim
   | ptrT s r off =>
     cases s with
     | none=>exact Tr.ab h
     | some s =>
       cases s with
       | succ s=>exact Tr.ab h
       | zero =>
         simp only[dH]
         cases r with
         | I k l=>exact Tr.ab h
         | F f m=>exact Tr.ab h
         | G l =>
           obtain ⟨m,h1,h⟩:=Tr.bind_some h
           rw[← Tr.ab h,← fb ih _ _ h1]
         | M l =>
           dsimp only at h ⊢
           cases ha:gk l with
           | true=>rw[ha,cond_true] at h;rw[if_pos rfl];exact Tr.ab h
           | false =>
             rw[ha,cond_false] at h
             obtain ⟨m,h1,h⟩:=Tr.bind_some h
             rw[if_neg (by simp),← Tr.ab h,← iq ih _ _ h1]
   | slcT s r sz len full =>
     cases s with
     | none=>exact Tr.ab h
     | some s =>
       cases s with
       | succ s=>exact Tr.ab h
       | zero =>
         simp only[dH]
         cases r with
         | I k l=>exact Tr.ab h
         | F f m=>exact Tr.ab h
         | G l =>
           obtain ⟨m,h1,h⟩:=Tr.bind_some h
           rw[← Tr.ab h,← fb ih _ _ h1]
         | M l =>
           dsimp only at h ⊢
           cases ha:gk l with
           | true=>rw[ha,cond_true] at h;rw[if_pos rfl];exact Tr.ab h
           | false =>
             rw[ha,cond_false] at h
             obtain ⟨m,h1,h⟩:=Tr.bind_some h
             rw[if_neg (by simp),← Tr.ab h,← iq ih _ _ h1]
   | map d i=>cases d<;>exact Tr.ab h
   | yld d i=>cases d<;>exact Tr.ab h
   | fn f a b =>
     obtain ⟨a',h1,h⟩:=Tr.bind_some h
     obtain ⟨b',h2,h⟩:=Tr.bind_some h
     simp only[dH]
     rw[← Tr.ab h,← fb ih _ _ h1,← fb ih _ _ h2]
   | agg r =>
     simp only[dH]
     cases r with
     | I k l=>exact Tr.ab h
     | F f m=>exact Tr.ab h
     | G l =>
       obtain ⟨m,h1,h⟩:=Tr.bind_some h
       rw[← Tr.ab h,← fb ih _ _ h1]
     | M l =>
       obtain ⟨m,h1,h⟩:=Tr.bind_some h
       rw[← Tr.ab h,← iq ih _ _ h1]
   | tup l =>
     obtain ⟨m,h1,h⟩:=Tr.bind_some h
     simp only[dH]
     rw[← Tr.ab h,← fb ih _ _ h1]
   | _=>exact Tr.ab h

def GS (l:List HV):Nat→aN:=List.rec (motive:=fun _=>Nat→aN) (fun _=>[]) (fun v _ ih x=>(x,(fE 1 v.1,v.2))::ih (Nat.succ x)) l
theorem BF:∀ (l:List HV) (x:Nat),strip (GS l x)=fj x (pR l)
 | [],x=>rfl
 | v::l,x=>by
   have e:GS (v::l) x=(x,(fE 1 v.1,v.2))::GS l (x+1):=rfl
   rw[e,c6,BF l];rfl
def hints (f:ao):aN:=List.rec (motive:=fun _=>aN) [] (fun p _ ih=>(p.1,(p.2,none))::ih) f
theorem ik:∀ f:ao,strip (hints f)=f
 | []=>rfl
 | (x,v)::r=>by
   have e:hints ((x,v)::r)=(x,(v,none))::hints r:=rfl
   rw[e,c6,ik r]
def Bk (P:Program) (fr:aN) (H:aa):List ResultVar→Tr (List AV)
 | []=>.ok []
 | .tmp t::r=>(Bk P fr H r).bind fun l=>.ok ((lK fr t).1::l)
 | .cell a t::r=>(loadT P H t (bW fr (.tmp a))).bind fun v=>(Bk P fr H r).bind fun l=>.ok (v::l)
theorem xA {P:Program} {fr:aN} {H:aa}:∀ (l:List ResultVar) (vs:List AV),(Bk P fr H l).run=some vs→gY P (strip fr) H l=some vs
 | [],vs,h=>by rw[← Tr.ab h];rfl
 | .tmp t::r,vs,h=>by
   simp only[Bk] at h
   obtain ⟨l,h1,h⟩:=Tr.bind_some h
   simp only[gY]
   rw[xA r l h1,← Tr.ab h,fv];rfl
 | .cell a t::r,vs,h=>by
   simp only[Bk] at h
   obtain ⟨v,h0,h⟩:=Tr.bind_some h
   obtain ⟨l,h1,h⟩:=Tr.bind_some h
   have h0:=za h0
   rw[aS] at h0
   simp only[gY]
   have e:bI (strip fr) (.tmp a)=br (strip fr) a:=rfl
   rw[e] at h0
   rw[h0]
   dsimp only
   rw[xA r l h1,← Tr.ab h];rfl
def IQ (fr:aN) (rs:List ResultVar):Option Nat :=
 match rs with
 | [.tmp t]=>(lK fr t).2
 | _=>none
def Kr (P:Program) (rs:List ResultVar) (x:oz):Tr (HV×aa) :=
 match x with
 | (e,fr,l::H)=>match e with
   | .normal | .ret=>(Bk P fr (l::H) rs).bind fun vs=>(nh l.bs 5 (one vs)).bind fun v=>.ok ((v,IQ fr rs),H)
   | _=>.bad
 | _=>.bad
theorem H4 {P:Program} {rs:List ResultVar} {x:oz} {y:HV×aa} (h:(Kr P rs x).run=some y):∃ l vs,x.2.2=l::y.2∧(x.1=.normal∨x.1=.ret)∧gY P (strip x.2.1) x.2.2 rs=some vs∧dH l.bs 5 (one vs)=y.1.1:=by
 unfold Kr at h
 split at h
 · rename_i e fr l H
   have key:((Bk P fr (l::H) rs).bind fun vs=>(nh l.bs 5 (one vs)).bind fun v=>Tr.ok (((v,IQ fr rs),H):HV×aa)).run=some y→∃ vs,l::H=l::y.2∧gY P (strip fr) (l::H) rs=some vs∧dH l.bs 5 (one vs)=y.1.1:=by
    intro h
    obtain ⟨vs,h1,h⟩:=Tr.bind_some h
    obtain ⟨v,h2,h⟩:=Tr.bind_some h
    have h:=Tr.ab h
    refine ⟨vs,by rw[← h],xA _ _ h1,?_⟩
    rw[BS _ _ _ _ h2,← h]
   split at h
   · obtain ⟨vs,h1,h2,h3⟩:=key h;exact ⟨l,vs,h1,.inl rfl,h2,h3⟩
   · obtain ⟨vs,h1,h2,h3⟩:=key h;exact ⟨l,vs,h1,.inr rfl,h2,h3⟩
   · exact (Tr.ae h).elim
 · exact (Tr.ae h).elim
def aX (P:Program) (call:aU) (fu:Nat) (f:FuncId) (fn:Func) (kt:Nat→Nat) (callR:bD) (bl:h9) (rg:sb) (args:List HV) (H:aa):Tr (HV×aa) :=
 (aM ⟨P,call,fu,f,fn.ntmps,kt,none⟩ callR bl rg (bn fn) (GS args 0) (⟨false,[]⟩::H)).bind fun x=>Kr P fn.results.toList x
theorem sk {P:Program} {ora:aU→FuncId→List AV→aa→Option (AV×aa)} {KT:FuncId→Nat→Nat} {fu n:Nat} {f:FuncId} {fn:Func} (hf:P.funcs[f]?=some fn) (hb:fn.body.isSome=true) {args:List HV} {H:aa} (ho:ora (cR P ora KT fu n) f (pR args) H=none) (hle:Nat.ble args.length fn.ntmps=true)
 {callR:bD} (hC:callR.Ok (cR P ora KT fu n)) {bl:h9} (hB:bl.Ok ⟨P,cR P ora KT fu n,fu,f,fn.ntmps,KT f,none⟩ (bn fn)) {rg:sb} (hR:rg.Ok ⟨P,cR P ora KT fu n,fu,f,fn.ntmps,KT f,none⟩ (bn fn)) {y:HV×aa}
 (h:(aX P (cR P ora KT fu n) fu f fn (KT f) callR bl rg args H).run=some y):cR P ora KT fu (n+1) (.fn f) (pR args) H=some (y.1.1,y.2):=by
 unfold aX at h
 obtain ⟨x,h1,h⟩:=Tr.bind_some h
 have h1:=oR hC _ hB hR _ _ _ h1
 rw[BF] at h1
 obtain ⟨l,vs,k1,k2,k3,k4⟩:=H4 h
 obtain ⟨c,hc⟩:=Option.isSome_iff_exists.1 hb
 have hbody:bn fn=c:=by unfold bn;rw[hc]
 rw[hbody] at h1
 obtain ⟨e,fr,H1⟩:=x
 dsimp only[oz.st] at h1 k1 k2 k3
 rw[k1] at h1 k3
 have hl:(pR args).length=args.length:=by unfold pR;rw[jF,List.length_map]
 simp only[cR,ho,hf,hc,hl,hle,if_true,h1]
 rcases k2 with rfl | rfl<;>simp only[k3]<;>rw[k4]

theorem dZ {cx:Cx} {id:Nat} {b:Code} {fr fr1:ao} {H H1:aa} (h:iter (exec cx b) (al H) cx.fu fr H=some (.exit id,fr1,H1)):exec cx (.block id (.loop b)) fr H=some (.normal,fr1,H1):=by
 unfold exec
 have:exec cx (.loop b) fr H=some (.exit id,fr1,H1):=by unfold exec;exact h
 rw[this]
 dsimp only
 rw[if_pos (by simp)]
theorem eD {cx:Cx} {id:Nat} {b:Code} {fr fr1:ao} {H H1:aa} {e:Ex} (he:∀ id',e=.exit id'→Nat.beq id' id=false) (h:iter (exec cx b) (al H) cx.fu fr H=some (e,fr1,H1)):exec cx (.block id (.loop b)) fr H=some (e,fr1,H1):=by
 unfold exec
 have:exec cx (.loop b) fr H=some (e,fr1,H1):=by unfold exec;exact h
 rw[this]
 cases e with
 | exit id'=>dsimp only;rw[if_neg (by rw[he id' rfl];simp)]
 | _=>rfl
def fN (p:Nat→Bool):Nat→Nat→Nat
 | 0,j=>j
 | k+1,j=>if p j then j else fN p k (j+1)
theorem kR (p:Nat→Bool):∀ (k j:Nat),j≤fN p k j∧fN p k j≤j+k∧(∀ i,j≤i→i<fN p k j→p i=false)∧(fN p k j<j+k→p (fN p k j)=true)
 | 0,j=>⟨Nat.le_refl _,Nat.le_refl _,fun i h1 h2=>absurd h2 (by simp only[fN];omega),fun h=>absurd h (by simp only[fN];omega)⟩
 | k + 1,j=>by
   simp only[fN]
   by_cases h:p j=true
   · rw[if_pos h]
     exact ⟨Nat.le_refl _,by omega,fun i h1 h2=>by omega,fun _=>h⟩
   · rw[if_neg h]
     obtain ⟨h1,h2,h3,h4⟩:=kR p k (j+1)
     refine ⟨by omega,by omega,fun i k1 k2=>?_,fun k1=>h4 (by omega)⟩
     by_cases e:i=j
     · subst e;simpa using h
     · exact h3 i (by omega) k2
theorem mV {body:ao→aa→Option (Ex×ao×aa)} {n:Nat} (F:Nat→ao) (G:Nat→aa) (N:Nat) (p:Nat→Bool) (X:Nat→Ex×ao×aa)
 (hs:∀ j,j<N→p j=false→∃ f g,body (F j) (G j)=some (.normal,f,g)∧tidy n f g=(F (j+1),G (j+1)))
 (hh:∀ j,j<N→p j=true→body (F j) (G j)=some (X j)∧(X j).1≠.normal) (he:body (F N) (G N)=some (X N)∧(X N).1≠.normal) :
 ∀ (k j fu:Nat),j+k=N→k<fu→iter body n fu (F j) (G j)=some (X (fN p k j))
 | 0,j,0,_,h=>by omega
 | 0,j,fu+1,hj,_=>by
   have:j=N:=by omega
   subst this
   unfold iter
   rw[he.1]
   obtain ⟨x,hx⟩:∃ x,x=X j:=⟨_,rfl⟩
   have hn:=he.2
   simp only[fN]
   rw[← hx] at hn ⊢
   obtain ⟨e,f,g⟩:=x
   cases e<;>first | exact absurd rfl hn | rfl
 | k+1,j,0,_,h=>by omega
 | k + 1,j,fu+1,hj,hf=>by
   unfold iter
   cases hp:p j with
   | true =>
     obtain ⟨h1,h2⟩:=hh j (by omega) hp
     rw[h1]
     simp only[fN]
     rw[if_pos hp]
     obtain ⟨x,hx⟩:∃ x,x=X j:=⟨_,rfl⟩
     rw[← hx] at h2 ⊢
     obtain ⟨e,f,g⟩:=x
     cases e<;>first | exact absurd rfl h2 | rfl
   | false =>
     obtain ⟨f,g,h1,h2⟩:=hs j (by omega) hp
     rw[h1]
     dsimp only
     rw[h2]
     simp only[fN]
     rw[if_neg (by rw[hp];simp)]
     exact mV F G N p X hs hh he k (j+1) fu (by omega) (by omega)
theorem sY {body:ao→aa→Option (Ex×ao×aa)} {n:Nat} (I:Nat→ao→aa→Prop) (Q:Ex×ao×aa→Prop) (N:Nat)
 (hr:∀ j fr H,I j fr H→(∃ e f g,body fr H=some (e,f,g)∧((e=.normal∧j<N∧I (j+1) (tidy n f g).1 (tidy n f g).2)∨(e≠.normal∧Q (e,f,g))))) :
 ∀ (fu j:Nat) (fr:ao) (H:aa),I j fr H→N-j<fu→∃ x,iter body n fu fr H=some x∧Q x
 | 0,j,fr,H,_,h=>by omega
 | fu+1,j,fr,H,hI,h=>by
   obtain ⟨e,f,g,h1,h2⟩:=hr j fr H hI
   unfold iter
   rw[h1]
   rcases h2 with ⟨rfl,hj,h2⟩ | ⟨he,hq⟩
   · dsimp only
     exact sY I Q N hr fu (j+1) _ _ h2 (by omega)
   · cases e<;>first | exact absurd rfl he | exact ⟨_,rfl,hq⟩

end
end Go.Eng
end
