/- The engine as a tree: regions, code, calls. -/
import Derived.Test.YtgphpjdchnfjlaaDoorV2EngTe
set_option linter.unusedVariables false
set_option linter.unusedSimpArgs false
section
namespace Go.Eng
noncomputable section

def vg (f:aI) (y:Nat) (b:Bool):aI:=List.rec (motive:=fun _=>aI) [] (fun p r ih=>Bool.rec (motive:=fun _=>aI) (p::ih) ((p.1,(.bool b,some 1))::r) (Nat.beq p.1 y)) f
theorem sE:∀ (f:aI) (y:Nat) (b:Bool),bB (strip f) y=.bool b→strip (vg f y b)=strip f
 | [],y,b,_=>rfl
 | (x,v)::r,y,b,h=>by
   have e:vg ((x,v)::r) y b=Bool.rec (motive:=fun _=>aI) ((x,v)::vg r y b) ((x,(.bool b,some 1))::r) (Nat.beq x y):=rfl
   rw[cW,bB] at h
   rw[e]
   cases hb:Nat.beq x y with
   | true =>
     rw[hb] at h
     have h:v.1=.bool b:=h
     show (x,AV.bool b)::strip r=(x,v.1)::strip r
     rw[h]
   | false =>
     rw[hb] at h
     show (x,v.1)::strip (vg r y b)=(x,v.1)::strip r
     rw[sE r y b h]
def vB {α:Type} (fr:aI) (d:Nat) (t e:aI→Tr α):Tr α :=
 match lk fr d with
 | (.bool b,none)=>.ite b (t (vg fr d true)) (e (vg fr d false))
 | (.bool b,some _)=>cond b (t fr) (e fr)
 | _=>.bad
theorem kY {α:Type} {fr:aI} {d:Nat} {t e:aI→Tr α} {x:α} (h:(vB fr d t e).run=some x):∃ b fr',bB (strip fr) d=.bool b∧strip fr'=strip fr∧(if b then t fr' else e fr').run=some x:=by
 unfold vB at h
 split at h
 · rename_i b hg
   have hg':bB (strip fr) d=.bool b:=by rw[← eR,hg]
   rcases Tr.j7 h with ⟨rfl,h⟩ | ⟨rfl,h⟩
   · exact ⟨true,_,hg',sE _ _ _ hg',h⟩
   · exact ⟨false,_,hg',sE _ _ _ hg',h⟩
 · rename_i b n hg
   have hg':bB (strip fr) d=.bool b:=by rw[← eR,hg]
   refine ⟨b,fr,hg',rfl,?_⟩
   cases b<;>exact h
 · exact (Tr.ag h).elim
def CH (ops:Array Oper) (fr:aI) (o:Oper):Tr (Bool×aI) :=
 match o.guard with
 | none=>.ok (true,fr)
 | some (j,want)=>match (ops[j]?).bind (·.dst) with
   | none=>.bad
   | some d=>match (lk fr d).1 with
     | .bool _=>cond want (vB fr d (fun fr=>.ok (true,fr)) (fun fr=>.ok (false,fr))) (vB fr d (fun fr=>.ok (false,fr)) (fun fr=>.ok (true,fr)))
     | .tup _=>.ok (false,fr)
     | _=>.bad
theorem zJ {ops:Array Oper} {fr:aI} {o:Oper} {r:Bool×aI} (h:(CH ops fr o).run=some r):gZ ops (strip fr) o=(if r.1 then .run else .skip)∧strip r.2=strip fr:=by
 unfold CH at h
 unfold gZ
 cases hg:o.guard with
 | none =>
   rw[hg] at h
   rw[← Tr.ae h];exact ⟨rfl,rfl⟩
 | some jw =>
   obtain ⟨j,want⟩:=jw
   rw[hg] at h
   dsimp only at h ⊢
   cases hd:(ops[j]?).bind (·.dst) with
   | none=>rw[hd] at h;exact (Tr.ag h).elim
   | some d =>
     rw[hd] at h
     dsimp only at h ⊢
     have he:=eR fr d
     rw[he] at h
     cases hv:bB (strip fr) d<;>rw[hv] at h<;>try exact (Tr.ag h).elim
     case bool b =>
      dsimp only at h ⊢
      cases want with
      | true =>
        rw[cond_true] at h
        obtain ⟨b',fr',h1,h2,h3⟩:=kY h
        rw[hv] at h1
        cases h1
        cases b<;>(have h3:=Tr.ae h3;rw[← h3];exact ⟨rfl,h2⟩)
      | false =>
        rw[cond_false] at h
        obtain ⟨b',fr',h1,h2,h3⟩:=kY h
        rw[hv] at h1
        cases h1
        cases b<;>(have h3:=Tr.ae h3;rw[← h3];exact ⟨rfl,h2⟩)
     case tup l=>rw[← Tr.ae h];exact ⟨rfl,rfl⟩

def iI (P:Program) (nt:Nat) (call:aB) (callR:bo) (ops:Array Oper):List Oper→aI→aa→Tr (aI×aa)
 | [],fr,H=>.ok (fr,H)
 | o::r,fr,H=>(CH ops fr o).bind fun b=>cond b.1
   ((Nc o.op o P call callR b.2 H (fg H)).bind fun y=>iI P nt call callR ops r (qy nt b.2 o.dst y.1) (N0 y.2 H))
   (iI P nt call callR ops r (qy nt b.2 o.dst (.tup [],none)) H)
theorem fm {P:Program} {nt:Nat} {call:aB} {callR:bo} (hC:callR.Ok call) {ops:Array Oper}:∀ (l:List Oper) (fr:aI) (H:aa) (x:aI×aa),(iI P nt call callR ops l fr H).run=some x→ew P nt call ops l (strip fr) H=some (strip x.1,x.2)
 | [],fr,H,x,h=>by rw[← Tr.ae h];rfl
 | o :: r,fr,H,x,h=>by
   simp only[iI] at h
   obtain ⟨b,h1,h⟩:=Tr.bind_some h
   unfold ew
   obtain ⟨hw,hs⟩:=zJ h1
   rw[hw,← hs]
   obtain ⟨b,fr1⟩:=b
   dsimp only at h ⊢
   cases b with
   | false =>
     have:=fm hC r _ _ _ h
     rw[mf] at this
     exact this
   | true =>
     rw[cond_true] at h
     obtain ⟨y,h2,h⟩:=Tr.bind_some h
     have h2:=AG hC h2
     rw[gw] at h2
     have:=fm hC r _ _ _ h
     rw[mf,Fw] at this
     rw[if_pos rfl]
     dsimp only
     rw[h2]
     exact this

def oX (fr:aI) (o:Oper):Touch:=kf (strip fr) o
def px (P:Program) (call:aB) (callR:bo) (ops:Array Oper) (bef:Nat) (dH:aI) (H:aa) (nx:Nat) (recs:List Rec) (o:Oper):Tr (tJ×Option Nat×aI) :=
 (CH ops dH o).bind fun b=>cond b.1
   (cond (eE o) ((Nc o.op o P call callR b.2 (oN (iS bef recs H)) nx).bind fun y=>.ok (⟨y.1.1,.all,none⟩,y.1.2,b.2))
     ((Nc o.op o P call callR b.2 (iS bef recs H) nx).bind fun y=>match y.2 with
       | .bk=>.ok (⟨y.1.1,oX b.2 o,none⟩,y.1.2,b.2)
       | .push q=>cond (fX o && !iY q && oK (eg H 0 nx) && !ff H 0) (.ok (⟨y.1.1,oX b.2 o,some (0,nx,(0,q))⟩,y.1.2,b.2)) .bad
       | .set d i q=>.req (b7 (gm (eg H d i).1 q.1) (gm q.1 (Nat.succ (eg H d i).1))) (cond (!iY q.2 && !iY (eg (iS bef recs H) d i).2 && jb bef d i recs) (.ok (⟨y.1.1,oX b.2 o,some (d,i,q)⟩,y.1.2,b.2)) .bad)
       | _=>.bad))
   (.ok (⟨.tup [],.none,none⟩,none,b.2))
theorem vP {P:Program} {call:aB} {callR:bo} (hC:callR.Ok call) {ops:Array Oper} {bef:Nat} {fr:aI} {H:aa} {nx:Nat} {recs:List Rec} {o:Oper} {e:tJ×Option Nat×aI} (h:(px P call callR ops bef fr H nx recs o).run=some e) :
 dZ P call ops bef (strip fr) H nx recs o=some e.1∧strip e.2.2=strip fr:=by
 unfold px at h
 unfold dZ
 simp only[j0,qv,oX,qA,gP,dK] at h
 obtain ⟨b,h1,h⟩:=Tr.bind_some h
 obtain ⟨hw,hs⟩:=zJ h1
 rw[hw,← hs]
 obtain ⟨b,fr1⟩:=b
 dsimp only at h ⊢
 cases b with
 | false =>
   rw[cond_false] at h
   rw[← Tr.ae h];exact ⟨rfl,rfl⟩
 | true =>
   rw[cond_true] at h
   rw[if_pos rfl]
   dsimp only
   cases hcv:eE o with
   | true =>
     rw[hcv,cond_true] at h
     obtain ⟨y,h2,h⟩:=Tr.bind_some h
     rw[if_pos rfl,AG hC h2,← Tr.ae h]
     exact ⟨rfl,rfl⟩
   | false =>
     rw[hcv,cond_false] at h
     obtain ⟨y,h2,h⟩:=Tr.bind_some h
     rw[if_neg (by simp),AG hC h2]
     split at h
     · rename_i hy
       rw[hy,← Tr.ae h];exact ⟨rfl,rfl⟩
     · rename_i b hy
       obtain ⟨hc,h⟩:=Tr.aP h
       rw[hy]
       dsimp only
       rw[if_pos hc,← Tr.ae h];exact ⟨rfl,rfl⟩
     · rename_i d i b hy
       obtain ⟨hv,h⟩:=Tr.aL h
       obtain ⟨hc,h⟩:=Tr.aP h
       rw[hy]
       dsimp only
       rw[bS,kM,kM,Bool.and_eq_true,decide_eq_true_eq,decide_eq_true_eq] at hv
       have hv':(Nat.beq b.1 (aw H d i).1 || Nat.beq b.1 (Nat.succ (aw H d i).1))=true:=by
        simp only[Bool.or_eq_true,Nat.beq_eq];omega
       simp only[Bool.and_eq_true] at hc
       rw[if_pos (by simp only[Bool.and_eq_true];exact ⟨⟨⟨hc.1.1,hv'⟩,hc.1.2⟩,hc.2⟩),← Tr.ae h];exact ⟨rfl,rfl⟩
     · exact (Tr.ag h).elim
def ou (P:Program) (nt:Nat) (call:aB) (callR:bo) (ops:Array Oper) (befs:Array Nat):List Oper→Nat→aI→aa→Nat→List Rec→Tr (aI×aa)
 | [],_,fr,H,_,_=>.ok (fr,H)
 | o::r,j,fr,H,nx,recs=>(px P call callR ops (befs.getD j 0) fr H nx recs o).bind fun e =>
   ou P nt call callR ops befs r (j+1) (qy nt e.2.2 o.dst (e.1.v,e.2.1)) (yr H e.1.wr) (if fX o then nx+1 else nx) (⟨j,e.1.rd,e.1.wr.map fun x=>(x.1,x.2.1)⟩::recs)
theorem qe {P:Program} {nt:Nat} {call:aB} {callR:bo} (hC:callR.Ok call) {ops:Array Oper} {befs:Array Nat}:∀ (l:List Oper) (j:Nat) (fr:aI) (H:aa) (nx:Nat) (recs:List Rec) (x:aI×aa),
 (ou P nt call callR ops befs l j fr H nx recs).run=some x→eZ P nt call ops befs j l (strip fr) H nx recs=some (strip x.1,x.2)
 | [],j,fr,H,nx,recs,x,h=>by rw[← Tr.ae h];rfl
 | o::r,j,fr,H,nx,recs,x,h=>by
   simp only[ou] at h
   obtain ⟨e,h1,h⟩:=Tr.bind_some h
   obtain ⟨hd,hs⟩:=vP hC h1
   unfold eZ
   rw[hd,← hs]
   have:=qe hC r _ _ _ _ _ _ h
   rw[mf,yt] at this
   exact this

def aO:Code→List (Nat×Code)
 | .block id b=>(id,b)::aO b
 | .loop b=>aO b
 | .seq a b=>aO a++aO b
 | .cond _ a b=>aO a++aO b
 | .scope b=>aO b
 | _=>[]
def bz (f:Func):Code:=match f.body with | some c=>c | none=>.skip
abbrev fq:=Ex×aI×aa
def fq.st (x:fq):Ex×az×aa:=(x.1,strip x.2.1,x.2.2)
abbrev eP:=Nat→aI→aa→Option (Tr fq)
abbrev od:=Operand→aI→aa→Option (Tr fq)
def eP.Ok (bl:eP) (cx:Cx) (c:Code):Prop:=∀ id b,(id,b) ∈ aO c→∀ fr H t x,bl id fr H=some t→t.run=some x→exec cx (.block id b) (strip fr) H=some x.st
def ev:Code→List (Operand×Array Tmp×Code×Code)
 | .rangeFunc f ps a b=>[(f,ps,a,b)]
 | .loop b=>ev b
 | .block _ b=>ev b
 | .seq a b=>ev a++ev b
 | .cond _ a b=>ev a++ev b
 | .scope b=>ev b
 | _=>[]
def od.Ok (rg:od) (cx:Cx) (c:Code):Prop:=∀ f ps a b,(f,ps,a,b) ∈ ev c→∀ fr H t x,rg f fr H=some t→t.run=some x→exec cx (.rangeFunc f ps a b) (strip fr) H=some x.st
def dc (bl:eP) (id0:Nat) (dH:az) (H0:aa) (u:Tr fq):eP:=fun id fr H=>cond (Nat.beq id id0) (some (.reqP (strip fr=dH∧H=H0) u)) (bl id fr H)
theorem a8 {bl:eP} {cx:Cx} {c:Code} (h:bl.Ok cx c) {id0:Nat} {dH:az} {H0:aa} {u:Tr fq} {B:Code} (hB:∀ b,(id0,b) ∈ aO c→b=B) (k:∀ x,u.run=some x→exec cx (.block id0 B) dH H0=some x.st):(dc bl id0 dH H0 u).Ok cx c:=by
 intro id b hm fr H t y ht hy
 unfold dc at ht
 cases hb:Nat.beq id id0 with
 | true =>
   have ud:=Nat.eq_of_beq_eq_true hb
   subst ud
   rw[hb,cond_true,Option.some.injEq] at ht
   subst ht
   obtain ⟨⟨h1,h2⟩,h3⟩:=Tr.gz hy
   rw[h1,h2,hB b hm]
   exact k y h3
 | false =>
   rw[hb,cond_false] at ht
   exact h id b hm fr H t y ht hy
def N2 (rg:od) (tf:Operand→Bool) (dH:az) (H0:aa) (u:Tr fq):od:=fun f fr H=>cond (tf f) (some (.reqP (strip fr=dH∧H=H0) u)) (rg f fr H)
theorem K7 {rg:od} {cx:Cx} {c:Code} (h:rg.Ok cx c) {tf:Operand→Bool} {dH:az} {H0:aa} {u:Tr fq} (k:∀ f ps a b,tf f=true→(f,ps,a,b) ∈ ev c→∀ x,u.run=some x→exec cx (.rangeFunc f ps a b) dH H0=some x.st):(N2 rg tf dH H0 u).Ok cx c:=by
 intro f ps a b hm fr H t y ht hy
 unfold N2 at ht
 cases hb:tf f with
 | true =>
   rw[hb,cond_true,Option.some.injEq] at ht
   subst ht
   obtain ⟨⟨h1,h2⟩,h3⟩:=Tr.gz hy
   rw[h1,h2]
   exact k f ps a b hb hm y h3
 | false =>
   rw[hb,cond_false] at ht
   exact h f ps a b hm fr H t y ht hy
def bp:eP:=fun _ _ _=>none
def br:od:=fun _ _ _=>none
theorem ak (cx:Cx) (c:Code):bp.Ok cx c:=fun _ _ _ _ _ _ _ h=>by cases h
theorem al (cx:Cx) (c:Code):br.Ok cx c:=fun _ _ _ _ _ _ _ _ _ h=>by cases h
def x7 (g:AV→AV):aI→aI
 | []=>[]
 | (x,(v,h))::r=>(x,(mY g v,h))::x7 g r
theorem x8 (g:AV→AV):∀ fr:aI,strip (x7 g fr)=pP g (strip fr)
 | []=>rfl
 | (x,(v,h))::r=>by
   have e:x7 g ((x,(v,h))::r)=(x,(mY g v,h))::x7 g r:=rfl
   rw[e,cW,cW,pP,x8 g r]
def kZ (n:Nat):Nat→aI→aa→aI×aa
 | 0,fr,H=>(fr,H)
 | k + 1,fr,H=>match H with
   | []=>(fr,[])
   | l::r=>cond (Nat.ble (iE l.bs) (Nat.succ n)) (fr,l::r) (match hole (strip fr) l.bs 4 n with
     | none=>(fr,l::r)
     | some h=>kZ n k (x7 (um (l.bs.length-1) h) fr) (jv n (pP (um (l.bs.length-1) h) (strip fr)) (wX (l.bs.length-1) h l::r)))
theorem tv (n:Nat):∀ (k:Nat) (fr:aI) (H:aa),(strip (kZ n k fr H).1,(kZ n k fr H).2)=jk n k (strip fr) H
 | 0,fr,H=>rfl
 | k+1,fr,[]=>rfl
 | k + 1,fr,l::r=>by
   cases hb:Nat.ble (iE l.bs) (Nat.succ n) with
   | true =>
     have:kZ n (k+1) fr (l::r)=(fr,l::r):=by
      unfold kZ;dsimp only;rw[hb];rfl
     rw[this,tx (by rw[df] at hb;simpa using hb)]
   | false =>
     unfold kZ jk
     dsimp only
     rw[hb,cond_false]
     cases hole (strip fr) l.bs 4 n with
     | none=>rfl
     | some h =>
       dsimp only
       rw[tv n k,x8]
def CD (n:Nat) (fr:aI) (H:aa):aI×aa:=kZ n 4 fr (jv n (strip fr) H)
theorem F5 (n:Nat) (fr:aI) (H:aa):(strip (CD n fr H).1,(CD n fr H).2)=tidy n (strip fr) H:=tv n 4 fr _
def BO (body:aI→aa→Tr fq) (n:Nat):Nat→aI→aa→Tr fq
 | 0,_,_=>.bad
 | k+1,fr,H=>(body fr H).bind fun x=>match x with
   | (.normal,fr,H)=>BO body n k (CD n fr H).1 (CD n fr H).2
   | r=>.ok r
theorem uZ {body:az→aa→Option (Ex×az×aa)} {n:Nat}:∀ (k m:Nat) (fr:az) (H:aa) (x:Ex×az×aa),iter body n k fr H=some x→k≤m→iter body n m fr H=some x
 | 0,m,fr,H,x,h,_=>by simp[iter] at h
 | k+1,0,fr,H,x,h,hk=>by omega
 | k + 1,m+1,fr,H,x,h,hk=>by
   unfold iter at h ⊢
   cases hb:body fr H with
   | none=>rw[hb] at h;simp at h
   | some y =>
     rw[hb] at h
     obtain ⟨e,f,g⟩:=y
     cases e
     case normal=>exact uZ k m _ _ _ h (by omega)
     all_goals exact h
theorem xP {body:aI→aa→Tr fq} {body':az→aa→Option (Ex×az×aa)} {n:Nat} (hb:∀ fr H x,(body fr H).run=some x→body' (strip fr) H=some x.st):∀ (k:Nat) (fr:aI) (H:aa) (x:fq),(BO body n k fr H).run=some x→iter body' n k (strip fr) H=some x.st
 | 0,fr,H,x,h=>(Tr.ag h).elim
 | k+1,fr,H,x,h=>by
   simp only[BO] at h
   obtain ⟨y,h1,h⟩:=Tr.bind_some h
   unfold iter
   rw[hb _ _ _ h1]
   obtain ⟨e,f,g⟩:=y
   cases e
   case normal =>
    have e:=F5 n f g
    have h:=xP hb k _ _ _ h
    show iter body' n k (tidy n (strip f) g).1 (tidy n (strip f) g).2=_
    rw[← e];exact h
   all_goals
    have h:=Tr.ae h
    rw[← h];rfl
def nB (f:AV→Tr AV):List AV→Tr (List AV)
 | []=>.ok []
 | v::l=>(f v).bind fun u=>(nB f l).bind fun m=>.ok (u::m)
theorem eG {f:AV→Tr AV} {g:AV→AV} (hf:∀ v u,(f v).run=some u→g v=u):∀ (l m:List AV),(nB f l).run=some m→l.map g=m
 | [],m,h=>Tr.ae h
 | v::l,m,h=>by
   simp only[nB] at h
   obtain ⟨u,h1,h⟩:=Tr.bind_some h
   obtain ⟨n,h2,h⟩:=Tr.bind_some h
   rw[← Tr.ae h,List.map_cons,hf _ _ h1,eG hf l n h2]
def l7 (f:AV→Tr AV):List an→Tr (List an)
 | []=>.ok []
 | .one v::l=>(f v).bind fun u=>(l7 f l).bind fun m=>.ok (.one u::m)
 | .arr k z n::l=>(l7 f l).bind fun m=>.ok (.arr k z n::m)
theorem gR {f:AV→Tr AV} {g:AV→AV} (hf:∀ v u,(f v).run=some u→g v=u):∀ (l m:List an),(l7 f l).run=some m→mapM' g l=m
 | [],m,h=>Tr.ae h
 | .one v::l,m,h=>by
   simp only[l7] at h
   obtain ⟨u,h1,h⟩:=Tr.bind_some h
   obtain ⟨n,h2,h⟩:=Tr.bind_some h
   rw[← Tr.ae h,mapM',hf _ _ h1,gR hf l n h2]
 | .arr k z n::l,m,h=>by
   simp only[l7] at h
   obtain ⟨n,h2,h⟩:=Tr.bind_some h
   rw[← Tr.ae h,mapM',gR hf l n h2]
def qc (cap:Option Nat) (len:Nat):Bool :=
 match cap with
 | none=>false
 | some c=>cG c len
theorem jV (cap:Option Nat) (len:Nat):qc cap len=(cap == some len):=by
 cases cap with
 | none=>rfl
 | some c=>simp only[qc,fO];rw[Bool.eq_iff_iff];simp
def xK (i ver:Nat) (r:Row):AV→Tr AV
 | .ptr d j v off=>cond (Nat.beq d 0 && Nat.beq j i) (.req (cG v ver) (.ok (.ptrT none r off))) (.ok (.ptr d j v off))
 | .slc d j v off sz len cap=>cond (Nat.beq d 0 && Nat.beq j i) (.req (cG v ver) (match r with
    | .M [.arr k z N]=>.req (fC off (fE len sz) 0 N) (.ok (.slcT none (.M [.arr k (rv z off) (fE len sz)]) sz len (qc cap len)))
    | .I k l=>cond (ub (.I k l) off (Nat.mul len sz)) (.ok (.slcT none (.I k (iA (lj l off) (Nat.mul len sz))) sz len (qc cap len))) .bad
    | _=>.bad)) (.ok (.slc d j v off sz len cap))
 | v=>.ok v
theorem uE {d j i:Nat} {x:Bool} (h:(Nat.beq d 0 && Nat.beq j i)=true):(Nat.beq d 0 && (Nat.beq j i && x))=x:=by
 rw[Bool.and_eq_true] at h
 rw[h.1,h.2];rfl
theorem uF {d j i:Nat} {x:Bool} (h:(Nat.beq d 0 && Nat.beq j i)=false):(Nat.beq d 0 && (Nat.beq j i && x))=false:=by
 rw[← Bool.and_assoc,h];rfl
theorem xL {i ver:Nat} {r:Row}:∀ v u,(xK i ver r v).run=some u→mX i ver r v=u:=by
 intro v u h
 cases v with
 | ptr d j v off =>
   simp only[xK] at h
   simp only[mX]
   cases hc:(Nat.beq d 0 && Nat.beq j i) with
   | false=>rw[hc,cond_false] at h;rw[uF hc,if_neg (by simp)];exact Tr.ae h
   | true =>
     rw[hc,cond_true] at h
     obtain ⟨h1,h⟩:=Tr.aL h
     rw[fO,decide_eq_true_eq] at h1
     rw[uE hc,if_pos (by simpa using h1)];exact Tr.ae h
 | slc d j v off sz len cap =>
   simp only[xK] at h
   simp only[mX]
   cases hc:(Nat.beq d 0 && Nat.beq j i) with
   | false=>rw[hc,cond_false] at h;rw[uF hc,if_neg (by simp)];exact Tr.ae h
   | true =>
     rw[hc,cond_true] at h
     obtain ⟨h1,h2⟩:=Tr.aL h
     clear h
     rw[fO,decide_eq_true_eq] at h1
     rw[uE hc]
     split at h2
     · obtain ⟨h3,h⟩:=Tr.aL h2
       rw[jJ,decide_eq_true_eq,cC] at h3
       rw[if_pos (by simp[h1,Row.len,ay,aG];omega),← Tr.ae h,jV,cC,mr]
       rfl
     · obtain ⟨h3,h⟩:=Tr.aP h2
       rw[kE,decide_eq_true_eq] at h3
       rw[if_pos (by simp only[h1,Bool.and_eq_true];exact ⟨by simp,Nat.ble_eq_true_of_le h3⟩),← Tr.ae h,jV,gh,gO]
       rfl
     · exact (Tr.ag h2).elim
 | _=>exact Tr.ae h
def x9 (f:AV→Tr AV) (v:AV):Tr AV :=
 match v with
 | .agg (.G l)=>(nB f l).bind fun m=>.ok (.agg (.G m))
 | .agg (.M l)=>(l7 f l).bind fun m=>.ok (.agg (.M m))
 | .fn g a b=>(nB f a).bind fun a'=>(nB f b).bind fun b'=>.ok (.fn g a' b')
 | v=>f v
theorem sD {f:AV→Tr AV} {g:AV→AV} (hf:∀ v u,(f v).run=some u→g v=u):∀ v u,(x9 f v).run=some u→mY g v=u:=by
 intro v u h
 unfold x9 at h
 split at h
 · obtain ⟨m,h1,h⟩:=Tr.bind_some h
   rw[← Tr.ae h,← eG hf _ _ h1];rfl
 · obtain ⟨m,h1,h⟩:=Tr.bind_some h
   rw[← Tr.ae h,← gR hf _ _ h1];rfl
 · obtain ⟨a',h1,h⟩:=Tr.bind_some h
   obtain ⟨b',h2,h⟩:=Tr.bind_some h
   rw[← Tr.ae h,← eG hf _ _ h1,← eG hf _ _ h2];rfl
 · rename_i n1 n2 n3
   have:=hf _ _ h
   rw[← this]
   unfold mY
   split
   · exact absurd rfl (n1 _)
   · exact absurd rfl (n2 _)
   · exact absurd rfl (n3 _ _ _)
   · rfl
def Fa (f:AV→Tr AV):aq→Tr aq
 | .row r=>match r with
   | .G l=>(nB (x9 f) l).bind fun m=>.ok (.row (.G m))
   | .M l=>(l7 (x9 f) l).bind fun m=>.ok (.row (.M m))
   | r=>.ok (.row r)
 | b=>.ok b
theorem Fb {f:AV→Tr AV} {g:AV→AV} (hf:∀ v u,(f v).run=some u→g v=u) (b u:aq) (h:(Fa f b).run=some u):pO g b=u:=by
 cases b with
 | row r =>
   simp only[Fa] at h
   cases r with
   | G l =>
     obtain ⟨m,h1,h⟩:=Tr.bind_some h
     rw[← Tr.ae h,← eG (sD hf) _ _ h1];rfl
   | M l =>
     obtain ⟨m,h1,h⟩:=Tr.bind_some h
     rw[← Tr.ae h,← gR (sD hf) _ _ h1];rfl
   | I k l=>rw[← Tr.ae h];rfl
   | F z n=>rw[← Tr.ae h];rfl
 | dead=>exact Tr.ae h
 | map es=>exact Tr.ae h
 | fmap kq f g c=>exact Tr.ae h
 | loop l=>exact Tr.ae h
def wg (f:AV→Tr AV):List (Nat×aq)→Tr (List (Nat×aq))
 | []=>.ok []
 | (v,b)::r=>(Fa f b).bind fun b'=>(wg f r).bind fun r'=>.ok ((v,b')::r')
theorem vf {f:AV→Tr AV} {g:AV→AV} (hf:∀ v u,(f v).run=some u→g v=u):∀ (l m:List (Nat×aq)),(wg f l).run=some m→jy g l=m
 | [],m,h=>Tr.ae h
 | (v,b)::r,m,h=>by
   simp only[wg] at h
   obtain ⟨b',h1,h⟩:=Tr.bind_some h
   obtain ⟨r',h2,h⟩:=Tr.bind_some h
   rw[← Tr.ae h,jy,Fb hf _ _ h1,vf hf r r' h2]
def BW (f:AV→Tr AV):aI→Tr aI
 | []=>.ok []
 | (x,(v,h))::r=>(x9 f v).bind fun v'=>(BW f r).bind fun r'=>.ok ((x,(v',h))::r')
theorem x6 {f:AV→Tr AV} {g:AV→AV} (hf:∀ v u,(f v).run=some u→g v=u):∀ (l m:aI),(BW f l).run=some m→pP g (strip l)=strip m
 | [],m,h=>by rw[← Tr.ae h];rfl
 | (x,(v,hh))::r,m,h=>by
   simp only[BW] at h
   obtain ⟨v',h1,h⟩:=Tr.bind_some h
   obtain ⟨r',h2,h⟩:=Tr.bind_some h
   rw[← Tr.ae h,cW,cW,pP,sD hf _ _ h1,x6 hf r r' h2]
def sn (i:Nat) (fr:aI) (l:bA):Tr (aI×bA) :=
 match AB l.bs i with
 | (ver,.row r)=>cond (wa r && (tR (fun x=>pn (o6 i) x.2) (strip fr) || tR (fun x=>Lb (o6 i) x.2) l.bs)) ((BW (xK i ver r) fr).bind fun fr'=>(wg (xK i ver r) l.bs).bind fun bs'=>.ok (fr',{ l with bs:=bC bs' i (ver,.dead) })) (.ok (fr,l))
 | _=>.ok (fr,l)
theorem pF {i:Nat} {fr:aI} {l:bA} {y:aI×bA} (h:(sn i fr l).run=some y):lS i (strip fr) l=(strip y.1,y.2):=by
 unfold sn at h
 unfold lS
 rw[rl] at h
 split at h
 · rename_i ver r hb
   rw[hb]
   dsimp only
   rw[oe,oe] at h
   cases hc:(wa r && ((strip fr).any (fun x=>pn (o6 i) x.2) || l.bs.any (fun x=>Lb (o6 i) x.2))) with
   | true =>
     rw[hc,cond_true] at h
     obtain ⟨fr',h1,h⟩:=Tr.bind_some h
     obtain ⟨bs',h2,h⟩:=Tr.bind_some h
     rw[if_pos rfl,x6 xL _ _ h1,vf xL _ _ h2,← Tr.ae h]
   | false =>
     rw[hc,cond_false] at h
     rw[if_neg (by simp),← Tr.ae h]
 · rename_i hno
   have h:=Tr.ae h
   subst h
   split
   · rename_i ver r hb
     exact absurd hb (hno ver r)
   · rfl
def ra:Nat→aI→bA→Tr (aI×bA)
 | 0,fr,l=>.ok (fr,l)
 | n+1,fr,l=>(ra n fr l).bind fun y=>sn n y.1 y.2
theorem sl:∀ (n:Nat) (fr:aI) (l:bA) (y:aI×bA),(ra n fr l).run=some y→iX n (strip fr) l=(strip y.1,y.2)
 | 0,fr,l,y,h=>by rw[← Tr.ae h];rfl
 | n+1,fr,l,y,h=>by
   simp only[ra] at h
   obtain ⟨z,h1,h⟩:=Tr.bind_some h
   have h1:=sl n fr l z h1
   simp only[iX]
   rw[h1]
   exact pF h
def oI:Nat→aI→bA→Tr (aI×bA)
 | 0,fr,l=>.ok (fr,l)
 | n+1,fr,l=>(oI n fr l).bind fun y=>cond (tR (fun x=>pn (o6 n) x.2) (strip y.1)) (.ok y) (sn n y.1 y.2)
theorem qo:∀ (n:Nat) (fr:aI) (l:bA) (y:aI×bA),(oI n fr l).run=some y→dR n (strip fr) l=(strip y.1,y.2)
 | 0,fr,l,y,h=>by rw[← Tr.ae h];rfl
 | n + 1,fr,l,y,h=>by
   simp only[oI] at h
   obtain ⟨z,h1,h⟩:=Tr.bind_some h
   have h1:=qo n fr l z h1
   simp only[dR]
   rw[h1]
   dsimp only
   rw[oe] at h
   cases hc:(strip z.1).any (fun x=>pn (o6 n) x.2) with
   | true =>
     rw[hc,cond_true] at h
     rw[if_pos rfl,Tr.ae h]
   | false =>
     rw[hc,cond_false] at h
     rw[if_neg (by simp)]
     exact pF h
def BR (s:Nat):aI→Option Nat
 | []=>none
 | (x,(v,_))::r=>cond (Nat.beq x s) (match v with
   | .slc 0 i _ _ _ _ _=>some i
   | _=>none) (BR s r)
theorem xV (s:Nat):∀ fr:aI,BR s fr=BQ s (strip fr)
 | []=>rfl
 | (x,(v,h))::r=>by
   rw[cW]
   simp only[BR,BQ,xV s r]
   cases Nat.beq x s<;>rfl
def v8 (s:Nat) (fr:aI) (H:aa):Tr (aI×aa) :=
 match H with
 | []=>.ok (fr,[])
 | l::r=>cond l.lock (.ok (fr,l::r)) (match BR s fr with
   | some i=>(sn i fr l).bind fun y=>.ok (y.1,y.2::r)
   | none=>.ok (fr,l::r))
theorem Ak {s:Nat} {fr:aI} {H:aa} {y:aI×aa} (h:(v8 s fr H).run=some y):v7 s (strip fr) H=(strip y.1,y.2):=by
 unfold v8 at h
 unfold v7
 cases H with
 | nil=>rw[← Tr.ae h]
 | cons l r =>
   dsimp only at h ⊢
   cases hl:l.lock with
   | true =>
     rw[hl,cond_true] at h
     rw[if_pos rfl,← Tr.ae h]
   | false =>
     rw[hl,cond_false,xV] at h
     rw[if_neg (by simp)]
     split at h
     · rename_i i hi
       obtain ⟨z,h1,h⟩:=Tr.bind_some h
       have h1:=pF h1
       rw[hi]
       dsimp only
       rw[h1,← Tr.ae h]
     · rename_i hi
       rw[hi,← Tr.ae h]
def Aj (m:Nat) (fr:aI) (H:aa):Tr (aI×aa) :=
 cond (nD m 4000) (match H with
  | []=>.ok (gv fr m,[])
  | l::r=>cond l.lock (.ok (gv fr m,l::r)) ((ra (iE l.bs) (gv fr m) l).bind fun y=>.ok (y.1,cond (Nat.beq (Nat.shiftRight m 4003) 0) (y.2::r) (Fl (Nat.shiftRight m 4003) (y.2::r))))) (cond (nD m 4001) (v8 (Nat.shiftRight m 4003) (gv fr m) H) (cond (nD m 4002) (vB (gv fr m) (Nat.shiftRight m 4003) (fun fr=>.ok (fr,H)) (fun fr=>match H with
  | []=>.ok (fr,[])
  | l::r=>cond l.lock (.ok (fr,l::r)) ((oI (iE l.bs) fr l).bind fun y=>.ok (y.1,y.2::r)))) (.ok (gv fr m,H))))
theorem Da {m:Nat} {fr:aI} {H:aa} {y:aI×aa} (h:(Aj m fr H).run=some y):lT m (strip fr) H=(strip y.1,y.2):=by
 unfold Aj at h
 unfold lT
 cases hm:nD m 4000 with
 | false =>
   rw[hm,cond_false] at h
   rw[if_neg (by simp)]
   cases hm2:nD m 4001 with
   | false =>
     rw[hm2,cond_false] at h
     rw[if_neg (by simp)]
     cases hm3:nD m 4002 with
     | false =>
       rw[hm3,cond_false] at h
       rw[if_neg (by simp),← Tr.ae h,eD]
     | true =>
       rw[hm3,cond_true] at h
       rw[if_pos rfl]
       obtain ⟨b,fr',h1,h2,h3⟩:=kY h
       rw[eD] at h1 h2
       rw[h1]
       cases b with
       | true =>
         simp only[if_true] at h3
         rw[← Tr.ae h3,h2]
       | false =>
         simp only[Bool.false_eq_true,if_false] at h3
         cases H with
         | nil =>
           dsimp only at h3
           rw[← Tr.ae h3,← h2];rfl
         | cons l r =>
           dsimp only at h3
           show ue (bJ (strip fr) m) (l::r)=_
           rw[← h2]
           unfold ue
           dsimp only
           cases hl:l.lock with
           | true =>
             rw[hl,cond_true] at h3
             rw[if_pos rfl,← Tr.ae h3]
           | false =>
             rw[hl,cond_false] at h3
             obtain ⟨z,h4,h5⟩:=Tr.bind_some h3
             have h4:=qo _ _ _ _ h4
             rw[df] at h4
             rw[if_neg (by simp),h4,← Tr.ae h5]
   | true =>
     rw[hm2,cond_true] at h
     rw[if_pos rfl]
     have h1:=Ak h
     rw[eD] at h1
     exact h1
 | true =>
   rw[hm,cond_true] at h
   rw[if_pos rfl]
   cases H with
   | nil =>
     rw[← Tr.ae h,eD]
     simp only[C9,Fl,ite_self]
   | cons l r =>
     dsimp only at h
     unfold C9
     dsimp only
     cases hl:l.lock with
     | true =>
       rw[hl,cond_true] at h
       simp only[if_true]
       rw[← Tr.ae h,eD]
       simp only[Fl,hl,if_true,ite_self]
     | false =>
       rw[hl,cond_false] at h
       obtain ⟨z,h1,h⟩:=Tr.bind_some h
       have h1:=sl _ _ _ _ h1
       rw[df,eD] at h1
       simp only[Bool.false_eq_true,if_false,h1]
       rw[← Tr.ae h]
       cases Nat.beq (Nat.shiftRight m 4003) 0<;>rfl
def aW (cx:Cx) (callR:bo) (bl:eP) (rg:od):Code→aI→aa→Tr fq
 | .skip,fr,H=>.ok (.normal,fr,H)
 | .label _,fr,H=>.ok (.normal,fr,H)
 | .exit id,fr,H=>.ok (.exit id,fr,H)
 | .goto l,fr,H=>.ok (.goto l,fr,H)
 | .ret,fr,H=>.ok (.ret,fr,H)
 | .region id ops draw,fr,H =>
   (cond draw (cond (eJ ops (Region.before ops)) (ou cx.P cx.nt cx.call callR ops (Region.before ops) ops.toList 0 fr (lP H (cu ops.toList)) (fg H) []) .bad) (iI cx.P cx.nt cx.call callR ops ops.toList fr H)).bind fun x=>(Aj (cx.kt id) x.1 x.2).bind fun y=>.ok (.normal,y.1,y.2)
 | .seq a b,fr,H=>(aW cx callR bl rg a fr H).bind fun x=>match x with
   | (.normal,fr,H)=>aW cx callR bl rg b fr H
   | r=>.ok r
 | .cond c a b,fr,H=>match c with
   | .tmp d=>vB fr d (fun fr=>aW cx callR bl rg a fr H) (fun fr=>aW cx callR bl rg b fr H)
   | c=>match (bU fr c).1 with
     | .bool t=>cond t (aW cx callR bl rg a fr H) (aW cx callR bl rg b fr H)
     | _=>.bad
 | .block id b,fr,H=>match bl id fr H with
   | some t=>t
   | none=>(aW cx callR bl rg b fr H).bind fun x=>match x with
     | (.exit id',fr,H)=>cond (Nat.beq id' id) (.ok (.normal,fr,H)) (.ok (.exit id',fr,H))
     | r=>.ok r
 | .scope b,fr,H=>(aW cx callR bl rg b fr H).bind fun x=>match x with
   | (.goto _,_,_)=>.bad
   | r=>.ok r
 | .rangeFunc f _ _ _,fr,H=>match rg f fr H with
   | some t=>t
   | none=>.bad
 | .loop b,fr,H=>cond (Nat.ble 12 cx.fu) (BO (aW cx callR bl rg b) (fg H) 12 fr H) .bad
 | .refuse _,_,_=>.bad

theorem fP {cx:Cx} {callR:bo} {bl:eP} {rg:od} (hC:callR.Ok cx.call):∀ (c:Code),bl.Ok cx c→rg.Ok cx c→∀ (fr:aI) (H:aa) (x:fq),(aW cx callR bl rg c fr H).run=some x→exec cx c (strip fr) H=some x.st:=by
 intro c
 induction c with
 | skip=>intro _ _ fr H x h;rw[← Tr.ae h];rfl
 | label=>intro _ _ fr H x h;rw[← Tr.ae h];rfl
 | exit=>intro _ _ fr H x h;rw[← Tr.ae h];rfl
 | goto=>intro _ _ fr H x h;rw[← Tr.ae h];rfl
 | ret=>intro _ _ fr H x h;rw[← Tr.ae h];rfl
 | refuse=>intro _ _ fr H x h;exact (Tr.ag h).elim
 | loop b ih =>
   intro hb hr fr H x h
   simp only[aW] at h
   obtain ⟨hk,h⟩:=Tr.aP h
   rw[Nat.ble_eq] at hk
   unfold exec
   rw[gw] at h
   exact uZ _ _ _ _ _ (xP (fun fr H x h=>ih hb hr fr H x h) 12 fr H x h) hk
 | rangeFunc f ps a b =>
   intro _ hr fr H x h
   simp only[aW] at h
   split at h
   · rename_i t ht
     exact hr f ps a b (by simp[ev]) fr H t x ht h
   · exact (Tr.ag h).elim
 | region id ops draw =>
   intro _ _ fr H x h
   simp only[aW] at h
   obtain ⟨y,h1,h⟩:=Tr.bind_some h
   obtain ⟨z,h2,h⟩:=Tr.bind_some h
   have h2:=Da h2
   rw[← Tr.ae h]
   unfold exec
   cases draw with
   | true =>
     rw[cond_true] at h1
     obtain ⟨hs,h1⟩:=Tr.aP h1
     rw[gw] at h1
     simp only[if_true,hs]
     rw[qe hC _ _ _ _ _ _ _ h1]
     dsimp only
     rw[h2]
     rfl
   | false =>
     rw[cond_false] at h1
     simp only[Bool.false_eq_true,if_false]
     rw[fm hC _ _ _ _ h1]
     dsimp only
     rw[h2]
     rfl
 | seq a b iha ihb =>
   intro hb hr fr H x h
   have hba:bl.Ok cx a:=fun id b' hm=>hb id b' (List.mem_append_left _ hm)
   have hbb:bl.Ok cx b:=fun id b' hm=>hb id b' (List.mem_append_right _ hm)
   have hra:rg.Ok cx a:=fun f ps u v hm=>hr f ps u v (List.mem_append_left _ hm)
   have hrb:rg.Ok cx b:=fun f ps u v hm=>hr f ps u v (List.mem_append_right _ hm)
   simp only[aW] at h
   obtain ⟨y,h1,h⟩:=Tr.bind_some h
   have h1:=iha hba hra _ _ _ h1
   unfold exec
   rw[h1]
   obtain ⟨e,fr1,H1⟩:=y
   cases e
   case normal=>exact ihb hbb hrb _ _ _ h
   all_goals
    have h:=Tr.ae h
    rw[← h];rfl
 | cond c a b iha ihb =>
   intro hb hr fr H x h
   have hba:bl.Ok cx a:=fun id b' hm=>hb id b' (List.mem_append_left _ hm)
   have hbb:bl.Ok cx b:=fun id b' hm=>hb id b' (List.mem_append_right _ hm)
   have hra:rg.Ok cx a:=fun f ps u v hm=>hr f ps u v (List.mem_append_left _ hm)
   have hrb:rg.Ok cx b:=fun f ps u v hm=>hr f ps u v (List.mem_append_right _ hm)
   simp only[aW] at h
   unfold exec
   split at h
   · rename_i d
     obtain ⟨b',fr',h1,h2,h3⟩:=kY h
     have e:bG (strip fr) (.tmp d)=.bool b':=h1
     rw[e,← h2]
     cases b' with
     | true=>exact iha hba hra _ _ _ h3
     | false=>exact ihb hbb hrb _ _ _ h3
   · rename_i c' hne
     rw[aU] at h
     split at h
     · rename_i t hc
       rw[hc]
       cases t with
       | true=>exact iha hba hra _ _ _ h
       | false=>exact ihb hbb hrb _ _ _ h
     · exact (Tr.ag h).elim
 | block id b ih =>
   intro hb hr fr H x h
   have hbb:bl.Ok cx b:=fun id' b' hm=>hb id' b' (by simp only[aO];exact List.mem_cons_of_mem _ hm)
   simp only[aW] at h
   split at h
   · rename_i t ht
     exact hb id b (by simp[aO]) _ _ _ _ ht h
   · obtain ⟨y,h1,h⟩:=Tr.bind_some h
     have h1:=ih hbb hr _ _ _ h1
     unfold exec
     rw[h1]
     obtain ⟨e,fr1,H1⟩:=y
     cases e
     case exit id' =>
      dsimp only[fq.st] at h ⊢
      rw[fM] at h
      split at h
      · rename_i ud
        rw[if_pos ud,← Tr.ae h]
      · rename_i ud
        rw[if_neg ud,← Tr.ae h]
     all_goals
      have h:=Tr.ae h
      rw[← h];rfl
 | scope b ih =>
   intro hb hr fr H x h
   simp only[aW] at h
   obtain ⟨y,h1,h⟩:=Tr.bind_some h
   have h1:=ih hb hr _ _ _ h1
   unfold exec
   rw[h1]
   obtain ⟨e,fr1,H1⟩:=y
   cases e
   case goto=>exact (Tr.ag h).elim
   all_goals
    have h:=Tr.ae h
    rw[← h];rfl

end
end Go.Eng
end
section
namespace Go.Eng
noncomputable section

def mW   (bs:List (Nat×aq)):Nat→AV→Tr AV
 | 0,_=>.ok .undef
 | n + 1,v=>match v with
   | .ptr d i ver off=>match d with
     | d+1=>.ok (.ptr d i ver off)
     | 0 => match AB bs i with
       | (w,.row r)=>cond (Nat.beq w ver) (match r with
         | .I k l=>.ok (.ptrT none (.I k l) off)
         | .F f m=>.ok (.ptrT none (.F f m) off)
         | .M l=>cond (fJ l) (.ok (.ptrT none (.M l) off)) ((l7 (mW bs n) l).bind fun m=>.ok (.ptrT (some 0) (.M m) off))
         | .G l=>(nB (mW bs n) l).bind fun m=>.ok (.ptrT (some 0) (.G m) off)) .bad
       | _=>.bad
   | .slc d i ver off sz len cap=>match d with
     | d+1=>.ok (.slc d i ver off sz len cap)
     | 0 => match AB bs i with
       | (w,.row r)=>.req (cG w ver) (match r with
         | .M [.arr k z N]=>.req (fC off (fE len sz) 0 N) (.ok (.slcT none (.M [.arr k (rv z off) (fE len sz)]) sz len (qc cap len)))
         | .I k l=>cond (ub (.I k l) off (Nat.mul len sz)) (.ok (.slcT none (.I k (iA (lj l off) (Nat.mul len sz))) sz len (qc cap len))) .bad
         | .F f N=>.req (fC off (fE len sz) 0 N) (.ok (.slcT none (.F (fun j=>f (av off j)) (fE len sz)) sz len (qc cap len)))
         | .G l=>cond (ub (.G l) off (Nat.mul len sz)) ((nB (mW bs n) (iA (lj l off) (Nat.mul len sz))).bind fun m=>.ok (.slcT (some 0) (.G m) sz len (qc cap len))) .bad
         | _=>.bad)
       | _=>.bad
   | .ptrT s r off=>match s with
     | none=>.ok (.ptrT none r off)
     | some (s+1)=>.ok (.ptrT (some s) r off)
     | some 0=>match r with
       | .G l=>(nB (mW bs n) l).bind fun m=>.ok (.ptrT (some 0) (.G m) off)
       | .M l=>cond (fJ l) (.ok (.ptrT none (.M l) off)) ((l7 (mW bs n) l).bind fun m=>.ok (.ptrT (some 0) (.M m) off))
       | r=>.ok (.ptrT none r off)
   | .slcT s r sz len full=>match s with
     | none=>.ok (.slcT none r sz len full)
     | some (s+1)=>.ok (.slcT (some s) r sz len full)
     | some 0=>match r with
       | .G l=>(nB (mW bs n) l).bind fun m=>.ok (.slcT (some 0) (.G m) sz len full)
       | .M l=>cond (fJ l) (.ok (.slcT none (.M l) sz len full)) ((l7 (mW bs n) l).bind fun m=>.ok (.slcT (some 0) (.M m) sz len full))
       | r=>.ok (.slcT none r sz len full)
   | .map d i=>match d with
     | d+1=>.ok (.map d i)
     | 0=>.ok .undef
   | .yld d i=>match d with
     | d+1=>.ok (.yld d i)
     | 0=>.ok .undef
   | .fn f a b=>(nB (mW bs n) a).bind fun a'=>(nB (mW bs n) b).bind fun b'=>.ok (.fn f a' b')
   | .agg r=>match r with
     | .G l=>(nB (mW bs n) l).bind fun m=>.ok (.agg (.G m))
     | .M l=>(l7 (mW bs n) l).bind fun m=>.ok (.agg (.M m))
     | r=>.ok (.agg r)
   | .tup l=>(nB (mW bs n) l).bind fun m=>.ok (.tup m)
   | v=>.ok v
theorem BC (bs:List (Nat×aq)):∀ (n:Nat) (v u:AV),(mW bs n v).run=some u→c8 bs n v=u
 | 0,v,u,h=>Tr.ae h
 | n + 1,v,  u,h=>by
   have ih:=BC bs n
   simp only[mW,rl] at h
   cases v with
   | ptr d i ver off =>
     cases d with
     | succ d=>exact Tr.ae h
     | zero =>
       dsimp only at h
       simp only[c8]
       split at h
       · rename_i w r hg
         obtain ⟨hw,h⟩:=Tr.aP h
         rw[hg]
         dsimp only
         rw[if_pos hw]
         cases r with
         | I k l=>exact Tr.ae h
         | F f m=>exact Tr.ae h
         | G l =>
           obtain ⟨m,h1,h⟩:=Tr.bind_some h
           rw[← Tr.ae h,← eG ih _ _ h1]
         | M l =>
           dsimp only at h ⊢
           cases ha:fJ l with
           | true=>rw[ha,cond_true] at h;rw[if_pos rfl];exact Tr.ae h
           | false =>
             rw[ha,cond_false] at h
             obtain ⟨m,h1,h⟩:=Tr.bind_some h
             rw[if_neg (by simp),← Tr.ae h,← gR ih _ _ h1]
       · exact (Tr.ag h).elim
   | slc d i ver off sz len cap =>
     cases d with
     | succ d=>exact Tr.ae h
     | zero =>
       dsimp only at h
       simp only[c8]
       split at h
       · rename_i w r hg
         obtain ⟨hw,h'⟩:=Tr.aL h
         clear h
         rw[fO,decide_eq_true_eq] at hw
         subst hw
         rw[hg]
         dsimp only
         split at h'
         · rename_i k z N
           have h:=h'
           obtain ⟨hc,h⟩:=Tr.aL h
           rw[jJ,decide_eq_true_eq,cC] at hc
           rw[if_pos ⟨by simp,by simp only[Row.len,ay,aG];omega⟩,← Tr.ae h,jV,cC,mr]
           simp only[Row.sub,fJ,if_true]
         · have h:=h'
           obtain ⟨hc,h⟩:=Tr.aP h
           rw[kE,decide_eq_true_eq] at hc
           rw[if_pos ⟨by simp,hc⟩,← Tr.ae h,jV,gh,gO]
           rfl
         · have h:=h'
           obtain ⟨hc,h⟩:=Tr.aL h
           rw[jJ,decide_eq_true_eq,cC] at hc
           rw[if_pos ⟨by simp,by simp only[Row.len];omega⟩,← Tr.ae h,jV,cC]
           simp only[Row.sub,aH]
         · have h:=h'
           obtain ⟨hc,h⟩:=Tr.aP h
           rw[kE,decide_eq_true_eq] at hc
           obtain ⟨m,h1,h⟩:=Tr.bind_some h
           rw[gh,gO] at h1
           rw[if_pos ⟨by simp,hc⟩,← Tr.ae h,jV,← eG ih _ _ h1]
           rfl
         · exact (Tr.ag h').elim
       · exact (Tr.ag h).elim
   | ptrT s r off =>
     cases s with
     | none=>exact Tr.ae h
     | some s =>
       cases s with
       | succ s=>exact Tr.ae h
       | zero =>
         simp only[c8]
         cases r with
         | I k l=>exact Tr.ae h
         | F f m=>exact Tr.ae h
         | G l =>
           obtain ⟨m,h1,h⟩:=Tr.bind_some h
           rw[← Tr.ae h,← eG ih _ _ h1]
         | M l =>
           dsimp only at h ⊢
           cases ha:fJ l with
           | true=>rw[ha,cond_true] at h;rw[if_pos rfl];exact Tr.ae h
           | false =>
             rw[ha,cond_false] at h
             obtain ⟨m,h1,h⟩:=Tr.bind_some h
             rw[if_neg (by simp),← Tr.ae h,← gR ih _ _ h1]
   | slcT s r sz len full =>
     cases s with
     | none=>exact Tr.ae h
     | some s =>
       cases s with
       | succ s=>exact Tr.ae h
       | zero =>
         simp only[c8]
         cases r with
         | I k l=>exact Tr.ae h
         | F f m=>exact Tr.ae h
         | G l =>
           obtain ⟨m,h1,h⟩:=Tr.bind_some h
           rw[← Tr.ae h,← eG ih _ _ h1]
         | M l =>
           dsimp only at h ⊢
           cases ha:fJ l with
           | true=>rw[ha,cond_true] at h;rw[if_pos rfl];exact Tr.ae h
           | false =>
             rw[ha,cond_false] at h
             obtain ⟨m,h1,h⟩:=Tr.bind_some h
             rw[if_neg (by simp),← Tr.ae h,← gR ih _ _ h1]
   | map d i=>cases d<;>exact Tr.ae h
   | yld d i=>cases d<;>exact Tr.ae h
   | fn f a b =>
     obtain ⟨a',h1,h⟩:=Tr.bind_some h
     obtain ⟨b',h2,h⟩:=Tr.bind_some h
     simp only[c8]
     rw[← Tr.ae h,← eG ih _ _ h1,← eG ih _ _ h2]
   | agg r =>
     simp only[c8]
     cases r with
     | I k l=>exact Tr.ae h
     | F f m=>exact Tr.ae h
     | G l =>
       obtain ⟨m,h1,h⟩:=Tr.bind_some h
       rw[← Tr.ae h,← eG ih _ _ h1]
     | M l =>
       obtain ⟨m,h1,h⟩:=Tr.bind_some h
       rw[← Tr.ae h,← gR ih _ _ h1]
   | tup l =>
     obtain ⟨m,h1,h⟩:=Tr.bind_some h
     simp only[c8]
     rw[← Tr.ae h,← eG ih _ _ h1]
   | _=>exact Tr.ae h

def Gz (l:List HV):Nat→aI:=List.rec (motive:=fun _=>Nat→aI) (fun _=>[]) (fun v _ ih x=>(x,(lu 1 v.1,v.2))::ih (Nat.succ x)) l
theorem vG:∀ (l:List HV) (x:Nat),strip (Gz l x)=fe x (mz l)
 | [],x=>rfl
 | v::l,x=>by
   have e:Gz (v::l) x=(x,(lu 1 v.1,v.2))::Gz l (x+1):=rfl
   rw[e,cW,vG l];rfl
def hints (f:az):aI:=List.rec (motive:=fun _=>aI) [] (fun p _ ih=>(p.1,(p.2,none))::ih) f
theorem aV:∀ f:az,strip (hints f)=f
 | []=>rfl
 | (x,v)::r=>by
   have e:hints ((x,v)::r)=(x,(v,none))::hints r:=rfl
   rw[e,cW,aV r]
def AJ (P:Program) (fr:aI) (H:aa):List ResultVar→Tr (List AV)
 | []=>.ok []
 | .tmp t::r=>(AJ P fr H r).bind fun l=>.ok ((lk fr t).1::l)
 | .cell a t::r=>(loadT P H t (bU fr (.tmp a))).bind fun v=>(AJ P fr H r).bind fun l=>.ok (v::l)
theorem wB {P:Program} {fr:aI} {H:aa}:∀ (l:List ResultVar) (vs:List AV),(AJ P fr H l).run=some vs→gA P (strip fr) H l=some vs
 | [],vs,h=>by rw[← Tr.ae h];rfl
 | .tmp t::r,vs,h=>by
   simp only[AJ] at h
   obtain ⟨l,h1,h⟩:=Tr.bind_some h
   simp only[gA]
   rw[wB r l h1,← Tr.ae h,eR];rfl
 | .cell a t::r,vs,h=>by
   simp only[AJ] at h
   obtain ⟨v,h0,h⟩:=Tr.bind_some h
   obtain ⟨l,h1,h⟩:=Tr.bind_some h
   have h0:=xY h0
   rw[aU] at h0
   simp only[gA]
   have e:bG (strip fr) (.tmp a)=bB (strip fr) a:=rfl
   rw[e] at h0
   rw[h0]
   dsimp only
   rw[wB r l h1,← Tr.ae h];rfl
def II (fr:aI) (rs:List ResultVar):Option Nat :=
 match rs with
 | [.tmp t]=>(lk fr t).2
 | _=>none
def K1 (P:Program) (rs:List ResultVar) (x:fq):Tr (HV×aa) :=
 match x with
 | (e,fr,l::H)=>match e with
   | .normal | .ret=>(AJ P fr (l::H) rs).bind fun vs=>(mW l.bs 5 (one vs)).bind fun v=>.ok ((v,II fr rs),H)
   | _=>.bad
 | _=>.bad
theorem Cg {P:Program} {rs:List ResultVar} {x:fq} {y:HV×aa} (h:(K1 P rs x).run=some y):∃ l vs,x.2.2=l::y.2∧(x.1=.normal∨x.1=.ret)∧gA P (strip x.2.1) x.2.2 rs=some vs∧c8 l.bs 5 (one vs)=y.1.1:=by
 unfold K1 at h
 split at h
 · rename_i e fr l H
   have key:((AJ P fr (l::H) rs).bind fun vs=>(mW l.bs 5 (one vs)).bind fun v=>Tr.ok (((v,II fr rs),H):HV×aa)).run=some y→∃ vs,l::H=l::y.2∧gA P (strip fr) (l::H) rs=some vs∧c8 l.bs 5 (one vs)=y.1.1:=by
    intro h
    obtain ⟨vs,h1,h⟩:=Tr.bind_some h
    obtain ⟨v,h2,h⟩:=Tr.bind_some h
    have h:=Tr.ae h
    refine ⟨vs,by rw[← h],wB _ _ h1,?_⟩
    rw[BC _ _ _ _ h2,← h]
   split at h
   · obtain ⟨vs,h1,h2,h3⟩:=key h;exact ⟨l,vs,h1,.inl rfl,h2,h3⟩
   · obtain ⟨vs,h1,h2,h3⟩:=key h;exact ⟨l,vs,h1,.inr rfl,h2,h3⟩
   · exact (Tr.ag h).elim
 · exact (Tr.ag h).elim
def bE (P:Program) (call:aB) (fu:Nat) (f:FuncId) (fn:Func) (kt:Nat→Nat) (callR:bo) (bl:eP) (rg:od) (args:List HV) (H:aa):Tr (HV×aa) :=
 (aW ⟨P,call,fu,f,fn.ntmps,kt,none⟩ callR bl rg (bz fn) (Gz args 0) (⟨false,[]⟩::H)).bind fun x=>K1 P fn.results.toList x
theorem rM {P:Program} {ora:aB→FuncId→List AV→aa→Option (AV×aa)} {KT:FuncId→Nat→Nat} {fu n:Nat} {f:FuncId} {fn:Func} (hf:P.funcs[f]?=some fn) (hb:fn.body.isSome=true) {args:List HV} {H:aa} (ho:ora (c6 P ora KT fu n) f (mz args) H=none) (hle:Nat.ble args.length fn.ntmps=true)
 {callR:bo} (hC:callR.Ok (c6 P ora KT fu n)) {bl:eP} (hB:bl.Ok ⟨P,c6 P ora KT fu n,fu,f,fn.ntmps,KT f,none⟩ (bz fn)) {rg:od} (hR:rg.Ok ⟨P,c6 P ora KT fu n,fu,f,fn.ntmps,KT f,none⟩ (bz fn)) {y:HV×aa}
 (h:(bE P (c6 P ora KT fu n) fu f fn (KT f) callR bl rg args H).run=some y):c6 P ora KT fu (n+1) (.fn f) (mz args) H=some (y.1.1,y.2):=by
 unfold bE at h
 obtain ⟨x,h1,h⟩:=Tr.bind_some h
 have h1:=fP hC _ hB hR _ _ _ h1
 rw[vG] at h1
 obtain ⟨l,vs,k1,k2,k3,k4⟩:=Cg h
 obtain ⟨c,hc⟩:=Option.isSome_iff_exists.1 hb
 have hbody:bz fn=c:=by unfold bz;rw[hc]
 rw[hbody] at h1
 obtain ⟨e,fr,H1⟩:=x
 dsimp only[fq.st] at h1 k1 k2 k3
 rw[k1] at h1 k3
 have hl:(mz args).length=args.length:=by unfold mz;rw[iG,List.length_map]
 simp only[c6,ho,hf,hc,hl,hle,if_true,h1]
 rcases k2 with rfl | rfl<;>simp only[k3]<;>rw[k4]

theorem ib {cx:Cx} {id:Nat} {b:Code} {fr fr1:az} {H H1:aa} (h:iter (exec cx b) (aN H) cx.fu fr H=some (.exit id,fr1,H1)):exec cx (.block id (.loop b)) fr H=some (.normal,fr1,H1):=by
 unfold exec
 have:exec cx (.loop b) fr H=some (.exit id,fr1,H1):=by unfold exec;exact h
 rw[this]
 dsimp only
 rw[if_pos (by simp)]
theorem cX {cx:Cx} {id:Nat} {b:Code} {fr fr1:az} {H H1:aa} {e:Ex} (he:∀ id',e=.exit id'→Nat.beq id' id=false) (h:iter (exec cx b) (aN H) cx.fu fr H=some (e,fr1,H1)):exec cx (.block id (.loop b)) fr H=some (e,fr1,H1):=by
 unfold exec
 have:exec cx (.loop b) fr H=some (e,fr1,H1):=by unfold exec;exact h
 rw[this]
 cases e with
 | exit id'=>dsimp only;rw[if_neg (by rw[he id' rfl];simp)]
 | _=>rfl
def fN (p:Nat→Bool):Nat→Nat→Nat
 | 0,j=>j
 | k+1,j=>if p j then j else fN p k (j+1)
theorem vS (p:Nat→Bool):∀ (k j:Nat),j≤fN p k j∧fN p k j≤j+k∧(∀ i,j≤i→i<fN p k j→p i=false)∧(fN p k j<j+k→p (fN p k j)=true)
 | 0,j=>⟨Nat.le_refl _,Nat.le_refl _,fun i h1 h2=>absurd h2 (by simp only[fN];omega),fun h=>absurd h (by simp only[fN];omega)⟩
 | k + 1,j=>by
   simp only[fN]
   by_cases h:p j=true
   · rw[if_pos h]
     exact ⟨Nat.le_refl _,by omega,fun i h1 h2=>by omega,fun _=>h⟩
   · rw[if_neg h]
     obtain ⟨h1,h2,h3,h4⟩:=vS p k (j+1)
     refine ⟨by omega,by omega,fun i k1 k2=>?_,fun k1=>h4 (by omega)⟩
     by_cases e:i=j
     · subst e;simpa using h
     · exact h3 i (by omega) k2
theorem iM {body:az→aa→Option (Ex×az×aa)} {n:Nat} (F:Nat→az) (G:Nat→aa) (N:Nat) (p:Nat→Bool) (X:Nat→Ex×az×aa)
 (hs:∀ j,j<N→p j=false→∃ f g,body (F j) (G j)=some (.normal,f,g)∧tidy n f g=(F (j+1),G (j+1)))
 (hh:∀ j,j<N→p j=true→body (F j) (G j)=some (X j)∧(X j).1≠.normal) (he:body (F N) (G N)=some (X N)∧(X N).1≠.normal) :
 ∀ (k j fu:Nat),j+k=N→k<fu→iter body n fu (F j) (G j)=some (X (fN p k j))
 | 0,j,0,_,h=>by omega
 | 0,j,fu+1,hj,_=>by
   have:j=N:=by omega
   subst this
   unfold iter
   rw[he.1]
   obtain ⟨x,hx⟩:∃ x,x=X j:=⟨_,rfl⟩
   have hn:=he.2
   simp only[fN]
   rw[← hx] at hn ⊢
   obtain ⟨e,f,g⟩:=x
   cases e<;>first | exact absurd rfl hn | rfl
 | k+1,j,0,_,h=>by omega
 | k + 1,j,fu+1,hj,hf=>by
   unfold iter
   cases hp:p j with
   | true =>
     obtain ⟨h1,h2⟩:=hh j (by omega) hp
     rw[h1]
     simp only[fN]
     rw[if_pos hp]
     obtain ⟨x,hx⟩:∃ x,x=X j:=⟨_,rfl⟩
     rw[← hx] at h2 ⊢
     obtain ⟨e,f,g⟩:=x
     cases e<;>first | exact absurd rfl h2 | rfl
   | false =>
     obtain ⟨f,g,h1,h2⟩:=hs j (by omega) hp
     rw[h1]
     dsimp only
     rw[h2]
     simp only[fN]
     rw[if_neg (by rw[hp];simp)]
     exact iM F G N p X hs hh he k (j+1) fu (by omega) (by omega)
end
end Go.Eng
end
