/- The engine as a tree: regions, code, calls. -/
import Derived.Test.YtoomemfhcbajoaaV3EngTe
set_option linter.unusedVariables false
set_option linter.unusedSimpArgs false
section
namespace Go.Eng
noncomputable section

def vk (f:aI) (y:Nat) (b:Bool):aI:=List.rec (motive:=fun _=>aI) [] (fun p r ih=>Bool.rec (motive:=fun _=>aI) (p::ih) ((p.1,(.bool b,some 1))::r) (Nat.beq p.1 y)) f
theorem sK:∀ (f:aI) (y:Nat) (b:Bool),bo (strip f) y=.bool b→strip (vk f y b)=strip f
 | [],y,b,_=>rfl
 | (x,v)::r,y,b,h=>by
   have e:vk ((x,v)::r) y b=Bool.rec (motive:=fun _=>aI) ((x,v)::vk r y b) ((x,(.bool b,some 1))::r) (Nat.beq x y):=rfl
   rw[c6,bo] at h
   rw[e]
   cases hb:Nat.beq x y with
   | true =>
     rw[hb] at h
     have h:v.1=.bool b:=h
     show (x,AV.bool b)::strip r=(x,v.1)::strip r
     rw[h]
   | false =>
     rw[hb] at h
     show (x,v.1)::strip (vk r y b)=(x,v.1)::strip r
     rw[sK r y b h]
def vG {α:Type} (fr:aI) (d:Nat) (t e:aI→Tr α):Tr α :=
 match lC fr d with
 | (.bool b,none)=>.ite b (t (vk fr d true)) (e (vk fr d false))
 | (.bool b,some _)=>cond b (t fr) (e fr)
 | _=>.bad
theorem ln {α:Type} {fr:aI} {d:Nat} {t e:aI→Tr α} {x:α} (h:(vG fr d t e).run=some x):∃ b fr',bo (strip fr) d=.bool b∧strip fr'=strip fr∧(if b then t fr' else e fr').run=some x:=by
 unfold vG at h
 split at h
 · rename_i b hg
   have hg':bo (strip fr) d=.bool b:=by rw[← fh,hg]
   rcases Tr.g5 h with ⟨rfl,h⟩ | ⟨rfl,h⟩
   · exact ⟨true,_,hg',sK _ _ _ hg',h⟩
   · exact ⟨false,_,hg',sK _ _ _ hg',h⟩
 · rename_i b n hg
   have hg':bo (strip fr) d=.bool b:=by rw[← fh,hg]
   refine ⟨b,fr,hg',rfl,?_⟩
   cases b<;>exact h
 · exact (Tr.ae h).elim
def Cu (ops:Array Oper) (fr:aI) (o:Oper):Tr (Bool×aI) :=
 match o.guard with
 | none=>.ok (true,fr)
 | some (j,want)=>match (ops[j]?).bind (·.dst) with
   | none=>.bad
   | some d=>match (lC fr d).1 with
     | .bool _=>cond want (vG fr d (fun fr=>.ok (true,fr)) (fun fr=>.ok (false,fr))) (vG fr d (fun fr=>.ok (false,fr)) (fun fr=>.ok (true,fr)))
     | .tup _=>.ok (false,fr)
     | _=>.bad
theorem zS {ops:Array Oper} {fr:aI} {o:Oper} {r:Bool×aI} (h:(Cu ops fr o).run=some r):h9 ops (strip fr) o=(if r.1 then .run else .skip)∧strip r.2=strip fr:=by
 unfold Cu at h
 unfold h9
 cases hg:o.guard with
 | none =>
   rw[hg] at h
   rw[← Tr.ab h];exact ⟨rfl,rfl⟩
 | some jw =>
   obtain ⟨j,want⟩:=jw
   rw[hg] at h
   dsimp only at h ⊢
   cases hd:(ops[j]?).bind (·.dst) with
   | none=>rw[hd] at h;exact (Tr.ae h).elim
   | some d =>
     rw[hd] at h
     dsimp only at h ⊢
     have he:=fh fr d
     rw[he] at h
     cases hv:bo (strip fr) d<;>rw[hv] at h<;>try exact (Tr.ae h).elim
     case bool b =>
      dsimp only at h ⊢
      cases want with
      | true =>
        rw[cond_true] at h
        obtain ⟨b',fr',h1,h2,h3⟩:=ln h
        rw[hv] at h1
        cases h1
        cases b<;>(have h3:=Tr.ab h3;rw[← h3];exact ⟨rfl,h2⟩)
      | false =>
        rw[cond_false] at h
        obtain ⟨b',fr',h1,h2,h3⟩:=ln h
        rw[hv] at h1
        cases h1
        cases b<;>(have h3:=Tr.ab h3;rw[← h3];exact ⟨rfl,h2⟩)
     case tup l=>rw[← Tr.ab h];exact ⟨rfl,rfl⟩

def iD (P:Program) (nt:Nat) (call:aV) (callR:bG) (ops:Array Oper):List Oper→aI→aa→Tr (aI×aa)
 | [],fr,H=>.ok (fr,H)
 | o::r,fr,H=>(Cu ops fr o).bind fun b=>cond b.1
   ((Lw o.op o P call callR b.2 H (fB H)).bind fun y=>iD P nt call callR ops r (qY nt b.2 o.dst y.1) (MH y.2 H))
   (iD P nt call callR ops r (qY nt b.2 o.dst (.tup [],none)) H)
theorem fE {P:Program} {nt:Nat} {call:aV} {callR:bG} (hC:callR.Ok call) {ops:Array Oper}:∀ (l:List Oper) (fr:aI) (H:aa) (x:aI×aa),(iD P nt call callR ops l fr H).run=some x→dz P nt call ops l (strip fr) H=some (strip x.1,x.2)
 | [],fr,H,x,h=>by rw[← Tr.ab h];rfl
 | o :: r,fr,H,x,h=>by
   simp only[iD] at h
   obtain ⟨b,h1,h⟩:=Tr.bind_some h
   unfold dz
   obtain ⟨hw,hs⟩:=zS h1
   rw[hw,← hs]
   obtain ⟨b,fr1⟩:=b
   dsimp only at h ⊢
   cases b with
   | false =>
     have:=fE hC r _ _ _ h
     rw[mh] at this
     exact this
   | true =>
     rw[cond_true] at h
     obtain ⟨y,h2,h⟩:=Tr.bind_some h
     have h2:=AH hC h2
     rw[gE] at h2
     have:=fE hC r _ _ _ h
     rw[mh,Fp] at this
     rw[if_pos rfl]
     dsimp only
     rw[h2]
     exact this

def pe (fr:aI) (o:Oper):Touch:=kg (strip fr) o
def pO (P:Program) (call:aV) (callR:bG) (ops:Array Oper) (bef:Nat) (fr0:aI) (H:aa) (nx:Nat) (recs:List Rec) (o:Oper):Tr (tO×Option Nat×aI) :=
 (Cu ops fr0 o).bind fun b=>cond b.1
   (cond (eR o) ((Lw o.op o P call callR b.2 (oT (iM bef recs H)) nx).bind fun y=>.ok (⟨y.1.1,.all,none⟩,y.1.2,b.2))
     ((Lw o.op o P call callR b.2 (iM bef recs H) nx).bind fun y=>match y.2 with
       | .ba=>.ok (⟨y.1.1,pe b.2 o,none⟩,y.1.2,b.2)
       | .push q=>cond (gp o && !gG q && oM (eI H 0 nx) && !fA H 0) (.ok (⟨y.1.1,pe b.2 o,some (0,nx,(0,q))⟩,y.1.2,b.2)) .bad
       | .set d i q=>.req (jP (ik (eI H d i).1 q.1) (ik q.1 (Nat.succ (eI H d i).1))) (cond (!gG q.2 && !gG (eI (iM bef recs H) d i).2 && iT bef d i recs) (.ok (⟨y.1.1,pe b.2 o,some (d,i,q)⟩,y.1.2,b.2)) .bad)
       | _=>.bad))
   (.ok (⟨.tup [],.none,none⟩,none,b.2))
theorem vW {P:Program} {call:aV} {callR:bG} (hC:callR.Ok call) {ops:Array Oper} {bef:Nat} {fr:aI} {H:aa} {nx:Nat} {recs:List Rec} {o:Oper} {e:tO×Option Nat×aI} (h:(pO P call callR ops bef fr H nx recs o).run=some e) :
 eH P call ops bef (strip fr) H nx recs o=some e.1∧strip e.2.2=strip fr:=by
 unfold pO at h
 unfold eH
 simp only[jZ,qU,pe,q8,gY,dX] at h
 obtain ⟨b,h1,h⟩:=Tr.bind_some h
 obtain ⟨hw,hs⟩:=zS h1
 rw[hw,← hs]
 obtain ⟨b,fr1⟩:=b
 dsimp only at h ⊢
 cases b with
 | false =>
   rw[cond_false] at h
   rw[← Tr.ab h];exact ⟨rfl,rfl⟩
 | true =>
   rw[cond_true] at h
   rw[if_pos rfl]
   dsimp only
   cases hcv:eR o with
   | true =>
     rw[hcv,cond_true] at h
     obtain ⟨y,h2,h⟩:=Tr.bind_some h
     rw[if_pos rfl,AH hC h2,← Tr.ab h]
     exact ⟨rfl,rfl⟩
   | false =>
     rw[hcv,cond_false] at h
     obtain ⟨y,h2,h⟩:=Tr.bind_some h
     rw[if_neg (by simp),AH hC h2]
     split at h
     · rename_i hy
       rw[hy,← Tr.ab h];exact ⟨rfl,rfl⟩
     · rename_i b hy
       obtain ⟨hc,h⟩:=Tr.aR h
       rw[hy]
       dsimp only
       rw[if_pos hc,← Tr.ab h];exact ⟨rfl,rfl⟩
     · rename_i d i b hy
       obtain ⟨hv,h⟩:=Tr.aP h
       obtain ⟨hc,h⟩:=Tr.aR h
       rw[hy]
       dsimp only
       rw[n7,kS,kS,Bool.and_eq_true,decide_eq_true_eq,decide_eq_true_eq] at hv
       have hv':(Nat.beq b.1 (aq H d i).1 || Nat.beq b.1 (Nat.succ (aq H d i).1))=true:=by
        simp only[Bool.or_eq_true,Nat.beq_eq];omega
       simp only[Bool.and_eq_true] at hc
       rw[if_pos (by simp only[Bool.and_eq_true];exact ⟨⟨⟨hc.1.1,hv'⟩,hc.1.2⟩,hc.2⟩),← Tr.ab h];exact ⟨rfl,rfl⟩
     · exact (Tr.ae h).elim
def ot (P:Program) (nt:Nat) (call:aV) (callR:bG) (ops:Array Oper) (befs:Array Nat):List Oper→Nat→aI→aa→Nat→List Rec→Tr (aI×aa)
 | [],_,fr,H,_,_=>.ok (fr,H)
 | o::r,j,fr,H,nx,recs=>(pO P call callR ops (befs.getD j 0) fr H nx recs o).bind fun e =>
   ot P nt call callR ops befs r (j+1) (qY nt e.2.2 o.dst (e.1.v,e.2.1)) (zb H e.1.wr) (if gp o then nx+1 else nx) (⟨j,e.1.rd,e.1.wr.map fun x=>(x.1,x.2.1)⟩::recs)
theorem qB {P:Program} {nt:Nat} {call:aV} {callR:bG} (hC:callR.Ok call) {ops:Array Oper} {befs:Array Nat}:∀ (l:List Oper) (j:Nat) (fr:aI) (H:aa) (nx:Nat) (recs:List Rec) (x:aI×aa),
 (ot P nt call callR ops befs l j fr H nx recs).run=some x→ft P nt call ops befs j l (strip fr) H nx recs=some (strip x.1,x.2)
 | [],j,fr,H,nx,recs,x,h=>by rw[← Tr.ab h];rfl
 | o::r,j,fr,H,nx,recs,x,h=>by
   simp only[ot] at h
   obtain ⟨e,h1,h⟩:=Tr.bind_some h
   obtain ⟨hd,hs⟩:=vW hC h1
   unfold ft
   rw[hd,← hs]
   have:=qB hC r _ _ _ _ _ _ h
   rw[mh,zc] at this
   exact this

def aJ:Code→List (Nat×Code)
 | .block id b=>(id,b)::aJ b
 | .loop b=>aJ b
 | .seq a b=>aJ a++aJ b
 | .cond _ a b=>aJ a++aJ b
 | .scope b=>aJ b
 | _=>[]
def bm (f:Func):Code:=match f.body with | some c=>c | none=>.skip
abbrev n6:=Ex×aI×aa
def n6.st (x:n6):Ex×ao×aa:=(x.1,strip x.2.1,x.2.2)
abbrev gR:=Nat→aI→aa→Option (Tr n6)
abbrev rP:=Operand→aI→aa→Option (Tr n6)
def gR.Ok (bl:gR) (cx:Cx) (c:Code):Prop:=∀ id b,(id,b) ∈ aJ c→∀ fr H t x,bl id fr H=some t→t.run=some x→exec cx (.block id b) (strip fr) H=some x.st
def dV:Code→List (Operand×Array Tmp×Code×Code)
 | .rangeFunc f ps a b=>[(f,ps,a,b)]
 | .loop b=>dV b
 | .block _ b=>dV b
 | .seq a b=>dV a++dV b
 | .cond _ a b=>dV a++dV b
 | .scope b=>dV b
 | _=>[]
def rP.Ok (rg:rP) (cx:Cx) (c:Code):Prop:=∀ f ps a b,(f,ps,a,b) ∈ dV c→∀ fr H t x,rg f fr H=some t→t.run=some x→exec cx (.rangeFunc f ps a b) (strip fr) H=some x.st
def bZ (bl:gR) (id0:Nat) (fr0:ao) (H0:aa) (u:Tr n6):gR:=fun id fr H=>cond (Nat.beq id id0) (some (.reqP (strip fr=fr0∧H=H0) u)) (bl id fr H)
theorem aD {bl:gR} {cx:Cx} {c:Code} (h:bl.Ok cx c) {id0:Nat} {fr0:ao} {H0:aa} {u:Tr n6} {B:Code} (hB:∀ b,(id0,b) ∈ aJ c→b=B) (k:∀ x,u.run=some x→exec cx (.block id0 B) fr0 H0=some x.st):(bZ bl id0 fr0 H0 u).Ok cx c:=by
 intro id b hm fr H t y ht hy
 unfold bZ at ht
 cases hb:Nat.beq id id0 with
 | true =>
   have wg:=Nat.eq_of_beq_eq_true hb
   subst wg
   rw[hb,cond_true,Option.some.injEq] at ht
   subst ht
   obtain ⟨⟨h1,h2⟩,h3⟩:=Tr.db hy
   rw[h1,h2,hB b hm]
   exact k y h3
 | false =>
   rw[hb,cond_false] at ht
   exact h id b hm fr H t y ht hy
def Kn (rg:rP) (tf:Operand→Bool) (fr0:ao) (H0:aa) (u:Tr n6):rP:=fun f fr H=>cond (tf f) (some (.reqP (strip fr=fr0∧H=H0) u)) (rg f fr H)
theorem wZ {rg:rP} {cx:Cx} {c:Code} (h:rg.Ok cx c) {tf:Operand→Bool} {fr0:ao} {H0:aa} {u:Tr n6} (k:∀ f ps a b,tf f=true→(f,ps,a,b) ∈ dV c→∀ x,u.run=some x→exec cx (.rangeFunc f ps a b) fr0 H0=some x.st):(Kn rg tf fr0 H0 u).Ok cx c:=by
 intro f ps a b hm fr H t y ht hy
 unfold Kn at ht
 cases hb:tf f with
 | true =>
   rw[hb,cond_true,Option.some.injEq] at ht
   subst ht
   obtain ⟨⟨h1,h2⟩,h3⟩:=Tr.db hy
   rw[h1,h2]
   exact k f ps a b hb hm y h3
 | false =>
   rw[hb,cond_false] at ht
   exact h f ps a b hm fr H t y ht hy
def aN:gR:=fun _ _ _=>none
def aO:rP:=fun _ _ _=>none
theorem af (cx:Cx) (c:Code):aN.Ok cx c:=fun _ _ _ _ _ _ _ h=>by cases h
theorem ag (cx:Cx) (c:Code):aO.Ok cx c:=fun _ _ _ _ _ _ _ _ _ h=>by cases h
def yI (g:AV→AV):aI→aI
 | []=>[]
 | (x,(v,h))::r=>(x,(mY g v,h))::yI g r
theorem yJ (g:AV→AV):∀ fr:aI,strip (yI g fr)=qh g (strip fr)
 | []=>rfl
 | (x,(v,h))::r=>by
   have e:yI g ((x,(v,h))::r)=(x,(mY g v,h))::yI g r:=rfl
   rw[e,c6,c6,qh,yJ g r]
def lq (n:Nat):Nat→aI→aa→aI×aa
 | 0,fr,H=>(fr,H)
 | k + 1,fr,H=>match H with
   | []=>(fr,[])
   | l::r=>cond (Nat.ble (iA l.bs) (Nat.succ n)) (fr,l::r) (match hole (strip fr) l.bs 4 n with
     | none=>(fr,l::r)
     | some h=>lq n k (yI (uk (l.bs.length-1) h) fr) (ly n (qh (uk (l.bs.length-1) h) (strip fr)) (xt (l.bs.length-1) h l::r)))
theorem tC (n:Nat):∀ (k:Nat) (fr:aI) (H:aa),(strip (lq n k fr H).1,(lq n k fr H).2)=ja n k (strip fr) H
 | 0,fr,H=>rfl
 | k+1,fr,[]=>rfl
 | k + 1,fr,l::r=>by
   cases hb:Nat.ble (iA l.bs) (Nat.succ n) with
   | true =>
     have:lq n (k+1) fr (l::r)=(fr,l::r):=by
      unfold lq;dsimp only;rw[hb];rfl
     rw[this,tE (by rw[dc] at hb;simpa using hb)]
   | false =>
     unfold lq ja
     dsimp only
     rw[hb,cond_false]
     cases hole (strip fr) l.bs 4 n with
     | none=>rfl
     | some h =>
       dsimp only
       rw[tC n k,yJ]
def Cq (n:Nat) (fr:aI) (H:aa):aI×aa:=lq n 4 fr (ly n (strip fr) H)
theorem FT (n:Nat) (fr:aI) (H:aa):(strip (Cq n fr H).1,(Cq n fr H).2)=tidy n (strip fr) H:=tC n 4 fr _
def BB (body:aI→aa→Tr n6) (n:Nat):Nat→aI→aa→Tr n6
 | 0,_,_=>.bad
 | k+1,fr,H=>(body fr H).bind fun x=>match x with
   | (.normal,fr,H)=>BB body n k (Cq n fr H).1 (Cq n fr H).2
   | r=>.ok r
theorem vc {body:ao→aa→Option (Ex×ao×aa)} {n:Nat}:∀ (k m:Nat) (fr:ao) (H:aa) (x:Ex×ao×aa),iter body n k fr H=some x→k≤m→iter body n m fr H=some x
 | 0,m,fr,H,x,h,_=>by simp[iter] at h
 | k+1,0,fr,H,x,h,hk=>by omega
 | k + 1,m+1,fr,H,x,h,hk=>by
   unfold iter at h ⊢
   cases hb:body fr H with
   | none=>rw[hb] at h;simp at h
   | some y =>
     rw[hb] at h
     obtain ⟨e,f,g⟩:=y
     cases e
     case normal=>exact vc k m _ _ _ h (by omega)
     all_goals exact h
theorem ym {body:aI→aa→Tr n6} {body':ao→aa→Option (Ex×ao×aa)} {n:Nat} (hb:∀ fr H x,(body fr H).run=some x→body' (strip fr) H=some x.st):∀ (k:Nat) (fr:aI) (H:aa) (x:n6),(BB body n k fr H).run=some x→iter body' n k (strip fr) H=some x.st
 | 0,fr,H,x,h=>(Tr.ae h).elim
 | k+1,fr,H,x,h=>by
   simp only[BB] at h
   obtain ⟨y,h1,h⟩:=Tr.bind_some h
   unfold iter
   rw[hb _ _ _ h1]
   obtain ⟨e,f,g⟩:=y
   cases e
   case normal =>
    have e:=FT n f g
    have h:=ym hb k _ _ _ h
    show iter body' n k (tidy n (strip f) g).1 (tidy n (strip f) g).2=_
    rw[← e];exact h
   all_goals
    have h:=Tr.ab h
    rw[← h];rfl
def nD (f:AV→Tr AV):List AV→Tr (List AV)
 | []=>.ok []
 | v::l=>(f v).bind fun u=>(nD f l).bind fun m=>.ok (u::m)
theorem eT {f:AV→Tr AV} {g:AV→AV} (hf:∀ v u,(f v).run=some u→g v=u):∀ (l m:List AV),(nD f l).run=some m→l.map g=m
 | [],m,h=>Tr.ab h
 | v::l,m,h=>by
   simp only[nD] at h
   obtain ⟨u,h1,h⟩:=Tr.bind_some h
   obtain ⟨n,h2,h⟩:=Tr.bind_some h
   rw[← Tr.ab h,List.map_cons,hf _ _ h1,eT hf l n h2]
def mb (f:AV→Tr AV):List ah→Tr (List ah)
 | []=>.ok []
 | .one v::l=>(f v).bind fun u=>(mb f l).bind fun m=>.ok (.one u::m)
 | .arr k z n::l=>(mb f l).bind fun m=>.ok (.arr k z n::m)
theorem g7 {f:AV→Tr AV} {g:AV→AV} (hf:∀ v u,(f v).run=some u→g v=u):∀ (l m:List ah),(mb f l).run=some m→mapM' g l=m
 | [],m,h=>Tr.ab h
 | .one v::l,m,h=>by
   simp only[mb] at h
   obtain ⟨u,h1,h⟩:=Tr.bind_some h
   obtain ⟨n,h2,h⟩:=Tr.bind_some h
   rw[← Tr.ab h,mapM',hf _ _ h1,g7 hf l n h2]
 | .arr k z n::l,m,h=>by
   simp only[mb] at h
   obtain ⟨n,h2,h⟩:=Tr.bind_some h
   rw[← Tr.ab h,mapM',g7 hf l n h2]
def qA (cap:Option Nat) (len:Nat):Bool :=
 match cap with
 | none=>false
 | some c=>cu c len
theorem jR (cap:Option Nat) (len:Nat):qA cap len=(cap == some len):=by
 cases cap with
 | none=>rfl
 | some c=>simp only[qA,gb];rw[Bool.eq_iff_iff];simp
def yf (i ver:Nat) (r:Row):AV→Tr AV
 | .ptr d j v off=>cond (Nat.beq d 0 && Nat.beq j i) (.req (cu v ver) (.ok (.ptrT none r off))) (.ok (.ptr d j v off))
 | .slc d j v off sz len cap=>cond (Nat.beq d 0 && Nat.beq j i) (.req (cu v ver) (match r with
    | .M [.arr k z N]=>.req (fW off (iU len sz) 0 N) (.ok (.slcT none (.M [.arr k (dE z off) (iU len sz)]) sz len (qA cap len)))
    | .I k l=>cond (tZ (.I k l) off (Nat.mul len sz)) (.ok (.slcT none (.I k (iv (lz l off) (Nat.mul len sz))) sz len (qA cap len))) .bad
    | _=>.bad)) (.ok (.slc d j v off sz len cap))
 | v=>.ok v
theorem uA {d j i:Nat} {x:Bool} (h:(Nat.beq d 0 && Nat.beq j i)=true):(Nat.beq d 0 && (Nat.beq j i && x))=x:=by
 rw[Bool.and_eq_true] at h
 rw[h.1,h.2];rfl
theorem uB {d j i:Nat} {x:Bool} (h:(Nat.beq d 0 && Nat.beq j i)=false):(Nat.beq d 0 && (Nat.beq j i && x))=false:=by
 rw[← Bool.and_assoc,h];rfl
theorem yg {i ver:Nat} {r:Row}:∀ v u,(yf i ver r v).run=some u→mW i ver r v=u:=by
 intro v u h
 cases v with
 | ptr d j v off =>
   simp only[yf] at h
   simp only[mW]
   cases hc:(Nat.beq d 0 && Nat.beq j i) with
   | false=>rw[hc,cond_false] at h;rw[uB hc,if_neg (by simp)];exact Tr.ab h
   | true =>
     rw[hc,cond_true] at h
     obtain ⟨h1,h⟩:=Tr.aP h
     rw[gb,decide_eq_true_eq] at h1
     rw[uA hc,if_pos (by simpa using h1)];exact Tr.ab h
 | slc d j v off sz len cap =>
   simp only[yf] at h
   simp only[mW]
   cases hc:(Nat.beq d 0 && Nat.beq j i) with
   | false=>rw[hc,cond_false] at h;rw[uB hc,if_neg (by simp)];exact Tr.ab h
   | true =>
     rw[hc,cond_true] at h
     obtain ⟨h1,h2⟩:=Tr.aP h
     clear h
     rw[gb,decide_eq_true_eq] at h1
     rw[uA hc]
     split at h2
     · obtain ⟨h3,h⟩:=Tr.aP h2
       rw[gF,decide_eq_true_eq,cr] at h3
       rw[if_pos (by simp[h1,Row.len,aw,aM];omega),← Tr.ab h,jR,cr,mr]
       rfl
     · obtain ⟨h3,h⟩:=Tr.aR h2
       rw[kK,decide_eq_true_eq] at h3
       rw[if_pos (by simp only[h1,Bool.and_eq_true];exact ⟨by simp,Nat.ble_eq_true_of_le h3⟩),← Tr.ab h,jR,gr,gV]
       rfl
     · exact (Tr.ae h2).elim
 | _=>exact Tr.ab h
def yK (f:AV→Tr AV) (v:AV):Tr AV :=
 match v with
 | .agg (.G l)=>(nD f l).bind fun m=>.ok (.agg (.G m))
 | .agg (.M l)=>(mb f l).bind fun m=>.ok (.agg (.M m))
 | .fn g a b=>(nD f a).bind fun a'=>(nD f b).bind fun b'=>.ok (.fn g a' b')
 | v=>f v
theorem sJ {f:AV→Tr AV} {g:AV→AV} (hf:∀ v u,(f v).run=some u→g v=u):∀ v u,(yK f v).run=some u→mY g v=u:=by
 intro v u h
 unfold yK at h
 split at h
 · obtain ⟨m,h1,h⟩:=Tr.bind_some h
   rw[← Tr.ab h,← eT hf _ _ h1];rfl
 · obtain ⟨m,h1,h⟩:=Tr.bind_some h
   rw[← Tr.ab h,← g7 hf _ _ h1];rfl
 · obtain ⟨a',h1,h⟩:=Tr.bind_some h
   obtain ⟨b',h2,h⟩:=Tr.bind_some h
   rw[← Tr.ab h,← eT hf _ _ h1,← eT hf _ _ h2];rfl
 · rename_i n1 n2 n3
   have:=hf _ _ h
   rw[← this]
   unfold mY
   split
   · exact absurd rfl (n1 _)
   · exact absurd rfl (n2 _)
   · exact absurd rfl (n3 _ _ _)
   · rfl
def Fb (f:AV→Tr AV):ak→Tr ak
 | .row r=>match r with
   | .G l=>(nD (yK f) l).bind fun m=>.ok (.row (.G m))
   | .M l=>(mb (yK f) l).bind fun m=>.ok (.row (.M m))
   | r=>.ok (.row r)
 | b=>.ok b
theorem Fc {f:AV→Tr AV} {g:AV→AV} (hf:∀ v u,(f v).run=some u→g v=u) (b u:ak) (h:(Fb f b).run=some u):qg g b=u:=by
 cases b with
 | row r =>
   simp only[Fb] at h
   cases r with
   | G l =>
     obtain ⟨m,h1,h⟩:=Tr.bind_some h
     rw[← Tr.ab h,← eT (sJ hf) _ _ h1];rfl
   | M l =>
     obtain ⟨m,h1,h⟩:=Tr.bind_some h
     rw[← Tr.ab h,← g7 (sJ hf) _ _ h1];rfl
   | I k l=>rw[← Tr.ab h];rfl
   | F z n=>rw[← Tr.ab h];rfl
 | dead=>exact Tr.ab h
 | map es=>exact Tr.ab h
 | fmap kq f g c=>exact Tr.ab h
 | loop l=>exact Tr.ab h
def wB (f:AV→Tr AV):List (Nat×ak)→Tr (List (Nat×ak))
 | []=>.ok []
 | (v,b)::r=>(Fb f b).bind fun b'=>(wB f r).bind fun r'=>.ok ((v,b')::r')
theorem vj {f:AV→Tr AV} {g:AV→AV} (hf:∀ v u,(f v).run=some u→g v=u):∀ (l m:List (Nat×ak)),(wB f l).run=some m→js g l=m
 | [],m,h=>Tr.ab h
 | (v,b)::r,m,h=>by
   simp only[wB] at h
   obtain ⟨b',h1,h⟩:=Tr.bind_some h
   obtain ⟨r',h2,h⟩:=Tr.bind_some h
   rw[← Tr.ab h,js,Fc hf _ _ h1,vj hf r r' h2]
def BM (f:AV→Tr AV):aI→Tr aI
 | []=>.ok []
 | (x,(v,h))::r=>(yK f v).bind fun v'=>(BM f r).bind fun r'=>.ok ((x,(v',h))::r')
theorem yH {f:AV→Tr AV} {g:AV→AV} (hf:∀ v u,(f v).run=some u→g v=u):∀ (l m:aI),(BM f l).run=some m→qh g (strip l)=strip m
 | [],m,h=>by rw[← Tr.ab h];rfl
 | (x,(v,hh))::r,m,h=>by
   simp only[BM] at h
   obtain ⟨v',h1,h⟩:=Tr.bind_some h
   obtain ⟨r',h2,h⟩:=Tr.bind_some h
   rw[← Tr.ab h,c6,c6,qh,sJ hf _ _ h1,yH hf r r' h2]
def sv (i:Nat) (fr:aI) (l:aW):Tr (aI×aW) :=
 match AE l.bs i with
 | (ver,.row r)=>cond (wj r && (tS (fun x=>pF (ph i) x.2) (strip fr) || tS (fun x=>JT (ph i) x.2) l.bs)) ((BM (yf i ver r) fr).bind fun fr'=>(wB (yf i ver r) l.bs).bind fun bs'=>.ok (fr',{ l with bs:=bT bs' i (ver,.dead) })) (.ok (fr,l))
 | _=>.ok (fr,l)
theorem p7 {i:Nat} {fr:aI} {l:aW} {y:aI×aW} (h:(sv i fr l).run=some y):lZ i (strip fr) l=(strip y.1,y.2):=by
 unfold sv at h
 unfold lZ
 rw[rE] at h
 split at h
 · rename_i ver r hb
   rw[hb]
   dsimp only
   rw[n8,n8] at h
   cases hc:(wj r && ((strip fr).any (fun x=>pF (ph i) x.2) || l.bs.any (fun x=>JT (ph i) x.2))) with
   | true =>
     rw[hc,cond_true] at h
     obtain ⟨fr',h1,h⟩:=Tr.bind_some h
     obtain ⟨bs',h2,h⟩:=Tr.bind_some h
     rw[if_pos rfl,yH yg _ _ h1,vj yg _ _ h2,← Tr.ab h]
   | false =>
     rw[hc,cond_false] at h
     rw[if_neg (by simp),← Tr.ab h]
 · rename_i hno
   have h:=Tr.ab h
   subst h
   split
   · rename_i ver r hb
     exact absurd hb (hno ver r)
   · rfl
def ry:Nat→aI→aW→Tr (aI×aW)
 | 0,fr,l=>.ok (fr,l)
 | n+1,fr,l=>(ry n fr l).bind fun y=>sv n y.1 y.2
theorem ss:∀ (n:Nat) (fr:aI) (l:aW) (y:aI×aW),(ry n fr l).run=some y→iQ n (strip fr) l=(strip y.1,y.2)
 | 0,fr,l,y,h=>by rw[← Tr.ab h];rfl
 | n+1,fr,l,y,h=>by
   simp only[ry] at h
   obtain ⟨z,h1,h⟩:=Tr.bind_some h
   have h1:=ss n fr l z h1
   simp only[iQ]
   rw[h1]
   exact p7 h
def oJ:Nat→aI→aW→Tr (aI×aW)
 | 0,fr,l=>.ok (fr,l)
 | n+1,fr,l=>(oJ n fr l).bind fun y=>cond (tS (fun x=>pF (ph n) x.2) (strip y.1)) (.ok y) (sv n y.1 y.2)
theorem qP:∀ (n:Nat) (fr:aI) (l:aW) (y:aI×aW),(oJ n fr l).run=some y→eA n (strip fr) l=(strip y.1,y.2)
 | 0,fr,l,y,h=>by rw[← Tr.ab h];rfl
 | n + 1,fr,l,y,h=>by
   simp only[oJ] at h
   obtain ⟨z,h1,h⟩:=Tr.bind_some h
   have h1:=qP n fr l z h1
   simp only[eA]
   rw[h1]
   dsimp only
   rw[n8] at h
   cases hc:(strip z.1).any (fun x=>pF (ph n) x.2) with
   | true =>
     rw[hc,cond_true] at h
     rw[if_pos rfl,Tr.ab h]
   | false =>
     rw[hc,cond_false] at h
     rw[if_neg (by simp)]
     exact p7 h
def BF (s:Nat):aI→Option Nat
 | []=>none
 | (x,(v,_))::r=>cond (Nat.beq x s) (match v with
   | .slc 0 i _ _ _ _ _=>some i
   | _=>none) (BF s r)
theorem yx (s:Nat):∀ fr:aI,BF s fr=BE s (strip fr)
 | []=>rfl
 | (x,(v,h))::r=>by
   rw[c6]
   simp only[BF,BE,yx s r]
   cases Nat.beq x s<;>rfl
def wi (s:Nat) (fr:aI) (H:aa):Tr (aI×aa) :=
 match H with
 | []=>.ok (fr,[])
 | l::r=>cond l.lock (.ok (fr,l::r)) (match BF s fr with
   | some i=>(sv i fr l).bind fun y=>.ok (y.1,y.2::r)
   | none=>.ok (fr,l::r))
theorem Av {s:Nat} {fr:aI} {H:aa} {y:aI×aa} (h:(wi s fr H).run=some y):wh s (strip fr) H=(strip y.1,y.2):=by
 unfold wi at h
 unfold wh
 cases H with
 | nil=>rw[← Tr.ab h]
 | cons l r =>
   dsimp only at h ⊢
   cases hl:l.lock with
   | true =>
     rw[hl,cond_true] at h
     rw[if_pos rfl,← Tr.ab h]
   | false =>
     rw[hl,cond_false,yx] at h
     rw[if_neg (by simp)]
     split at h
     · rename_i i hi
       obtain ⟨z,h1,h⟩:=Tr.bind_some h
       have h1:=p7 h1
       rw[hi]
       dsimp only
       rw[h1,← Tr.ab h]
     · rename_i hi
       rw[hi,← Tr.ab h]
def Au (m:Nat) (fr:aI) (H:aa):Tr (aI×aa) :=
 cond (nF m 4000) (match H with
  | []=>.ok (gB fr m,[])
  | l::r=>cond l.lock (.ok (gB fr m,l::r)) ((ry (iA l.bs) (gB fr m) l).bind fun y=>.ok (y.1,cond (Nat.beq (Nat.shiftRight m 4003) 0) (y.2::r) (Fi (Nat.shiftRight m 4003) (y.2::r))))) (cond (nF m 4001) (wi (Nat.shiftRight m 4003) (gB fr m) H) (cond (nF m 4002) (vG (gB fr m) (Nat.shiftRight m 4003) (fun fr=>.ok (fr,H)) (fun fr=>match H with
  | []=>.ok (fr,[])
  | l::r=>cond l.lock (.ok (fr,l::r)) ((oJ (iA l.bs) fr l).bind fun y=>.ok (y.1,y.2::r)))) (.ok (gB fr m,H))))
theorem C3 {m:Nat} {fr:aI} {H:aa} {y:aI×aa} (h:(Au m fr H).run=some y):l5 m (strip fr) H=(strip y.1,y.2):=by
 unfold Au at h
 unfold l5
 cases hm:nF m 4000 with
 | false =>
   rw[hm,cond_false] at h
   rw[if_neg (by simp)]
   cases hm2:nF m 4001 with
   | false =>
     rw[hm2,cond_false] at h
     rw[if_neg (by simp)]
     cases hm3:nF m 4002 with
     | false =>
       rw[hm3,cond_false] at h
       rw[if_neg (by simp),← Tr.ab h,eQ]
     | true =>
       rw[hm3,cond_true] at h
       rw[if_pos rfl]
       obtain ⟨b,fr',h1,h2,h3⟩:=ln h
       rw[eQ] at h1 h2
       rw[h1]
       cases b with
       | true =>
         simp only[if_true] at h3
         rw[← Tr.ab h3,h2]
       | false =>
         simp only[Bool.false_eq_true,if_false] at h3
         cases H with
         | nil =>
           dsimp only at h3
           rw[← Tr.ab h3,← h2];rfl
         | cons l r =>
           dsimp only at h3
           show ub (bM (strip fr) m) (l::r)=_
           rw[← h2]
           unfold ub
           dsimp only
           cases hl:l.lock with
           | true =>
             rw[hl,cond_true] at h3
             rw[if_pos rfl,← Tr.ab h3]
           | false =>
             rw[hl,cond_false] at h3
             obtain ⟨z,h4,h5⟩:=Tr.bind_some h3
             have h4:=qP _ _ _ _ h4
             rw[dc] at h4
             rw[if_neg (by simp),h4,← Tr.ab h5]
   | true =>
     rw[hm2,cond_true] at h
     rw[if_pos rfl]
     have h1:=Av h
     rw[eQ] at h1
     exact h1
 | true =>
   rw[hm,cond_true] at h
   rw[if_pos rfl]
   cases H with
   | nil =>
     rw[← Tr.ab h,eQ]
     simp only[C0,Fi,ite_self]
   | cons l r =>
     dsimp only at h
     unfold C0
     dsimp only
     cases hl:l.lock with
     | true =>
       rw[hl,cond_true] at h
       simp only[if_true]
       rw[← Tr.ab h,eQ]
       simp only[Fi,hl,if_true,ite_self]
     | false =>
       rw[hl,cond_false] at h
       obtain ⟨z,h1,h⟩:=Tr.bind_some h
       have h1:=ss _ _ _ _ h1
       rw[dc,eQ] at h1
       simp only[Bool.false_eq_true,if_false,h1]
       rw[← Tr.ab h]
       cases Nat.beq (Nat.shiftRight m 4003) 0<;>rfl
def aQ (cx:Cx) (callR:bG) (bl:gR) (rg:rP):Code→aI→aa→Tr n6
 | .skip,fr,H=>.ok (.normal,fr,H)
 | .label _,fr,H=>.ok (.normal,fr,H)
 | .exit id,fr,H=>.ok (.exit id,fr,H)
 | .goto l,fr,H=>.ok (.goto l,fr,H)
 | .ret,fr,H=>.ok (.ret,fr,H)
 | .region id ops draw,fr,H =>
   (cond draw (cond (eX ops (Region.before ops)) (ot cx.P cx.nt cx.call callR ops (Region.before ops) ops.toList 0 fr (kP H (cB ops.toList)) (fB H) []) .bad) (iD cx.P cx.nt cx.call callR ops ops.toList fr H)).bind fun x=>(Au (cx.kt id) x.1 x.2).bind fun y=>.ok (.normal,y.1,y.2)
 | .seq a b,fr,H=>(aQ cx callR bl rg a fr H).bind fun x=>match x with
   | (.normal,fr,H)=>aQ cx callR bl rg b fr H
   | r=>.ok r
 | .cond c a b,fr,H=>match c with
   | .tmp d=>vG fr d (fun fr=>aQ cx callR bl rg a fr H) (fun fr=>aQ cx callR bl rg b fr H)
   | c=>match (bW fr c).1 with
     | .bool t=>cond t (aQ cx callR bl rg a fr H) (aQ cx callR bl rg b fr H)
     | _=>.bad
 | .block id b,fr,H=>match bl id fr H with
   | some t=>t
   | none=>(aQ cx callR bl rg b fr H).bind fun x=>match x with
     | (.exit id',fr,H)=>cond (Nat.beq id' id) (.ok (.normal,fr,H)) (.ok (.exit id',fr,H))
     | r=>.ok r
 | .scope b,fr,H=>(aQ cx callR bl rg b fr H).bind fun x=>match x with
   | (.goto _,_,_)=>.bad
   | r=>.ok r
 | .rangeFunc f _ _ _,fr,H=>match rg f fr H with
   | some t=>t
   | none=>.bad
 | .loop b,fr,H=>cond (Nat.ble 12 cx.fu) (BB (aQ cx callR bl rg b) (fB H) 12 fr H) .bad
 | .refuse _,_,_=>.bad

theorem oA {cx:Cx} {callR:bG} {bl:gR} {rg:rP} (hC:callR.Ok cx.call):∀ (c:Code),bl.Ok cx c→rg.Ok cx c→∀ (fr:aI) (H:aa) (x:n6),(aQ cx callR bl rg c fr H).run=some x→exec cx c (strip fr) H=some x.st:=by
 intro c
 induction c with
 | skip=>intro _ _ fr H x h;rw[← Tr.ab h];rfl
 | label=>intro _ _ fr H x h;rw[← Tr.ab h];rfl
 | exit=>intro _ _ fr H x h;rw[← Tr.ab h];rfl
 | goto=>intro _ _ fr H x h;rw[← Tr.ab h];rfl
 | ret=>intro _ _ fr H x h;rw[← Tr.ab h];rfl
 | refuse=>intro _ _ fr H x h;exact (Tr.ae h).elim
 | loop b ih =>
   intro hb hr fr H x h
   simp only[aQ] at h
   obtain ⟨hk,h⟩:=Tr.aR h
   rw[Nat.ble_eq] at hk
   unfold exec
   rw[gE] at h
   exact vc _ _ _ _ _ (ym (fun fr H x h=>ih hb hr fr H x h) 12 fr H x h) hk
 | rangeFunc f ps a b =>
   intro _ hr fr H x h
   simp only[aQ] at h
   split at h
   · rename_i t ht
     exact hr f ps a b (by simp[dV]) fr H t x ht h
   · exact (Tr.ae h).elim
 | region id ops draw =>
   intro _ _ fr H x h
   simp only[aQ] at h
   obtain ⟨y,h1,h⟩:=Tr.bind_some h
   obtain ⟨z,h2,h⟩:=Tr.bind_some h
   have h2:=C3 h2
   rw[← Tr.ab h]
   unfold exec
   cases draw with
   | true =>
     rw[cond_true] at h1
     obtain ⟨hs,h1⟩:=Tr.aR h1
     rw[gE] at h1
     simp only[if_true,hs]
     rw[qB hC _ _ _ _ _ _ _ h1]
     dsimp only
     rw[h2]
     rfl
   | false =>
     rw[cond_false] at h1
     simp only[Bool.false_eq_true,if_false]
     rw[fE hC _ _ _ _ h1]
     dsimp only
     rw[h2]
     rfl
 | seq a b iha ihb =>
   intro hb hr fr H x h
   have hba:bl.Ok cx a:=fun id b' hm=>hb id b' (List.mem_append_left _ hm)
   have hbb:bl.Ok cx b:=fun id b' hm=>hb id b' (List.mem_append_right _ hm)
   have hra:rg.Ok cx a:=fun f ps u v hm=>hr f ps u v (List.mem_append_left _ hm)
   have hrb:rg.Ok cx b:=fun f ps u v hm=>hr f ps u v (List.mem_append_right _ hm)
   simp only[aQ] at h
   obtain ⟨y,h1,h⟩:=Tr.bind_some h
   have h1:=iha hba hra _ _ _ h1
   unfold exec
   rw[h1]
   obtain ⟨e,fr1,H1⟩:=y
   cases e
   case normal=>exact ihb hbb hrb _ _ _ h
   all_goals
    have h:=Tr.ab h
    rw[← h];rfl
 | cond c a b iha ihb =>
   intro hb hr fr H x h
   have hba:bl.Ok cx a:=fun id b' hm=>hb id b' (List.mem_append_left _ hm)
   have hbb:bl.Ok cx b:=fun id b' hm=>hb id b' (List.mem_append_right _ hm)
   have hra:rg.Ok cx a:=fun f ps u v hm=>hr f ps u v (List.mem_append_left _ hm)
   have hrb:rg.Ok cx b:=fun f ps u v hm=>hr f ps u v (List.mem_append_right _ hm)
   simp only[aQ] at h
   unfold exec
   split at h
   · rename_i d
     obtain ⟨b',fr',h1,h2,h3⟩:=ln h
     have e:bI (strip fr) (.tmp d)=.bool b':=h1
     rw[e,← h2]
     cases b' with
     | true=>exact iha hba hra _ _ _ h3
     | false=>exact ihb hbb hrb _ _ _ h3
   · rename_i c' hne
     rw[aT] at h
     split at h
     · rename_i t hc
       rw[hc]
       cases t with
       | true=>exact iha hba hra _ _ _ h
       | false=>exact ihb hbb hrb _ _ _ h
     · exact (Tr.ae h).elim
 | block id b ih =>
   intro hb hr fr H x h
   have hbb:bl.Ok cx b:=fun id' b' hm=>hb id' b' (by simp only[aJ];exact List.mem_cons_of_mem _ hm)
   simp only[aQ] at h
   split at h
   · rename_i t ht
     exact hb id b (by simp[aJ]) _ _ _ _ ht h
   · obtain ⟨y,h1,h⟩:=Tr.bind_some h
     have h1:=ih hbb hr _ _ _ h1
     unfold exec
     rw[h1]
     obtain ⟨e,fr1,H1⟩:=y
     cases e
     case exit id' =>
      dsimp only[n6.st] at h ⊢
      rw[ga] at h
      split at h
      · rename_i wg
        rw[if_pos wg,← Tr.ab h]
      · rename_i wg
        rw[if_neg wg,← Tr.ab h]
     all_goals
      have h:=Tr.ab h
      rw[← h];rfl
 | scope b ih =>
   intro hb hr fr H x h
   simp only[aQ] at h
   obtain ⟨y,h1,h⟩:=Tr.bind_some h
   have h1:=ih hb hr _ _ _ h1
   unfold exec
   rw[h1]
   obtain ⟨e,fr1,H1⟩:=y
   cases e
   case goto=>exact (Tr.ae h).elim
   all_goals
    have h:=Tr.ab h
    rw[← h];rfl

end
end Go.Eng
end
section
namespace Go.Eng
noncomputable section

def mV   (bs:List (Nat×ak)):Nat→AV→Tr AV
 | 0,_=>.ok .undef
 | n + 1,v=>match v with
   | .ptr d i ver off=>match d with
     | d+1=>.ok (.ptr d i ver off)
     | 0 => match AE bs i with
       | (w,.row r)=>cond (Nat.beq w ver) (match r with
         | .I k l=>.ok (.ptrT none (.I k l) off)
         | .F f m=>.ok (.ptrT none (.F f m) off)
         | .M l=>cond (fZ l) (.ok (.ptrT none (.M l) off)) ((mb (mV bs n) l).bind fun m=>.ok (.ptrT (some 0) (.M m) off))
         | .G l=>(nD (mV bs n) l).bind fun m=>.ok (.ptrT (some 0) (.G m) off)) .bad
       | _=>.bad
   | .slc d i ver off sz len cap=>match d with
     | d+1=>.ok (.slc d i ver off sz len cap)
     | 0 => match AE bs i with
       | (w,.row r)=>.req (cu w ver) (match r with
         | .M [.arr k z N]=>.req (fW off (iU len sz) 0 N) (.ok (.slcT none (.M [.arr k (dE z off) (iU len sz)]) sz len (qA cap len)))
         | .I k l=>cond (tZ (.I k l) off (Nat.mul len sz)) (.ok (.slcT none (.I k (iv (lz l off) (Nat.mul len sz))) sz len (qA cap len))) .bad
         | .F f N=>.req (fW off (iU len sz) 0 N) (.ok (.slcT none (.F (fun j=>f (bY off j)) (iU len sz)) sz len (qA cap len)))
         | .G l=>cond (tZ (.G l) off (Nat.mul len sz)) ((nD (mV bs n) (iv (lz l off) (Nat.mul len sz))).bind fun m=>.ok (.slcT (some 0) (.G m) sz len (qA cap len))) .bad
         | _=>.bad)
       | _=>.bad
   | .ptrT s r off=>match s with
     | none=>.ok (.ptrT none r off)
     | some (s+1)=>.ok (.ptrT (some s) r off)
     | some 0=>match r with
       | .G l=>(nD (mV bs n) l).bind fun m=>.ok (.ptrT (some 0) (.G m) off)
       | .M l=>cond (fZ l) (.ok (.ptrT none (.M l) off)) ((mb (mV bs n) l).bind fun m=>.ok (.ptrT (some 0) (.M m) off))
       | r=>.ok (.ptrT none r off)
   | .slcT s r sz len full=>match s with
     | none=>.ok (.slcT none r sz len full)
     | some (s+1)=>.ok (.slcT (some s) r sz len full)
     | some 0=>match r with
       | .G l=>(nD (mV bs n) l).bind fun m=>.ok (.slcT (some 0) (.G m) sz len full)
       | .M l=>cond (fZ l) (.ok (.slcT none (.M l) sz len full)) ((mb (mV bs n) l).bind fun m=>.ok (.slcT (some 0) (.M m) sz len full))
       | r=>.ok (.slcT none r sz len full)
   | .map d i=>match d with
     | d+1=>.ok (.map d i)
     | 0=>.ok .undef
   | .yld d i=>match d with
     | d+1=>.ok (.yld d i)
     | 0=>.ok .undef
   | .fn f a b=>(nD (mV bs n) a).bind fun a'=>(nD (mV bs n) b).bind fun b'=>.ok (.fn f a' b')
   | .agg r=>match r with
     | .G l=>(nD (mV bs n) l).bind fun m=>.ok (.agg (.G m))
     | .M l=>(mb (mV bs n) l).bind fun m=>.ok (.agg (.M m))
     | r=>.ok (.agg r)
   | .tup l=>(nD (mV bs n) l).bind fun m=>.ok (.tup m)
   | v=>.ok v
theorem Bp (bs:List (Nat×ak)):∀ (n:Nat) (v u:AV),(mV bs n v).run=some u→dC bs n v=u
 | 0,v,u,h=>Tr.ab h
 | n + 1,v,  u,h=>by
   have ih:=Bp bs n
   simp only[mV,rE] at h
   cases v with
   | ptr d i ver off =>
     cases d with
     | succ d=>exact Tr.ab h
     | zero =>
       dsimp only at h
       simp only[dC]
       split at h
       · rename_i w r hg
         obtain ⟨hw,h⟩:=Tr.aR h
         rw[hg]
         dsimp only
         rw[if_pos hw]
         cases r with
         | I k l=>exact Tr.ab h
         | F f m=>exact Tr.ab h
         | G l =>
           obtain ⟨m,h1,h⟩:=Tr.bind_some h
           rw[← Tr.ab h,← eT ih _ _ h1]
         | M l =>
           dsimp only at h ⊢
           cases ha:fZ l with
           | true=>rw[ha,cond_true] at h;rw[if_pos rfl];exact Tr.ab h
           | false =>
             rw[ha,cond_false] at h
             obtain ⟨m,h1,h⟩:=Tr.bind_some h
             rw[if_neg (by simp),← Tr.ab h,← g7 ih _ _ h1]
       · exact (Tr.ae h).elim
   | slc d i ver off sz len cap =>
     cases d with
     | succ d=>exact Tr.ab h
     | zero =>
       dsimp only at h
       simp only[dC]
       split at h
       · rename_i w r hg
         obtain ⟨hw,h'⟩:=Tr.aP h
         clear h
         rw[gb,decide_eq_true_eq] at hw
         subst hw
         rw[hg]
         dsimp only
         split at h'
         · rename_i k z N
           have h:=h'
           obtain ⟨hc,h⟩:=Tr.aP h
           rw[gF,decide_eq_true_eq,cr] at hc
           rw[if_pos ⟨by simp,by simp only[Row.len,aw,aM];omega⟩,← Tr.ab h,jR,cr,mr]
           simp only[Row.sub,fZ,if_true]
         · have h:=h'
           obtain ⟨hc,h⟩:=Tr.aR h
           rw[kK,decide_eq_true_eq] at hc
           rw[if_pos ⟨by simp,hc⟩,← Tr.ab h,jR,gr,gV]
           rfl
         · have h:=h'
           obtain ⟨hc,h⟩:=Tr.aP h
           rw[gF,decide_eq_true_eq,cr] at hc
           rw[if_pos ⟨by simp,by simp only[Row.len];omega⟩,← Tr.ab h,jR,cr]
           simp only[Row.sub,bH]
         · have h:=h'
           obtain ⟨hc,h⟩:=Tr.aR h
           rw[kK,decide_eq_true_eq] at hc
           obtain ⟨m,h1,h⟩:=Tr.bind_some h
           rw[gr,gV] at h1
           rw[if_pos ⟨by simp,hc⟩,← Tr.ab h,jR,← eT ih _ _ h1]
           rfl
         · exact (Tr.ae h').elim
       · exact (Tr.ae h).elim
   | ptrT s r off =>
     cases s with
     | none=>exact Tr.ab h
     | some s =>
       cases s with
       | succ s=>exact Tr.ab h
       | zero =>
         simp only[dC]
         cases r with
         | I k l=>exact Tr.ab h
         | F f m=>exact Tr.ab h
         | G l =>
           obtain ⟨m,h1,h⟩:=Tr.bind_some h
           rw[← Tr.ab h,← eT ih _ _ h1]
         | M l =>
           dsimp only at h ⊢
           cases ha:fZ l with
           | true=>rw[ha,cond_true] at h;rw[if_pos rfl];exact Tr.ab h
           | false =>
             rw[ha,cond_false] at h
             obtain ⟨m,h1,h⟩:=Tr.bind_some h
             rw[if_neg (by simp),← Tr.ab h,← g7 ih _ _ h1]
   | slcT s r sz len full =>
     cases s with
     | none=>exact Tr.ab h
     | some s =>
       cases s with
       | succ s=>exact Tr.ab h
       | zero =>
         simp only[dC]
         cases r with
         | I k l=>exact Tr.ab h
         | F f m=>exact Tr.ab h
         | G l =>
           obtain ⟨m,h1,h⟩:=Tr.bind_some h
           rw[← Tr.ab h,← eT ih _ _ h1]
         | M l =>
           dsimp only at h ⊢
           cases ha:fZ l with
           | true=>rw[ha,cond_true] at h;rw[if_pos rfl];exact Tr.ab h
           | false =>
             rw[ha,cond_false] at h
             obtain ⟨m,h1,h⟩:=Tr.bind_some h
             rw[if_neg (by simp),← Tr.ab h,← g7 ih _ _ h1]
   | map d i=>cases d<;>exact Tr.ab h
   | yld d i=>cases d<;>exact Tr.ab h
   | fn f a b =>
     obtain ⟨a',h1,h⟩:=Tr.bind_some h
     obtain ⟨b',h2,h⟩:=Tr.bind_some h
     simp only[dC]
     rw[← Tr.ab h,← eT ih _ _ h1,← eT ih _ _ h2]
   | agg r =>
     simp only[dC]
     cases r with
     | I k l=>exact Tr.ab h
     | F f m=>exact Tr.ab h
     | G l =>
       obtain ⟨m,h1,h⟩:=Tr.bind_some h
       rw[← Tr.ab h,← eT ih _ _ h1]
     | M l =>
       obtain ⟨m,h1,h⟩:=Tr.bind_some h
       rw[← Tr.ab h,← g7 ih _ _ h1]
   | tup l =>
     obtain ⟨m,h1,h⟩:=Tr.bind_some h
     simp only[dC]
     rw[← Tr.ab h,← eT ih _ _ h1]
   | _=>exact Tr.ab h

def Ge (l:List HV):Nat→aI:=List.rec (motive:=fun _=>Nat→aI) (fun _=>[]) (fun v _ ih x=>(x,(fz 1 v.1,v.2))::ih (Nat.succ x)) l
theorem Bb:∀ (l:List HV) (x:Nat),strip (Ge l x)=ef x (pG l)
 | [],x=>rfl
 | v::l,x=>by
   have e:Ge (v::l) x=(x,(fz 1 v.1,v.2))::Ge l (x+1):=rfl
   rw[e,c6,Bb l];rfl
def hints (f:ao):aI:=List.rec (motive:=fun _=>aI) [] (fun p _ ih=>(p.1,(p.2,none))::ih) f
theorem gZ:∀ f:ao,strip (hints f)=f
 | []=>rfl
 | (x,v)::r=>by
   have e:hints ((x,v)::r)=(x,(v,none))::hints r:=rfl
   rw[e,c6,gZ r]
def AN (P:Program) (fr:aI) (H:aa):List ResultVar→Tr (List AV)
 | []=>.ok []
 | .tmp t::r=>(AN P fr H r).bind fun l=>.ok ((lC fr t).1::l)
 | .cell a t::r=>(loadT P H t (bW fr (.tmp a))).bind fun v=>(AN P fr H r).bind fun l=>.ok (v::l)
theorem wX {P:Program} {fr:aI} {H:aa}:∀ (l:List ResultVar) (vs:List AV),(AN P fr H l).run=some vs→gv P (strip fr) H l=some vs
 | [],vs,h=>by rw[← Tr.ab h];rfl
 | .tmp t::r,vs,h=>by
   simp only[AN] at h
   obtain ⟨l,h1,h⟩:=Tr.bind_some h
   simp only[gv]
   rw[wX r l h1,← Tr.ab h,fh];rfl
 | .cell a t::r,vs,h=>by
   simp only[AN] at h
   obtain ⟨v,h0,h⟩:=Tr.bind_some h
   obtain ⟨l,h1,h⟩:=Tr.bind_some h
   have h0:=yB h0
   rw[aT] at h0
   simp only[gv]
   have e:bI (strip fr) (.tmp a)=bo (strip fr) a:=rfl
   rw[e] at h0
   rw[h0]
   dsimp only
   rw[wX r l h1,← Tr.ab h];rfl
def H9 (fr:aI) (rs:List ResultVar):Option Nat :=
 match rs with
 | [.tmp t]=>(lC fr t).2
 | _=>none
def JM (P:Program) (rs:List ResultVar) (x:n6):Tr (HV×aa) :=
 match x with
 | (e,fr,l::H)=>match e with
   | .normal | .ret=>(AN P fr (l::H) rs).bind fun vs=>(mV l.bs 5 (one vs)).bind fun v=>.ok ((v,H9 fr rs),H)
   | _=>.bad
 | _=>.bad
theorem Hm {P:Program} {rs:List ResultVar} {x:n6} {y:HV×aa} (h:(JM P rs x).run=some y):∃ l vs,x.2.2=l::y.2∧(x.1=.normal∨x.1=.ret)∧gv P (strip x.2.1) x.2.2 rs=some vs∧dC l.bs 5 (one vs)=y.1.1:=by
 unfold JM at h
 split at h
 · rename_i e fr l H
   have key:((AN P fr (l::H) rs).bind fun vs=>(mV l.bs 5 (one vs)).bind fun v=>Tr.ok (((v,H9 fr rs),H):HV×aa)).run=some y→∃ vs,l::H=l::y.2∧gv P (strip fr) (l::H) rs=some vs∧dC l.bs 5 (one vs)=y.1.1:=by
    intro h
    obtain ⟨vs,h1,h⟩:=Tr.bind_some h
    obtain ⟨v,h2,h⟩:=Tr.bind_some h
    have h:=Tr.ab h
    refine ⟨vs,by rw[← h],wX _ _ h1,?_⟩
    rw[Bp _ _ _ _ h2,← h]
   split at h
   · obtain ⟨vs,h1,h2,h3⟩:=key h;exact ⟨l,vs,h1,.inl rfl,h2,h3⟩
   · obtain ⟨vs,h1,h2,h3⟩:=key h;exact ⟨l,vs,h1,.inr rfl,h2,h3⟩
   · exact (Tr.ae h).elim
 · exact (Tr.ae h).elim
def aZ (P:Program) (call:aV) (fu:Nat) (f:FuncId) (fn:Func) (kt:Nat→Nat) (callR:bG) (bl:gR) (rg:rP) (args:List HV) (H:aa):Tr (HV×aa) :=
 (aQ ⟨P,call,fu,f,fn.ntmps,kt,none⟩ callR bl rg (bm fn) (Ge args 0) (⟨false,[]⟩::H)).bind fun x=>JM P fn.results.toList x
theorem rX {P:Program} {ora:aV→FuncId→List AV→aa→Option (AV×aa)} {KT:FuncId→Nat→Nat} {fu n:Nat} {f:FuncId} {fn:Func} (hf:P.funcs[f]?=some fn) (hb:fn.body.isSome=true) {args:List HV} {H:aa} (ho:ora (cM P ora KT fu n) f (pG args) H=none) (hle:Nat.ble args.length fn.ntmps=true)
 {callR:bG} (hC:callR.Ok (cM P ora KT fu n)) {bl:gR} (hB:bl.Ok ⟨P,cM P ora KT fu n,fu,f,fn.ntmps,KT f,none⟩ (bm fn)) {rg:rP} (hR:rg.Ok ⟨P,cM P ora KT fu n,fu,f,fn.ntmps,KT f,none⟩ (bm fn)) {y:HV×aa}
 (h:(aZ P (cM P ora KT fu n) fu f fn (KT f) callR bl rg args H).run=some y):cM P ora KT fu (n+1) (.fn f) (pG args) H=some (y.1.1,y.2):=by
 unfold aZ at h
 obtain ⟨x,h1,h⟩:=Tr.bind_some h
 have h1:=oA hC _ hB hR _ _ _ h1
 rw[Bb] at h1
 obtain ⟨l,vs,k1,k2,k3,k4⟩:=Hm h
 obtain ⟨c,hc⟩:=Option.isSome_iff_exists.1 hb
 have hbody:bm fn=c:=by unfold bm;rw[hc]
 rw[hbody] at h1
 obtain ⟨e,fr,H1⟩:=x
 dsimp only[n6.st] at h1 k1 k2 k3
 rw[k1] at h1 k3
 have hl:(pG args).length=args.length:=by unfold pG;rw[jt,List.length_map]
 simp only[cM,ho,hf,hc,hl,hle,if_true,h1]
 rcases k2 with rfl | rfl<;>simp only[k3]<;>rw[k4]

theorem dT {cx:Cx} {id:Nat} {b:Code} {fr fr1:ao} {H H1:aa} (h:iter (exec cx b) (al H) cx.fu fr H=some (.exit id,fr1,H1)):exec cx (.block id (.loop b)) fr H=some (.normal,fr1,H1):=by
 unfold exec
 have:exec cx (.loop b) fr H=some (.exit id,fr1,H1):=by unfold exec;exact h
 rw[this]
 dsimp only
 rw[if_pos (by simp)]
theorem eg {cx:Cx} {id:Nat} {b:Code} {fr fr1:ao} {H H1:aa} {e:Ex} (he:∀ id',e=.exit id'→Nat.beq id' id=false) (h:iter (exec cx b) (al H) cx.fu fr H=some (e,fr1,H1)):exec cx (.block id (.loop b)) fr H=some (e,fr1,H1):=by
 unfold exec
 have:exec cx (.loop b) fr H=some (e,fr1,H1):=by unfold exec;exact h
 rw[this]
 cases e with
 | exit id'=>dsimp only;rw[if_neg (by rw[he id' rfl];simp)]
 | _=>rfl
def fN (p:Nat→Bool):Nat→Nat→Nat
 | 0,j=>j
 | k+1,j=>if p j then j else fN p k (j+1)
theorem mE (p:Nat→Bool):∀ (k j:Nat),j≤fN p k j∧fN p k j≤j+k∧(∀ i,j≤i→i<fN p k j→p i=false)∧(fN p k j<j+k→p (fN p k j)=true)
 | 0,j=>⟨Nat.le_refl _,Nat.le_refl _,fun i h1 h2=>absurd h2 (by simp only[fN];omega),fun h=>absurd h (by simp only[fN];omega)⟩
 | k + 1,j=>by
   simp only[fN]
   by_cases h:p j=true
   · rw[if_pos h]
     exact ⟨Nat.le_refl _,by omega,fun i h1 h2=>by omega,fun _=>h⟩
   · rw[if_neg h]
     obtain ⟨h1,h2,h3,h4⟩:=mE p k (j+1)
     refine ⟨by omega,by omega,fun i k1 k2=>?_,fun k1=>h4 (by omega)⟩
     by_cases e:i=j
     · subst e;simpa using h
     · exact h3 i (by omega) k2
theorem mH {body:ao→aa→Option (Ex×ao×aa)} {n:Nat} (F:Nat→ao) (G:Nat→aa) (N:Nat) (p:Nat→Bool) (X:Nat→Ex×ao×aa)
 (hs:∀ j,j<N→p j=false→∃ f g,body (F j) (G j)=some (.normal,f,g)∧tidy n f g=(F (j+1),G (j+1)))
 (hh:∀ j,j<N→p j=true→body (F j) (G j)=some (X j)∧(X j).1≠.normal) (he:body (F N) (G N)=some (X N)∧(X N).1≠.normal) :
 ∀ (k j fu:Nat),j+k=N→k<fu→iter body n fu (F j) (G j)=some (X (fN p k j))
 | 0,j,0,_,h=>by omega
 | 0,j,fu+1,hj,_=>by
   have:j=N:=by omega
   subst this
   unfold iter
   rw[he.1]
   obtain ⟨x,hx⟩:∃ x,x=X j:=⟨_,rfl⟩
   have hn:=he.2
   simp only[fN]
   rw[← hx] at hn ⊢
   obtain ⟨e,f,g⟩:=x
   cases e<;>first | exact absurd rfl hn | rfl
 | k+1,j,0,_,h=>by omega
 | k + 1,j,fu+1,hj,hf=>by
   unfold iter
   cases hp:p j with
   | true =>
     obtain ⟨h1,h2⟩:=hh j (by omega) hp
     rw[h1]
     simp only[fN]
     rw[if_pos hp]
     obtain ⟨x,hx⟩:∃ x,x=X j:=⟨_,rfl⟩
     rw[← hx] at h2 ⊢
     obtain ⟨e,f,g⟩:=x
     cases e<;>first | exact absurd rfl h2 | rfl
   | false =>
     obtain ⟨f,g,h1,h2⟩:=hs j (by omega) hp
     rw[h1]
     dsimp only
     rw[h2]
     simp only[fN]
     rw[if_neg (by rw[hp];simp)]
     exact mH F G N p X hs hh he k (j+1) fu (by omega) (by omega)
theorem sB {body:ao→aa→Option (Ex×ao×aa)} {n:Nat} (I:Nat→ao→aa→Prop) (Q:Ex×ao×aa→Prop) (N:Nat)
 (hr:∀ j fr H,I j fr H→(∃ e f g,body fr H=some (e,f,g)∧((e=.normal∧j<N∧I (j+1) (tidy n f g).1 (tidy n f g).2)∨(e≠.normal∧Q (e,f,g))))) :
 ∀ (fu j:Nat) (fr:ao) (H:aa),I j fr H→N-j<fu→∃ x,iter body n fu fr H=some x∧Q x
 | 0,j,fr,H,_,h=>by omega
 | fu+1,j,fr,H,hI,h=>by
   obtain ⟨e,f,g,h1,h2⟩:=hr j fr H hI
   unfold iter
   rw[h1]
   rcases h2 with ⟨rfl,hj,h2⟩ | ⟨he,hq⟩
   · dsimp only
     exact sB I Q N hr fu (j+1) _ _ h2 (by omega)
   · cases e<;>first | exact absurd rfl he | exact ⟨_,rfl,hq⟩

end
end Go.Eng
end
