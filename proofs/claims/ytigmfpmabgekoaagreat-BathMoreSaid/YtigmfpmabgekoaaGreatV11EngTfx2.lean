/- The engine as a tree: regions, code, calls. -/
import Derived.Test.YtigmfpmabgekoaaGreatV11EngTe
set_option linter.unusedVariables false
set_option linter.unusedSimpArgs false
section
namespace Go.Eng
noncomputable section

def vA (f:aM) (y:Nat) (b:Bool):aM:=List.rec (motive:=fun _=>aM) [] (fun p r ih=>Bool.rec (motive:=fun _=>aM) (p::ih) ((p.1,(.bool b,some 1))::r) (Nat.beq p.1 y)) f
theorem tp:∀ (f:aM) (y:Nat) (b:Bool),br (strip f) y=.bool b→strip (vA f y b)=strip f
 | [],y,b,_=>rfl
 | (x,v)::r,y,b,h=>by
   have e:vA ((x,v)::r) y b=Bool.rec (motive:=fun _=>aM) ((x,v)::vA r y b) ((x,(.bool b,some 1))::r) (Nat.beq x y):=rfl
   rw[dg,br] at h
   rw[e]
   cases hb:Nat.beq x y with
   | true =>
     rw[hb] at h
     have h:v.1=.bool b:=h
     show (x,AV.bool b)::strip r=(x,v.1)::strip r
     rw[h]
   | false =>
     rw[hb] at h
     show (x,v.1)::strip (vA r y b)=(x,v.1)::strip r
     rw[tp r y b h]
def vV {α:Type} (fr:aM) (d:Nat) (t e:aM→Tr α):Tr α :=
 match lW fr d with
 | (.bool b,none)=>.ite b (t (vA fr d true)) (e (vA fr d false))
 | (.bool b,some _)=>cond b (t fr) (e fr)
 | _=>.bad
theorem lM {α:Type} {fr:aM} {d:Nat} {t e:aM→Tr α} {x:α} (h:(vV fr d t e).run=some x):∃ b fr',br (strip fr) d=.bool b∧strip fr'=strip fr∧(if b then t fr' else e fr').run=some x:=by
 unfold vV at h
 split at h
 · rename_i b hg
   have hg':br (strip fr) d=.bool b:=by rw[← fv,hg]
   rcases Tr.gr h with ⟨rfl,h⟩ | ⟨rfl,h⟩
   · exact ⟨true,_,hg',tp _ _ _ hg',h⟩
   · exact ⟨false,_,hg',tp _ _ _ hg',h⟩
 · rename_i b n hg
   have hg':br (strip fr) d=.bool b:=by rw[← fv,hg]
   refine ⟨b,fr,hg',rfl,?_⟩
   cases b<;>exact h
 · exact (Tr.ae h).elim
def CM (ops:Array Oper) (fr:aM) (o:Oper):Tr (Bool×aM) :=
 match o.guard with
 | none=>.ok (true,fr)
 | some (j,want)=>match (ops[j]?).bind (·.dst) with
   | none=>.bad
   | some d=>match (lW fr d).1 with
     | .bool _=>cond want (vV fr d (fun fr=>.ok (true,fr)) (fun fr=>.ok (false,fr))) (vV fr d (fun fr=>.ok (false,fr)) (fun fr=>.ok (true,fr)))
     | .tup _=>.ok (false,fr)
     | _=>.bad
theorem Ac {ops:Array Oper} {fr:aM} {o:Oper} {r:Bool×aM} (h:(CM ops fr o).run=some r):ir ops (strip fr) o=(if r.1 then .run else .skip)∧strip r.2=strip fr:=by
 unfold CM at h
 unfold ir
 cases hg:o.guard with
 | none =>
   rw[hg] at h
   rw[← Tr.ab h];exact ⟨rfl,rfl⟩
 | some jw =>
   obtain ⟨j,want⟩:=jw
   rw[hg] at h
   dsimp only at h ⊢
   cases hd:(ops[j]?).bind (·.dst) with
   | none=>rw[hd] at h;exact (Tr.ae h).elim
   | some d =>
     rw[hd] at h
     dsimp only at h ⊢
     have he:=fv fr d
     rw[he] at h
     cases hv:br (strip fr) d<;>rw[hv] at h<;>try exact (Tr.ae h).elim
     case bool b =>
      dsimp only at h ⊢
      cases want with
      | true =>
        rw[cond_true] at h
        obtain ⟨b',fr',h1,h2,h3⟩:=lM h
        rw[hv] at h1
        cases h1
        cases b<;>(have h3:=Tr.ab h3;rw[← h3];exact ⟨rfl,h2⟩)
      | false =>
        rw[cond_false] at h
        obtain ⟨b',fr',h1,h2,h3⟩:=lM h
        rw[hv] at h1
        cases h1
        cases b<;>(have h3:=Tr.ab h3;rw[← h3];exact ⟨rfl,h2⟩)
     case tup l=>rw[← Tr.ab h];exact ⟨rfl,rfl⟩

def iS (P:Program) (nt:Nat) (call:aL) (callR:bE) (ops:Array Oper):List Oper→aM→aa→Tr (aM×aa)
 | [],fr,H=>.ok (fr,H)
 | o::r,fr,H=>(CM ops fr o).bind fun b=>cond b.1
   ((LR o.op o P call callR b.2 H (fK H)).bind fun y=>iS P nt call callR ops r (ru nt b.2 o.dst y.1) (Nu y.2 H))
   (iS P nt call callR ops r (ru nt b.2 o.dst (.tup [],none)) H)
theorem fM {P:Program} {nt:Nat} {call:aL} {callR:bE} (hC:callR.Ok call) {ops:Array Oper}:∀ (l:List Oper) (fr:aM) (H:aa) (x:aM×aa),(iS P nt call callR ops l fr H).run=some x→dO P nt call ops l (strip fr) H=some (strip x.1,x.2)
 | [],fr,H,x,h=>by rw[← Tr.ab h];rfl
 | o :: r,fr,H,x,h=>by
   simp only[iS] at h
   obtain ⟨b,h1,h⟩:=Tr.bind_some h
   unfold dO
   obtain ⟨hw,hs⟩:=Ac h1
   rw[hw,← hs]
   obtain ⟨b,fr1⟩:=b
   dsimp only at h ⊢
   cases b with
   | false =>
     have:=fM hC r _ _ _ h
     rw[mZ] at this
     exact this
   | true =>
     rw[cond_true] at h
     obtain ⟨y,h2,h⟩:=Tr.bind_some h
     have h2:=AW hC h2
     rw[gN] at h2
     have:=fM hC r _ _ _ h
     rw[mZ,Ft] at this
     rw[if_pos rfl]
     dsimp only
     rw[h2]
     exact this

def pH (fr:aM) (o:Oper):Touch:=kO (strip fr) o
def p9 (P:Program) (call:aL) (callR:bE) (ops:Array Oper) (bef:Nat) (fr0:aM) (H:aa) (nx:Nat) (recs:List Rec) (o:Oper):Tr (uh×Option Nat×aM) :=
 (CM ops fr0 o).bind fun b=>cond b.1
   (cond (fg o) ((LR o.op o P call callR b.2 (pt (jg bef recs H)) nx).bind fun y=>.ok (⟨y.1.1,.all,none⟩,y.1.2,b.2))
     ((LR o.op o P call callR b.2 (jg bef recs H) nx).bind fun y=>match y.2 with
       | .bc=>.ok (⟨y.1.1,pH b.2 o,none⟩,y.1.2,b.2)
       | .push q=>cond (gv o && !eT q && po (eR H 0 nx) && !fJ H 0) (.ok (⟨y.1.1,pH b.2 o,some (0,nx,(0,q))⟩,y.1.2,b.2)) .bad
       | .set d i q=>.req (fa (dG (eR H d i).1 q.1) (dG q.1 (Nat.succ (eR H d i).1))) (cond (!eT q.2 && !eT (eR (jg bef recs H) d i).2 && jm bef d i recs) (.ok (⟨y.1.1,pH b.2 o,some (d,i,q)⟩,y.1.2,b.2)) .bad)
       | _=>.bad))
   (.ok (⟨.tup [],.none,none⟩,none,b.2))
theorem wD {P:Program} {call:aL} {callR:bE} (hC:callR.Ok call) {ops:Array Oper} {bef:Nat} {fr:aM} {H:aa} {nx:Nat} {recs:List Rec} {o:Oper} {e:uh×Option Nat×aM} (h:(p9 P call callR ops bef fr H nx recs o).run=some e) :
 eQ P call ops bef (strip fr) H nx recs o=some e.1∧strip e.2.2=strip fr:=by
 unfold p9 at h
 unfold eQ
 simp only[kB,rm,pH,rz,ie,ew] at h
 obtain ⟨b,h1,h⟩:=Tr.bind_some h
 obtain ⟨hw,hs⟩:=Ac h1
 rw[hw,← hs]
 obtain ⟨b,fr1⟩:=b
 dsimp only at h ⊢
 cases b with
 | false =>
   rw[cond_false] at h
   rw[← Tr.ab h];exact ⟨rfl,rfl⟩
 | true =>
   rw[cond_true] at h
   rw[if_pos rfl]
   dsimp only
   cases hcv:fg o with
   | true =>
     rw[hcv,cond_true] at h
     obtain ⟨y,h2,h⟩:=Tr.bind_some h
     rw[if_pos rfl,AW hC h2,← Tr.ab h]
     exact ⟨rfl,rfl⟩
   | false =>
     rw[hcv,cond_false] at h
     obtain ⟨y,h2,h⟩:=Tr.bind_some h
     rw[if_neg (by simp),AW hC h2]
     split at h
     · rename_i hy
       rw[hy,← Tr.ab h];exact ⟨rfl,rfl⟩
     · rename_i b hy
       obtain ⟨hc,h⟩:=Tr.aP h
       rw[hy]
       dsimp only
       rw[if_pos hc,← Tr.ab h];exact ⟨rfl,rfl⟩
     · rename_i d i b hy
       obtain ⟨hv,h⟩:=Tr.aK h
       obtain ⟨hc,h⟩:=Tr.aP h
       rw[hy]
       dsimp only
       rw[oN,ly,ly,Bool.and_eq_true,decide_eq_true_eq,decide_eq_true_eq] at hv
       have hv':(Nat.beq b.1 (au H d i).1 || Nat.beq b.1 (Nat.succ (au H d i).1))=true:=by
        simp only[Bool.or_eq_true,Nat.beq_eq];omega
       simp only[Bool.and_eq_true] at hc
       rw[if_pos (by simp only[Bool.and_eq_true];exact ⟨⟨⟨hc.1.1,hv'⟩,hc.1.2⟩,hc.2⟩),← Tr.ab h];exact ⟨rfl,rfl⟩
     · exact (Tr.ae h).elim
def o6 (P:Program) (nt:Nat) (call:aL) (callR:bE) (ops:Array Oper) (befs:Array Nat):List Oper→Nat→aM→aa→Nat→List Rec→Tr (aM×aa)
 | [],_,fr,H,_,_=>.ok (fr,H)
 | o::r,j,fr,H,nx,recs=>(p9 P call callR ops (befs.getD j 0) fr H nx recs o).bind fun e =>
   o6 P nt call callR ops befs r (j+1) (ru nt e.2.2 o.dst (e.1.v,e.2.1)) (zA H e.1.wr) (if gv o then nx+1 else nx) (⟨j,e.1.rd,e.1.wr.map fun x=>(x.1,x.2.1)⟩::recs)
theorem qS {P:Program} {nt:Nat} {call:aL} {callR:bE} (hC:callR.Ok call) {ops:Array Oper} {befs:Array Nat}:∀ (l:List Oper) (j:Nat) (fr:aM) (H:aa) (nx:Nat) (recs:List Rec) (x:aM×aa),
 (o6 P nt call callR ops befs l j fr H nx recs).run=some x→fD P nt call ops befs j l (strip fr) H nx recs=some (strip x.1,x.2)
 | [],j,fr,H,nx,recs,x,h=>by rw[← Tr.ab h];rfl
 | o::r,j,fr,H,nx,recs,x,h=>by
   simp only[o6] at h
   obtain ⟨e,h1,h⟩:=Tr.bind_some h
   obtain ⟨hd,hs⟩:=wD hC h1
   unfold fD
   rw[hd,← hs]
   have:=qS hC r _ _ _ _ _ _ h
   rw[mZ,zB] at this
   exact this

def bo:Code→List (Nat×Code)
 | .block id b=>(id,b)::bo b
 | .loop b=>bo b
 | .seq a b=>bo a++bo b
 | .cond _ a b=>bo a++bo b
 | .scope b=>bo b
 | _=>[]
def ct (f:Func):Code:=match f.body with | some c=>c | none=>.skip
abbrev gY:=Ex×aM×aa
def gY.st (x:gY):Ex×av×aa:=(x.1,strip x.2.1,x.2.2)
abbrev g9:=Nat→aM→aa→Option (Tr gY)
abbrev sk:=Operand→aM→aa→Option (Tr gY)
def g9.Ok (bl:g9) (cx:Cx) (c:Code):Prop:=∀ id b,(id,b) ∈ bo c→∀ fr H t x,bl id fr H=some t→t.run=some x→exec cx (.block id b) (strip fr) H=some x.st
def eX:Code→List (Operand×Array Tmp×Code×Code)
 | .rangeFunc f ps a b=>[(f,ps,a,b)]
 | .loop b=>eX b
 | .block _ b=>eX b
 | .seq a b=>eX a++eX b
 | .cond _ a b=>eX a++eX b
 | .scope b=>eX b
 | _=>[]
def sk.Ok (rg:sk) (cx:Cx) (c:Code):Prop:=∀ f ps a b,(f,ps,a,b) ∈ eX c→∀ fr H t x,rg f fr H=some t→t.run=some x→exec cx (.rangeFunc f ps a b) (strip fr) H=some x.st
def gf (bl:g9) (id0:Nat) (fr0:av) (H0:aa) (u:Tr gY):g9:=fun id fr H=>cond (Nat.beq id id0) (some (.reqP (strip fr=fr0∧H=H0) u)) (bl id fr H)
theorem bL {bl:g9} {cx:Cx} {c:Code} (h:bl.Ok cx c) {id0:Nat} {fr0:av} {H0:aa} {u:Tr gY} {B:Code} (hB:∀ b,(id0,b) ∈ bo c→b=B) (k:∀ x,u.run=some x→exec cx (.block id0 B) fr0 H0=some x.st):(gf bl id0 fr0 H0 u).Ok cx c:=by
 intro id b hm fr H t y ht hy
 unfold gf at ht
 cases hb:Nat.beq id id0 with
 | true =>
   have yx:=Nat.eq_of_beq_eq_true hb
   subst yx
   rw[hb,cond_true,Option.some.injEq] at ht
   subst ht
   obtain ⟨⟨h1,h2⟩,h3⟩:=Tr.c7 hy
   rw[h1,h2,hB b hm]
   exact k y h3
 | false =>
   rw[hb,cond_false] at ht
   exact h id b hm fr H t y ht hy
def Nv (rg:sk) (tf:Operand→Bool) (fr0:av) (H0:aa) (u:Tr gY):sk:=fun f fr H=>cond (tf f) (some (.reqP (strip fr=fr0∧H=H0) u)) (rg f fr H)
theorem FH {rg:sk} {cx:Cx} {c:Code} (h:rg.Ok cx c) {tf:Operand→Bool} {fr0:av} {H0:aa} {u:Tr gY} (k:∀ f ps a b,tf f=true→(f,ps,a,b) ∈ eX c→∀ x,u.run=some x→exec cx (.rangeFunc f ps a b) fr0 H0=some x.st):(Nv rg tf fr0 H0 u).Ok cx c:=by
 intro f ps a b hm fr H t y ht hy
 unfold Nv at ht
 cases hb:tf f with
 | true =>
   rw[hb,cond_true,Option.some.injEq] at ht
   subst ht
   obtain ⟨⟨h1,h2⟩,h3⟩:=Tr.c7 hy
   rw[h1,h2]
   exact k f ps a b hb hm y h3
 | false =>
   rw[hb,cond_false] at ht
   exact h f ps a b hm fr H t y ht hy
def aZ:g9:=fun _ _ _=>none
def a6:sk:=fun _ _ _=>none
theorem ag (cx:Cx) (c:Code):aZ.Ok cx c:=fun _ _ _ _ _ _ _ h=>by cases h
theorem ah (cx:Cx) (c:Code):a6.Ok cx c:=fun _ _ _ _ _ _ _ _ _ h=>by cases h
def za (g:AV→AV):aM→aM
 | []=>[]
 | (x,(v,h))::r=>(x,(nG g v,h))::za g r
theorem zb (g:AV→AV):∀ fr:aM,strip (za g fr)=qx g (strip fr)
 | []=>rfl
 | (x,(v,h))::r=>by
   have e:za g ((x,(v,h))::r)=(x,(nG g v,h))::za g r:=rfl
   rw[e,dg,dg,qx,zb g r]
def lO (n:Nat):Nat→aM→aa→aM×aa
 | 0,fr,H=>(fr,H)
 | k + 1,fr,H=>match H with
   | []=>(fr,[])
   | l::r=>cond (Nat.ble (iA l.bs) (Nat.succ n)) (fr,l::r) (match hole (strip fr) l.bs 4 n with
     | none=>(fr,l::r)
     | some h=>lO n k (za (uH (l.bs.length-1) h) fr) (lS n (qx (uH (l.bs.length-1) h) (strip fr)) (xO (l.bs.length-1) h l::r)))
theorem tW (n:Nat):∀ (k:Nat) (fr:aM) (H:aa),(strip (lO n k fr H).1,(lO n k fr H).2)=jy n k (strip fr) H
 | 0,fr,H=>rfl
 | k+1,fr,[]=>rfl
 | k + 1,fr,l::r=>by
   cases hb:Nat.ble (iA l.bs) (Nat.succ n) with
   | true =>
     have:lO n (k+1) fr (l::r)=(fr,l::r):=by
      unfold lO;dsimp only;rw[hb];rfl
     rw[this,tZ (by rw[dh] at hb;simpa using hb)]
   | false =>
     unfold lO jy
     dsimp only
     rw[hb,cond_false]
     cases hole (strip fr) l.bs 4 n with
     | none=>rfl
     | some h =>
       dsimp only
       rw[tW n k,zb]
def CH (n:Nat) (fr:aM) (H:aa):aM×aa:=lO n 4 fr (lS n (strip fr) H)
theorem F3 (n:Nat) (fr:aM) (H:aa):(strip (CH n fr H).1,(CH n fr H).2)=tidy n (strip fr) H:=tW n 4 fr _
def BV (body:aM→aa→Tr gY) (n:Nat):Nat→aM→aa→Tr gY
 | 0,_,_=>.bad
 | k+1,fr,H=>(body fr H).bind fun x=>match x with
   | (.normal,fr,H)=>BV body n k (CH n fr H).1 (CH n fr H).2
   | r=>.ok r
theorem vr {body:av→aa→Option (Ex×av×aa)} {n:Nat}:∀ (k m:Nat) (fr:av) (H:aa) (x:Ex×av×aa),iter body n k fr H=some x→k≤m→iter body n m fr H=some x
 | 0,m,fr,H,x,h,_=>by simp[iter] at h
 | k+1,0,fr,H,x,h,hk=>by omega
 | k + 1,m+1,fr,H,x,h,hk=>by
   unfold iter at h ⊢
   cases hb:body fr H with
   | none=>rw[hb] at h;simp at h
   | some y =>
     rw[hb] at h
     obtain ⟨e,f,g⟩:=y
     cases e
     case normal=>exact vr k m _ _ _ h (by omega)
     all_goals exact h
theorem yH {body:aM→aa→Tr gY} {body':av→aa→Option (Ex×av×aa)} {n:Nat} (hb:∀ fr H x,(body fr H).run=some x→body' (strip fr) H=some x.st):∀ (k:Nat) (fr:aM) (H:aa) (x:gY),(BV body n k fr H).run=some x→iter body' n k (strip fr) H=some x.st
 | 0,fr,H,x,h=>(Tr.ae h).elim
 | k+1,fr,H,x,h=>by
   simp only[BV] at h
   obtain ⟨y,h1,h⟩:=Tr.bind_some h
   unfold iter
   rw[hb _ _ _ h1]
   obtain ⟨e,f,g⟩:=y
   cases e
   case normal =>
    have e:=F3 n f g
    have h:=yH hb k _ _ _ h
    show iter body' n k (tidy n (strip f) g).1 (tidy n (strip f) g).2=_
    rw[← e];exact h
   all_goals
    have h:=Tr.ab h
    rw[← h];rfl
def oj (f:AV→Tr AV):List AV→Tr (List AV)
 | []=>.ok []
 | v::l=>(f v).bind fun u=>(oj f l).bind fun m=>.ok (u::m)
theorem fj {f:AV→Tr AV} {g:AV→AV} (hf:∀ v u,(f v).run=some u→g v=u):∀ (l m:List AV),(oj f l).run=some m→l.map g=m
 | [],m,h=>Tr.ab h
 | v::l,m,h=>by
   simp only[oj] at h
   obtain ⟨u,h1,h⟩:=Tr.bind_some h
   obtain ⟨n,h2,h⟩:=Tr.bind_some h
   rw[← Tr.ab h,List.map_cons,hf _ _ h1,fj hf l n h2]
def mR (f:AV→Tr AV):List aW→Tr (List aW)
 | []=>.ok []
 | .one v::l=>(f v).bind fun u=>(mR f l).bind fun m=>.ok (.one u::m)
 | .arr k z n::l=>(mR f l).bind fun m=>.ok (.arr k z n::m)
theorem ig {f:AV→Tr AV} {g:AV→AV} (hf:∀ v u,(f v).run=some u→g v=u):∀ (l m:List aW),(mR f l).run=some m→mapM' g l=m
 | [],m,h=>Tr.ab h
 | .one v::l,m,h=>by
   simp only[mR] at h
   obtain ⟨u,h1,h⟩:=Tr.bind_some h
   obtain ⟨n,h2,h⟩:=Tr.bind_some h
   rw[← Tr.ab h,mapM',hf _ _ h1,ig hf l n h2]
 | .arr k z n::l,m,h=>by
   simp only[mR] at h
   obtain ⟨n,h2,h⟩:=Tr.bind_some h
   rw[← Tr.ab h,mapM',ig hf l n h2]
def qQ (cap:Option Nat) (len:Nat):Bool :=
 match cap with
 | none=>false
 | some c=>bX c len
theorem ko (cap:Option Nat) (len:Nat):qQ cap len=(cap == some len):=by
 cases cap with
 | none=>rfl
 | some c=>simp only[qQ,gi];rw[Bool.eq_iff_iff];simp
def yB (i ver:Nat) (r:Row):AV→Tr AV
 | .ptr d j v off=>cond (Nat.beq d 0 && Nat.beq j i) (.req (bX v ver) (.ok (.ptrT none r off))) (.ok (.ptr d j v off))
 | .slc d j v off sz len cap=>cond (Nat.beq d 0 && Nat.beq j i) (.req (bX v ver) (match r with
    | .M [.arr k z N]=>.req (lX off (jn len sz) 0 N) (.ok (.slcT none (.M [.arr k (g7 z off) (jn len sz)]) sz len (qQ cap len)))
    | .I k l=>cond (uy (.I k l) off (Nat.mul len sz)) (.ok (.slcT none (.I k (iI (lT l off) (Nat.mul len sz))) sz len (qQ cap len))) .bad
    | _=>.bad)) (.ok (.slc d j v off sz len cap))
 | v=>.ok v
theorem uT {d j i:Nat} {x:Bool} (h:(Nat.beq d 0 && Nat.beq j i)=true):(Nat.beq d 0 && (Nat.beq j i && x))=x:=by
 rw[Bool.and_eq_true] at h
 rw[h.1,h.2];rfl
theorem uU {d j i:Nat} {x:Bool} (h:(Nat.beq d 0 && Nat.beq j i)=false):(Nat.beq d 0 && (Nat.beq j i && x))=false:=by
 rw[← Bool.and_assoc,h];rfl
theorem yC {i ver:Nat} {r:Row}:∀ v u,(yB i ver r v).run=some u→nF i ver r v=u:=by
 intro v u h
 cases v with
 | ptr d j v off =>
   simp only[yB] at h
   simp only[nF]
   cases hc:(Nat.beq d 0 && Nat.beq j i) with
   | false=>rw[hc,cond_false] at h;rw[uU hc,if_neg (by simp)];exact Tr.ab h
   | true =>
     rw[hc,cond_true] at h
     obtain ⟨h1,h⟩:=Tr.aK h
     rw[gi,decide_eq_true_eq] at h1
     rw[uT hc,if_pos (by simpa using h1)];exact Tr.ab h
 | slc d j v off sz len cap =>
   simp only[yB] at h
   simp only[nF]
   cases hc:(Nat.beq d 0 && Nat.beq j i) with
   | false=>rw[hc,cond_false] at h;rw[uU hc,if_neg (by simp)];exact Tr.ab h
   | true =>
     rw[hc,cond_true] at h
     obtain ⟨h1,h2⟩:=Tr.aK h
     clear h
     rw[gi,decide_eq_true_eq] at h1
     rw[uT hc]
     split at h2
     · obtain ⟨h3,h⟩:=Tr.aK h2
       rw[jZ,decide_eq_true_eq,cr] at h3
       rw[if_pos (by simp[h1,Row.len,aC,aI];omega),← Tr.ab h,ko,cr,jx]
       rfl
     · obtain ⟨h3,h⟩:=Tr.aP h2
       rw[ll,decide_eq_true_eq] at h3
       rw[if_pos (by simp only[h1,Bool.and_eq_true];exact ⟨by simp,Nat.ble_eq_true_of_le h3⟩),← Tr.ab h,ko,gA,ia]
       rfl
     · exact (Tr.ae h2).elim
 | _=>exact Tr.ab h
def zc (f:AV→Tr AV) (v:AV):Tr AV :=
 match v with
 | .agg (.G l)=>(oj f l).bind fun m=>.ok (.agg (.G m))
 | .agg (.M l)=>(mR f l).bind fun m=>.ok (.agg (.M m))
 | .fn g a b=>(oj f a).bind fun a'=>(oj f b).bind fun b'=>.ok (.fn g a' b')
 | v=>f v
theorem tn {f:AV→Tr AV} {g:AV→AV} (hf:∀ v u,(f v).run=some u→g v=u):∀ v u,(zc f v).run=some u→nG g v=u:=by
 intro v u h
 unfold zc at h
 split at h
 · obtain ⟨m,h1,h⟩:=Tr.bind_some h
   rw[← Tr.ab h,← fj hf _ _ h1];rfl
 · obtain ⟨m,h1,h⟩:=Tr.bind_some h
   rw[← Tr.ab h,← ig hf _ _ h1];rfl
 · obtain ⟨a',h1,h⟩:=Tr.bind_some h
   obtain ⟨b',h2,h⟩:=Tr.bind_some h
   rw[← Tr.ab h,← fj hf _ _ h1,← fj hf _ _ h2];rfl
 · rename_i n1 n2 n3
   have:=hf _ _ h
   rw[← this]
   unfold nG
   split
   · exact absurd rfl (n1 _)
   · exact absurd rfl (n2 _)
   · exact absurd rfl (n3 _ _ _)
   · rfl
def Fb (f:AV→Tr AV):ak→Tr ak
 | .row r=>match r with
   | .G l=>(oj (zc f) l).bind fun m=>.ok (.row (.G m))
   | .M l=>(mR (zc f) l).bind fun m=>.ok (.row (.M m))
   | r=>.ok (.row r)
 | b=>.ok b
theorem Fc {f:AV→Tr AV} {g:AV→AV} (hf:∀ v u,(f v).run=some u→g v=u) (b u:ak) (h:(Fb f b).run=some u):qw g b=u:=by
 cases b with
 | row r =>
   simp only[Fb] at h
   cases r with
   | G l =>
     obtain ⟨m,h1,h⟩:=Tr.bind_some h
     rw[← Tr.ab h,← fj (tn hf) _ _ h1];rfl
   | M l =>
     obtain ⟨m,h1,h⟩:=Tr.bind_some h
     rw[← Tr.ab h,← ig (tn hf) _ _ h1];rfl
   | I k l=>rw[← Tr.ab h];rfl
   | F z n=>rw[← Tr.ab h];rfl
 | dead=>exact Tr.ab h
 | map es=>exact Tr.ab h
 | fmap kq f g c=>exact Tr.ab h
 | loop l=>exact Tr.ab h
def wX (f:AV→Tr AV):List (Nat×ak)→Tr (List (Nat×ak))
 | []=>.ok []
 | (v,b)::r=>(Fb f b).bind fun b'=>(wX f r).bind fun r'=>.ok ((v,b')::r')
theorem vz {f:AV→Tr AV} {g:AV→AV} (hf:∀ v u,(f v).run=some u→g v=u):∀ (l m:List (Nat×ak)),(wX f l).run=some m→jM g l=m
 | [],m,h=>Tr.ab h
 | (v,b)::r,m,h=>by
   simp only[wX] at h
   obtain ⟨b',h1,h⟩:=Tr.bind_some h
   obtain ⟨r',h2,h⟩:=Tr.bind_some h
   rw[← Tr.ab h,jM,Fc hf _ _ h1,vz hf r r' h2]
def B5 (f:AV→Tr AV):aM→Tr aM
 | []=>.ok []
 | (x,(v,h))::r=>(zc f v).bind fun v'=>(B5 f r).bind fun r'=>.ok ((x,(v',h))::r')
theorem y9 {f:AV→Tr AV} {g:AV→AV} (hf:∀ v u,(f v).run=some u→g v=u):∀ (l m:aM),(B5 f l).run=some m→qx g (strip l)=strip m
 | [],m,h=>by rw[← Tr.ab h];rfl
 | (x,(v,hh))::r,m,h=>by
   simp only[B5] at h
   obtain ⟨v',h1,h⟩:=Tr.bind_some h
   obtain ⟨r',h2,h⟩:=Tr.bind_some h
   rw[← Tr.ab h,dg,dg,qx,tn hf _ _ h1,y9 hf r r' h2]
def tg (i:Nat) (fr:aM) (l:bn):Tr (aM×bn) :=
 match AR l.bs i with
 | (ver,.row r)=>cond (wP r && (uo (fun x=>pY (pM i) x.2) (strip fr) || uo (fun x=>Kj (pM i) x.2) l.bs)) ((B5 (yB i ver r) fr).bind fun fr'=>(wX (yB i ver r) l.bs).bind fun bs'=>.ok (fr',{ l with bs:=bH bs' i (ver,.dead) })) (.ok (fr,l))
 | _=>.ok (fr,l)
theorem qi {i:Nat} {fr:aM} {l:bn} {y:aM×bn} (h:(tg i fr l).run=some y):mH i (strip fr) l=(strip y.1,y.2):=by
 unfold tg at h
 unfold mH
 rw[r5] at h
 split at h
 · rename_i ver r hb
   rw[hb]
   dsimp only
   rw[oO,oO] at h
   cases hc:(wP r && ((strip fr).any (fun x=>pY (pM i) x.2) || l.bs.any (fun x=>Kj (pM i) x.2))) with
   | true =>
     rw[hc,cond_true] at h
     obtain ⟨fr',h1,h⟩:=Tr.bind_some h
     obtain ⟨bs',h2,h⟩:=Tr.bind_some h
     rw[if_pos rfl,y9 yC _ _ h1,vz yC _ _ h2,← Tr.ab h]
   | false =>
     rw[hc,cond_false] at h
     rw[if_neg (by simp),← Tr.ab h]
 · rename_i hno
   have h:=Tr.ab h
   subst h
   split
   · rename_i ver r hb
     exact absurd hb (hno ver r)
   · rfl
def rV:Nat→aM→bn→Tr (aM×bn)
 | 0,fr,l=>.ok (fr,l)
 | n+1,fr,l=>(rV n fr l).bind fun y=>tg n y.1 y.2
theorem tc:∀ (n:Nat) (fr:aM) (l:bn) (y:aM×bn),(rV n fr l).run=some y→jj n (strip fr) l=(strip y.1,y.2)
 | 0,fr,l,y,h=>by rw[← Tr.ab h];rfl
 | n+1,fr,l,y,h=>by
   simp only[rV] at h
   obtain ⟨z,h1,h⟩:=Tr.bind_some h
   have h1:=tc n fr l z h1
   simp only[jj]
   rw[h1]
   exact qi h
def pk:Nat→aM→bn→Tr (aM×bn)
 | 0,fr,l=>.ok (fr,l)
 | n+1,fr,l=>(pk n fr l).bind fun y=>cond (uo (fun x=>pY (pM n) x.2) (strip y.1)) (.ok y) (tg n y.1 y.2)
theorem rh:∀ (n:Nat) (fr:aM) (l:bn) (y:aM×bn),(pk n fr l).run=some y→eJ n (strip fr) l=(strip y.1,y.2)
 | 0,fr,l,y,h=>by rw[← Tr.ab h];rfl
 | n + 1,fr,l,y,h=>by
   simp only[pk] at h
   obtain ⟨z,h1,h⟩:=Tr.bind_some h
   have h1:=rh n fr l z h1
   simp only[eJ]
   rw[h1]
   dsimp only
   rw[oO] at h
   cases hc:(strip z.1).any (fun x=>pY (pM n) x.2) with
   | true =>
     rw[hc,cond_true] at h
     rw[if_pos rfl,Tr.ab h]
   | false =>
     rw[hc,cond_false] at h
     rw[if_neg (by simp)]
     exact qi h
def BZ (s:Nat):aM→Option Nat
 | []=>none
 | (x,(v,_))::r=>cond (Nat.beq x s) (match v with
   | .slc 0 i _ _ _ _ _=>some i
   | _=>none) (BZ s r)
theorem yR (s:Nat):∀ fr:aM,BZ s fr=BY s (strip fr)
 | []=>rfl
 | (x,(v,h))::r=>by
   rw[dg]
   simp only[BZ,BY,yR s r]
   cases Nat.beq x s<;>rfl
def wO (s:Nat) (fr:aM) (H:aa):Tr (aM×aa) :=
 match H with
 | []=>.ok (fr,[])
 | l::r=>cond l.lock (.ok (fr,l::r)) (match BZ s fr with
   | some i=>(tg i fr l).bind fun y=>.ok (y.1,y.2::r)
   | none=>.ok (fr,l::r))
theorem AF {s:Nat} {fr:aM} {H:aa} {y:aM×aa} (h:(wO s fr H).run=some y):wN s (strip fr) H=(strip y.1,y.2):=by
 unfold wO at h
 unfold wN
 cases H with
 | nil=>rw[← Tr.ab h]
 | cons l r =>
   dsimp only at h ⊢
   cases hl:l.lock with
   | true =>
     rw[hl,cond_true] at h
     rw[if_pos rfl,← Tr.ab h]
   | false =>
     rw[hl,cond_false,yR] at h
     rw[if_neg (by simp)]
     split at h
     · rename_i i hi
       obtain ⟨z,h1,h⟩:=Tr.bind_some h
       have h1:=qi h1
       rw[hi]
       dsimp only
       rw[h1,← Tr.ab h]
     · rename_i hi
       rw[hi,← Tr.ab h]
def AE (m:Nat) (fr:aM) (H:aa):Tr (aM×aa) :=
 cond (oo m 4000) (match H with
  | []=>.ok (gM fr m,[])
  | l::r=>cond l.lock (.ok (gM fr m,l::r)) ((rV (iA l.bs) (gM fr m) l).bind fun y=>.ok (y.1,cond (Nat.beq (Nat.shiftRight m 4003) 0) (y.2::r) (Fl (Nat.shiftRight m 4003) (y.2::r))))) (cond (oo m 4001) (wO (Nat.shiftRight m 4003) (gM fr m) H) (cond (oo m 4002) (vV (gM fr m) (Nat.shiftRight m 4003) (fun fr=>.ok (fr,H)) (fun fr=>match H with
  | []=>.ok (fr,[])
  | l::r=>cond l.lock (.ok (fr,l::r)) ((pk (iA l.bs) fr l).bind fun y=>.ok (y.1,y.2::r)))) (.ok (gM fr m,H))))
theorem Di {m:Nat} {fr:aM} {H:aa} {y:aM×aa} (h:(AE m fr H).run=some y):mI m (strip fr) H=(strip y.1,y.2):=by
 unfold AE at h
 unfold mI
 cases hm:oo m 4000 with
 | false =>
   rw[hm,cond_false] at h
   rw[if_neg (by simp)]
   cases hm2:oo m 4001 with
   | false =>
     rw[hm2,cond_false] at h
     rw[if_neg (by simp)]
     cases hm3:oo m 4002 with
     | false =>
       rw[hm3,cond_false] at h
       rw[if_neg (by simp),← Tr.ab h,fb]
     | true =>
       rw[hm3,cond_true] at h
       rw[if_pos rfl]
       obtain ⟨b,fr',h1,h2,h3⟩:=lM h
       rw[fb] at h1 h2
       rw[h1]
       cases b with
       | true =>
         simp only[if_true] at h3
         rw[← Tr.ab h3,h2]
       | false =>
         simp only[Bool.false_eq_true,if_false] at h3
         cases H with
         | nil =>
           dsimp only at h3
           rw[← Tr.ab h3,← h2];rfl
         | cons l r =>
           dsimp only at h3
           show uA (bO (strip fr) m) (l::r)=_
           rw[← h2]
           unfold uA
           dsimp only
           cases hl:l.lock with
           | true =>
             rw[hl,cond_true] at h3
             rw[if_pos rfl,← Tr.ab h3]
           | false =>
             rw[hl,cond_false] at h3
             obtain ⟨z,h4,h5⟩:=Tr.bind_some h3
             have h4:=rh _ _ _ _ h4
             rw[dh] at h4
             rw[if_neg (by simp),h4,← Tr.ab h5]
   | true =>
     rw[hm2,cond_true] at h
     rw[if_pos rfl]
     have h1:=AF h
     rw[fb] at h1
     exact h1
 | true =>
   rw[hm,cond_true] at h
   rw[if_pos rfl]
   cases H with
   | nil =>
     rw[← Tr.ab h,fb]
     simp only[Dh,Fl,ite_self]
   | cons l r =>
     dsimp only at h
     unfold Dh
     dsimp only
     cases hl:l.lock with
     | true =>
       rw[hl,cond_true] at h
       simp only[if_true]
       rw[← Tr.ab h,fb]
       simp only[Fl,hl,if_true,ite_self]
     | false =>
       rw[hl,cond_false] at h
       obtain ⟨z,h1,h⟩:=Tr.bind_some h
       have h1:=tc _ _ _ _ h1
       rw[dh,fb] at h1
       simp only[Bool.false_eq_true,if_false,h1]
       rw[← Tr.ab h]
       cases Nat.beq (Nat.shiftRight m 4003) 0<;>rfl
def aX (cx:Cx) (callR:bE) (bl:g9) (rg:sk):Code→aM→aa→Tr gY
 | .skip,fr,H=>.ok (.normal,fr,H)
 | .label _,fr,H=>.ok (.normal,fr,H)
 | .exit id,fr,H=>.ok (.exit id,fr,H)
 | .goto l,fr,H=>.ok (.goto l,fr,H)
 | .ret,fr,H=>.ok (.ret,fr,H)
 | .region id ops draw,fr,H =>
   (cond draw (cond (fo ops (Region.before ops)) (o6 cx.P cx.nt cx.call callR ops (Region.before ops) ops.toList 0 fr (kD H (cG ops.toList)) (fK H) []) .bad) (iS cx.P cx.nt cx.call callR ops ops.toList fr H)).bind fun x=>(AE (cx.kt id) x.1 x.2).bind fun y=>.ok (.normal,y.1,y.2)
 | .seq a b,fr,H=>(aX cx callR bl rg a fr H).bind fun x=>match x with
   | (.normal,fr,H)=>aX cx callR bl rg b fr H
   | r=>.ok r
 | .cond c a b,fr,H=>match c with
   | .tmp d=>vV fr d (fun fr=>aX cx callR bl rg a fr H) (fun fr=>aX cx callR bl rg b fr H)
   | c=>match (b9 fr c).1 with
     | .bool t=>cond t (aX cx callR bl rg a fr H) (aX cx callR bl rg b fr H)
     | _=>.bad
 | .block id b,fr,H=>match bl id fr H with
   | some t=>t
   | none=>(aX cx callR bl rg b fr H).bind fun x=>match x with
     | (.exit id',fr,H)=>cond (Nat.beq id' id) (.ok (.normal,fr,H)) (.ok (.exit id',fr,H))
     | r=>.ok r
 | .scope b,fr,H=>(aX cx callR bl rg b fr H).bind fun x=>match x with
   | (.goto _,_,_)=>.bad
   | r=>.ok r
 | .rangeFunc f _ _ _,fr,H=>match rg f fr H with
   | some t=>t
   | none=>.bad
 | .loop b,fr,H=>cond (Nat.ble 12 cx.fu) (BV (aX cx callR bl rg b) (fK H) 12 fr H) .bad
 | .refuse _,_,_=>.bad

theorem my {cx:Cx} {callR:bE} {bl:g9} {rg:sk} (hC:callR.Ok cx.call):∀ (c:Code),bl.Ok cx c→rg.Ok cx c→∀ (fr:aM) (H:aa) (x:gY),(aX cx callR bl rg c fr H).run=some x→exec cx c (strip fr) H=some x.st:=by
 intro c
 induction c with
 | skip=>intro _ _ fr H x h;rw[← Tr.ab h];rfl
 | label=>intro _ _ fr H x h;rw[← Tr.ab h];rfl
 | exit=>intro _ _ fr H x h;rw[← Tr.ab h];rfl
 | goto=>intro _ _ fr H x h;rw[← Tr.ab h];rfl
 | ret=>intro _ _ fr H x h;rw[← Tr.ab h];rfl
 | refuse=>intro _ _ fr H x h;exact (Tr.ae h).elim
 | loop b ih =>
   intro hb hr fr H x h
   simp only[aX] at h
   obtain ⟨hk,h⟩:=Tr.aP h
   rw[Nat.ble_eq] at hk
   unfold exec
   rw[gN] at h
   exact vr _ _ _ _ _ (yH (fun fr H x h=>ih hb hr fr H x h) 12 fr H x h) hk
 | rangeFunc f ps a b =>
   intro _ hr fr H x h
   simp only[aX] at h
   split at h
   · rename_i t ht
     exact hr f ps a b (by simp[eX]) fr H t x ht h
   · exact (Tr.ae h).elim
 | region id ops draw =>
   intro _ _ fr H x h
   simp only[aX] at h
   obtain ⟨y,h1,h⟩:=Tr.bind_some h
   obtain ⟨z,h2,h⟩:=Tr.bind_some h
   have h2:=Di h2
   rw[← Tr.ab h]
   unfold exec
   cases draw with
   | true =>
     rw[cond_true] at h1
     obtain ⟨hs,h1⟩:=Tr.aP h1
     rw[gN] at h1
     simp only[if_true,hs]
     rw[qS hC _ _ _ _ _ _ _ h1]
     dsimp only
     rw[h2]
     rfl
   | false =>
     rw[cond_false] at h1
     simp only[Bool.false_eq_true,if_false]
     rw[fM hC _ _ _ _ h1]
     dsimp only
     rw[h2]
     rfl
 | seq a b iha ihb =>
   intro hb hr fr H x h
   have hba:bl.Ok cx a:=fun id b' hm=>hb id b' (List.mem_append_left _ hm)
   have hbb:bl.Ok cx b:=fun id b' hm=>hb id b' (List.mem_append_right _ hm)
   have hra:rg.Ok cx a:=fun f ps u v hm=>hr f ps u v (List.mem_append_left _ hm)
   have hrb:rg.Ok cx b:=fun f ps u v hm=>hr f ps u v (List.mem_append_right _ hm)
   simp only[aX] at h
   obtain ⟨y,h1,h⟩:=Tr.bind_some h
   have h1:=iha hba hra _ _ _ h1
   unfold exec
   rw[h1]
   obtain ⟨e,fr1,H1⟩:=y
   cases e
   case normal=>exact ihb hbb hrb _ _ _ h
   all_goals
    have h:=Tr.ab h
    rw[← h];rfl
 | cond c a b iha ihb =>
   intro hb hr fr H x h
   have hba:bl.Ok cx a:=fun id b' hm=>hb id b' (List.mem_append_left _ hm)
   have hbb:bl.Ok cx b:=fun id b' hm=>hb id b' (List.mem_append_right _ hm)
   have hra:rg.Ok cx a:=fun f ps u v hm=>hr f ps u v (List.mem_append_left _ hm)
   have hrb:rg.Ok cx b:=fun f ps u v hm=>hr f ps u v (List.mem_append_right _ hm)
   simp only[aX] at h
   unfold exec
   split at h
   · rename_i d
     obtain ⟨b',fr',h1,h2,h3⟩:=lM h
     have e:bI (strip fr) (.tmp d)=.bool b':=h1
     rw[e,← h2]
     cases b' with
     | true=>exact iha hba hra _ _ _ h3
     | false=>exact ihb hbb hrb _ _ _ h3
   · rename_i c' hne
     rw[aR] at h
     split at h
     · rename_i t hc
       rw[hc]
       cases t with
       | true=>exact iha hba hra _ _ _ h
       | false=>exact ihb hbb hrb _ _ _ h
     · exact (Tr.ae h).elim
 | block id b ih =>
   intro hb hr fr H x h
   have hbb:bl.Ok cx b:=fun id' b' hm=>hb id' b' (by simp only[bo];exact List.mem_cons_of_mem _ hm)
   simp only[aX] at h
   split at h
   · rename_i t ht
     exact hb id b (by simp[bo]) _ _ _ _ ht h
   · obtain ⟨y,h1,h⟩:=Tr.bind_some h
     have h1:=ih hbb hr _ _ _ h1
     unfold exec
     rw[h1]
     obtain ⟨e,fr1,H1⟩:=y
     cases e
     case exit id' =>
      dsimp only[gY.st] at h ⊢
      rw[gh] at h
      split at h
      · rename_i yx
        rw[if_pos yx,← Tr.ab h]
      · rename_i yx
        rw[if_neg yx,← Tr.ab h]
     all_goals
      have h:=Tr.ab h
      rw[← h];rfl
 | scope b ih =>
   intro hb hr fr H x h
   simp only[aX] at h
   obtain ⟨y,h1,h⟩:=Tr.bind_some h
   have h1:=ih hb hr _ _ _ h1
   unfold exec
   rw[h1]
   obtain ⟨e,fr1,H1⟩:=y
   cases e
   case goto=>exact (Tr.ae h).elim
   all_goals
    have h:=Tr.ab h
    rw[← h];rfl

end
end Go.Eng
end
section
namespace Go.Eng
noncomputable section

def nE   (bs:List (Nat×ak)):Nat→AV→Tr AV
 | 0,_=>.ok .undef
 | n + 1,v=>match v with
   | .ptr d i ver off=>match d with
     | d+1=>.ok (.ptr d i ver off)
     | 0 => match AR bs i with
       | (w,.row r)=>cond (Nat.beq w ver) (match r with
         | .I k l=>.ok (.ptrT none (.I k l) off)
         | .F f m=>.ok (.ptrT none (.F f m) off)
         | .M l=>cond (fX l) (.ok (.ptrT none (.M l) off)) ((mR (nE bs n) l).bind fun m=>.ok (.ptrT (some 0) (.M m) off))
         | .G l=>(oj (nE bs n) l).bind fun m=>.ok (.ptrT (some 0) (.G m) off)) .bad
       | _=>.bad
   | .slc d i ver off sz len cap=>match d with
     | d+1=>.ok (.slc d i ver off sz len cap)
     | 0 => match AR bs i with
       | (w,.row r)=>.req (bX w ver) (match r with
         | .M [.arr k z N]=>.req (lX off (jn len sz) 0 N) (.ok (.slcT none (.M [.arr k (g7 z off) (jn len sz)]) sz len (qQ cap len)))
         | .I k l=>cond (uy (.I k l) off (Nat.mul len sz)) (.ok (.slcT none (.I k (iI (lT l off) (Nat.mul len sz))) sz len (qQ cap len))) .bad
         | .F f N=>.req (lX off (jn len sz) 0 N) (.ok (.slcT none (.F (fun j=>f (af off j)) (jn len sz)) sz len (qQ cap len)))
         | .G l=>cond (uy (.G l) off (Nat.mul len sz)) ((oj (nE bs n) (iI (lT l off) (Nat.mul len sz))).bind fun m=>.ok (.slcT (some 0) (.G m) sz len (qQ cap len))) .bad
         | _=>.bad)
       | _=>.bad
   | .ptrT s r off=>match s with
     | none=>.ok (.ptrT none r off)
     | some (s+1)=>.ok (.ptrT (some s) r off)
     | some 0=>match r with
       | .G l=>(oj (nE bs n) l).bind fun m=>.ok (.ptrT (some 0) (.G m) off)
       | .M l=>cond (fX l) (.ok (.ptrT none (.M l) off)) ((mR (nE bs n) l).bind fun m=>.ok (.ptrT (some 0) (.M m) off))
       | r=>.ok (.ptrT none r off)
   | .slcT s r sz len full=>match s with
     | none=>.ok (.slcT none r sz len full)
     | some (s+1)=>.ok (.slcT (some s) r sz len full)
     | some 0=>match r with
       | .G l=>(oj (nE bs n) l).bind fun m=>.ok (.slcT (some 0) (.G m) sz len full)
       | .M l=>cond (fX l) (.ok (.slcT none (.M l) sz len full)) ((mR (nE bs n) l).bind fun m=>.ok (.slcT (some 0) (.M m) sz len full))
       | r=>.ok (.slcT none r sz len full)
   | .map d i=>match d with
     | d+1=>.ok (.map d i)
     | 0=>.ok .undef
   | .yld d i=>match d with
     | d+1=>.ok (.yld d i)
     | 0=>.ok .undef
   | .fn f a b=>(oj (nE bs n) a).bind fun a'=>(oj (nE bs n) b).bind fun b'=>.ok (.fn f a' b')
   | .agg r=>match r with
     | .G l=>(oj (nE bs n) l).bind fun m=>.ok (.agg (.G m))
     | .M l=>(mR (nE bs n) l).bind fun m=>.ok (.agg (.M m))
     | r=>.ok (.agg r)
   | .tup l=>(oj (nE bs n) l).bind fun m=>.ok (.tup m)
   | v=>.ok v
theorem BM (bs:List (Nat×ak)):∀ (n:Nat) (v u:AV),(nE bs n v).run=some u→cT bs n v=u
 | 0,v,u,h=>Tr.ab h
 | n + 1,v,  u,h=>by
   have ih:=BM bs n
   simp only[nE,r5] at h
   cases v with
   | ptr d i ver off =>
     cases d with
     | succ d=>exact Tr.ab h
     | zero =>
       dsimp only at h
       simp only[cT]
       split at h
       · rename_i w r hg
         obtain ⟨hw,h⟩:=Tr.aP h
         rw[hg]
         dsimp only
         rw[if_pos hw]
         cases r with
         | I k l=>exact Tr.ab h
         | F f m=>exact Tr.ab h
         | G l =>
           obtain ⟨m,h1,h⟩:=Tr.bind_some h
           rw[← Tr.ab h,← fj ih _ _ h1]
         | M l =>
           dsimp only at h ⊢
           cases ha:fX l with
           | true=>rw[ha,cond_true] at h;rw[if_pos rfl];exact Tr.ab h
           | false =>
             rw[ha,cond_false] at h
             obtain ⟨m,h1,h⟩:=Tr.bind_some h
             rw[if_neg (by simp),← Tr.ab h,← ig ih _ _ h1]
       · exact (Tr.ae h).elim
   | slc d i ver off sz len cap =>
     cases d with
     | succ d=>exact Tr.ab h
     | zero =>
       dsimp only at h
       simp only[cT]
       split at h
       · rename_i w r hg
         obtain ⟨hw,h'⟩:=Tr.aK h
         clear h
         rw[gi,decide_eq_true_eq] at hw
         subst hw
         rw[hg]
         dsimp only
         split at h'
         · rename_i k z N
           have h:=h'
           obtain ⟨hc,h⟩:=Tr.aK h
           rw[jZ,decide_eq_true_eq,cr] at hc
           rw[if_pos ⟨by simp,by simp only[Row.len,aC,aI];omega⟩,← Tr.ab h,ko,cr,jx]
           simp only[Row.sub,fX,if_true]
         · have h:=h'
           obtain ⟨hc,h⟩:=Tr.aP h
           rw[ll,decide_eq_true_eq] at hc
           rw[if_pos ⟨by simp,hc⟩,← Tr.ab h,ko,gA,ia]
           rfl
         · have h:=h'
           obtain ⟨hc,h⟩:=Tr.aK h
           rw[jZ,decide_eq_true_eq,cr] at hc
           rw[if_pos ⟨by simp,by simp only[Row.len];omega⟩,← Tr.ab h,ko,cr]
           simp only[Row.sub,aQ]
         · have h:=h'
           obtain ⟨hc,h⟩:=Tr.aP h
           rw[ll,decide_eq_true_eq] at hc
           obtain ⟨m,h1,h⟩:=Tr.bind_some h
           rw[gA,ia] at h1
           rw[if_pos ⟨by simp,hc⟩,← Tr.ab h,ko,← fj ih _ _ h1]
           rfl
         · exact (Tr.ae h').elim
       · exact (Tr.ae h).elim
   | ptrT s r off =>
     cases s with
     | none=>exact Tr.ab h
     | some s =>
       cases s with
       | succ s=>exact Tr.ab h
       | zero =>
         simp only[cT]
         cases r with
         | I k l=>exact Tr.ab h
         | F f m=>exact Tr.ab h
         | G l =>
           obtain ⟨m,h1,h⟩:=Tr.bind_some h
           rw[← Tr.ab h,← fj ih _ _ h1]
         | M l =>
           dsimp only at h ⊢
           cases ha:fX l with
           | true=>rw[ha,cond_true] at h;rw[if_pos rfl];exact Tr.ab h
           | false =>
             rw[ha,cond_false] at h
             obtain ⟨m,h1,h⟩:=Tr.bind_some h
             rw[if_neg (by simp),← Tr.ab h,← ig ih _ _ h1]
   | slcT s r sz len full =>
     cases s with
     | none=>exact Tr.ab h
     | some s =>
       cases s with
       | succ s=>exact Tr.ab h
       | zero =>
         simp only[cT]
         cases r with
         | I k l=>exact Tr.ab h
         | F f m=>exact Tr.ab h
         | G l =>
           obtain ⟨m,h1,h⟩:=Tr.bind_some h
           rw[← Tr.ab h,← fj ih _ _ h1]
         | M l =>
           dsimp only at h ⊢
           cases ha:fX l with
           | true=>rw[ha,cond_true] at h;rw[if_pos rfl];exact Tr.ab h
           | false =>
             rw[ha,cond_false] at h
             obtain ⟨m,h1,h⟩:=Tr.bind_some h
             rw[if_neg (by simp),← Tr.ab h,← ig ih _ _ h1]
   | map d i=>cases d<;>exact Tr.ab h
   | yld d i=>cases d<;>exact Tr.ab h
   | fn f a b =>
     obtain ⟨a',h1,h⟩:=Tr.bind_some h
     obtain ⟨b',h2,h⟩:=Tr.bind_some h
     simp only[cT]
     rw[← Tr.ab h,← fj ih _ _ h1,← fj ih _ _ h2]
   | agg r =>
     simp only[cT]
     cases r with
     | I k l=>exact Tr.ab h
     | F f m=>exact Tr.ab h
     | G l =>
       obtain ⟨m,h1,h⟩:=Tr.bind_some h
       rw[← Tr.ab h,← fj ih _ _ h1]
     | M l =>
       obtain ⟨m,h1,h⟩:=Tr.bind_some h
       rw[← Tr.ab h,← ig ih _ _ h1]
   | tup l =>
     obtain ⟨m,h1,h⟩:=Tr.bind_some h
     simp only[cT]
     rw[← Tr.ab h,← fj ih _ _ h1]
   | _=>exact Tr.ab h

def Gv (l:List HV):Nat→aM:=List.rec (motive:=fun _=>Nat→aM) (fun _=>[]) (fun v _ ih x=>(x,(gF 1 v.1,v.2))::ih (Nat.succ x)) l
theorem Bu:∀ (l:List HV) (x:Nat),strip (Gv l x)=dy x (rH l)
 | [],x=>rfl
 | v::l,x=>by
   have e:Gv (v::l) x=(x,(gF 1 v.1,v.2))::Gv l (x+1):=rfl
   rw[e,dg,Bu l];rfl
def hints (f:av):aM:=List.rec (motive:=fun _=>aM) [] (fun p _ ih=>(p.1,(p.2,none))::ih) f
theorem aY:∀ f:av,strip (hints f)=f
 | []=>rfl
 | (x,v)::r=>by
   have e:hints ((x,v)::r)=(x,(v,none))::hints r:=rfl
   rw[e,dg,aY r]
def A2 (P:Program) (fr:aM) (H:aa):List ResultVar→Tr (List AV)
 | []=>.ok []
 | .tmp t::r=>(A2 P fr H r).bind fun l=>.ok ((lW fr t).1::l)
 | .cell a t::r=>(loadT P H t (b9 fr (.tmp a))).bind fun v=>(A2 P fr H r).bind fun l=>.ok (v::l)
theorem xo {P:Program} {fr:aM} {H:aa}:∀ (l:List ResultVar) (vs:List AV),(A2 P fr H l).run=some vs→eE P (strip fr) H l=some vs
 | [],vs,h=>by rw[← Tr.ab h];rfl
 | .tmp t::r,vs,h=>by
   simp only[A2] at h
   obtain ⟨l,h1,h⟩:=Tr.bind_some h
   simp only[eE]
   rw[xo r l h1,← Tr.ab h,fv];rfl
 | .cell a t::r,vs,h=>by
   simp only[A2] at h
   obtain ⟨v,h0,h⟩:=Tr.bind_some h
   obtain ⟨l,h1,h⟩:=Tr.bind_some h
   have h0:=yU h0
   rw[aR] at h0
   simp only[eE]
   have e:bI (strip fr) (.tmp a)=br (strip fr) a:=rfl
   rw[e] at h0
   rw[h0]
   dsimp only
   rw[xo r l h1,← Tr.ab h];rfl
def IG (fr:aM) (rs:List ResultVar):Option Nat :=
 match rs with
 | [.tmp t]=>(lW fr t).2
 | _=>none
def Kc (P:Program) (rs:List ResultVar) (x:gY):Tr (HV×aa) :=
 match x with
 | (e,fr,l::H)=>match e with
   | .normal | .ret=>(A2 P fr (l::H) rs).bind fun vs=>(nE l.bs 5 (one vs)).bind fun v=>.ok ((v,IG fr rs),H)
   | _=>.bad
 | _=>.bad
theorem HK {P:Program} {rs:List ResultVar} {x:gY} {y:HV×aa} (h:(Kc P rs x).run=some y):∃ l vs,x.2.2=l::y.2∧(x.1=.normal∨x.1=.ret)∧eE P (strip x.2.1) x.2.2 rs=some vs∧cT l.bs 5 (one vs)=y.1.1:=by
 unfold Kc at h
 split at h
 · rename_i e fr l H
   have key:((A2 P fr (l::H) rs).bind fun vs=>(nE l.bs 5 (one vs)).bind fun v=>Tr.ok (((v,IG fr rs),H):HV×aa)).run=some y→∃ vs,l::H=l::y.2∧eE P (strip fr) (l::H) rs=some vs∧cT l.bs 5 (one vs)=y.1.1:=by
    intro h
    obtain ⟨vs,h1,h⟩:=Tr.bind_some h
    obtain ⟨v,h2,h⟩:=Tr.bind_some h
    have h:=Tr.ab h
    refine ⟨vs,by rw[← h],xo _ _ h1,?_⟩
    rw[BM _ _ _ _ h2,← h]
   split at h
   · obtain ⟨vs,h1,h2,h3⟩:=key h;exact ⟨l,vs,h1,.inl rfl,h2,h3⟩
   · obtain ⟨vs,h1,h2,h3⟩:=key h;exact ⟨l,vs,h1,.inr rfl,h2,h3⟩
   · exact (Tr.ae h).elim
 · exact (Tr.ae h).elim
def bw (P:Program) (call:aL) (fu:Nat) (f:FuncId) (fn:Func) (kt:Nat→Nat) (callR:bE) (bl:g9) (rg:sk) (args:List HV) (H:aa):Tr (HV×aa) :=
 (aX ⟨P,call,fu,f,fn.ntmps,kt,none⟩ callR bl rg (ct fn) (Gv args 0) (⟨false,[]⟩::H)).bind fun x=>Kc P fn.results.toList x
theorem xU {P:Program} {ora:aL→FuncId→List AV→aa→Option (AV×aa)} {KT:FuncId→Nat→Nat} {fu n:Nat} {f:FuncId} {fn:Func} (hf:P.funcs[f]?=some fn) (hb:fn.body.isSome=true) {args:List HV} {H:aa} (ho:ora (cJ P ora KT fu n) f (rH args) H=none) (hle:Nat.ble args.length fn.ntmps=true)
 {callR:bE} (hC:callR.Ok (cJ P ora KT fu n)) {bl:g9} (hB:bl.Ok ⟨P,cJ P ora KT fu n,fu,f,fn.ntmps,KT f,none⟩ (ct fn)) {rg:sk} (hR:rg.Ok ⟨P,cJ P ora KT fu n,fu,f,fn.ntmps,KT f,none⟩ (ct fn)) {y:HV×aa}
 (h:(bw P (cJ P ora KT fu n) fu f fn (KT f) callR bl rg args H).run=some y):cJ P ora KT fu (n+1) (.fn f) (rH args) H=some (y.1.1,y.2):=by
 unfold bw at h
 obtain ⟨x,h1,h⟩:=Tr.bind_some h
 have h1:=my hC _ hB hR _ _ _ h1
 rw[Bu] at h1
 obtain ⟨l,vs,k1,k2,k3,k4⟩:=HK h
 obtain ⟨c,hc⟩:=Option.isSome_iff_exists.1 hb
 have hbody:ct fn=c:=by unfold ct;rw[hc]
 rw[hbody] at h1
 obtain ⟨e,fr,H1⟩:=x
 dsimp only[gY.st] at h1 k1 k2 k3
 rw[k1] at h1 k3
 have hl:(rH args).length=args.length:=by unfold rH;rw[jN,List.length_map]
 simp only[cJ,ho,hf,hc,hl,hle,if_true,h1]
 rcases k2 with rfl | rfl<;>simp only[k3]<;>rw[k4]

theorem lU {cx:Cx} {id:Nat} {b:Code} {fr fr1:av} {H H1:aa} (h:iter (exec cx b) (aq H) cx.fu fr H=some (.exit id,fr1,H1)):exec cx (.block id (.loop b)) fr H=some (.normal,fr1,H1):=by
 unfold exec
 have:exec cx (.loop b) fr H=some (.exit id,fr1,H1):=by unfold exec;exact h
 rw[this]
 dsimp only
 rw[if_pos (by simp)]
theorem gG {cx:Cx} {id:Nat} {b:Code} {fr fr1:av} {H H1:aa} {e:Ex} (he:∀ id',e=.exit id'→Nat.beq id' id=false) (h:iter (exec cx b) (aq H) cx.fu fr H=some (e,fr1,H1)):exec cx (.block id (.loop b)) fr H=some (e,fr1,H1):=by
 unfold exec
 have:exec cx (.loop b) fr H=some (e,fr1,H1):=by unfold exec;exact h
 rw[this]
 cases e with
 | exit id'=>dsimp only;rw[if_neg (by rw[he id' rfl];simp)]
 | _=>rfl
def fN (p:Nat→Bool):Nat→Nat→Nat
 | 0,j=>j
 | k+1,j=>if p j then j else fN p k (j+1)
theorem iK (p:Nat→Bool):∀ (k j:Nat),j≤fN p k j∧fN p k j≤j+k∧(∀ i,j≤i→i<fN p k j→p i=false)∧(fN p k j<j+k→p (fN p k j)=true)
 | 0,j=>⟨Nat.le_refl _,Nat.le_refl _,fun i h1 h2=>absurd h2 (by simp only[fN];omega),fun h=>absurd h (by simp only[fN];omega)⟩
 | k + 1,j=>by
   simp only[fN]
   by_cases h:p j=true
   · rw[if_pos h]
     exact ⟨Nat.le_refl _,by omega,fun i h1 h2=>by omega,fun _=>h⟩
   · rw[if_neg h]
     obtain ⟨h1,h2,h3,h4⟩:=iK p k (j+1)
     refine ⟨by omega,by omega,fun i k1 k2=>?_,fun k1=>h4 (by omega)⟩
     by_cases e:i=j
     · subst e;simpa using h
     · exact h3 i (by omega) k2
theorem qn {body:av→aa→Option (Ex×av×aa)} {n:Nat} (F:Nat→av) (G:Nat→aa) (N:Nat) (p:Nat→Bool) (X:Nat→Ex×av×aa)
 (hs:∀ j,j<N→p j=false→∃ f g,body (F j) (G j)=some (.normal,f,g)∧tidy n f g=(F (j+1),G (j+1)))
 (hh:∀ j,j<N→p j=true→body (F j) (G j)=some (X j)∧(X j).1≠.normal) (he:body (F N) (G N)=some (X N)∧(X N).1≠.normal) :
 ∀ (k j fu:Nat),j+k=N→k<fu→iter body n fu (F j) (G j)=some (X (fN p k j))
 | 0,j,0,_,h=>by omega
 | 0,j,fu+1,hj,_=>by
   have:j=N:=by omega
   subst this
   unfold iter
   rw[he.1]
   obtain ⟨x,hx⟩:∃ x,x=X j:=⟨_,rfl⟩
   have hn:=he.2
   simp only[fN]
   rw[← hx] at hn ⊢
   obtain ⟨e,f,g⟩:=x
   cases e<;>first | exact absurd rfl hn | rfl
 | k+1,j,0,_,h=>by omega
 | k + 1,j,fu+1,hj,hf=>by
   unfold iter
   cases hp:p j with
   | true =>
     obtain ⟨h1,h2⟩:=hh j (by omega) hp
     rw[h1]
     simp only[fN]
     rw[if_pos hp]
     obtain ⟨x,hx⟩:∃ x,x=X j:=⟨_,rfl⟩
     rw[← hx] at h2 ⊢
     obtain ⟨e,f,g⟩:=x
     cases e<;>first | exact absurd rfl h2 | rfl
   | false =>
     obtain ⟨f,g,h1,h2⟩:=hs j (by omega) hp
     rw[h1]
     dsimp only
     rw[h2]
     simp only[fN]
     rw[if_neg (by rw[hp];simp)]
     exact qn F G N p X hs hh he k (j+1) fu (by omega) (by omega)
theorem yK {body:av→aa→Option (Ex×av×aa)} {n:Nat} (I:Nat→av→aa→Prop) (Q:Ex×av×aa→Prop) (N:Nat)
 (hr:∀ j fr H,I j fr H→(∃ e f g,body fr H=some (e,f,g)∧((e=.normal∧j<N∧I (j+1) (tidy n f g).1 (tidy n f g).2)∨(e≠.normal∧Q (e,f,g))))) :
 ∀ (fu j:Nat) (fr:av) (H:aa),I j fr H→N-j<fu→∃ x,iter body n fu fr H=some x∧Q x
 | 0,j,fr,H,_,h=>by omega
 | fu+1,j,fr,H,hI,h=>by
   obtain ⟨e,f,g,h1,h2⟩:=hr j fr H hI
   unfold iter
   rw[h1]
   rcases h2 with ⟨rfl,hj,h2⟩ | ⟨he,hq⟩
   · dsimp only
     exact yK I Q N hr fu (j+1) _ _ h2 (by omega)
   · cases e<;>first | exact absurd rfl he | exact ⟨_,rfl,hq⟩

end
end Go.Eng
end
