/- The engine as a tree: regions, code, calls. -/
import Derived.Test.YtoomemfhcbajoaaV4EngTe
set_option linter.unusedVariables false
set_option linter.unusedSimpArgs false
section
namespace Go.Eng
noncomputable section

def vO (f:aO) (y:Nat) (b:Bool):aO:=List.rec (motive:=fun _=>aO) [] (fun p r ih=>Bool.rec (motive:=fun _=>aO) (p::ih) ((p.1,(.bool b,some 1))::r) (Nat.beq p.1 y)) f
theorem tc:∀ (f:aO) (y:Nat) (b:Bool),br (strip f) y=.bool b→strip (vO f y b)=strip f
 | [],y,b,_=>rfl
 | (x,v)::r,y,b,h=>by
   have e:vO ((x,v)::r) y b=Bool.rec (motive:=fun _=>aO) ((x,v)::vO r y b) ((x,(.bool b,some 1))::r) (Nat.beq x y):=rfl
   rw[dc,br] at h
   rw[e]
   cases hb:Nat.beq x y with
   | true =>
     rw[hb] at h
     have h:v.1=.bool b:=h
     show (x,AV.bool b)::strip r=(x,v.1)::strip r
     rw[h]
   | false =>
     rw[hb] at h
     show (x,v.1)::strip (vO r y b)=(x,v.1)::strip r
     rw[tc r y b h]
def wg {α:Type} (fr:aO) (d:Nat) (t e:aO→Tr α):Tr α :=
 match lI fr d with
 | (.bool b,none)=>.ite b (t (vO fr d true)) (e (vO fr d false))
 | (.bool b,some _)=>cond b (t fr) (e fr)
 | _=>.bad
theorem lz {α:Type} {fr:aO} {d:Nat} {t e:aO→Tr α} {x:α} (h:(wg fr d t e).run=some x):∃ b fr',br (strip fr) d=.bool b∧strip fr'=strip fr∧(if b then t fr' else e fr').run=some x:=by
 unfold wg at h
 split at h
 · rename_i b hg
   have hg':br (strip fr) d=.bool b:=by rw[← fB,hg]
   rcases Tr.iu h with ⟨rfl,h⟩ | ⟨rfl,h⟩
   · exact ⟨true,_,hg',tc _ _ _ hg',h⟩
   · exact ⟨false,_,hg',tc _ _ _ hg',h⟩
 · rename_i b n hg
   have hg':br (strip fr) d=.bool b:=by rw[← fB,hg]
   refine ⟨b,fr,hg',rfl,?_⟩
   cases b<;>exact h
 · exact (Tr.ae h).elim
def De (ops:Array Oper) (fr:aO) (o:Oper):Tr (Bool×aO) :=
 match o.guard with
 | none=>.ok (true,fr)
 | some (j,want)=>match (ops[j]?).bind (·.dst) with
   | none=>.bad
   | some d=>match (lI fr d).1 with
     | .bool _=>cond want (wg fr d (fun fr=>.ok (true,fr)) (fun fr=>.ok (false,fr))) (wg fr d (fun fr=>.ok (false,fr)) (fun fr=>.ok (true,fr)))
     | .tup _=>.ok (false,fr)
     | _=>.bad
theorem AD {ops:Array Oper} {fr:aO} {o:Oper} {r:Bool×aO} (h:(De ops fr o).run=some r):iC ops (strip fr) o=(if r.1 then .run else .skip)∧strip r.2=strip fr:=by
 unfold De at h
 unfold iC
 cases hg:o.guard with
 | none =>
   rw[hg] at h
   rw[← Tr.ab h];exact ⟨rfl,rfl⟩
 | some jw =>
   obtain ⟨j,want⟩:=jw
   rw[hg] at h
   dsimp only at h ⊢
   cases hd:(ops[j]?).bind (·.dst) with
   | none=>rw[hd] at h;exact (Tr.ae h).elim
   | some d =>
     rw[hd] at h
     dsimp only at h ⊢
     have he:=fB fr d
     rw[he] at h
     cases hv:br (strip fr) d<;>rw[hv] at h<;>try exact (Tr.ae h).elim
     case bool b =>
      dsimp only at h ⊢
      cases want with
      | true =>
        rw[cond_true] at h
        obtain ⟨b',fr',h1,h2,h3⟩:=lz h
        rw[hv] at h1
        cases h1
        cases b<;>(have h3:=Tr.ab h3;rw[← h3];exact ⟨rfl,h2⟩)
      | false =>
        rw[cond_false] at h
        obtain ⟨b',fr',h1,h2,h3⟩:=lz h
        rw[hv] at h1
        cases h1
        cases b<;>(have h3:=Tr.ab h3;rw[← h3];exact ⟨rfl,h2⟩)
     case tup l=>rw[← Tr.ab h];exact ⟨rfl,rfl⟩

def iU (P:Program) (nt:Nat) (call:aY) (callR:bH) (ops:Array Oper):List Oper→aO→aa→Tr (aO×aa)
 | [],fr,H=>.ok (fr,H)
 | o::r,fr,H=>(De ops fr o).bind fun b=>cond b.1
   ((ME o.op o P call callR b.2 H (fM H)).bind fun y=>iU P nt call callR ops r (ri nt b.2 o.dst y.1) (N0 y.2 H))
   (iU P nt call callR ops r (ri nt b.2 o.dst (.tup [],none)) H)
theorem fR {P:Program} {nt:Nat} {call:aY} {callR:bH} (hC:callR.Ok call) {ops:Array Oper}:∀ (l:List Oper) (fr:aO) (H:aa) (x:aO×aa),(iU P nt call callR ops l fr H).run=some x→dJ P nt call ops l (strip fr) H=some (strip x.1,x.2)
 | [],fr,H,x,h=>by rw[← Tr.ab h];rfl
 | o :: r,fr,H,x,h=>by
   simp only[iU] at h
   obtain ⟨b,h1,h⟩:=Tr.bind_some h
   unfold dJ
   obtain ⟨hw,hs⟩:=AD h1
   rw[hw,← hs]
   obtain ⟨b,fr1⟩:=b
   dsimp only at h ⊢
   cases b with
   | false =>
     have:=fR hC r _ _ _ h
     rw[mD] at this
     exact this
   | true =>
     rw[cond_true] at h
     obtain ⟨y,h2,h⟩:=Tr.bind_some h
     have h2:=Bo hC h2
     rw[gU] at h2
     have:=fR hC r _ _ _ h
     rw[mD,F9] at this
     rw[if_pos rfl]
     dsimp only
     rw[h2]
     exact this

def pw (fr:aO) (o:Oper):Touch:=kz (strip fr) o
def pW (P:Program) (call:aY) (callR:bH) (ops:Array Oper) (bef:Nat) (fr0:aO) (H:aa) (nx:Nat) (recs:List Rec) (o:Oper):Tr (uq×Option Nat×aO) :=
 (De ops fr0 o).bind fun b=>cond b.1
   (cond (fc o) ((ME o.op o P call callR b.2 (pc (jf bef recs H)) nx).bind fun y=>.ok (⟨y.1.1,.all,none⟩,y.1.2,b.2))
     ((ME o.op o P call callR b.2 (jf bef recs H) nx).bind fun y=>match y.2 with
       | .bf=>.ok (⟨y.1.1,pw b.2 o,none⟩,y.1.2,b.2)
       | .push q=>cond (gB o && !gY q && o6 (eT H 0 nx) && !fL H 0) (.ok (⟨y.1.1,pw b.2 o,some (0,nx,(0,q))⟩,y.1.2,b.2)) .bad
       | .set d i q=>.req (jZ (gH (eT H d i).1 q.1) (gH q.1 (Nat.succ (eT H d i).1))) (cond (!gY q.2 && !gY (eT (jf bef recs H) d i).2 && jm bef d i recs) (.ok (⟨y.1.1,pw b.2 o,some (d,i,q)⟩,y.1.2,b.2)) .bad)
       | _=>.bad))
   (.ok (⟨.tup [],.none,none⟩,none,b.2))
theorem wE {P:Program} {call:aY} {callR:bH} (hC:callR.Ok call) {ops:Array Oper} {bef:Nat} {fr:aO} {H:aa} {nx:Nat} {recs:List Rec} {o:Oper} {e:uq×Option Nat×aO} (h:(pW P call callR ops bef fr H nx recs o).run=some e) :
 eS P call ops bef (strip fr) H nx recs o=some e.1∧strip e.2.2=strip fr:=by
 unfold pW at h
 unfold eS
 simp only[ke,ra,pw,rk,iq,eE] at h
 obtain ⟨b,h1,h⟩:=Tr.bind_some h
 obtain ⟨hw,hs⟩:=AD h1
 rw[hw,← hs]
 obtain ⟨b,fr1⟩:=b
 dsimp only at h ⊢
 cases b with
 | false =>
   rw[cond_false] at h
   rw[← Tr.ab h];exact ⟨rfl,rfl⟩
 | true =>
   rw[cond_true] at h
   rw[if_pos rfl]
   dsimp only
   cases hcv:fc o with
   | true =>
     rw[hcv,cond_true] at h
     obtain ⟨y,h2,h⟩:=Tr.bind_some h
     rw[if_pos rfl,Bo hC h2,← Tr.ab h]
     exact ⟨rfl,rfl⟩
   | false =>
     rw[hcv,cond_false] at h
     obtain ⟨y,h2,h⟩:=Tr.bind_some h
     rw[if_neg (by simp),Bo hC h2]
     split at h
     · rename_i hy
       rw[hy,← Tr.ab h];exact ⟨rfl,rfl⟩
     · rename_i b hy
       obtain ⟨hc,h⟩:=Tr.aU h
       rw[hy]
       dsimp only
       rw[if_pos hc,← Tr.ab h];exact ⟨rfl,rfl⟩
     · rename_i d i b hy
       obtain ⟨hv,h⟩:=Tr.aS h
       obtain ⟨hc,h⟩:=Tr.aU h
       rw[hy]
       dsimp only
       rw[ou,kZ,kZ,Bool.and_eq_true,decide_eq_true_eq,decide_eq_true_eq] at hv
       have hv':(Nat.beq b.1 (av H d i).1 || Nat.beq b.1 (Nat.succ (av H d i).1))=true:=by
        simp only[Bool.or_eq_true,Nat.beq_eq];omega
       simp only[Bool.and_eq_true] at hc
       rw[if_pos (by simp only[Bool.and_eq_true];exact ⟨⟨⟨hc.1.1,hv'⟩,hc.1.2⟩,hc.2⟩),← Tr.ab h];exact ⟨rfl,rfl⟩
     · exact (Tr.ae h).elim
def oJ (P:Program) (nt:Nat) (call:aY) (callR:bH) (ops:Array Oper) (befs:Array Nat):List Oper→Nat→aO→aa→Nat→List Rec→Tr (aO×aa)
 | [],_,fr,H,_,_=>.ok (fr,H)
 | o::r,j,fr,H,nx,recs=>(pW P call callR ops (befs.getD j 0) fr H nx recs o).bind fun e =>
   oJ P nt call callR ops befs r (j+1) (ri nt e.2.2 o.dst (e.1.v,e.2.1)) (zS H e.1.wr) (if gB o then nx+1 else nx) (⟨j,e.1.rd,e.1.wr.map fun x=>(x.1,x.2.1)⟩::recs)
theorem qJ {P:Program} {nt:Nat} {call:aY} {callR:bH} (hC:callR.Ok call) {ops:Array Oper} {befs:Array Nat}:∀ (l:List Oper) (j:Nat) (fr:aO) (H:aa) (nx:Nat) (recs:List Rec) (x:aO×aa),
 (oJ P nt call callR ops befs l j fr H nx recs).run=some x→fG P nt call ops befs j l (strip fr) H nx recs=some (strip x.1,x.2)
 | [],j,fr,H,nx,recs,x,h=>by rw[← Tr.ab h];rfl
 | o::r,j,fr,H,nx,recs,x,h=>by
   simp only[oJ] at h
   obtain ⟨e,h1,h⟩:=Tr.bind_some h
   obtain ⟨hd,hs⟩:=wE hC h1
   unfold fG
   rw[hd,← hs]
   have:=qJ hC r _ _ _ _ _ _ h
   rw[mD,zT] at this
   exact this

def aF:Code→List (Nat×Code)
 | .block id b=>(id,b)::aF b
 | .loop b=>aF b
 | .seq a b=>aF a++aF b
 | .cond _ a b=>aF a++aF b
 | .scope b=>aF b
 | _=>[]
def bh (f:Func):Code:=match f.body with | some c=>c | none=>.skip
abbrev ot:=Ex×aO×aa
def ot.st (x:ot):Ex×ar×aa:=(x.1,strip x.2.1,x.2.2)
abbrev ig:=Nat→aO→aa→Option (Tr ot)
abbrev sb:=Operand→aO→aa→Option (Tr ot)
def ig.Ok (bl:ig) (cx:Cx) (c:Code):Prop:=∀ id b,(id,b) ∈ aF c→∀ fr H t x,bl id fr H=some t→t.run=some x→exec cx (.block id b) (strip fr) H=some x.st
def eC:Code→List (Operand×Array Tmp×Code×Code)
 | .rangeFunc f ps a b=>[(f,ps,a,b)]
 | .loop b=>eC b
 | .block _ b=>eC b
 | .seq a b=>eC a++eC b
 | .cond _ a b=>eC a++eC b
 | .scope b=>eC b
 | _=>[]
def sb.Ok (rg:sb) (cx:Cx) (c:Code):Prop:=∀ f ps a b,(f,ps,a,b) ∈ eC c→∀ fr H t x,rg f fr H=some t→t.run=some x→exec cx (.rangeFunc f ps a b) (strip fr) H=some x.st
def bG (bl:ig) (id0:Nat) (fr0:ar) (H0:aa) (u:Tr ot):ig:=fun id fr H=>cond (Nat.beq id id0) (some (.reqP (strip fr=fr0∧H=H0) u)) (bl id fr H)
theorem ay {bl:ig} {cx:Cx} {c:Code} (h:bl.Ok cx c) {id0:Nat} {fr0:ar} {H0:aa} {u:Tr ot} {B:Code} (hB:∀ b,(id0,b) ∈ aF c→b=B) (k:∀ x,u.run=some x→exec cx (.block id0 B) fr0 H0=some x.st):(bG bl id0 fr0 H0 u).Ok cx c:=by
 intro id b hm fr H t y ht hy
 unfold bG at ht
 cases hb:Nat.beq id id0 with
 | true =>
   have wT:=Nat.eq_of_beq_eq_true hb
   subst wT
   rw[hb,cond_true,Option.some.injEq] at ht
   subst ht
   obtain ⟨⟨h1,h2⟩,h3⟩:=Tr.dm hy
   rw[h1,h2,hB b hm]
   exact k y h3
 | false =>
   rw[hb,cond_false] at ht
   exact h id b hm fr H t y ht hy
def Lq (rg:sb) (tf:Operand→Bool) (fr0:ar) (H0:aa) (u:Tr ot):sb:=fun f fr H=>cond (tf f) (some (.reqP (strip fr=fr0∧H=H0) u)) (rg f fr H)
theorem xF {rg:sb} {cx:Cx} {c:Code} (h:rg.Ok cx c) {tf:Operand→Bool} {fr0:ar} {H0:aa} {u:Tr ot} (k:∀ f ps a b,tf f=true→(f,ps,a,b) ∈ eC c→∀ x,u.run=some x→exec cx (.rangeFunc f ps a b) fr0 H0=some x.st):(Lq rg tf fr0 H0 u).Ok cx c:=by
 intro f ps a b hm fr H t y ht hy
 unfold Lq at ht
 cases hb:tf f with
 | true =>
   rw[hb,cond_true,Option.some.injEq] at ht
   subst ht
   obtain ⟨⟨h1,h2⟩,h3⟩:=Tr.dm hy
   rw[h1,h2]
   exact k f ps a b hb hm y h3
 | false =>
   rw[hb,cond_false] at ht
   exact h f ps a b hm fr H t y ht hy
def aG:ig:=fun _ _ _=>none
def aH:sb:=fun _ _ _=>none
theorem af (cx:Cx) (c:Code):aG.Ok cx c:=fun _ _ _ _ _ _ _ h=>by cases h
theorem ag (cx:Cx) (c:Code):aH.Ok cx c:=fun _ _ _ _ _ _ _ _ _ h=>by cases h
def zu (g:AV→AV):aO→aO
 | []=>[]
 | (x,(v,h))::r=>(x,(nm g v,h))::zu g r
theorem zw (g:AV→AV):∀ fr:aO,strip (zu g fr)=qp g (strip fr)
 | []=>rfl
 | (x,(v,h))::r=>by
   have e:zu g ((x,(v,h))::r)=(x,(nm g v,h))::zu g r:=rfl
   rw[e,dc,dc,qp,zw g r]
def lA (n:Nat):Nat→aO→aa→aO×aa
 | 0,fr,H=>(fr,H)
 | k + 1,fr,H=>match H with
   | []=>(fr,[])
   | l::r=>cond (Nat.ble (iQ l.bs) (Nat.succ n)) (fr,l::r) (match hole (strip fr) l.bs 4 n with
     | none=>(fr,l::r)
     | some h=>lA n k (zu (uS (l.bs.length-1) h) fr) (lF n (qp (uS (l.bs.length-1) h) (strip fr)) (x0 (l.bs.length-1) h l::r)))
theorem uc (n:Nat):∀ (k:Nat) (fr:aO) (H:aa),(strip (lA n k fr H).1,(lA n k fr H).2)=ju n k (strip fr) H
 | 0,fr,H=>rfl
 | k+1,fr,[]=>rfl
 | k + 1,fr,l::r=>by
   cases hb:Nat.ble (iQ l.bs) (Nat.succ n) with
   | true =>
     have:lA n (k+1) fr (l::r)=(fr,l::r):=by
      unfold lA;dsimp only;rw[hb];rfl
     rw[this,ue (by rw[dq] at hb;simpa using hb)]
   | false =>
     unfold lA ju
     dsimp only
     rw[hb,cond_false]
     cases hole (strip fr) l.bs 4 n with
     | none=>rfl
     | some h =>
       dsimp only
       rw[uc n k,zw]
def C9 (n:Nat) (fr:aO) (H:aa):aO×aa:=lA n 4 fr (lF n (strip fr) H)
theorem GC (n:Nat) (fr:aO) (H:aa):(strip (C9 n fr H).1,(C9 n fr H).2)=tidy n (strip fr) H:=uc n 4 fr _
def Ck (body:aO→aa→Tr ot) (n:Nat):Nat→aO→aa→Tr ot
 | 0,_,_=>.bad
 | k+1,fr,H=>(body fr H).bind fun x=>match x with
   | (.normal,fr,H)=>Ck body n k (C9 n fr H).1 (C9 n fr H).2
   | r=>.ok r
theorem vH {body:ar→aa→Option (Ex×ar×aa)} {n:Nat}:∀ (k m:Nat) (fr:ar) (H:aa) (x:Ex×ar×aa),iter body n k fr H=some x→k≤m→iter body n m fr H=some x
 | 0,m,fr,H,x,h,_=>by simp[iter] at h
 | k+1,0,fr,H,x,h,hk=>by omega
 | k + 1,m+1,fr,H,x,h,hk=>by
   unfold iter at h ⊢
   cases hb:body fr H with
   | none=>rw[hb] at h;simp at h
   | some y =>
     rw[hb] at h
     obtain ⟨e,f,g⟩:=y
     cases e
     case normal=>exact vH k m _ _ _ h (by omega)
     all_goals exact h
theorem yY {body:aO→aa→Tr ot} {body':ar→aa→Option (Ex×ar×aa)} {n:Nat} (hb:∀ fr H x,(body fr H).run=some x→body' (strip fr) H=some x.st):∀ (k:Nat) (fr:aO) (H:aa) (x:ot),(Ck body n k fr H).run=some x→iter body' n k (strip fr) H=some x.st
 | 0,fr,H,x,h=>(Tr.ae h).elim
 | k+1,fr,H,x,h=>by
   simp only[Ck] at h
   obtain ⟨y,h1,h⟩:=Tr.bind_some h
   unfold iter
   rw[hb _ _ _ h1]
   obtain ⟨e,f,g⟩:=y
   cases e
   case normal =>
    have e:=GC n f g
    have h:=yY hb k _ _ _ h
    show iter body' n k (tidy n (strip f) g).1 (tidy n (strip f) g).2=_
    rw[← e];exact h
   all_goals
    have h:=Tr.ab h
    rw[← h];rfl
def nX (f:AV→Tr AV):List AV→Tr (List AV)
 | []=>.ok []
 | v::l=>(f v).bind fun u=>(nX f l).bind fun m=>.ok (u::m)
theorem fg {f:AV→Tr AV} {g:AV→AV} (hf:∀ v u,(f v).run=some u→g v=u):∀ (l m:List AV),(nX f l).run=some m→l.map g=m
 | [],m,h=>Tr.ab h
 | v::l,m,h=>by
   simp only[nX] at h
   obtain ⟨u,h1,h⟩:=Tr.bind_some h
   obtain ⟨n,h2,h⟩:=Tr.bind_some h
   rw[← Tr.ab h,List.map_cons,hf _ _ h1,fg hf l n h2]
def mr (f:AV→Tr AV):List ah→Tr (List ah)
 | []=>.ok []
 | .one v::l=>(f v).bind fun u=>(mr f l).bind fun m=>.ok (.one u::m)
 | .arr k z n::l=>(mr f l).bind fun m=>.ok (.arr k z n::m)
theorem iv {f:AV→Tr AV} {g:AV→AV} (hf:∀ v u,(f v).run=some u→g v=u):∀ (l m:List ah),(mr f l).run=some m→mapM' g l=m
 | [],m,h=>Tr.ab h
 | .one v::l,m,h=>by
   simp only[mr] at h
   obtain ⟨u,h1,h⟩:=Tr.bind_some h
   obtain ⟨n,h2,h⟩:=Tr.bind_some h
   rw[← Tr.ab h,mapM',hf _ _ h1,iv hf l n h2]
 | .arr k z n::l,m,h=>by
   simp only[mr] at h
   obtain ⟨n,h2,h⟩:=Tr.bind_some h
   rw[← Tr.ab h,mapM',iv hf l n h2]
def qI (cap:Option Nat) (len:Nat):Bool :=
 match cap with
 | none=>false
 | some c=>b6 c len
theorem j5 (cap:Option Nat) (len:Nat):qI cap len=(cap == some len):=by
 cases cap with
 | none=>rfl
 | some c=>simp only[qI,gr];rw[Bool.eq_iff_iff];simp
def yR (i ver:Nat) (r:Row):AV→Tr AV
 | .ptr d j v off=>cond (Nat.beq d 0 && Nat.beq j i) (.req (b6 v ver) (.ok (.ptrT none r off))) (.ok (.ptr d j v off))
 | .slc d j v off sz len cap=>cond (Nat.beq d 0 && Nat.beq j i) (.req (b6 v ver) (match r with
    | .M [.arr k z N]=>.req (ga off (jn len sz) 0 N) (.ok (.slcT none (.M [.arr k (dC z off) (jn len sz)]) sz len (qI cap len)))
    | .I k l=>cond (uF (.I k l) off (Nat.mul len sz)) (.ok (.slcT none (.I k (iK (lH l off) (Nat.mul len sz))) sz len (qI cap len))) .bad
    | _=>.bad)) (.ok (.slc d j v off sz len cap))
 | v=>.ok v
theorem ve {d j i:Nat} {x:Bool} (h:(Nat.beq d 0 && Nat.beq j i)=true):(Nat.beq d 0 && (Nat.beq j i && x))=x:=by
 rw[Bool.and_eq_true] at h
 rw[h.1,h.2];rfl
theorem vf {d j i:Nat} {x:Bool} (h:(Nat.beq d 0 && Nat.beq j i)=false):(Nat.beq d 0 && (Nat.beq j i && x))=false:=by
 rw[← Bool.and_assoc,h];rfl
theorem yS {i ver:Nat} {r:Row}:∀ v u,(yR i ver r v).run=some u→nj i ver r v=u:=by
 intro v u h
 cases v with
 | ptr d j v off =>
   simp only[yR] at h
   simp only[nj]
   cases hc:(Nat.beq d 0 && Nat.beq j i) with
   | false=>rw[hc,cond_false] at h;rw[vf hc,if_neg (by simp)];exact Tr.ab h
   | true =>
     rw[hc,cond_true] at h
     obtain ⟨h1,h⟩:=Tr.aS h
     rw[gr,decide_eq_true_eq] at h1
     rw[ve hc,if_pos (by simpa using h1)];exact Tr.ab h
 | slc d j v off sz len cap =>
   simp only[yR] at h
   simp only[nj]
   cases hc:(Nat.beq d 0 && Nat.beq j i) with
   | false=>rw[hc,cond_false] at h;rw[vf hc,if_neg (by simp)];exact Tr.ab h
   | true =>
     rw[hc,cond_true] at h
     obtain ⟨h1,h2⟩:=Tr.aS h
     clear h
     rw[gr,decide_eq_true_eq] at h1
     rw[ve hc]
     split at h2
     · obtain ⟨h3,h⟩:=Tr.aS h2
       rw[gV,decide_eq_true_eq,cE] at h3
       rw[if_pos (by simp[h1,Row.len,aA,aR];omega),← Tr.ab h,j5,cE,mJ]
       rfl
     · obtain ⟨h3,h⟩:=Tr.aU h2
       rw[kR,decide_eq_true_eq] at h3
       rw[if_pos (by simp only[h1,Bool.and_eq_true];exact ⟨by simp,Nat.ble_eq_true_of_le h3⟩),← Tr.ab h,j5,gF,im]
       rfl
     · exact (Tr.ae h2).elim
 | _=>exact Tr.ab h
def zx (f:AV→Tr AV) (v:AV):Tr AV :=
 match v with
 | .agg (.G l)=>(nX f l).bind fun m=>.ok (.agg (.G m))
 | .agg (.M l)=>(mr f l).bind fun m=>.ok (.agg (.M m))
 | .fn g a b=>(nX f a).bind fun a'=>(nX f b).bind fun b'=>.ok (.fn g a' b')
 | v=>f v
theorem tb {f:AV→Tr AV} {g:AV→AV} (hf:∀ v u,(f v).run=some u→g v=u):∀ v u,(zx f v).run=some u→nm g v=u:=by
 intro v u h
 unfold zx at h
 split at h
 · obtain ⟨m,h1,h⟩:=Tr.bind_some h
   rw[← Tr.ab h,← fg hf _ _ h1];rfl
 · obtain ⟨m,h1,h⟩:=Tr.bind_some h
   rw[← Tr.ab h,← iv hf _ _ h1];rfl
 · obtain ⟨a',h1,h⟩:=Tr.bind_some h
   obtain ⟨b',h2,h⟩:=Tr.bind_some h
   rw[← Tr.ab h,← fg hf _ _ h1,← fg hf _ _ h2];rfl
 · rename_i n1 n2 n3
   have:=hf _ _ h
   rw[← this]
   unfold nm
   split
   · exact absurd rfl (n1 _)
   · exact absurd rfl (n2 _)
   · exact absurd rfl (n3 _ _ _)
   · rfl
def FV (f:AV→Tr AV):ai→Tr ai
 | .row r=>match r with
   | .G l=>(nX (zx f) l).bind fun m=>.ok (.row (.G m))
   | .M l=>(mr (zx f) l).bind fun m=>.ok (.row (.M m))
   | r=>.ok (.row r)
 | b=>.ok b
theorem FW {f:AV→Tr AV} {g:AV→AV} (hf:∀ v u,(f v).run=some u→g v=u) (b u:ai) (h:(FV f b).run=some u):qo g b=u:=by
 cases b with
 | row r =>
   simp only[FV] at h
   cases r with
   | G l =>
     obtain ⟨m,h1,h⟩:=Tr.bind_some h
     rw[← Tr.ab h,← fg (tb hf) _ _ h1];rfl
   | M l =>
     obtain ⟨m,h1,h⟩:=Tr.bind_some h
     rw[← Tr.ab h,← iv (tb hf) _ _ h1];rfl
   | I k l=>rw[← Tr.ab h];rfl
   | F z n=>rw[← Tr.ab h];rfl
 | dead=>exact Tr.ab h
 | map es=>exact Tr.ab h
 | fmap kq f g c=>exact Tr.ab h
 | loop l=>exact Tr.ab h
def xg (f:AV→Tr AV):List (Nat×ai)→Tr (List (Nat×ai))
 | []=>.ok []
 | (v,b)::r=>(FV f b).bind fun b'=>(xg f r).bind fun r'=>.ok ((v,b')::r')
theorem vN {f:AV→Tr AV} {g:AV→AV} (hf:∀ v u,(f v).run=some u→g v=u):∀ (l m:List (Nat×ai)),(xg f l).run=some m→jI g l=m
 | [],m,h=>Tr.ab h
 | (v,b)::r,m,h=>by
   simp only[xg] at h
   obtain ⟨b',h1,h⟩:=Tr.bind_some h
   obtain ⟨r',h2,h⟩:=Tr.bind_some h
   rw[← Tr.ab h,jI,FW hf _ _ h1,vN hf r r' h2]
def Cy (f:AV→Tr AV):aO→Tr aO
 | []=>.ok []
 | (x,(v,h))::r=>(zx f v).bind fun v'=>(Cy f r).bind fun r'=>.ok ((x,(v',h))::r')
theorem zt {f:AV→Tr AV} {g:AV→AV} (hf:∀ v u,(f v).run=some u→g v=u):∀ (l m:aO),(Cy f l).run=some m→qp g (strip l)=strip m
 | [],m,h=>by rw[← Tr.ab h];rfl
 | (x,(v,hh))::r,m,h=>by
   simp only[Cy] at h
   obtain ⟨v',h1,h⟩:=Tr.bind_some h
   obtain ⟨r',h2,h⟩:=Tr.bind_some h
   rw[← Tr.ab h,dc,dc,qp,tb hf _ _ h1,zt hf r r' h2]
def sS (i:Nat) (fr:aO) (l:aX):Tr (aO×aX) :=
 match Bl l.bs i with
 | (ver,.row r)=>cond (wW r && (uy (fun x=>pN (pz i) x.2) (strip fr) || uy (fun x=>KV (pz i) x.2) l.bs)) ((Cy (yR i ver r) fr).bind fun fr'=>(xg (yR i ver r) l.bs).bind fun bs'=>.ok (fr',{ l with bs:=bZ bs' i (ver,.dead) })) (.ok (fr,l))
 | _=>.ok (fr,l)
theorem qf {i:Nat} {fr:aO} {l:aX} {y:aO×aX} (h:(sS i fr l).run=some y):me i (strip fr) l=(strip y.1,y.2):=by
 unfold sS at h
 unfold me
 rw[rY] at h
 split at h
 · rename_i ver r hb
   rw[hb]
   dsimp only
   rw[ov,ov] at h
   cases hc:(wW r && ((strip fr).any (fun x=>pN (pz i) x.2) || l.bs.any (fun x=>KV (pz i) x.2))) with
   | true =>
     rw[hc,cond_true] at h
     obtain ⟨fr',h1,h⟩:=Tr.bind_some h
     obtain ⟨bs',h2,h⟩:=Tr.bind_some h
     rw[if_pos rfl,zt yS _ _ h1,vN yS _ _ h2,← Tr.ab h]
   | false =>
     rw[hc,cond_false] at h
     rw[if_neg (by simp),← Tr.ab h]
 · rename_i hno
   have h:=Tr.ab h
   subst h
   split
   · rename_i ver r hb
     exact absurd hb (hno ver r)
   · rfl
def rR:Nat→aO→aX→Tr (aO×aX)
 | 0,fr,l=>.ok (fr,l)
 | n+1,fr,l=>(rR n fr l).bind fun y=>sS n y.1 y.2
theorem sQ:∀ (n:Nat) (fr:aO) (l:aX) (y:aO×aX),(rR n fr l).run=some y→jj n (strip fr) l=(strip y.1,y.2)
 | 0,fr,l,y,h=>by rw[← Tr.ab h];rfl
 | n+1,fr,l,y,h=>by
   simp only[rR] at h
   obtain ⟨z,h1,h⟩:=Tr.bind_some h
   have h1:=sQ n fr l z h1
   simp only[jj]
   rw[h1]
   exact qf h
def oZ:Nat→aO→aX→Tr (aO×aX)
 | 0,fr,l=>.ok (fr,l)
 | n+1,fr,l=>(oZ n fr l).bind fun y=>cond (uy (fun x=>pN (pz n) x.2) (strip y.1)) (.ok y) (sS n y.1 y.2)
theorem qX:∀ (n:Nat) (fr:aO) (l:aX) (y:aO×aX),(oZ n fr l).run=some y→eL n (strip fr) l=(strip y.1,y.2)
 | 0,fr,l,y,h=>by rw[← Tr.ab h];rfl
 | n + 1,fr,l,y,h=>by
   simp only[oZ] at h
   obtain ⟨z,h1,h⟩:=Tr.bind_some h
   have h1:=qX n fr l z h1
   simp only[eL]
   rw[h1]
   dsimp only
   rw[ov] at h
   cases hc:(strip z.1).any (fun x=>pN (pz n) x.2) with
   | true =>
     rw[hc,cond_true] at h
     rw[if_pos rfl,Tr.ab h]
   | false =>
     rw[hc,cond_false] at h
     rw[if_neg (by simp)]
     exact qf h
def Cp (s:Nat):aO→Option Nat
 | []=>none
 | (x,(v,_))::r=>cond (Nat.beq x s) (match v with
   | .slc 0 i _ _ _ _ _=>some i
   | _=>none) (Cp s r)
theorem zg (s:Nat):∀ fr:aO,Cp s fr=Co s (strip fr)
 | []=>rfl
 | (x,(v,h))::r=>by
   rw[dc]
   simp only[Cp,Co,zg s r]
   cases Nat.beq x s<;>rfl
def wV (s:Nat) (fr:aO) (H:aa):Tr (aO×aa) :=
 match H with
 | []=>.ok (fr,[])
 | l::r=>cond l.lock (.ok (fr,l::r)) (match Cp s fr with
   | some i=>(sS i fr l).bind fun y=>.ok (y.1,y.2::r)
   | none=>.ok (fr,l::r))
theorem Bc {s:Nat} {fr:aO} {H:aa} {y:aO×aa} (h:(wV s fr H).run=some y):wU s (strip fr) H=(strip y.1,y.2):=by
 unfold wV at h
 unfold wU
 cases H with
 | nil=>rw[← Tr.ab h]
 | cons l r =>
   dsimp only at h ⊢
   cases hl:l.lock with
   | true =>
     rw[hl,cond_true] at h
     rw[if_pos rfl,← Tr.ab h]
   | false =>
     rw[hl,cond_false,zg] at h
     rw[if_neg (by simp)]
     split at h
     · rename_i i hi
       obtain ⟨z,h1,h⟩:=Tr.bind_some h
       have h1:=qf h1
       rw[hi]
       dsimp only
       rw[h1,← Tr.ab h]
     · rename_i hi
       rw[hi,← Tr.ab h]
def Bb (m:Nat) (fr:aO) (H:aa):Tr (aO×aa) :=
 cond (nZ m 4000) (match H with
  | []=>.ok (gT fr m,[])
  | l::r=>cond l.lock (.ok (gT fr m,l::r)) ((rR (iQ l.bs) (gT fr m) l).bind fun y=>.ok (y.1,cond (Nat.beq (Nat.shiftRight m 4003) 0) (y.2::r) (F3 (Nat.shiftRight m 4003) (y.2::r))))) (cond (nZ m 4001) (wV (Nat.shiftRight m 4003) (gT fr m) H) (cond (nZ m 4002) (wg (gT fr m) (Nat.shiftRight m 4003) (fun fr=>.ok (fr,H)) (fun fr=>match H with
  | []=>.ok (fr,[])
  | l::r=>cond l.lock (.ok (fr,l::r)) ((oZ (iQ l.bs) fr l).bind fun y=>.ok (y.1,y.2::r)))) (.ok (gT fr m,H))))
theorem DO {m:Nat} {fr:aO} {H:aa} {y:aO×aa} (h:(Bb m fr H).run=some y):mf m (strip fr) H=(strip y.1,y.2):=by
 unfold Bb at h
 unfold mf
 cases hm:nZ m 4000 with
 | false =>
   rw[hm,cond_false] at h
   rw[if_neg (by simp)]
   cases hm2:nZ m 4001 with
   | false =>
     rw[hm2,cond_false] at h
     rw[if_neg (by simp)]
     cases hm3:nZ m 4002 with
     | false =>
       rw[hm3,cond_false] at h
       rw[if_neg (by simp),← Tr.ab h,fb]
     | true =>
       rw[hm3,cond_true] at h
       rw[if_pos rfl]
       obtain ⟨b,fr',h1,h2,h3⟩:=lz h
       rw[fb] at h1 h2
       rw[h1]
       cases b with
       | true =>
         simp only[if_true] at h3
         rw[← Tr.ab h3,h2]
       | false =>
         simp only[Bool.false_eq_true,if_false] at h3
         cases H with
         | nil =>
           dsimp only at h3
           rw[← Tr.ab h3,← h2];rfl
         | cons l r =>
           dsimp only at h3
           show uH (bO (strip fr) m) (l::r)=_
           rw[← h2]
           unfold uH
           dsimp only
           cases hl:l.lock with
           | true =>
             rw[hl,cond_true] at h3
             rw[if_pos rfl,← Tr.ab h3]
           | false =>
             rw[hl,cond_false] at h3
             obtain ⟨z,h4,h5⟩:=Tr.bind_some h3
             have h4:=qX _ _ _ _ h4
             rw[dq] at h4
             rw[if_neg (by simp),h4,← Tr.ab h5]
   | true =>
     rw[hm2,cond_true] at h
     rw[if_pos rfl]
     have h1:=Bc h
     rw[fb] at h1
     exact h1
 | true =>
   rw[hm,cond_true] at h
   rw[if_pos rfl]
   cases H with
   | nil =>
     rw[← Tr.ab h,fb]
     simp only[DN,F3,ite_self]
   | cons l r =>
     dsimp only at h
     unfold DN
     dsimp only
     cases hl:l.lock with
     | true =>
       rw[hl,cond_true] at h
       simp only[if_true]
       rw[← Tr.ab h,fb]
       simp only[F3,hl,if_true,ite_self]
     | false =>
       rw[hl,cond_false] at h
       obtain ⟨z,h1,h⟩:=Tr.bind_some h
       have h1:=sQ _ _ _ _ h1
       rw[dq,fb] at h1
       simp only[Bool.false_eq_true,if_false,h1]
       rw[← Tr.ab h]
       cases Nat.beq (Nat.shiftRight m 4003) 0<;>rfl
def aJ (cx:Cx) (callR:bH) (bl:ig) (rg:sb):Code→aO→aa→Tr ot
 | .skip,fr,H=>.ok (.normal,fr,H)
 | .label _,fr,H=>.ok (.normal,fr,H)
 | .exit id,fr,H=>.ok (.exit id,fr,H)
 | .goto l,fr,H=>.ok (.goto l,fr,H)
 | .ret,fr,H=>.ok (.ret,fr,H)
 | .region id ops draw,fr,H =>
   (cond draw (cond (fk ops (Region.before ops)) (oJ cx.P cx.nt cx.call callR ops (Region.before ops) ops.toList 0 fr (kW H (cH ops.toList)) (fM H) []) .bad) (iU cx.P cx.nt cx.call callR ops ops.toList fr H)).bind fun x=>(Bb (cx.kt id) x.1 x.2).bind fun y=>.ok (.normal,y.1,y.2)
 | .seq a b,fr,H=>(aJ cx callR bl rg a fr H).bind fun x=>match x with
   | (.normal,fr,H)=>aJ cx callR bl rg b fr H
   | r=>.ok r
 | .cond c a b,fr,H=>match c with
   | .tmp d=>wg fr d (fun fr=>aJ cx callR bl rg a fr H) (fun fr=>aJ cx callR bl rg b fr H)
   | c=>match (b7 fr c).1 with
     | .bool t=>cond t (aJ cx callR bl rg a fr H) (aJ cx callR bl rg b fr H)
     | _=>.bad
 | .block id b,fr,H=>match bl id fr H with
   | some t=>t
   | none=>(aJ cx callR bl rg b fr H).bind fun x=>match x with
     | (.exit id',fr,H)=>cond (Nat.beq id' id) (.ok (.normal,fr,H)) (.ok (.exit id',fr,H))
     | r=>.ok r
 | .scope b,fr,H=>(aJ cx callR bl rg b fr H).bind fun x=>match x with
   | (.goto _,_,_)=>.bad
   | r=>.ok r
 | .rangeFunc f _ _ _,fr,H=>match rg f fr H with
   | some t=>t
   | none=>.bad
 | .loop b,fr,H=>cond (Nat.ble 12 cx.fu) (Ck (aJ cx callR bl rg b) (fM H) 12 fr H) .bad
 | .refuse _,_,_=>.bad

theorem oP {cx:Cx} {callR:bH} {bl:ig} {rg:sb} (hC:callR.Ok cx.call):∀ (c:Code),bl.Ok cx c→rg.Ok cx c→∀ (fr:aO) (H:aa) (x:ot),(aJ cx callR bl rg c fr H).run=some x→exec cx c (strip fr) H=some x.st:=by
 intro c
 induction c with
 | skip=>intro _ _ fr H x h;rw[← Tr.ab h];rfl
 | label=>intro _ _ fr H x h;rw[← Tr.ab h];rfl
 | exit=>intro _ _ fr H x h;rw[← Tr.ab h];rfl
 | goto=>intro _ _ fr H x h;rw[← Tr.ab h];rfl
 | ret=>intro _ _ fr H x h;rw[← Tr.ab h];rfl
 | refuse=>intro _ _ fr H x h;exact (Tr.ae h).elim
 | loop b ih =>
   intro hb hr fr H x h
   simp only[aJ] at h
   obtain ⟨hk,h⟩:=Tr.aU h
   rw[Nat.ble_eq] at hk
   unfold exec
   rw[gU] at h
   exact vH _ _ _ _ _ (yY (fun fr H x h=>ih hb hr fr H x h) 12 fr H x h) hk
 | rangeFunc f ps a b =>
   intro _ hr fr H x h
   simp only[aJ] at h
   split at h
   · rename_i t ht
     exact hr f ps a b (by simp[eC]) fr H t x ht h
   · exact (Tr.ae h).elim
 | region id ops draw =>
   intro _ _ fr H x h
   simp only[aJ] at h
   obtain ⟨y,h1,h⟩:=Tr.bind_some h
   obtain ⟨z,h2,h⟩:=Tr.bind_some h
   have h2:=DO h2
   rw[← Tr.ab h]
   unfold exec
   cases draw with
   | true =>
     rw[cond_true] at h1
     obtain ⟨hs,h1⟩:=Tr.aU h1
     rw[gU] at h1
     simp only[if_true,hs]
     rw[qJ hC _ _ _ _ _ _ _ h1]
     dsimp only
     rw[h2]
     rfl
   | false =>
     rw[cond_false] at h1
     simp only[Bool.false_eq_true,if_false]
     rw[fR hC _ _ _ _ h1]
     dsimp only
     rw[h2]
     rfl
 | seq a b iha ihb =>
   intro hb hr fr H x h
   have hba:bl.Ok cx a:=fun id b' hm=>hb id b' (List.mem_append_left _ hm)
   have hbb:bl.Ok cx b:=fun id b' hm=>hb id b' (List.mem_append_right _ hm)
   have hra:rg.Ok cx a:=fun f ps u v hm=>hr f ps u v (List.mem_append_left _ hm)
   have hrb:rg.Ok cx b:=fun f ps u v hm=>hr f ps u v (List.mem_append_right _ hm)
   simp only[aJ] at h
   obtain ⟨y,h1,h⟩:=Tr.bind_some h
   have h1:=iha hba hra _ _ _ h1
   unfold exec
   rw[h1]
   obtain ⟨e,fr1,H1⟩:=y
   cases e
   case normal=>exact ihb hbb hrb _ _ _ h
   all_goals
    have h:=Tr.ab h
    rw[← h];rfl
 | cond c a b iha ihb =>
   intro hb hr fr H x h
   have hba:bl.Ok cx a:=fun id b' hm=>hb id b' (List.mem_append_left _ hm)
   have hbb:bl.Ok cx b:=fun id b' hm=>hb id b' (List.mem_append_right _ hm)
   have hra:rg.Ok cx a:=fun f ps u v hm=>hr f ps u v (List.mem_append_left _ hm)
   have hrb:rg.Ok cx b:=fun f ps u v hm=>hr f ps u v (List.mem_append_right _ hm)
   simp only[aJ] at h
   unfold exec
   split at h
   · rename_i d
     obtain ⟨b',fr',h1,h2,h3⟩:=lz h
     have e:bL (strip fr) (.tmp d)=.bool b':=h1
     rw[e,← h2]
     cases b' with
     | true=>exact iha hba hra _ _ _ h3
     | false=>exact ihb hbb hrb _ _ _ h3
   · rename_i c' hne
     rw[aV] at h
     split at h
     · rename_i t hc
       rw[hc]
       cases t with
       | true=>exact iha hba hra _ _ _ h
       | false=>exact ihb hbb hrb _ _ _ h
     · exact (Tr.ae h).elim
 | block id b ih =>
   intro hb hr fr H x h
   have hbb:bl.Ok cx b:=fun id' b' hm=>hb id' b' (by simp only[aF];exact List.mem_cons_of_mem _ hm)
   simp only[aJ] at h
   split at h
   · rename_i t ht
     exact hb id b (by simp[aF]) _ _ _ _ ht h
   · obtain ⟨y,h1,h⟩:=Tr.bind_some h
     have h1:=ih hbb hr _ _ _ h1
     unfold exec
     rw[h1]
     obtain ⟨e,fr1,H1⟩:=y
     cases e
     case exit id' =>
      dsimp only[ot.st] at h ⊢
      rw[gq] at h
      split at h
      · rename_i wT
        rw[if_pos wT,← Tr.ab h]
      · rename_i wT
        rw[if_neg wT,← Tr.ab h]
     all_goals
      have h:=Tr.ab h
      rw[← h];rfl
 | scope b ih =>
   intro hb hr fr H x h
   simp only[aJ] at h
   obtain ⟨y,h1,h⟩:=Tr.bind_some h
   have h1:=ih hb hr _ _ _ h1
   unfold exec
   rw[h1]
   obtain ⟨e,fr1,H1⟩:=y
   cases e
   case goto=>exact (Tr.ae h).elim
   all_goals
    have h:=Tr.ab h
    rw[← h];rfl

end
end Go.Eng
end
section
namespace Go.Eng
noncomputable section

def ni   (bs:List (Nat×ai)):Nat→AV→Tr AV
 | 0,_=>.ok .undef
 | n + 1,v=>match v with
   | .ptr d i ver off=>match d with
     | d+1=>.ok (.ptr d i ver off)
     | 0 => match Bl bs i with
       | (w,.row r)=>cond (Nat.beq w ver) (match r with
         | .I k l=>.ok (.ptrT none (.I k l) off)
         | .F f m=>.ok (.ptrT none (.F f m) off)
         | .M l=>cond (gp l) (.ok (.ptrT none (.M l) off)) ((mr (ni bs n) l).bind fun m=>.ok (.ptrT (some 0) (.M m) off))
         | .G l=>(nX (ni bs n) l).bind fun m=>.ok (.ptrT (some 0) (.G m) off)) .bad
       | _=>.bad
   | .slc d i ver off sz len cap=>match d with
     | d+1=>.ok (.slc d i ver off sz len cap)
     | 0 => match Bl bs i with
       | (w,.row r)=>.req (b6 w ver) (match r with
         | .M [.arr k z N]=>.req (ga off (jn len sz) 0 N) (.ok (.slcT none (.M [.arr k (dC z off) (jn len sz)]) sz len (qI cap len)))
         | .I k l=>cond (uF (.I k l) off (Nat.mul len sz)) (.ok (.slcT none (.I k (iK (lH l off) (Nat.mul len sz))) sz len (qI cap len))) .bad
         | .F f N=>.req (ga off (jn len sz) 0 N) (.ok (.slcT none (.F (fun j=>f (bN off j)) (jn len sz)) sz len (qI cap len)))
         | .G l=>cond (uF (.G l) off (Nat.mul len sz)) ((nX (ni bs n) (iK (lH l off) (Nat.mul len sz))).bind fun m=>.ok (.slcT (some 0) (.G m) sz len (qI cap len))) .bad
         | _=>.bad)
       | _=>.bad
   | .ptrT s r off=>match s with
     | none=>.ok (.ptrT none r off)
     | some (s+1)=>.ok (.ptrT (some s) r off)
     | some 0=>match r with
       | .G l=>(nX (ni bs n) l).bind fun m=>.ok (.ptrT (some 0) (.G m) off)
       | .M l=>cond (gp l) (.ok (.ptrT none (.M l) off)) ((mr (ni bs n) l).bind fun m=>.ok (.ptrT (some 0) (.M m) off))
       | r=>.ok (.ptrT none r off)
   | .slcT s r sz len full=>match s with
     | none=>.ok (.slcT none r sz len full)
     | some (s+1)=>.ok (.slcT (some s) r sz len full)
     | some 0=>match r with
       | .G l=>(nX (ni bs n) l).bind fun m=>.ok (.slcT (some 0) (.G m) sz len full)
       | .M l=>cond (gp l) (.ok (.slcT none (.M l) sz len full)) ((mr (ni bs n) l).bind fun m=>.ok (.slcT (some 0) (.M m) sz len full))
       | r=>.ok (.slcT none r sz len full)
   | .map d i=>match d with
     | d+1=>.ok (.map d i)
     | 0=>.ok .undef
   | .yld d i=>match d with
     | d+1=>.ok (.yld d i)
     | 0=>.ok .undef
   | .fn f a b=>(nX (ni bs n) a).bind fun a'=>(nX (ni bs n) b).bind fun b'=>.ok (.fn f a' b')
   | .agg r=>match r with
     | .G l=>(nX (ni bs n) l).bind fun m=>.ok (.agg (.G m))
     | .M l=>(mr (ni bs n) l).bind fun m=>.ok (.agg (.M m))
     | r=>.ok (.agg r)
   | .tup l=>(nX (ni bs n) l).bind fun m=>.ok (.tup m)
   | v=>.ok v
theorem B7 (bs:List (Nat×ai)):∀ (n:Nat) (v u:AV),(ni bs n v).run=some u→dM bs n v=u
 | 0,v,u,h=>Tr.ab h
 | n + 1,v,  u,h=>by
   have ih:=B7 bs n
   simp only[ni,rY] at h
   cases v with
   | ptr d i ver off =>
     cases d with
     | succ d=>exact Tr.ab h
     | zero =>
       dsimp only at h
       simp only[dM]
       split at h
       · rename_i w r hg
         obtain ⟨hw,h⟩:=Tr.aU h
         rw[hg]
         dsimp only
         rw[if_pos hw]
         cases r with
         | I k l=>exact Tr.ab h
         | F f m=>exact Tr.ab h
         | G l =>
           obtain ⟨m,h1,h⟩:=Tr.bind_some h
           rw[← Tr.ab h,← fg ih _ _ h1]
         | M l =>
           dsimp only at h ⊢
           cases ha:gp l with
           | true=>rw[ha,cond_true] at h;rw[if_pos rfl];exact Tr.ab h
           | false =>
             rw[ha,cond_false] at h
             obtain ⟨m,h1,h⟩:=Tr.bind_some h
             rw[if_neg (by simp),← Tr.ab h,← iv ih _ _ h1]
       · exact (Tr.ae h).elim
   | slc d i ver off sz len cap =>
     cases d with
     | succ d=>exact Tr.ab h
     | zero =>
       dsimp only at h
       simp only[dM]
       split at h
       · rename_i w r hg
         obtain ⟨hw,h'⟩:=Tr.aS h
         clear h
         rw[gr,decide_eq_true_eq] at hw
         subst hw
         rw[hg]
         dsimp only
         split at h'
         · rename_i k z N
           have h:=h'
           obtain ⟨hc,h⟩:=Tr.aS h
           rw[gV,decide_eq_true_eq,cE] at hc
           rw[if_pos ⟨by simp,by simp only[Row.len,aA,aR];omega⟩,← Tr.ab h,j5,cE,mJ]
           simp only[Row.sub,gp,if_true]
         · have h:=h'
           obtain ⟨hc,h⟩:=Tr.aU h
           rw[kR,decide_eq_true_eq] at hc
           rw[if_pos ⟨by simp,hc⟩,← Tr.ab h,j5,gF,im]
           rfl
         · have h:=h'
           obtain ⟨hc,h⟩:=Tr.aS h
           rw[gV,decide_eq_true_eq,cE] at hc
           rw[if_pos ⟨by simp,by simp only[Row.len];omega⟩,← Tr.ab h,j5,cE]
           simp only[Row.sub,bF]
         · have h:=h'
           obtain ⟨hc,h⟩:=Tr.aU h
           rw[kR,decide_eq_true_eq] at hc
           obtain ⟨m,h1,h⟩:=Tr.bind_some h
           rw[gF,im] at h1
           rw[if_pos ⟨by simp,hc⟩,← Tr.ab h,j5,← fg ih _ _ h1]
           rfl
         · exact (Tr.ae h').elim
       · exact (Tr.ae h).elim
   | ptrT s r off =>
     cases s with
     | none=>exact Tr.ab h
     | some s =>
       cases s with
       | succ s=>exact Tr.ab h
       | zero =>
         simp only[dM]
         cases r with
         | I k l=>exact Tr.ab h
         | F f m=>exact Tr.ab h
         | G l =>
           obtain ⟨m,h1,h⟩:=Tr.bind_some h
           rw[← Tr.ab h,← fg ih _ _ h1]
         | M l =>
           dsimp only at h ⊢
           cases ha:gp l with
           | true=>rw[ha,cond_true] at h;rw[if_pos rfl];exact Tr.ab h
           | false =>
             rw[ha,cond_false] at h
             obtain ⟨m,h1,h⟩:=Tr.bind_some h
             rw[if_neg (by simp),← Tr.ab h,← iv ih _ _ h1]
   | slcT s r sz len full =>
     cases s with
     | none=>exact Tr.ab h
     | some s =>
       cases s with
       | succ s=>exact Tr.ab h
       | zero =>
         simp only[dM]
         cases r with
         | I k l=>exact Tr.ab h
         | F f m=>exact Tr.ab h
         | G l =>
           obtain ⟨m,h1,h⟩:=Tr.bind_some h
           rw[← Tr.ab h,← fg ih _ _ h1]
         | M l =>
           dsimp only at h ⊢
           cases ha:gp l with
           | true=>rw[ha,cond_true] at h;rw[if_pos rfl];exact Tr.ab h
           | false =>
             rw[ha,cond_false] at h
             obtain ⟨m,h1,h⟩:=Tr.bind_some h
             rw[if_neg (by simp),← Tr.ab h,← iv ih _ _ h1]
   | map d i=>cases d<;>exact Tr.ab h
   | yld d i=>cases d<;>exact Tr.ab h
   | fn f a b =>
     obtain ⟨a',h1,h⟩:=Tr.bind_some h
     obtain ⟨b',h2,h⟩:=Tr.bind_some h
     simp only[dM]
     rw[← Tr.ab h,← fg ih _ _ h1,← fg ih _ _ h2]
   | agg r =>
     simp only[dM]
     cases r with
     | I k l=>exact Tr.ab h
     | F f m=>exact Tr.ab h
     | G l =>
       obtain ⟨m,h1,h⟩:=Tr.bind_some h
       rw[← Tr.ab h,← fg ih _ _ h1]
     | M l =>
       obtain ⟨m,h1,h⟩:=Tr.bind_some h
       rw[← Tr.ab h,← iv ih _ _ h1]
   | tup l =>
     obtain ⟨m,h1,h⟩:=Tr.bind_some h
     simp only[dM]
     rw[← Tr.ab h,← fg ih _ _ h1]
   | _=>exact Tr.ab h

def GZ (l:List HV):Nat→aO:=List.rec (motive:=fun _=>Nat→aO) (fun _=>[]) (fun v _ ih x=>(x,(fJ 1 v.1,v.2))::ih (Nat.succ x)) l
theorem BP:∀ (l:List HV) (x:Nat),strip (GZ l x)=fq x (pO l)
 | [],x=>rfl
 | v::l,x=>by
   have e:GZ (v::l) x=(x,(fJ 1 v.1,v.2))::GZ l (x+1):=rfl
   rw[e,dc,BP l];rfl
def hints (f:ar):aO:=List.rec (motive:=fun _=>aO) [] (fun p _ ih=>(p.1,(p.2,none))::ih) f
theorem ir:∀ f:ar,strip (hints f)=f
 | []=>rfl
 | (x,v)::r=>by
   have e:hints ((x,v)::r)=(x,(v,none))::hints r:=rfl
   rw[e,dc,ir r]
def Bu (P:Program) (fr:aO) (H:aa):List ResultVar→Tr (List AV)
 | []=>.ok []
 | .tmp t::r=>(Bu P fr H r).bind fun l=>.ok ((lI fr t).1::l)
 | .cell a t::r=>(loadT P H t (b7 fr (.tmp a))).bind fun v=>(Bu P fr H r).bind fun l=>.ok (v::l)
theorem xD {P:Program} {fr:aO} {H:aa}:∀ (l:List ResultVar) (vs:List AV),(Bu P fr H l).run=some vs→g7 P (strip fr) H l=some vs
 | [],vs,h=>by rw[← Tr.ab h];rfl
 | .tmp t::r,vs,h=>by
   simp only[Bu] at h
   obtain ⟨l,h1,h⟩:=Tr.bind_some h
   simp only[g7]
   rw[xD r l h1,← Tr.ab h,fB];rfl
 | .cell a t::r,vs,h=>by
   simp only[Bu] at h
   obtain ⟨v,h0,h⟩:=Tr.bind_some h
   obtain ⟨l,h1,h⟩:=Tr.bind_some h
   have h0:=zk h0
   rw[aV] at h0
   simp only[g7]
   have e:bL (strip fr) (.tmp a)=br (strip fr) a:=rfl
   rw[e] at h0
   rw[h0]
   dsimp only
   rw[xD r l h1,← Tr.ab h];rfl
def IX (fr:aO) (rs:List ResultVar):Option Nat :=
 match rs with
 | [.tmp t]=>(lI fr t).2
 | _=>none
def KF (P:Program) (rs:List ResultVar) (x:ot):Tr (HV×aa) :=
 match x with
 | (e,fr,l::H)=>match e with
   | .normal | .ret=>(Bu P fr (l::H) rs).bind fun vs=>(ni l.bs 5 (one vs)).bind fun v=>.ok ((v,IX fr rs),H)
   | _=>.bad
 | _=>.bad
theorem Ie {P:Program} {rs:List ResultVar} {x:ot} {y:HV×aa} (h:(KF P rs x).run=some y):∃ l vs,x.2.2=l::y.2∧(x.1=.normal∨x.1=.ret)∧g7 P (strip x.2.1) x.2.2 rs=some vs∧dM l.bs 5 (one vs)=y.1.1:=by
 unfold KF at h
 split at h
 · rename_i e fr l H
   have key:((Bu P fr (l::H) rs).bind fun vs=>(ni l.bs 5 (one vs)).bind fun v=>Tr.ok (((v,IX fr rs),H):HV×aa)).run=some y→∃ vs,l::H=l::y.2∧g7 P (strip fr) (l::H) rs=some vs∧dM l.bs 5 (one vs)=y.1.1:=by
    intro h
    obtain ⟨vs,h1,h⟩:=Tr.bind_some h
    obtain ⟨v,h2,h⟩:=Tr.bind_some h
    have h:=Tr.ab h
    refine ⟨vs,by rw[← h],xD _ _ h1,?_⟩
    rw[B7 _ _ _ _ h2,← h]
   split at h
   · obtain ⟨vs,h1,h2,h3⟩:=key h;exact ⟨l,vs,h1,.inl rfl,h2,h3⟩
   · obtain ⟨vs,h1,h2,h3⟩:=key h;exact ⟨l,vs,h1,.inr rfl,h2,h3⟩
   · exact (Tr.ae h).elim
 · exact (Tr.ae h).elim
def aT (P:Program) (call:aY) (fu:Nat) (f:FuncId) (fn:Func) (kt:Nat→Nat) (callR:bH) (bl:ig) (rg:sb) (args:List HV) (H:aa):Tr (HV×aa) :=
 (aJ ⟨P,call,fu,f,fn.ntmps,kt,none⟩ callR bl rg (bh fn) (GZ args 0) (⟨false,[]⟩::H)).bind fun x=>KF P fn.results.toList x
theorem sk {P:Program} {ora:aY→FuncId→List AV→aa→Option (AV×aa)} {KT:FuncId→Nat→Nat} {fu n:Nat} {f:FuncId} {fn:Func} (hf:P.funcs[f]?=some fn) (hb:fn.body.isSome=true) {args:List HV} {H:aa} (ho:ora (cW P ora KT fu n) f (pO args) H=none) (hle:Nat.ble args.length fn.ntmps=true)
 {callR:bH} (hC:callR.Ok (cW P ora KT fu n)) {bl:ig} (hB:bl.Ok ⟨P,cW P ora KT fu n,fu,f,fn.ntmps,KT f,none⟩ (bh fn)) {rg:sb} (hR:rg.Ok ⟨P,cW P ora KT fu n,fu,f,fn.ntmps,KT f,none⟩ (bh fn)) {y:HV×aa}
 (h:(aT P (cW P ora KT fu n) fu f fn (KT f) callR bl rg args H).run=some y):cW P ora KT fu (n+1) (.fn f) (pO args) H=some (y.1.1,y.2):=by
 unfold aT at h
 obtain ⟨x,h1,h⟩:=Tr.bind_some h
 have h1:=oP hC _ hB hR _ _ _ h1
 rw[BP] at h1
 obtain ⟨l,vs,k1,k2,k3,k4⟩:=Ie h
 obtain ⟨c,hc⟩:=Option.isSome_iff_exists.1 hb
 have hbody:bh fn=c:=by unfold bh;rw[hc]
 rw[hbody] at h1
 obtain ⟨e,fr,H1⟩:=x
 dsimp only[ot.st] at h1 k1 k2 k3
 rw[k1] at h1 k3
 have hl:(pO args).length=args.length:=by unfold pO;rw[jJ,List.length_map]
 simp only[cW,ho,hf,hc,hl,hle,if_true,h1]
 rcases k2 with rfl | rfl<;>simp only[k3]<;>rw[k4]

theorem eA {cx:Cx} {id:Nat} {b:Code} {fr fr1:ar} {H H1:aa} (h:iter (exec cx b) (ao H) cx.fu fr H=some (.exit id,fr1,H1)):exec cx (.block id (.loop b)) fr H=some (.normal,fr1,H1):=by
 unfold exec
 have:exec cx (.loop b) fr H=some (.exit id,fr1,H1):=by unfold exec;exact h
 rw[this]
 dsimp only
 rw[if_pos (by simp)]
theorem eH {cx:Cx} {id:Nat} {b:Code} {fr fr1:ar} {H H1:aa} {e:Ex} (he:∀ id',e=.exit id'→Nat.beq id' id=false) (h:iter (exec cx b) (ao H) cx.fu fr H=some (e,fr1,H1)):exec cx (.block id (.loop b)) fr H=some (e,fr1,H1):=by
 unfold exec
 have:exec cx (.loop b) fr H=some (e,fr1,H1):=by unfold exec;exact h
 rw[this]
 cases e with
 | exit id'=>dsimp only;rw[if_neg (by rw[he id' rfl];simp)]
 | _=>rfl
def fN (p:Nat→Bool):Nat→Nat→Nat
 | 0,j=>j
 | k+1,j=>if p j then j else fN p k (j+1)
theorem mS (p:Nat→Bool):∀ (k j:Nat),j≤fN p k j∧fN p k j≤j+k∧(∀ i,j≤i→i<fN p k j→p i=false)∧(fN p k j<j+k→p (fN p k j)=true)
 | 0,j=>⟨Nat.le_refl _,Nat.le_refl _,fun i h1 h2=>absurd h2 (by simp only[fN];omega),fun h=>absurd h (by simp only[fN];omega)⟩
 | k + 1,j=>by
   simp only[fN]
   by_cases h:p j=true
   · rw[if_pos h]
     exact ⟨Nat.le_refl _,by omega,fun i h1 h2=>by omega,fun _=>h⟩
   · rw[if_neg h]
     obtain ⟨h1,h2,h3,h4⟩:=mS p k (j+1)
     refine ⟨by omega,by omega,fun i k1 k2=>?_,fun k1=>h4 (by omega)⟩
     by_cases e:i=j
     · subst e;simpa using h
     · exact h3 i (by omega) k2
theorem mV {body:ar→aa→Option (Ex×ar×aa)} {n:Nat} (F:Nat→ar) (G:Nat→aa) (N:Nat) (p:Nat→Bool) (X:Nat→Ex×ar×aa)
 (hs:∀ j,j<N→p j=false→∃ f g,body (F j) (G j)=some (.normal,f,g)∧tidy n f g=(F (j+1),G (j+1)))
 (hh:∀ j,j<N→p j=true→body (F j) (G j)=some (X j)∧(X j).1≠.normal) (he:body (F N) (G N)=some (X N)∧(X N).1≠.normal) :
 ∀ (k j fu:Nat),j+k=N→k<fu→iter body n fu (F j) (G j)=some (X (fN p k j))
 | 0,j,0,_,h=>by omega
 | 0,j,fu+1,hj,_=>by
   have:j=N:=by omega
   subst this
   unfold iter
   rw[he.1]
   obtain ⟨x,hx⟩:∃ x,x=X j:=⟨_,rfl⟩
   have hn:=he.2
   simp only[fN]
   rw[← hx] at hn ⊢
   obtain ⟨e,f,g⟩:=x
   cases e<;>first | exact absurd rfl hn | rfl
 | k+1,j,0,_,h=>by omega
 | k + 1,j,fu+1,hj,hf=>by
   unfold iter
   cases hp:p j with
   | true =>
     obtain ⟨h1,h2⟩:=hh j (by omega) hp
     rw[h1]
     simp only[fN]
     rw[if_pos hp]
     obtain ⟨x,hx⟩:∃ x,x=X j:=⟨_,rfl⟩
     rw[← hx] at h2 ⊢
     obtain ⟨e,f,g⟩:=x
     cases e<;>first | exact absurd rfl h2 | rfl
   | false =>
     obtain ⟨f,g,h1,h2⟩:=hs j (by omega) hp
     rw[h1]
     dsimp only
     rw[h2]
     simp only[fN]
     rw[if_neg (by rw[hp];simp)]
     exact mV F G N p X hs hh he k (j+1) fu (by omega) (by omega)
theorem sY {body:ar→aa→Option (Ex×ar×aa)} {n:Nat} (I:Nat→ar→aa→Prop) (Q:Ex×ar×aa→Prop) (N:Nat)
 (hr:∀ j fr H,I j fr H→(∃ e f g,body fr H=some (e,f,g)∧((e=.normal∧j<N∧I (j+1) (tidy n f g).1 (tidy n f g).2)∨(e≠.normal∧Q (e,f,g))))) :
 ∀ (fu j:Nat) (fr:ar) (H:aa),I j fr H→N-j<fu→∃ x,iter body n fu fr H=some x∧Q x
 | 0,j,fr,H,_,h=>by omega
 | fu+1,j,fr,H,hI,h=>by
   obtain ⟨e,f,g,h1,h2⟩:=hr j fr H hI
   unfold iter
   rw[h1]
   rcases h2 with ⟨rfl,hj,h2⟩ | ⟨he,hq⟩
   · dsimp only
     exact sY I Q N hr fu (j+1) _ _ h2 (by omega)
   · cases e<;>first | exact absurd rfl he | exact ⟨_,rfl,hq⟩

end
end Go.Eng
end
