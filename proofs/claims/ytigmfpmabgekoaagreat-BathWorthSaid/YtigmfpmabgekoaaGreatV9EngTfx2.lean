/- The engine as a tree: regions, code, calls. -/
import Derived.Test.YtigmfpmabgekoaaGreatV9EngTe
set_option linter.unusedVariables false
set_option linter.unusedSimpArgs false
section
namespace Go.Eng
noncomputable section

def wc (f:aT) (y:Nat) (b:Bool):aT:=List.rec (motive:=fun _=>aT) [] (fun p r ih=>Bool.rec (motive:=fun _=>aT) (p::ih) ((p.1,(.bool b,some 1))::r) (Nat.beq p.1 y)) f
theorem tO:∀ (f:aT) (y:Nat) (b:Bool),bw (strip f) y=.bool b→strip (wc f y b)=strip f
 | [],y,b,_=>rfl
 | (x,v)::r,y,b,h=>by
   have e:wc ((x,v)::r) y b=Bool.rec (motive:=fun _=>aT) ((x,v)::wc r y b) ((x,(.bool b,some 1))::r) (Nat.beq x y):=rfl
   rw[dm,bw] at h
   rw[e]
   cases hb:Nat.beq x y with
   | true =>
     rw[hb] at h
     have h:v.1=.bool b:=h
     show (x,AV.bool b)::strip r=(x,v.1)::strip r
     rw[h]
   | false =>
     rw[hb] at h
     show (x,v.1)::strip (wc r y b)=(x,v.1)::strip r
     rw[tO r y b h]
def wK {α:Type} (fr:aT) (d:Nat) (t e:aT→Tr α):Tr α :=
 match lU fr d with
 | (.bool b,none)=>.ite b (t (wc fr d true)) (e (wc fr d false))
 | (.bool b,some _)=>cond b (t fr) (e fr)
 | _=>.bad
theorem lI {α:Type} {fr:aT} {d:Nat} {t e:aT→Tr α} {x:α} (h:(wK fr d t e).run=some x):∃ b fr',bw (strip fr) d=.bool b∧strip fr'=strip fr∧(if b then t fr' else e fr').run=some x:=by
 unfold wK at h
 split at h
 · rename_i b hg
   have hg':bw (strip fr) d=.bool b:=by rw[← fB,hg]
   rcases Tr.gu h with ⟨rfl,h⟩ | ⟨rfl,h⟩
   · exact ⟨true,_,hg',tO _ _ _ hg',h⟩
   · exact ⟨false,_,hg',tO _ _ _ hg',h⟩
 · rename_i b n hg
   have hg':bw (strip fr) d=.bool b:=by rw[← fB,hg]
   refine ⟨b,fr,hg',rfl,?_⟩
   cases b<;>exact h
 · exact (Tr.ae h).elim
def C7 (ops:Array Oper) (fr:aT) (o:Oper):Tr (Bool×aT) :=
 match o.guard with
 | none=>.ok (true,fr)
 | some (j,want)=>match (ops[j]?).bind (·.dst) with
   | none=>.bad
   | some d=>match (lU fr d).1 with
     | .bool _=>cond want (wK fr d (fun fr=>.ok (true,fr)) (fun fr=>.ok (false,fr))) (wK fr d (fun fr=>.ok (false,fr)) (fun fr=>.ok (true,fr)))
     | .tup _=>.ok (false,fr)
     | _=>.bad
theorem Au {ops:Array Oper} {fr:aT} {o:Oper} {r:Bool×aT} (h:(C7 ops fr o).run=some r):ik ops (strip fr) o=(if r.1 then .run else .skip)∧strip r.2=strip fr:=by
 unfold C7 at h
 unfold ik
 cases hg:o.guard with
 | none =>
   rw[hg] at h
   rw[← Tr.ab h];exact ⟨rfl,rfl⟩
 | some jw =>
   obtain ⟨j,want⟩:=jw
   rw[hg] at h
   dsimp only at h ⊢
   cases hd:(ops[j]?).bind (·.dst) with
   | none=>rw[hd] at h;exact (Tr.ae h).elim
   | some d =>
     rw[hd] at h
     dsimp only at h ⊢
     have he:=fB fr d
     rw[he] at h
     cases hv:bw (strip fr) d<;>rw[hv] at h<;>try exact (Tr.ae h).elim
     case bool b =>
      dsimp only at h ⊢
      cases want with
      | true =>
        rw[cond_true] at h
        obtain ⟨b',fr',h1,h2,h3⟩:=lI h
        rw[hv] at h1
        cases h1
        cases b<;>(have h3:=Tr.ab h3;rw[← h3];exact ⟨rfl,h2⟩)
      | false =>
        rw[cond_false] at h
        obtain ⟨b',fr',h1,h2,h3⟩:=lI h
        rw[hv] at h1
        cases h1
        cases b<;>(have h3:=Tr.ab h3;rw[← h3];exact ⟨rfl,h2⟩)
     case tup l=>rw[← Tr.ab h];exact ⟨rfl,rfl⟩

def iL (P:Program) (nt:Nat) (call:aU) (callR:bJ) (ops:Array Oper):List Oper→aT→aa→Tr (aT×aa)
 | [],fr,H=>.ok (fr,H)
 | o::r,fr,H=>(C7 ops fr o).bind fun b=>cond b.1
   ((Md o.op o P call callR b.2 H (fP H)).bind fun y=>iL P nt call callR ops r (rP nt b.2 o.dst y.1) (NL y.2 H))
   (iL P nt call callR ops r (rP nt b.2 o.dst (.tup [],none)) H)
theorem fR {P:Program} {nt:Nat} {call:aU} {callR:bJ} (hC:callR.Ok call) {ops:Array Oper}:∀ (l:List Oper) (fr:aT) (H:aa) (x:aT×aa),(iL P nt call callR ops l fr H).run=some x→dQ P nt call ops l (strip fr) H=some (strip x.1,x.2)
 | [],fr,H,x,h=>by rw[← Tr.ab h];rfl
 | o :: r,fr,H,x,h=>by
   simp only[iL] at h
   obtain ⟨b,h1,h⟩:=Tr.bind_some h
   unfold dQ
   obtain ⟨hw,hs⟩:=Au h1
   rw[hw,← hs]
   obtain ⟨b,fr1⟩:=b
   dsimp only at h ⊢
   cases b with
   | false =>
     have:=fR hC r _ _ _ h
     rw[mR] at this
     exact this
   | true =>
     rw[cond_true] at h
     obtain ⟨y,h2,h⟩:=Tr.bind_some h
     have h2:=A8 hC h2
     rw[gN] at h2
     have:=fR hC r _ _ _ h
     rw[mR,FP] at this
     rw[if_pos rfl]
     dsimp only
     rw[h2]
     exact this

def pW (fr:aT) (o:Oper):Touch:=kM (strip fr) o
def qu (P:Program) (call:aU) (callR:bJ) (ops:Array Oper) (bef:Nat) (fr0:aT) (H:aa) (nx:Nat) (recs:List Rec) (o:Oper):Tr (uK×Option Nat×aT) :=
 (C7 ops fr0 o).bind fun b=>cond b.1
   (cond (fj o) ((Md o.op o P call callR b.2 (pM (iX bef recs H)) nx).bind fun y=>.ok (⟨y.1.1,.all,none⟩,y.1.2,b.2))
     ((Md o.op o P call callR b.2 (iX bef recs H) nx).bind fun y=>match y.2 with
       | .bf=>.ok (⟨y.1.1,pW b.2 o,none⟩,y.1.2,b.2)
       | .push q=>cond (gv o && !eX q && pJ (eW H 0 nx) && !fO H 0) (.ok (⟨y.1.1,pW b.2 o,some (0,nx,(0,q))⟩,y.1.2,b.2)) .bad
       | .set d i q=>.req (g7 (ju (eW H d i).1 q.1) (ju q.1 (Nat.succ (eW H d i).1))) (cond (!eX q.2 && !eX (eW (iX bef recs H) d i).2 && jf bef d i recs) (.ok (⟨y.1.1,pW b.2 o,some (d,i,q)⟩,y.1.2,b.2)) .bad)
       | _=>.bad))
   (.ok (⟨.tup [],.none,none⟩,none,b.2))
theorem xh {P:Program} {call:aU} {callR:bJ} (hC:callR.Ok call) {ops:Array Oper} {bef:Nat} {fr:aT} {H:aa} {nx:Nat} {recs:List Rec} {o:Oper} {e:uK×Option Nat×aT} (h:(qu P call callR ops bef fr H nx recs o).run=some e) :
 eV P call ops bef (strip fr) H nx recs o=some e.1∧strip e.2.2=strip fr:=by
 unfold qu at h
 unfold eV
 simp only[kB,rL,pW,rS,ia,eE] at h
 obtain ⟨b,h1,h⟩:=Tr.bind_some h
 obtain ⟨hw,hs⟩:=Au h1
 rw[hw,← hs]
 obtain ⟨b,fr1⟩:=b
 dsimp only at h ⊢
 cases b with
 | false =>
   rw[cond_false] at h
   rw[← Tr.ab h];exact ⟨rfl,rfl⟩
 | true =>
   rw[cond_true] at h
   rw[if_pos rfl]
   dsimp only
   cases hcv:fj o with
   | true =>
     rw[hcv,cond_true] at h
     obtain ⟨y,h2,h⟩:=Tr.bind_some h
     rw[if_pos rfl,A8 hC h2,← Tr.ab h]
     exact ⟨rfl,rfl⟩
   | false =>
     rw[hcv,cond_false] at h
     obtain ⟨y,h2,h⟩:=Tr.bind_some h
     rw[if_neg (by simp),A8 hC h2]
     split at h
     · rename_i hy
       rw[hy,← Tr.ab h];exact ⟨rfl,rfl⟩
     · rename_i b hy
       obtain ⟨hc,h⟩:=Tr.aW h
       rw[hy]
       dsimp only
       rw[if_pos hc,← Tr.ab h];exact ⟨rfl,rfl⟩
     · rename_i d i b hy
       obtain ⟨hv,h⟩:=Tr.aR h
       obtain ⟨hc,h⟩:=Tr.aW h
       rw[hy]
       dsimp only
       rw[oU,lu,lu,Bool.and_eq_true,decide_eq_true_eq,decide_eq_true_eq] at hv
       have hv':(Nat.beq b.1 (au H d i).1 || Nat.beq b.1 (Nat.succ (au H d i).1))=true:=by
        simp only[Bool.or_eq_true,Nat.beq_eq];omega
       simp only[Bool.and_eq_true] at hc
       rw[if_pos (by simp only[Bool.and_eq_true];exact ⟨⟨⟨hc.1.1,hv'⟩,hc.1.2⟩,hc.2⟩),← Tr.ab h];exact ⟨rfl,rfl⟩
     · exact (Tr.ae h).elim
def pf (P:Program) (nt:Nat) (call:aU) (callR:bJ) (ops:Array Oper) (befs:Array Nat):List Oper→Nat→aT→aa→Nat→List Rec→Tr (aT×aa)
 | [],_,fr,H,_,_=>.ok (fr,H)
 | o::r,j,fr,H,nx,recs=>(qu P call callR ops (befs.getD j 0) fr H nx recs o).bind fun e =>
   pf P nt call callR ops befs r (j+1) (rP nt e.2.2 o.dst (e.1.v,e.2.1)) (zT H e.1.wr) (if gv o then nx+1 else nx) (⟨j,e.1.rd,e.1.wr.map fun x=>(x.1,x.2.1)⟩::recs)
theorem rk {P:Program} {nt:Nat} {call:aU} {callR:bJ} (hC:callR.Ok call) {ops:Array Oper} {befs:Array Nat}:∀ (l:List Oper) (j:Nat) (fr:aT) (H:aa) (nx:Nat) (recs:List Rec) (x:aT×aa),
 (pf P nt call callR ops befs l j fr H nx recs).run=some x→fI P nt call ops befs j l (strip fr) H nx recs=some (strip x.1,x.2)
 | [],j,fr,H,nx,recs,x,h=>by rw[← Tr.ab h];rfl
 | o::r,j,fr,H,nx,recs,x,h=>by
   simp only[pf] at h
   obtain ⟨e,h1,h⟩:=Tr.bind_some h
   obtain ⟨hd,hs⟩:=xh hC h1
   unfold fI
   rw[hd,← hs]
   have:=rk hC r _ _ _ _ _ _ h
   rw[mR,zU] at this
   exact this

def aV:Code→List (Nat×Code)
 | .block id b=>(id,b)::aV b
 | .loop b=>aV b
 | .seq a b=>aV a++aV b
 | .cond _ a b=>aV a++aV b
 | .scope b=>aV b
 | _=>[]
def bM (f:Func):Code:=match f.body with | some c=>c | none=>.skip
abbrev dG:=Ex×aT×aa
def dG.st (x:dG):Ex×av×aa:=(x.1,strip x.2.1,x.2.2)
abbrev gH:=Nat→aT→aa→Option (Tr dG)
abbrev r7:=Operand→aT→aa→Option (Tr dG)
def gH.Ok (bl:gH) (cx:Cx) (c:Code):Prop:=∀ id b,(id,b) ∈ aV c→∀ fr H t x,bl id fr H=some t→t.run=some x→exec cx (.block id b) (strip fr) H=some x.st
def dO:Code→List (Operand×Array Tmp×Code×Code)
 | .rangeFunc f ps a b=>[(f,ps,a,b)]
 | .loop b=>dO b
 | .block _ b=>dO b
 | .seq a b=>dO a++dO b
 | .cond _ a b=>dO a++dO b
 | .scope b=>dO b
 | _=>[]
def r7.Ok (rg:r7) (cx:Cx) (c:Code):Prop:=∀ f ps a b,(f,ps,a,b) ∈ dO c→∀ fr H t x,rg f fr H=some t→t.run=some x→exec cx (.rangeFunc f ps a b) (strip fr) H=some x.st
def dJ (bl:gH) (id0:Nat) (fr0:av) (H0:aa) (u:Tr dG):gH:=fun id fr H=>cond (Nat.beq id id0) (some (.reqP (strip fr=fr0∧H=H0) u)) (bl id fr H)
theorem bg {bl:gH} {cx:Cx} {c:Code} (h:bl.Ok cx c) {id0:Nat} {fr0:av} {H0:aa} {u:Tr dG} {B:Code} (hB:∀ b,(id0,b) ∈ aV c→b=B) (k:∀ x,u.run=some x→exec cx (.block id0 B) fr0 H0=some x.st):(dJ bl id0 fr0 H0 u).Ok cx c:=by
 intro id b hm fr H t y ht hy
 unfold dJ at ht
 cases hb:Nat.beq id id0 with
 | true =>
   have yT:=Nat.eq_of_beq_eq_true hb
   subst yT
   rw[hb,cond_true,Option.some.injEq] at ht
   subst ht
   obtain ⟨⟨h1,h2⟩,h3⟩:=Tr.cW hy
   rw[h1,h2,hB b hm]
   exact k y h3
 | false =>
   rw[hb,cond_false] at ht
   exact h id b hm fr H t y ht hy
def I6 (rg:r7) (tf:Operand→Bool) (fr0:av) (H0:aa) (u:Tr dG):r7:=fun f fr H=>cond (tf f) (some (.reqP (strip fr=fr0∧H=H0) u)) (rg f fr H)
theorem oG {rg:r7} {cx:Cx} {c:Code} (h:rg.Ok cx c) {tf:Operand→Bool} {fr0:av} {H0:aa} {u:Tr dG} (k:∀ f ps a b,tf f=true→(f,ps,a,b) ∈ dO c→∀ x,u.run=some x→exec cx (.rangeFunc f ps a b) fr0 H0=some x.st):(I6 rg tf fr0 H0 u).Ok cx c:=by
 intro f ps a b hm fr H t y ht hy
 unfold I6 at ht
 cases hb:tf f with
 | true =>
   rw[hb,cond_true,Option.some.injEq] at ht
   subst ht
   obtain ⟨⟨h1,h2⟩,h3⟩:=Tr.cW hy
   rw[h1,h2]
   exact k f ps a b hb hm y h3
 | false =>
   rw[hb,cond_false] at ht
   exact h f ps a b hm fr H t y ht hy
def aP:gH:=fun _ _ _=>none
def aQ:r7:=fun _ _ _=>none
theorem af (cx:Cx) (c:Code):aP.Ok cx c:=fun _ _ _ _ _ _ _ h=>by cases h
theorem ag (cx:Cx) (c:Code):aQ.Ok cx c:=fun _ _ _ _ _ _ _ _ _ h=>by cases h
def zx (g:AV→AV):aT→aT
 | []=>[]
 | (x,(v,h))::r=>(x,(nC g v,h))::zx g r
theorem zy (g:AV→AV):∀ fr:aT,strip (zx g fr)=qP g (strip fr)
 | []=>rfl
 | (x,(v,h))::r=>by
   have e:zx g ((x,(v,h))::r)=(x,(nC g v,h))::zx g r:=rfl
   rw[e,dm,dm,qP,zy g r]
def lJ (n:Nat):Nat→aT→aa→aT×aa
 | 0,fr,H=>(fr,H)
 | k + 1,fr,H=>match H with
   | []=>(fr,[])
   | l::r=>cond (Nat.ble (iG l.bs) (Nat.succ n)) (fr,l::r) (match hole (strip fr) l.bs 4 n with
     | none=>(fr,l::r)
     | some h=>lJ n k (zx (vl (l.bs.length-1) h) fr) (lP n (qP (vl (l.bs.length-1) h) (strip fr)) (yh (l.bs.length-1) h l::r)))
theorem uz (n:Nat):∀ (k:Nat) (fr:aT) (H:aa),(strip (lJ n k fr H).1,(lJ n k fr H).2)=jt n k (strip fr) H
 | 0,fr,H=>rfl
 | k+1,fr,[]=>rfl
 | k + 1,fr,l::r=>by
   cases hb:Nat.ble (iG l.bs) (Nat.succ n) with
   | true =>
     have:lJ n (k+1) fr (l::r)=(fr,l::r):=by
      unfold lJ;dsimp only;rw[hb];rfl
     rw[this,uB (by rw[dx] at hb;simpa using hb)]
   | false =>
     unfold lJ jt
     dsimp only
     rw[hb,cond_false]
     cases hole (strip fr) l.bs 4 n with
     | none=>rfl
     | some h =>
       dsimp only
       rw[uz n k,zy]
def C0 (n:Nat) (fr:aT) (H:aa):aT×aa:=lJ n 4 fr (lP n (strip fr) H)
theorem Gl (n:Nat) (fr:aT) (H:aa):(strip (C0 n fr H).1,(C0 n fr H).2)=tidy n (strip fr) H:=uz n 4 fr _
def Ch (body:aT→aa→Tr dG) (n:Nat):Nat→aT→aa→Tr dG
 | 0,_,_=>.bad
 | k+1,fr,H=>(body fr H).bind fun x=>match x with
   | (.normal,fr,H)=>Ch body n k (C0 n fr H).1 (C0 n fr H).2
   | r=>.ok r
theorem vX {body:av→aa→Option (Ex×av×aa)} {n:Nat}:∀ (k m:Nat) (fr:av) (H:aa) (x:Ex×av×aa),iter body n k fr H=some x→k≤m→iter body n m fr H=some x
 | 0,m,fr,H,x,h,_=>by simp[iter] at h
 | k+1,0,fr,H,x,h,hk=>by omega
 | k + 1,m+1,fr,H,x,h,hk=>by
   unfold iter at h ⊢
   cases hb:body fr H with
   | none=>rw[hb] at h;simp at h
   | some y =>
     rw[hb] at h
     obtain ⟨e,f,g⟩:=y
     cases e
     case normal=>exact vX k m _ _ _ h (by omega)
     all_goals exact h
theorem za {body:aT→aa→Tr dG} {body':av→aa→Option (Ex×av×aa)} {n:Nat} (hb:∀ fr H x,(body fr H).run=some x→body' (strip fr) H=some x.st):∀ (k:Nat) (fr:aT) (H:aa) (x:dG),(Ch body n k fr H).run=some x→iter body' n k (strip fr) H=some x.st
 | 0,fr,H,x,h=>(Tr.ae h).elim
 | k+1,fr,H,x,h=>by
   simp only[Ch] at h
   obtain ⟨y,h1,h⟩:=Tr.bind_some h
   unfold iter
   rw[hb _ _ _ h1]
   obtain ⟨e,f,g⟩:=y
   cases e
   case normal =>
    have e:=Gl n f g
    have h:=za hb k _ _ _ h
    show iter body' n k (tidy n (strip f) g).1 (tidy n (strip f) g).2=_
    rw[← e];exact h
   all_goals
    have h:=Tr.ab h
    rw[← h];rfl
def oo (f:AV→Tr AV):List AV→Tr (List AV)
 | []=>.ok []
 | v::l=>(f v).bind fun u=>(oo f l).bind fun m=>.ok (u::m)
theorem fo {f:AV→Tr AV} {g:AV→AV} (hf:∀ v u,(f v).run=some u→g v=u):∀ (l m:List AV),(oo f l).run=some m→l.map g=m
 | [],m,h=>Tr.ab h
 | v::l,m,h=>by
   simp only[oo] at h
   obtain ⟨u,h1,h⟩:=Tr.bind_some h
   obtain ⟨n,h2,h⟩:=Tr.bind_some h
   rw[← Tr.ab h,List.map_cons,hf _ _ h1,fo hf l n h2]
def mM (f:AV→Tr AV):List aM→Tr (List aM)
 | []=>.ok []
 | .one v::l=>(f v).bind fun u=>(mM f l).bind fun m=>.ok (.one u::m)
 | .arr k z n::l=>(mM f l).bind fun m=>.ok (.arr k z n::m)
theorem ib {f:AV→Tr AV} {g:AV→AV} (hf:∀ v u,(f v).run=some u→g v=u):∀ (l m:List aM),(mM f l).run=some m→mapM' g l=m
 | [],m,h=>Tr.ab h
 | .one v::l,m,h=>by
   simp only[mM] at h
   obtain ⟨u,h1,h⟩:=Tr.bind_some h
   obtain ⟨n,h2,h⟩:=Tr.bind_some h
   rw[← Tr.ab h,mapM',hf _ _ h1,ib hf l n h2]
 | .arr k z n::l,m,h=>by
   simp only[mM] at h
   obtain ⟨n,h2,h⟩:=Tr.bind_some h
   rw[← Tr.ab h,mapM',ib hf l n h2]
def ri (cap:Option Nat) (len:Nat):Bool :=
 match cap with
 | none=>false
 | some c=>dS c len
theorem ko (cap:Option Nat) (len:Nat):ri cap len=(cap == some len):=by
 cases cap with
 | none=>rfl
 | some c=>simp only[ri,gK];rw[Bool.eq_iff_iff];simp
def yX (i ver:Nat) (r:Row):AV→Tr AV
 | .ptr d j v off=>cond (Nat.beq d 0 && Nat.beq j i) (.req (dS v ver) (.ok (.ptrT none r off))) (.ok (.ptr d j v off))
 | .slc d j v off sz len cap=>cond (Nat.beq d 0 && Nat.beq j i) (.req (dS v ver) (match r with
    | .M [.arr k z N]=>.req (rF off (jg len sz) 0 N) (.ok (.slcT none (.M [.arr k (nQ z off) (jg len sz)]) sz len (ri cap len)))
    | .I k l=>cond (uZ (.I k l) off (Nat.mul len sz)) (.ok (.slcT none (.I k (iD (lQ l off) (Nat.mul len sz))) sz len (ri cap len))) .bad
    | _=>.bad)) (.ok (.slc d j v off sz len cap))
 | v=>.ok v
theorem vz {d j i:Nat} {x:Bool} (h:(Nat.beq d 0 && Nat.beq j i)=true):(Nat.beq d 0 && (Nat.beq j i && x))=x:=by
 rw[Bool.and_eq_true] at h
 rw[h.1,h.2];rfl
theorem vA {d j i:Nat} {x:Bool} (h:(Nat.beq d 0 && Nat.beq j i)=false):(Nat.beq d 0 && (Nat.beq j i && x))=false:=by
 rw[← Bool.and_assoc,h];rfl
theorem yY {i ver:Nat} {r:Row}:∀ v u,(yX i ver r v).run=some u→nA i ver r v=u:=by
 intro v u h
 cases v with
 | ptr d j v off =>
   simp only[yX] at h
   simp only[nA]
   cases hc:(Nat.beq d 0 && Nat.beq j i) with
   | false=>rw[hc,cond_false] at h;rw[vA hc,if_neg (by simp)];exact Tr.ab h
   | true =>
     rw[hc,cond_true] at h
     obtain ⟨h1,h⟩:=Tr.aR h
     rw[gK,decide_eq_true_eq] at h1
     rw[vz hc,if_pos (by simpa using h1)];exact Tr.ab h
 | slc d j v off sz len cap =>
   simp only[yX] at h
   simp only[nA]
   cases hc:(Nat.beq d 0 && Nat.beq j i) with
   | false=>rw[hc,cond_false] at h;rw[vA hc,if_neg (by simp)];exact Tr.ab h
   | true =>
     rw[hc,cond_true] at h
     obtain ⟨h1,h2⟩:=Tr.aR h
     clear h
     rw[gK,decide_eq_true_eq] at h1
     rw[vz hc]
     split at h2
     · obtain ⟨h3,h⟩:=Tr.aR h2
       rw[jV,decide_eq_true_eq,cu] at h3
       rw[if_pos (by simp[h1,Row.len,aD,aN];omega),← Tr.ab h,ko,cu,jq]
       rfl
     · obtain ⟨h3,h⟩:=Tr.aW h2
       rw[lh,decide_eq_true_eq] at h3
       rw[if_pos (by simp only[h1,Bool.and_eq_true];exact ⟨by simp,Nat.ble_eq_true_of_le h3⟩),← Tr.ab h,ko,gz,hY]
       rfl
     · exact (Tr.ae h2).elim
 | _=>exact Tr.ab h
def zA (f:AV→Tr AV) (v:AV):Tr AV :=
 match v with
 | .agg (.G l)=>(oo f l).bind fun m=>.ok (.agg (.G m))
 | .agg (.M l)=>(mM f l).bind fun m=>.ok (.agg (.M m))
 | .fn g a b=>(oo f a).bind fun a'=>(oo f b).bind fun b'=>.ok (.fn g a' b')
 | v=>f v
theorem tN {f:AV→Tr AV} {g:AV→AV} (hf:∀ v u,(f v).run=some u→g v=u):∀ v u,(zA f v).run=some u→nC g v=u:=by
 intro v u h
 unfold zA at h
 split at h
 · obtain ⟨m,h1,h⟩:=Tr.bind_some h
   rw[← Tr.ab h,← fo hf _ _ h1];rfl
 · obtain ⟨m,h1,h⟩:=Tr.bind_some h
   rw[← Tr.ab h,← ib hf _ _ h1];rfl
 · obtain ⟨a',h1,h⟩:=Tr.bind_some h
   obtain ⟨b',h2,h⟩:=Tr.bind_some h
   rw[← Tr.ab h,← fo hf _ _ h1,← fo hf _ _ h2];rfl
 · rename_i n1 n2 n3
   have:=hf _ _ h
   rw[← this]
   unfold nC
   split
   · exact absurd rfl (n1 _)
   · exact absurd rfl (n2 _)
   · exact absurd rfl (n3 _ _ _)
   · rfl
def FA (f:AV→Tr AV):aj→Tr aj
 | .row r=>match r with
   | .G l=>(oo (zA f) l).bind fun m=>.ok (.row (.G m))
   | .M l=>(mM (zA f) l).bind fun m=>.ok (.row (.M m))
   | r=>.ok (.row r)
 | b=>.ok b
theorem FB {f:AV→Tr AV} {g:AV→AV} (hf:∀ v u,(f v).run=some u→g v=u) (b u:aj) (h:(FA f b).run=some u):qO g b=u:=by
 cases b with
 | row r =>
   simp only[FA] at h
   cases r with
   | G l =>
     obtain ⟨m,h1,h⟩:=Tr.bind_some h
     rw[← Tr.ab h,← fo (tN hf) _ _ h1];rfl
   | M l =>
     obtain ⟨m,h1,h⟩:=Tr.bind_some h
     rw[← Tr.ab h,← ib (tN hf) _ _ h1];rfl
   | I k l=>rw[← Tr.ab h];rfl
   | F z n=>rw[← Tr.ab h];rfl
 | dead=>exact Tr.ab h
 | map es=>exact Tr.ab h
 | fmap kq f g c=>exact Tr.ab h
 | loop l=>exact Tr.ab h
def xC (f:AV→Tr AV):List (Nat×aj)→Tr (List (Nat×aj))
 | []=>.ok []
 | (v,b)::r=>(FA f b).bind fun b'=>(xC f r).bind fun r'=>.ok ((v,b')::r')
theorem wb {f:AV→Tr AV} {g:AV→AV} (hf:∀ v u,(f v).run=some u→g v=u):∀ (l m:List (Nat×aj)),(xC f l).run=some m→jJ g l=m
 | [],m,h=>Tr.ab h
 | (v,b)::r,m,h=>by
   simp only[xC] at h
   obtain ⟨b',h1,h⟩:=Tr.bind_some h
   obtain ⟨r',h2,h⟩:=Tr.bind_some h
   rw[← Tr.ab h,jJ,FB hf _ _ h1,wb hf r r' h2]
def Co (f:AV→Tr AV):aT→Tr aT
 | []=>.ok []
 | (x,(v,h))::r=>(zA f v).bind fun v'=>(Co f r).bind fun r'=>.ok ((x,(v',h))::r')
theorem zw {f:AV→Tr AV} {g:AV→AV} (hf:∀ v u,(f v).run=some u→g v=u):∀ (l m:aT),(Co f l).run=some m→qP g (strip l)=strip m
 | [],m,h=>by rw[← Tr.ab h];rfl
 | (x,(v,hh))::r,m,h=>by
   simp only[Co] at h
   obtain ⟨v',h1,h⟩:=Tr.bind_some h
   obtain ⟨r',h2,h⟩:=Tr.bind_some h
   rw[← Tr.ab h,dm,dm,qP,tN hf _ _ h1,zw hf r r' h2]
def tB (i:Nat) (fr:aT) (l:bx):Tr (aT×bx) :=
 match A4 l.bs i with
 | (ver,.row r)=>cond (xy r && (uP (fun x=>qm (p8 i) x.2) (strip fr) || uP (fun x=>KD (p8 i) x.2) l.bs)) ((Co (yX i ver r) fr).bind fun fr'=>(xC (yX i ver r) l.bs).bind fun bs'=>.ok (fr',{ l with bs:=bN bs' i (ver,.dead) })) (.ok (fr,l))
 | _=>.ok (fr,l)
theorem qF {i:Nat} {fr:aT} {l:bx} {y:aT×bx} (h:(tB i fr l).run=some y):mB i (strip fr) l=(strip y.1,y.2):=by
 unfold tB at h
 unfold mB
 rw[sr] at h
 split at h
 · rename_i ver r hb
   rw[hb]
   dsimp only
   rw[oV,oV] at h
   cases hc:(xy r && ((strip fr).any (fun x=>qm (p8 i) x.2) || l.bs.any (fun x=>KD (p8 i) x.2))) with
   | true =>
     rw[hc,cond_true] at h
     obtain ⟨fr',h1,h⟩:=Tr.bind_some h
     obtain ⟨bs',h2,h⟩:=Tr.bind_some h
     rw[if_pos rfl,zw yY _ _ h1,wb yY _ _ h2,← Tr.ab h]
   | false =>
     rw[hc,cond_false] at h
     rw[if_neg (by simp),← Tr.ab h]
 · rename_i hno
   have h:=Tr.ab h
   subst h
   split
   · rename_i ver r hb
     exact absurd hb (hno ver r)
   · rfl
def sj:Nat→aT→bx→Tr (aT×bx)
 | 0,fr,l=>.ok (fr,l)
 | n+1,fr,l=>(sj n fr l).bind fun y=>tB n y.1 y.2
theorem tz:∀ (n:Nat) (fr:aT) (l:bx) (y:aT×bx),(sj n fr l).run=some y→ja n (strip fr) l=(strip y.1,y.2)
 | 0,fr,l,y,h=>by rw[← Tr.ab h];rfl
 | n+1,fr,l,y,h=>by
   simp only[sj] at h
   obtain ⟨z,h1,h⟩:=Tr.bind_some h
   have h1:=tz n fr l z h1
   simp only[ja]
   rw[h1]
   exact qF h
def pG:Nat→aT→bx→Tr (aT×bx)
 | 0,fr,l=>.ok (fr,l)
 | n+1,fr,l=>(pG n fr l).bind fun y=>cond (uP (fun x=>qm (p8 n) x.2) (strip y.1)) (.ok y) (tB n y.1 y.2)
theorem rD:∀ (n:Nat) (fr:aT) (l:bx) (y:aT×bx),(pG n fr l).run=some y→eO n (strip fr) l=(strip y.1,y.2)
 | 0,fr,l,y,h=>by rw[← Tr.ab h];rfl
 | n + 1,fr,l,y,h=>by
   simp only[pG] at h
   obtain ⟨z,h1,h⟩:=Tr.bind_some h
   have h1:=rD n fr l z h1
   simp only[eO]
   rw[h1]
   dsimp only
   rw[oV] at h
   cases hc:(strip z.1).any (fun x=>qm (p8 n) x.2) with
   | true =>
     rw[hc,cond_true] at h
     rw[if_pos rfl,Tr.ab h]
   | false =>
     rw[hc,cond_false] at h
     rw[if_neg (by simp)]
     exact qF h
def Cl (s:Nat):aT→Option Nat
 | []=>none
 | (x,(v,_))::r=>cond (Nat.beq x s) (match v with
   | .slc 0 i _ _ _ _ _=>some i
   | _=>none) (Cl s r)
theorem zk (s:Nat):∀ fr:aT,Cl s fr=Ck s (strip fr)
 | []=>rfl
 | (x,(v,h))::r=>by
   rw[dm]
   simp only[Cl,Ck,zk s r]
   cases Nat.beq x s<;>rfl
def xx (s:Nat) (fr:aT) (H:aa):Tr (aT×aa) :=
 match H with
 | []=>.ok (fr,[])
 | l::r=>cond l.lock (.ok (fr,l::r)) (match Cl s fr with
   | some i=>(tB i fr l).bind fun y=>.ok (y.1,y.2::r)
   | none=>.ok (fr,l::r))
theorem AR {s:Nat} {fr:aT} {H:aa} {y:aT×aa} (h:(xx s fr H).run=some y):xw s (strip fr) H=(strip y.1,y.2):=by
 unfold xx at h
 unfold xw
 cases H with
 | nil=>rw[← Tr.ab h]
 | cons l r =>
   dsimp only at h ⊢
   cases hl:l.lock with
   | true =>
     rw[hl,cond_true] at h
     rw[if_pos rfl,← Tr.ab h]
   | false =>
     rw[hl,cond_false,zk] at h
     rw[if_neg (by simp)]
     split at h
     · rename_i i hi
       obtain ⟨z,h1,h⟩:=Tr.bind_some h
       have h1:=qF h1
       rw[hi]
       dsimp only
       rw[h1,← Tr.ab h]
     · rename_i hi
       rw[hi,← Tr.ab h]
def AQ (m:Nat) (fr:aT) (H:aa):Tr (aT×aa) :=
 cond (ou m 4000) (match H with
  | []=>.ok (gM fr m,[])
  | l::r=>cond l.lock (.ok (gM fr m,l::r)) ((sj (iG l.bs) (gM fr m) l).bind fun y=>.ok (y.1,cond (Nat.beq (Nat.shiftRight m 4003) 0) (y.2::r) (FK (Nat.shiftRight m 4003) (y.2::r))))) (cond (ou m 4001) (xx (Nat.shiftRight m 4003) (gM fr m) H) (cond (ou m 4002) (wK (gM fr m) (Nat.shiftRight m 4003) (fun fr=>.ok (fr,H)) (fun fr=>match H with
  | []=>.ok (fr,[])
  | l::r=>cond l.lock (.ok (fr,l::r)) ((pG (iG l.bs) fr l).bind fun y=>.ok (y.1,y.2::r)))) (.ok (gM fr m,H))))
theorem DF {m:Nat} {fr:aT} {H:aa} {y:aT×aa} (h:(AQ m fr H).run=some y):mC m (strip fr) H=(strip y.1,y.2):=by
 unfold AQ at h
 unfold mC
 cases hm:ou m 4000 with
 | false =>
   rw[hm,cond_false] at h
   rw[if_neg (by simp)]
   cases hm2:ou m 4001 with
   | false =>
     rw[hm2,cond_false] at h
     rw[if_neg (by simp)]
     cases hm3:ou m 4002 with
     | false =>
       rw[hm3,cond_false] at h
       rw[if_neg (by simp),← Tr.ab h,fg]
     | true =>
       rw[hm3,cond_true] at h
       rw[if_pos rfl]
       obtain ⟨b,fr',h1,h2,h3⟩:=lI h
       rw[fg] at h1 h2
       rw[h1]
       cases b with
       | true =>
         simp only[if_true] at h3
         rw[← Tr.ab h3,h2]
       | false =>
         simp only[Bool.false_eq_true,if_false] at h3
         cases H with
         | nil =>
           dsimp only at h3
           rw[← Tr.ab h3,← h2];rfl
         | cons l r =>
           dsimp only at h3
           show ve (bV (strip fr) m) (l::r)=_
           rw[← h2]
           unfold ve
           dsimp only
           cases hl:l.lock with
           | true =>
             rw[hl,cond_true] at h3
             rw[if_pos rfl,← Tr.ab h3]
           | false =>
             rw[hl,cond_false] at h3
             obtain ⟨z,h4,h5⟩:=Tr.bind_some h3
             have h4:=rD _ _ _ _ h4
             rw[dx] at h4
             rw[if_neg (by simp),h4,← Tr.ab h5]
   | true =>
     rw[hm2,cond_true] at h
     rw[if_pos rfl]
     have h1:=AR h
     rw[fg] at h1
     exact h1
 | true =>
   rw[hm,cond_true] at h
   rw[if_pos rfl]
   cases H with
   | nil =>
     rw[← Tr.ab h,fg]
     simp only[DE,FK,ite_self]
   | cons l r =>
     dsimp only at h
     unfold DE
     dsimp only
     cases hl:l.lock with
     | true =>
       rw[hl,cond_true] at h
       simp only[if_true]
       rw[← Tr.ab h,fg]
       simp only[FK,hl,if_true,ite_self]
     | false =>
       rw[hl,cond_false] at h
       obtain ⟨z,h1,h⟩:=Tr.bind_some h
       have h1:=tz _ _ _ _ h1
       rw[dx,fg] at h1
       simp only[Bool.false_eq_true,if_false,h1]
       rw[← Tr.ab h]
       cases Nat.beq (Nat.shiftRight m 4003) 0<;>rfl
def aK (cx:Cx) (callR:bJ) (bl:gH) (rg:r7):Code→aT→aa→Tr dG
 | .skip,fr,H=>.ok (.normal,fr,H)
 | .label _,fr,H=>.ok (.normal,fr,H)
 | .exit id,fr,H=>.ok (.exit id,fr,H)
 | .goto l,fr,H=>.ok (.goto l,fr,H)
 | .ret,fr,H=>.ok (.ret,fr,H)
 | .region id ops draw,fr,H =>
   (cond draw (cond (ft ops (Region.before ops)) (pf cx.P cx.nt cx.call callR ops (Region.before ops) ops.toList 0 fr (kD H (cM ops.toList)) (fP H) []) .bad) (iL cx.P cx.nt cx.call callR ops ops.toList fr H)).bind fun x=>(AQ (cx.kt id) x.1 x.2).bind fun y=>.ok (.normal,y.1,y.2)
 | .seq a b,fr,H=>(aK cx callR bl rg a fr H).bind fun x=>match x with
   | (.normal,fr,H)=>aK cx callR bl rg b fr H
   | r=>.ok r
 | .cond c a b,fr,H=>match c with
   | .tmp d=>wK fr d (fun fr=>aK cx callR bl rg a fr H) (fun fr=>aK cx callR bl rg b fr H)
   | c=>match (cw fr c).1 with
     | .bool t=>cond t (aK cx callR bl rg a fr H) (aK cx callR bl rg b fr H)
     | _=>.bad
 | .block id b,fr,H=>match bl id fr H with
   | some t=>t
   | none=>(aK cx callR bl rg b fr H).bind fun x=>match x with
     | (.exit id',fr,H)=>cond (Nat.beq id' id) (.ok (.normal,fr,H)) (.ok (.exit id',fr,H))
     | r=>.ok r
 | .scope b,fr,H=>(aK cx callR bl rg b fr H).bind fun x=>match x with
   | (.goto _,_,_)=>.bad
   | r=>.ok r
 | .rangeFunc f _ _ _,fr,H=>match rg f fr H with
   | some t=>t
   | none=>.bad
 | .loop b,fr,H=>cond (Nat.ble 12 cx.fu) (Ch (aK cx callR bl rg b) (fP H) 12 fr H) .bad
 | .refuse _,_,_=>.bad

theorem mn {cx:Cx} {callR:bJ} {bl:gH} {rg:r7} (hC:callR.Ok cx.call):∀ (c:Code),bl.Ok cx c→rg.Ok cx c→∀ (fr:aT) (H:aa) (x:dG),(aK cx callR bl rg c fr H).run=some x→exec cx c (strip fr) H=some x.st:=by
 intro c
 induction c with
 | skip=>intro _ _ fr H x h;rw[← Tr.ab h];rfl
 | label=>intro _ _ fr H x h;rw[← Tr.ab h];rfl
 | exit=>intro _ _ fr H x h;rw[← Tr.ab h];rfl
 | goto=>intro _ _ fr H x h;rw[← Tr.ab h];rfl
 | ret=>intro _ _ fr H x h;rw[← Tr.ab h];rfl
 | refuse=>intro _ _ fr H x h;exact (Tr.ae h).elim
 | loop b ih =>
   intro hb hr fr H x h
   simp only[aK] at h
   obtain ⟨hk,h⟩:=Tr.aW h
   rw[Nat.ble_eq] at hk
   unfold exec
   rw[gN] at h
   exact vX _ _ _ _ _ (za (fun fr H x h=>ih hb hr fr H x h) 12 fr H x h) hk
 | rangeFunc f ps a b =>
   intro _ hr fr H x h
   simp only[aK] at h
   split at h
   · rename_i t ht
     exact hr f ps a b (by simp[dO]) fr H t x ht h
   · exact (Tr.ae h).elim
 | region id ops draw =>
   intro _ _ fr H x h
   simp only[aK] at h
   obtain ⟨y,h1,h⟩:=Tr.bind_some h
   obtain ⟨z,h2,h⟩:=Tr.bind_some h
   have h2:=DF h2
   rw[← Tr.ab h]
   unfold exec
   cases draw with
   | true =>
     rw[cond_true] at h1
     obtain ⟨hs,h1⟩:=Tr.aW h1
     rw[gN] at h1
     simp only[if_true,hs]
     rw[rk hC _ _ _ _ _ _ _ h1]
     dsimp only
     rw[h2]
     rfl
   | false =>
     rw[cond_false] at h1
     simp only[Bool.false_eq_true,if_false]
     rw[fR hC _ _ _ _ h1]
     dsimp only
     rw[h2]
     rfl
 | seq a b iha ihb =>
   intro hb hr fr H x h
   have hba:bl.Ok cx a:=fun id b' hm=>hb id b' (List.mem_append_left _ hm)
   have hbb:bl.Ok cx b:=fun id b' hm=>hb id b' (List.mem_append_right _ hm)
   have hra:rg.Ok cx a:=fun f ps u v hm=>hr f ps u v (List.mem_append_left _ hm)
   have hrb:rg.Ok cx b:=fun f ps u v hm=>hr f ps u v (List.mem_append_right _ hm)
   simp only[aK] at h
   obtain ⟨y,h1,h⟩:=Tr.bind_some h
   have h1:=iha hba hra _ _ _ h1
   unfold exec
   rw[h1]
   obtain ⟨e,fr1,H1⟩:=y
   cases e
   case normal=>exact ihb hbb hrb _ _ _ h
   all_goals
    have h:=Tr.ab h
    rw[← h];rfl
 | cond c a b iha ihb =>
   intro hb hr fr H x h
   have hba:bl.Ok cx a:=fun id b' hm=>hb id b' (List.mem_append_left _ hm)
   have hbb:bl.Ok cx b:=fun id b' hm=>hb id b' (List.mem_append_right _ hm)
   have hra:rg.Ok cx a:=fun f ps u v hm=>hr f ps u v (List.mem_append_left _ hm)
   have hrb:rg.Ok cx b:=fun f ps u v hm=>hr f ps u v (List.mem_append_right _ hm)
   simp only[aK] at h
   unfold exec
   split at h
   · rename_i d
     obtain ⟨b',fr',h1,h2,h3⟩:=lI h
     have e:bO (strip fr) (.tmp d)=.bool b':=h1
     rw[e,← h2]
     cases b' with
     | true=>exact iha hba hra _ _ _ h3
     | false=>exact ihb hbb hrb _ _ _ h3
   · rename_i c' hne
     rw[aZ] at h
     split at h
     · rename_i t hc
       rw[hc]
       cases t with
       | true=>exact iha hba hra _ _ _ h
       | false=>exact ihb hbb hrb _ _ _ h
     · exact (Tr.ae h).elim
 | block id b ih =>
   intro hb hr fr H x h
   have hbb:bl.Ok cx b:=fun id' b' hm=>hb id' b' (by simp only[aV];exact List.mem_cons_of_mem _ hm)
   simp only[aK] at h
   split at h
   · rename_i t ht
     exact hb id b (by simp[aV]) _ _ _ _ ht h
   · obtain ⟨y,h1,h⟩:=Tr.bind_some h
     have h1:=ih hbb hr _ _ _ h1
     unfold exec
     rw[h1]
     obtain ⟨e,fr1,H1⟩:=y
     cases e
     case exit id' =>
      dsimp only[dG.st] at h ⊢
      rw[gk] at h
      split at h
      · rename_i yT
        rw[if_pos yT,← Tr.ab h]
      · rename_i yT
        rw[if_neg yT,← Tr.ab h]
     all_goals
      have h:=Tr.ab h
      rw[← h];rfl
 | scope b ih =>
   intro hb hr fr H x h
   simp only[aK] at h
   obtain ⟨y,h1,h⟩:=Tr.bind_some h
   have h1:=ih hb hr _ _ _ h1
   unfold exec
   rw[h1]
   obtain ⟨e,fr1,H1⟩:=y
   cases e
   case goto=>exact (Tr.ae h).elim
   all_goals
    have h:=Tr.ab h
    rw[← h];rfl

end
end Go.Eng
end
section
namespace Go.Eng
noncomputable section

def nz   (bs:List (Nat×aj)):Nat→AV→Tr AV
 | 0,_=>.ok .undef
 | n + 1,v=>match v with
   | .ptr d i ver off=>match d with
     | d+1=>.ok (.ptr d i ver off)
     | 0 => match A4 bs i with
       | (w,.row r)=>cond (Nat.beq w ver) (match r with
         | .I k l=>.ok (.ptrT none (.I k l) off)
         | .F f m=>.ok (.ptrT none (.F f m) off)
         | .M l=>cond (gb l) (.ok (.ptrT none (.M l) off)) ((mM (nz bs n) l).bind fun m=>.ok (.ptrT (some 0) (.M m) off))
         | .G l=>(oo (nz bs n) l).bind fun m=>.ok (.ptrT (some 0) (.G m) off)) .bad
       | _=>.bad
   | .slc d i ver off sz len cap=>match d with
     | d+1=>.ok (.slc d i ver off sz len cap)
     | 0 => match A4 bs i with
       | (w,.row r)=>.req (dS w ver) (match r with
         | .M [.arr k z N]=>.req (rF off (jg len sz) 0 N) (.ok (.slcT none (.M [.arr k (nQ z off) (jg len sz)]) sz len (ri cap len)))
         | .I k l=>cond (uZ (.I k l) off (Nat.mul len sz)) (.ok (.slcT none (.I k (iD (lQ l off) (Nat.mul len sz))) sz len (ri cap len))) .bad
         | .F f N=>.req (rF off (jg len sz) 0 N) (.ok (.slcT none (.F (fun j=>f (ak off j)) (jg len sz)) sz len (ri cap len)))
         | .G l=>cond (uZ (.G l) off (Nat.mul len sz)) ((oo (nz bs n) (iD (lQ l off) (Nat.mul len sz))).bind fun m=>.ok (.slcT (some 0) (.G m) sz len (ri cap len))) .bad
         | _=>.bad)
       | _=>.bad
   | .ptrT s r off=>match s with
     | none=>.ok (.ptrT none r off)
     | some (s+1)=>.ok (.ptrT (some s) r off)
     | some 0=>match r with
       | .G l=>(oo (nz bs n) l).bind fun m=>.ok (.ptrT (some 0) (.G m) off)
       | .M l=>cond (gb l) (.ok (.ptrT none (.M l) off)) ((mM (nz bs n) l).bind fun m=>.ok (.ptrT (some 0) (.M m) off))
       | r=>.ok (.ptrT none r off)
   | .slcT s r sz len full=>match s with
     | none=>.ok (.slcT none r sz len full)
     | some (s+1)=>.ok (.slcT (some s) r sz len full)
     | some 0=>match r with
       | .G l=>(oo (nz bs n) l).bind fun m=>.ok (.slcT (some 0) (.G m) sz len full)
       | .M l=>cond (gb l) (.ok (.slcT none (.M l) sz len full)) ((mM (nz bs n) l).bind fun m=>.ok (.slcT (some 0) (.M m) sz len full))
       | r=>.ok (.slcT none r sz len full)
   | .map d i=>match d with
     | d+1=>.ok (.map d i)
     | 0=>.ok .undef
   | .yld d i=>match d with
     | d+1=>.ok (.yld d i)
     | 0=>.ok .undef
   | .fn f a b=>(oo (nz bs n) a).bind fun a'=>(oo (nz bs n) b).bind fun b'=>.ok (.fn f a' b')
   | .agg r=>match r with
     | .G l=>(oo (nz bs n) l).bind fun m=>.ok (.agg (.G m))
     | .M l=>(mM (nz bs n) l).bind fun m=>.ok (.agg (.M m))
     | r=>.ok (.agg r)
   | .tup l=>(oo (nz bs n) l).bind fun m=>.ok (.tup m)
   | v=>.ok v
theorem B5 (bs:List (Nat×aj)):∀ (n:Nat) (v u:AV),(nz bs n v).run=some u→cX bs n v=u
 | 0,v,u,h=>Tr.ab h
 | n + 1,v,  u,h=>by
   have ih:=B5 bs n
   simp only[nz,sr] at h
   cases v with
   | ptr d i ver off =>
     cases d with
     | succ d=>exact Tr.ab h
     | zero =>
       dsimp only at h
       simp only[cX]
       split at h
       · rename_i w r hg
         obtain ⟨hw,h⟩:=Tr.aW h
         rw[hg]
         dsimp only
         rw[if_pos hw]
         cases r with
         | I k l=>exact Tr.ab h
         | F f m=>exact Tr.ab h
         | G l =>
           obtain ⟨m,h1,h⟩:=Tr.bind_some h
           rw[← Tr.ab h,← fo ih _ _ h1]
         | M l =>
           dsimp only at h ⊢
           cases ha:gb l with
           | true=>rw[ha,cond_true] at h;rw[if_pos rfl];exact Tr.ab h
           | false =>
             rw[ha,cond_false] at h
             obtain ⟨m,h1,h⟩:=Tr.bind_some h
             rw[if_neg (by simp),← Tr.ab h,← ib ih _ _ h1]
       · exact (Tr.ae h).elim
   | slc d i ver off sz len cap =>
     cases d with
     | succ d=>exact Tr.ab h
     | zero =>
       dsimp only at h
       simp only[cX]
       split at h
       · rename_i w r hg
         obtain ⟨hw,h'⟩:=Tr.aR h
         clear h
         rw[gK,decide_eq_true_eq] at hw
         subst hw
         rw[hg]
         dsimp only
         split at h'
         · rename_i k z N
           have h:=h'
           obtain ⟨hc,h⟩:=Tr.aR h
           rw[jV,decide_eq_true_eq,cu] at hc
           rw[if_pos ⟨by simp,by simp only[Row.len,aD,aN];omega⟩,← Tr.ab h,ko,cu,jq]
           simp only[Row.sub,gb,if_true]
         · have h:=h'
           obtain ⟨hc,h⟩:=Tr.aW h
           rw[lh,decide_eq_true_eq] at hc
           rw[if_pos ⟨by simp,hc⟩,← Tr.ab h,ko,gz,hY]
           rfl
         · have h:=h'
           obtain ⟨hc,h⟩:=Tr.aR h
           rw[jV,decide_eq_true_eq,cu] at hc
           rw[if_pos ⟨by simp,by simp only[Row.len];omega⟩,← Tr.ab h,ko,cu]
           simp only[Row.sub,a7]
         · have h:=h'
           obtain ⟨hc,h⟩:=Tr.aW h
           rw[lh,decide_eq_true_eq] at hc
           obtain ⟨m,h1,h⟩:=Tr.bind_some h
           rw[gz,hY] at h1
           rw[if_pos ⟨by simp,hc⟩,← Tr.ab h,ko,← fo ih _ _ h1]
           rfl
         · exact (Tr.ae h').elim
       · exact (Tr.ae h).elim
   | ptrT s r off =>
     cases s with
     | none=>exact Tr.ab h
     | some s =>
       cases s with
       | succ s=>exact Tr.ab h
       | zero =>
         simp only[cX]
         cases r with
         | I k l=>exact Tr.ab h
         | F f m=>exact Tr.ab h
         | G l =>
           obtain ⟨m,h1,h⟩:=Tr.bind_some h
           rw[← Tr.ab h,← fo ih _ _ h1]
         | M l =>
           dsimp only at h ⊢
           cases ha:gb l with
           | true=>rw[ha,cond_true] at h;rw[if_pos rfl];exact Tr.ab h
           | false =>
             rw[ha,cond_false] at h
             obtain ⟨m,h1,h⟩:=Tr.bind_some h
             rw[if_neg (by simp),← Tr.ab h,← ib ih _ _ h1]
   | slcT s r sz len full =>
     cases s with
     | none=>exact Tr.ab h
     | some s =>
       cases s with
       | succ s=>exact Tr.ab h
       | zero =>
         simp only[cX]
         cases r with
         | I k l=>exact Tr.ab h
         | F f m=>exact Tr.ab h
         | G l =>
           obtain ⟨m,h1,h⟩:=Tr.bind_some h
           rw[← Tr.ab h,← fo ih _ _ h1]
         | M l =>
           dsimp only at h ⊢
           cases ha:gb l with
           | true=>rw[ha,cond_true] at h;rw[if_pos rfl];exact Tr.ab h
           | false =>
             rw[ha,cond_false] at h
             obtain ⟨m,h1,h⟩:=Tr.bind_some h
             rw[if_neg (by simp),← Tr.ab h,← ib ih _ _ h1]
   | map d i=>cases d<;>exact Tr.ab h
   | yld d i=>cases d<;>exact Tr.ab h
   | fn f a b =>
     obtain ⟨a',h1,h⟩:=Tr.bind_some h
     obtain ⟨b',h2,h⟩:=Tr.bind_some h
     simp only[cX]
     rw[← Tr.ab h,← fo ih _ _ h1,← fo ih _ _ h2]
   | agg r =>
     simp only[cX]
     cases r with
     | I k l=>exact Tr.ab h
     | F f m=>exact Tr.ab h
     | G l =>
       obtain ⟨m,h1,h⟩:=Tr.bind_some h
       rw[← Tr.ab h,← fo ih _ _ h1]
     | M l =>
       obtain ⟨m,h1,h⟩:=Tr.bind_some h
       rw[← Tr.ab h,← ib ih _ _ h1]
   | tup l =>
     obtain ⟨m,h1,h⟩:=Tr.bind_some h
     simp only[cX]
     rw[← Tr.ab h,← fo ih _ _ h1]
   | _=>exact Tr.ab h

def GM (l:List HV):Nat→aT:=List.rec (motive:=fun _=>Nat→aT) (fun _=>[]) (fun v _ ih x=>(x,(gC 1 v.1,v.2))::ih (Nat.succ x)) l
theorem BH:∀ (l:List HV) (x:Nat),strip (GM l x)=dX x (r8 l)
 | [],x=>rfl
 | v::l,x=>by
   have e:GM (v::l) x=(x,(gC 1 v.1,v.2))::GM l (x+1):=rfl
   rw[e,dm,BH l];rfl
def hints (f:av):aT:=List.rec (motive:=fun _=>aT) [] (fun p _ ih=>(p.1,(p.2,none))::ih) f
theorem aF:∀ f:av,strip (hints f)=f
 | []=>rfl
 | (x,v)::r=>by
   have e:hints ((x,v)::r)=(x,(v,none))::hints r:=rfl
   rw[e,dm,aF r]
def Bg (P:Program) (fr:aT) (H:aa):List ResultVar→Tr (List AV)
 | []=>.ok []
 | .tmp t::r=>(Bg P fr H r).bind fun l=>.ok ((lU fr t).1::l)
 | .cell a t::r=>(loadT P H t (cw fr (.tmp a))).bind fun v=>(Bg P fr H r).bind fun l=>.ok (v::l)
theorem xO {P:Program} {fr:aT} {H:aa}:∀ (l:List ResultVar) (vs:List AV),(Bg P fr H l).run=some vs→eS P (strip fr) H l=some vs
 | [],vs,h=>by rw[← Tr.ab h];rfl
 | .tmp t::r,vs,h=>by
   simp only[Bg] at h
   obtain ⟨l,h1,h⟩:=Tr.bind_some h
   simp only[eS]
   rw[xO r l h1,← Tr.ab h,fB];rfl
 | .cell a t::r,vs,h=>by
   simp only[Bg] at h
   obtain ⟨v,h0,h⟩:=Tr.bind_some h
   obtain ⟨l,h1,h⟩:=Tr.bind_some h
   have h0:=zm h0
   rw[aZ] at h0
   simp only[eS]
   have e:bO (strip fr) (.tmp a)=bw (strip fr) a:=rfl
   rw[e] at h0
   rw[h0]
   dsimp only
   rw[xO r l h1,← Tr.ab h];rfl
def IW (fr:aT) (rs:List ResultVar):Option Nat :=
 match rs with
 | [.tmp t]=>(lU fr t).2
 | _=>none
def Kw (P:Program) (rs:List ResultVar) (x:dG):Tr (HV×aa) :=
 match x with
 | (e,fr,l::H)=>match e with
   | .normal | .ret=>(Bg P fr (l::H) rs).bind fun vs=>(nz l.bs 5 (one vs)).bind fun v=>.ok ((v,IW fr rs),H)
   | _=>.bad
 | _=>.bad
theorem H6 {P:Program} {rs:List ResultVar} {x:dG} {y:HV×aa} (h:(Kw P rs x).run=some y):∃ l vs,x.2.2=l::y.2∧(x.1=.normal∨x.1=.ret)∧eS P (strip x.2.1) x.2.2 rs=some vs∧cX l.bs 5 (one vs)=y.1.1:=by
 unfold Kw at h
 split at h
 · rename_i e fr l H
   have key:((Bg P fr (l::H) rs).bind fun vs=>(nz l.bs 5 (one vs)).bind fun v=>Tr.ok (((v,IW fr rs),H):HV×aa)).run=some y→∃ vs,l::H=l::y.2∧eS P (strip fr) (l::H) rs=some vs∧cX l.bs 5 (one vs)=y.1.1:=by
    intro h
    obtain ⟨vs,h1,h⟩:=Tr.bind_some h
    obtain ⟨v,h2,h⟩:=Tr.bind_some h
    have h:=Tr.ab h
    refine ⟨vs,by rw[← h],xO _ _ h1,?_⟩
    rw[B5 _ _ _ _ h2,← h]
   split at h
   · obtain ⟨vs,h1,h2,h3⟩:=key h;exact ⟨l,vs,h1,.inl rfl,h2,h3⟩
   · obtain ⟨vs,h1,h2,h3⟩:=key h;exact ⟨l,vs,h1,.inr rfl,h2,h3⟩
   · exact (Tr.ae h).elim
 · exact (Tr.ae h).elim
def bt (P:Program) (call:aU) (fu:Nat) (f:FuncId) (fn:Func) (kt:Nat→Nat) (callR:bJ) (bl:gH) (rg:r7) (args:List HV) (H:aa):Tr (HV×aa) :=
 (aK ⟨P,call,fu,f,fn.ntmps,kt,none⟩ callR bl rg (bM fn) (GM args 0) (⟨false,[]⟩::H)).bind fun x=>Kw P fn.results.toList x
theorem yp {P:Program} {ora:aU→FuncId→List AV→aa→Option (AV×aa)} {KT:FuncId→Nat→Nat} {fu n:Nat} {f:FuncId} {fn:Func} (hf:P.funcs[f]?=some fn) (hb:fn.body.isSome=true) {args:List HV} {H:aa} (ho:ora (cS P ora KT fu n) f (r8 args) H=none) (hle:Nat.ble args.length fn.ntmps=true)
 {callR:bJ} (hC:callR.Ok (cS P ora KT fu n)) {bl:gH} (hB:bl.Ok ⟨P,cS P ora KT fu n,fu,f,fn.ntmps,KT f,none⟩ (bM fn)) {rg:r7} (hR:rg.Ok ⟨P,cS P ora KT fu n,fu,f,fn.ntmps,KT f,none⟩ (bM fn)) {y:HV×aa}
 (h:(bt P (cS P ora KT fu n) fu f fn (KT f) callR bl rg args H).run=some y):cS P ora KT fu (n+1) (.fn f) (r8 args) H=some (y.1.1,y.2):=by
 unfold bt at h
 obtain ⟨x,h1,h⟩:=Tr.bind_some h
 have h1:=mn hC _ hB hR _ _ _ h1
 rw[BH] at h1
 obtain ⟨l,vs,k1,k2,k3,k4⟩:=H6 h
 obtain ⟨c,hc⟩:=Option.isSome_iff_exists.1 hb
 have hbody:bM fn=c:=by unfold bM;rw[hc]
 rw[hbody] at h1
 obtain ⟨e,fr,H1⟩:=x
 dsimp only[dG.st] at h1 k1 k2 k3
 rw[k1] at h1 k3
 have hl:(r8 args).length=args.length:=by unfold r8;rw[jK,List.length_map]
 simp only[cS,ho,hf,hc,hl,hle,if_true,h1]
 rcases k2 with rfl | rfl<;>simp only[k3]<;>rw[k4]

theorem lR {cx:Cx} {id:Nat} {b:Code} {fr fr1:av} {H H1:aa} (h:iter (exec cx b) (ar H) cx.fu fr H=some (.exit id,fr1,H1)):exec cx (.block id (.loop b)) fr H=some (.normal,fr1,H1):=by
 unfold exec
 have:exec cx (.loop b) fr H=some (.exit id,fr1,H1):=by unfold exec;exact h
 rw[this]
 dsimp only
 rw[if_pos (by simp)]
theorem eL {cx:Cx} {id:Nat} {b:Code} {fr fr1:av} {H H1:aa} {e:Ex} (he:∀ id',e=.exit id'→Nat.beq id' id=false) (h:iter (exec cx b) (ar H) cx.fu fr H=some (e,fr1,H1)):exec cx (.block id (.loop b)) fr H=some (e,fr1,H1):=by
 unfold exec
 have:exec cx (.loop b) fr H=some (e,fr1,H1):=by unfold exec;exact h
 rw[this]
 cases e with
 | exit id'=>dsimp only;rw[if_neg (by rw[he id' rfl];simp)]
 | _=>rfl
def fN (p:Nat→Bool):Nat→Nat→Nat
 | 0,j=>j
 | k+1,j=>if p j then j else fN p k (j+1)
theorem m9 (p:Nat→Bool):∀ (k j:Nat),j≤fN p k j∧fN p k j≤j+k∧(∀ i,j≤i→i<fN p k j→p i=false)∧(fN p k j<j+k→p (fN p k j)=true)
 | 0,j=>⟨Nat.le_refl _,Nat.le_refl _,fun i h1 h2=>absurd h2 (by simp only[fN];omega),fun h=>absurd h (by simp only[fN];omega)⟩
 | k + 1,j=>by
   simp only[fN]
   by_cases h:p j=true
   · rw[if_pos h]
     exact ⟨Nat.le_refl _,by omega,fun i h1 h2=>by omega,fun _=>h⟩
   · rw[if_neg h]
     obtain ⟨h1,h2,h3,h4⟩:=m9 p k (j+1)
     refine ⟨by omega,by omega,fun i k1 k2=>?_,fun k1=>h4 (by omega)⟩
     by_cases e:i=j
     · subst e;simpa using h
     · exact h3 i (by omega) k2
theorem ng {body:av→aa→Option (Ex×av×aa)} {n:Nat} (F:Nat→av) (G:Nat→aa) (N:Nat) (p:Nat→Bool) (X:Nat→Ex×av×aa)
 (hs:∀ j,j<N→p j=false→∃ f g,body (F j) (G j)=some (.normal,f,g)∧tidy n f g=(F (j+1),G (j+1)))
 (hh:∀ j,j<N→p j=true→body (F j) (G j)=some (X j)∧(X j).1≠.normal) (he:body (F N) (G N)=some (X N)∧(X N).1≠.normal) :
 ∀ (k j fu:Nat),j+k=N→k<fu→iter body n fu (F j) (G j)=some (X (fN p k j))
 | 0,j,0,_,h=>by omega
 | 0,j,fu+1,hj,_=>by
   have:j=N:=by omega
   subst this
   unfold iter
   rw[he.1]
   obtain ⟨x,hx⟩:∃ x,x=X j:=⟨_,rfl⟩
   have hn:=he.2
   simp only[fN]
   rw[← hx] at hn ⊢
   obtain ⟨e,f,g⟩:=x
   cases e<;>first | exact absurd rfl hn | rfl
 | k+1,j,0,_,h=>by omega
 | k + 1,j,fu+1,hj,hf=>by
   unfold iter
   cases hp:p j with
   | true =>
     obtain ⟨h1,h2⟩:=hh j (by omega) hp
     rw[h1]
     simp only[fN]
     rw[if_pos hp]
     obtain ⟨x,hx⟩:∃ x,x=X j:=⟨_,rfl⟩
     rw[← hx] at h2 ⊢
     obtain ⟨e,f,g⟩:=x
     cases e<;>first | exact absurd rfl h2 | rfl
   | false =>
     obtain ⟨f,g,h1,h2⟩:=hs j (by omega) hp
     rw[h1]
     dsimp only
     rw[h2]
     simp only[fN]
     rw[if_neg (by rw[hp];simp)]
     exact ng F G N p X hs hh he k (j+1) fu (by omega) (by omega)
end
end Go.Eng
end
