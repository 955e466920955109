/- The engine as a tree: regions, code, calls. -/
import Derived.Test.YtoomemfhcbajoaaV6EngTe
set_option linter.unusedVariables false
set_option linter.unusedSimpArgs false
section
namespace Go.Eng
noncomputable section

def v8 (f:aN) (y:Nat) (b:Bool):aN:=List.rec (motive:=fun _=>aN) [] (fun p r ih=>Bool.rec (motive:=fun _=>aN) (p::ih) ((p.1,(.bool b,some 1))::r) (Nat.beq p.1 y)) f
theorem tz:∀ (f:aN) (y:Nat) (b:Bool),bt (strip f) y=.bool b→strip (v8 f y b)=strip f
 | [],y,b,_=>rfl
 | (x,v)::r,y,b,h=>by
   have e:v8 ((x,v)::r) y b=Bool.rec (motive:=fun _=>aN) ((x,v)::v8 r y b) ((x,(.bool b,some 1))::r) (Nat.beq x y):=rfl
   rw[dc,bt] at h
   rw[e]
   cases hb:Nat.beq x y with
   | true =>
     rw[hb] at h
     have h:v.1=.bool b:=h
     show (x,AV.bool b)::strip r=(x,v.1)::strip r
     rw[h]
   | false =>
     rw[hb] at h
     show (x,v.1)::strip (v8 r y b)=(x,v.1)::strip r
     rw[tz r y b h]
def wB {α:Type} (fr:aN) (d:Nat) (t e:aN→Tr α):Tr α :=
 match lU fr d with
 | (.bool b,none)=>.ite b (t (v8 fr d true)) (e (v8 fr d false))
 | (.bool b,some _)=>cond b (t fr) (e fr)
 | _=>.bad
theorem lL {α:Type} {fr:aN} {d:Nat} {t e:aN→Tr α} {x:α} (h:(wB fr d t e).run=some x):∃ b fr',bt (strip fr) d=.bool b∧strip fr'=strip fr∧(if b then t fr' else e fr').run=some x:=by
 unfold wB at h
 split at h
 · rename_i b hg
   have hg':bt (strip fr) d=.bool b:=by rw[← fD,hg]
   rcases Tr.eY h with ⟨rfl,h⟩ | ⟨rfl,h⟩
   · exact ⟨true,_,hg',tz _ _ _ hg',h⟩
   · exact ⟨false,_,hg',tz _ _ _ hg',h⟩
 · rename_i b n hg
   have hg':bt (strip fr) d=.bool b:=by rw[← fD,hg]
   refine ⟨b,fr,hg',rfl,?_⟩
   cases b<;>exact h
 · exact (Tr.ae h).elim
def Dp (ops:Array Oper) (fr:aN) (o:Oper):Tr (Bool×aN) :=
 match o.guard with
 | none=>.ok (true,fr)
 | some (j,want)=>match (ops[j]?).bind (·.dst) with
   | none=>.bad
   | some d=>match (lU fr d).1 with
     | .bool _=>cond want (wB fr d (fun fr=>.ok (true,fr)) (fun fr=>.ok (false,fr))) (wB fr d (fun fr=>.ok (false,fr)) (fun fr=>.ok (true,fr)))
     | .tup _=>.ok (false,fr)
     | _=>.bad
theorem AL {ops:Array Oper} {fr:aN} {o:Oper} {r:Bool×aN} (h:(Dp ops fr o).run=some r):iE ops (strip fr) o=(if r.1 then .run else .skip)∧strip r.2=strip fr:=by
 unfold Dp at h
 unfold iE
 cases hg:o.guard with
 | none =>
   rw[hg] at h
   rw[← Tr.ab h];exact ⟨rfl,rfl⟩
 | some jw =>
   obtain ⟨j,want⟩:=jw
   rw[hg] at h
   dsimp only at h ⊢
   cases hd:(ops[j]?).bind (·.dst) with
   | none=>rw[hd] at h;exact (Tr.ae h).elim
   | some d =>
     rw[hd] at h
     dsimp only at h ⊢
     have he:=fD fr d
     rw[he] at h
     cases hv:bt (strip fr) d<;>rw[hv] at h<;>try exact (Tr.ae h).elim
     case bool b =>
      dsimp only at h ⊢
      cases want with
      | true =>
        rw[cond_true] at h
        obtain ⟨b',fr',h1,h2,h3⟩:=lL h
        rw[hv] at h1
        cases h1
        cases b<;>(have h3:=Tr.ab h3;rw[← h3];exact ⟨rfl,h2⟩)
      | false =>
        rw[cond_false] at h
        obtain ⟨b',fr',h1,h2,h3⟩:=lL h
        rw[hv] at h1
        cases h1
        cases b<;>(have h3:=Tr.ab h3;rw[← h3];exact ⟨rfl,h2⟩)
     case tup l=>rw[← Tr.ab h];exact ⟨rfl,rfl⟩

def iX (P:Program) (nt:Nat) (call:aW) (callR:bJ) (ops:Array Oper):List Oper→aN→aa→Tr (aN×aa)
 | [],fr,H=>.ok (fr,H)
 | o::r,fr,H=>(Dp ops fr o).bind fun b=>cond b.1
   ((Ng o.op o P call callR b.2 H (fR H)).bind fun y=>iX P nt call callR ops r (rA nt b.2 o.dst y.1) (Ow y.2 H))
   (iX P nt call callR ops r (rA nt b.2 o.dst (.tup [],none)) H)
theorem fV {P:Program} {nt:Nat} {call:aW} {callR:bJ} (hC:callR.Ok call) {ops:Array Oper}:∀ (l:List Oper) (fr:aN) (H:aa) (x:aN×aa),(iX P nt call callR ops l fr H).run=some x→dI P nt call ops l (strip fr) H=some (strip x.1,x.2)
 | [],fr,H,x,h=>by rw[← Tr.ab h];rfl
 | o :: r,fr,H,x,h=>by
   simp only[iX] at h
   obtain ⟨b,h1,h⟩:=Tr.bind_some h
   unfold dI
   obtain ⟨hw,hs⟩:=AL h1
   rw[hw,← hs]
   obtain ⟨b,fr1⟩:=b
   dsimp only at h ⊢
   cases b with
   | false =>
     have:=fV hC r _ _ _ h
     rw[mK] at this
     exact this
   | true =>
     rw[cond_true] at h
     obtain ⟨y,h2,h⟩:=Tr.bind_some h
     have h2:=Bw hC h2
     rw[gZ] at h2
     have:=fV hC r _ _ _ h
     rw[mK,Gu] at this
     rw[if_pos rfl]
     dsimp only
     rw[h2]
     exact this

def pI (fr:aN) (o:Oper):Touch:=kE (strip fr) o
def qc (P:Program) (call:aW) (callR:bJ) (ops:Array Oper) (bef:Nat) (fr0:aN) (H:aa) (nx:Nat) (recs:List Rec) (o:Oper):Tr (uF×Option Nat×aN) :=
 (Dp ops fr0 o).bind fun b=>cond b.1
   (cond (fg o) ((Ng o.op o P call callR b.2 (pr (jh bef recs H)) nx).bind fun y=>.ok (⟨y.1.1,.all,none⟩,y.1.2,b.2))
     ((Ng o.op o P call callR b.2 (jh bef recs H) nx).bind fun y=>match y.2 with
       | .bc=>.ok (⟨y.1.1,pI b.2 o,none⟩,y.1.2,b.2)
       | .push q=>cond (gI o && !g6 q && pj (eW H 0 nx) && !fQ H 0) (.ok (⟨y.1.1,pI b.2 o,some (0,nx,(0,q))⟩,y.1.2,b.2)) .bad
       | .set d i q=>.req (j6 (gM (eW H d i).1 q.1) (gM q.1 (Nat.succ (eW H d i).1))) (cond (!g6 q.2 && !g6 (eW (jh bef recs H) d i).2 && jo bef d i recs) (.ok (⟨y.1.1,pI b.2 o,some (d,i,q)⟩,y.1.2,b.2)) .bad)
       | _=>.bad))
   (.ok (⟨.tup [],.none,none⟩,none,b.2))
theorem wV {P:Program} {call:aW} {callR:bJ} (hC:callR.Ok call) {ops:Array Oper} {bef:Nat} {fr:aN} {H:aa} {nx:Nat} {recs:List Rec} {o:Oper} {e:uF×Option Nat×aN} (h:(qc P call callR ops bef fr H nx recs o).run=some e) :
 eV P call ops bef (strip fr) H nx recs o=some e.1∧strip e.2.2=strip fr:=by
 unfold qc at h
 unfold eV
 simp only[ki,rr,pI,rD,iw,eC] at h
 obtain ⟨b,h1,h⟩:=Tr.bind_some h
 obtain ⟨hw,hs⟩:=AL h1
 rw[hw,← hs]
 obtain ⟨b,fr1⟩:=b
 dsimp only at h ⊢
 cases b with
 | false =>
   rw[cond_false] at h
   rw[← Tr.ab h];exact ⟨rfl,rfl⟩
 | true =>
   rw[cond_true] at h
   rw[if_pos rfl]
   dsimp only
   cases hcv:fg o with
   | true =>
     rw[hcv,cond_true] at h
     obtain ⟨y,h2,h⟩:=Tr.bind_some h
     rw[if_pos rfl,Bw hC h2,← Tr.ab h]
     exact ⟨rfl,rfl⟩
   | false =>
     rw[hcv,cond_false] at h
     obtain ⟨y,h2,h⟩:=Tr.bind_some h
     rw[if_neg (by simp),Bw hC h2]
     split at h
     · rename_i hy
       rw[hy,← Tr.ab h];exact ⟨rfl,rfl⟩
     · rename_i b hy
       obtain ⟨hc,h⟩:=Tr.aS h
       rw[hy]
       dsimp only
       rw[if_pos hc,← Tr.ab h];exact ⟨rfl,rfl⟩
     · rename_i d i b hy
       obtain ⟨hv,h⟩:=Tr.aR h
       obtain ⟨hc,h⟩:=Tr.aS h
       rw[hy]
       dsimp only
       rw[oF,lr,lr,Bool.and_eq_true,decide_eq_true_eq,decide_eq_true_eq] at hv
       have hv':(Nat.beq b.1 (ar H d i).1 || Nat.beq b.1 (Nat.succ (ar H d i).1))=true:=by
        simp only[Bool.or_eq_true,Nat.beq_eq];omega
       simp only[Bool.and_eq_true] at hc
       rw[if_pos (by simp only[Bool.and_eq_true];exact ⟨⟨⟨hc.1.1,hv'⟩,hc.1.2⟩,hc.2⟩),← Tr.ab h];exact ⟨rfl,rfl⟩
     · exact (Tr.ae h).elim
def oS (P:Program) (nt:Nat) (call:aW) (callR:bJ) (ops:Array Oper) (befs:Array Nat):List Oper→Nat→aN→aa→Nat→List Rec→Tr (aN×aa)
 | [],_,fr,H,_,_=>.ok (fr,H)
 | o::r,j,fr,H,nx,recs=>(qc P call callR ops (befs.getD j 0) fr H nx recs o).bind fun e =>
   oS P nt call callR ops befs r (j+1) (rA nt e.2.2 o.dst (e.1.v,e.2.1)) (z4 H e.1.wr) (if gI o then nx+1 else nx) (⟨j,e.1.rd,e.1.wr.map fun x=>(x.1,x.2.1)⟩::recs)
theorem qV {P:Program} {nt:Nat} {call:aW} {callR:bJ} (hC:callR.Ok call) {ops:Array Oper} {befs:Array Nat}:∀ (l:List Oper) (j:Nat) (fr:aN) (H:aa) (nx:Nat) (recs:List Rec) (x:aN×aa),
 (oS P nt call callR ops befs l j fr H nx recs).run=some x→fJ P nt call ops befs j l (strip fr) H nx recs=some (strip x.1,x.2)
 | [],j,fr,H,nx,recs,x,h=>by rw[← Tr.ab h];rfl
 | o::r,j,fr,H,nx,recs,x,h=>by
   simp only[oS] at h
   obtain ⟨e,h1,h⟩:=Tr.bind_some h
   obtain ⟨hd,hs⟩:=wV hC h1
   unfold fJ
   rw[hd,← hs]
   have:=qV hC r _ _ _ _ _ _ h
   rw[mK,z5] at this
   exact this

def aI:Code→List (Nat×Code)
 | .block id b=>(id,b)::aI b
 | .loop b=>aI b
 | .seq a b=>aI a++aI b
 | .cond _ a b=>aI a++aI b
 | .scope b=>aI b
 | _=>[]
def bj (f:Func):Code:=match f.body with | some c=>c | none=>.skip
abbrev oE:=Ex×aN×aa
def oE.st (x:oE):Ex×aq×aa:=(x.1,strip x.2.1,x.2.2)
abbrev ik:=Nat→aN→aa→Option (Tr oE)
abbrev sl:=Operand→aN→aa→Option (Tr oE)
def ik.Ok (bl:ik) (cx:Cx) (c:Code):Prop:=∀ id b,(id,b) ∈ aI c→∀ fr H t x,bl id fr H=some t→t.run=some x→exec cx (.block id b) (strip fr) H=some x.st
def eB:Code→List (Operand×Array Tmp×Code×Code)
 | .rangeFunc f ps a b=>[(f,ps,a,b)]
 | .loop b=>eB b
 | .block _ b=>eB b
 | .seq a b=>eB a++eB b
 | .cond _ a b=>eB a++eB b
 | .scope b=>eB b
 | _=>[]
def sl.Ok (rg:sl) (cx:Cx) (c:Code):Prop:=∀ f ps a b,(f,ps,a,b) ∈ eB c→∀ fr H t x,rg f fr H=some t→t.run=some x→exec cx (.rangeFunc f ps a b) (strip fr) H=some x.st
def bS (bl:ik) (id0:Nat) (fr0:aq) (H0:aa) (u:Tr oE):ik:=fun id fr H=>cond (Nat.beq id id0) (some (.reqP (strip fr=fr0∧H=H0) u)) (bl id fr H)
theorem aA {bl:ik} {cx:Cx} {c:Code} (h:bl.Ok cx c) {id0:Nat} {fr0:aq} {H0:aa} {u:Tr oE} {B:Code} (hB:∀ b,(id0,b) ∈ aI c→b=B) (k:∀ x,u.run=some x→exec cx (.block id0 B) fr0 H0=some x.st):(bS bl id0 fr0 H0 u).Ok cx c:=by
 intro id b hm fr H t y ht hy
 unfold bS at ht
 cases hb:Nat.beq id id0 with
 | true =>
   have xg:=Nat.eq_of_beq_eq_true hb
   subst xg
   rw[hb,cond_true,Option.some.injEq] at ht
   subst ht
   obtain ⟨⟨h1,h2⟩,h3⟩:=Tr.c8 hy
   rw[h1,h2,hB b hm]
   exact k y h3
 | false =>
   rw[hb,cond_false] at ht
   exact h id b hm fr H t y ht hy
def LL (rg:sl) (tf:Operand→Bool) (fr0:aq) (H0:aa) (u:Tr oE):sl:=fun f fr H=>cond (tf f) (some (.reqP (strip fr=fr0∧H=H0) u)) (rg f fr H)
theorem xQ {rg:sl} {cx:Cx} {c:Code} (h:rg.Ok cx c) {tf:Operand→Bool} {fr0:aq} {H0:aa} {u:Tr oE} (k:∀ f ps a b,tf f=true→(f,ps,a,b) ∈ eB c→∀ x,u.run=some x→exec cx (.rangeFunc f ps a b) fr0 H0=some x.st):(LL rg tf fr0 H0 u).Ok cx c:=by
 intro f ps a b hm fr H t y ht hy
 unfold LL at ht
 cases hb:tf f with
 | true =>
   rw[hb,cond_true,Option.some.injEq] at ht
   subst ht
   obtain ⟨⟨h1,h2⟩,h3⟩:=Tr.c8 hy
   rw[h1,h2]
   exact k f ps a b hb hm y h3
 | false =>
   rw[hb,cond_false] at ht
   exact h f ps a b hm fr H t y ht hy
def aG:ik:=fun _ _ _=>none
def aH:sl:=fun _ _ _=>none
theorem af (cx:Cx) (c:Code):aG.Ok cx c:=fun _ _ _ _ _ _ _ h=>by cases h
theorem ag (cx:Cx) (c:Code):aH.Ok cx c:=fun _ _ _ _ _ _ _ _ _ h=>by cases h
def zD (g:AV→AV):aN→aN
 | []=>[]
 | (x,(v,h))::r=>(x,(nv g v,h))::zD g r
theorem zE (g:AV→AV):∀ fr:aN,strip (zD g fr)=qC g (strip fr)
 | []=>rfl
 | (x,(v,h))::r=>by
   have e:zD g ((x,(v,h))::r)=(x,(nv g v,h))::zD g r:=rfl
   rw[e,dc,dc,qC,zE g r]
def lM (n:Nat):Nat→aN→aa→aN×aa
 | 0,fr,H=>(fr,H)
 | k + 1,fr,H=>match H with
   | []=>(fr,[])
   | l::r=>cond (Nat.ble (iT l.bs) (Nat.succ n)) (fr,l::r) (match hole (strip fr) l.bs 4 n with
     | none=>(fr,l::r)
     | some h=>lM n k (zD (vh (l.bs.length-1) h) fr) (lS n (qC (vh (l.bs.length-1) h) (strip fr)) (yi (l.bs.length-1) h l::r)))
theorem uu (n:Nat):∀ (k:Nat) (fr:aN) (H:aa),(strip (lM n k fr H).1,(lM n k fr H).2)=jy n k (strip fr) H
 | 0,fr,H=>rfl
 | k+1,fr,[]=>rfl
 | k + 1,fr,l::r=>by
   cases hb:Nat.ble (iT l.bs) (Nat.succ n) with
   | true =>
     have:lM n (k+1) fr (l::r)=(fr,l::r):=by
      unfold lM;dsimp only;rw[hb];rfl
     rw[this,uw (by rw[dp] at hb;simpa using hb)]
   | false =>
     unfold lM jy
     dsimp only
     rw[hb,cond_false]
     cases hole (strip fr) l.bs 4 n with
     | none=>rfl
     | some h =>
       dsimp only
       rw[uu n k,zE]
def Dj (n:Nat) (fr:aN) (H:aa):aN×aa:=lM n 4 fr (lS n (strip fr) H)
theorem GY (n:Nat) (fr:aN) (H:aa):(strip (Dj n fr H).1,(Dj n fr H).2)=tidy n (strip fr) H:=uu n 4 fr _
def Ct (body:aN→aa→Tr oE) (n:Nat):Nat→aN→aa→Tr oE
 | 0,_,_=>.bad
 | k+1,fr,H=>(body fr H).bind fun x=>match x with
   | (.normal,fr,H)=>Ct body n k (Dj n fr H).1 (Dj n fr H).2
   | r=>.ok r
theorem vU {body:aq→aa→Option (Ex×aq×aa)} {n:Nat}:∀ (k m:Nat) (fr:aq) (H:aa) (x:Ex×aq×aa),iter body n k fr H=some x→k≤m→iter body n m fr H=some x
 | 0,m,fr,H,x,h,_=>by simp[iter] at h
 | k+1,0,fr,H,x,h,hk=>by omega
 | k + 1,m+1,fr,H,x,h,hk=>by
   unfold iter at h ⊢
   cases hb:body fr H with
   | none=>rw[hb] at h;simp at h
   | some y =>
     rw[hb] at h
     obtain ⟨e,f,g⟩:=y
     cases e
     case normal=>exact vU k m _ _ _ h (by omega)
     all_goals exact h
theorem ze {body:aN→aa→Tr oE} {body':aq→aa→Option (Ex×aq×aa)} {n:Nat} (hb:∀ fr H x,(body fr H).run=some x→body' (strip fr) H=some x.st):∀ (k:Nat) (fr:aN) (H:aa) (x:oE),(Ct body n k fr H).run=some x→iter body' n k (strip fr) H=some x.st
 | 0,fr,H,x,h=>(Tr.ae h).elim
 | k+1,fr,H,x,h=>by
   simp only[Ct] at h
   obtain ⟨y,h1,h⟩:=Tr.bind_some h
   unfold iter
   rw[hb _ _ _ h1]
   obtain ⟨e,f,g⟩:=y
   cases e
   case normal =>
    have e:=GY n f g
    have h:=ze hb k _ _ _ h
    show iter body' n k (tidy n (strip f) g).1 (tidy n (strip f) g).2=_
    rw[← e];exact h
   all_goals
    have h:=Tr.ab h
    rw[← h];rfl
def ob (f:AV→Tr AV):List AV→Tr (List AV)
 | []=>.ok []
 | v::l=>(f v).bind fun u=>(ob f l).bind fun m=>.ok (u::m)
theorem fj {f:AV→Tr AV} {g:AV→AV} (hf:∀ v u,(f v).run=some u→g v=u):∀ (l m:List AV),(ob f l).run=some m→l.map g=m
 | [],m,h=>Tr.ab h
 | v::l,m,h=>by
   simp only[ob] at h
   obtain ⟨u,h1,h⟩:=Tr.bind_some h
   obtain ⟨n,h2,h⟩:=Tr.bind_some h
   rw[← Tr.ab h,List.map_cons,hf _ _ h1,fj hf l n h2]
def mE (f:AV→Tr AV):List ah→Tr (List ah)
 | []=>.ok []
 | .one v::l=>(f v).bind fun u=>(mE f l).bind fun m=>.ok (.one u::m)
 | .arr k z n::l=>(mE f l).bind fun m=>.ok (.arr k z n::m)
theorem iz {f:AV→Tr AV} {g:AV→AV} (hf:∀ v u,(f v).run=some u→g v=u):∀ (l m:List ah),(mE f l).run=some m→mapM' g l=m
 | [],m,h=>Tr.ab h
 | .one v::l,m,h=>by
   simp only[mE] at h
   obtain ⟨u,h1,h⟩:=Tr.bind_some h
   obtain ⟨n,h2,h⟩:=Tr.bind_some h
   rw[← Tr.ab h,mapM',hf _ _ h1,iz hf l n h2]
 | .arr k z n::l,m,h=>by
   simp only[mE] at h
   obtain ⟨n,h2,h⟩:=Tr.bind_some h
   rw[← Tr.ab h,mapM',iz hf l n h2]
def qT (cap:Option Nat) (len:Nat):Bool :=
 match cap with
 | none=>false
 | some c=>b9 c len
theorem j9 (cap:Option Nat) (len:Nat):qT cap len=(cap == some len):=by
 cases cap with
 | none=>rfl
 | some c=>simp only[qT,gy];rw[Bool.eq_iff_iff];simp
def y8 (i ver:Nat) (r:Row):AV→Tr AV
 | .ptr d j v off=>cond (Nat.beq d 0 && Nat.beq j i) (.req (b9 v ver) (.ok (.ptrT none r off))) (.ok (.ptr d j v off))
 | .slc d j v off sz len cap=>cond (Nat.beq d 0 && Nat.beq j i) (.req (b9 v ver) (match r with
    | .M [.arr k z N]=>.req (gq off (jr len sz) 0 N) (.ok (.slcT none (.M [.arr k (dD z off) (jr len sz)]) sz len (qT cap len)))
    | .I k l=>cond (uS (.I k l) off (Nat.mul len sz)) (.ok (.slcT none (.I k (iN (lT l off) (Nat.mul len sz))) sz len (qT cap len))) .bad
    | _=>.bad)) (.ok (.slc d j v off sz len cap))
 | v=>.ok v
theorem vt {d j i:Nat} {x:Bool} (h:(Nat.beq d 0 && Nat.beq j i)=true):(Nat.beq d 0 && (Nat.beq j i && x))=x:=by
 rw[Bool.and_eq_true] at h
 rw[h.1,h.2];rfl
theorem vu {d j i:Nat} {x:Bool} (h:(Nat.beq d 0 && Nat.beq j i)=false):(Nat.beq d 0 && (Nat.beq j i && x))=false:=by
 rw[← Bool.and_assoc,h];rfl
theorem y9 {i ver:Nat} {r:Row}:∀ v u,(y8 i ver r v).run=some u→nr i ver r v=u:=by
 intro v u h
 cases v with
 | ptr d j v off =>
   simp only[y8] at h
   simp only[nr]
   cases hc:(Nat.beq d 0 && Nat.beq j i) with
   | false=>rw[hc,cond_false] at h;rw[vu hc,if_neg (by simp)];exact Tr.ab h
   | true =>
     rw[hc,cond_true] at h
     obtain ⟨h1,h⟩:=Tr.aR h
     rw[gy,decide_eq_true_eq] at h1
     rw[vt hc,if_pos (by simpa using h1)];exact Tr.ab h
 | slc d j v off sz len cap =>
   simp only[y8] at h
   simp only[nr]
   cases hc:(Nat.beq d 0 && Nat.beq j i) with
   | false=>rw[hc,cond_false] at h;rw[vu hc,if_neg (by simp)];exact Tr.ab h
   | true =>
     rw[hc,cond_true] at h
     obtain ⟨h1,h2⟩:=Tr.aR h
     clear h
     rw[gy,decide_eq_true_eq] at h1
     rw[vt hc]
     split at h2
     · obtain ⟨h3,h⟩:=Tr.aR h2
       rw[g5,decide_eq_true_eq,cC] at h3
       rw[if_pos (by simp[h1,Row.len,az,aQ];omega),← Tr.ab h,j9,cC,mQ]
       rfl
     · obtain ⟨h3,h⟩:=Tr.aS h2
       rw[ld,decide_eq_true_eq] at h3
       rw[if_pos (by simp only[h1,Bool.and_eq_true];exact ⟨by simp,Nat.ble_eq_true_of_le h3⟩),← Tr.ab h,j9,gK,iu]
       rfl
     · exact (Tr.ae h2).elim
 | _=>exact Tr.ab h
def zF (f:AV→Tr AV) (v:AV):Tr AV :=
 match v with
 | .agg (.G l)=>(ob f l).bind fun m=>.ok (.agg (.G m))
 | .agg (.M l)=>(mE f l).bind fun m=>.ok (.agg (.M m))
 | .fn g a b=>(ob f a).bind fun a'=>(ob f b).bind fun b'=>.ok (.fn g a' b')
 | v=>f v
theorem tx {f:AV→Tr AV} {g:AV→AV} (hf:∀ v u,(f v).run=some u→g v=u):∀ v u,(zF f v).run=some u→nv g v=u:=by
 intro v u h
 unfold zF at h
 split at h
 · obtain ⟨m,h1,h⟩:=Tr.bind_some h
   rw[← Tr.ab h,← fj hf _ _ h1];rfl
 · obtain ⟨m,h1,h⟩:=Tr.bind_some h
   rw[← Tr.ab h,← iz hf _ _ h1];rfl
 · obtain ⟨a',h1,h⟩:=Tr.bind_some h
   obtain ⟨b',h2,h⟩:=Tr.bind_some h
   rw[← Tr.ab h,← fj hf _ _ h1,← fj hf _ _ h2];rfl
 · rename_i n1 n2 n3
   have:=hf _ _ h
   rw[← this]
   unfold nv
   split
   · exact absurd rfl (n1 _)
   · exact absurd rfl (n2 _)
   · exact absurd rfl (n3 _ _ _)
   · rfl
def Gf (f:AV→Tr AV):ai→Tr ai
 | .row r=>match r with
   | .G l=>(ob (zF f) l).bind fun m=>.ok (.row (.G m))
   | .M l=>(mE (zF f) l).bind fun m=>.ok (.row (.M m))
   | r=>.ok (.row r)
 | b=>.ok b
theorem Gg {f:AV→Tr AV} {g:AV→AV} (hf:∀ v u,(f v).run=some u→g v=u) (b u:ai) (h:(Gf f b).run=some u):qB g b=u:=by
 cases b with
 | row r =>
   simp only[Gf] at h
   cases r with
   | G l =>
     obtain ⟨m,h1,h⟩:=Tr.bind_some h
     rw[← Tr.ab h,← fj (tx hf) _ _ h1];rfl
   | M l =>
     obtain ⟨m,h1,h⟩:=Tr.bind_some h
     rw[← Tr.ab h,← iz (tx hf) _ _ h1];rfl
   | I k l=>rw[← Tr.ab h];rfl
   | F z n=>rw[← Tr.ab h];rfl
 | dead=>exact Tr.ab h
 | map es=>exact Tr.ab h
 | fmap kq f g c=>exact Tr.ab h
 | loop l=>exact Tr.ab h
def xp (f:AV→Tr AV):List (Nat×ai)→Tr (List (Nat×ai))
 | []=>.ok []
 | (v,b)::r=>(Gf f b).bind fun b'=>(xp f r).bind fun r'=>.ok ((v,b')::r')
theorem v7 {f:AV→Tr AV} {g:AV→AV} (hf:∀ v u,(f v).run=some u→g v=u):∀ (l m:List (Nat×ai)),(xp f l).run=some m→jJ g l=m
 | [],m,h=>Tr.ab h
 | (v,b)::r,m,h=>by
   simp only[xp] at h
   obtain ⟨b',h1,h⟩:=Tr.bind_some h
   obtain ⟨r',h2,h⟩:=Tr.bind_some h
   rw[← Tr.ab h,jJ,Gg hf _ _ h1,v7 hf r r' h2]
def CI (f:AV→Tr AV):aN→Tr aN
 | []=>.ok []
 | (x,(v,h))::r=>(zF f v).bind fun v'=>(CI f r).bind fun r'=>.ok ((x,(v',h))::r')
theorem zB {f:AV→Tr AV} {g:AV→AV} (hf:∀ v u,(f v).run=some u→g v=u):∀ (l m:aN),(CI f l).run=some m→qC g (strip l)=strip m
 | [],m,h=>by rw[← Tr.ab h];rfl
 | (x,(v,hh))::r,m,h=>by
   simp only[CI] at h
   obtain ⟨v',h1,h⟩:=Tr.bind_some h
   obtain ⟨r',h2,h⟩:=Tr.bind_some h
   rw[← Tr.ab h,dc,dc,qC,tx hf _ _ h1,zB hf r r' h2]
def s8 (i:Nat) (fr:aN) (l:aT):Tr (aN×aT) :=
 match Bt l.bs i with
 | (ver,.row r)=>cond (xj r && (uL (fun x=>pZ (pL i) x.2) (strip fr) || uL (fun x=>Lg (pL i) x.2) l.bs)) ((CI (y8 i ver r) fr).bind fun fr'=>(xp (y8 i ver r) l.bs).bind fun bs'=>.ok (fr',{ l with bs:=bX bs' i (ver,.dead) })) (.ok (fr,l))
 | _=>.ok (fr,l)
theorem qn {i:Nat} {fr:aN} {l:aT} {y:aN×aT} (h:(s8 i fr l).run=some y):mq i (strip fr) l=(strip y.1,y.2):=by
 unfold s8 at h
 unfold mq
 rw[sb] at h
 split at h
 · rename_i ver r hb
   rw[hb]
   dsimp only
   rw[oG,oG] at h
   cases hc:(xj r && ((strip fr).any (fun x=>pZ (pL i) x.2) || l.bs.any (fun x=>Lg (pL i) x.2))) with
   | true =>
     rw[hc,cond_true] at h
     obtain ⟨fr',h1,h⟩:=Tr.bind_some h
     obtain ⟨bs',h2,h⟩:=Tr.bind_some h
     rw[if_pos rfl,zB y9 _ _ h1,v7 y9 _ _ h2,← Tr.ab h]
   | false =>
     rw[hc,cond_false] at h
     rw[if_neg (by simp),← Tr.ab h]
 · rename_i hno
   have h:=Tr.ab h
   subst h
   split
   · rename_i ver r hb
     exact absurd hb (hno ver r)
   · rfl
def rZ:Nat→aN→aT→Tr (aN×aT)
 | 0,fr,l=>.ok (fr,l)
 | n+1,fr,l=>(rZ n fr l).bind fun y=>s8 n y.1 y.2
theorem s6:∀ (n:Nat) (fr:aN) (l:aT) (y:aN×aT),(rZ n fr l).run=some y→jl n (strip fr) l=(strip y.1,y.2)
 | 0,fr,l,y,h=>by rw[← Tr.ab h];rfl
 | n+1,fr,l,y,h=>by
   simp only[rZ] at h
   obtain ⟨z,h1,h⟩:=Tr.bind_some h
   have h1:=s6 n fr l z h1
   simp only[jl]
   rw[h1]
   exact qn h
def pg:Nat→aN→aT→Tr (aN×aT)
 | 0,fr,l=>.ok (fr,l)
 | n+1,fr,l=>(pg n fr l).bind fun y=>cond (uL (fun x=>pZ (pL n) x.2) (strip y.1)) (.ok y) (s8 n y.1 y.2)
theorem rk:∀ (n:Nat) (fr:aN) (l:aT) (y:aN×aT),(pg n fr l).run=some y→eM n (strip fr) l=(strip y.1,y.2)
 | 0,fr,l,y,h=>by rw[← Tr.ab h];rfl
 | n + 1,fr,l,y,h=>by
   simp only[pg] at h
   obtain ⟨z,h1,h⟩:=Tr.bind_some h
   have h1:=rk n fr l z h1
   simp only[eM]
   rw[h1]
   dsimp only
   rw[oG] at h
   cases hc:(strip z.1).any (fun x=>pZ (pL n) x.2) with
   | true =>
     rw[hc,cond_true] at h
     rw[if_pos rfl,Tr.ab h]
   | false =>
     rw[hc,cond_false] at h
     rw[if_neg (by simp)]
     exact qn h
def Cz (s:Nat):aN→Option Nat
 | []=>none
 | (x,(v,_))::r=>cond (Nat.beq x s) (match v with
   | .slc 0 i _ _ _ _ _=>some i
   | _=>none) (Cz s r)
theorem zn (s:Nat):∀ fr:aN,Cz s fr=Cy s (strip fr)
 | []=>rfl
 | (x,(v,h))::r=>by
   rw[dc]
   simp only[Cz,Cy,zn s r]
   cases Nat.beq x s<;>rfl
def xi (s:Nat) (fr:aN) (H:aa):Tr (aN×aa) :=
 match H with
 | []=>.ok (fr,[])
 | l::r=>cond l.lock (.ok (fr,l::r)) (match Cz s fr with
   | some i=>(s8 i fr l).bind fun y=>.ok (y.1,y.2::r)
   | none=>.ok (fr,l::r))
theorem Bk {s:Nat} {fr:aN} {H:aa} {y:aN×aa} (h:(xi s fr H).run=some y):xh s (strip fr) H=(strip y.1,y.2):=by
 unfold xi at h
 unfold xh
 cases H with
 | nil=>rw[← Tr.ab h]
 | cons l r =>
   dsimp only at h ⊢
   cases hl:l.lock with
   | true =>
     rw[hl,cond_true] at h
     rw[if_pos rfl,← Tr.ab h]
   | false =>
     rw[hl,cond_false,zn] at h
     rw[if_neg (by simp)]
     split at h
     · rename_i i hi
       obtain ⟨z,h1,h⟩:=Tr.bind_some h
       have h1:=qn h1
       rw[hi]
       dsimp only
       rw[h1,← Tr.ab h]
     · rename_i hi
       rw[hi,← Tr.ab h]
def Bj (m:Nat) (fr:aN) (H:aa):Tr (aN×aa) :=
 cond (od m 4000) (match H with
  | []=>.ok (gY fr m,[])
  | l::r=>cond l.lock (.ok (gY fr m,l::r)) ((rZ (iT l.bs) (gY fr m) l).bind fun y=>.ok (y.1,cond (Nat.beq (Nat.shiftRight m 4003) 0) (y.2::r) (Gm (Nat.shiftRight m 4003) (y.2::r))))) (cond (od m 4001) (xi (Nat.shiftRight m 4003) (gY fr m) H) (cond (od m 4002) (wB (gY fr m) (Nat.shiftRight m 4003) (fun fr=>.ok (fr,H)) (fun fr=>match H with
  | []=>.ok (fr,[])
  | l::r=>cond l.lock (.ok (fr,l::r)) ((pg (iT l.bs) fr l).bind fun y=>.ok (y.1,y.2::r)))) (.ok (gY fr m,H))))
theorem DY {m:Nat} {fr:aN} {H:aa} {y:aN×aa} (h:(Bj m fr H).run=some y):mr m (strip fr) H=(strip y.1,y.2):=by
 unfold Bj at h
 unfold mr
 cases hm:od m 4000 with
 | false =>
   rw[hm,cond_false] at h
   rw[if_neg (by simp)]
   cases hm2:od m 4001 with
   | false =>
     rw[hm2,cond_false] at h
     rw[if_neg (by simp)]
     cases hm3:od m 4002 with
     | false =>
       rw[hm3,cond_false] at h
       rw[if_neg (by simp),← Tr.ab h,ff]
     | true =>
       rw[hm3,cond_true] at h
       rw[if_pos rfl]
       obtain ⟨b,fr',h1,h2,h3⟩:=lL h
       rw[ff] at h1 h2
       rw[h1]
       cases b with
       | true =>
         simp only[if_true] at h3
         rw[← Tr.ab h3,h2]
       | false =>
         simp only[Bool.false_eq_true,if_false] at h3
         cases H with
         | nil =>
           dsimp only at h3
           rw[← Tr.ab h3,← h2];rfl
         | cons l r =>
           dsimp only at h3
           show uU (bP (strip fr) m) (l::r)=_
           rw[← h2]
           unfold uU
           dsimp only
           cases hl:l.lock with
           | true =>
             rw[hl,cond_true] at h3
             rw[if_pos rfl,← Tr.ab h3]
           | false =>
             rw[hl,cond_false] at h3
             obtain ⟨z,h4,h5⟩:=Tr.bind_some h3
             have h4:=rk _ _ _ _ h4
             rw[dp] at h4
             rw[if_neg (by simp),h4,← Tr.ab h5]
   | true =>
     rw[hm2,cond_true] at h
     rw[if_pos rfl]
     have h1:=Bk h
     rw[ff] at h1
     exact h1
 | true =>
   rw[hm,cond_true] at h
   rw[if_pos rfl]
   cases H with
   | nil =>
     rw[← Tr.ab h,ff]
     simp only[DX,Gm,ite_self]
   | cons l r =>
     dsimp only at h
     unfold DX
     dsimp only
     cases hl:l.lock with
     | true =>
       rw[hl,cond_true] at h
       simp only[if_true]
       rw[← Tr.ab h,ff]
       simp only[Gm,hl,if_true,ite_self]
     | false =>
       rw[hl,cond_false] at h
       obtain ⟨z,h1,h⟩:=Tr.bind_some h
       have h1:=s6 _ _ _ _ h1
       rw[dp,ff] at h1
       simp only[Bool.false_eq_true,if_false,h1]
       rw[← Tr.ab h]
       cases Nat.beq (Nat.shiftRight m 4003) 0<;>rfl
def aJ (cx:Cx) (callR:bJ) (bl:ik) (rg:sl):Code→aN→aa→Tr oE
 | .skip,fr,H=>.ok (.normal,fr,H)
 | .label _,fr,H=>.ok (.normal,fr,H)
 | .exit id,fr,H=>.ok (.exit id,fr,H)
 | .goto l,fr,H=>.ok (.goto l,fr,H)
 | .ret,fr,H=>.ok (.ret,fr,H)
 | .region id ops draw,fr,H =>
   (cond draw (cond (fo ops (Region.before ops)) (oS cx.P cx.nt cx.call callR ops (Region.before ops) ops.toList 0 fr (ll H (cG ops.toList)) (fR H) []) .bad) (iX cx.P cx.nt cx.call callR ops ops.toList fr H)).bind fun x=>(Bj (cx.kt id) x.1 x.2).bind fun y=>.ok (.normal,y.1,y.2)
 | .seq a b,fr,H=>(aJ cx callR bl rg a fr H).bind fun x=>match x with
   | (.normal,fr,H)=>aJ cx callR bl rg b fr H
   | r=>.ok r
 | .cond c a b,fr,H=>match c with
   | .tmp d=>wB fr d (fun fr=>aJ cx callR bl rg a fr H) (fun fr=>aJ cx callR bl rg b fr H)
   | c=>match (bZ fr c).1 with
     | .bool t=>cond t (aJ cx callR bl rg a fr H) (aJ cx callR bl rg b fr H)
     | _=>.bad
 | .block id b,fr,H=>match bl id fr H with
   | some t=>t
   | none=>(aJ cx callR bl rg b fr H).bind fun x=>match x with
     | (.exit id',fr,H)=>cond (Nat.beq id' id) (.ok (.normal,fr,H)) (.ok (.exit id',fr,H))
     | r=>.ok r
 | .scope b,fr,H=>(aJ cx callR bl rg b fr H).bind fun x=>match x with
   | (.goto _,_,_)=>.bad
   | r=>.ok r
 | .rangeFunc f _ _ _,fr,H=>match rg f fr H with
   | some t=>t
   | none=>.bad
 | .loop b,fr,H=>cond (Nat.ble 12 cx.fu) (Ct (aJ cx callR bl rg b) (fR H) 12 fr H) .bad
 | .refuse _,_,_=>.bad

theorem oX {cx:Cx} {callR:bJ} {bl:ik} {rg:sl} (hC:callR.Ok cx.call):∀ (c:Code),bl.Ok cx c→rg.Ok cx c→∀ (fr:aN) (H:aa) (x:oE),(aJ cx callR bl rg c fr H).run=some x→exec cx c (strip fr) H=some x.st:=by
 intro c
 induction c with
 | skip=>intro _ _ fr H x h;rw[← Tr.ab h];rfl
 | label=>intro _ _ fr H x h;rw[← Tr.ab h];rfl
 | exit=>intro _ _ fr H x h;rw[← Tr.ab h];rfl
 | goto=>intro _ _ fr H x h;rw[← Tr.ab h];rfl
 | ret=>intro _ _ fr H x h;rw[← Tr.ab h];rfl
 | refuse=>intro _ _ fr H x h;exact (Tr.ae h).elim
 | loop b ih =>
   intro hb hr fr H x h
   simp only[aJ] at h
   obtain ⟨hk,h⟩:=Tr.aS h
   rw[Nat.ble_eq] at hk
   unfold exec
   rw[gZ] at h
   exact vU _ _ _ _ _ (ze (fun fr H x h=>ih hb hr fr H x h) 12 fr H x h) hk
 | rangeFunc f ps a b =>
   intro _ hr fr H x h
   simp only[aJ] at h
   split at h
   · rename_i t ht
     exact hr f ps a b (by simp[eB]) fr H t x ht h
   · exact (Tr.ae h).elim
 | region id ops draw =>
   intro _ _ fr H x h
   simp only[aJ] at h
   obtain ⟨y,h1,h⟩:=Tr.bind_some h
   obtain ⟨z,h2,h⟩:=Tr.bind_some h
   have h2:=DY h2
   rw[← Tr.ab h]
   unfold exec
   cases draw with
   | true =>
     rw[cond_true] at h1
     obtain ⟨hs,h1⟩:=Tr.aS h1
     rw[gZ] at h1
     simp only[if_true,hs]
     rw[qV hC _ _ _ _ _ _ _ h1]
     dsimp only
     rw[h2]
     rfl
   | false =>
     rw[cond_false] at h1
     simp only[Bool.false_eq_true,if_false]
     rw[fV hC _ _ _ _ h1]
     dsimp only
     rw[h2]
     rfl
 | seq a b iha ihb =>
   intro hb hr fr H x h
   have hba:bl.Ok cx a:=fun id b' hm=>hb id b' (List.mem_append_left _ hm)
   have hbb:bl.Ok cx b:=fun id b' hm=>hb id b' (List.mem_append_right _ hm)
   have hra:rg.Ok cx a:=fun f ps u v hm=>hr f ps u v (List.mem_append_left _ hm)
   have hrb:rg.Ok cx b:=fun f ps u v hm=>hr f ps u v (List.mem_append_right _ hm)
   simp only[aJ] at h
   obtain ⟨y,h1,h⟩:=Tr.bind_some h
   have h1:=iha hba hra _ _ _ h1
   unfold exec
   rw[h1]
   obtain ⟨e,fr1,H1⟩:=y
   cases e
   case normal=>exact ihb hbb hrb _ _ _ h
   all_goals
    have h:=Tr.ab h
    rw[← h];rfl
 | cond c a b iha ihb =>
   intro hb hr fr H x h
   have hba:bl.Ok cx a:=fun id b' hm=>hb id b' (List.mem_append_left _ hm)
   have hbb:bl.Ok cx b:=fun id b' hm=>hb id b' (List.mem_append_right _ hm)
   have hra:rg.Ok cx a:=fun f ps u v hm=>hr f ps u v (List.mem_append_left _ hm)
   have hrb:rg.Ok cx b:=fun f ps u v hm=>hr f ps u v (List.mem_append_right _ hm)
   simp only[aJ] at h
   unfold exec
   split at h
   · rename_i d
     obtain ⟨b',fr',h1,h2,h3⟩:=lL h
     have e:bL (strip fr) (.tmp d)=.bool b':=h1
     rw[e,← h2]
     cases b' with
     | true=>exact iha hba hra _ _ _ h3
     | false=>exact ihb hbb hrb _ _ _ h3
   · rename_i c' hne
     rw[aU] at h
     split at h
     · rename_i t hc
       rw[hc]
       cases t with
       | true=>exact iha hba hra _ _ _ h
       | false=>exact ihb hbb hrb _ _ _ h
     · exact (Tr.ae h).elim
 | block id b ih =>
   intro hb hr fr H x h
   have hbb:bl.Ok cx b:=fun id' b' hm=>hb id' b' (by simp only[aI];exact List.mem_cons_of_mem _ hm)
   simp only[aJ] at h
   split at h
   · rename_i t ht
     exact hb id b (by simp[aI]) _ _ _ _ ht h
   · obtain ⟨y,h1,h⟩:=Tr.bind_some h
     have h1:=ih hbb hr _ _ _ h1
     unfold exec
     rw[h1]
     obtain ⟨e,fr1,H1⟩:=y
     cases e
     case exit id' =>
      dsimp only[oE.st] at h ⊢
      rw[gx] at h
      split at h
      · rename_i xg
        rw[if_pos xg,← Tr.ab h]
      · rename_i xg
        rw[if_neg xg,← Tr.ab h]
     all_goals
      have h:=Tr.ab h
      rw[← h];rfl
 | scope b ih =>
   intro hb hr fr H x h
   simp only[aJ] at h
   obtain ⟨y,h1,h⟩:=Tr.bind_some h
   have h1:=ih hb hr _ _ _ h1
   unfold exec
   rw[h1]
   obtain ⟨e,fr1,H1⟩:=y
   cases e
   case goto=>exact (Tr.ae h).elim
   all_goals
    have h:=Tr.ab h
    rw[← h];rfl

end
end Go.Eng
end
section
namespace Go.Eng
noncomputable section

def nq   (bs:List (Nat×ai)):Nat→AV→Tr AV
 | 0,_=>.ok .undef
 | n + 1,v=>match v with
   | .ptr d i ver off=>match d with
     | d+1=>.ok (.ptr d i ver off)
     | 0 => match Bt bs i with
       | (w,.row r)=>cond (Nat.beq w ver) (match r with
         | .I k l=>.ok (.ptrT none (.I k l) off)
         | .F f m=>.ok (.ptrT none (.F f m) off)
         | .M l=>cond (gw l) (.ok (.ptrT none (.M l) off)) ((mE (nq bs n) l).bind fun m=>.ok (.ptrT (some 0) (.M m) off))
         | .G l=>(ob (nq bs n) l).bind fun m=>.ok (.ptrT (some 0) (.G m) off)) .bad
       | _=>.bad
   | .slc d i ver off sz len cap=>match d with
     | d+1=>.ok (.slc d i ver off sz len cap)
     | 0 => match Bt bs i with
       | (w,.row r)=>.req (b9 w ver) (match r with
         | .M [.arr k z N]=>.req (gq off (jr len sz) 0 N) (.ok (.slcT none (.M [.arr k (dD z off) (jr len sz)]) sz len (qT cap len)))
         | .I k l=>cond (uS (.I k l) off (Nat.mul len sz)) (.ok (.slcT none (.I k (iN (lT l off) (Nat.mul len sz))) sz len (qT cap len))) .bad
         | .F f N=>.req (gq off (jr len sz) 0 N) (.ok (.slcT none (.F (fun j=>f (bO off j)) (jr len sz)) sz len (qT cap len)))
         | .G l=>cond (uS (.G l) off (Nat.mul len sz)) ((ob (nq bs n) (iN (lT l off) (Nat.mul len sz))).bind fun m=>.ok (.slcT (some 0) (.G m) sz len (qT cap len))) .bad
         | _=>.bad)
       | _=>.bad
   | .ptrT s r off=>match s with
     | none=>.ok (.ptrT none r off)
     | some (s+1)=>.ok (.ptrT (some s) r off)
     | some 0=>match r with
       | .G l=>(ob (nq bs n) l).bind fun m=>.ok (.ptrT (some 0) (.G m) off)
       | .M l=>cond (gw l) (.ok (.ptrT none (.M l) off)) ((mE (nq bs n) l).bind fun m=>.ok (.ptrT (some 0) (.M m) off))
       | r=>.ok (.ptrT none r off)
   | .slcT s r sz len full=>match s with
     | none=>.ok (.slcT none r sz len full)
     | some (s+1)=>.ok (.slcT (some s) r sz len full)
     | some 0=>match r with
       | .G l=>(ob (nq bs n) l).bind fun m=>.ok (.slcT (some 0) (.G m) sz len full)
       | .M l=>cond (gw l) (.ok (.slcT none (.M l) sz len full)) ((mE (nq bs n) l).bind fun m=>.ok (.slcT (some 0) (.M m) sz len full))
       | r=>.ok (.slcT none r sz len full)
   | .map d i=>match d with
     | d+1=>.ok (.map d i)
     | 0=>.ok .undef
   | .yld d i=>match d with
     | d+1=>.ok (.yld d i)
     | 0=>.ok .undef
   | .fn f a b=>(ob (nq bs n) a).bind fun a'=>(ob (nq bs n) b).bind fun b'=>.ok (.fn f a' b')
   | .agg r=>match r with
     | .G l=>(ob (nq bs n) l).bind fun m=>.ok (.agg (.G m))
     | .M l=>(mE (nq bs n) l).bind fun m=>.ok (.agg (.M m))
     | r=>.ok (.agg r)
   | .tup l=>(ob (nq bs n) l).bind fun m=>.ok (.tup m)
   | v=>.ok v
theorem Cg (bs:List (Nat×ai)):∀ (n:Nat) (v u:AV),(nq bs n v).run=some u→dK bs n v=u
 | 0,v,u,h=>Tr.ab h
 | n + 1,v,  u,h=>by
   have ih:=Cg bs n
   simp only[nq,sb] at h
   cases v with
   | ptr d i ver off =>
     cases d with
     | succ d=>exact Tr.ab h
     | zero =>
       dsimp only at h
       simp only[dK]
       split at h
       · rename_i w r hg
         obtain ⟨hw,h⟩:=Tr.aS h
         rw[hg]
         dsimp only
         rw[if_pos hw]
         cases r with
         | I k l=>exact Tr.ab h
         | F f m=>exact Tr.ab h
         | G l =>
           obtain ⟨m,h1,h⟩:=Tr.bind_some h
           rw[← Tr.ab h,← fj ih _ _ h1]
         | M l =>
           dsimp only at h ⊢
           cases ha:gw l with
           | true=>rw[ha,cond_true] at h;rw[if_pos rfl];exact Tr.ab h
           | false =>
             rw[ha,cond_false] at h
             obtain ⟨m,h1,h⟩:=Tr.bind_some h
             rw[if_neg (by simp),← Tr.ab h,← iz ih _ _ h1]
       · exact (Tr.ae h).elim
   | slc d i ver off sz len cap =>
     cases d with
     | succ d=>exact Tr.ab h
     | zero =>
       dsimp only at h
       simp only[dK]
       split at h
       · rename_i w r hg
         obtain ⟨hw,h'⟩:=Tr.aR h
         clear h
         rw[gy,decide_eq_true_eq] at hw
         subst hw
         rw[hg]
         dsimp only
         split at h'
         · rename_i k z N
           have h:=h'
           obtain ⟨hc,h⟩:=Tr.aR h
           rw[g5,decide_eq_true_eq,cC] at hc
           rw[if_pos ⟨by simp,by simp only[Row.len,az,aQ];omega⟩,← Tr.ab h,j9,cC,mQ]
           simp only[Row.sub,gw,if_true]
         · have h:=h'
           obtain ⟨hc,h⟩:=Tr.aS h
           rw[ld,decide_eq_true_eq] at hc
           rw[if_pos ⟨by simp,hc⟩,← Tr.ab h,j9,gK,iu]
           rfl
         · have h:=h'
           obtain ⟨hc,h⟩:=Tr.aR h
           rw[g5,decide_eq_true_eq,cC] at hc
           rw[if_pos ⟨by simp,by simp only[Row.len];omega⟩,← Tr.ab h,j9,cC]
           simp only[Row.sub,bH]
         · have h:=h'
           obtain ⟨hc,h⟩:=Tr.aS h
           rw[ld,decide_eq_true_eq] at hc
           obtain ⟨m,h1,h⟩:=Tr.bind_some h
           rw[gK,iu] at h1
           rw[if_pos ⟨by simp,hc⟩,← Tr.ab h,j9,← fj ih _ _ h1]
           rfl
         · exact (Tr.ae h').elim
       · exact (Tr.ae h).elim
   | ptrT s r off =>
     cases s with
     | none=>exact Tr.ab h
     | some s =>
       cases s with
       | succ s=>exact Tr.ab h
       | zero =>
         simp only[dK]
         cases r with
         | I k l=>exact Tr.ab h
         | F f m=>exact Tr.ab h
         | G l =>
           obtain ⟨m,h1,h⟩:=Tr.bind_some h
           rw[← Tr.ab h,← fj ih _ _ h1]
         | M l =>
           dsimp only at h ⊢
           cases ha:gw l with
           | true=>rw[ha,cond_true] at h;rw[if_pos rfl];exact Tr.ab h
           | false =>
             rw[ha,cond_false] at h
             obtain ⟨m,h1,h⟩:=Tr.bind_some h
             rw[if_neg (by simp),← Tr.ab h,← iz ih _ _ h1]
   | slcT s r sz len full =>
     cases s with
     | none=>exact Tr.ab h
     | some s =>
       cases s with
       | succ s=>exact Tr.ab h
       | zero =>
         simp only[dK]
         cases r with
         | I k l=>exact Tr.ab h
         | F f m=>exact Tr.ab h
         | G l =>
           obtain ⟨m,h1,h⟩:=Tr.bind_some h
           rw[← Tr.ab h,← fj ih _ _ h1]
         | M l =>
           dsimp only at h ⊢
           cases ha:gw l with
           | true=>rw[ha,cond_true] at h;rw[if_pos rfl];exact Tr.ab h
           | false =>
             rw[ha,cond_false] at h
             obtain ⟨m,h1,h⟩:=Tr.bind_some h
             rw[if_neg (by simp),← Tr.ab h,← iz ih _ _ h1]
   | map d i=>cases d<;>exact Tr.ab h
   | yld d i=>cases d<;>exact Tr.ab h
   | fn f a b =>
     obtain ⟨a',h1,h⟩:=Tr.bind_some h
     obtain ⟨b',h2,h⟩:=Tr.bind_some h
     simp only[dK]
     rw[← Tr.ab h,← fj ih _ _ h1,← fj ih _ _ h2]
   | agg r =>
     simp only[dK]
     cases r with
     | I k l=>exact Tr.ab h
     | F f m=>exact Tr.ab h
     | G l =>
       obtain ⟨m,h1,h⟩:=Tr.bind_some h
       rw[← Tr.ab h,← fj ih _ _ h1]
     | M l =>
       obtain ⟨m,h1,h⟩:=Tr.bind_some h
       rw[← Tr.ab h,← iz ih _ _ h1]
   | tup l =>
     obtain ⟨m,h1,h⟩:=Tr.bind_some h
     simp only[dK]
     rw[← Tr.ab h,← fj ih _ _ h1]
   | _=>exact Tr.ab h

def Hr (l:List HV):Nat→aN:=List.rec (motive:=fun _=>Nat→aN) (fun _=>[]) (fun v _ ih x=>(x,(fM 1 v.1,v.2))::ih (Nat.succ x)) l
theorem BY:∀ (l:List HV) (x:Nat),strip (Hr l x)=eF x (p6 l)
 | [],x=>rfl
 | v::l,x=>by
   have e:Hr (v::l) x=(x,(fM 1 v.1,v.2))::Hr l (x+1):=rfl
   rw[e,dc,BY l];rfl
def hints (f:aq):aN:=List.rec (motive:=fun _=>aN) [] (fun p _ ih=>(p.1,(p.2,none))::ih) f
theorem iy:∀ f:aq,strip (hints f)=f
 | []=>rfl
 | (x,v)::r=>by
   have e:hints ((x,v)::r)=(x,(v,none))::hints r:=rfl
   rw[e,dc,iy r]
def BC (P:Program) (fr:aN) (H:aa):List ResultVar→Tr (List AV)
 | []=>.ok []
 | .tmp t::r=>(BC P fr H r).bind fun l=>.ok ((lU fr t).1::l)
 | .cell a t::r=>(loadT P H t (bZ fr (.tmp a))).bind fun v=>(BC P fr H r).bind fun l=>.ok (v::l)
theorem xO {P:Program} {fr:aN} {H:aa}:∀ (l:List ResultVar) (vs:List AV),(BC P fr H l).run=some vs→gO P (strip fr) H l=some vs
 | [],vs,h=>by rw[← Tr.ab h];rfl
 | .tmp t::r,vs,h=>by
   simp only[BC] at h
   obtain ⟨l,h1,h⟩:=Tr.bind_some h
   simp only[gO]
   rw[xO r l h1,← Tr.ab h,fD];rfl
 | .cell a t::r,vs,h=>by
   simp only[BC] at h
   obtain ⟨v,h0,h⟩:=Tr.bind_some h
   obtain ⟨l,h1,h⟩:=Tr.bind_some h
   have h0:=zt h0
   rw[aU] at h0
   simp only[gO]
   have e:bL (strip fr) (.tmp a)=bt (strip fr) a:=rfl
   rw[e] at h0
   rw[h0]
   dsimp only
   rw[xO r l h1,← Tr.ab h];rfl
def Jn (fr:aN) (rs:List ResultVar):Option Nat :=
 match rs with
 | [.tmp t]=>(lU fr t).2
 | _=>none
def K4 (P:Program) (rs:List ResultVar) (x:oE):Tr (HV×aa) :=
 match x with
 | (e,fr,l::H)=>match e with
   | .normal | .ret=>(BC P fr (l::H) rs).bind fun vs=>(nq l.bs 5 (one vs)).bind fun v=>.ok ((v,Jn fr rs),H)
   | _=>.bad
 | _=>.bad
theorem IB {P:Program} {rs:List ResultVar} {x:oE} {y:HV×aa} (h:(K4 P rs x).run=some y):∃ l vs,x.2.2=l::y.2∧(x.1=.normal∨x.1=.ret)∧gO P (strip x.2.1) x.2.2 rs=some vs∧dK l.bs 5 (one vs)=y.1.1:=by
 unfold K4 at h
 split at h
 · rename_i e fr l H
   have key:((BC P fr (l::H) rs).bind fun vs=>(nq l.bs 5 (one vs)).bind fun v=>Tr.ok (((v,Jn fr rs),H):HV×aa)).run=some y→∃ vs,l::H=l::y.2∧gO P (strip fr) (l::H) rs=some vs∧dK l.bs 5 (one vs)=y.1.1:=by
    intro h
    obtain ⟨vs,h1,h⟩:=Tr.bind_some h
    obtain ⟨v,h2,h⟩:=Tr.bind_some h
    have h:=Tr.ab h
    refine ⟨vs,by rw[← h],xO _ _ h1,?_⟩
    rw[Cg _ _ _ _ h2,← h]
   split at h
   · obtain ⟨vs,h1,h2,h3⟩:=key h;exact ⟨l,vs,h1,.inl rfl,h2,h3⟩
   · obtain ⟨vs,h1,h2,h3⟩:=key h;exact ⟨l,vs,h1,.inr rfl,h2,h3⟩
   · exact (Tr.ae h).elim
 · exact (Tr.ae h).elim
def aX (P:Program) (call:aW) (fu:Nat) (f:FuncId) (fn:Func) (kt:Nat→Nat) (callR:bJ) (bl:ik) (rg:sl) (args:List HV) (H:aa):Tr (HV×aa) :=
 (aJ ⟨P,call,fu,f,fn.ntmps,kt,none⟩ callR bl rg (bj fn) (Hr args 0) (⟨false,[]⟩::H)).bind fun x=>K4 P fn.results.toList x
theorem sv {P:Program} {ora:aW→FuncId→List AV→aa→Option (AV×aa)} {KT:FuncId→Nat→Nat} {fu n:Nat} {f:FuncId} {fn:Func} (hf:P.funcs[f]?=some fn) (hb:fn.body.isSome=true) {args:List HV} {H:aa} (ho:ora (cU P ora KT fu n) f (p6 args) H=none) (hle:Nat.ble args.length fn.ntmps=true)
 {callR:bJ} (hC:callR.Ok (cU P ora KT fu n)) {bl:ik} (hB:bl.Ok ⟨P,cU P ora KT fu n,fu,f,fn.ntmps,KT f,none⟩ (bj fn)) {rg:sl} (hR:rg.Ok ⟨P,cU P ora KT fu n,fu,f,fn.ntmps,KT f,none⟩ (bj fn)) {y:HV×aa}
 (h:(aX P (cU P ora KT fu n) fu f fn (KT f) callR bl rg args H).run=some y):cU P ora KT fu (n+1) (.fn f) (p6 args) H=some (y.1.1,y.2):=by
 unfold aX at h
 obtain ⟨x,h1,h⟩:=Tr.bind_some h
 have h1:=oX hC _ hB hR _ _ _ h1
 rw[BY] at h1
 obtain ⟨l,vs,k1,k2,k3,k4⟩:=IB h
 obtain ⟨c,hc⟩:=Option.isSome_iff_exists.1 hb
 have hbody:bj fn=c:=by unfold bj;rw[hc]
 rw[hbody] at h1
 obtain ⟨e,fr,H1⟩:=x
 dsimp only[oE.st] at h1 k1 k2 k3
 rw[k1] at h1 k3
 have hl:(p6 args).length=args.length:=by unfold p6;rw[jK,List.length_map]
 simp only[cU,ho,hf,hc,hl,hle,if_true,h1]
 rcases k2 with rfl | rfl<;>simp only[k3]<;>rw[k4]

theorem ey {cx:Cx} {id:Nat} {b:Code} {fr fr1:aq} {H H1:aa} (h:iter (exec cx b) (al H) cx.fu fr H=some (.exit id,fr1,H1)):exec cx (.block id (.loop b)) fr H=some (.normal,fr1,H1):=by
 unfold exec
 have:exec cx (.loop b) fr H=some (.exit id,fr1,H1):=by unfold exec;exact h
 rw[this]
 dsimp only
 rw[if_pos (by simp)]
theorem eH {cx:Cx} {id:Nat} {b:Code} {fr fr1:aq} {H H1:aa} {e:Ex} (he:∀ id',e=.exit id'→Nat.beq id' id=false) (h:iter (exec cx b) (al H) cx.fu fr H=some (e,fr1,H1)):exec cx (.block id (.loop b)) fr H=some (e,fr1,H1):=by
 unfold exec
 have:exec cx (.loop b) fr H=some (e,fr1,H1):=by unfold exec;exact h
 rw[this]
 cases e with
 | exit id'=>dsimp only;rw[if_neg (by rw[he id' rfl];simp)]
 | _=>rfl
def fN (p:Nat→Bool):Nat→Nat→Nat
 | 0,j=>j
 | k+1,j=>if p j then j else fN p k (j+1)
theorem kZ (p:Nat→Bool):∀ (k j:Nat),j≤fN p k j∧fN p k j≤j+k∧(∀ i,j≤i→i<fN p k j→p i=false)∧(fN p k j<j+k→p (fN p k j)=true)
 | 0,j=>⟨Nat.le_refl _,Nat.le_refl _,fun i h1 h2=>absurd h2 (by simp only[fN];omega),fun h=>absurd h (by simp only[fN];omega)⟩
 | k + 1,j=>by
   simp only[fN]
   by_cases h:p j=true
   · rw[if_pos h]
     exact ⟨Nat.le_refl _,by omega,fun i h1 h2=>by omega,fun _=>h⟩
   · rw[if_neg h]
     obtain ⟨h1,h2,h3,h4⟩:=kZ p k (j+1)
     refine ⟨by omega,by omega,fun i k1 k2=>?_,fun k1=>h4 (by omega)⟩
     by_cases e:i=j
     · subst e;simpa using h
     · exact h3 i (by omega) k2
theorem m5 {body:aq→aa→Option (Ex×aq×aa)} {n:Nat} (F:Nat→aq) (G:Nat→aa) (N:Nat) (p:Nat→Bool) (X:Nat→Ex×aq×aa)
 (hs:∀ j,j<N→p j=false→∃ f g,body (F j) (G j)=some (.normal,f,g)∧tidy n f g=(F (j+1),G (j+1)))
 (hh:∀ j,j<N→p j=true→body (F j) (G j)=some (X j)∧(X j).1≠.normal) (he:body (F N) (G N)=some (X N)∧(X N).1≠.normal) :
 ∀ (k j fu:Nat),j+k=N→k<fu→iter body n fu (F j) (G j)=some (X (fN p k j))
 | 0,j,0,_,h=>by omega
 | 0,j,fu+1,hj,_=>by
   have:j=N:=by omega
   subst this
   unfold iter
   rw[he.1]
   obtain ⟨x,hx⟩:∃ x,x=X j:=⟨_,rfl⟩
   have hn:=he.2
   simp only[fN]
   rw[← hx] at hn ⊢
   obtain ⟨e,f,g⟩:=x
   cases e<;>first | exact absurd rfl hn | rfl
 | k+1,j,0,_,h=>by omega
 | k + 1,j,fu+1,hj,hf=>by
   unfold iter
   cases hp:p j with
   | true =>
     obtain ⟨h1,h2⟩:=hh j (by omega) hp
     rw[h1]
     simp only[fN]
     rw[if_pos hp]
     obtain ⟨x,hx⟩:∃ x,x=X j:=⟨_,rfl⟩
     rw[← hx] at h2 ⊢
     obtain ⟨e,f,g⟩:=x
     cases e<;>first | exact absurd rfl h2 | rfl
   | false =>
     obtain ⟨f,g,h1,h2⟩:=hs j (by omega) hp
     rw[h1]
     dsimp only
     rw[h2]
     simp only[fN]
     rw[if_neg (by rw[hp];simp)]
     exact m5 F G N p X hs hh he k (j+1) fu (by omega) (by omega)
theorem te {body:aq→aa→Option (Ex×aq×aa)} {n:Nat} (I:Nat→aq→aa→Prop) (Q:Ex×aq×aa→Prop) (N:Nat)
 (hr:∀ j fr H,I j fr H→(∃ e f g,body fr H=some (e,f,g)∧((e=.normal∧j<N∧I (j+1) (tidy n f g).1 (tidy n f g).2)∨(e≠.normal∧Q (e,f,g))))) :
 ∀ (fu j:Nat) (fr:aq) (H:aa),I j fr H→N-j<fu→∃ x,iter body n fu fr H=some x∧Q x
 | 0,j,fr,H,_,h=>by omega
 | fu+1,j,fr,H,hI,h=>by
   obtain ⟨e,f,g,h1,h2⟩:=hr j fr H hI
   unfold iter
   rw[h1]
   rcases h2 with ⟨rfl,hj,h2⟩ | ⟨he,hq⟩
   · dsimp only
     exact te I Q N hr fu (j+1) _ _ h2 (by omega)
   · cases e<;>first | exact absurd rfl he | exact ⟨_,rfl,hq⟩

end
end Go.Eng
end
