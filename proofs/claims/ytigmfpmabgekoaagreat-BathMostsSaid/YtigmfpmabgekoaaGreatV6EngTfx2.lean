/- The engine as a tree: regions, code, calls. -/
import Derived.Test.YtigmfpmabgekoaaGreatV6EngTe
set_option linter.unusedVariables false
set_option linter.unusedSimpArgs false
section
namespace Go.Eng
noncomputable section

def uE (f:aK) (y:Nat) (b:Bool):aK:=List.rec (motive:=fun _=>aK) [] (fun p r ih=>Bool.rec (motive:=fun _=>aK) (p::ih) ((p.1,(.bool b,some 1))::r) (Nat.beq p.1 y)) f
theorem sx:∀ (f:aK) (y:Nat) (b:Bool),bh (strip f) y=.bool b→strip (uE f y b)=strip f
 | [],y,b,_=>rfl
 | (x,v)::r,y,b,h=>by
   have e:uE ((x,v)::r) y b=Bool.rec (motive:=fun _=>aK) ((x,v)::uE r y b) ((x,(.bool b,some 1))::r) (Nat.beq x y):=rfl
   rw[cW,bh] at h
   rw[e]
   cases hb:Nat.beq x y with
   | true =>
     rw[hb] at h
     have h:v.1=.bool b:=h
     show (x,AV.bool b)::strip r=(x,v.1)::strip r
     rw[h]
   | false =>
     rw[hb] at h
     show (x,v.1)::strip (uE r y b)=(x,v.1)::strip r
     rw[sx r y b h]
def u0 {α:Type} (fr:aK) (d:Nat) (t e:aK→Tr α):Tr α :=
 match kX fr d with
 | (.bool b,none)=>.ite b (t (uE fr d true)) (e (uE fr d false))
 | (.bool b,some _)=>cond b (t fr) (e fr)
 | _=>.bad
theorem kO {α:Type} {fr:aK} {d:Nat} {t e:aK→Tr α} {x:α} (h:(u0 fr d t e).run=some x):∃ b fr',bh (strip fr) d=.bool b∧strip fr'=strip fr∧(if b then t fr' else e fr').run=some x:=by
 unfold u0 at h
 split at h
 · rename_i b hg
   have hg':bh (strip fr) d=.bool b:=by rw[← eV,hg]
   rcases Tr.fK h with ⟨rfl,h⟩ | ⟨rfl,h⟩
   · exact ⟨true,_,hg',sx _ _ _ hg',h⟩
   · exact ⟨false,_,hg',sx _ _ _ hg',h⟩
 · rename_i b n hg
   have hg':bh (strip fr) d=.bool b:=by rw[← eV,hg]
   refine ⟨b,fr,hg',rfl,?_⟩
   cases b<;>exact h
 · exact (Tr.ae h).elim
def Bu (ops:Array Oper) (fr:aK) (o:Oper):Tr (Bool×aK) :=
 match o.guard with
 | none=>.ok (true,fr)
 | some (j,want)=>match (ops[j]?).bind (·.dst) with
   | none=>.bad
   | some d=>match (kX fr d).1 with
     | .bool _=>cond want (u0 fr d (fun fr=>.ok (true,fr)) (fun fr=>.ok (false,fr))) (u0 fr d (fun fr=>.ok (false,fr)) (fun fr=>.ok (true,fr)))
     | .tup _=>.ok (false,fr)
     | _=>.bad
theorem yO {ops:Array Oper} {fr:aK} {o:Oper} {r:Bool×aK} (h:(Bu ops fr o).run=some r):gJ ops (strip fr) o=(if r.1 then .run else .skip)∧strip r.2=strip fr:=by
 unfold Bu at h
 unfold gJ
 cases hg:o.guard with
 | none =>
   rw[hg] at h
   rw[← Tr.ab h];exact ⟨rfl,rfl⟩
 | some jw =>
   obtain ⟨j,want⟩:=jw
   rw[hg] at h
   dsimp only at h ⊢
   cases hd:(ops[j]?).bind (·.dst) with
   | none=>rw[hd] at h;exact (Tr.ae h).elim
   | some d =>
     rw[hd] at h
     dsimp only at h ⊢
     have he:=eV fr d
     rw[he] at h
     cases hv:bh (strip fr) d<;>rw[hv] at h<;>try exact (Tr.ae h).elim
     case bool b =>
      dsimp only at h ⊢
      cases want with
      | true =>
        rw[cond_true] at h
        obtain ⟨b',fr',h1,h2,h3⟩:=kO h
        rw[hv] at h1
        cases h1
        cases b<;>(have h3:=Tr.ab h3;rw[← h3];exact ⟨rfl,h2⟩)
      | false =>
        rw[cond_false] at h
        obtain ⟨b',fr',h1,h2,h3⟩:=kO h
        rw[hv] at h1
        cases h1
        cases b<;>(have h3:=Tr.ab h3;rw[← h3];exact ⟨rfl,h2⟩)
     case tup l=>rw[← Tr.ab h];exact ⟨rfl,rfl⟩

def ib (P:Program) (nt:Nat) (call:aJ) (callR:bz) (ops:Array Oper):List Oper→aK→aa→Tr (aK×aa)
 | [],fr,H=>.ok (fr,H)
 | o::r,fr,H=>(Bu ops fr o).bind fun b=>cond b.1
   ((JZ o.op o P call callR b.2 H (fg H)).bind fun y=>ib P nt call callR ops r (qC nt b.2 o.dst y.1) (K9 y.2 H))
   (ib P nt call callR ops r (qC nt b.2 o.dst (.tup [],none)) H)
theorem fi {P:Program} {nt:Nat} {call:aJ} {callR:bz} (hC:callR.Ok call) {ops:Array Oper}:∀ (l:List Oper) (fr:aK) (H:aa) (x:aK×aa),(ib P nt call callR ops l fr H).run=some x→dr P nt call ops l (strip fr) H=some (strip x.1,x.2)
 | [],fr,H,x,h=>by rw[← Tr.ab h];rfl
 | o :: r,fr,H,x,h=>by
   simp only[ib] at h
   obtain ⟨b,h1,h⟩:=Tr.bind_some h
   unfold dr
   obtain ⟨hw,hs⟩:=yO h1
   rw[hw,← hs]
   obtain ⟨b,fr1⟩:=b
   dsimp only at h ⊢
   cases b with
   | false =>
     have:=fi hC r _ _ _ h
     rw[lY] at this
     exact this
   | true =>
     rw[cond_true] at h
     obtain ⟨y,h2,h⟩:=Tr.bind_some h
     have h2:=zF hC h2
     rw[gh] at h2
     have:=fi hC r _ _ _ h
     rw[lY,D1] at this
     rw[if_pos rfl]
     dsimp only
     rw[h2]
     exact this

def oP (fr:aK) (o:Oper):Touch:=jZ (strip fr) o
def pn (P:Program) (call:aJ) (callR:bz) (ops:Array Oper) (bef:Nat) (fr0:aK) (H:aa) (nx:Nat) (recs:List Rec) (o:Oper):Tr (tk×Option Nat×aK) :=
 (Bu ops fr0 o).bind fun b=>cond b.1
   (cond (eI o) ((JZ o.op o P call callR b.2 (oE (iv bef recs H)) nx).bind fun y=>.ok (⟨y.1.1,.all,none⟩,y.1.2,b.2))
     ((JZ o.op o P call callR b.2 (iv bef recs H) nx).bind fun y=>match y.2 with
       | .aX=>.ok (⟨y.1.1,oP b.2 o,none⟩,y.1.2,b.2)
       | .push q=>cond (fL o && !eu q && oB (er H 0 nx) && !ff H 0) (.ok (⟨y.1.1,oP b.2 o,some (0,nx,(0,q))⟩,y.1.2,b.2)) .bad
       | .set d i q=>.req (fB (gi (er H d i).1 q.1) (gi q.1 (Nat.succ (er H d i).1))) (cond (!eu q.2 && !eu (er (iv bef recs H) d i).2 && iD bef d i recs) (.ok (⟨y.1.1,oP b.2 o,some (d,i,q)⟩,y.1.2,b.2)) .bad)
       | _=>.bad))
   (.ok (⟨.tup [],.none,none⟩,none,b.2))
theorem vu {P:Program} {call:aJ} {callR:bz} (hC:callR.Ok call) {ops:Array Oper} {bef:Nat} {fr:aK} {H:aa} {nx:Nat} {recs:List Rec} {o:Oper} {e:tk×Option Nat×aK} (h:(pn P call callR ops bef fr H nx recs o).run=some e) :
 eh P call ops bef (strip fr) H nx recs o=some e.1∧strip e.2.2=strip fr:=by
 unfold pn at h
 unfold eh
 simp only[jL,qy,oP,qF,gD,dL] at h
 obtain ⟨b,h1,h⟩:=Tr.bind_some h
 obtain ⟨hw,hs⟩:=yO h1
 rw[hw,← hs]
 obtain ⟨b,fr1⟩:=b
 dsimp only at h ⊢
 cases b with
 | false =>
   rw[cond_false] at h
   rw[← Tr.ab h];exact ⟨rfl,rfl⟩
 | true =>
   rw[cond_true] at h
   rw[if_pos rfl]
   dsimp only
   cases hcv:eI o with
   | true =>
     rw[hcv,cond_true] at h
     obtain ⟨y,h2,h⟩:=Tr.bind_some h
     rw[if_pos rfl,zF hC h2,← Tr.ab h]
     exact ⟨rfl,rfl⟩
   | false =>
     rw[hcv,cond_false] at h
     obtain ⟨y,h2,h⟩:=Tr.bind_some h
     rw[if_neg (by simp),zF hC h2]
     split at h
     · rename_i hy
       rw[hy,← Tr.ab h];exact ⟨rfl,rfl⟩
     · rename_i b hy
       obtain ⟨hc,h⟩:=Tr.aM h
       rw[hy]
       dsimp only
       rw[if_pos hc,← Tr.ab h];exact ⟨rfl,rfl⟩
     · rename_i d i b hy
       obtain ⟨hv,h⟩:=Tr.aI h
       obtain ⟨hc,h⟩:=Tr.aM h
       rw[hy]
       dsimp only
       rw[nK,kB,kB,Bool.and_eq_true,decide_eq_true_eq,decide_eq_true_eq] at hv
       have hv':(Nat.beq b.1 (ao H d i).1 || Nat.beq b.1 (Nat.succ (ao H d i).1))=true:=by
        simp only[Bool.or_eq_true,Nat.beq_eq];omega
       simp only[Bool.and_eq_true] at hc
       rw[if_pos (by simp only[Bool.and_eq_true];exact ⟨⟨⟨hc.1.1,hv'⟩,hc.1.2⟩,hc.2⟩),← Tr.ab h];exact ⟨rfl,rfl⟩
     · exact (Tr.ae h).elim
def ob (P:Program) (nt:Nat) (call:aJ) (callR:bz) (ops:Array Oper) (befs:Array Nat):List Oper→Nat→aK→aa→Nat→List Rec→Tr (aK×aa)
 | [],_,fr,H,_,_=>.ok (fr,H)
 | o::r,j,fr,H,nx,recs=>(pn P call callR ops (befs.getD j 0) fr H nx recs o).bind fun e =>
   ob P nt call callR ops befs r (j+1) (qC nt e.2.2 o.dst (e.1.v,e.2.1)) (yi H e.1.wr) (if fL o then nx+1 else nx) (⟨j,e.1.rd,e.1.wr.map fun x=>(x.1,x.2.1)⟩::recs)
theorem qe {P:Program} {nt:Nat} {call:aJ} {callR:bz} (hC:callR.Ok call) {ops:Array Oper} {befs:Array Nat}:∀ (l:List Oper) (j:Nat) (fr:aK) (H:aa) (nx:Nat) (recs:List Rec) (x:aK×aa),
 (ob P nt call callR ops befs l j fr H nx recs).run=some x→fb P nt call ops befs j l (strip fr) H nx recs=some (strip x.1,x.2)
 | [],j,fr,H,nx,recs,x,h=>by rw[← Tr.ab h];rfl
 | o::r,j,fr,H,nx,recs,x,h=>by
   simp only[ob] at h
   obtain ⟨e,h1,h⟩:=Tr.bind_some h
   obtain ⟨hd,hs⟩:=vu hC h1
   unfold fb
   rw[hd,← hs]
   have:=qe hC r _ _ _ _ _ _ h
   rw[lY,yj] at this
   exact this

def aV:Code→List (Nat×Code)
 | .block id b=>(id,b)::aV b
 | .loop b=>aV b
 | .seq a b=>aV a++aV b
 | .cond _ a b=>aV a++aV b
 | .scope b=>aV b
 | _=>[]
def bQ (f:Func):Code:=match f.body with | some c=>c | none=>.skip
abbrev fz:=Ex×aK×aa
def fz.st (x:fz):Ex×au×aa:=(x.1,strip x.2.1,x.2.2)
abbrev gz:=Nat→aK→aa→Option (Tr fz)
abbrev rz:=Operand→aK→aa→Option (Tr fz)
def gz.Ok (bl:gz) (cx:Cx) (c:Code):Prop:=∀ id b,(id,b) ∈ aV c→∀ fr H t x,bl id fr H=some t→t.run=some x→exec cx (.block id b) (strip fr) H=some x.st
def eA:Code→List (Operand×Array Tmp×Code×Code)
 | .rangeFunc f ps a b=>[(f,ps,a,b)]
 | .loop b=>eA b
 | .block _ b=>eA b
 | .seq a b=>eA a++eA b
 | .cond _ a b=>eA a++eA b
 | .scope b=>eA b
 | _=>[]
def rz.Ok (rg:rz) (cx:Cx) (c:Code):Prop:=∀ f ps a b,(f,ps,a,b) ∈ eA c→∀ fr H t x,rg f fr H=some t→t.run=some x→exec cx (.rangeFunc f ps a b) (strip fr) H=some x.st
def eT (bl:gz) (id0:Nat) (fr0:au) (H0:aa) (u:Tr fz):gz:=fun id fr H=>cond (Nat.beq id id0) (some (.reqP (strip fr=fr0∧H=H0) u)) (bl id fr H)
theorem bu {bl:gz} {cx:Cx} {c:Code} (h:bl.Ok cx c) {id0:Nat} {fr0:au} {H0:aa} {u:Tr fz} {B:Code} (hB:∀ b,(id0,b) ∈ aV c→b=B) (k:∀ x,u.run=some x→exec cx (.block id0 B) fr0 H0=some x.st):(eT bl id0 fr0 H0 u).Ok cx c:=by
 intro id b hm fr H t y ht hy
 unfold eT at ht
 cases hb:Nat.beq id id0 with
 | true =>
   have xm:=Nat.eq_of_beq_eq_true hb
   subst xm
   rw[hb,cond_true,Option.some.injEq] at ht
   subst ht
   obtain ⟨⟨h1,h2⟩,h3⟩:=Tr.dO hy
   rw[h1,h2,hB b hm]
   exact k y h3
 | false =>
   rw[hb,cond_false] at ht
   exact h id b hm fr H t y ht hy
def La (rg:rz) (tf:Operand→Bool) (fr0:au) (H0:aa) (u:Tr fz):rz:=fun f fr H=>cond (tf f) (some (.reqP (strip fr=fr0∧H=H0) u)) (rg f fr H)
theorem Eh {rg:rz} {cx:Cx} {c:Code} (h:rg.Ok cx c) {tf:Operand→Bool} {fr0:au} {H0:aa} {u:Tr fz} (k:∀ f ps a b,tf f=true→(f,ps,a,b) ∈ eA c→∀ x,u.run=some x→exec cx (.rangeFunc f ps a b) fr0 H0=some x.st):(La rg tf fr0 H0 u).Ok cx c:=by
 intro f ps a b hm fr H t y ht hy
 unfold La at ht
 cases hb:tf f with
 | true =>
   rw[hb,cond_true,Option.some.injEq] at ht
   subst ht
   obtain ⟨⟨h1,h2⟩,h3⟩:=Tr.dO hy
   rw[h1,h2]
   exact k f ps a b hb hm y h3
 | false =>
   rw[hb,cond_false] at ht
   exact h f ps a b hm fr H t y ht hy
def a6:gz:=fun _ _ _=>none
def a7:rz:=fun _ _ _=>none
theorem af (cx:Cx) (c:Code):a6.Ok cx c:=fun _ _ _ _ _ _ _ h=>by cases h
theorem ag (cx:Cx) (c:Code):a7.Ok cx c:=fun _ _ _ _ _ _ _ _ _ h=>by cases h
def xR (g:AV→AV):aK→aK
 | []=>[]
 | (x,(v,h))::r=>(x,(mF g v,h))::xR g r
theorem xS (g:AV→AV):∀ fr:aK,strip (xR g fr)=pP g (strip fr)
 | []=>rfl
 | (x,(v,h))::r=>by
   have e:xR g ((x,(v,h))::r)=(x,(mF g v,h))::xR g r:=rfl
   rw[e,cW,cW,pP,xS g r]
def kP (n:Nat):Nat→aK→aa→aK×aa
 | 0,fr,H=>(fr,H)
 | k + 1,fr,H=>match H with
   | []=>(fr,[])
   | l::r=>cond (Nat.ble (g6 l.bs) (Nat.succ n)) (fr,l::r) (match hole (strip fr) l.bs 4 n with
     | none=>(fr,l::r)
     | some h=>kP n k (xR (tM (l.bs.length-1) h) fr) (kU n (pP (tM (l.bs.length-1) h) (strip fr)) (wC (l.bs.length-1) h l::r)))
theorem s7 (n:Nat):∀ (k:Nat) (fr:aK) (H:aa),(strip (kP n k fr H).1,(kP n k fr H).2)=iM n k (strip fr) H
 | 0,fr,H=>rfl
 | k+1,fr,[]=>rfl
 | k + 1,fr,l::r=>by
   cases hb:Nat.ble (g6 l.bs) (Nat.succ n) with
   | true =>
     have:kP n (k+1) fr (l::r)=(fr,l::r):=by
      unfold kP;dsimp only;rw[hb];rfl
     rw[this,s9 (by rw[c8] at hb;simpa using hb)]
   | false =>
     unfold kP iM
     dsimp only
     rw[hb,cond_false]
     cases hole (strip fr) l.bs 4 n with
     | none=>rfl
     | some h =>
       dsimp only
       rw[s7 n k,xS]
def Bp (n:Nat) (fr:aK) (H:aa):aK×aa:=kP n 4 fr (kU n (strip fr) H)
theorem EB (n:Nat) (fr:aK) (H:aa):(strip (Bp n fr H).1,(Bp n fr H).2)=tidy n (strip fr) H:=s7 n 4 fr _
def AK (body:aK→aa→Tr fz) (n:Nat):Nat→aK→aa→Tr fz
 | 0,_,_=>.bad
 | k+1,fr,H=>(body fr H).bind fun x=>match x with
   | (.normal,fr,H)=>AK body n k (Bp n fr H).1 (Bp n fr H).2
   | r=>.ok r
theorem uy {body:au→aa→Option (Ex×au×aa)} {n:Nat}:∀ (k m:Nat) (fr:au) (H:aa) (x:Ex×au×aa),iter body n k fr H=some x→k≤m→iter body n m fr H=some x
 | 0,m,fr,H,x,h,_=>by simp[iter] at h
 | k+1,0,fr,H,x,h,hk=>by omega
 | k + 1,m+1,fr,H,x,h,hk=>by
   unfold iter at h ⊢
   cases hb:body fr H with
   | none=>rw[hb] at h;simp at h
   | some y =>
     rw[hb] at h
     obtain ⟨e,f,g⟩:=y
     cases e
     case normal=>exact uy k m _ _ _ h (by omega)
     all_goals exact h
theorem xz {body:aK→aa→Tr fz} {body':au→aa→Option (Ex×au×aa)} {n:Nat} (hb:∀ fr H x,(body fr H).run=some x→body' (strip fr) H=some x.st):∀ (k:Nat) (fr:aK) (H:aa) (x:fz),(AK body n k fr H).run=some x→iter body' n k (strip fr) H=some x.st
 | 0,fr,H,x,h=>(Tr.ae h).elim
 | k+1,fr,H,x,h=>by
   simp only[AK] at h
   obtain ⟨y,h1,h⟩:=Tr.bind_some h
   unfold iter
   rw[hb _ _ _ h1]
   obtain ⟨e,f,g⟩:=y
   cases e
   case normal =>
    have e:=EB n f g
    have h:=xz hb k _ _ _ h
    show iter body' n k (tidy n (strip f) g).1 (tidy n (strip f) g).2=_
    rw[← e];exact h
   all_goals
    have h:=Tr.ab h
    rw[← h];rfl
def nh (f:AV→Tr AV):List AV→Tr (List AV)
 | []=>.ok []
 | v::l=>(f v).bind fun u=>(nh f l).bind fun m=>.ok (u::m)
theorem eM {f:AV→Tr AV} {g:AV→AV} (hf:∀ v u,(f v).run=some u→g v=u):∀ (l m:List AV),(nh f l).run=some m→l.map g=m
 | [],m,h=>Tr.ab h
 | v::l,m,h=>by
   simp only[nh] at h
   obtain ⟨u,h1,h⟩:=Tr.bind_some h
   obtain ⟨n,h2,h⟩:=Tr.bind_some h
   rw[← Tr.ab h,List.map_cons,hf _ _ h1,eM hf l n h2]
def lT (f:AV→Tr AV):List aW→Tr (List aW)
 | []=>.ok []
 | .one v::l=>(f v).bind fun u=>(lT f l).bind fun m=>.ok (.one u::m)
 | .arr k z n::l=>(lT f l).bind fun m=>.ok (.arr k z n::m)
theorem gE {f:AV→Tr AV} {g:AV→AV} (hf:∀ v u,(f v).run=some u→g v=u):∀ (l m:List aW),(lT f l).run=some m→mapM' g l=m
 | [],m,h=>Tr.ab h
 | .one v::l,m,h=>by
   simp only[lT] at h
   obtain ⟨u,h1,h⟩:=Tr.bind_some h
   obtain ⟨n,h2,h⟩:=Tr.bind_some h
   rw[← Tr.ab h,mapM',hf _ _ h1,gE hf l n h2]
 | .arr k z n::l,m,h=>by
   simp only[lT] at h
   obtain ⟨n,h2,h⟩:=Tr.bind_some h
   rw[← Tr.ab h,mapM',gE hf l n h2]
def qc (cap:Option Nat) (len:Nat):Bool :=
 match cap with
 | none=>false
 | some c=>dJ c len
theorem jE (cap:Option Nat) (len:Nat):qc cap len=(cap == some len):=by
 cases cap with
 | none=>rfl
 | some c=>simp only[qc,gb];rw[Bool.eq_iff_iff];simp
def xt (i ver:Nat) (r:Row):AV→Tr AV
 | .ptr d j v off=>cond (Nat.beq d 0 && Nat.beq j i) (.req (dJ v ver) (.ok (.ptrT none r off))) (.ok (.ptr d j v off))
 | .slc d j v off sz len cap=>cond (Nat.beq d 0 && Nat.beq j i) (.req (dJ v ver) (match r with
    | .M [.arr k z N]=>.req (qu off (iE len sz) 0 N) (.ok (.slcT none (.M [.arr k (qL z off) (iE len sz)]) sz len (qc cap len)))
    | .I k l=>cond (tE (.I k l) off (Nat.mul len sz)) (.ok (.slcT none (.I k (gW (kV l off) (Nat.mul len sz))) sz len (qc cap len))) .bad
    | _=>.bad)) (.ok (.slc d j v off sz len cap))
 | v=>.ok v
theorem tY {d j i:Nat} {x:Bool} (h:(Nat.beq d 0 && Nat.beq j i)=true):(Nat.beq d 0 && (Nat.beq j i && x))=x:=by
 rw[Bool.and_eq_true] at h
 rw[h.1,h.2];rfl
theorem tZ {d j i:Nat} {x:Bool} (h:(Nat.beq d 0 && Nat.beq j i)=false):(Nat.beq d 0 && (Nat.beq j i && x))=false:=by
 rw[← Bool.and_assoc,h];rfl
theorem xu {i ver:Nat} {r:Row}:∀ v u,(xt i ver r v).run=some u→mE i ver r v=u:=by
 intro v u h
 cases v with
 | ptr d j v off =>
   simp only[xt] at h
   simp only[mE]
   cases hc:(Nat.beq d 0 && Nat.beq j i) with
   | false=>rw[hc,cond_false] at h;rw[tZ hc,if_neg (by simp)];exact Tr.ab h
   | true =>
     rw[hc,cond_true] at h
     obtain ⟨h1,h⟩:=Tr.aI h
     rw[gb,decide_eq_true_eq] at h1
     rw[tY hc,if_pos (by simpa using h1)];exact Tr.ab h
 | slc d j v off sz len cap =>
   simp only[xt] at h
   simp only[mE]
   cases hc:(Nat.beq d 0 && Nat.beq j i) with
   | false=>rw[hc,cond_false] at h;rw[tZ hc,if_neg (by simp)];exact Tr.ab h
   | true =>
     rw[hc,cond_true] at h
     obtain ⟨h1,h2⟩:=Tr.aI h
     clear h
     rw[gb,decide_eq_true_eq] at h1
     rw[tY hc]
     split at h2
     · obtain ⟨h3,h⟩:=Tr.aI h2
       rw[jk,decide_eq_true_eq,b7] at h3
       rw[if_pos (by simp[h1,Row.len,ay,aG];omega),← Tr.ab h,jE,b7,jx]
       rfl
     · obtain ⟨h3,h⟩:=Tr.aM h2
       rw[kr,decide_eq_true_eq] at h3
       rw[if_pos (by simp only[h1,Bool.and_eq_true];exact ⟨by simp,Nat.ble_eq_true_of_le h3⟩),← Tr.ab h,jE,fR,gC]
       rfl
     · exact (Tr.ae h2).elim
 | _=>exact Tr.ab h
def xT (f:AV→Tr AV) (v:AV):Tr AV :=
 match v with
 | .agg (.G l)=>(nh f l).bind fun m=>.ok (.agg (.G m))
 | .agg (.M l)=>(lT f l).bind fun m=>.ok (.agg (.M m))
 | .fn g a b=>(nh f a).bind fun a'=>(nh f b).bind fun b'=>.ok (.fn g a' b')
 | v=>f v
theorem sw {f:AV→Tr AV} {g:AV→AV} (hf:∀ v u,(f v).run=some u→g v=u):∀ v u,(xT f v).run=some u→mF g v=u:=by
 intro v u h
 unfold xT at h
 split at h
 · obtain ⟨m,h1,h⟩:=Tr.bind_some h
   rw[← Tr.ab h,← eM hf _ _ h1];rfl
 · obtain ⟨m,h1,h⟩:=Tr.bind_some h
   rw[← Tr.ab h,← gE hf _ _ h1];rfl
 · obtain ⟨a',h1,h⟩:=Tr.bind_some h
   obtain ⟨b',h2,h⟩:=Tr.bind_some h
   rw[← Tr.ab h,← eM hf _ _ h1,← eM hf _ _ h2];rfl
 · rename_i n1 n2 n3
   have:=hf _ _ h
   rw[← this]
   unfold mF
   split
   · exact absurd rfl (n1 _)
   · exact absurd rfl (n2 _)
   · exact absurd rfl (n3 _ _ _)
   · rfl
def DF (f:AV→Tr AV):al→Tr al
 | .row r=>match r with
   | .G l=>(nh (xT f) l).bind fun m=>.ok (.row (.G m))
   | .M l=>(lT (xT f) l).bind fun m=>.ok (.row (.M m))
   | r=>.ok (.row r)
 | b=>.ok b
theorem DG {f:AV→Tr AV} {g:AV→AV} (hf:∀ v u,(f v).run=some u→g v=u) (b u:al) (h:(DF f b).run=some u):pO g b=u:=by
 cases b with
 | row r =>
   simp only[DF] at h
   cases r with
   | G l =>
     obtain ⟨m,h1,h⟩:=Tr.bind_some h
     rw[← Tr.ab h,← eM (sw hf) _ _ h1];rfl
   | M l =>
     obtain ⟨m,h1,h⟩:=Tr.bind_some h
     rw[← Tr.ab h,← gE (sw hf) _ _ h1];rfl
   | I k l=>rw[← Tr.ab h];rfl
   | F z n=>rw[← Tr.ab h];rfl
 | dead=>exact Tr.ab h
 | map es=>exact Tr.ab h
 | fmap kq f g c=>exact Tr.ab h
 | loop l=>exact Tr.ab h
def vO (f:AV→Tr AV):List (Nat×al)→Tr (List (Nat×al))
 | []=>.ok []
 | (v,b)::r=>(DF f b).bind fun b'=>(vO f r).bind fun r'=>.ok ((v,b')::r')
theorem uD {f:AV→Tr AV} {g:AV→AV} (hf:∀ v u,(f v).run=some u→g v=u):∀ (l m:List (Nat×al)),(vO f l).run=some m→jb g l=m
 | [],m,h=>Tr.ab h
 | (v,b)::r,m,h=>by
   simp only[vO] at h
   obtain ⟨b',h1,h⟩:=Tr.bind_some h
   obtain ⟨r',h2,h⟩:=Tr.bind_some h
   rw[← Tr.ab h,jb,DG hf _ _ h1,uD hf r r' h2]
def AO (f:AV→Tr AV):aK→Tr aK
 | []=>.ok []
 | (x,(v,h))::r=>(xT f v).bind fun v'=>(AO f r).bind fun r'=>.ok ((x,(v',h))::r')
theorem xQ {f:AV→Tr AV} {g:AV→AV} (hf:∀ v u,(f v).run=some u→g v=u):∀ (l m:aK),(AO f l).run=some m→pP g (strip l)=strip m
 | [],m,h=>by rw[← Tr.ab h];rfl
 | (x,(v,hh))::r,m,h=>by
   simp only[AO] at h
   obtain ⟨v',h1,h⟩:=Tr.bind_some h
   obtain ⟨r',h2,h⟩:=Tr.bind_some h
   rw[← Tr.ab h,cW,cW,pP,sw hf _ _ h1,xQ hf r r' h2]
def sl (i:Nat) (fr:aK) (l:bo):Tr (aK×bo) :=
 match zB l.bs i with
 | (ver,.row r)=>cond (vH r && (tr (fun x=>pf (oV i) x.2) (strip fr) || tr (fun x=>IM (oV i) x.2) l.bs)) ((AO (xt i ver r) fr).bind fun fr'=>(vO (xt i ver r) l.bs).bind fun bs'=>.ok (fr',{ l with bs:=bA bs' i (ver,.dead) })) (.ok (fr,l))
 | _=>.ok (fr,l)
theorem pE {i:Nat} {fr:aK} {l:bo} {y:aK×bo} (h:(sl i fr l).run=some y):lK i (strip fr) l=(strip y.1,y.2):=by
 unfold sl at h
 unfold lK
 rw[rh] at h
 split at h
 · rename_i ver r hb
   rw[hb]
   dsimp only
   rw[nL,nL] at h
   cases hc:(vH r && ((strip fr).any (fun x=>pf (oV i) x.2) || l.bs.any (fun x=>IM (oV i) x.2))) with
   | true =>
     rw[hc,cond_true] at h
     obtain ⟨fr',h1,h⟩:=Tr.bind_some h
     obtain ⟨bs',h2,h⟩:=Tr.bind_some h
     rw[if_pos rfl,xQ xu _ _ h1,uD xu _ _ h2,← Tr.ab h]
   | false =>
     rw[hc,cond_false] at h
     rw[if_neg (by simp),← Tr.ab h]
 · rename_i hno
   have h:=Tr.ab h
   subst h
   split
   · rename_i ver r hb
     exact absurd hb (hno ver r)
   · rfl
def q8:Nat→aK→bo→Tr (aK×bo)
 | 0,fr,l=>.ok (fr,l)
 | n+1,fr,l=>(q8 n fr l).bind fun y=>sl n y.1 y.2
theorem sj:∀ (n:Nat) (fr:aK) (l:bo) (y:aK×bo),(q8 n fr l).run=some y→iz n (strip fr) l=(strip y.1,y.2)
 | 0,fr,l,y,h=>by rw[← Tr.ab h];rfl
 | n+1,fr,l,y,h=>by
   simp only[q8] at h
   obtain ⟨z,h1,h⟩:=Tr.bind_some h
   have h1:=sj n fr l z h1
   simp only[iz]
   rw[h1]
   exact pE h
def oz:Nat→aK→bo→Tr (aK×bo)
 | 0,fr,l=>.ok (fr,l)
 | n+1,fr,l=>(oz n fr l).bind fun y=>cond (tr (fun x=>pf (oV n) x.2) (strip y.1)) (.ok y) (sl n y.1 y.2)
theorem qq:∀ (n:Nat) (fr:aK) (l:bo) (y:aK×bo),(oz n fr l).run=some y→dT n (strip fr) l=(strip y.1,y.2)
 | 0,fr,l,y,h=>by rw[← Tr.ab h];rfl
 | n + 1,fr,l,y,h=>by
   simp only[oz] at h
   obtain ⟨z,h1,h⟩:=Tr.bind_some h
   have h1:=qq n fr l z h1
   simp only[dT]
   rw[h1]
   dsimp only
   rw[nL] at h
   cases hc:(strip z.1).any (fun x=>pf (oV n) x.2) with
   | true =>
     rw[hc,cond_true] at h
     rw[if_pos rfl,Tr.ab h]
   | false =>
     rw[hc,cond_false] at h
     rw[if_neg (by simp)]
     exact pE h
def AM (s:Nat):aK→Option Nat
 | []=>none
 | (x,(v,_))::r=>cond (Nat.beq x s) (match v with
   | .slc 0 i _ _ _ _ _=>some i
   | _=>none) (AM s r)
theorem xH (s:Nat):∀ fr:aK,AM s fr=AL s (strip fr)
 | []=>rfl
 | (x,(v,h))::r=>by
   rw[cW]
   simp only[AM,AL,xH s r]
   cases Nat.beq x s<;>rfl
def vG (s:Nat) (fr:aK) (H:aa):Tr (aK×aa) :=
 match H with
 | []=>.ok (fr,[])
 | l::r=>cond l.lock (.ok (fr,l::r)) (match AM s fr with
   | some i=>(sl i fr l).bind fun y=>.ok (y.1,y.2::r)
   | none=>.ok (fr,l::r))
theorem zj {s:Nat} {fr:aK} {H:aa} {y:aK×aa} (h:(vG s fr H).run=some y):vF s (strip fr) H=(strip y.1,y.2):=by
 unfold vG at h
 unfold vF
 cases H with
 | nil=>rw[← Tr.ab h]
 | cons l r =>
   dsimp only at h ⊢
   cases hl:l.lock with
   | true =>
     rw[hl,cond_true] at h
     rw[if_pos rfl,← Tr.ab h]
   | false =>
     rw[hl,cond_false,xH] at h
     rw[if_neg (by simp)]
     split at h
     · rename_i i hi
       obtain ⟨z,h1,h⟩:=Tr.bind_some h
       have h1:=pE h1
       rw[hi]
       dsimp only
       rw[h1,← Tr.ab h]
     · rename_i hi
       rw[hi,← Tr.ab h]
def zi (m:Nat) (fr:aK) (H:aa):Tr (aK×aa) :=
 cond (nj m 4000) (match H with
  | []=>.ok (gf fr m,[])
  | l::r=>cond l.lock (.ok (gf fr m,l::r)) ((q8 (g6 l.bs) (gf fr m) l).bind fun y=>.ok (y.1,cond (Nat.beq (Nat.shiftRight m 4003) 0) (y.2::r) (DW (Nat.shiftRight m 4003) (y.2::r))))) (cond (nj m 4001) (vG (Nat.shiftRight m 4003) (gf fr m) H) (cond (nj m 4002) (u0 (gf fr m) (Nat.shiftRight m 4003) (fun fr=>.ok (fr,H)) (fun fr=>match H with
  | []=>.ok (fr,[])
  | l::r=>cond l.lock (.ok (fr,l::r)) ((oz (g6 l.bs) fr l).bind fun y=>.ok (y.1,y.2::r)))) (.ok (gf fr m,H))))
theorem BY {m:Nat} {fr:aK} {H:aa} {y:aK×aa} (h:(zi m fr H).run=some y):lL m (strip fr) H=(strip y.1,y.2):=by
 unfold zi at h
 unfold lL
 cases hm:nj m 4000 with
 | false =>
   rw[hm,cond_false] at h
   rw[if_neg (by simp)]
   cases hm2:nj m 4001 with
   | false =>
     rw[hm2,cond_false] at h
     rw[if_neg (by simp)]
     cases hm3:nj m 4002 with
     | false =>
       rw[hm3,cond_false] at h
       rw[if_neg (by simp),← Tr.ab h,eE]
     | true =>
       rw[hm3,cond_true] at h
       rw[if_pos rfl]
       obtain ⟨b,fr',h1,h2,h3⟩:=kO h
       rw[eE] at h1 h2
       rw[h1]
       cases b with
       | true =>
         simp only[if_true] at h3
         rw[← Tr.ab h3,h2]
       | false =>
         simp only[Bool.false_eq_true,if_false] at h3
         cases H with
         | nil =>
           dsimp only at h3
           rw[← Tr.ab h3,← h2];rfl
         | cons l r =>
           dsimp only at h3
           show tG (bF (strip fr) m) (l::r)=_
           rw[← h2]
           unfold tG
           dsimp only
           cases hl:l.lock with
           | true =>
             rw[hl,cond_true] at h3
             rw[if_pos rfl,← Tr.ab h3]
           | false =>
             rw[hl,cond_false] at h3
             obtain ⟨z,h4,h5⟩:=Tr.bind_some h3
             have h4:=qq _ _ _ _ h4
             rw[c8] at h4
             rw[if_neg (by simp),h4,← Tr.ab h5]
   | true =>
     rw[hm2,cond_true] at h
     rw[if_pos rfl]
     have h1:=zj h
     rw[eE] at h1
     exact h1
 | true =>
   rw[hm,cond_true] at h
   rw[if_pos rfl]
   cases H with
   | nil =>
     rw[← Tr.ab h,eE]
     simp only[BX,DW,ite_self]
   | cons l r =>
     dsimp only at h
     unfold BX
     dsimp only
     cases hl:l.lock with
     | true =>
       rw[hl,cond_true] at h
       simp only[if_true]
       rw[← Tr.ab h,eE]
       simp only[DW,hl,if_true,ite_self]
     | false =>
       rw[hl,cond_false] at h
       obtain ⟨z,h1,h⟩:=Tr.bind_some h
       have h1:=sj _ _ _ _ h1
       rw[c8,eE] at h1
       simp only[Bool.false_eq_true,if_false,h1]
       rw[← Tr.ab h]
       cases Nat.beq (Nat.shiftRight m 4003) 0<;>rfl
def aP (cx:Cx) (callR:bz) (bl:gz) (rg:rz):Code→aK→aa→Tr fz
 | .skip,fr,H=>.ok (.normal,fr,H)
 | .label _,fr,H=>.ok (.normal,fr,H)
 | .exit id,fr,H=>.ok (.exit id,fr,H)
 | .goto l,fr,H=>.ok (.goto l,fr,H)
 | .ret,fr,H=>.ok (.ret,fr,H)
 | .region id ops draw,fr,H =>
   (cond draw (cond (eP ops (Region.before ops)) (ob cx.P cx.nt cx.call callR ops (Region.before ops) ops.toList 0 fr (jN H (cq ops.toList)) (fg H) []) .bad) (ib cx.P cx.nt cx.call callR ops ops.toList fr H)).bind fun x=>(zi (cx.kt id) x.1 x.2).bind fun y=>.ok (.normal,y.1,y.2)
 | .seq a b,fr,H=>(aP cx callR bl rg a fr H).bind fun x=>match x with
   | (.normal,fr,H)=>aP cx callR bl rg b fr H
   | r=>.ok r
 | .cond c a b,fr,H=>match c with
   | .tmp d=>u0 fr d (fun fr=>aP cx callR bl rg a fr H) (fun fr=>aP cx callR bl rg b fr H)
   | c=>match (bP fr c).1 with
     | .bool t=>cond t (aP cx callR bl rg a fr H) (aP cx callR bl rg b fr H)
     | _=>.bad
 | .block id b,fr,H=>match bl id fr H with
   | some t=>t
   | none=>(aP cx callR bl rg b fr H).bind fun x=>match x with
     | (.exit id',fr,H)=>cond (Nat.beq id' id) (.ok (.normal,fr,H)) (.ok (.exit id',fr,H))
     | r=>.ok r
 | .scope b,fr,H=>(aP cx callR bl rg b fr H).bind fun x=>match x with
   | (.goto _,_,_)=>.bad
   | r=>.ok r
 | .rangeFunc f _ _ _,fr,H=>match rg f fr H with
   | some t=>t
   | none=>.bad
 | .loop b,fr,H=>cond (Nat.ble 12 cx.fu) (AK (aP cx callR bl rg b) (fg H) 12 fr H) .bad
 | .refuse _,_,_=>.bad

theorem lC {cx:Cx} {callR:bz} {bl:gz} {rg:rz} (hC:callR.Ok cx.call):∀ (c:Code),bl.Ok cx c→rg.Ok cx c→∀ (fr:aK) (H:aa) (x:fz),(aP cx callR bl rg c fr H).run=some x→exec cx c (strip fr) H=some x.st:=by
 intro c
 induction c with
 | skip=>intro _ _ fr H x h;rw[← Tr.ab h];rfl
 | label=>intro _ _ fr H x h;rw[← Tr.ab h];rfl
 | exit=>intro _ _ fr H x h;rw[← Tr.ab h];rfl
 | goto=>intro _ _ fr H x h;rw[← Tr.ab h];rfl
 | ret=>intro _ _ fr H x h;rw[← Tr.ab h];rfl
 | refuse=>intro _ _ fr H x h;exact (Tr.ae h).elim
 | loop b ih =>
   intro hb hr fr H x h
   simp only[aP] at h
   obtain ⟨hk,h⟩:=Tr.aM h
   rw[Nat.ble_eq] at hk
   unfold exec
   rw[gh] at h
   exact uy _ _ _ _ _ (xz (fun fr H x h=>ih hb hr fr H x h) 12 fr H x h) hk
 | rangeFunc f ps a b =>
   intro _ hr fr H x h
   simp only[aP] at h
   split at h
   · rename_i t ht
     exact hr f ps a b (by simp[eA]) fr H t x ht h
   · exact (Tr.ae h).elim
 | region id ops draw =>
   intro _ _ fr H x h
   simp only[aP] at h
   obtain ⟨y,h1,h⟩:=Tr.bind_some h
   obtain ⟨z,h2,h⟩:=Tr.bind_some h
   have h2:=BY h2
   rw[← Tr.ab h]
   unfold exec
   cases draw with
   | true =>
     rw[cond_true] at h1
     obtain ⟨hs,h1⟩:=Tr.aM h1
     rw[gh] at h1
     simp only[if_true,hs]
     rw[qe hC _ _ _ _ _ _ _ h1]
     dsimp only
     rw[h2]
     rfl
   | false =>
     rw[cond_false] at h1
     simp only[Bool.false_eq_true,if_false]
     rw[fi hC _ _ _ _ h1]
     dsimp only
     rw[h2]
     rfl
 | seq a b iha ihb =>
   intro hb hr fr H x h
   have hba:bl.Ok cx a:=fun id b' hm=>hb id b' (List.mem_append_left _ hm)
   have hbb:bl.Ok cx b:=fun id b' hm=>hb id b' (List.mem_append_right _ hm)
   have hra:rg.Ok cx a:=fun f ps u v hm=>hr f ps u v (List.mem_append_left _ hm)
   have hrb:rg.Ok cx b:=fun f ps u v hm=>hr f ps u v (List.mem_append_right _ hm)
   simp only[aP] at h
   obtain ⟨y,h1,h⟩:=Tr.bind_some h
   have h1:=iha hba hra _ _ _ h1
   unfold exec
   rw[h1]
   obtain ⟨e,fr1,H1⟩:=y
   cases e
   case normal=>exact ihb hbb hrb _ _ _ h
   all_goals
    have h:=Tr.ab h
    rw[← h];rfl
 | cond c a b iha ihb =>
   intro hb hr fr H x h
   have hba:bl.Ok cx a:=fun id b' hm=>hb id b' (List.mem_append_left _ hm)
   have hbb:bl.Ok cx b:=fun id b' hm=>hb id b' (List.mem_append_right _ hm)
   have hra:rg.Ok cx a:=fun f ps u v hm=>hr f ps u v (List.mem_append_left _ hm)
   have hrb:rg.Ok cx b:=fun f ps u v hm=>hr f ps u v (List.mem_append_right _ hm)
   simp only[aP] at h
   unfold exec
   split at h
   · rename_i d
     obtain ⟨b',fr',h1,h2,h3⟩:=kO h
     have e:bB (strip fr) (.tmp d)=.bool b':=h1
     rw[e,← h2]
     cases b' with
     | true=>exact iha hba hra _ _ _ h3
     | false=>exact ihb hbb hrb _ _ _ h3
   · rename_i c' hne
     rw[aQ] at h
     split at h
     · rename_i t hc
       rw[hc]
       cases t with
       | true=>exact iha hba hra _ _ _ h
       | false=>exact ihb hbb hrb _ _ _ h
     · exact (Tr.ae h).elim
 | block id b ih =>
   intro hb hr fr H x h
   have hbb:bl.Ok cx b:=fun id' b' hm=>hb id' b' (by simp only[aV];exact List.mem_cons_of_mem _ hm)
   simp only[aP] at h
   split at h
   · rename_i t ht
     exact hb id b (by simp[aV]) _ _ _ _ ht h
   · obtain ⟨y,h1,h⟩:=Tr.bind_some h
     have h1:=ih hbb hr _ _ _ h1
     unfold exec
     rw[h1]
     obtain ⟨e,fr1,H1⟩:=y
     cases e
     case exit id' =>
      dsimp only[fz.st] at h ⊢
      rw[fC] at h
      split at h
      · rename_i xm
        rw[if_pos xm,← Tr.ab h]
      · rename_i xm
        rw[if_neg xm,← Tr.ab h]
     all_goals
      have h:=Tr.ab h
      rw[← h];rfl
 | scope b ih =>
   intro hb hr fr H x h
   simp only[aP] at h
   obtain ⟨y,h1,h⟩:=Tr.bind_some h
   have h1:=ih hb hr _ _ _ h1
   unfold exec
   rw[h1]
   obtain ⟨e,fr1,H1⟩:=y
   cases e
   case goto=>exact (Tr.ae h).elim
   all_goals
    have h:=Tr.ab h
    rw[← h];rfl

end
end Go.Eng
end
section
namespace Go.Eng
noncomputable section

def mD   (bs:List (Nat×al)):Nat→AV→Tr AV
 | 0,_=>.ok .undef
 | n + 1,v=>match v with
   | .ptr d i ver off=>match d with
     | d+1=>.ok (.ptr d i ver off)
     | 0 => match zB bs i with
       | (w,.row r)=>cond (Nat.beq w ver) (match r with
         | .I k l=>.ok (.ptrT none (.I k l) off)
         | .F f m=>.ok (.ptrT none (.F f m) off)
         | .M l=>cond (fw l) (.ok (.ptrT none (.M l) off)) ((lT (mD bs n) l).bind fun m=>.ok (.ptrT (some 0) (.M m) off))
         | .G l=>(nh (mD bs n) l).bind fun m=>.ok (.ptrT (some 0) (.G m) off)) .bad
       | _=>.bad
   | .slc d i ver off sz len cap=>match d with
     | d+1=>.ok (.slc d i ver off sz len cap)
     | 0 => match zB bs i with
       | (w,.row r)=>.req (dJ w ver) (match r with
         | .M [.arr k z N]=>.req (qu off (iE len sz) 0 N) (.ok (.slcT none (.M [.arr k (qL z off) (iE len sz)]) sz len (qc cap len)))
         | .I k l=>cond (tE (.I k l) off (Nat.mul len sz)) (.ok (.slcT none (.I k (gW (kV l off) (Nat.mul len sz))) sz len (qc cap len))) .bad
         | .F f N=>.req (qu off (iE len sz) 0 N) (.ok (.slcT none (.F (fun j=>f (aq off j)) (iE len sz)) sz len (qc cap len)))
         | .G l=>cond (tE (.G l) off (Nat.mul len sz)) ((nh (mD bs n) (gW (kV l off) (Nat.mul len sz))).bind fun m=>.ok (.slcT (some 0) (.G m) sz len (qc cap len))) .bad
         | _=>.bad)
       | _=>.bad
   | .ptrT s r off=>match s with
     | none=>.ok (.ptrT none r off)
     | some (s+1)=>.ok (.ptrT (some s) r off)
     | some 0=>match r with
       | .G l=>(nh (mD bs n) l).bind fun m=>.ok (.ptrT (some 0) (.G m) off)
       | .M l=>cond (fw l) (.ok (.ptrT none (.M l) off)) ((lT (mD bs n) l).bind fun m=>.ok (.ptrT (some 0) (.M m) off))
       | r=>.ok (.ptrT none r off)
   | .slcT s r sz len full=>match s with
     | none=>.ok (.slcT none r sz len full)
     | some (s+1)=>.ok (.slcT (some s) r sz len full)
     | some 0=>match r with
       | .G l=>(nh (mD bs n) l).bind fun m=>.ok (.slcT (some 0) (.G m) sz len full)
       | .M l=>cond (fw l) (.ok (.slcT none (.M l) sz len full)) ((lT (mD bs n) l).bind fun m=>.ok (.slcT (some 0) (.M m) sz len full))
       | r=>.ok (.slcT none r sz len full)
   | .map d i=>match d with
     | d+1=>.ok (.map d i)
     | 0=>.ok .undef
   | .yld d i=>match d with
     | d+1=>.ok (.yld d i)
     | 0=>.ok .undef
   | .fn f a b=>(nh (mD bs n) a).bind fun a'=>(nh (mD bs n) b).bind fun b'=>.ok (.fn f a' b')
   | .agg r=>match r with
     | .G l=>(nh (mD bs n) l).bind fun m=>.ok (.agg (.G m))
     | .M l=>(lT (mD bs n) l).bind fun m=>.ok (.agg (.M m))
     | r=>.ok (.agg r)
   | .tup l=>(nh (mD bs n) l).bind fun m=>.ok (.tup m)
   | v=>.ok v
theorem AA (bs:List (Nat×al)):∀ (n:Nat) (v u:AV),(mD bs n v).run=some u→cG bs n v=u
 | 0,v,u,h=>Tr.ab h
 | n + 1,v,  u,h=>by
   have ih:=AA bs n
   simp only[mD,rh] at h
   cases v with
   | ptr d i ver off =>
     cases d with
     | succ d=>exact Tr.ab h
     | zero =>
       dsimp only at h
       simp only[cG]
       split at h
       · rename_i w r hg
         obtain ⟨hw,h⟩:=Tr.aM h
         rw[hg]
         dsimp only
         rw[if_pos hw]
         cases r with
         | I k l=>exact Tr.ab h
         | F f m=>exact Tr.ab h
         | G l =>
           obtain ⟨m,h1,h⟩:=Tr.bind_some h
           rw[← Tr.ab h,← eM ih _ _ h1]
         | M l =>
           dsimp only at h ⊢
           cases ha:fw l with
           | true=>rw[ha,cond_true] at h;rw[if_pos rfl];exact Tr.ab h
           | false =>
             rw[ha,cond_false] at h
             obtain ⟨m,h1,h⟩:=Tr.bind_some h
             rw[if_neg (by simp),← Tr.ab h,← gE ih _ _ h1]
       · exact (Tr.ae h).elim
   | slc d i ver off sz len cap =>
     cases d with
     | succ d=>exact Tr.ab h
     | zero =>
       dsimp only at h
       simp only[cG]
       split at h
       · rename_i w r hg
         obtain ⟨hw,h'⟩:=Tr.aI h
         clear h
         rw[gb,decide_eq_true_eq] at hw
         subst hw
         rw[hg]
         dsimp only
         split at h'
         · rename_i k z N
           have h:=h'
           obtain ⟨hc,h⟩:=Tr.aI h
           rw[jk,decide_eq_true_eq,b7] at hc
           rw[if_pos ⟨by simp,by simp only[Row.len,ay,aG];omega⟩,← Tr.ab h,jE,b7,jx]
           simp only[Row.sub,fw,if_true]
         · have h:=h'
           obtain ⟨hc,h⟩:=Tr.aM h
           rw[kr,decide_eq_true_eq] at hc
           rw[if_pos ⟨by simp,hc⟩,← Tr.ab h,jE,fR,gC]
           rfl
         · have h:=h'
           obtain ⟨hc,h⟩:=Tr.aI h
           rw[jk,decide_eq_true_eq,b7] at hc
           rw[if_pos ⟨by simp,by simp only[Row.len];omega⟩,← Tr.ab h,jE,b7]
           simp only[Row.sub,ba]
         · have h:=h'
           obtain ⟨hc,h⟩:=Tr.aM h
           rw[kr,decide_eq_true_eq] at hc
           obtain ⟨m,h1,h⟩:=Tr.bind_some h
           rw[fR,gC] at h1
           rw[if_pos ⟨by simp,hc⟩,← Tr.ab h,jE,← eM ih _ _ h1]
           rfl
         · exact (Tr.ae h').elim
       · exact (Tr.ae h).elim
   | ptrT s r off =>
     cases s with
     | none=>exact Tr.ab h
     | some s =>
       cases s with
       | succ s=>exact Tr.ab h
       | zero =>
         simp only[cG]
         cases r with
         | I k l=>exact Tr.ab h
         | F f m=>exact Tr.ab h
         | G l =>
           obtain ⟨m,h1,h⟩:=Tr.bind_some h
           rw[← Tr.ab h,← eM ih _ _ h1]
         | M l =>
           dsimp only at h ⊢
           cases ha:fw l with
           | true=>rw[ha,cond_true] at h;rw[if_pos rfl];exact Tr.ab h
           | false =>
             rw[ha,cond_false] at h
             obtain ⟨m,h1,h⟩:=Tr.bind_some h
             rw[if_neg (by simp),← Tr.ab h,← gE ih _ _ h1]
   | slcT s r sz len full =>
     cases s with
     | none=>exact Tr.ab h
     | some s =>
       cases s with
       | succ s=>exact Tr.ab h
       | zero =>
         simp only[cG]
         cases r with
         | I k l=>exact Tr.ab h
         | F f m=>exact Tr.ab h
         | G l =>
           obtain ⟨m,h1,h⟩:=Tr.bind_some h
           rw[← Tr.ab h,← eM ih _ _ h1]
         | M l =>
           dsimp only at h ⊢
           cases ha:fw l with
           | true=>rw[ha,cond_true] at h;rw[if_pos rfl];exact Tr.ab h
           | false =>
             rw[ha,cond_false] at h
             obtain ⟨m,h1,h⟩:=Tr.bind_some h
             rw[if_neg (by simp),← Tr.ab h,← gE ih _ _ h1]
   | map d i=>cases d<;>exact Tr.ab h
   | yld d i=>cases d<;>exact Tr.ab h
   | fn f a b =>
     obtain ⟨a',h1,h⟩:=Tr.bind_some h
     obtain ⟨b',h2,h⟩:=Tr.bind_some h
     simp only[cG]
     rw[← Tr.ab h,← eM ih _ _ h1,← eM ih _ _ h2]
   | agg r =>
     simp only[cG]
     cases r with
     | I k l=>exact Tr.ab h
     | F f m=>exact Tr.ab h
     | G l =>
       obtain ⟨m,h1,h⟩:=Tr.bind_some h
       rw[← Tr.ab h,← eM ih _ _ h1]
     | M l =>
       obtain ⟨m,h1,h⟩:=Tr.bind_some h
       rw[← Tr.ab h,← gE ih _ _ h1]
   | tup l =>
     obtain ⟨m,h1,h⟩:=Tr.bind_some h
     simp only[cG]
     rw[← Tr.ab h,← eM ih _ _ h1]
   | _=>exact Tr.ab h

def Fa (l:List HV):Nat→aK:=List.rec (motive:=fun _=>Nat→aK) (fun _=>[]) (fun v _ ih x=>(x,(fW 1 v.1,v.2))::ih (Nat.succ x)) l
theorem Aj:∀ (l:List HV) (x:Nat),strip (Fa l x)=dC x (qV l)
 | [],x=>rfl
 | v::l,x=>by
   have e:Fa (v::l) x=(x,(fW 1 v.1,v.2))::Fa l (x+1):=rfl
   rw[e,cW,Aj l];rfl
def hints (f:au):aK:=List.rec (motive:=fun _=>aK) [] (fun p _ ih=>(p.1,(p.2,none))::ih) f
theorem aN:∀ f:au,strip (hints f)=f
 | []=>rfl
 | (x,v)::r=>by
   have e:hints ((x,v)::r)=(x,(v,none))::hints r:=rfl
   rw[e,cW,aN r]
def zM (P:Program) (fr:aK) (H:aa):List ResultVar→Tr (List AV)
 | []=>.ok []
 | .tmp t::r=>(zM P fr H r).bind fun l=>.ok ((kX fr t).1::l)
 | .cell a t::r=>(loadT P H t (bP fr (.tmp a))).bind fun v=>(zM P fr H r).bind fun l=>.ok (v::l)
theorem v7 {P:Program} {fr:aK} {H:aa}:∀ (l:List ResultVar) (vs:List AV),(zM P fr H l).run=some vs→dZ P (strip fr) H l=some vs
 | [],vs,h=>by rw[← Tr.ab h];rfl
 | .tmp t::r,vs,h=>by
   simp only[zM] at h
   obtain ⟨l,h1,h⟩:=Tr.bind_some h
   simp only[dZ]
   rw[v7 r l h1,← Tr.ab h,eV];rfl
 | .cell a t::r,vs,h=>by
   simp only[zM] at h
   obtain ⟨v,h0,h⟩:=Tr.bind_some h
   obtain ⟨l,h1,h⟩:=Tr.bind_some h
   have h0:=xJ h0
   rw[aQ] at h0
   simp only[dZ]
   have e:bB (strip fr) (.tmp a)=bh (strip fr) a:=rfl
   rw[e] at h0
   rw[h0]
   dsimp only
   rw[v7 r l h1,← Tr.ab h];rfl
def G5 (fr:aK) (rs:List ResultVar):Option Nat :=
 match rs with
 | [.tmp t]=>(kX fr t).2
 | _=>none
def IE (P:Program) (rs:List ResultVar) (x:fz):Tr (HV×aa) :=
 match x with
 | (e,fr,l::H)=>match e with
   | .normal | .ret=>(zM P fr (l::H) rs).bind fun vs=>(mD l.bs 5 (one vs)).bind fun v=>.ok ((v,G5 fr rs),H)
   | _=>.bad
 | _=>.bad
theorem Gl {P:Program} {rs:List ResultVar} {x:fz} {y:HV×aa} (h:(IE P rs x).run=some y):∃ l vs,x.2.2=l::y.2∧(x.1=.normal∨x.1=.ret)∧dZ P (strip x.2.1) x.2.2 rs=some vs∧cG l.bs 5 (one vs)=y.1.1:=by
 unfold IE at h
 split at h
 · rename_i e fr l H
   have key:((zM P fr (l::H) rs).bind fun vs=>(mD l.bs 5 (one vs)).bind fun v=>Tr.ok (((v,G5 fr rs),H):HV×aa)).run=some y→∃ vs,l::H=l::y.2∧dZ P (strip fr) (l::H) rs=some vs∧cG l.bs 5 (one vs)=y.1.1:=by
    intro h
    obtain ⟨vs,h1,h⟩:=Tr.bind_some h
    obtain ⟨v,h2,h⟩:=Tr.bind_some h
    have h:=Tr.ab h
    refine ⟨vs,by rw[← h],v7 _ _ h1,?_⟩
    rw[AA _ _ _ _ h2,← h]
   split at h
   · obtain ⟨vs,h1,h2,h3⟩:=key h;exact ⟨l,vs,h1,.inl rfl,h2,h3⟩
   · obtain ⟨vs,h1,h2,h3⟩:=key h;exact ⟨l,vs,h1,.inr rfl,h2,h3⟩
   · exact (Tr.ae h).elim
 · exact (Tr.ae h).elim
def bK (P:Program) (call:aJ) (fu:Nat) (f:FuncId) (fn:Func) (kt:Nat→Nat) (callR:bz) (bl:gz) (rg:rz) (args:List HV) (H:aa):Tr (HV×aa) :=
 (aP ⟨P,call,fu,f,fn.ntmps,kt,none⟩ callR bl rg (bQ fn) (Fa args 0) (⟨false,[]⟩::H)).bind fun x=>IE P fn.results.toList x
theorem wI {P:Program} {ora:aJ→FuncId→List AV→aa→Option (AV×aa)} {KT:FuncId→Nat→Nat} {fu n:Nat} {f:FuncId} {fn:Func} (hf:P.funcs[f]?=some fn) (hb:fn.body.isSome=true) {args:List HV} {H:aa} (ho:ora (cC P ora KT fu n) f (qV args) H=none) (hle:Nat.ble args.length fn.ntmps=true)
 {callR:bz} (hC:callR.Ok (cC P ora KT fu n)) {bl:gz} (hB:bl.Ok ⟨P,cC P ora KT fu n,fu,f,fn.ntmps,KT f,none⟩ (bQ fn)) {rg:rz} (hR:rg.Ok ⟨P,cC P ora KT fu n,fu,f,fn.ntmps,KT f,none⟩ (bQ fn)) {y:HV×aa}
 (h:(bK P (cC P ora KT fu n) fu f fn (KT f) callR bl rg args H).run=some y):cC P ora KT fu (n+1) (.fn f) (qV args) H=some (y.1.1,y.2):=by
 unfold bK at h
 obtain ⟨x,h1,h⟩:=Tr.bind_some h
 have h1:=lC hC _ hB hR _ _ _ h1
 rw[Aj] at h1
 obtain ⟨l,vs,k1,k2,k3,k4⟩:=Gl h
 obtain ⟨c,hc⟩:=Option.isSome_iff_exists.1 hb
 have hbody:bQ fn=c:=by unfold bQ;rw[hc]
 rw[hbody] at h1
 obtain ⟨e,fr,H1⟩:=x
 dsimp only[fz.st] at h1 k1 k2 k3
 rw[k1] at h1 k3
 have hl:(qV args).length=args.length:=by unfold qV;rw[jc,List.length_map]
 simp only[cC,ho,hf,hc,hl,hle,if_true,h1]
 rcases k2 with rfl | rfl<;>simp only[k3]<;>rw[k4]

theorem qO {cx:Cx} {id:Nat} {b:Code} {fr fr1:au} {H H1:aa} (h:iter (exec cx b) (an H) cx.fu fr H=some (.exit id,fr1,H1)):exec cx (.block id (.loop b)) fr H=some (.normal,fr1,H1):=by
 unfold exec
 have:exec cx (.loop b) fr H=some (.exit id,fr1,H1):=by unfold exec;exact h
 rw[this]
 dsimp only
 rw[if_pos (by simp)]
theorem fX {cx:Cx} {id:Nat} {b:Code} {fr fr1:au} {H H1:aa} {e:Ex} (he:∀ id',e=.exit id'→Nat.beq id' id=false) (h:iter (exec cx b) (an H) cx.fu fr H=some (e,fr1,H1)):exec cx (.block id (.loop b)) fr H=some (e,fr1,H1):=by
 unfold exec
 have:exec cx (.loop b) fr H=some (e,fr1,H1):=by unfold exec;exact h
 rw[this]
 cases e with
 | exit id'=>dsimp only;rw[if_neg (by rw[he id' rfl];simp)]
 | _=>rfl
def fN (p:Nat→Bool):Nat→Nat→Nat
 | 0,j=>j
 | k+1,j=>if p j then j else fN p k (j+1)
theorem oj (p:Nat→Bool):∀ (k j:Nat),j≤fN p k j∧fN p k j≤j+k∧(∀ i,j≤i→i<fN p k j→p i=false)∧(fN p k j<j+k→p (fN p k j)=true)
 | 0,j=>⟨Nat.le_refl _,Nat.le_refl _,fun i h1 h2=>absurd h2 (by simp only[fN];omega),fun h=>absurd h (by simp only[fN];omega)⟩
 | k + 1,j=>by
   simp only[fN]
   by_cases h:p j=true
   · rw[if_pos h]
     exact ⟨Nat.le_refl _,by omega,fun i h1 h2=>by omega,fun _=>h⟩
   · rw[if_neg h]
     obtain ⟨h1,h2,h3,h4⟩:=oj p k (j+1)
     refine ⟨by omega,by omega,fun i k1 k2=>?_,fun k1=>h4 (by omega)⟩
     by_cases e:i=j
     · subst e;simpa using h
     · exact h3 i (by omega) k2
theorem pJ {body:au→aa→Option (Ex×au×aa)} {n:Nat} (F:Nat→au) (G:Nat→aa) (N:Nat) (p:Nat→Bool) (X:Nat→Ex×au×aa)
 (hs:∀ j,j<N→p j=false→∃ f g,body (F j) (G j)=some (.normal,f,g)∧tidy n f g=(F (j+1),G (j+1)))
 (hh:∀ j,j<N→p j=true→body (F j) (G j)=some (X j)∧(X j).1≠.normal) (he:body (F N) (G N)=some (X N)∧(X N).1≠.normal) :
 ∀ (k j fu:Nat),j+k=N→k<fu→iter body n fu (F j) (G j)=some (X (fN p k j))
 | 0,j,0,_,h=>by omega
 | 0,j,fu+1,hj,_=>by
   have:j=N:=by omega
   subst this
   unfold iter
   rw[he.1]
   obtain ⟨x,hx⟩:∃ x,x=X j:=⟨_,rfl⟩
   have hn:=he.2
   simp only[fN]
   rw[← hx] at hn ⊢
   obtain ⟨e,f,g⟩:=x
   cases e<;>first | exact absurd rfl hn | rfl
 | k+1,j,0,_,h=>by omega
 | k + 1,j,fu+1,hj,hf=>by
   unfold iter
   cases hp:p j with
   | true =>
     obtain ⟨h1,h2⟩:=hh j (by omega) hp
     rw[h1]
     simp only[fN]
     rw[if_pos hp]
     obtain ⟨x,hx⟩:∃ x,x=X j:=⟨_,rfl⟩
     rw[← hx] at h2 ⊢
     obtain ⟨e,f,g⟩:=x
     cases e<;>first | exact absurd rfl h2 | rfl
   | false =>
     obtain ⟨f,g,h1,h2⟩:=hs j (by omega) hp
     rw[h1]
     dsimp only
     rw[h2]
     simp only[fN]
     rw[if_neg (by rw[hp];simp)]
     exact pJ F G N p X hs hh he k (j+1) fu (by omega) (by omega)
end
end Go.Eng
end
