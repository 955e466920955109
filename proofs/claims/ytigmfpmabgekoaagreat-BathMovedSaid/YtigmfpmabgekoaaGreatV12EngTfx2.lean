/- The engine as a tree: regions, code, calls. -/
import Derived.Test.YtigmfpmabgekoaaGreatV12EngTe
set_option linter.unusedVariables false
set_option linter.unusedSimpArgs false
section
namespace Go.Eng
noncomputable section

def vV (f:aT) (y:Nat) (b:Bool):aT:=List.rec (motive:=fun _=>aT) [] (fun p r ih=>Bool.rec (motive:=fun _=>aT) (p::ih) ((p.1,(.bool b,some 1))::r) (Nat.beq p.1 y)) f
theorem tL:∀ (f:aT) (y:Nat) (b:Bool),br (strip f) y=.bool b→strip (vV f y b)=strip f
 | [],y,b,_=>rfl
 | (x,v)::r,y,b,h=>by
   have e:vV ((x,v)::r) y b=Bool.rec (motive:=fun _=>aT) ((x,v)::vV r y b) ((x,(.bool b,some 1))::r) (Nat.beq x y):=rfl
   rw[da,br] at h
   rw[e]
   cases hb:Nat.beq x y with
   | true =>
     rw[hb] at h
     have h:v.1=.bool b:=h
     show (x,AV.bool b)::strip r=(x,v.1)::strip r
     rw[h]
   | false =>
     rw[hb] at h
     show (x,v.1)::strip (vV r y b)=(x,v.1)::strip r
     rw[tL r y b h]
def wB {α:Type} (fr:aT) (d:Nat) (t e:aT→Tr α):Tr α :=
 match l9 fr d with
 | (.bool b,none)=>.ite b (t (vV fr d true)) (e (vV fr d false))
 | (.bool b,some _)=>cond b (t fr) (e fr)
 | _=>.bad
theorem lV {α:Type} {fr:aT} {d:Nat} {t e:aT→Tr α} {x:α} (h:(wB fr d t e).run=some x):∃ b fr',br (strip fr) d=.bool b∧strip fr'=strip fr∧(if b then t fr' else e fr').run=some x:=by
 unfold wB at h
 split at h
 · rename_i b hg
   have hg':br (strip fr) d=.bool b:=by rw[← fy,hg]
   rcases Tr.gz h with ⟨rfl,h⟩ | ⟨rfl,h⟩
   · exact ⟨true,_,hg',tL _ _ _ hg',h⟩
   · exact ⟨false,_,hg',tL _ _ _ hg',h⟩
 · rename_i b n hg
   have hg':br (strip fr) d=.bool b:=by rw[← fy,hg]
   refine ⟨b,fr,hg',rfl,?_⟩
   cases b<;>exact h
 · exact (Tr.ae h).elim
def Dc (ops:Array Oper) (fr:aT) (o:Oper):Tr (Bool×aT) :=
 match o.guard with
 | none=>.ok (true,fr)
 | some (j,want)=>match (ops[j]?).bind (·.dst) with
   | none=>.bad
   | some d=>match (l9 fr d).1 with
     | .bool _=>cond want (wB fr d (fun fr=>.ok (true,fr)) (fun fr=>.ok (false,fr))) (wB fr d (fun fr=>.ok (false,fr)) (fun fr=>.ok (true,fr)))
     | .tup _=>.ok (false,fr)
     | _=>.bad
theorem Av {ops:Array Oper} {fr:aT} {o:Oper} {r:Bool×aT} (h:(Dc ops fr o).run=some r):iy ops (strip fr) o=(if r.1 then .run else .skip)∧strip r.2=strip fr:=by
 unfold Dc at h
 unfold iy
 cases hg:o.guard with
 | none =>
   rw[hg] at h
   rw[← Tr.ab h];exact ⟨rfl,rfl⟩
 | some jw =>
   obtain ⟨j,want⟩:=jw
   rw[hg] at h
   dsimp only at h ⊢
   cases hd:(ops[j]?).bind (·.dst) with
   | none=>rw[hd] at h;exact (Tr.ae h).elim
   | some d =>
     rw[hd] at h
     dsimp only at h ⊢
     have he:=fy fr d
     rw[he] at h
     cases hv:br (strip fr) d<;>rw[hv] at h<;>try exact (Tr.ae h).elim
     case bool b =>
      dsimp only at h ⊢
      cases want with
      | true =>
        rw[cond_true] at h
        obtain ⟨b',fr',h1,h2,h3⟩:=lV h
        rw[hv] at h1
        cases h1
        cases b<;>(have h3:=Tr.ab h3;rw[← h3];exact ⟨rfl,h2⟩)
      | false =>
        rw[cond_false] at h
        obtain ⟨b',fr',h1,h2,h3⟩:=lV h
        rw[hv] at h1
        cases h1
        cases b<;>(have h3:=Tr.ab h3;rw[← h3];exact ⟨rfl,h2⟩)
     case tup l=>rw[← Tr.ab h];exact ⟨rfl,rfl⟩

def iY (P:Program) (nt:Nat) (call:aS) (callR:bF) (ops:Array Oper):List Oper→aT→aa→Tr (aT×aa)
 | [],fr,H=>.ok (fr,H)
 | o::r,fr,H=>(Dc ops fr o).bind fun b=>cond b.1
   ((Mz o.op o P call callR b.2 H (fM H)).bind fun y=>iY P nt call callR ops r (rK nt b.2 o.dst y.1) (Oe y.2 H))
   (iY P nt call callR ops r (rK nt b.2 o.dst (.tup [],none)) H)
theorem fP {P:Program} {nt:Nat} {call:aS} {callR:bF} (hC:callR.Ok call) {ops:Array Oper}:∀ (l:List Oper) (fr:aT) (H:aa) (x:aT×aa),(iY P nt call callR ops l fr H).run=some x→dK P nt call ops l (strip fr) H=some (strip x.1,x.2)
 | [],fr,H,x,h=>by rw[← Tr.ab h];rfl
 | o :: r,fr,H,x,h=>by
   simp only[iY] at h
   obtain ⟨b,h1,h⟩:=Tr.bind_some h
   unfold dK
   obtain ⟨hw,hs⟩:=Av h1
   rw[hw,← hs]
   obtain ⟨b,fr1⟩:=b
   dsimp only at h ⊢
   cases b with
   | false =>
     have:=fP hC r _ _ _ h
     rw[na] at this
     exact this
   | true =>
     rw[cond_true] at h
     obtain ⟨y,h2,h⟩:=Tr.bind_some h
     have h2:=Be hC h2
     rw[gT] at h2
     have:=fP hC r _ _ _ h
     rw[na,F3] at this
     rw[if_pos rfl]
     dsimp only
     rw[h2]
     exact this

def pT (fr:aT) (o:Oper):Touch:=kV (strip fr) o
def qn (P:Program) (call:aS) (callR:bF) (ops:Array Oper) (bef:Nat) (fr0:aT) (H:aa) (nx:Nat) (recs:List Rec) (o:Oper):Tr (uG×Option Nat×aT) :=
 (Dc ops fr0 o).bind fun b=>cond b.1
   (cond (fj o) ((Mz o.op o P call callR b.2 (pK (jm bef recs H)) nx).bind fun y=>.ok (⟨y.1.1,.all,none⟩,y.1.2,b.2))
     ((Mz o.op o P call callR b.2 (jm bef recs H) nx).bind fun y=>match y.2 with
       | .bf=>.ok (⟨y.1.1,pT b.2 o,none⟩,y.1.2,b.2)
       | .push q=>cond (gA o && !eY q && pH (eX H 0 nx) && !fL H 0) (.ok (⟨y.1.1,pT b.2 o,some (0,nx,(0,q))⟩,y.1.2,b.2)) .bad
       | .set d i q=>.req (gJ (fA (eX H d i).1 q.1) (fA q.1 (Nat.succ (eX H d i).1))) (cond (!eY q.2 && !eY (eX (jm bef recs H) d i).2 && jv bef d i recs) (.ok (⟨y.1.1,pT b.2 o,some (d,i,q)⟩,y.1.2,b.2)) .bad)
       | _=>.bad))
   (.ok (⟨.tup [],.none,none⟩,none,b.2))
theorem w6 {P:Program} {call:aS} {callR:bF} (hC:callR.Ok call) {ops:Array Oper} {bef:Nat} {fr:aT} {H:aa} {nx:Nat} {recs:List Rec} {o:Oper} {e:uG×Option Nat×aT} (h:(qn P call callR ops bef fr H nx recs o).run=some e) :
 eV P call ops bef (strip fr) H nx recs o=some e.1∧strip e.2.2=strip fr:=by
 unfold qn at h
 unfold eV
 simp only[kK,rE,pT,rN,im,ev] at h
 obtain ⟨b,h1,h⟩:=Tr.bind_some h
 obtain ⟨hw,hs⟩:=Av h1
 rw[hw,← hs]
 obtain ⟨b,fr1⟩:=b
 dsimp only at h ⊢
 cases b with
 | false =>
   rw[cond_false] at h
   rw[← Tr.ab h];exact ⟨rfl,rfl⟩
 | true =>
   rw[cond_true] at h
   rw[if_pos rfl]
   dsimp only
   cases hcv:fj o with
   | true =>
     rw[hcv,cond_true] at h
     obtain ⟨y,h2,h⟩:=Tr.bind_some h
     rw[if_pos rfl,Be hC h2,← Tr.ab h]
     exact ⟨rfl,rfl⟩
   | false =>
     rw[hcv,cond_false] at h
     obtain ⟨y,h2,h⟩:=Tr.bind_some h
     rw[if_neg (by simp),Be hC h2]
     split at h
     · rename_i hy
       rw[hy,← Tr.ab h];exact ⟨rfl,rfl⟩
     · rename_i b hy
       obtain ⟨hc,h⟩:=Tr.aV h
       rw[hy]
       dsimp only
       rw[if_pos hc,← Tr.ab h];exact ⟨rfl,rfl⟩
     · rename_i d i b hy
       obtain ⟨hv,h⟩:=Tr.aQ h
       obtain ⟨hc,h⟩:=Tr.aV h
       rw[hy]
       dsimp only
       rw[oX,lJ,lJ,Bool.and_eq_true,decide_eq_true_eq,decide_eq_true_eq] at hv
       have hv':(Nat.beq b.1 (ar H d i).1 || Nat.beq b.1 (Nat.succ (ar H d i).1))=true:=by
        simp only[Bool.or_eq_true,Nat.beq_eq];omega
       simp only[Bool.and_eq_true] at hc
       rw[if_pos (by simp only[Bool.and_eq_true];exact ⟨⟨⟨hc.1.1,hv'⟩,hc.1.2⟩,hc.2⟩),← Tr.ab h];exact ⟨rfl,rfl⟩
     · exact (Tr.ae h).elim
def pj (P:Program) (nt:Nat) (call:aS) (callR:bF) (ops:Array Oper) (befs:Array Nat):List Oper→Nat→aT→aa→Nat→List Rec→Tr (aT×aa)
 | [],_,fr,H,_,_=>.ok (fr,H)
 | o::r,j,fr,H,nx,recs=>(qn P call callR ops (befs.getD j 0) fr H nx recs o).bind fun e =>
   pj P nt call callR ops befs r (j+1) (rK nt e.2.2 o.dst (e.1.v,e.2.1)) (zQ H e.1.wr) (if gA o then nx+1 else nx) (⟨j,e.1.rd,e.1.wr.map fun x=>(x.1,x.2.1)⟩::recs)
theorem rf {P:Program} {nt:Nat} {call:aS} {callR:bF} (hC:callR.Ok call) {ops:Array Oper} {befs:Array Nat}:∀ (l:List Oper) (j:Nat) (fr:aT) (H:aa) (nx:Nat) (recs:List Rec) (x:aT×aa),
 (pj P nt call callR ops befs l j fr H nx recs).run=some x→fG P nt call ops befs j l (strip fr) H nx recs=some (strip x.1,x.2)
 | [],j,fr,H,nx,recs,x,h=>by rw[← Tr.ab h];rfl
 | o::r,j,fr,H,nx,recs,x,h=>by
   simp only[pj] at h
   obtain ⟨e,h1,h⟩:=Tr.bind_some h
   obtain ⟨hd,hs⟩:=w6 hC h1
   unfold fG
   rw[hd,← hs]
   have:=rf hC r _ _ _ _ _ _ h
   rw[na,zR] at this
   exact this

def bc:Code→List (Nat×Code)
 | .block id b=>(id,b)::bc b
 | .loop b=>bc b
 | .seq a b=>bc a++bc b
 | .cond _ a b=>bc a++bc b
 | .scope b=>bc b
 | _=>[]
def bZ (f:Func):Code:=match f.body with | some c=>c | none=>.skip
abbrev gi:=Ex×aT×aa
def gi.st (x:gi):Ex×ay×aa:=(x.1,strip x.2.1,x.2.2)
abbrev ie:=Nat→aT→aa→Option (Tr gi)
abbrev sF:=Operand→aT→aa→Option (Tr gi)
def ie.Ok (bl:ie) (cx:Cx) (c:Code):Prop:=∀ id b,(id,b) ∈ bc c→∀ fr H t x,bl id fr H=some t→t.run=some x→exec cx (.block id b) (strip fr) H=some x.st
def fc:Code→List (Operand×Array Tmp×Code×Code)
 | .rangeFunc f ps a b=>[(f,ps,a,b)]
 | .loop b=>fc b
 | .block _ b=>fc b
 | .seq a b=>fc a++fc b
 | .cond _ a b=>fc a++fc b
 | .scope b=>fc b
 | _=>[]
def sF.Ok (rg:sF) (cx:Cx) (c:Code):Prop:=∀ f ps a b,(f,ps,a,b) ∈ fc c→∀ fr H t x,rg f fr H=some t→t.run=some x→exec cx (.rangeFunc f ps a b) (strip fr) H=some x.st
def eP (bl:ie) (id0:Nat) (fr0:ay) (H0:aa) (u:Tr gi):ie:=fun id fr H=>cond (Nat.beq id id0) (some (.reqP (strip fr=fr0∧H=H0) u)) (bl id fr H)
theorem bz {bl:ie} {cx:Cx} {c:Code} (h:bl.Ok cx c) {id0:Nat} {fr0:ay} {H0:aa} {u:Tr gi} {B:Code} (hB:∀ b,(id0,b) ∈ bc c→b=B) (k:∀ x,u.run=some x→exec cx (.block id0 B) fr0 H0=some x.st):(eP bl id0 fr0 H0 u).Ok cx c:=by
 intro id b hm fr H t y ht hy
 unfold eP at ht
 cases hb:Nat.beq id id0 with
 | true =>
   have yP:=Nat.eq_of_beq_eq_true hb
   subst yP
   rw[hb,cond_true,Option.some.injEq] at ht
   subst ht
   obtain ⟨⟨h1,h2⟩,h3⟩:=Tr.cY hy
   rw[h1,h2,hB b hm]
   exact k y h3
 | false =>
   rw[hb,cond_false] at ht
   exact h id b hm fr H t y ht hy
def Of (rg:sF) (tf:Operand→Bool) (fr0:ay) (H0:aa) (u:Tr gi):sF:=fun f fr H=>cond (tf f) (some (.reqP (strip fr=fr0∧H=H0) u)) (rg f fr H)
theorem Gh {rg:sF} {cx:Cx} {c:Code} (h:rg.Ok cx c) {tf:Operand→Bool} {fr0:ay} {H0:aa} {u:Tr gi} (k:∀ f ps a b,tf f=true→(f,ps,a,b) ∈ fc c→∀ x,u.run=some x→exec cx (.rangeFunc f ps a b) fr0 H0=some x.st):(Of rg tf fr0 H0 u).Ok cx c:=by
 intro f ps a b hm fr H t y ht hy
 unfold Of at ht
 cases hb:tf f with
 | true =>
   rw[hb,cond_true,Option.some.injEq] at ht
   subst ht
   obtain ⟨⟨h1,h2⟩,h3⟩:=Tr.cY hy
   rw[h1,h2]
   exact k f ps a b hb hm y h3
 | false =>
   rw[hb,cond_false] at ht
   exact h f ps a b hm fr H t y ht hy
def aW:ie:=fun _ _ _=>none
def aX:sF:=fun _ _ _=>none
theorem af (cx:Cx) (c:Code):aW.Ok cx c:=fun _ _ _ _ _ _ _ h=>by cases h
theorem ag (cx:Cx) (c:Code):aX.Ok cx c:=fun _ _ _ _ _ _ _ _ _ h=>by cases h
def zt (g:AV→AV):aT→aT
 | []=>[]
 | (x,(v,h))::r=>(x,(nN g v,h))::zt g r
theorem zu (g:AV→AV):∀ fr:aT,strip (zt g fr)=qM g (strip fr)
 | []=>rfl
 | (x,(v,h))::r=>by
   have e:zt g ((x,(v,h))::r)=(x,(nN g v,h))::zt g r:=rfl
   rw[e,da,da,qM,zu g r]
def lW (n:Nat):Nat→aT→aa→aT×aa
 | 0,fr,H=>(fr,H)
 | k + 1,fr,H=>match H with
   | []=>(fr,[])
   | l::r=>cond (Nat.ble (iH l.bs) (Nat.succ n)) (fr,l::r) (match hole (strip fr) l.bs 4 n with
     | none=>(fr,l::r)
     | some h=>lW n k (zt (ve (l.bs.length-1) h) fr) (l5 n (qM (ve (l.bs.length-1) h) (strip fr)) (yh (l.bs.length-1) h l::r)))
theorem uv (n:Nat):∀ (k:Nat) (fr:aT) (H:aa),(strip (lW n k fr H).1,(lW n k fr H).2)=jF n k (strip fr) H
 | 0,fr,H=>rfl
 | k+1,fr,[]=>rfl
 | k + 1,fr,l::r=>by
   cases hb:Nat.ble (iH l.bs) (Nat.succ n) with
   | true =>
     have:lW n (k+1) fr (l::r)=(fr,l::r):=by
      unfold lW;dsimp only;rw[hb];rfl
     rw[this,ux (by rw[db] at hb;simpa using hb)]
   | false =>
     unfold lW jF
     dsimp only
     rw[hb,cond_false]
     cases hole (strip fr) l.bs 4 n with
     | none=>rfl
     | some h =>
       dsimp only
       rw[uv n k,zu]
def C6 (n:Nat) (fr:aT) (H:aa):aT×aa:=lW n 4 fr (l5 n (strip fr) H)
theorem GF (n:Nat) (fr:aT) (H:aa):(strip (C6 n fr H).1,(C6 n fr H).2)=tidy n (strip fr) H:=uv n 4 fr _
def Cl (body:aT→aa→Tr gi) (n:Nat):Nat→aT→aa→Tr gi
 | 0,_,_=>.bad
 | k+1,fr,H=>(body fr H).bind fun x=>match x with
   | (.normal,fr,H)=>Cl body n k (C6 n fr H).1 (C6 n fr H).2
   | r=>.ok r
theorem vP {body:ay→aa→Option (Ex×ay×aa)} {n:Nat}:∀ (k m:Nat) (fr:ay) (H:aa) (x:Ex×ay×aa),iter body n k fr H=some x→k≤m→iter body n m fr H=some x
 | 0,m,fr,H,x,h,_=>by simp[iter] at h
 | k+1,0,fr,H,x,h,hk=>by omega
 | k + 1,m+1,fr,H,x,h,hk=>by
   unfold iter at h ⊢
   cases hb:body fr H with
   | none=>rw[hb] at h;simp at h
   | some y =>
     rw[hb] at h
     obtain ⟨e,f,g⟩:=y
     cases e
     case normal=>exact vP k m _ _ _ h (by omega)
     all_goals exact h
theorem yZ {body:aT→aa→Tr gi} {body':ay→aa→Option (Ex×ay×aa)} {n:Nat} (hb:∀ fr H x,(body fr H).run=some x→body' (strip fr) H=some x.st):∀ (k:Nat) (fr:aT) (H:aa) (x:gi),(Cl body n k fr H).run=some x→iter body' n k (strip fr) H=some x.st
 | 0,fr,H,x,h=>(Tr.ae h).elim
 | k+1,fr,H,x,h=>by
   simp only[Cl] at h
   obtain ⟨y,h1,h⟩:=Tr.bind_some h
   unfold iter
   rw[hb _ _ _ h1]
   obtain ⟨e,f,g⟩:=y
   cases e
   case normal =>
    have e:=GF n f g
    have h:=yZ hb k _ _ _ h
    show iter body' n k (tidy n (strip f) g).1 (tidy n (strip f) g).2=_
    rw[← e];exact h
   all_goals
    have h:=Tr.ab h
    rw[← h];rfl
def oA (f:AV→Tr AV):List AV→Tr (List AV)
 | []=>.ok []
 | v::l=>(f v).bind fun u=>(oA f l).bind fun m=>.ok (u::m)
theorem fo {f:AV→Tr AV} {g:AV→AV} (hf:∀ v u,(f v).run=some u→g v=u):∀ (l m:List AV),(oA f l).run=some m→l.map g=m
 | [],m,h=>Tr.ab h
 | v::l,m,h=>by
   simp only[oA] at h
   obtain ⟨u,h1,h⟩:=Tr.bind_some h
   obtain ⟨n,h2,h⟩:=Tr.bind_some h
   rw[← Tr.ab h,List.map_cons,hf _ _ h1,fo hf l n h2]
def m4 (f:AV→Tr AV):List aL→Tr (List aL)
 | []=>.ok []
 | .one v::l=>(f v).bind fun u=>(m4 f l).bind fun m=>.ok (.one u::m)
 | .arr k z n::l=>(m4 f l).bind fun m=>.ok (.arr k z n::m)
theorem iq {f:AV→Tr AV} {g:AV→AV} (hf:∀ v u,(f v).run=some u→g v=u):∀ (l m:List aL),(m4 f l).run=some m→mapM' g l=m
 | [],m,h=>Tr.ab h
 | .one v::l,m,h=>by
   simp only[m4] at h
   obtain ⟨u,h1,h⟩:=Tr.bind_some h
   obtain ⟨n,h2,h⟩:=Tr.bind_some h
   rw[← Tr.ab h,mapM',hf _ _ h1,iq hf l n h2]
 | .arr k z n::l,m,h=>by
   simp only[m4] at h
   obtain ⟨n,h2,h⟩:=Tr.bind_some h
   rw[← Tr.ab h,mapM',iq hf l n h2]
def rb (cap:Option Nat) (len:Nat):Bool :=
 match cap with
 | none=>false
 | some c=>cM c len
theorem kD (cap:Option Nat) (len:Nat):rb cap len=(cap == some len):=by
 cases cap with
 | none=>rfl
 | some c=>simp only[rb,gq];rw[Bool.eq_iff_iff];simp
def yT (i ver:Nat) (r:Row):AV→Tr AV
 | .ptr d j v off=>cond (Nat.beq d 0 && Nat.beq j i) (.req (cM v ver) (.ok (.ptrT none r off))) (.ok (.ptr d j v off))
 | .slc d j v off sz len cap=>cond (Nat.beq d 0 && Nat.beq j i) (.req (cM v ver) (match r with
    | .M [.arr k z N]=>.req (la off (jx len sz) 0 N) (.ok (.slcT none (.M [.arr k (fE z off) (jx len sz)]) sz len (rb cap len)))
    | .I k l=>cond (uT (.I k l) off (Nat.mul len sz)) (.ok (.slcT none (.I k (iN (l6 l off) (Nat.mul len sz))) sz len (rb cap len))) .bad
    | _=>.bad)) (.ok (.slc d j v off sz len cap))
 | v=>.ok v
theorem vq {d j i:Nat} {x:Bool} (h:(Nat.beq d 0 && Nat.beq j i)=true):(Nat.beq d 0 && (Nat.beq j i && x))=x:=by
 rw[Bool.and_eq_true] at h
 rw[h.1,h.2];rfl
theorem vr {d j i:Nat} {x:Bool} (h:(Nat.beq d 0 && Nat.beq j i)=false):(Nat.beq d 0 && (Nat.beq j i && x))=false:=by
 rw[← Bool.and_assoc,h];rfl
theorem yU {i ver:Nat} {r:Row}:∀ v u,(yT i ver r v).run=some u→nL i ver r v=u:=by
 intro v u h
 cases v with
 | ptr d j v off =>
   simp only[yT] at h
   simp only[nL]
   cases hc:(Nat.beq d 0 && Nat.beq j i) with
   | false=>rw[hc,cond_false] at h;rw[vr hc,if_neg (by simp)];exact Tr.ab h
   | true =>
     rw[hc,cond_true] at h
     obtain ⟨h1,h⟩:=Tr.aQ h
     rw[gq,decide_eq_true_eq] at h1
     rw[vq hc,if_pos (by simpa using h1)];exact Tr.ab h
 | slc d j v off sz len cap =>
   simp only[yT] at h
   simp only[nL]
   cases hc:(Nat.beq d 0 && Nat.beq j i) with
   | false=>rw[hc,cond_false] at h;rw[vr hc,if_neg (by simp)];exact Tr.ab h
   | true =>
     rw[hc,cond_true] at h
     obtain ⟨h1,h2⟩:=Tr.aQ h
     clear h
     rw[gq,decide_eq_true_eq] at h1
     rw[vq hc]
     split at h2
     · obtain ⟨h3,h⟩:=Tr.aQ h2
       rw[kf,decide_eq_true_eq,cj] at h3
       rw[if_pos (by simp[h1,Row.len,aE,aM];omega),← Tr.ab h,kD,cj,jE]
       rfl
     · obtain ⟨h3,h⟩:=Tr.aV h2
       rw[ly,decide_eq_true_eq] at h3
       rw[if_pos (by simp only[h1,Bool.and_eq_true];exact ⟨by simp,Nat.ble_eq_true_of_le h3⟩),← Tr.ab h,kD,gG,ik]
       rfl
     · exact (Tr.ae h2).elim
 | _=>exact Tr.ab h
def zw (f:AV→Tr AV) (v:AV):Tr AV :=
 match v with
 | .agg (.G l)=>(oA f l).bind fun m=>.ok (.agg (.G m))
 | .agg (.M l)=>(m4 f l).bind fun m=>.ok (.agg (.M m))
 | .fn g a b=>(oA f a).bind fun a'=>(oA f b).bind fun b'=>.ok (.fn g a' b')
 | v=>f v
theorem tK {f:AV→Tr AV} {g:AV→AV} (hf:∀ v u,(f v).run=some u→g v=u):∀ v u,(zw f v).run=some u→nN g v=u:=by
 intro v u h
 unfold zw at h
 split at h
 · obtain ⟨m,h1,h⟩:=Tr.bind_some h
   rw[← Tr.ab h,← fo hf _ _ h1];rfl
 · obtain ⟨m,h1,h⟩:=Tr.bind_some h
   rw[← Tr.ab h,← iq hf _ _ h1];rfl
 · obtain ⟨a',h1,h⟩:=Tr.bind_some h
   obtain ⟨b',h2,h⟩:=Tr.bind_some h
   rw[← Tr.ab h,← fo hf _ _ h1,← fo hf _ _ h2];rfl
 · rename_i n1 n2 n3
   have:=hf _ _ h
   rw[← this]
   unfold nN
   split
   · exact absurd rfl (n1 _)
   · exact absurd rfl (n2 _)
   · exact absurd rfl (n3 _ _ _)
   · rfl
def FL (f:AV→Tr AV):ak→Tr ak
 | .row r=>match r with
   | .G l=>(oA (zw f) l).bind fun m=>.ok (.row (.G m))
   | .M l=>(m4 (zw f) l).bind fun m=>.ok (.row (.M m))
   | r=>.ok (.row r)
 | b=>.ok b
theorem FM {f:AV→Tr AV} {g:AV→AV} (hf:∀ v u,(f v).run=some u→g v=u) (b u:ak) (h:(FL f b).run=some u):qL g b=u:=by
 cases b with
 | row r =>
   simp only[FL] at h
   cases r with
   | G l =>
     obtain ⟨m,h1,h⟩:=Tr.bind_some h
     rw[← Tr.ab h,← fo (tK hf) _ _ h1];rfl
   | M l =>
     obtain ⟨m,h1,h⟩:=Tr.bind_some h
     rw[← Tr.ab h,← iq (tK hf) _ _ h1];rfl
   | I k l=>rw[← Tr.ab h];rfl
   | F z n=>rw[← Tr.ab h];rfl
 | dead=>exact Tr.ab h
 | map es=>exact Tr.ab h
 | fmap kq f g c=>exact Tr.ab h
 | loop l=>exact Tr.ab h
def xA (f:AV→Tr AV):List (Nat×ak)→Tr (List (Nat×ak))
 | []=>.ok []
 | (v,b)::r=>(FL f b).bind fun b'=>(xA f r).bind fun r'=>.ok ((v,b')::r')
theorem vU {f:AV→Tr AV} {g:AV→AV} (hf:∀ v u,(f v).run=some u→g v=u):∀ (l m:List (Nat×ak)),(xA f l).run=some m→jV g l=m
 | [],m,h=>Tr.ab h
 | (v,b)::r,m,h=>by
   simp only[xA] at h
   obtain ⟨b',h1,h⟩:=Tr.bind_some h
   obtain ⟨r',h2,h⟩:=Tr.bind_some h
   rw[← Tr.ab h,jV,FM hf _ _ h1,vU hf r r' h2]
def Cq (f:AV→Tr AV):aT→Tr aT
 | []=>.ok []
 | (x,(v,h))::r=>(zw f v).bind fun v'=>(Cq f r).bind fun r'=>.ok ((x,(v',h))::r')
theorem zq {f:AV→Tr AV} {g:AV→AV} (hf:∀ v u,(f v).run=some u→g v=u):∀ (l m:aT),(Cq f l).run=some m→qM g (strip l)=strip m
 | [],m,h=>by rw[← Tr.ab h];rfl
 | (x,(v,hh))::r,m,h=>by
   simp only[Cq] at h
   obtain ⟨v',h1,h⟩:=Tr.bind_some h
   obtain ⟨r',h2,h⟩:=Tr.bind_some h
   rw[← Tr.ab h,da,da,qM,tK hf _ _ h1,zq hf r r' h2]
def tC (i:Nat) (fr:aT) (l:bm):Tr (aT×bm) :=
 match Ba l.bs i with
 | (ver,.row r)=>cond (xo r && (uL (fun x=>qg (pY i) x.2) (strip fr) || uL (fun x=>KV (pY i) x.2) l.bs)) ((Cq (yT i ver r) fr).bind fun fr'=>(xA (yT i ver r) l.bs).bind fun bs'=>.ok (fr',{ l with bs:=bI bs' i (ver,.dead) })) (.ok (fr,l))
 | _=>.ok (fr,l)
theorem qz {i:Nat} {fr:aT} {l:bm} {y:aT×bm} (h:(tC i fr l).run=some y):mQ i (strip fr) l=(strip y.1,y.2):=by
 unfold tC at h
 unfold mQ
 rw[ss] at h
 split at h
 · rename_i ver r hb
   rw[hb]
   dsimp only
   rw[o5,o5] at h
   cases hc:(xo r && ((strip fr).any (fun x=>qg (pY i) x.2) || l.bs.any (fun x=>KV (pY i) x.2))) with
   | true =>
     rw[hc,cond_true] at h
     obtain ⟨fr',h1,h⟩:=Tr.bind_some h
     obtain ⟨bs',h2,h⟩:=Tr.bind_some h
     rw[if_pos rfl,zq yU _ _ h1,vU yU _ _ h2,← Tr.ab h]
   | false =>
     rw[hc,cond_false] at h
     rw[if_neg (by simp),← Tr.ab h]
 · rename_i hno
   have h:=Tr.ab h
   subst h
   split
   · rename_i ver r hb
     exact absurd hb (hno ver r)
   · rfl
def sl:Nat→aT→bm→Tr (aT×bm)
 | 0,fr,l=>.ok (fr,l)
 | n+1,fr,l=>(sl n fr l).bind fun y=>tC n y.1 y.2
theorem tA:∀ (n:Nat) (fr:aT) (l:bm) (y:aT×bm),(sl n fr l).run=some y→jq n (strip fr) l=(strip y.1,y.2)
 | 0,fr,l,y,h=>by rw[← Tr.ab h];rfl
 | n+1,fr,l,y,h=>by
   simp only[sl] at h
   obtain ⟨z,h1,h⟩:=Tr.bind_some h
   have h1:=tA n fr l z h1
   simp only[jq]
   rw[h1]
   exact qz h
def pF:Nat→aT→bm→Tr (aT×bm)
 | 0,fr,l=>.ok (fr,l)
 | n+1,fr,l=>(pF n fr l).bind fun y=>cond (uL (fun x=>qg (pY n) x.2) (strip y.1)) (.ok y) (tC n y.1 y.2)
theorem rz:∀ (n:Nat) (fr:aT) (l:bm) (y:aT×bm),(pF n fr l).run=some y→eJ n (strip fr) l=(strip y.1,y.2)
 | 0,fr,l,y,h=>by rw[← Tr.ab h];rfl
 | n + 1,fr,l,y,h=>by
   simp only[pF] at h
   obtain ⟨z,h1,h⟩:=Tr.bind_some h
   have h1:=rz n fr l z h1
   simp only[eJ]
   rw[h1]
   dsimp only
   rw[o5] at h
   cases hc:(strip z.1).any (fun x=>qg (pY n) x.2) with
   | true =>
     rw[hc,cond_true] at h
     rw[if_pos rfl,Tr.ab h]
   | false =>
     rw[hc,cond_false] at h
     rw[if_neg (by simp)]
     exact qz h
def Co (s:Nat):aT→Option Nat
 | []=>none
 | (x,(v,_))::r=>cond (Nat.beq x s) (match v with
   | .slc 0 i _ _ _ _ _=>some i
   | _=>none) (Co s r)
theorem zg (s:Nat):∀ fr:aT,Co s fr=Cn s (strip fr)
 | []=>rfl
 | (x,(v,h))::r=>by
   rw[da]
   simp only[Co,Cn,zg s r]
   cases Nat.beq x s<;>rfl
def xn (s:Nat) (fr:aT) (H:aa):Tr (aT×aa) :=
 match H with
 | []=>.ok (fr,[])
 | l::r=>cond l.lock (.ok (fr,l::r)) (match Co s fr with
   | some i=>(tC i fr l).bind fun y=>.ok (y.1,y.2::r)
   | none=>.ok (fr,l::r))
theorem AX {s:Nat} {fr:aT} {H:aa} {y:aT×aa} (h:(xn s fr H).run=some y):xm s (strip fr) H=(strip y.1,y.2):=by
 unfold xn at h
 unfold xm
 cases H with
 | nil=>rw[← Tr.ab h]
 | cons l r =>
   dsimp only at h ⊢
   cases hl:l.lock with
   | true =>
     rw[hl,cond_true] at h
     rw[if_pos rfl,← Tr.ab h]
   | false =>
     rw[hl,cond_false,zg] at h
     rw[if_neg (by simp)]
     split at h
     · rename_i i hi
       obtain ⟨z,h1,h⟩:=Tr.bind_some h
       have h1:=qz h1
       rw[hi]
       dsimp only
       rw[h1,← Tr.ab h]
     · rename_i hi
       rw[hi,← Tr.ab h]
def AW (m:Nat) (fr:aT) (H:aa):Tr (aT×aa) :=
 cond (oC m 4000) (match H with
  | []=>.ok (gS fr m,[])
  | l::r=>cond l.lock (.ok (gS fr m,l::r)) ((sl (iH l.bs) (gS fr m) l).bind fun y=>.ok (y.1,cond (Nat.beq (Nat.shiftRight m 4003) 0) (y.2::r) (FX (Nat.shiftRight m 4003) (y.2::r))))) (cond (oC m 4001) (xn (Nat.shiftRight m 4003) (gS fr m) H) (cond (oC m 4002) (wB (gS fr m) (Nat.shiftRight m 4003) (fun fr=>.ok (fr,H)) (fun fr=>match H with
  | []=>.ok (fr,[])
  | l::r=>cond l.lock (.ok (fr,l::r)) ((pF (iH l.bs) fr l).bind fun y=>.ok (y.1,y.2::r)))) (.ok (gS fr m,H))))
theorem DM {m:Nat} {fr:aT} {H:aa} {y:aT×aa} (h:(AW m fr H).run=some y):mR m (strip fr) H=(strip y.1,y.2):=by
 unfold AW at h
 unfold mR
 cases hm:oC m 4000 with
 | false =>
   rw[hm,cond_false] at h
   rw[if_neg (by simp)]
   cases hm2:oC m 4001 with
   | false =>
     rw[hm2,cond_false] at h
     rw[if_neg (by simp)]
     cases hm3:oC m 4002 with
     | false =>
       rw[hm3,cond_false] at h
       rw[if_neg (by simp),← Tr.ab h,fg]
     | true =>
       rw[hm3,cond_true] at h
       rw[if_pos rfl]
       obtain ⟨b,fr',h1,h2,h3⟩:=lV h
       rw[fg] at h1 h2
       rw[h1]
       cases b with
       | true =>
         simp only[if_true] at h3
         rw[← Tr.ab h3,h2]
       | false =>
         simp only[Bool.false_eq_true,if_false] at h3
         cases H with
         | nil =>
           dsimp only at h3
           rw[← Tr.ab h3,← h2];rfl
         | cons l r =>
           dsimp only at h3
           show uV (bO (strip fr) m) (l::r)=_
           rw[← h2]
           unfold uV
           dsimp only
           cases hl:l.lock with
           | true =>
             rw[hl,cond_true] at h3
             rw[if_pos rfl,← Tr.ab h3]
           | false =>
             rw[hl,cond_false] at h3
             obtain ⟨z,h4,h5⟩:=Tr.bind_some h3
             have h4:=rz _ _ _ _ h4
             rw[db] at h4
             rw[if_neg (by simp),h4,← Tr.ab h5]
   | true =>
     rw[hm2,cond_true] at h
     rw[if_pos rfl]
     have h1:=AX h
     rw[fg] at h1
     exact h1
 | true =>
   rw[hm,cond_true] at h
   rw[if_pos rfl]
   cases H with
   | nil =>
     rw[← Tr.ab h,fg]
     simp only[DL,FX,ite_self]
   | cons l r =>
     dsimp only at h
     unfold DL
     dsimp only
     cases hl:l.lock with
     | true =>
       rw[hl,cond_true] at h
       simp only[if_true]
       rw[← Tr.ab h,fg]
       simp only[FX,hl,if_true,ite_self]
     | false =>
       rw[hl,cond_false] at h
       obtain ⟨z,h1,h⟩:=Tr.bind_some h
       have h1:=tA _ _ _ _ h1
       rw[db,fg] at h1
       simp only[Bool.false_eq_true,if_false,h1]
       rw[← Tr.ab h]
       cases Nat.beq (Nat.shiftRight m 4003) 0<;>rfl
def aN (cx:Cx) (callR:bF) (bl:ie) (rg:sF):Code→aT→aa→Tr gi
 | .skip,fr,H=>.ok (.normal,fr,H)
 | .label _,fr,H=>.ok (.normal,fr,H)
 | .exit id,fr,H=>.ok (.exit id,fr,H)
 | .goto l,fr,H=>.ok (.goto l,fr,H)
 | .ret,fr,H=>.ok (.ret,fr,H)
 | .region id ops draw,fr,H =>
   (cond draw (cond (ft ops (Region.before ops)) (pj cx.P cx.nt cx.call callR ops (Region.before ops) ops.toList 0 fr (kM H (cF ops.toList)) (fM H) []) .bad) (iY cx.P cx.nt cx.call callR ops ops.toList fr H)).bind fun x=>(AW (cx.kt id) x.1 x.2).bind fun y=>.ok (.normal,y.1,y.2)
 | .seq a b,fr,H=>(aN cx callR bl rg a fr H).bind fun x=>match x with
   | (.normal,fr,H)=>aN cx callR bl rg b fr H
   | r=>.ok r
 | .cond c a b,fr,H=>match c with
   | .tmp d=>wB fr d (fun fr=>aN cx callR bl rg a fr H) (fun fr=>aN cx callR bl rg b fr H)
   | c=>match (bY fr c).1 with
     | .bool t=>cond t (aN cx callR bl rg a fr H) (aN cx callR bl rg b fr H)
     | _=>.bad
 | .block id b,fr,H=>match bl id fr H with
   | some t=>t
   | none=>(aN cx callR bl rg b fr H).bind fun x=>match x with
     | (.exit id',fr,H)=>cond (Nat.beq id' id) (.ok (.normal,fr,H)) (.ok (.exit id',fr,H))
     | r=>.ok r
 | .scope b,fr,H=>(aN cx callR bl rg b fr H).bind fun x=>match x with
   | (.goto _,_,_)=>.bad
   | r=>.ok r
 | .rangeFunc f _ _ _,fr,H=>match rg f fr H with
   | some t=>t
   | none=>.bad
 | .loop b,fr,H=>cond (Nat.ble 12 cx.fu) (Cl (aN cx callR bl rg b) (fM H) 12 fr H) .bad
 | .refuse _,_,_=>.bad

theorem mG {cx:Cx} {callR:bF} {bl:ie} {rg:sF} (hC:callR.Ok cx.call):∀ (c:Code),bl.Ok cx c→rg.Ok cx c→∀ (fr:aT) (H:aa) (x:gi),(aN cx callR bl rg c fr H).run=some x→exec cx c (strip fr) H=some x.st:=by
 intro c
 induction c with
 | skip=>intro _ _ fr H x h;rw[← Tr.ab h];rfl
 | label=>intro _ _ fr H x h;rw[← Tr.ab h];rfl
 | exit=>intro _ _ fr H x h;rw[← Tr.ab h];rfl
 | goto=>intro _ _ fr H x h;rw[← Tr.ab h];rfl
 | ret=>intro _ _ fr H x h;rw[← Tr.ab h];rfl
 | refuse=>intro _ _ fr H x h;exact (Tr.ae h).elim
 | loop b ih =>
   intro hb hr fr H x h
   simp only[aN] at h
   obtain ⟨hk,h⟩:=Tr.aV h
   rw[Nat.ble_eq] at hk
   unfold exec
   rw[gT] at h
   exact vP _ _ _ _ _ (yZ (fun fr H x h=>ih hb hr fr H x h) 12 fr H x h) hk
 | rangeFunc f ps a b =>
   intro _ hr fr H x h
   simp only[aN] at h
   split at h
   · rename_i t ht
     exact hr f ps a b (by simp[fc]) fr H t x ht h
   · exact (Tr.ae h).elim
 | region id ops draw =>
   intro _ _ fr H x h
   simp only[aN] at h
   obtain ⟨y,h1,h⟩:=Tr.bind_some h
   obtain ⟨z,h2,h⟩:=Tr.bind_some h
   have h2:=DM h2
   rw[← Tr.ab h]
   unfold exec
   cases draw with
   | true =>
     rw[cond_true] at h1
     obtain ⟨hs,h1⟩:=Tr.aV h1
     rw[gT] at h1
     simp only[if_true,hs]
     rw[rf hC _ _ _ _ _ _ _ h1]
     dsimp only
     rw[h2]
     rfl
   | false =>
     rw[cond_false] at h1
     simp only[Bool.false_eq_true,if_false]
     rw[fP hC _ _ _ _ h1]
     dsimp only
     rw[h2]
     rfl
 | seq a b iha ihb =>
   intro hb hr fr H x h
   have hba:bl.Ok cx a:=fun id b' hm=>hb id b' (List.mem_append_left _ hm)
   have hbb:bl.Ok cx b:=fun id b' hm=>hb id b' (List.mem_append_right _ hm)
   have hra:rg.Ok cx a:=fun f ps u v hm=>hr f ps u v (List.mem_append_left _ hm)
   have hrb:rg.Ok cx b:=fun f ps u v hm=>hr f ps u v (List.mem_append_right _ hm)
   simp only[aN] at h
   obtain ⟨y,h1,h⟩:=Tr.bind_some h
   have h1:=iha hba hra _ _ _ h1
   unfold exec
   rw[h1]
   obtain ⟨e,fr1,H1⟩:=y
   cases e
   case normal=>exact ihb hbb hrb _ _ _ h
   all_goals
    have h:=Tr.ab h
    rw[← h];rfl
 | cond c a b iha ihb =>
   intro hb hr fr H x h
   have hba:bl.Ok cx a:=fun id b' hm=>hb id b' (List.mem_append_left _ hm)
   have hbb:bl.Ok cx b:=fun id b' hm=>hb id b' (List.mem_append_right _ hm)
   have hra:rg.Ok cx a:=fun f ps u v hm=>hr f ps u v (List.mem_append_left _ hm)
   have hrb:rg.Ok cx b:=fun f ps u v hm=>hr f ps u v (List.mem_append_right _ hm)
   simp only[aN] at h
   unfold exec
   split at h
   · rename_i d
     obtain ⟨b',fr',h1,h2,h3⟩:=lV h
     have e:bJ (strip fr) (.tmp d)=.bool b':=h1
     rw[e,← h2]
     cases b' with
     | true=>exact iha hba hra _ _ _ h3
     | false=>exact ihb hbb hrb _ _ _ h3
   · rename_i c' hne
     rw[aY] at h
     split at h
     · rename_i t hc
       rw[hc]
       cases t with
       | true=>exact iha hba hra _ _ _ h
       | false=>exact ihb hbb hrb _ _ _ h
     · exact (Tr.ae h).elim
 | block id b ih =>
   intro hb hr fr H x h
   have hbb:bl.Ok cx b:=fun id' b' hm=>hb id' b' (by simp only[bc];exact List.mem_cons_of_mem _ hm)
   simp only[aN] at h
   split at h
   · rename_i t ht
     exact hb id b (by simp[bc]) _ _ _ _ ht h
   · obtain ⟨y,h1,h⟩:=Tr.bind_some h
     have h1:=ih hbb hr _ _ _ h1
     unfold exec
     rw[h1]
     obtain ⟨e,fr1,H1⟩:=y
     cases e
     case exit id' =>
      dsimp only[gi.st] at h ⊢
      rw[gp] at h
      split at h
      · rename_i yP
        rw[if_pos yP,← Tr.ab h]
      · rename_i yP
        rw[if_neg yP,← Tr.ab h]
     all_goals
      have h:=Tr.ab h
      rw[← h];rfl
 | scope b ih =>
   intro hb hr fr H x h
   simp only[aN] at h
   obtain ⟨y,h1,h⟩:=Tr.bind_some h
   have h1:=ih hb hr _ _ _ h1
   unfold exec
   rw[h1]
   obtain ⟨e,fr1,H1⟩:=y
   cases e
   case goto=>exact (Tr.ae h).elim
   all_goals
    have h:=Tr.ab h
    rw[← h];rfl

end
end Go.Eng
end
section
namespace Go.Eng
noncomputable section

def nK   (bs:List (Nat×ak)):Nat→AV→Tr AV
 | 0,_=>.ok .undef
 | n + 1,v=>match v with
   | .ptr d i ver off=>match d with
     | d+1=>.ok (.ptr d i ver off)
     | 0 => match Ba bs i with
       | (w,.row r)=>cond (Nat.beq w ver) (match r with
         | .I k l=>.ok (.ptrT none (.I k l) off)
         | .F f m=>.ok (.ptrT none (.F f m) off)
         | .M l=>cond (gd l) (.ok (.ptrT none (.M l) off)) ((m4 (nK bs n) l).bind fun m=>.ok (.ptrT (some 0) (.M m) off))
         | .G l=>(oA (nK bs n) l).bind fun m=>.ok (.ptrT (some 0) (.G m) off)) .bad
       | _=>.bad
   | .slc d i ver off sz len cap=>match d with
     | d+1=>.ok (.slc d i ver off sz len cap)
     | 0 => match Ba bs i with
       | (w,.row r)=>.req (cM w ver) (match r with
         | .M [.arr k z N]=>.req (la off (jx len sz) 0 N) (.ok (.slcT none (.M [.arr k (fE z off) (jx len sz)]) sz len (rb cap len)))
         | .I k l=>cond (uT (.I k l) off (Nat.mul len sz)) (.ok (.slcT none (.I k (iN (l6 l off) (Nat.mul len sz))) sz len (rb cap len))) .bad
         | .F f N=>.req (la off (jx len sz) 0 N) (.ok (.slcT none (.F (fun j=>f (ah off j)) (jx len sz)) sz len (rb cap len)))
         | .G l=>cond (uT (.G l) off (Nat.mul len sz)) ((oA (nK bs n) (iN (l6 l off) (Nat.mul len sz))).bind fun m=>.ok (.slcT (some 0) (.G m) sz len (rb cap len))) .bad
         | _=>.bad)
       | _=>.bad
   | .ptrT s r off=>match s with
     | none=>.ok (.ptrT none r off)
     | some (s+1)=>.ok (.ptrT (some s) r off)
     | some 0=>match r with
       | .G l=>(oA (nK bs n) l).bind fun m=>.ok (.ptrT (some 0) (.G m) off)
       | .M l=>cond (gd l) (.ok (.ptrT none (.M l) off)) ((m4 (nK bs n) l).bind fun m=>.ok (.ptrT (some 0) (.M m) off))
       | r=>.ok (.ptrT none r off)
   | .slcT s r sz len full=>match s with
     | none=>.ok (.slcT none r sz len full)
     | some (s+1)=>.ok (.slcT (some s) r sz len full)
     | some 0=>match r with
       | .G l=>(oA (nK bs n) l).bind fun m=>.ok (.slcT (some 0) (.G m) sz len full)
       | .M l=>cond (gd l) (.ok (.slcT none (.M l) sz len full)) ((m4 (nK bs n) l).bind fun m=>.ok (.slcT (some 0) (.M m) sz len full))
       | r=>.ok (.slcT none r sz len full)
   | .map d i=>match d with
     | d+1=>.ok (.map d i)
     | 0=>.ok .undef
   | .yld d i=>match d with
     | d+1=>.ok (.yld d i)
     | 0=>.ok .undef
   | .fn f a b=>(oA (nK bs n) a).bind fun a'=>(oA (nK bs n) b).bind fun b'=>.ok (.fn f a' b')
   | .agg r=>match r with
     | .G l=>(oA (nK bs n) l).bind fun m=>.ok (.agg (.G m))
     | .M l=>(m4 (nK bs n) l).bind fun m=>.ok (.agg (.M m))
     | r=>.ok (.agg r)
   | .tup l=>(oA (nK bs n) l).bind fun m=>.ok (.tup m)
   | v=>.ok v
theorem B9 (bs:List (Nat×ak)):∀ (n:Nat) (v u:AV),(nK bs n v).run=some u→cQ bs n v=u
 | 0,v,u,h=>Tr.ab h
 | n + 1,v,  u,h=>by
   have ih:=B9 bs n
   simp only[nK,ss] at h
   cases v with
   | ptr d i ver off =>
     cases d with
     | succ d=>exact Tr.ab h
     | zero =>
       dsimp only at h
       simp only[cQ]
       split at h
       · rename_i w r hg
         obtain ⟨hw,h⟩:=Tr.aV h
         rw[hg]
         dsimp only
         rw[if_pos hw]
         cases r with
         | I k l=>exact Tr.ab h
         | F f m=>exact Tr.ab h
         | G l =>
           obtain ⟨m,h1,h⟩:=Tr.bind_some h
           rw[← Tr.ab h,← fo ih _ _ h1]
         | M l =>
           dsimp only at h ⊢
           cases ha:gd l with
           | true=>rw[ha,cond_true] at h;rw[if_pos rfl];exact Tr.ab h
           | false =>
             rw[ha,cond_false] at h
             obtain ⟨m,h1,h⟩:=Tr.bind_some h
             rw[if_neg (by simp),← Tr.ab h,← iq ih _ _ h1]
       · exact (Tr.ae h).elim
   | slc d i ver off sz len cap =>
     cases d with
     | succ d=>exact Tr.ab h
     | zero =>
       dsimp only at h
       simp only[cQ]
       split at h
       · rename_i w r hg
         obtain ⟨hw,h'⟩:=Tr.aQ h
         clear h
         rw[gq,decide_eq_true_eq] at hw
         subst hw
         rw[hg]
         dsimp only
         split at h'
         · rename_i k z N
           have h:=h'
           obtain ⟨hc,h⟩:=Tr.aQ h
           rw[kf,decide_eq_true_eq,cj] at hc
           rw[if_pos ⟨by simp,by simp only[Row.len,aE,aM];omega⟩,← Tr.ab h,kD,cj,jE]
           simp only[Row.sub,gd,if_true]
         · have h:=h'
           obtain ⟨hc,h⟩:=Tr.aV h
           rw[ly,decide_eq_true_eq] at hc
           rw[if_pos ⟨by simp,hc⟩,← Tr.ab h,kD,gG,ik]
           rfl
         · have h:=h'
           obtain ⟨hc,h⟩:=Tr.aQ h
           rw[kf,decide_eq_true_eq,cj] at hc
           rw[if_pos ⟨by simp,by simp only[Row.len];omega⟩,← Tr.ab h,kD,cj]
           simp only[Row.sub,aU]
         · have h:=h'
           obtain ⟨hc,h⟩:=Tr.aV h
           rw[ly,decide_eq_true_eq] at hc
           obtain ⟨m,h1,h⟩:=Tr.bind_some h
           rw[gG,ik] at h1
           rw[if_pos ⟨by simp,hc⟩,← Tr.ab h,kD,← fo ih _ _ h1]
           rfl
         · exact (Tr.ae h').elim
       · exact (Tr.ae h).elim
   | ptrT s r off =>
     cases s with
     | none=>exact Tr.ab h
     | some s =>
       cases s with
       | succ s=>exact Tr.ab h
       | zero =>
         simp only[cQ]
         cases r with
         | I k l=>exact Tr.ab h
         | F f m=>exact Tr.ab h
         | G l =>
           obtain ⟨m,h1,h⟩:=Tr.bind_some h
           rw[← Tr.ab h,← fo ih _ _ h1]
         | M l =>
           dsimp only at h ⊢
           cases ha:gd l with
           | true=>rw[ha,cond_true] at h;rw[if_pos rfl];exact Tr.ab h
           | false =>
             rw[ha,cond_false] at h
             obtain ⟨m,h1,h⟩:=Tr.bind_some h
             rw[if_neg (by simp),← Tr.ab h,← iq ih _ _ h1]
   | slcT s r sz len full =>
     cases s with
     | none=>exact Tr.ab h
     | some s =>
       cases s with
       | succ s=>exact Tr.ab h
       | zero =>
         simp only[cQ]
         cases r with
         | I k l=>exact Tr.ab h
         | F f m=>exact Tr.ab h
         | G l =>
           obtain ⟨m,h1,h⟩:=Tr.bind_some h
           rw[← Tr.ab h,← fo ih _ _ h1]
         | M l =>
           dsimp only at h ⊢
           cases ha:gd l with
           | true=>rw[ha,cond_true] at h;rw[if_pos rfl];exact Tr.ab h
           | false =>
             rw[ha,cond_false] at h
             obtain ⟨m,h1,h⟩:=Tr.bind_some h
             rw[if_neg (by simp),← Tr.ab h,← iq ih _ _ h1]
   | map d i=>cases d<;>exact Tr.ab h
   | yld d i=>cases d<;>exact Tr.ab h
   | fn f a b =>
     obtain ⟨a',h1,h⟩:=Tr.bind_some h
     obtain ⟨b',h2,h⟩:=Tr.bind_some h
     simp only[cQ]
     rw[← Tr.ab h,← fo ih _ _ h1,← fo ih _ _ h2]
   | agg r =>
     simp only[cQ]
     cases r with
     | I k l=>exact Tr.ab h
     | F f m=>exact Tr.ab h
     | G l =>
       obtain ⟨m,h1,h⟩:=Tr.bind_some h
       rw[← Tr.ab h,← fo ih _ _ h1]
     | M l =>
       obtain ⟨m,h1,h⟩:=Tr.bind_some h
       rw[← Tr.ab h,← iq ih _ _ h1]
   | tup l =>
     obtain ⟨m,h1,h⟩:=Tr.bind_some h
     simp only[cQ]
     rw[← Tr.ab h,← fo ih _ _ h1]
   | _=>exact Tr.ab h

def G4 (l:List HV):Nat→aT:=List.rec (motive:=fun _=>Nat→aT) (fun _=>[]) (fun v _ ih x=>(x,(gL 1 v.1,v.2))::ih (Nat.succ x)) l
theorem BM:∀ (l:List HV) (x:Nat),strip (G4 l x)=dv x (rU l)
 | [],x=>rfl
 | v::l,x=>by
   have e:G4 (v::l) x=(x,(gL 1 v.1,v.2))::G4 l (x+1):=rfl
   rw[e,da,BM l];rfl
def hints (f:ay):aT:=List.rec (motive:=fun _=>aT) [] (fun p _ ih=>(p.1,(p.2,none))::ih) f
theorem aP:∀ f:ay,strip (hints f)=f
 | []=>rfl
 | (x,v)::r=>by
   have e:hints ((x,v)::r)=(x,(v,none))::hints r:=rfl
   rw[e,da,aP r]
def Bl (P:Program) (fr:aT) (H:aa):List ResultVar→Tr (List AV)
 | []=>.ok []
 | .tmp t::r=>(Bl P fr H r).bind fun l=>.ok ((l9 fr t).1::l)
 | .cell a t::r=>(loadT P H t (bY fr (.tmp a))).bind fun v=>(Bl P fr H r).bind fun l=>.ok (v::l)
theorem xP {P:Program} {fr:aT} {H:aa}:∀ (l:List ResultVar) (vs:List AV),(Bl P fr H l).run=some vs→eE P (strip fr) H l=some vs
 | [],vs,h=>by rw[← Tr.ab h];rfl
 | .tmp t::r,vs,h=>by
   simp only[Bl] at h
   obtain ⟨l,h1,h⟩:=Tr.bind_some h
   simp only[eE]
   rw[xP r l h1,← Tr.ab h,fy];rfl
 | .cell a t::r,vs,h=>by
   simp only[Bl] at h
   obtain ⟨v,h0,h⟩:=Tr.bind_some h
   obtain ⟨l,h1,h⟩:=Tr.bind_some h
   have h0:=zj h0
   rw[aY] at h0
   simp only[eE]
   have e:bJ (strip fr) (.tmp a)=br (strip fr) a:=rfl
   rw[e] at h0
   rw[h0]
   dsimp only
   rw[xP r l h1,← Tr.ab h];rfl
def Jf (fr:aT) (rs:List ResultVar):Option Nat :=
 match rs with
 | [.tmp t]=>(l9 fr t).2
 | _=>none
def KN (P:Program) (rs:List ResultVar) (x:gi):Tr (HV×aa) :=
 match x with
 | (e,fr,l::H)=>match e with
   | .normal | .ret=>(Bl P fr (l::H) rs).bind fun vs=>(nK l.bs 5 (one vs)).bind fun v=>.ok ((v,Jf fr rs),H)
   | _=>.bad
 | _=>.bad
theorem Ik {P:Program} {rs:List ResultVar} {x:gi} {y:HV×aa} (h:(KN P rs x).run=some y):∃ l vs,x.2.2=l::y.2∧(x.1=.normal∨x.1=.ret)∧eE P (strip x.2.1) x.2.2 rs=some vs∧cQ l.bs 5 (one vs)=y.1.1:=by
 unfold KN at h
 split at h
 · rename_i e fr l H
   have key:((Bl P fr (l::H) rs).bind fun vs=>(nK l.bs 5 (one vs)).bind fun v=>Tr.ok (((v,Jf fr rs),H):HV×aa)).run=some y→∃ vs,l::H=l::y.2∧eE P (strip fr) (l::H) rs=some vs∧cQ l.bs 5 (one vs)=y.1.1:=by
    intro h
    obtain ⟨vs,h1,h⟩:=Tr.bind_some h
    obtain ⟨v,h2,h⟩:=Tr.bind_some h
    have h:=Tr.ab h
    refine ⟨vs,by rw[← h],xP _ _ h1,?_⟩
    rw[B9 _ _ _ _ h2,← h]
   split at h
   · obtain ⟨vs,h1,h2,h3⟩:=key h;exact ⟨l,vs,h1,.inl rfl,h2,h3⟩
   · obtain ⟨vs,h1,h2,h3⟩:=key h;exact ⟨l,vs,h1,.inr rfl,h2,h3⟩
   · exact (Tr.ae h).elim
 · exact (Tr.ae h).elim
def bu (P:Program) (call:aS) (fu:Nat) (f:FuncId) (fn:Func) (kt:Nat→Nat) (callR:bF) (bl:ie) (rg:sF) (args:List HV) (H:aa):Tr (HV×aa) :=
 (aN ⟨P,call,fu,f,fn.ntmps,kt,none⟩ callR bl rg (bZ fn) (G4 args 0) (⟨false,[]⟩::H)).bind fun x=>KN P fn.results.toList x
theorem yn {P:Program} {ora:aS→FuncId→List AV→aa→Option (AV×aa)} {KT:FuncId→Nat→Nat} {fu n:Nat} {f:FuncId} {fn:Func} (hf:P.funcs[f]?=some fn) (hb:fn.body.isSome=true) {args:List HV} {H:aa} (ho:ora (cH P ora KT fu n) f (rU args) H=none) (hle:Nat.ble args.length fn.ntmps=true)
 {callR:bF} (hC:callR.Ok (cH P ora KT fu n)) {bl:ie} (hB:bl.Ok ⟨P,cH P ora KT fu n,fu,f,fn.ntmps,KT f,none⟩ (bZ fn)) {rg:sF} (hR:rg.Ok ⟨P,cH P ora KT fu n,fu,f,fn.ntmps,KT f,none⟩ (bZ fn)) {y:HV×aa}
 (h:(bu P (cH P ora KT fu n) fu f fn (KT f) callR bl rg args H).run=some y):cH P ora KT fu (n+1) (.fn f) (rU args) H=some (y.1.1,y.2):=by
 unfold bu at h
 obtain ⟨x,h1,h⟩:=Tr.bind_some h
 have h1:=mG hC _ hB hR _ _ _ h1
 rw[BM] at h1
 obtain ⟨l,vs,k1,k2,k3,k4⟩:=Ik h
 obtain ⟨c,hc⟩:=Option.isSome_iff_exists.1 hb
 have hbody:bZ fn=c:=by unfold bZ;rw[hc]
 rw[hbody] at h1
 obtain ⟨e,fr,H1⟩:=x
 dsimp only[gi.st] at h1 k1 k2 k3
 rw[k1] at h1 k3
 have hl:(rU args).length=args.length:=by unfold rU;rw[jW,List.length_map]
 simp only[cH,ho,hf,hc,hl,hle,if_true,h1]
 rcases k2 with rfl | rfl<;>simp only[k3]<;>rw[k4]

theorem l7 {cx:Cx} {id:Nat} {b:Code} {fr fr1:ay} {H H1:aa} (h:iter (exec cx b) (ao H) cx.fu fr H=some (.exit id,fr1,H1)):exec cx (.block id (.loop b)) fr H=some (.normal,fr1,H1):=by
 unfold exec
 have:exec cx (.loop b) fr H=some (.exit id,fr1,H1):=by unfold exec;exact h
 rw[this]
 dsimp only
 rw[if_pos (by simp)]
theorem gM {cx:Cx} {id:Nat} {b:Code} {fr fr1:ay} {H H1:aa} {e:Ex} (he:∀ id',e=.exit id'→Nat.beq id' id=false) (h:iter (exec cx b) (ao H) cx.fu fr H=some (e,fr1,H1)):exec cx (.block id (.loop b)) fr H=some (e,fr1,H1):=by
 unfold exec
 have:exec cx (.loop b) fr H=some (e,fr1,H1):=by unfold exec;exact h
 rw[this]
 cases e with
 | exit id'=>dsimp only;rw[if_neg (by rw[he id' rfl];simp)]
 | _=>rfl
def fN (p:Nat→Bool):Nat→Nat→Nat
 | 0,j=>j
 | k+1,j=>if p j then j else fN p k (j+1)
theorem iP (p:Nat→Bool):∀ (k j:Nat),j≤fN p k j∧fN p k j≤j+k∧(∀ i,j≤i→i<fN p k j→p i=false)∧(fN p k j<j+k→p (fN p k j)=true)
 | 0,j=>⟨Nat.le_refl _,Nat.le_refl _,fun i h1 h2=>absurd h2 (by simp only[fN];omega),fun h=>absurd h (by simp only[fN];omega)⟩
 | k + 1,j=>by
   simp only[fN]
   by_cases h:p j=true
   · rw[if_pos h]
     exact ⟨Nat.le_refl _,by omega,fun i h1 h2=>by omega,fun _=>h⟩
   · rw[if_neg h]
     obtain ⟨h1,h2,h3,h4⟩:=iP p k (j+1)
     refine ⟨by omega,by omega,fun i k1 k2=>?_,fun k1=>h4 (by omega)⟩
     by_cases e:i=j
     · subst e;simpa using h
     · exact h3 i (by omega) k2
theorem qE {body:ay→aa→Option (Ex×ay×aa)} {n:Nat} (F:Nat→ay) (G:Nat→aa) (N:Nat) (p:Nat→Bool) (X:Nat→Ex×ay×aa)
 (hs:∀ j,j<N→p j=false→∃ f g,body (F j) (G j)=some (.normal,f,g)∧tidy n f g=(F (j+1),G (j+1)))
 (hh:∀ j,j<N→p j=true→body (F j) (G j)=some (X j)∧(X j).1≠.normal) (he:body (F N) (G N)=some (X N)∧(X N).1≠.normal) :
 ∀ (k j fu:Nat),j+k=N→k<fu→iter body n fu (F j) (G j)=some (X (fN p k j))
 | 0,j,0,_,h=>by omega
 | 0,j,fu+1,hj,_=>by
   have:j=N:=by omega
   subst this
   unfold iter
   rw[he.1]
   obtain ⟨x,hx⟩:∃ x,x=X j:=⟨_,rfl⟩
   have hn:=he.2
   simp only[fN]
   rw[← hx] at hn ⊢
   obtain ⟨e,f,g⟩:=x
   cases e<;>first | exact absurd rfl hn | rfl
 | k+1,j,0,_,h=>by omega
 | k + 1,j,fu+1,hj,hf=>by
   unfold iter
   cases hp:p j with
   | true =>
     obtain ⟨h1,h2⟩:=hh j (by omega) hp
     rw[h1]
     simp only[fN]
     rw[if_pos hp]
     obtain ⟨x,hx⟩:∃ x,x=X j:=⟨_,rfl⟩
     rw[← hx] at h2 ⊢
     obtain ⟨e,f,g⟩:=x
     cases e<;>first | exact absurd rfl h2 | rfl
   | false =>
     obtain ⟨f,g,h1,h2⟩:=hs j (by omega) hp
     rw[h1]
     dsimp only
     rw[h2]
     simp only[fN]
     rw[if_neg (by rw[hp];simp)]
     exact qE F G N p X hs hh he k (j+1) fu (by omega) (by omega)
theorem za {body:ay→aa→Option (Ex×ay×aa)} {n:Nat} (I:Nat→ay→aa→Prop) (Q:Ex×ay×aa→Prop) (N:Nat)
 (hr:∀ j fr H,I j fr H→(∃ e f g,body fr H=some (e,f,g)∧((e=.normal∧j<N∧I (j+1) (tidy n f g).1 (tidy n f g).2)∨(e≠.normal∧Q (e,f,g))))) :
 ∀ (fu j:Nat) (fr:ay) (H:aa),I j fr H→N-j<fu→∃ x,iter body n fu fr H=some x∧Q x
 | 0,j,fr,H,_,h=>by omega
 | fu+1,j,fr,H,hI,h=>by
   obtain ⟨e,f,g,h1,h2⟩:=hr j fr H hI
   unfold iter
   rw[h1]
   rcases h2 with ⟨rfl,hj,h2⟩ | ⟨he,hq⟩
   · dsimp only
     exact za I Q N hr fu (j+1) _ _ h2 (by omega)
   · cases e<;>first | exact absurd rfl he | exact ⟨_,rfl,hq⟩

end
end Go.Eng
end
