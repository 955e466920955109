/- The engine as a tree: regions, code, calls. -/
import Derived.Test.YtgphpjdchnfjlaaDoorV3EngTe
set_option linter.unusedVariables false
set_option linter.unusedSimpArgs false
section
namespace Go.Eng
noncomputable section

def vX (f:aS) (y:Nat) (b:Bool):aS:=List.rec (motive:=fun _=>aS) [] (fun p r ih=>Bool.rec (motive:=fun _=>aS) (p::ih) ((p.1,(.bool b,some 1))::r) (Nat.beq p.1 y)) f
theorem tm:∀ (f:aS) (y:Nat) (b:Bool),bM (strip f) y=.bool b→strip (vX f y b)=strip f
 | [],y,b,_=>rfl
 | (x,v)::r,y,b,h=>by
   have e:vX ((x,v)::r) y b=Bool.rec (motive:=fun _=>aS) ((x,v)::vX r y b) ((x,(.bool b,some 1))::r) (Nat.beq x y):=rfl;rw[c7,bM] at h;rw[e];cases hb:Nat.beq x y with
   | true =>
     rw[hb] at h;have h:v.1=.bool b:=h;show (x,AV.bool b)::strip r=(x,v.1)::strip r;rw[h]
   | false =>
     rw[hb] at h;show (x,v.1)::strip (vX r y b)=(x,v.1)::strip r;rw[tm r y b h]
def wz {α:Type} (fr:aS) (d:Nat) (t e:aS→Tr α):Tr α :=
 match lO fr d with
 | (.bool b,none)=>.ite b (t (vX fr d true)) (e (vX fr d false))
 | (.bool b,some _)=>cond b (t fr) (e fr)
 | _=>.bad
theorem lH {α:Type} {fr:aS} {d:Nat} {t e:aS→Tr α} {x:α} (h:(wz fr d t e).run=some x):∃ b fr',bM (strip fr) d=.bool b∧strip fr'=strip fr∧(if b then t fr' else e fr').run=some x:=by
 unfold wz at h;split at h
 · rename_i b hg;have hg':bM (strip fr) d=.bool b:=by rw[← fk,hg]
   rcases Tr.kx h with ⟨rfl,h⟩ | ⟨rfl,h⟩
   · exact ⟨true,_,hg',tm _ _ _ hg',h⟩
   · exact ⟨false,_,hg',tm _ _ _ hg',h⟩
 · rename_i b n hg;have hg':bM (strip fr) d=.bool b:=by rw[← fk,hg]
   refine ⟨b,fr,hg',rfl,?_⟩;cases b<;>exact h
 · exact (Tr.ah h).elim
def D0 (ops:Array Oper) (fr:aS) (o:Oper):Tr (Bool×aS) :=
 match o.guard with
 | none=>.ok (true,fr)
 | some (j,want)=>match (ops[j]?).bind (·.dst) with
   | none=>.bad
   | some d=>match (lO fr d).1 with
     | .bool _=>cond want (wz fr d (fun fr=>.ok (true,fr)) (fun fr=>.ok (false,fr))) (wz fr d (fun fr=>.ok (false,fr)) (fun fr=>.ok (true,fr)))
     | .tup _=>.ok (false,fr)
     | _=>.bad
theorem AU {ops:Array Oper} {fr:aS} {o:Oper} {r:Bool×aS} (h:(D0 ops fr o).run=some r):lR ops (strip fr) o=(if r.1 then .run else .skip)∧strip r.2=strip fr:=by
 unfold D0 at h;unfold lR;cases hg:o.guard with
 | none =>
   rw[hg] at h;rw[← Tr.af h];exact ⟨rfl,rfl⟩
 | some jw =>
   obtain ⟨j,want⟩:=jw;rw[hg] at h;dsimp only at h ⊢;cases hd:(ops[j]?).bind (·.dst) with
   | none=>rw[hd] at h;exact (Tr.ah h).elim
   | some d =>
     rw[hd] at h;dsimp only at h ⊢;have he:=fk fr d;rw[he] at h;cases hv:bM (strip fr) d<;>rw[hv] at h<;>try exact (Tr.ah h).elim
     case bool b =>
      dsimp only at h ⊢
      cases want with
      | true =>
        rw[cond_true] at h
        obtain ⟨b',fr',h1,h2,h3⟩:=lH h
        rw[hv] at h1
        cases h1
        cases b<;>(have h3:=Tr.af h3;rw[← h3];exact ⟨rfl,h2⟩)
      | false =>
        rw[cond_false] at h
        obtain ⟨b',fr',h1,h2,h3⟩:=lH h
        rw[hv] at h1
        cases h1
        cases b<;>(have h3:=Tr.af h3;rw[← h3];exact ⟨rfl,h2⟩)
     case tup l=>rw[← Tr.af h];exact ⟨rfl,rfl⟩

def iN (P:Program) (nt:Nat) (call:aO) (callR:bt) (ops:Array Oper):List Oper→aS→ab→Tr (aS×ab)
 | [],fr,H=>.ok (fr,H)
 | o::r,fr,H=>(D0 ops fr o).bind fun b=>cond b.1
   ((Pk o.op o P call callR b.2 H (w9 H)).bind fun y=>iN P nt call callR ops r (rn nt b.2 o.dst y.1) (Ta y.2 H))
   (iN P nt call callR ops r (rn nt b.2 o.dst (.tup [],none)) H)
theorem fC {P:Program} {nt:Nat} {call:aO} {callR:bt} (hC:callR.Ok call) {ops:Array Oper}:∀ (l:List Oper) (fr:aS) (H:ab) (x:aS×ab),(iN P nt call callR ops l fr H).run=some x→fh P nt call ops l (strip fr) H=some (strip x.1,x.2)
 | [],fr,H,x,h=>by rw[← Tr.af h];rfl
 | o :: r,fr,H,x,h=>by
   simp only[iN] at h;obtain ⟨b,h1,h⟩:=Tr.bind_some h;unfold fh;obtain ⟨hw,hs⟩:=AU h1;rw[hw,← hs];obtain ⟨b,fr1⟩:=b;dsimp only at h ⊢;cases b with
   | false =>
     have:=fC hC r _ _ _ h;rw[mN] at this;exact this
   | true =>
     rw[cond_true] at h;obtain ⟨y,h2,h⟩:=Tr.bind_some h;have h2:=BV hC h2;rw[qn] at h2;have:=fC hC r _ _ _ h;rw[mN,MN] at this;rw[if_pos rfl];dsimp only;rw[h2];exact this

def pL (fr:aS) (o:Oper):Touch:=ua (strip fr) o
def qh (P:Program) (call:aO) (callR:bt) (ops:Array Oper) (bef:Nat) (ef:aS) (H:ab) (nx:Nat) (recs:List Rec) (o:Oper):Tr (uJ×Option Nat×aS) :=
 (D0 ops ef o).bind fun b=>cond b.1
   (cond (fx o) ((Pk o.op o P call callR b.2 (th (mr bef recs H)) nx).bind fun y=>.ok (⟨y.1.1,.all,none⟩,y.1.2,b.2))
     ((Pk o.op o P call callR b.2 (mr bef recs H) nx).bind fun y=>match y.2 with
       | .bE=>.ok (⟨y.1.1,pL b.2 o,none⟩,y.1.2,b.2)
       | .push q=>cond (jH o && !mB q && rX (nN H 0 nx) && !jX H 0) (.ok (⟨y.1.1,pL b.2 o,some (0,nx,(0,q))⟩,y.1.2,b.2)) .bad
       | .set d i q=>.req (bO (eR (nN H d i).1 q.1) (eR q.1 (Nat.succ (nN H d i).1))) (cond (!mB q.2 && !mB (nN (mr bef recs H) d i).2 && kA bef d i recs) (.ok (⟨y.1.1,pL b.2 o,some (d,i,q)⟩,y.1.2,b.2)) .bad)
       | _=>.bad))
   (.ok (⟨.tup [],.none,none⟩,none,b.2))
theorem wN {P:Program} {call:aO} {callR:bt} (hC:callR.Ok call) {ops:Array Oper} {bef:Nat} {fr:aS} {H:ab} {nx:Nat} {recs:List Rec} {o:Oper} {e:uJ×Option Nat×aS} (h:(qh P call callR ops bef fr H nx recs o).run=some e) :
 gT P call ops bef (strip fr) H nx recs o=some e.1∧strip e.2.2=strip fr:=by
 unfold qh at h
 unfold gT
 simp only[m9,y8,pL,zJ,pr,gv] at h
 obtain ⟨b,h1,h⟩:=Tr.bind_some h
 obtain ⟨hw,hs⟩:=AU h1
 rw[hw,← hs]
 obtain ⟨b,fr1⟩:=b
 dsimp only at h ⊢
 cases b with
 | false =>
   rw[cond_false] at h
   rw[← Tr.af h];exact ⟨rfl,rfl⟩
 | true =>
   rw[cond_true] at h
   rw[if_pos rfl]
   dsimp only
   cases hcv:fx o with
   | true =>
     rw[hcv,cond_true] at h
     obtain ⟨y,h2,h⟩:=Tr.bind_some h
     rw[if_pos rfl,BV hC h2,← Tr.af h]
     exact ⟨rfl,rfl⟩
   | false =>
     rw[hcv,cond_false] at h
     obtain ⟨y,h2,h⟩:=Tr.bind_some h
     rw[if_neg (by simp),BV hC h2]
     split at h
     · rename_i hy
       rw[hy,← Tr.af h];exact ⟨rfl,rfl⟩
     · rename_i b hy
       obtain ⟨hc,h⟩:=Tr.aZ h
       rw[hy]
       dsimp only
       rw[if_pos hc,← Tr.af h];exact ⟨rfl,rfl⟩
     · rename_i d i b hy
       obtain ⟨hv,h⟩:=Tr.aX h
       obtain ⟨hc,h⟩:=Tr.aZ h
       rw[hy]
       dsimp only
       rw[bT,jj,jj,Bool.and_eq_true,decide_eq_true_eq,decide_eq_true_eq] at hv
       have hv':(Nat.beq b.1 (aA H d i).1 || Nat.beq b.1 (Nat.succ (aA H d i).1))=true:=by
        simp only[Bool.or_eq_true,Nat.beq_eq];omega
       simp only[Bool.and_eq_true] at hc
       rw[if_pos (by simp only[Bool.and_eq_true];exact ⟨⟨⟨hc.1.1,hv'⟩,hc.1.2⟩,hc.2⟩),← Tr.af h];exact ⟨rfl,rfl⟩
     · exact (Tr.ah h).elim
def o7 (P:Program) (nt:Nat) (call:aO) (callR:bt) (ops:Array Oper) (befs:Array Nat):List Oper→Nat→aS→ab→Nat→List Rec→Tr (aS×ab)
 | [],_,fr,H,_,_=>.ok (fr,H)
 | o::r,j,fr,H,nx,recs=>(qh P call callR ops (befs.getD j 0) fr H nx recs o).bind fun e =>
   o7 P nt call callR ops befs r (j+1) (rn nt e.2.2 o.dst (e.1.v,e.2.1)) (Hg H e.1.wr) (if jH o then nx+1 else nx) (⟨j,e.1.rd,e.1.wr.map fun x=>(x.1,x.2.1)⟩::recs)
theorem qV {P:Program} {nt:Nat} {call:aO} {callR:bt} (hC:callR.Ok call) {ops:Array Oper} {befs:Array Nat}:∀ (l:List Oper) (j:Nat) (fr:aS) (H:ab) (nx:Nat) (recs:List Rec) (x:aS×ab),
 (o7 P nt call callR ops befs l j fr H nx recs).run=some x→gJ P nt call ops befs j l (strip fr) H nx recs=some (strip x.1,x.2)
 | [],j,fr,H,nx,recs,x,h=>by rw[← Tr.af h];rfl
 | o::r,j,fr,H,nx,recs,x,h=>by
   simp only[o7] at h;obtain ⟨e,h1,h⟩:=Tr.bind_some h;obtain ⟨hd,hs⟩:=wN hC h1;unfold gJ;rw[hd,← hs];have:=qV hC r _ _ _ _ _ _ h;rw[mN,Hh] at this;exact this

def aE:Code→List (Nat×Code)
 | .block id b=>(id,b)::aE b
 | .loop b=>aE b
 | .seq a b=>aE a++aE b
 | .cond _ a b=>aE a++aE b
 | .scope b=>aE b
 | _=>[]
def aV (f:Func):Code:=match f.body with | some c=>c | none=>.skip
abbrev eI:=Ex×aS×ab
def eI.st (x:eI):Ex×aF×ab:=(x.1,strip x.2.1,x.2.2)
abbrev eS:=Nat→aS→ab→Option (Tr eI)
abbrev nY:=Operand→aS→ab→Option (Tr eI)
def eS.Ok (bl:eS) (cx:Cx) (c:Code):Prop:=∀ id b,(id,b) ∈ aE c→∀ fr H t x,bl id fr H=some t→t.run=some x→exec cx (.block id b) (strip fr) H=some x.st
def dP:Code→List (Operand×Array Tmp×Code×Code)
 | .rangeFunc f ps a b=>[(f,ps,a,b)]
 | .loop b=>dP b
 | .block _ b=>dP b
 | .seq a b=>dP a++dP b
 | .cond _ a b=>dP a++dP b
 | .scope b=>dP b
 | _=>[]
def nY.Ok (rg:nY) (cx:Cx) (c:Code):Prop:=∀ f ps a b,(f,ps,a,b) ∈ dP c→∀ fr H t x,rg f fr H=some t→t.run=some x→exec cx (.rangeFunc f ps a b) (strip fr) H=some x.st
def cr (bl:eS) (id0:Nat) (ef:aF) (H0:ab) (u:Tr eI):eS:=fun id fr H=>cond (Nat.beq id id0) (some (.reqP (strip fr=ef∧H=H0) u)) (bl id fr H)
theorem aP {bl:eS} {cx:Cx} {c:Code} (h:bl.Ok cx c) {id0:Nat} {ef:aF} {H0:ab} {u:Tr eI} {B:Code} (hB:∀ b,(id0,b) ∈ aE c→b=B) (k:∀ x,u.run=some x→exec cx (.block id0 B) ef H0=some x.st):(cr bl id0 ef H0 u).Ok cx c:=by
 intro id b hm fr H t y ht hy;unfold cr at ht;cases hb:Nat.beq id id0 with
 | true =>
   have uX:=Nat.eq_of_beq_eq_true hb;subst uX;rw[hb,cond_true,Option.some.injEq] at ht;subst ht;obtain ⟨⟨h1,h2⟩,h3⟩:=Tr.gz hy;rw[h1,h2,hB b hm];exact k y h3
 | false =>
   rw[hb,cond_false] at ht;exact h id b hm fr H t y ht hy
def Ib (rg:nY) (tf:Operand→Bool) (ef:aF) (H0:ab) (u:Tr eI):nY:=fun f fr H=>cond (tf f) (some (.reqP (strip fr=ef∧H=H0) u)) (rg f fr H)
theorem B0 {rg:nY} {cx:Cx} {c:Code} (h:rg.Ok cx c) {tf:Operand→Bool} {ef:aF} {H0:ab} {u:Tr eI} (k:∀ f ps a b,tf f=true→(f,ps,a,b) ∈ dP c→∀ x,u.run=some x→exec cx (.rangeFunc f ps a b) ef H0=some x.st):(Ib rg tf ef H0 u).Ok cx c:=by
 intro f ps a b hm fr H t y ht hy;unfold Ib at ht;cases hb:tf f with
 | true =>
   rw[hb,cond_true,Option.some.injEq] at ht;subst ht;obtain ⟨⟨h1,h2⟩,h3⟩:=Tr.gz hy;rw[h1,h2];exact k f ps a b hb hm y h3
 | false =>
   rw[hb,cond_false] at ht;exact h f ps a b hm fr H t y ht hy
def aL:eS:=fun _ _ _=>none
def aJ:nY:=fun _ _ _=>none
theorem ai (cx:Cx) (c:Code):aL.Ok cx c:=fun _ _ _ _ _ _ _ h=>by cases h
theorem aj (cx:Cx) (c:Code):aJ.Ok cx c:=fun _ _ _ _ _ _ _ _ _ h=>by cases h
def zf (g:AV→AV):aS→aS
 | []=>[]
 | (x,(v,h))::r=>(x,(nG g v,h))::zf g r
theorem zg (g:AV→AV):∀ fr:aS,strip (zf g fr)=qG g (strip fr)
 | []=>rfl
 | (x,(v,h))::r=>by
   have e:zf g ((x,(v,h))::r)=(x,(nG g v,h))::zf g r:=rfl;rw[e,c7,c7,qG,zg g r]
def lI (n:Nat):Nat→aS→ab→aS×ab
 | 0,fr,H=>(fr,H)
 | k + 1,fr,H=>match H with
   | []=>(fr,[])
   | l::r=>cond (Nat.ble (kz l.bs) (Nat.succ n)) (fr,l::r) (match hole (strip fr) l.bs 4 n with
     | none=>(fr,l::r)
     | some h=>lI n k (zf (vg (l.bs.length-1) h) fr) (mg n (qG (vg (l.bs.length-1) h) (strip fr)) (x7 (l.bs.length-1) h l::r)))
theorem uw (n:Nat):∀ (k:Nat) (fr:aS) (H:ab),(strip (lI n k fr H).1,(lI n k fr H).2)=j5 n k (strip fr) H
 | 0,fr,H=>rfl
 | k+1,fr,[]=>rfl
 | k + 1,fr,l::r=>by
   cases hb:Nat.ble (kz l.bs) (Nat.succ n) with
   | true =>
     have:lI n (k+1) fr (l::r)=(fr,l::r):=by
      unfold lI;dsimp only;rw[hb];rfl
     rw[this,Ci (by rw[eE] at hb;simpa using hb)]
   | false =>
     unfold lI j5;dsimp only;rw[hb,cond_false];cases hole (strip fr) l.bs 4 n with
     | none=>rfl
     | some h =>
       dsimp only;rw[uw n k,zg]
def DW (n:Nat) (fr:aS) (H:ab):aS×ab:=lI n 4 fr (mg n (strip fr) H)
theorem HP (n:Nat) (fr:aS) (H:ab):(strip (DW n fr H).1,(DW n fr H).2)=tidy n (strip fr) H:=uw n 4 fr _
def Da (body:aS→ab→Tr eI) (n:Nat):Nat→aS→ab→Tr eI
 | 0,_,_=>.bad
 | k+1,fr,H=>(body fr H).bind fun x=>match x with
   | (.normal,fr,H)=>Da body n k (DW n fr H).1 (DW n fr H).2
   | r=>.ok r
theorem vS {body:aF→ab→Option (Ex×aF×ab)} {n:Nat}:∀ (k m:Nat) (fr:aF) (H:ab) (x:Ex×aF×ab),iter body n k fr H=some x→k≤m→iter body n m fr H=some x
 | 0,m,fr,H,x,h,_=>by simp[iter] at h
 | k+1,0,fr,H,x,h,hk=>by omega
 | k + 1,m+1,fr,H,x,h,hk=>by
   unfold iter at h ⊢;cases hb:body fr H with
   | none=>rw[hb] at h;simp at h
   | some y =>
     rw[hb] at h;obtain ⟨e,f,g⟩:=y;cases e;case normal=>exact vS k m _ _ _ h (by omega)
     all_goals exact h
theorem yQ {body:aS→ab→Tr eI} {body':aF→ab→Option (Ex×aF×ab)} {n:Nat} (hb:∀ fr H x,(body fr H).run=some x→body' (strip fr) H=some x.st):∀ (k:Nat) (fr:aS) (H:ab) (x:eI),(Da body n k fr H).run=some x→iter body' n k (strip fr) H=some x.st
 | 0,fr,H,x,h=>(Tr.ah h).elim
 | k+1,fr,H,x,h=>by
   simp only[Da] at h;obtain ⟨y,h1,h⟩:=Tr.bind_some h;unfold iter;rw[hb _ _ _ h1];obtain ⟨e,f,g⟩:=y;cases e;case normal =>
    have e:=HP n f g
    have h:=yQ hb k _ _ _ h
    show iter body' n k (tidy n (strip f) g).1 (tidy n (strip f) g).2=_
    rw[← e];exact h
   all_goals
    have h:=Tr.af h
    rw[← h];rfl
def oA (f:AV→Tr AV):List AV→Tr (List AV)
 | []=>.ok []
 | v::l=>(f v).bind fun u=>(oA f l).bind fun m=>.ok (u::m)
theorem eX {f:AV→Tr AV} {g:AV→AV} (hf:∀ v u,(f v).run=some u→g v=u):∀ (l m:List AV),(oA f l).run=some m→l.map g=m
 | [],m,h=>Tr.af h
 | v::l,m,h=>by
   simp only[oA] at h;obtain ⟨u,h1,h⟩:=Tr.bind_some h;obtain ⟨n,h2,h⟩:=Tr.bind_some h;rw[← Tr.af h,List.map_cons,hf _ _ h1,eX hf l n h2]
def mG (f:AV→Tr AV):List df→Tr (List df)
 | []=>.ok []
 | .one v::l=>(f v).bind fun u=>(mG f l).bind fun m=>.ok (.one u::m)
 | .arr k z n::l=>(mG f l).bind fun m=>.ok (.arr k z n::m)
theorem gZ {f:AV→Tr AV} {g:AV→AV} (hf:∀ v u,(f v).run=some u→g v=u):∀ (l m:List df),(mG f l).run=some m→mapM' g l=m
 | [],m,h=>Tr.af h
 | .one v::l,m,h=>by
   simp only[mG] at h;obtain ⟨u,h1,h⟩:=Tr.bind_some h;obtain ⟨n,h2,h⟩:=Tr.bind_some h;rw[← Tr.af h,mapM',hf _ _ h1,gZ hf l n h2]
 | .arr k z n::l,m,h=>by
   simp only[mG] at h;obtain ⟨n,h2,h⟩:=Tr.bind_some h;rw[← Tr.af h,mapM',gZ hf l n h2]
def qT (cap:Option Nat) (len:Nat):Bool :=
 match cap with
 | none=>false
 | some c=>cD c len
theorem kf (cap:Option Nat) (len:Nat):qT cap len=(cap == some len):=by
 cases cap with
 | none=>rfl
 | some c=>simp only[qT,fz];rw[Bool.eq_iff_iff];simp
def yL (i ver:Nat) (r:Row):AV→Tr AV
 | .ptr d j v off=>cond (Nat.beq d 0 && Nat.beq j i) (.req (cD v ver) (.ok (.ptrT none r off))) (.ok (.ptr d j v off))
 | .slc d j v off sz len cap=>cond (Nat.beq d 0 && Nat.beq j i) (.req (cD v ver) (match r with
    | .M [.arr k z N]=>.req (eD off (fP len sz) 0 N) (.ok (.slcT none (.M [.arr k (pZ z off) (fP len sz)]) sz len (qT cap len)))
    | .I k l=>cond (uU (.I k l) off (Nat.mul len sz)) (.ok (.slcT none (.I k (lQ (lM l off) (Nat.mul len sz))) sz len (qT cap len))) .bad
    | _=>.bad)) (.ok (.slc d j v off sz len cap))
 | v=>.ok v
theorem vB {d j i:Nat} {x:Bool} (h:(Nat.beq d 0 && Nat.beq j i)=true):(Nat.beq d 0 && (Nat.beq j i && x))=x:=by
 rw[Bool.and_eq_true] at h;rw[h.1,h.2];rfl
theorem vC {d j i:Nat} {x:Bool} (h:(Nat.beq d 0 && Nat.beq j i)=false):(Nat.beq d 0 && (Nat.beq j i && x))=false:=by
 rw[← Bool.and_assoc,h];rfl
theorem yM {i ver:Nat} {r:Row}:∀ v u,(yL i ver r v).run=some u→nF i ver r v=u:=by
 intro v u h;cases v with
 | ptr d j v off =>
   simp only[yL] at h;simp only[nF];cases hc:(Nat.beq d 0 && Nat.beq j i) with
   | false=>rw[hc,cond_false] at h;rw[vC hc,if_neg (by simp)];exact Tr.af h
   | true =>
     rw[hc,cond_true] at h;obtain ⟨h1,h⟩:=Tr.aX h;rw[fz,decide_eq_true_eq] at h1;rw[vB hc,if_pos (by simpa using h1)];exact Tr.af h
 | slc d j v off sz len cap =>
   simp only[yL] at h;simp only[nF];cases hc:(Nat.beq d 0 && Nat.beq j i) with
   | false=>rw[hc,cond_false] at h;rw[vC hc,if_neg (by simp)];exact Tr.af h
   | true =>
     rw[hc,cond_true] at h;obtain ⟨h1,h2⟩:=Tr.aX h;clear h;rw[fz,decide_eq_true_eq] at h1;rw[vB hc];split at h2
     · obtain ⟨h3,h⟩:=Tr.aX h2;rw[jg,decide_eq_true_eq,cM] at h3;rw[if_pos (by simp[h1,Row.len,aC,aU];omega),← Tr.af h,kf,cM,mT];rfl
     · obtain ⟨h3,h⟩:=Tr.aZ h2;rw[kW,decide_eq_true_eq] at h3;rw[if_pos (by simp only[h1,Bool.and_eq_true];exact ⟨by simp,Nat.ble_eq_true_of_le h3⟩),← Tr.af h,kf,ik,gU];rfl
     · exact (Tr.ah h2).elim
 | _=>exact Tr.af h
def zh (f:AV→Tr AV) (v:AV):Tr AV :=
 match v with
 | .agg (.G l)=>(oA f l).bind fun m=>.ok (.agg (.G m))
 | .agg (.M l)=>(mG f l).bind fun m=>.ok (.agg (.M m))
 | .fn g a b=>(oA f a).bind fun a'=>(oA f b).bind fun b'=>.ok (.fn g a' b')
 | v=>f v
theorem tl {f:AV→Tr AV} {g:AV→AV} (hf:∀ v u,(f v).run=some u→g v=u):∀ v u,(zh f v).run=some u→nG g v=u:=by
 intro v u h;unfold zh at h;split at h
 · obtain ⟨m,h1,h⟩:=Tr.bind_some h;rw[← Tr.af h,← eX hf _ _ h1];rfl
 · obtain ⟨m,h1,h⟩:=Tr.bind_some h;rw[← Tr.af h,← gZ hf _ _ h1];rfl
 · obtain ⟨a',h1,h⟩:=Tr.bind_some h;obtain ⟨b',h2,h⟩:=Tr.bind_some h;rw[← Tr.af h,← eX hf _ _ h1,← eX hf _ _ h2];rfl
 · rename_i n1 n2 n3;have:=hf _ _ h;rw[← this];unfold nG;split
   · exact absurd rfl (n1 _)
   · exact absurd rfl (n2 _)
   · exact absurd rfl (n3 _ _ _)
   · rfl
def GJ (f:AV→Tr AV):an→Tr an
 | .row r=>match r with
   | .G l=>(oA (zh f) l).bind fun m=>.ok (.row (.G m))
   | .M l=>(mG (zh f) l).bind fun m=>.ok (.row (.M m))
   | r=>.ok (.row r)
 | b=>.ok b
theorem GK {f:AV→Tr AV} {g:AV→AV} (hf:∀ v u,(f v).run=some u→g v=u) (b u:an) (h:(GJ f b).run=some u):qF g b=u:=by
 cases b with
 | row r =>
   simp only[GJ] at h;cases r with
   | G l =>
     obtain ⟨m,h1,h⟩:=Tr.bind_some h;rw[← Tr.af h,← eX (tl hf) _ _ h1];rfl
   | M l =>
     obtain ⟨m,h1,h⟩:=Tr.bind_some h;rw[← Tr.af h,← gZ (tl hf) _ _ h1];rfl
   | I k l=>rw[← Tr.af h];rfl
   | F z n=>rw[← Tr.af h];rfl
 | dead=>exact Tr.af h
 | map es=>exact Tr.af h
 | fmap kq f g c=>exact Tr.af h
 | loop l=>exact Tr.af h
def xj (f:AV→Tr AV):List (Nat×an)→Tr (List (Nat×an))
 | []=>.ok []
 | (v,b)::r=>(GJ f b).bind fun b'=>(xj f r).bind fun r'=>.ok ((v,b')::r')
theorem vW {f:AV→Tr AV} {g:AV→AV} (hf:∀ v u,(f v).run=some u→g v=u):∀ (l m:List (Nat×an)),(xj f l).run=some m→jF g l=m
 | [],m,h=>Tr.af h
 | (v,b)::r,m,h=>by
   simp only[xj] at h;obtain ⟨b',h1,h⟩:=Tr.bind_some h;obtain ⟨r',h2,h⟩:=Tr.bind_some h;rw[← Tr.af h,jF,GK hf _ _ h1,vW hf r r' h2]
def Dk (f:AV→Tr AV):aS→Tr aS
 | []=>.ok []
 | (x,(v,h))::r=>(zh f v).bind fun v'=>(Dk f r).bind fun r'=>.ok ((x,(v',h))::r')
theorem ze {f:AV→Tr AV} {g:AV→AV} (hf:∀ v u,(f v).run=some u→g v=u):∀ (l m:aS),(Dk f l).run=some m→qG g (strip l)=strip m
 | [],m,h=>by rw[← Tr.af h];rfl
 | (x,(v,hh))::r,m,h=>by
   simp only[Dk] at h;obtain ⟨v',h1,h⟩:=Tr.bind_some h;obtain ⟨r',h2,h⟩:=Tr.bind_some h;rw[← Tr.af h,c7,c7,qG,tl hf _ _ h1,ze hf r r' h2]
def sY (i:Nat) (fr:aS) (l:bF):Tr (aS×bF) :=
 match BR l.bs i with
 | (ver,.row r)=>cond (xc r && (D6 (fun x=>qb (pP i) x.2) (strip fr) || D6 (fun x=>MZ (pP i) x.2) l.bs)) ((Dk (yL i ver r) fr).bind fun fr'=>(xj (yL i ver r) l.bs).bind fun bs'=>.ok (fr',{ l with bs:=bP bs' i (ver,.dead) })) (.ok (fr,l))
 | _=>.ok (fr,l)
theorem qp {i:Nat} {fr:aS} {l:bF} {y:aS×bF} (h:(sY i fr l).run=some y):my i (strip fr) l=(strip y.1,y.2):=by
 unfold sY at h;unfold my;rw[r6] at h;split at h
 · rename_i ver r hb;rw[hb];dsimp only;rw[rN,rN] at h;cases hc:(xc r && ((strip fr).any (fun x=>qb (pP i) x.2) || l.bs.any (fun x=>MZ (pP i) x.2))) with
   | true =>
     rw[hc,cond_true] at h;obtain ⟨fr',h1,h⟩:=Tr.bind_some h;obtain ⟨bs',h2,h⟩:=Tr.bind_some h;rw[if_pos rfl,ze yM _ _ h1,vW yM _ _ h2,← Tr.af h]
   | false =>
     rw[hc,cond_false] at h;rw[if_neg (by simp),← Tr.af h]
 · rename_i hno;have h:=Tr.af h;subst h;split
   · rename_i ver r hb;exact absurd hb (hno ver r)
   · rfl
def rV:Nat→aS→bF→Tr (aS×bF)
 | 0,fr,l=>.ok (fr,l)
 | n+1,fr,l=>(rV n fr l).bind fun y=>sY n y.1 y.2
theorem sW:∀ (n:Nat) (fr:aS) (l:bF) (y:aS×bF),(rV n fr l).run=some y→jf n (strip fr) l=(strip y.1,y.2)
 | 0,fr,l,y,h=>by rw[← Tr.af h];rfl
 | n+1,fr,l,y,h=>by
   simp only[rV] at h;obtain ⟨z,h1,h⟩:=Tr.bind_some h;have h1:=sW n fr l z h1;simp only[jf];rw[h1];exact qp h
def pw:Nat→aS→bF→Tr (aS×bF)
 | 0,fr,l=>.ok (fr,l)
 | n+1,fr,l=>(pw n fr l).bind fun y=>cond (D6 (fun x=>qb (pP n) x.2) (strip y.1)) (.ok y) (sY n y.1 y.2)
theorem rf:∀ (n:Nat) (fr:aS) (l:bF) (y:aS×bF),(pw n fr l).run=some y→eC n (strip fr) l=(strip y.1,y.2)
 | 0,fr,l,y,h=>by rw[← Tr.af h];rfl
 | n + 1,fr,l,y,h=>by
   simp only[pw] at h;obtain ⟨z,h1,h⟩:=Tr.bind_some h;have h1:=rf n fr l z h1;simp only[eC];rw[h1];dsimp only;rw[rN] at h;cases hc:(strip z.1).any (fun x=>qb (pP n) x.2) with
   | true =>
     rw[hc,cond_true] at h;rw[if_pos rfl,Tr.af h]
   | false =>
     rw[hc,cond_false] at h;rw[if_neg (by simp)];exact qp h
def Dd (s:Nat):aS→Option Nat
 | []=>none
 | (x,(v,_))::r=>cond (Nat.beq x s) (match v with
   | .slc 0 i _ _ _ _ _=>some i
   | _=>none) (Dd s r)
theorem yV (s:Nat):∀ fr:aS,Dd s fr=Dc s (strip fr)
 | []=>rfl
 | (x,(v,h))::r=>by
   rw[c7];simp only[Dd,Dc,yV s r];cases Nat.beq x s<;>rfl
def xb (s:Nat) (fr:aS) (H:ab):Tr (aS×ab) :=
 match H with
 | []=>.ok (fr,[])
 | l::r=>cond l.lock (.ok (fr,l::r)) (match Dd s fr with
   | some i=>(sY i fr l).bind fun y=>.ok (y.1,y.2::r)
   | none=>.ok (fr,l::r))
theorem BC {s:Nat} {fr:aS} {H:ab} {y:aS×ab} (h:(xb s fr H).run=some y):xa s (strip fr) H=(strip y.1,y.2):=by
 unfold xb at h;unfold xa;cases H with
 | nil=>rw[← Tr.af h]
 | cons l r =>
   dsimp only at h ⊢;cases hl:l.lock with
   | true =>
     rw[hl,cond_true] at h;rw[if_pos rfl,← Tr.af h]
   | false =>
     rw[hl,cond_false,yV] at h;rw[if_neg (by simp)];split at h
     · rename_i i hi;obtain ⟨z,h1,h⟩:=Tr.bind_some h;have h1:=qp h1;rw[hi];dsimp only;rw[h1,← Tr.af h]
     · rename_i hi;rw[hi,← Tr.af h]
def rW (m:Nat) (fr:aS) (H:ab):Tr (aS×ab) :=
 cond (lU m 4000) (match H with
  | []=>.ok (gu fr m,[])
  | l::r=>cond l.lock (.ok (gu fr m,l::r)) ((rV (kz l.bs) (gu fr m) l).bind fun y=>.ok (y.1,cond (Nat.beq (Nat.shiftRight m 4003) 0) (y.2::r) (GR (Nat.shiftRight m 4003) (y.2::r))))) (cond (lU m 4001) (xb (Nat.shiftRight m 4003) (gu fr m) H) (cond (lU m 4002) (wz (gu fr m) (Nat.shiftRight m 4003) (fun fr=>.ok (fr,H)) (fun fr=>match H with
  | []=>.ok (fr,[])
  | l::r=>cond l.lock (.ok (fr,l::r)) ((pw (kz l.bs) fr l).bind fun y=>.ok (y.1,y.2::r)))) (.ok (gu fr m,H))))
theorem sZ {m:Nat} {fr:aS} {H:ab} {y:aS×ab} (h:(rW m fr H).run=some y):lg m (strip fr) H=(strip y.1,y.2):=by
 unfold rW at h;unfold lg;cases hm:lU m 4000 with
 | false =>
   rw[hm,cond_false] at h;rw[if_neg (by simp)];cases hm2:lU m 4001 with
   | false =>
     rw[hm2,cond_false] at h;rw[if_neg (by simp)];cases hm3:lU m 4002 with
     | false =>
       rw[hm3,cond_false] at h;rw[if_neg (by simp),← Tr.af h,eW]
     | true =>
       rw[hm3,cond_true] at h;rw[if_pos rfl];obtain ⟨b,fr',h1,h2,h3⟩:=lH h;rw[eW] at h1 h2;rw[h1];cases b with
       | true =>
         simp only[if_true] at h3;rw[← Tr.af h3,h2]
       | false =>
         simp only[Bool.false_eq_true,if_false] at h3;cases H with
         | nil =>
           dsimp only at h3;rw[← Tr.af h3,← h2];rfl
         | cons l r =>
           dsimp only at h3;show uY (bV (strip fr) m) (l::r)=_;rw[← h2];unfold uY;dsimp only;cases hl:l.lock with
           | true =>
             rw[hl,cond_true] at h3;rw[if_pos rfl,← Tr.af h3]
           | false =>
             rw[hl,cond_false] at h3;obtain ⟨z,h4,h5⟩:=Tr.bind_some h3;have h4:=rf _ _ _ _ h4;rw[eE] at h4;rw[if_neg (by simp),h4,← Tr.af h5]
   | true =>
     rw[hm2,cond_true] at h;rw[if_pos rfl];have h1:=BC h;rw[eW] at h1;exact h1
 | true =>
   rw[hm,cond_true] at h;rw[if_pos rfl];cases H with
   | nil =>
     rw[← Tr.af h,eW];simp only[Eu,GR,ite_self]
   | cons l r =>
     dsimp only at h;unfold Eu;dsimp only;cases hl:l.lock with
     | true =>
       rw[hl,cond_true] at h;simp only[if_true];rw[← Tr.af h,eW];simp only[GR,hl,if_true,ite_self]
     | false =>
       rw[hl,cond_false] at h;obtain ⟨z,h1,h⟩:=Tr.bind_some h;have h1:=sW _ _ _ _ h1;rw[eE,eW] at h1;simp only[Bool.false_eq_true,if_false,h1];rw[← Tr.af h];cases Nat.beq (Nat.shiftRight m 4003) 0<;>rfl
def Jj:aS→aS
 | []=>[]
 | (x,(v,h))::r=>(x,(vZ v,h))::Jj r
theorem tD:∀ fr:aS,strip (Jj fr)=EE (strip fr)
 | []=>rfl
 | (x,(v,h))::r=>by
   simp only[Jj,c7,EE,tC,tD r]
def BB (m:Nat) (fr:aS) (H:ab):Tr (aS×ab) :=
 cond (lU m 3999) ((rW m fr H).bind fun y=>.ok (Jj y.1,y.2)) (rW m fr H)
theorem Ev {m:Nat} {fr:aS} {H:ab} {y:aS×ab} (h:(BB m fr H).run=some y):px m (strip fr) H=(strip y.1,y.2):=by
 unfold BB at h;unfold px;cases hm:lU m 3999 with
 | false =>
   rw[hm,cond_false] at h;rw[if_neg (by simp)];exact sZ h
 | true =>
   rw[hm,cond_true] at h;rw[if_pos rfl];obtain ⟨z,h1,h⟩:=Tr.bind_some h;have h1:=sZ h1;rw[h1,← Tr.af h,tD]
def aH (cx:Cx) (callR:bt) (bl:eS) (rg:nY):Code→aS→ab→Tr eI
 | .skip,fr,H=>.ok (.normal,fr,H)
 | .label _,fr,H=>.ok (.normal,fr,H)
 | .exit id,fr,H=>.ok (.exit id,fr,H)
 | .goto l,fr,H=>.ok (.goto l,fr,H)
 | .ret,fr,H=>.ok (.ret,fr,H)
 | .region id ops draw,fr,H =>
   (cond draw (cond (gh ops (Region.before ops)) (o7 cx.P cx.nt cx.call callR ops (Region.before ops) ops.toList 0 fr (om H (c5 ops.toList)) (w9 H) []) .bad) (iN cx.P cx.nt cx.call callR ops ops.toList fr H)).bind fun x=>(BB (cx.kt id) x.1 x.2).bind fun y=>.ok (.normal,y.1,y.2)
 | .seq a b,fr,H=>(aH cx callR bl rg a fr H).bind fun x=>match x with
   | (.normal,fr,H)=>aH cx callR bl rg b fr H
   | r=>.ok r
 | .cond c a b,fr,H=>match c with
   | .tmp d=>wz fr d (fun fr=>aH cx callR bl rg a fr H) (fun fr=>aH cx callR bl rg b fr H)
   | c=>match (cu fr c).1 with
     | .bool t=>cond t (aH cx callR bl rg a fr H) (aH cx callR bl rg b fr H)
     | _=>.bad
 | .block id b,fr,H=>match bl id fr H with
   | some t=>t
   | none=>(aH cx callR bl rg b fr H).bind fun x=>match x with
     | (.exit id',fr,H)=>cond (Nat.beq id' id) (.ok (.normal,fr,H)) (.ok (.exit id',fr,H))
     | r=>.ok r
 | .scope b,fr,H=>(aH cx callR bl rg b fr H).bind fun x=>match x with
   | (.goto _,_,_)=>.bad
   | r=>.ok r
 | .rangeFunc f _ _ _,fr,H=>match rg f fr H with
   | some t=>t
   | none=>.bad
 | .loop b,fr,H=>cond (Nat.ble 12 cx.fu) (Da (aH cx callR bl rg b) (w9 H) 12 fr H) .bad
 | .refuse _,_,_=>.bad

theorem fU {cx:Cx} {callR:bt} {bl:eS} {rg:nY} (hC:callR.Ok cx.call):∀ (c:Code),bl.Ok cx c→rg.Ok cx c→∀ (fr:aS) (H:ab) (x:eI),(aH cx callR bl rg c fr H).run=some x→exec cx c (strip fr) H=some x.st:=by
 intro c;induction c with
 | skip=>intro _ _ fr H x h;rw[← Tr.af h];rfl
 | label=>intro _ _ fr H x h;rw[← Tr.af h];rfl
 | exit=>intro _ _ fr H x h;rw[← Tr.af h];rfl
 | goto=>intro _ _ fr H x h;rw[← Tr.af h];rfl
 | ret=>intro _ _ fr H x h;rw[← Tr.af h];rfl
 | refuse=>intro _ _ fr H x h;exact (Tr.ah h).elim
 | loop b ih =>
   intro hb hr fr H x h;simp only[aH] at h;obtain ⟨hk,h⟩:=Tr.aZ h;rw[Nat.ble_eq] at hk;unfold exec;rw[qn] at h;exact vS _ _ _ _ _ (yQ (fun fr H x h=>ih hb hr fr H x h) 12 fr H x h) hk
 | rangeFunc f ps a b =>
   intro _ hr fr H x h;simp only[aH] at h;split at h
   · rename_i t ht;exact hr f ps a b (by simp[dP]) fr H t x ht h
   · exact (Tr.ah h).elim
 | region id ops draw =>
   intro _ _ fr H x h;simp only[aH] at h;obtain ⟨y,h1,h⟩:=Tr.bind_some h;obtain ⟨z,h2,h⟩:=Tr.bind_some h;have h2:=Ev h2;rw[← Tr.af h];unfold exec;cases draw with
   | true =>
     rw[cond_true] at h1;obtain ⟨hs,h1⟩:=Tr.aZ h1;rw[qn] at h1;simp only[if_true,hs];rw[qV hC _ _ _ _ _ _ _ h1];dsimp only;rw[h2];rfl
   | false =>
     rw[cond_false] at h1;simp only[Bool.false_eq_true,if_false];rw[fC hC _ _ _ _ h1];dsimp only;rw[h2];rfl
 | seq a b iha ihb =>
   intro hb hr fr H x h;have hba:bl.Ok cx a:=fun id b' hm=>hb id b' (List.mem_append_left _ hm);have hbb:bl.Ok cx b:=fun id b' hm=>hb id b' (List.mem_append_right _ hm);have hra:rg.Ok cx a:=fun f ps u v hm=>hr f ps u v (List.mem_append_left _ hm);have hrb:rg.Ok cx b:=fun f ps u v hm=>hr f ps u v (List.mem_append_right _ hm);simp only[aH] at h;obtain ⟨y,h1,h⟩:=Tr.bind_some h;have h1:=iha hba hra _ _ _ h1;unfold exec;rw[h1];obtain ⟨e,fr1,H1⟩:=y;cases e;case normal=>exact ihb hbb hrb _ _ _ h
   all_goals
    have h:=Tr.af h
    rw[← h];rfl
 | cond c a b iha ihb =>
   intro hb hr fr H x h;have hba:bl.Ok cx a:=fun id b' hm=>hb id b' (List.mem_append_left _ hm);have hbb:bl.Ok cx b:=fun id b' hm=>hb id b' (List.mem_append_right _ hm);have hra:rg.Ok cx a:=fun f ps u v hm=>hr f ps u v (List.mem_append_left _ hm);have hrb:rg.Ok cx b:=fun f ps u v hm=>hr f ps u v (List.mem_append_right _ hm);simp only[aH] at h;unfold exec;split at h
   · rename_i d;obtain ⟨b',fr',h1,h2,h3⟩:=lH h;have e:bZ (strip fr) (.tmp d)=.bool b':=h1;rw[e,← h2];cases b' with
     | true=>exact iha hba hra _ _ _ h3
     | false=>exact ihb hbb hrb _ _ _ h3
   · rename_i c' hne;rw[bg] at h;split at h
     · rename_i t hc;rw[hc];cases t with
       | true=>exact iha hba hra _ _ _ h
       | false=>exact ihb hbb hrb _ _ _ h
     · exact (Tr.ah h).elim
 | block id b ih =>
   intro hb hr fr H x h;have hbb:bl.Ok cx b:=fun id' b' hm=>hb id' b' (by simp only[aE];exact List.mem_cons_of_mem _ hm);simp only[aH] at h;split at h
   · rename_i t ht;exact hb id b (by simp[aE]) _ _ _ _ ht h
   · obtain ⟨y,h1,h⟩:=Tr.bind_some h;have h1:=ih hbb hr _ _ _ h1;unfold exec;rw[h1];obtain ⟨e,fr1,H1⟩:=y;cases e;case exit id' =>
      dsimp only[eI.st] at h ⊢
      rw[Iz] at h
      split at h
      · rename_i uX
        rw[if_pos uX,← Tr.af h]
      · rename_i uX
        rw[if_neg uX,← Tr.af h]
     all_goals
      have h:=Tr.af h
      rw[← h];rfl
 | scope b ih =>
   intro hb hr fr H x h;simp only[aH] at h;obtain ⟨y,h1,h⟩:=Tr.bind_some h;have h1:=ih hb hr _ _ _ h1;unfold exec;rw[h1];obtain ⟨e,fr1,H1⟩:=y;cases e;case goto=>exact (Tr.ah h).elim
   all_goals
    have h:=Tr.af h
    rw[← h];rfl

end
end Go.Eng
end
section
namespace Go.Eng
noncomputable section

def nE   (bs:List (Nat×an)):Nat→AV→Tr AV
 | 0,_=>.ok .undef
 | n + 1,v=>match v with
   | .ptr d i ver off=>match d with
     | d+1=>.ok (.ptr d i ver off)
     | 0 => match BR bs i with
       | (w,.row r)=>cond (Nat.beq w ver) (match r with
         | .I k l=>.ok (.ptrT none (.I k l) off)
         | .F f m=>.ok (.ptrT none (.F f m) off)
         | .M l=>cond (fT l) (.ok (.ptrT none (.M l) off)) ((mG (nE bs n) l).bind fun m=>.ok (.ptrT (some 0) (.M m) off))
         | .G l=>(oA (nE bs n) l).bind fun m=>.ok (.ptrT (some 0) (.G m) off)) .bad
       | _=>.bad
   | .slc d i ver off sz len cap=>match d with
     | d+1=>.ok (.slc d i ver off sz len cap)
     | 0 => match BR bs i with
       | (w,.row r)=>.req (cD w ver) (match r with
         | .M [.arr k z N]=>.req (eD off (fP len sz) 0 N) (.ok (.slcT none (.M [.arr k (pZ z off) (fP len sz)]) sz len (qT cap len)))
         | .I k l=>cond (uU (.I k l) off (Nat.mul len sz)) (.ok (.slcT none (.I k (lQ (lM l off) (Nat.mul len sz))) sz len (qT cap len))) .bad
         | .F f N=>.req (eD off (fP len sz) 0 N) (.ok (.slcT none (.F (fun j=>f (ar off j)) (fP len sz)) sz len (qT cap len)))
         | .G l=>cond (uU (.G l) off (Nat.mul len sz)) ((oA (nE bs n) (lQ (lM l off) (Nat.mul len sz))).bind fun m=>.ok (.slcT (some 0) (.G m) sz len (qT cap len))) .bad
         | _=>.bad)
       | _=>.bad
   | .ptrT s r off=>match s with
     | none=>.ok (.ptrT none r off)
     | some (s+1)=>.ok (.ptrT (some s) r off)
     | some 0=>match r with
       | .G l=>(oA (nE bs n) l).bind fun m=>.ok (.ptrT (some 0) (.G m) off)
       | .M l=>cond (fT l) (.ok (.ptrT none (.M l) off)) ((mG (nE bs n) l).bind fun m=>.ok (.ptrT (some 0) (.M m) off))
       | r=>.ok (.ptrT none r off)
   | .slcT s r sz len full=>match s with
     | none=>.ok (.slcT none r sz len full)
     | some (s+1)=>.ok (.slcT (some s) r sz len full)
     | some 0=>match r with
       | .G l=>(oA (nE bs n) l).bind fun m=>.ok (.slcT (some 0) (.G m) sz len full)
       | .M l=>cond (fT l) (.ok (.slcT none (.M l) sz len full)) ((mG (nE bs n) l).bind fun m=>.ok (.slcT (some 0) (.M m) sz len full))
       | r=>.ok (.slcT none r sz len full)
   | .map d i=>match d with
     | d+1=>.ok (.map d i)
     | 0=>.ok .undef
   | .yld d i=>match d with
     | d+1=>.ok (.yld d i)
     | 0=>.ok .undef
   | .fn f a b=>(oA (nE bs n) a).bind fun a'=>(oA (nE bs n) b).bind fun b'=>.ok (.fn f a' b')
   | .agg r=>match r with
     | .G l=>(oA (nE bs n) l).bind fun m=>.ok (.agg (.G m))
     | .M l=>(mG (nE bs n) l).bind fun m=>.ok (.agg (.M m))
     | r=>.ok (.agg r)
   | .tup l=>(oA (nE bs n) l).bind fun m=>.ok (.tup m)
   | v=>.ok v
theorem CT (bs:List (Nat×an)):∀ (n:Nat) (v u:AV),(nE bs n v).run=some u→dK bs n v=u
 | 0,v,u,h=>Tr.af h
 | n + 1,v,  u,h=>by
   have ih:=CT bs n;simp only[nE,r6] at h;cases v with
   | ptr d i ver off =>
     cases d with
     | succ d=>exact Tr.af h
     | zero =>
       dsimp only at h;simp only[dK];split at h
       · rename_i w r hg;obtain ⟨hw,h⟩:=Tr.aZ h;rw[hg];dsimp only;rw[if_pos hw];cases r with
         | I k l=>exact Tr.af h
         | F f m=>exact Tr.af h
         | G l =>
           obtain ⟨m,h1,h⟩:=Tr.bind_some h;rw[← Tr.af h,← eX ih _ _ h1]
         | M l =>
           dsimp only at h ⊢;cases ha:fT l with
           | true=>rw[ha,cond_true] at h;rw[if_pos rfl];exact Tr.af h
           | false =>
             rw[ha,cond_false] at h;obtain ⟨m,h1,h⟩:=Tr.bind_some h;rw[if_neg (by simp),← Tr.af h,← gZ ih _ _ h1]
       · exact (Tr.ah h).elim
   | slc d i ver off sz len cap =>
     cases d with
     | succ d=>exact Tr.af h
     | zero =>
       dsimp only at h;simp only[dK];split at h
       · rename_i w r hg;obtain ⟨hw,h'⟩:=Tr.aX h;clear h;rw[fz,decide_eq_true_eq] at hw;subst hw;rw[hg];dsimp only;split at h'
         · rename_i k z N;have h:=h';obtain ⟨hc,h⟩:=Tr.aX h;rw[jg,decide_eq_true_eq,cM] at hc;rw[if_pos ⟨by simp,by simp only[Row.len,aC,aU];omega⟩,← Tr.af h,kf,cM,mT];simp only[Row.sub,fT,if_true]
         · have h:=h';obtain ⟨hc,h⟩:=Tr.aZ h;rw[kW,decide_eq_true_eq] at hc;rw[if_pos ⟨by simp,hc⟩,← Tr.af h,kf,ik,gU];rfl
         · have h:=h';obtain ⟨hc,h⟩:=Tr.aX h;rw[jg,decide_eq_true_eq,cM] at hc;rw[if_pos ⟨by simp,by simp only[Row.len];omega⟩,← Tr.af h,kf,cM];simp only[Row.sub,aI]
         · have h:=h';obtain ⟨hc,h⟩:=Tr.aZ h;rw[kW,decide_eq_true_eq] at hc;obtain ⟨m,h1,h⟩:=Tr.bind_some h;rw[ik,gU] at h1;rw[if_pos ⟨by simp,hc⟩,← Tr.af h,kf,← eX ih _ _ h1];rfl
         · exact (Tr.ah h').elim
       · exact (Tr.ah h).elim
   | ptrT s r off =>
     cases s with
     | none=>exact Tr.af h
     | some s =>
       cases s with
       | succ s=>exact Tr.af h
       | zero =>
         simp only[dK];cases r with
         | I k l=>exact Tr.af h
         | F f m=>exact Tr.af h
         | G l =>
           obtain ⟨m,h1,h⟩:=Tr.bind_some h;rw[← Tr.af h,← eX ih _ _ h1]
         | M l =>
           dsimp only at h ⊢;cases ha:fT l with
           | true=>rw[ha,cond_true] at h;rw[if_pos rfl];exact Tr.af h
           | false =>
             rw[ha,cond_false] at h;obtain ⟨m,h1,h⟩:=Tr.bind_some h;rw[if_neg (by simp),← Tr.af h,← gZ ih _ _ h1]
   | slcT s r sz len full =>
     cases s with
     | none=>exact Tr.af h
     | some s =>
       cases s with
       | succ s=>exact Tr.af h
       | zero =>
         simp only[dK];cases r with
         | I k l=>exact Tr.af h
         | F f m=>exact Tr.af h
         | G l =>
           obtain ⟨m,h1,h⟩:=Tr.bind_some h;rw[← Tr.af h,← eX ih _ _ h1]
         | M l =>
           dsimp only at h ⊢;cases ha:fT l with
           | true=>rw[ha,cond_true] at h;rw[if_pos rfl];exact Tr.af h
           | false =>
             rw[ha,cond_false] at h;obtain ⟨m,h1,h⟩:=Tr.bind_some h;rw[if_neg (by simp),← Tr.af h,← gZ ih _ _ h1]
   | map d i=>cases d<;>exact Tr.af h
   | yld d i=>cases d<;>exact Tr.af h
   | fn f a b =>
     obtain ⟨a',h1,h⟩:=Tr.bind_some h;obtain ⟨b',h2,h⟩:=Tr.bind_some h;simp only[dK];rw[← Tr.af h,← eX ih _ _ h1,← eX ih _ _ h2]
   | agg r =>
     simp only[dK];cases r with
     | I k l=>exact Tr.af h
     | F f m=>exact Tr.af h
     | G l =>
       obtain ⟨m,h1,h⟩:=Tr.bind_some h;rw[← Tr.af h,← eX ih _ _ h1]
     | M l =>
       obtain ⟨m,h1,h⟩:=Tr.bind_some h;rw[← Tr.af h,← gZ ih _ _ h1]
   | tup l =>
     obtain ⟨m,h1,h⟩:=Tr.bind_some h;simp only[dK];rw[← Tr.af h,← eX ih _ _ h1]
   | _=>exact Tr.af h

def Im (l:List HV):Nat→aS:=List.rec (motive:=fun _=>Nat→aS) (fun _=>[]) (fun v _ ih x=>(x,(mU 1 v.1,v.2))::ih (Nat.succ x)) l
theorem wC:∀ (l:List HV) (x:Nat),strip (Im l x)=ev x (jU l)
 | [],x=>rfl
 | v::l,x=>by
   have e:Im (v::l) x=(x,(mU 1 v.1,v.2))::Im l (x+1):=rfl;rw[e,c7,wC l];rfl
def hints (f:aF):aS:=List.rec (motive:=fun _=>aS) [] (fun p _ ih=>(p.1,(p.2,none))::ih) f
theorem aT:∀ f:aF,strip (hints f)=f
 | []=>rfl
 | (x,v)::r=>by
   have e:hints ((x,v)::r)=(x,(v,none))::hints r:=rfl;rw[e,c7,aT r]
def BZ (P:Program) (fr:aS) (H:ab):List ResultVar→Tr (List AV)
 | []=>.ok []
 | .tmp t::r=>(BZ P fr H r).bind fun l=>.ok ((lO fr t).1::l)
 | .cell a t::r=>(loadT P H t (cu fr (.tmp a))).bind fun v=>(BZ P fr H r).bind fun l=>.ok (v::l)
theorem xH {P:Program} {fr:aS} {H:ab}:∀ (l:List ResultVar) (vs:List AV),(BZ P fr H l).run=some vs→gE P (strip fr) H l=some vs
 | [],vs,h=>by rw[← Tr.af h];rfl
 | .tmp t::r,vs,h=>by
   simp only[BZ] at h;obtain ⟨l,h1,h⟩:=Tr.bind_some h;simp only[gE];rw[xH r l h1,← Tr.af h,fk];rfl
 | .cell a t::r,vs,h=>by
   simp only[BZ] at h;obtain ⟨v,h0,h⟩:=Tr.bind_some h;obtain ⟨l,h1,h⟩:=Tr.bind_some h;have h0:=yY h0;rw[bg] at h0;simp only[gE];have e:bZ (strip fr) (.tmp a)=bM (strip fr) a:=rfl;rw[e] at h0;rw[h0];dsimp only;rw[xH r l h1,← Tr.af h];rfl
def Kp (fr:aS) (rs:List ResultVar):Option Nat :=
 match rs with
 | [.tmp t]=>(lO fr t).2
 | _=>none
def MR (P:Program) (rs:List ResultVar) (x:eI):Tr (HV×ab) :=
 match x with
 | (e,fr,l::H)=>match e with
   | .normal | .ret=>(BZ P fr (l::H) rs).bind fun vs=>(nE l.bs 5 (one vs)).bind fun v=>.ok ((v,Kp fr rs),H)
   | _=>.bad
 | _=>.bad
theorem DA {P:Program} {rs:List ResultVar} {x:eI} {y:HV×ab} (h:(MR P rs x).run=some y):∃ l vs,x.2.2=l::y.2∧(x.1=.normal∨x.1=.ret)∧gE P (strip x.2.1) x.2.2 rs=some vs∧dK l.bs 5 (one vs)=y.1.1:=by
 unfold MR at h;split at h
 · rename_i e fr l H;have key:((BZ P fr (l::H) rs).bind fun vs=>(nE l.bs 5 (one vs)).bind fun v=>Tr.ok (((v,Kp fr rs),H):HV×ab)).run=some y→∃ vs,l::H=l::y.2∧gE P (strip fr) (l::H) rs=some vs∧dK l.bs 5 (one vs)=y.1.1:=by
    intro h;obtain ⟨vs,h1,h⟩:=Tr.bind_some h;obtain ⟨v,h2,h⟩:=Tr.bind_some h;have h:=Tr.af h;refine ⟨vs,by rw[← h],xH _ _ h1,?_⟩;rw[CT _ _ _ _ h2,← h]
   split at h
   · obtain ⟨vs,h1,h2,h3⟩:=key h;exact ⟨l,vs,h1,.inl rfl,h2,h3⟩
   · obtain ⟨vs,h1,h2,h3⟩:=key h;exact ⟨l,vs,h1,.inr rfl,h2,h3⟩
   · exact (Tr.ah h).elim
 · exact (Tr.ah h).elim
def bj (P:Program) (call:aO) (fu:Nat) (f:FuncId) (fn:Func) (kt:Nat→Nat) (callR:bt) (bl:eS) (rg:nY) (args:List HV) (H:ab):Tr (HV×ab) :=
 (aH ⟨P,call,fu,f,fn.ntmps,kt,none⟩ callR bl rg (aV fn) (Im args 0) (⟨false,[]⟩::H)).bind fun x=>MR P fn.results.toList x
theorem oZ {P:Program} {ora:aO→FuncId→List AV→ab→Option (AV×ab)} {KT:FuncId→Nat→Nat} {fu n:Nat} {f:FuncId} {fn:Func} (hf:P.funcs[f]?=some fn) (hb:fn.body.isSome=true) {args:List HV} {H:ab} (ho:ora (db P ora KT fu n) f (jU args) H=none) (hle:Nat.ble args.length fn.ntmps=true)
 {callR:bt} (hC:callR.Ok (db P ora KT fu n)) {bl:eS} (hB:bl.Ok ⟨P,db P ora KT fu n,fu,f,fn.ntmps,KT f,none⟩ (aV fn)) {rg:nY} (hR:rg.Ok ⟨P,db P ora KT fu n,fu,f,fn.ntmps,KT f,none⟩ (aV fn)) {y:HV×ab}
 (h:(bj P (db P ora KT fu n) fu f fn (KT f) callR bl rg args H).run=some y):db P ora KT fu (n+1) (.fn f) (jU args) H=some (y.1.1,y.2):=by
 unfold bj at h
 obtain ⟨x,h1,h⟩:=Tr.bind_some h
 have h1:=fU hC _ hB hR _ _ _ h1
 rw[wC] at h1
 obtain ⟨l,vs,k1,k2,k3,k4⟩:=DA h
 obtain ⟨c,hc⟩:=Option.isSome_iff_exists.1 hb
 have hbody:aV fn=c:=by unfold aV;rw[hc]
 rw[hbody] at h1
 obtain ⟨e,fr,H1⟩:=x
 dsimp only[eI.st] at h1 k1 k2 k3
 rw[k1] at h1 k3
 have hl:(jU args).length=args.length:=by unfold jU;rw[jG,List.length_map]
 simp only[db,ho,hf,hc,hl,hle,if_true,h1]
 rcases k2 with rfl | rfl<;>simp only[k3]<;>rw[k4]

theorem iu {cx:Cx} {id:Nat} {b:Code} {fr fr1:aF} {H H1:ab} (h:iter (exec cx b) (a8 H) cx.fu fr H=some (.exit id,fr1,H1)):exec cx (.block id (.loop b)) fr H=some (.normal,fr1,H1):=by
 unfold exec;have:exec cx (.loop b) fr H=some (.exit id,fr1,H1):=by unfold exec;exact h
 rw[this];dsimp only;rw[if_pos (by simp)]
theorem dp {cx:Cx} {id:Nat} {b:Code} {fr fr1:aF} {H H1:ab} {e:Ex} (he:∀ id',e=.exit id'→Nat.beq id' id=false) (h:iter (exec cx b) (a8 H) cx.fu fr H=some (e,fr1,H1)):exec cx (.block id (.loop b)) fr H=some (e,fr1,H1):=by
 unfold exec;have:exec cx (.loop b) fr H=some (e,fr1,H1):=by unfold exec;exact h
 rw[this];cases e with
 | exit id'=>dsimp only;rw[if_neg (by rw[he id' rfl];simp)]
 | _=>rfl
def fN (p:Nat→Bool):Nat→Nat→Nat
 | 0,j=>j
 | k+1,j=>if p j then j else fN p k (j+1)
theorem m6 (p:Nat→Bool):∀ (k j:Nat),j≤fN p k j∧fN p k j≤j+k∧(∀ i,j≤i→i<fN p k j→p i=false)∧(fN p k j<j+k→p (fN p k j)=true)
 | 0,j=>⟨Nat.le_refl _,Nat.le_refl _,fun i h1 h2=>absurd h2 (by simp only[fN];omega),fun h=>absurd h (by simp only[fN];omega)⟩
 | k + 1,j=>by
   simp only[fN];by_cases h:p j=true
   · rw[if_pos h];exact ⟨Nat.le_refl _,by omega,fun i h1 h2=>by omega,fun _=>h⟩
   · rw[if_neg h];obtain ⟨h1,h2,h3,h4⟩:=m6 p k (j+1);refine ⟨by omega,by omega,fun i k1 k2=>?_,fun k1=>h4 (by omega)⟩;by_cases e:i=j
     · subst e;simpa using h
     · exact h3 i (by omega) k2
theorem iT {body:aF→ab→Option (Ex×aF×ab)} {n:Nat} (F:Nat→aF) (G:Nat→ab) (N:Nat) (p:Nat→Bool) (X:Nat→Ex×aF×ab)
 (hs:∀ j,j<N→p j=false→∃ f g,body (F j) (G j)=some (.normal,f,g)∧tidy n f g=(F (j+1),G (j+1)))
 (hh:∀ j,j<N→p j=true→body (F j) (G j)=some (X j)∧(X j).1≠.normal) (he:body (F N) (G N)=some (X N)∧(X N).1≠.normal) :
 ∀ (k j fu:Nat),j+k=N→k<fu→iter body n fu (F j) (G j)=some (X (fN p k j))
 | 0,j,0,_,h=>by omega
 | 0,j,fu+1,hj,_=>by
   have:j=N:=by omega
   subst this;unfold iter;rw[he.1];obtain ⟨x,hx⟩:∃ x,x=X j:=⟨_,rfl⟩
   have hn:=he.2;simp only[fN];rw[← hx] at hn ⊢;obtain ⟨e,f,g⟩:=x;cases e<;>first | exact absurd rfl hn | rfl
 | k+1,j,0,_,h=>by omega
 | k + 1,j,fu+1,hj,hf=>by
   unfold iter;cases hp:p j with
   | true =>
     obtain ⟨h1,h2⟩:=hh j (by omega) hp;rw[h1];simp only[fN];rw[if_pos hp];obtain ⟨x,hx⟩:∃ x,x=X j:=⟨_,rfl⟩
     rw[← hx] at h2 ⊢;obtain ⟨e,f,g⟩:=x;cases e<;>first | exact absurd rfl h2 | rfl
   | false =>
     obtain ⟨f,g,h1,h2⟩:=hs j (by omega) hp;rw[h1];dsimp only;rw[h2];simp only[fN];rw[if_neg (by rw[hp];simp)];exact iT F G N p X hs hh he k (j+1) fu (by omega) (by omega)
end
end Go.Eng
end
