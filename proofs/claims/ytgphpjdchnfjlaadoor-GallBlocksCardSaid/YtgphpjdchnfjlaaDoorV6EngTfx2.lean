/- The engine as a tree: regions, code, calls. -/
import Derived.Test.YtgphpjdchnfjlaaDoorV6EngTe
set_option linter.unusedVariables false
set_option linter.unusedSimpArgs false
section
namespace Go.Eng
noncomputable section

def vC (f:aD) (y:Nat) (b:Bool):aD:=List.rec (motive:=fun _=>aD) [] (fun p r ih=>Bool.rec (motive:=fun _=>aD) (p::ih) ((p.1,(.bool b,some 1))::r) (Nat.beq p.1 y)) f
theorem sV:∀ (f:aD) (y:Nat) (b:Bool),bM (strip f) y=.bool b→strip (vC f y b)=strip f
 | [],y,b,_=>rfl
 | (x,v)::r,y,b,h=>by
   have e:vC ((x,v)::r) y b=Bool.rec (motive:=fun _=>aD) ((x,v)::vC r y b) ((x,(.bool b,some 1))::r) (Nat.beq x y):=rfl;rw[cO,bM] at h;rw[e];cases hb:Nat.beq x y with
   | true =>
     rw[hb] at h;have h:v.1=.bool b:=h;show (x,AV.bool b)::strip r=(x,v.1)::strip r;rw[h]
   | false =>
     rw[hb] at h;show (x,v.1)::strip (vC r y b)=(x,v.1)::strip r;rw[sV r y b h]
def tT {α:Type} (fr:aD) (d:Nat) (t e:aD→Tr α):Tr α :=
 match lf fr d with
 | (.bool b,none)=>.ite b (t (vC fr d true)) (e (vC fr d false))
 | (.bool b,some _)=>cond b (t fr) (e fr)
 | _=>.bad
theorem jb {α:Type} {fr:aD} {d:Nat} {t e:aD→Tr α} {x:α} (h:(tT fr d t e).run=some x):∃ b fr',bM (strip fr) d=.bool b∧strip fr'=strip fr∧(if b then t fr' else e fr').run=some x:=by
 unfold tT at h;split at h
 · rename_i b hg;have hg':bM (strip fr) d=.bool b:=by rw[← eY,hg]
   rcases Tr.jZ h with ⟨rfl,h⟩ | ⟨rfl,h⟩
   · exact ⟨true,_,hg',sV _ _ _ hg',h⟩
   · exact ⟨false,_,hg',sV _ _ _ hg',h⟩
 · rename_i b n hg;have hg':bM (strip fr) d=.bool b:=by rw[← eY,hg]
   refine ⟨b,fr,hg',rfl,?_⟩;cases b<;>exact h
 · exact (Tr.ah h).elim
def DC (ops:Array Oper) (fr:aD) (o:Oper):Tr (Bool×aD) :=
 match o.guard with
 | none=>.ok (true,fr)
 | some (j,want)=>match (ops[j]?).bind (·.dst) with
   | none=>.bad
   | some d=>match (lf fr d).1 with
     | .bool _=>cond want (tT fr d (fun fr=>.ok (true,fr)) (fun fr=>.ok (false,fr))) (tT fr d (fun fr=>.ok (false,fr)) (fun fr=>.ok (true,fr)))
     | .tup _=>.ok (false,fr)
     | _=>.bad
theorem Aq {ops:Array Oper} {fr:aD} {o:Oper} {r:Bool×aD} (h:(DC ops fr o).run=some r):lk ops (strip fr) o=(if r.1 then .run else .skip)∧strip r.2=strip fr:=by
 unfold DC at h;unfold lk;cases hg:o.guard with
 | none =>
   rw[hg] at h;rw[← Tr.af h];exact ⟨rfl,rfl⟩
 | some jw =>
   obtain ⟨j,want⟩:=jw;rw[hg] at h;dsimp only at h ⊢;cases hd:(ops[j]?).bind (·.dst) with
   | none=>rw[hd] at h;exact (Tr.ah h).elim
   | some d =>
     rw[hd] at h;dsimp only at h ⊢;have he:=eY fr d;rw[he] at h;cases hv:bM (strip fr) d<;>rw[hv] at h<;>try exact (Tr.ah h).elim
     case bool b =>
      dsimp only at h ⊢
      cases want with
      | true =>
        rw[cond_true] at h
        obtain ⟨b',fr',h1,h2,h3⟩:=jb h
        rw[hv] at h1
        cases h1
        cases b<;>(have h3:=Tr.af h3;rw[← h3];exact ⟨rfl,h2⟩)
      | false =>
        rw[cond_false] at h
        obtain ⟨b',fr',h1,h2,h3⟩:=jb h
        rw[hv] at h1
        cases h1
        cases b<;>(have h3:=Tr.af h3;rw[← h3];exact ⟨rfl,h2⟩)
     case tup l=>rw[← Tr.af h];exact ⟨rfl,rfl⟩

def iw (P:Program) (nt:Nat) (call:aK) (callR:bt) (ops:Array Oper):List Oper→aD→ab→Tr (aD×ab)
 | [],fr,H=>.ok (fr,H)
 | o::r,fr,H=>(DC ops fr o).bind fun b=>cond b.1
   ((OR o.op o P call callR b.2 H (wz H)).bind fun y=>iw P nt call callR ops r (qL nt b.2 o.dst y.1) (Sq y.2 H))
   (iw P nt call callR ops r (qL nt b.2 o.dst (.tup [],none)) H)
theorem fm {P:Program} {nt:Nat} {call:aK} {callR:bt} (hC:callR.Ok call) {ops:Array Oper}:∀ (l:List Oper) (fr:aD) (H:ab) (x:aD×ab),(iw P nt call callR ops l fr H).run=some x→eV P nt call ops l (strip fr) H=some (strip x.1,x.2)
 | [],fr,H,x,h=>by rw[← Tr.af h];rfl
 | o :: r,fr,H,x,h=>by
   simp only[iw] at h;obtain ⟨b,h1,h⟩:=Tr.bind_some h;unfold eV;obtain ⟨hw,hs⟩:=Aq h1;rw[hw,← hs];obtain ⟨b,fr1⟩:=b;dsimp only at h ⊢;cases b with
   | false =>
     have:=fm hC r _ _ _ h;rw[mc] at this;exact this
   | true =>
     rw[cond_true] at h;obtain ⟨y,h2,h⟩:=Tr.bind_some h;have h2:=Bv hC h2;rw[pQ] at h2;have:=fm hC r _ _ _ h;rw[mc,Mg] at this;rw[if_pos rfl];dsimp only;rw[h2];exact this

def pg (fr:aD) (o:Oper):Touch:=tz (strip fr) o
def pK (P:Program) (call:aK) (callR:bt) (ops:Array Oper) (bef:Nat) (dV:aD) (H:ab) (nx:Nat) (recs:List Rec) (o:Oper):Tr (uk×Option Nat×aD) :=
 (DC ops dV o).bind fun b=>cond b.1
   (cond (fg o) ((OR o.op o P call callR b.2 (sQ (lQ bef recs H)) nx).bind fun y=>.ok (⟨y.1.1,.all,none⟩,y.1.2,b.2))
     ((OR o.op o P call callR b.2 (lQ bef recs H) nx).bind fun y=>match y.2 with
       | .bA=>.ok (⟨y.1.1,pg b.2 o,none⟩,y.1.2,b.2)
       | .push q=>cond (js o && !lV q && ru (ni H 0 nx) && !jF H 0) (.ok (⟨y.1.1,pg b.2 o,some (0,nx,(0,q))⟩,y.1.2,b.2)) .bad
       | .set d i q=>.req (bL (dO (ni H d i).1 q.1) (dO q.1 (Nat.succ (ni H d i).1))) (cond (!lV q.2 && !lV (ni (lQ bef recs H) d i).2 && j5 bef d i recs) (.ok (⟨y.1.1,pg b.2 o,some (d,i,q)⟩,y.1.2,b.2)) .bad)
       | _=>.bad))
   (.ok (⟨.tup [],.none,none⟩,none,b.2))
theorem wg {P:Program} {call:aK} {callR:bt} (hC:callR.Ok call) {ops:Array Oper} {bef:Nat} {fr:aD} {H:ab} {nx:Nat} {recs:List Rec} {o:Oper} {e:uk×Option Nat×aD} (h:(pK P call callR ops bef fr H nx recs o).run=some e) :
 gG P call ops bef (strip fr) H nx recs o=some e.1∧strip e.2.2=strip fr:=by
 unfold pK at h
 unfold gG
 simp only[mH,yA,pg,ze,oT,gh] at h
 obtain ⟨b,h1,h⟩:=Tr.bind_some h
 obtain ⟨hw,hs⟩:=Aq h1
 rw[hw,← hs]
 obtain ⟨b,fr1⟩:=b
 dsimp only at h ⊢
 cases b with
 | false =>
   rw[cond_false] at h
   rw[← Tr.af h];exact ⟨rfl,rfl⟩
 | true =>
   rw[cond_true] at h
   rw[if_pos rfl]
   dsimp only
   cases hcv:fg o with
   | true =>
     rw[hcv,cond_true] at h
     obtain ⟨y,h2,h⟩:=Tr.bind_some h
     rw[if_pos rfl,Bv hC h2,← Tr.af h]
     exact ⟨rfl,rfl⟩
   | false =>
     rw[hcv,cond_false] at h
     obtain ⟨y,h2,h⟩:=Tr.bind_some h
     rw[if_neg (by simp),Bv hC h2]
     split at h
     · rename_i hy
       rw[hy,← Tr.af h];exact ⟨rfl,rfl⟩
     · rename_i b hy
       obtain ⟨hc,h⟩:=Tr.aW h
       rw[hy]
       dsimp only
       rw[if_pos hc,← Tr.af h];exact ⟨rfl,rfl⟩
     · rename_i d i b hy
       obtain ⟨hv,h⟩:=Tr.aT h
       obtain ⟨hc,h⟩:=Tr.aW h
       rw[hy]
       dsimp only
       rw[bW,iS,iS,Bool.and_eq_true,decide_eq_true_eq,decide_eq_true_eq] at hv
       have hv':(Nat.beq b.1 (az H d i).1 || Nat.beq b.1 (Nat.succ (az H d i).1))=true:=by
        simp only[Bool.or_eq_true,Nat.beq_eq];omega
       simp only[Bool.and_eq_true] at hc
       rw[if_pos (by simp only[Bool.and_eq_true];exact ⟨⟨⟨hc.1.1,hv'⟩,hc.1.2⟩,hc.2⟩),← Tr.af h];exact ⟨rfl,rfl⟩
     · exact (Tr.ah h).elim
def oH (P:Program) (nt:Nat) (call:aK) (callR:bt) (ops:Array Oper) (befs:Array Nat):List Oper→Nat→aD→ab→Nat→List Rec→Tr (aD×ab)
 | [],_,fr,H,_,_=>.ok (fr,H)
 | o::r,j,fr,H,nx,recs=>(pK P call callR ops (befs.getD j 0) fr H nx recs o).bind fun e =>
   oH P nt call callR ops befs r (j+1) (qL nt e.2.2 o.dst (e.1.v,e.2.1)) (GF H e.1.wr) (if js o then nx+1 else nx) (⟨j,e.1.rd,e.1.wr.map fun x=>(x.1,x.2.1)⟩::recs)
theorem qq {P:Program} {nt:Nat} {call:aK} {callR:bt} (hC:callR.Ok call) {ops:Array Oper} {befs:Array Nat}:∀ (l:List Oper) (j:Nat) (fr:aD) (H:ab) (nx:Nat) (recs:List Rec) (x:aD×ab),
 (oH P nt call callR ops befs l j fr H nx recs).run=some x→gr P nt call ops befs j l (strip fr) H nx recs=some (strip x.1,x.2)
 | [],j,fr,H,nx,recs,x,h=>by rw[← Tr.af h];rfl
 | o::r,j,fr,H,nx,recs,x,h=>by
   simp only[oH] at h;obtain ⟨e,h1,h⟩:=Tr.bind_some h;obtain ⟨hd,hs⟩:=wg hC h1;unfold gr;rw[hd,← hs];have:=qq hC r _ _ _ _ _ _ h;rw[mc,GG] at this;exact this

def aE:Code→List (Nat×Code)
 | .block id b=>(id,b)::aE b
 | .loop b=>aE b
 | .seq a b=>aE a++aE b
 | .cond _ a b=>aE a++aE b
 | .scope b=>aE b
 | _=>[]
def bx (f:Func):Code:=match f.body with | some c=>c | none=>.skip
abbrev dY:=Ex×aD×ab
def dY.st (x:dY):Ex×aA×ab:=(x.1,strip x.2.1,x.2.2)
abbrev eW:=Nat→aD→ab→Option (Tr dY)
abbrev ou:=Operand→aD→ab→Option (Tr dY)
def eW.Ok (bl:eW) (cx:Cx) (c:Code):Prop:=∀ id b,(id,b) ∈ aE c→∀ fr H t x,bl id fr H=some t→t.run=some x→exec cx (.block id b) (strip fr) H=some x.st
def dX:Code→List (Operand×Array Tmp×Code×Code)
 | .rangeFunc f ps a b=>[(f,ps,a,b)]
 | .loop b=>dX b
 | .block _ b=>dX b
 | .seq a b=>dX a++dX b
 | .cond _ a b=>dX a++dX b
 | .scope b=>dX b
 | _=>[]
def ou.Ok (rg:ou) (cx:Cx) (c:Code):Prop:=∀ f ps a b,(f,ps,a,b) ∈ dX c→∀ fr H t x,rg f fr H=some t→t.run=some x→exec cx (.rangeFunc f ps a b) (strip fr) H=some x.st
def cw (bl:eW) (id0:Nat) (dV:aA) (H0:ab) (u:Tr dY):eW:=fun id fr H=>cond (Nat.beq id id0) (some (.reqP (strip fr=dV∧H=H0) u)) (bl id fr H)
theorem aM {bl:eW} {cx:Cx} {c:Code} (h:bl.Ok cx c) {id0:Nat} {dV:aA} {H0:ab} {u:Tr dY} {B:Code} (hB:∀ b,(id0,b) ∈ aE c→b=B) (k:∀ x,u.run=some x→exec cx (.block id0 B) dV H0=some x.st):(cw bl id0 dV H0 u).Ok cx c:=by
 intro id b hm fr H t y ht hy;unfold cw at ht;cases hb:Nat.beq id id0 with
 | true =>
   have uE:=Nat.eq_of_beq_eq_true hb;subst uE;rw[hb,cond_true,Option.some.injEq] at ht;subst ht;obtain ⟨⟨h1,h2⟩,h3⟩:=Tr.gl hy;rw[h1,h2,hB b hm];exact k y h3
 | false =>
   rw[hb,cond_false] at ht;exact h id b hm fr H t y ht hy
def OZ (rg:ou) (tf:Operand→Bool) (dV:aA) (H0:ab) (u:Tr dY):ou:=fun f fr H=>cond (tf f) (some (.reqP (strip fr=dV∧H=H0) u)) (rg f fr H)
theorem GM {rg:ou} {cx:Cx} {c:Code} (h:rg.Ok cx c) {tf:Operand→Bool} {dV:aA} {H0:ab} {u:Tr dY} (k:∀ f ps a b,tf f=true→(f,ps,a,b) ∈ dX c→∀ x,u.run=some x→exec cx (.rangeFunc f ps a b) dV H0=some x.st):(OZ rg tf dV H0 u).Ok cx c:=by
 intro f ps a b hm fr H t y ht hy;unfold OZ at ht;cases hb:tf f with
 | true =>
   rw[hb,cond_true,Option.some.injEq] at ht;subst ht;obtain ⟨⟨h1,h2⟩,h3⟩:=Tr.gl hy;rw[h1,h2];exact k f ps a b hb hm y h3
 | false =>
   rw[hb,cond_false] at ht;exact h f ps a b hm fr H t y ht hy
def aS:eW:=fun _ _ _=>none
def aR:ou:=fun _ _ _=>none
theorem aj (cx:Cx) (c:Code):aS.Ok cx c:=fun _ _ _ _ _ _ _ h=>by cases h
theorem ai (cx:Cx) (c:Code):aR.Ok cx c:=fun _ _ _ _ _ _ _ _ _ h=>by cases h
def yF (g:AV→AV):aD→aD
 | []=>[]
 | (x,(v,h))::r=>(x,(na g v,h))::yF g r
theorem yG (g:AV→AV):∀ fr:aD,strip (yF g fr)=p8 g (strip fr)
 | []=>rfl
 | (x,(v,h))::r=>by
   have e:yF g ((x,(v,h))::r)=(x,(na g v,h))::yF g r:=rfl;rw[e,cO,cO,p8,yG g r]
def kV (n:Nat):Nat→aD→ab→aD×ab
 | 0,fr,H=>(fr,H)
 | k + 1,fr,H=>match H with
   | []=>(fr,[])
   | l::r=>cond (Nat.ble (j4 l.bs) (Nat.succ n)) (fr,l::r) (match hole (strip fr) l.bs 4 n with
     | none=>(fr,l::r)
     | some h=>kV n k (yF (uM (l.bs.length-1) h) fr) (lJ n (p8 (uM (l.bs.length-1) h) (strip fr)) (xC (l.bs.length-1) h l::r)))
theorem tU (n:Nat):∀ (k:Nat) (fr:aD) (H:ab),(strip (kV n k fr H).1,(kV n k fr H).2)=jJ n k (strip fr) H
 | 0,fr,H=>rfl
 | k+1,fr,[]=>rfl
 | k + 1,fr,l::r=>by
   cases hb:Nat.ble (j4 l.bs) (Nat.succ n) with
   | true =>
     have:kV n (k+1) fr (l::r)=(fr,l::r):=by
      unfold kV;dsimp only;rw[hb];rfl
     rw[this,BN (by rw[ey] at hb;simpa using hb)]
   | false =>
     unfold kV jJ;dsimp only;rw[hb,cond_false];cases hole (strip fr) l.bs 4 n with
     | none=>rfl
     | some h =>
       dsimp only;rw[tU n k,yG]
def Dy (n:Nat) (fr:aD) (H:ab):aD×ab:=kV n 4 fr (lJ n (strip fr) H)
theorem Hc (n:Nat) (fr:aD) (H:ab):(strip (Dy n fr H).1,(Dy n fr H).2)=tidy n (strip fr) H:=tU n 4 fr _
def CE (body:aD→ab→Tr dY) (n:Nat):Nat→aD→ab→Tr dY
 | 0,_,_=>.bad
 | k+1,fr,H=>(body fr H).bind fun x=>match x with
   | (.normal,fr,H)=>CE body n k (Dy n fr H).1 (Dy n fr H).2
   | r=>.ok r
theorem vw {body:aA→ab→Option (Ex×aA×ab)} {n:Nat}:∀ (k m:Nat) (fr:aA) (H:ab) (x:Ex×aA×ab),iter body n k fr H=some x→k≤m→iter body n m fr H=some x
 | 0,m,fr,H,x,h,_=>by simp[iter] at h
 | k+1,0,fr,H,x,h,hk=>by omega
 | k + 1,m+1,fr,H,x,h,hk=>by
   unfold iter at h ⊢;cases hb:body fr H with
   | none=>rw[hb] at h;simp at h
   | some y =>
     rw[hb] at h;obtain ⟨e,f,g⟩:=y;cases e;case normal=>exact vw k m _ _ _ h wO
     all_goals exact h
theorem yp {body:aD→ab→Tr dY} {body':aA→ab→Option (Ex×aA×ab)} {n:Nat} (hb:∀ fr H x,(body fr H).run=some x→body' (strip fr) H=some x.st):∀ (k:Nat) (fr:aD) (H:ab) (x:dY),(CE body n k fr H).run=some x→iter body' n k (strip fr) H=some x.st
 | 0,fr,H,x,h=>(Tr.ah h).elim
 | k+1,fr,H,x,h=>by
   simp only[CE] at h;obtain ⟨y,h1,h⟩:=Tr.bind_some h;unfold iter;rw[hb _ _ _ h1];obtain ⟨e,f,g⟩:=y;cases e;case normal =>
    have e:=Hc n f g
    have h:=yp hb k _ _ _ h
    show iter body' n k (tidy n (strip f) g).1 (tidy n (strip f) g).2=_
    rw[← e];exact h
   all_goals
    have h:=Tr.af h
    rw[← h];rfl
def nR (f:AV→Tr AV):List AV→Tr (List AV)
 | []=>.ok []
 | v::l=>(f v).bind fun u=>(nR f l).bind fun m=>.ok (u::m)
theorem eM {f:AV→Tr AV} {g:AV→AV} (hf:∀ v u,(f v).run=some u→g v=u):∀ (l m:List AV),(nR f l).run=some m→l.map g=m
 | [],m,h=>Tr.af h
 | v::l,m,h=>by
   simp only[nR] at h;obtain ⟨u,h1,h⟩:=Tr.bind_some h;obtain ⟨n,h2,h⟩:=Tr.bind_some h;rw[← Tr.af h,List.map_cons,hf _ _ h1,eM hf l n h2]
def lZ (f:AV→Tr AV):List db→Tr (List db)
 | []=>.ok []
 | .one v::l=>(f v).bind fun u=>(lZ f l).bind fun m=>.ok (.one u::m)
 | .arr k z n::l=>(lZ f l).bind fun m=>.ok (.arr k z n::m)
theorem gL {f:AV→Tr AV} {g:AV→AV} (hf:∀ v u,(f v).run=some u→g v=u):∀ (l m:List db),(lZ f l).run=some m→mapM' g l=m
 | [],m,h=>Tr.af h
 | .one v::l,m,h=>by
   simp only[lZ] at h;obtain ⟨u,h1,h⟩:=Tr.bind_some h;obtain ⟨n,h2,h⟩:=Tr.bind_some h;rw[← Tr.af h,mapM',hf _ _ h1,gL hf l n h2]
 | .arr k z n::l,m,h=>by
   simp only[lZ] at h;obtain ⟨n,h2,h⟩:=Tr.bind_some h;rw[← Tr.af h,mapM',gL hf l n h2]
def qo (cap:Option Nat) (len:Nat):Bool :=
 match cap with
 | none=>false
 | some c=>cu c len
theorem jR (cap:Option Nat) (len:Nat):qo cap len=(cap == some len):=by
 cases cap with
 | none=>rfl
 | some c=>simp only[qo,eQ];rw[Bool.eq_iff_iff];simp
def yk (i ver:Nat) (r:Row):AV→Tr AV
 | .ptr d j v off=>cond (Nat.beq d 0 && Nat.beq j i) (.req (cu v ver) (.ok (.ptrT none r off))) (.ok (.ptr d j v off))
 | .slc d j v off sz len cap=>cond (Nat.beq d 0 && Nat.beq j i) (.req (cu v ver) (match r with
    | .M [.arr k z N]=>.req (fF off (fD len sz) 0 N) (.ok (.slcT none (.M [.arr k (qj z off) (fD len sz)]) sz len (qo cap len)))
    | .I k l=>cond (uy (.I k l) off (Nat.mul len sz)) (.ok (.slcT none (.I k (lj (ld l off) (Nat.mul len sz))) sz len (qo cap len))) .bad
    | _=>.bad)) (.ok (.slc d j v off sz len cap))
 | v=>.ok v
theorem vc {d j i:Nat} {x:Bool} (h:(Nat.beq d 0 && Nat.beq j i)=true):(Nat.beq d 0 && (Nat.beq j i && x))=x:=by
 rw[Bool.and_eq_true] at h;rw[h.1,h.2];rfl
theorem ve {d j i:Nat} {x:Bool} (h:(Nat.beq d 0 && Nat.beq j i)=false):(Nat.beq d 0 && (Nat.beq j i && x))=false:=by
 rw[← Bool.and_assoc,h];rfl
theorem yl {i ver:Nat} {r:Row}:∀ v u,(yk i ver r v).run=some u→m8 i ver r v=u:=by
 intro v u h;cases v with
 | ptr d j v off =>
   simp only[yk] at h;simp only[m8];cases hc:(Nat.beq d 0 && Nat.beq j i) with
   | false=>rw[hc,cond_false] at h;rw[ve hc,if_neg (by simp)];exact Tr.af h
   | true =>
     rw[hc,cond_true] at h;obtain ⟨h1,h⟩:=Tr.aT h;rw[eQ,decide_eq_true_eq] at h1;rw[vc hc,if_pos (by simpa using h1)];exact Tr.af h
 | slc d j v off sz len cap =>
   simp only[yk] at h;simp only[m8];cases hc:(Nat.beq d 0 && Nat.beq j i) with
   | false=>rw[hc,cond_false] at h;rw[ve hc,if_neg (by simp)];exact Tr.af h
   | true =>
     rw[hc,cond_true] at h;obtain ⟨h1,h2⟩:=Tr.aT h;clear h;rw[eQ,decide_eq_true_eq] at h1;rw[vc hc];split at h2
     · obtain ⟨h3,h⟩:=Tr.aT h2;rw[iP,decide_eq_true_eq,cJ] at h3;rw[if_pos (by simp[h1,Row.len,ay,aP];omega),← Tr.af h,jR,cJ,mn];rfl
     · obtain ⟨h3,h⟩:=Tr.aW h2;rw[ky,decide_eq_true_eq] at h3;rw[if_pos (by simp only[h1,Bool.and_eq_true];exact ⟨by simp,Nat.ble_eq_true_of_le h3⟩),← Tr.af h,jR,gQ,gH];rfl
     · exact (Tr.ah h2).elim
 | _=>exact Tr.af h
def yH (f:AV→Tr AV) (v:AV):Tr AV :=
 match v with
 | .agg (.G l)=>(nR f l).bind fun m=>.ok (.agg (.G m))
 | .agg (.M l)=>(lZ f l).bind fun m=>.ok (.agg (.M m))
 | .fn g a b=>(nR f a).bind fun a'=>(nR f b).bind fun b'=>.ok (.fn g a' b')
 | v=>f v
theorem sU {f:AV→Tr AV} {g:AV→AV} (hf:∀ v u,(f v).run=some u→g v=u):∀ v u,(yH f v).run=some u→na g v=u:=by
 intro v u h;unfold yH at h;split at h
 · obtain ⟨m,h1,h⟩:=Tr.bind_some h;rw[← Tr.af h,← eM hf _ _ h1];rfl
 · obtain ⟨m,h1,h⟩:=Tr.bind_some h;rw[← Tr.af h,← gL hf _ _ h1];rfl
 · obtain ⟨a',h1,h⟩:=Tr.bind_some h;obtain ⟨b',h2,h⟩:=Tr.bind_some h;rw[← Tr.af h,← eM hf _ _ h1,← eM hf _ _ h2];rfl
 · rename_i n1 n2 n3;have:=hf _ _ h;rw[← this];unfold na;split
   · exact absurd rfl (n1 _)
   · exact absurd rfl (n2 _)
   · exact absurd rfl (n3 _ _ _)
   · rfl
def Gb (f:AV→Tr AV):an→Tr an
 | .row r=>match r with
   | .G l=>(nR (yH f) l).bind fun m=>.ok (.row (.G m))
   | .M l=>(lZ (yH f) l).bind fun m=>.ok (.row (.M m))
   | r=>.ok (.row r)
 | b=>.ok b
theorem Gc {f:AV→Tr AV} {g:AV→AV} (hf:∀ v u,(f v).run=some u→g v=u) (b u:an) (h:(Gb f b).run=some u):p7 g b=u:=by
 cases b with
 | row r =>
   simp only[Gb] at h;cases r with
   | G l =>
     obtain ⟨m,h1,h⟩:=Tr.bind_some h;rw[← Tr.af h,← eM (sU hf) _ _ h1];rfl
   | M l =>
     obtain ⟨m,h1,h⟩:=Tr.bind_some h;rw[← Tr.af h,← gL (sU hf) _ _ h1];rfl
   | I k l=>rw[← Tr.af h];rfl
   | F z n=>rw[← Tr.af h];rfl
 | dead=>exact Tr.af h
 | map es=>exact Tr.af h
 | fmap kq f g c=>exact Tr.af h
 | loop l=>exact Tr.af h
def wI (f:AV→Tr AV):List (Nat×an)→Tr (List (Nat×an))
 | []=>.ok []
 | (v,b)::r=>(Gb f b).bind fun b'=>(wI f r).bind fun r'=>.ok ((v,b')::r')
theorem vB {f:AV→Tr AV} {g:AV→AV} (hf:∀ v u,(f v).run=some u→g v=u):∀ (l m:List (Nat×an)),(wI f l).run=some m→jr g l=m
 | [],m,h=>Tr.af h
 | (v,b)::r,m,h=>by
   simp only[wI] at h;obtain ⟨b',h1,h⟩:=Tr.bind_some h;obtain ⟨r',h2,h⟩:=Tr.bind_some h;rw[← Tr.af h,jr,Gc hf _ _ h1,vB hf r r' h2]
def CN (f:AV→Tr AV):aD→Tr aD
 | []=>.ok []
 | (x,(v,h))::r=>(yH f v).bind fun v'=>(CN f r).bind fun r'=>.ok ((x,(v',h))::r')
theorem yE {f:AV→Tr AV} {g:AV→AV} (hf:∀ v u,(f v).run=some u→g v=u):∀ (l m:aD),(CN f l).run=some m→p8 g (strip l)=strip m
 | [],m,h=>by rw[← Tr.af h];rfl
 | (x,(v,hh))::r,m,h=>by
   simp only[CN] at h;obtain ⟨v',h1,h⟩:=Tr.bind_some h;obtain ⟨r',h2,h⟩:=Tr.bind_some h;rw[← Tr.af h,cO,cO,p8,sU hf _ _ h1,yE hf r r' h2]
def sE (i:Nat) (fr:aD) (l:bJ):Tr (aD×bJ) :=
 match Br l.bs i with
 | (ver,.row r)=>cond (wC r && (DI (fun x=>pE (pq i) x.2) (strip fr) || DI (fun x=>Mv (pq i) x.2) l.bs)) ((CN (yk i ver r) fr).bind fun fr'=>(wI (yk i ver r) l.bs).bind fun bs'=>.ok (fr',{ l with bs:=bQ bs' i (ver,.dead) })) (.ok (fr,l))
 | _=>.ok (fr,l)
theorem pS {i:Nat} {fr:aD} {l:bJ} {y:aD×bJ} (h:(sE i fr l).run=some y):lS i (strip fr) l=(strip y.1,y.2):=by
 unfold sE at h;unfold lS;rw[rA] at h;split at h
 · rename_i ver r hb;rw[hb];dsimp only;rw[rf,rf] at h;cases hc:(wC r && ((strip fr).any (fun x=>pE (pq i) x.2) || l.bs.any (fun x=>Mv (pq i) x.2))) with
   | true =>
     rw[hc,cond_true] at h;obtain ⟨fr',h1,h⟩:=Tr.bind_some h;obtain ⟨bs',h2,h⟩:=Tr.bind_some h;rw[if_pos rfl,yE yl _ _ h1,vB yl _ _ h2,← Tr.af h]
   | false =>
     rw[hc,cond_false] at h;rw[if_neg (by simp),← Tr.af h]
 · rename_i hno;have h:=Tr.af h;subst h;split
   · rename_i ver r hb;exact absurd hb (hno ver r)
   · rfl
def rn:Nat→aD→bJ→Tr (aD×bJ)
 | 0,fr,l=>.ok (fr,l)
 | n+1,fr,l=>(rn n fr l).bind fun y=>sE n y.1 y.2
theorem sC:∀ (n:Nat) (fr:aD) (l:bJ) (y:aD×bJ),(rn n fr l).run=some y→iN n (strip fr) l=(strip y.1,y.2)
 | 0,fr,l,y,h=>by rw[← Tr.af h];rfl
 | n+1,fr,l,y,h=>by
   simp only[rn] at h;obtain ⟨z,h1,h⟩:=Tr.bind_some h;have h1:=sC n fr l z h1;simp only[iN];rw[h1];exact pS h
def oV:Nat→aD→bJ→Tr (aD×bJ)
 | 0,fr,l=>.ok (fr,l)
 | n+1,fr,l=>(oV n fr l).bind fun y=>cond (DI (fun x=>pE (pq n) x.2) (strip y.1)) (.ok y) (sE n y.1 y.2)
theorem qC:∀ (n:Nat) (fr:aD) (l:bJ) (y:aD×bJ),(oV n fr l).run=some y→ew n (strip fr) l=(strip y.1,y.2)
 | 0,fr,l,y,h=>by rw[← Tr.af h];rfl
 | n + 1,fr,l,y,h=>by
   simp only[oV] at h;obtain ⟨z,h1,h⟩:=Tr.bind_some h;have h1:=qC n fr l z h1;simp only[ew];rw[h1];dsimp only;rw[rf] at h;cases hc:(strip z.1).any (fun x=>pE (pq n) x.2) with
   | true =>
     rw[hc,cond_true] at h;rw[if_pos rfl,Tr.af h]
   | false =>
     rw[hc,cond_false] at h;rw[if_neg (by simp)];exact pS h
def CG (s:Nat):aD→Option Nat
 | []=>none
 | (x,(v,_))::r=>cond (Nat.beq x s) (match v with
   | .slc 0 i _ _ _ _ _=>some i
   | _=>none) (CG s r)
theorem yv (s:Nat):∀ fr:aD,CG s fr=CF s (strip fr)
 | []=>rfl
 | (x,(v,h))::r=>by
   rw[cO];simp only[CG,CF,yv s r];cases Nat.beq x s<;>rfl
def wB (s:Nat) (fr:aD) (H:ab):Tr (aD×ab) :=
 match H with
 | []=>.ok (fr,[])
 | l::r=>cond l.lock (.ok (fr,l::r)) (match CG s fr with
   | some i=>(sE i fr l).bind fun y=>.ok (y.1,y.2::r)
   | none=>.ok (fr,l::r))
theorem Ba {s:Nat} {fr:aD} {H:ab} {y:aD×ab} (h:(wB s fr H).run=some y):wA s (strip fr) H=(strip y.1,y.2):=by
 unfold wB at h;unfold wA;cases H with
 | nil=>rw[← Tr.af h]
 | cons l r =>
   dsimp only at h ⊢;cases hl:l.lock with
   | true =>
     rw[hl,cond_true] at h;rw[if_pos rfl,← Tr.af h]
   | false =>
     rw[hl,cond_false,yv] at h;rw[if_neg (by simp)];split at h
     · rename_i i hi;obtain ⟨z,h1,h⟩:=Tr.bind_some h;have h1:=pS h1;rw[hi];dsimp only;rw[h1,← Tr.af h]
     · rename_i hi;rw[hi,← Tr.af h]
def rp (m:Nat) (fr:aD) (H:ab):Tr (aD×ab) :=
 cond (ir m 4000) (match H with
  | []=>.ok (gf fr m,[])
  | l::r=>cond l.lock (.ok (gf fr m,l::r)) ((rn (j4 l.bs) (gf fr m) l).bind fun y=>.ok (y.1,cond (Nat.beq (Nat.shiftRight m 4003) 0) (y.2::r) (uO (Nat.shiftRight m 4003) (y.2::r))))) (cond (ir m 4001) (wB (Nat.shiftRight m 4003) (gf fr m) H) (cond (ir m 4002) (tT (gf fr m) (Nat.shiftRight m 4003) (fun fr=>.ok (fr,H)) (fun fr=>match H with
  | []=>.ok (fr,[])
  | l::r=>cond l.lock (.ok (fr,l::r)) ((oV (j4 l.bs) fr l).bind fun y=>.ok (y.1,y.2::r)))) (.ok (gf fr m,H))))
theorem sF {m:Nat} {fr:aD} {H:ab} {y:aD×ab} (h:(rp m fr H).run=some y):iO m (strip fr) H=(strip y.1,y.2):=by
 unfold rp at h;unfold iO;cases hm:ir m 4000 with
 | false =>
   rw[hm,cond_false] at h;rw[if_neg (by simp)];cases hm2:ir m 4001 with
   | false =>
     rw[hm2,cond_false] at h;rw[if_neg (by simp)];cases hm3:ir m 4002 with
     | false =>
       rw[hm3,cond_false] at h;rw[if_neg (by simp),← Tr.af h,eK]
     | true =>
       rw[hm3,cond_true] at h;rw[if_pos rfl];obtain ⟨b,fr',h1,h2,h3⟩:=jb h;rw[eK] at h1 h2;rw[h1];cases b with
       | true =>
         simp only[if_true] at h3;rw[← Tr.af h3,h2]
       | false =>
         simp only[Bool.false_eq_true,if_false] at h3;cases H with
         | nil =>
           dsimp only at h3;rw[← Tr.af h3,← h2];rfl
         | cons l r =>
           dsimp only at h3;show uF (bT (strip fr) m) (l::r)=_;rw[← h2];unfold uF;dsimp only;cases hl:l.lock with
           | true =>
             rw[hl,cond_true] at h3;rw[if_pos rfl,← Tr.af h3]
           | false =>
             rw[hl,cond_false] at h3;obtain ⟨z,h4,h5⟩:=Tr.bind_some h3;have h4:=qC _ _ _ _ h4;rw[ey] at h4;rw[if_neg (by simp),h4,← Tr.af h5]
   | true =>
     rw[hm2,cond_true] at h;rw[if_pos rfl];have h1:=Ba h;rw[eK] at h1;exact h1
 | true =>
   rw[hm,cond_true] at h;rw[if_pos rfl];cases H with
   | nil =>
     rw[← Tr.af h,eK];simp only[D5,uO,ite_self]
   | cons l r =>
     dsimp only at h;unfold D5;dsimp only;cases hl:l.lock with
     | true =>
       rw[hl,cond_true] at h;simp only[if_true];rw[← Tr.af h,eK];simp only[uO,hl,if_true,ite_self]
     | false =>
       rw[hl,cond_false] at h;obtain ⟨z,h1,h⟩:=Tr.bind_some h;have h1:=sC _ _ _ _ h1;rw[ey,eK] at h1;simp only[Bool.false_eq_true,if_false,h1];rw[← Tr.af h];cases Nat.beq (Nat.shiftRight m 4003) 0<;>rfl
def IM:aD→aD
 | []=>[]
 | (x,(v,h))::r=>(x,(vE v,h))::IM r
theorem tc:∀ fr:aD,strip (IM fr)=Eg (strip fr)
 | []=>rfl
 | (x,(v,h))::r=>by
   simp only[IM,cO,Eg,ta,tc r]
def rq (m:Nat) (fr:aD) (H:ab):Tr (aD×ab) :=
 cond (ir m 3998) ((rp m fr H).bind fun y=>tT y.1 (Nat.shiftRight m 4003) (fun fr=>.ok (fr,y.2)) (fun fr=>.ok (fr,uO (Nat.shiftRight m 3985 % 4096) y.2))) (rp m fr H)
theorem sG {m:Nat} {fr:aD} {H:ab} {y:aD×ab} (h:(rq m fr H).run=some y):kE m (strip fr) H=(strip y.1,y.2):=by
 unfold rq at h;unfold kE;cases hm:ir m 3998 with
 | false =>
   rw[hm,cond_false] at h;rw[if_neg (by simp)];exact sF h
 | true =>
   rw[hm,cond_true] at h;rw[if_pos rfl];obtain ⟨z,h1,h⟩:=Tr.bind_some h;have h1:=sF h1;obtain ⟨b,fr',h2,h3,h4⟩:=jb h;rw[h1];dsimp only;rw[h2];cases b with
   | true =>
     simp only[if_true] at h4;rw[← Tr.af h4,h3]
   | false =>
     simp only[Bool.false_eq_true,if_false] at h4;rw[← Tr.af h4,h3]
def CR (s sz:Nat):aD→aD
 | []=>[]
 | (x,(v,h))::r=>(x,(cond (Nat.beq x s) (II sz v) v,h))::CR s sz r
theorem qJ (s sz:Nat):∀ fr:aD,strip (CR s sz fr)=Ee s sz (strip fr)
 | []=>rfl
 | (x,(v,h))::r=>by
   simp only[CR,cO,Ee,qJ s sz r]
def rr (m:Nat) (fr:aD) (H:ab):Tr (aD×ab) :=
 cond (ir m 3997) ((rq m fr H).bind fun y=>.ok (CR (Nat.shiftRight m 3985 % 4096 / 8) (Nat.shiftRight m 3985 % 8) y.1,y.2)) (rq m fr H)
theorem sH {m:Nat} {fr:aD} {H:ab} {y:aD×ab} (h:(rr m fr H).run=some y):kF m (strip fr) H=(strip y.1,y.2):=by
 unfold rr at h;unfold kF;cases hm:ir m 3997 with
 | false =>
   rw[hm,cond_false] at h;rw[if_neg (by simp)];exact sG h
 | true =>
   rw[hm,cond_true] at h;rw[if_pos rfl];obtain ⟨z,h1,h⟩:=Tr.bind_some h;have h1:=sG h1;rw[h1,← Tr.af h,qJ]
def A9 (m:Nat) (fr:aD) (H:ab):Tr (aD×ab) :=
 cond (ir m 3999) ((rr m fr H).bind fun y=>.ok (IM y.1,y.2)) (rr m fr H)
theorem D6 {m:Nat} {fr:aD} {H:ab} {y:aD×ab} (h:(A9 m fr H).run=some y):oW m (strip fr) H=(strip y.1,y.2):=by
 unfold A9 at h;unfold oW;cases hm:ir m 3999 with
 | false =>
   rw[hm,cond_false] at h;rw[if_neg (by simp)];exact sH h
 | true =>
   rw[hm,cond_true] at h;rw[if_pos rfl];obtain ⟨z,h1,h⟩:=Tr.bind_some h;have h1:=sH h1;rw[h1,← Tr.af h,tc]
def aH (cx:Cx) (callR:bt) (bl:eW) (rg:ou):Code→aD→ab→Tr dY
 | .skip,fr,H=>.ok (.normal,fr,H)
 | .label _,fr,H=>.ok (.normal,fr,H)
 | .exit id,fr,H=>.ok (.exit id,fr,H)
 | .goto l,fr,H=>.ok (.goto l,fr,H)
 | .ret,fr,H=>.ok (.ret,fr,H)
 | .region id ops draw,fr,H =>
   (cond draw (cond (fV ops (Region.before ops)) (oH cx.P cx.nt cx.call callR ops (Region.before ops) ops.toList 0 fr (nH H (cY ops.toList)) (wz H) []) .bad) (iw cx.P cx.nt cx.call callR ops ops.toList fr H)).bind fun x=>(A9 (cx.kt id) x.1 x.2).bind fun y=>.ok (.normal,y.1,y.2)
 | .seq a b,fr,H=>(aH cx callR bl rg a fr H).bind fun x=>match x with
   | (.normal,fr,H)=>aH cx callR bl rg b fr H
   | r=>.ok r
 | .cond c a b,fr,H=>match c with
   | .tmp d=>tT fr d (fun fr=>aH cx callR bl rg a fr H) (fun fr=>aH cx callR bl rg b fr H)
   | c=>match (ct fr c).1 with
     | .bool t=>cond t (aH cx callR bl rg a fr H) (aH cx callR bl rg b fr H)
     | _=>.bad
 | .block id b,fr,H=>match bl id fr H with
   | some t=>t
   | none=>(aH cx callR bl rg b fr H).bind fun x=>match x with
     | (.exit id',fr,H)=>cond (Nat.beq id' id) (.ok (.normal,fr,H)) (.ok (.exit id',fr,H))
     | r=>.ok r
 | .scope b,fr,H=>(aH cx callR bl rg b fr H).bind fun x=>match x with
   | (.goto _,_,_)=>.bad
   | r=>.ok r
 | .rangeFunc f _ _ _,fr,H=>match rg f fr H with
   | some t=>t
   | none=>.bad
 | .loop b,fr,H=>cond (Nat.ble 12 cx.fu) (CE (aH cx callR bl rg b) (wz H) 12 fr H) .bad
 | .refuse _,_,_=>.bad

theorem fJ {cx:Cx} {callR:bt} {bl:eW} {rg:ou} (hC:callR.Ok cx.call):∀ (c:Code),bl.Ok cx c→rg.Ok cx c→∀ (fr:aD) (H:ab) (x:dY),(aH cx callR bl rg c fr H).run=some x→exec cx c (strip fr) H=some x.st:=by
 intro c;induction c with
 | skip=>intro _ _ fr H x h;rw[← Tr.af h];rfl
 | label=>intro _ _ fr H x h;rw[← Tr.af h];rfl
 | exit=>intro _ _ fr H x h;rw[← Tr.af h];rfl
 | goto=>intro _ _ fr H x h;rw[← Tr.af h];rfl
 | ret=>intro _ _ fr H x h;rw[← Tr.af h];rfl
 | refuse=>intro _ _ fr H x h;exact (Tr.ah h).elim
 | loop b ih =>
   intro hb hr fr H x h;simp only[aH] at h;obtain ⟨hk,h⟩:=Tr.aW h;rw[Nat.ble_eq] at hk;unfold exec;rw[pQ] at h;exact vw _ _ _ _ _ (yp (fun fr H x h=>ih hb hr fr H x h) 12 fr H x h) hk
 | rangeFunc f ps a b =>
   intro _ hr fr H x h;simp only[aH] at h;split at h
   · rename_i t ht;exact hr f ps a b (by simp[dX]) fr H t x ht h
   · exact (Tr.ah h).elim
 | region id ops draw =>
   intro _ _ fr H x h;simp only[aH] at h;obtain ⟨y,h1,h⟩:=Tr.bind_some h;obtain ⟨z,h2,h⟩:=Tr.bind_some h;have h2:=D6 h2;rw[← Tr.af h];unfold exec;cases draw with
   | true =>
     rw[cond_true] at h1;obtain ⟨hs,h1⟩:=Tr.aW h1;rw[pQ] at h1;simp only[if_true,hs];rw[qq hC _ _ _ _ _ _ _ h1];dsimp only;rw[h2];rfl
   | false =>
     rw[cond_false] at h1;simp only[Bool.false_eq_true,if_false];rw[fm hC _ _ _ _ h1];dsimp only;rw[h2];rfl
 | seq a b iha ihb =>
   intro hb hr fr H x h;have hba:bl.Ok cx a:=fun id b' hm=>hb id b' (List.mem_append_left _ hm);have hbb:bl.Ok cx b:=fun id b' hm=>hb id b' (List.mem_append_right _ hm);have hra:rg.Ok cx a:=fun f ps u v hm=>hr f ps u v (List.mem_append_left _ hm);have hrb:rg.Ok cx b:=fun f ps u v hm=>hr f ps u v (List.mem_append_right _ hm);simp only[aH] at h;obtain ⟨y,h1,h⟩:=Tr.bind_some h;have h1:=iha hba hra _ _ _ h1;unfold exec;rw[h1];obtain ⟨e,fr1,H1⟩:=y;cases e;case normal=>exact ihb hbb hrb _ _ _ h
   all_goals
    have h:=Tr.af h
    rw[← h];rfl
 | cond c a b iha ihb =>
   intro hb hr fr H x h;have hba:bl.Ok cx a:=fun id b' hm=>hb id b' (List.mem_append_left _ hm);have hbb:bl.Ok cx b:=fun id b' hm=>hb id b' (List.mem_append_right _ hm);have hra:rg.Ok cx a:=fun f ps u v hm=>hr f ps u v (List.mem_append_left _ hm);have hrb:rg.Ok cx b:=fun f ps u v hm=>hr f ps u v (List.mem_append_right _ hm);simp only[aH] at h;unfold exec;split at h
   · rename_i d;obtain ⟨b',fr',h1,h2,h3⟩:=jb h;have e:b5 (strip fr) (.tmp d)=.bool b':=h1;rw[e,← h2];cases b' with
     | true=>exact iha hba hra _ _ _ h3
     | false=>exact ihb hbb hrb _ _ _ h3
   · rename_i c' hne;rw[a8] at h;split at h
     · rename_i t hc;rw[hc];cases t with
       | true=>exact iha hba hra _ _ _ h
       | false=>exact ihb hbb hrb _ _ _ h
     · exact (Tr.ah h).elim
 | block id b ih =>
   intro hb hr fr H x h;have hbb:bl.Ok cx b:=fun id' b' hm=>hb id' b' (by simp only[aE];exact List.mem_cons_of_mem _ hm);simp only[aH] at h;split at h
   · rename_i t ht;exact hb id b (by simp[aE]) _ _ _ _ ht h
   · obtain ⟨y,h1,h⟩:=Tr.bind_some h;have h1:=ih hbb hr _ _ _ h1;unfold exec;rw[h1];obtain ⟨e,fr1,H1⟩:=y;cases e;case exit id' =>
      dsimp only[dY.st] at h ⊢
      rw[HT] at h
      split at h
      · rename_i uE
        rw[if_pos uE,← Tr.af h]
      · rename_i uE
        rw[if_neg uE,← Tr.af h]
     all_goals
      have h:=Tr.af h
      rw[← h];rfl
 | scope b ih =>
   intro hb hr fr H x h;simp only[aH] at h;obtain ⟨y,h1,h⟩:=Tr.bind_some h;have h1:=ih hb hr _ _ _ h1;unfold exec;rw[h1];obtain ⟨e,fr1,H1⟩:=y;cases e;case goto=>exact (Tr.ah h).elim
   all_goals
    have h:=Tr.af h
    rw[← h];rfl

end
end Go.Eng
end
section
namespace Go.Eng
noncomputable section

def m6   (bs:List (Nat×an)):Nat→AV→Tr AV
 | 0,_=>.ok .undef
 | n + 1,v=>match v with
   | .ptr d i ver off=>match d with
     | d+1=>.ok (.ptr d i ver off)
     | 0 => match Br bs i with
       | (w,.row r)=>cond (Nat.beq w ver) (match r with
         | .I k l=>.ok (.ptrT none (.I k l) off)
         | .F f m=>.ok (.ptrT none (.F f m) off)
         | .M l=>cond (fI l) (.ok (.ptrT none (.M l) off)) ((lZ (m6 bs n) l).bind fun m=>.ok (.ptrT (some 0) (.M m) off))
         | .G l=>(nR (m6 bs n) l).bind fun m=>.ok (.ptrT (some 0) (.G m) off)) .bad
       | _=>.bad
   | .slc d i ver off sz len cap=>match d with
     | d+1=>.ok (.slc d i ver off sz len cap)
     | 0 => match Br bs i with
       | (w,.row r)=>.req (cu w ver) (match r with
         | .M [.arr k z N]=>.req (fF off (fD len sz) 0 N) (.ok (.slcT none (.M [.arr k (qj z off) (fD len sz)]) sz len (qo cap len)))
         | .I k l=>cond (uy (.I k l) off (Nat.mul len sz)) (.ok (.slcT none (.I k (lj (ld l off) (Nat.mul len sz))) sz len (qo cap len))) .bad
         | .F f N=>.req (fF off (fD len sz) 0 N) (.ok (.slcT none (.F (fun j=>f (ar off j)) (fD len sz)) sz len (qo cap len)))
         | .G l=>cond (uy (.G l) off (Nat.mul len sz)) ((nR (m6 bs n) (lj (ld l off) (Nat.mul len sz))).bind fun m=>.ok (.slcT (some 0) (.G m) sz len (qo cap len))) .bad
         | _=>.bad)
       | _=>.bad
   | .ptrT s r off=>match s with
     | none=>.ok (.ptrT none r off)
     | some (s+1)=>.ok (.ptrT (some s) r off)
     | some 0=>match r with
       | .G l=>(nR (m6 bs n) l).bind fun m=>.ok (.ptrT (some 0) (.G m) off)
       | .M l=>cond (fI l) (.ok (.ptrT none (.M l) off)) ((lZ (m6 bs n) l).bind fun m=>.ok (.ptrT (some 0) (.M m) off))
       | r=>.ok (.ptrT none r off)
   | .slcT s r sz len full=>match s with
     | none=>.ok (.slcT none r sz len full)
     | some (s+1)=>.ok (.slcT (some s) r sz len full)
     | some 0=>match r with
       | .G l=>(nR (m6 bs n) l).bind fun m=>.ok (.slcT (some 0) (.G m) sz len full)
       | .M l=>cond (fI l) (.ok (.slcT none (.M l) sz len full)) ((lZ (m6 bs n) l).bind fun m=>.ok (.slcT (some 0) (.M m) sz len full))
       | r=>.ok (.slcT none r sz len full)
   | .map d i=>match d with
     | d+1=>.ok (.map d i)
     | 0=>.ok .undef
   | .yld d i=>match d with
     | d+1=>.ok (.yld d i)
     | 0=>.ok .undef
   | .fn f a b=>(nR (m6 bs n) a).bind fun a'=>(nR (m6 bs n) b).bind fun b'=>.ok (.fn f a' b')
   | .agg r=>match r with
     | .G l=>(nR (m6 bs n) l).bind fun m=>.ok (.agg (.G m))
     | .M l=>(lZ (m6 bs n) l).bind fun m=>.ok (.agg (.M m))
     | r=>.ok (.agg r)
   | .tup l=>(nR (m6 bs n) l).bind fun m=>.ok (.tup m)
   | v=>.ok v
theorem Cq (bs:List (Nat×an)):∀ (n:Nat) (v u:AV),(m6 bs n v).run=some u→dE bs n v=u
 | 0,v,u,h=>Tr.af h
 | n + 1,v,  u,h=>by
   have ih:=Cq bs n;simp only[m6,rA] at h;cases v with
   | ptr d i ver off =>
     cases d with
     | succ d=>exact Tr.af h
     | zero =>
       dsimp only at h;simp only[dE];split at h
       · rename_i w r hg;obtain ⟨hw,h⟩:=Tr.aW h;rw[hg];dsimp only;rw[if_pos hw];cases r with
         | I k l=>exact Tr.af h
         | F f m=>exact Tr.af h
         | G l =>
           obtain ⟨m,h1,h⟩:=Tr.bind_some h;rw[← Tr.af h,← eM ih _ _ h1]
         | M l =>
           dsimp only at h ⊢;cases ha:fI l with
           | true=>rw[ha,cond_true] at h;rw[if_pos rfl];exact Tr.af h
           | false =>
             rw[ha,cond_false] at h;obtain ⟨m,h1,h⟩:=Tr.bind_some h;rw[if_neg (by simp),← Tr.af h,← gL ih _ _ h1]
       · exact (Tr.ah h).elim
   | slc d i ver off sz len cap =>
     cases d with
     | succ d=>exact Tr.af h
     | zero =>
       dsimp only at h;simp only[dE];split at h
       · rename_i w r hg;obtain ⟨hw,h'⟩:=Tr.aT h;clear h;rw[eQ,decide_eq_true_eq] at hw;subst hw;rw[hg];dsimp only;split at h'
         · rename_i k z N;have h:=h';obtain ⟨hc,h⟩:=Tr.aT h;rw[iP,decide_eq_true_eq,cJ] at hc;rw[if_pos ⟨by simp,by simp only[Row.len,ay,aP];omega⟩,← Tr.af h,jR,cJ,mn];simp only[Row.sub,fI,if_true]
         · have h:=h';obtain ⟨hc,h⟩:=Tr.aW h;rw[ky,decide_eq_true_eq] at hc;rw[if_pos ⟨by simp,hc⟩,← Tr.af h,jR,gQ,gH];rfl
         · have h:=h';obtain ⟨hc,h⟩:=Tr.aT h;rw[iP,decide_eq_true_eq,cJ] at hc;rw[if_pos ⟨by simp,by simp only[Row.len];omega⟩,← Tr.af h,jR,cJ];simp only[Row.sub,aC]
         · have h:=h';obtain ⟨hc,h⟩:=Tr.aW h;rw[ky,decide_eq_true_eq] at hc;obtain ⟨m,h1,h⟩:=Tr.bind_some h;rw[gQ,gH] at h1;rw[if_pos ⟨by simp,hc⟩,← Tr.af h,jR,← eM ih _ _ h1];rfl
         · exact (Tr.ah h').elim
       · exact (Tr.ah h).elim
   | ptrT s r off =>
     cases s with
     | none=>exact Tr.af h
     | some s =>
       cases s with
       | succ s=>exact Tr.af h
       | zero =>
         simp only[dE];cases r with
         | I k l=>exact Tr.af h
         | F f m=>exact Tr.af h
         | G l =>
           obtain ⟨m,h1,h⟩:=Tr.bind_some h;rw[← Tr.af h,← eM ih _ _ h1]
         | M l =>
           dsimp only at h ⊢;cases ha:fI l with
           | true=>rw[ha,cond_true] at h;rw[if_pos rfl];exact Tr.af h
           | false =>
             rw[ha,cond_false] at h;obtain ⟨m,h1,h⟩:=Tr.bind_some h;rw[if_neg (by simp),← Tr.af h,← gL ih _ _ h1]
   | slcT s r sz len full =>
     cases s with
     | none=>exact Tr.af h
     | some s =>
       cases s with
       | succ s=>exact Tr.af h
       | zero =>
         simp only[dE];cases r with
         | I k l=>exact Tr.af h
         | F f m=>exact Tr.af h
         | G l =>
           obtain ⟨m,h1,h⟩:=Tr.bind_some h;rw[← Tr.af h,← eM ih _ _ h1]
         | M l =>
           dsimp only at h ⊢;cases ha:fI l with
           | true=>rw[ha,cond_true] at h;rw[if_pos rfl];exact Tr.af h
           | false =>
             rw[ha,cond_false] at h;obtain ⟨m,h1,h⟩:=Tr.bind_some h;rw[if_neg (by simp),← Tr.af h,← gL ih _ _ h1]
   | map d i=>cases d<;>exact Tr.af h
   | yld d i=>cases d<;>exact Tr.af h
   | fn f a b =>
     obtain ⟨a',h1,h⟩:=Tr.bind_some h;obtain ⟨b',h2,h⟩:=Tr.bind_some h;simp only[dE];rw[← Tr.af h,← eM ih _ _ h1,← eM ih _ _ h2]
   | agg r =>
     simp only[dE];cases r with
     | I k l=>exact Tr.af h
     | F f m=>exact Tr.af h
     | G l =>
       obtain ⟨m,h1,h⟩:=Tr.bind_some h;rw[← Tr.af h,← eM ih _ _ h1]
     | M l =>
       obtain ⟨m,h1,h⟩:=Tr.bind_some h;rw[← Tr.af h,← gL ih _ _ h1]
   | tup l =>
     obtain ⟨m,h1,h⟩:=Tr.bind_some h;simp only[dE];rw[← Tr.af h,← eM ih _ _ h1]
   | _=>exact Tr.af h

def HD (l:List HV):Nat→aD:=List.rec (motive:=fun _=>Nat→aD) (fun _=>[]) (fun v _ ih x=>(x,(nr 1 v.1,v.2))::ih (Nat.succ x)) l
theorem vX:∀ (l:List HV) (x:Nat),strip (HD l x)=fH x (mw l)
 | [],x=>rfl
 | v::l,x=>by
   have e:HD (v::l) x=(x,(nr 1 v.1,v.2))::HD l (x+1):=rfl;rw[e,cO,vX l];rfl
def hints (f:aA):aD:=List.rec (motive:=fun _=>aD) [] (fun p _ ih=>(p.1,(p.2,none))::ih) f
theorem aG:∀ f:aA,strip (hints f)=f
 | []=>rfl
 | (x,v)::r=>by
   have e:hints ((x,v)::r)=(x,(v,none))::hints r:=rfl;rw[e,cO,aG r]
def Bz (P:Program) (fr:aD) (H:ab):List ResultVar→Tr (List AV)
 | []=>.ok []
 | .tmp t::r=>(Bz P fr H r).bind fun l=>.ok ((lf fr t).1::l)
 | .cell a t::r=>(loadT P H t (ct fr (.tmp a))).bind fun v=>(Bz P fr H r).bind fun l=>.ok (v::l)
theorem xb {P:Program} {fr:aD} {H:ab}:∀ (l:List ResultVar) (vs:List AV),(Bz P fr H l).run=some vs→hJ P (strip fr) H l=some vs
 | [],vs,h=>by rw[← Tr.af h];rfl
 | .tmp t::r,vs,h=>by
   simp only[Bz] at h;obtain ⟨l,h1,h⟩:=Tr.bind_some h;simp only[hJ];rw[xb r l h1,← Tr.af h,eY];rfl
 | .cell a t::r,vs,h=>by
   simp only[Bz] at h;obtain ⟨v,h0,h⟩:=Tr.bind_some h;obtain ⟨l,h1,h⟩:=Tr.bind_some h;have h0:=yy h0;rw[a8] at h0;simp only[hJ];have e:b5 (strip fr) (.tmp a)=bM (strip fr) a:=rfl;rw[e] at h0;rw[h0];dsimp only;rw[xb r l h1,← Tr.af h];rfl
def JO (fr:aD) (rs:List ResultVar):Option Nat :=
 match rs with
 | [.tmp t]=>(lf fr t).2
 | _=>none
def Mj (P:Program) (rs:List ResultVar) (x:dY):Tr (HV×ab) :=
 match x with
 | (e,fr,l::H)=>match e with
   | .normal | .ret=>(Bz P fr (l::H) rs).bind fun vs=>(m6 l.bs 5 (one vs)).bind fun v=>.ok ((v,JO fr rs),H)
   | _=>.bad
 | _=>.bad
theorem C6 {P:Program} {rs:List ResultVar} {x:dY} {y:HV×ab} (h:(Mj P rs x).run=some y):∃ l vs,x.2.2=l::y.2∧(x.1=.normal∨x.1=.ret)∧hJ P (strip x.2.1) x.2.2 rs=some vs∧dE l.bs 5 (one vs)=y.1.1:=by
 unfold Mj at h;split at h
 · rename_i e fr l H;have key:((Bz P fr (l::H) rs).bind fun vs=>(m6 l.bs 5 (one vs)).bind fun v=>Tr.ok (((v,JO fr rs),H):HV×ab)).run=some y→∃ vs,l::H=l::y.2∧hJ P (strip fr) (l::H) rs=some vs∧dE l.bs 5 (one vs)=y.1.1:=by
    intro h;obtain ⟨vs,h1,h⟩:=Tr.bind_some h;obtain ⟨v,h2,h⟩:=Tr.bind_some h;have h:=Tr.af h;refine ⟨vs,by rw[← h],xb _ _ h1,?_⟩;rw[Cq _ _ _ _ h2,← h]
   split at h
   · obtain ⟨vs,h1,h2,h3⟩:=key h;exact ⟨l,vs,h1,.inl rfl,h2,h3⟩
   · obtain ⟨vs,h1,h2,h3⟩:=key h;exact ⟨l,vs,h1,.inr rfl,h2,h3⟩
   · exact (Tr.ah h).elim
 · exact (Tr.ah h).elim
def bu (P:Program) (call:aK) (fu:Nat) (f:FuncId) (fn:Func) (kt:Nat→Nat) (callR:bt) (bl:eW) (rg:ou) (args:List HV) (H:ab):Tr (HV×ab) :=
 (aH ⟨P,call,fu,f,fn.ntmps,kt,none⟩ callR bl rg (bx fn) (HD args 0) (⟨false,[]⟩::H)).bind fun x=>Mj P fn.results.toList x
theorem rY {P:Program} {ora:aK→FuncId→List AV→ab→Option (AV×ab)} {KT:FuncId→Nat→Nat} {fu n:Nat} {f:FuncId} {fn:Func} (hf:P.funcs[f]?=some fn) (hb:fn.body.isSome=true) {args:List HV} {H:ab} (ho:ora (dH P ora KT fu n) f (mw args) H=none) (hle:Nat.ble args.length fn.ntmps=true)
 {callR:bt} (hC:callR.Ok (dH P ora KT fu n)) {bl:eW} (hB:bl.Ok ⟨P,dH P ora KT fu n,fu,f,fn.ntmps,KT f,none⟩ (bx fn)) {rg:ou} (hR:rg.Ok ⟨P,dH P ora KT fu n,fu,f,fn.ntmps,KT f,none⟩ (bx fn)) {y:HV×ab}
 (h:(bu P (dH P ora KT fu n) fu f fn (KT f) callR bl rg args H).run=some y):dH P ora KT fu (n+1) (.fn f) (mw args) H=some (y.1.1,y.2):=by
 unfold bu at h
 obtain ⟨x,h1,h⟩:=Tr.bind_some h
 have h1:=fJ hC _ hB hR _ _ _ h1
 rw[vX] at h1
 obtain ⟨l,vs,k1,k2,k3,k4⟩:=C6 h
 obtain ⟨c,hc⟩:=Option.isSome_iff_exists.1 hb
 have hbody:bx fn=c:=by unfold bx;rw[hc]
 rw[hbody] at h1
 obtain ⟨e,fr,H1⟩:=x
 dsimp only[dY.st] at h1 k1 k2 k3
 rw[k1] at h1 k3
 have hl:(mw args).length=args.length:=by unfold mw;rw[kI,List.length_map]
 simp only[dH,ho,hf,hc,hl,hle,if_true,h1]
 rcases k2 with rfl | rfl<;>simp only[k3]<;>rw[k4]

theorem gS {cx:Cx} {id:Nat} {b:Code} {fr fr1:aA} {H H1:ab} (h:iter (exec cx b) (aZ H) cx.fu fr H=some (.exit id,fr1,H1)):exec cx (.block id (.loop b)) fr H=some (.normal,fr1,H1):=by
 unfold exec;have:exec cx (.loop b) fr H=some (.exit id,fr1,H1):=by unfold exec;exact h
 rw[this];dsimp only;rw[if_pos (by simp)]
theorem dm {cx:Cx} {id:Nat} {b:Code} {fr fr1:aA} {H H1:ab} {e:Ex} (he:∀ id',e=.exit id'→Nat.beq id' id=false) (h:iter (exec cx b) (aZ H) cx.fu fr H=some (e,fr1,H1)):exec cx (.block id (.loop b)) fr H=some (e,fr1,H1):=by
 unfold exec;have:exec cx (.loop b) fr H=some (e,fr1,H1):=by unfold exec;exact h
 rw[this];cases e with
 | exit id'=>dsimp only;rw[if_neg (by rw[he id' rfl];simp)]
 | _=>rfl
def fN (p:Nat→Bool):Nat→Nat→Nat
 | 0,j=>j
 | k+1,j=>if p j then j else fN p k (j+1)
theorem wi (p:Nat→Bool):∀ (k j:Nat),j≤fN p k j∧fN p k j≤j+k∧(∀ i,j≤i→i<fN p k j→p i=false)∧(fN p k j<j+k→p (fN p k j)=true)
 | 0,j=>⟨Nat.le_refl _,Nat.le_refl _,fun i h1 h2=>absurd h2 (by simp only[fN];omega),fun h=>absurd h (by simp only[fN];omega)⟩
 | k + 1,j=>by
   simp only[fN];by_cases h:p j=true
   · rw[if_pos h];exact ⟨Nat.le_refl _,by omega,fun i h1 h2=>by omega,fun _=>h⟩
   · rw[if_neg h];obtain ⟨h1,h2,h3,h4⟩:=wi p k (j+1);refine ⟨by omega,by omega,fun i k1 k2=>?_,fun k1=>h4 wO⟩;by_cases e:i=j
     · subst e;simpa using h
     · exact h3 i wO k2
theorem iB {body:aA→ab→Option (Ex×aA×ab)} {n:Nat} (F:Nat→aA) (G:Nat→ab) (N:Nat) (p:Nat→Bool) (X:Nat→Ex×aA×ab)
 (hs:∀ j,j<N→p j=false→∃ f g,body (F j) (G j)=some (.normal,f,g)∧tidy n f g=(F (j+1),G (j+1)))
 (hh:∀ j,j<N→p j=true→body (F j) (G j)=some (X j)∧(X j).1≠.normal) (he:body (F N) (G N)=some (X N)∧(X N).1≠.normal) :
 ∀ (k j fu:Nat),j+k=N→k<fu→iter body n fu (F j) (G j)=some (X (fN p k j))
 | 0,j,0,_,h=>by omega
 | 0,j,fu+1,hj,_=>by
   have:j=N:=by omega
   subst this;unfold iter;rw[he.1];obtain ⟨x,hx⟩:∃ x,x=X j:=⟨_,rfl⟩
   have hn:=he.2;simp only[fN];rw[← hx] at hn ⊢;obtain ⟨e,f,g⟩:=x;cases e<;>first | exact absurd rfl hn | rfl
 | k+1,j,0,_,h=>by omega
 | k + 1,j,fu+1,hj,hf=>by
   unfold iter;cases hp:p j with
   | true =>
     obtain ⟨h1,h2⟩:=hh j wO hp;rw[h1];simp only[fN];rw[if_pos hp];obtain ⟨x,hx⟩:∃ x,x=X j:=⟨_,rfl⟩
     rw[← hx] at h2 ⊢;obtain ⟨e,f,g⟩:=x;cases e<;>first | exact absurd rfl h2 | rfl
   | false =>
     obtain ⟨f,g,h1,h2⟩:=hs j wO hp;rw[h1];dsimp only;rw[h2];simp only[fN];rw[if_neg (by rw[hp];simp)];exact iB F G N p X hs hh he k (j+1) fu wO wO
end
end Go.Eng
end
