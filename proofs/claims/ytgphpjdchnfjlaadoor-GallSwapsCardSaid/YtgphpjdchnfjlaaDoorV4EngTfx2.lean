/- The engine as a tree: regions, code, calls. -/
import Derived.Test.YtgphpjdchnfjlaaDoorV4EngTe
set_option linter.unusedVariables false
set_option linter.unusedSimpArgs false
section
namespace Go.Eng
noncomputable section

def ug (f:aN) (y:Nat) (b:Bool):aN:=List.rec (motive:=fun _=>aN) [] (fun p r ih=>Bool.rec (motive:=fun _=>aN) (p::ih) ((p.1,(.bool b,some 1))::r) (Nat.beq p.1 y)) f
theorem rR:∀ (f:aN) (y:Nat) (b:Bool),bA (strip f) y=.bool b→strip (ug f y b)=strip f
 | [],y,b,_=>rfl
 | (x,v)::r,y,b,h=>by
   have e:ug ((x,v)::r) y b=Bool.rec (motive:=fun _=>aN) ((x,v)::ug r y b) ((x,(.bool b,some 1))::r) (Nat.beq x y):=rfl
   rw[cX,bA] at h
   rw[e]
   cases hb:Nat.beq x y with
   | true =>
     rw[hb] at h
     have h:v.1=.bool b:=h
     show (x,AV.bool b)::strip r=(x,v.1)::strip r
     rw[h]
   | false =>
     rw[hb] at h
     show (x,v.1)::strip (ug r y b)=(x,v.1)::strip r
     rw[rR r y b h]
def uE {α:Type} (fr:aN) (d:Nat) (t e:aN→Tr α):Tr α :=
 match kS fr d with
 | (.bool b,none)=>.ite b (t (ug fr d true)) (e (ug fr d false))
 | (.bool b,some _)=>cond b (t fr) (e fr)
 | _=>.bad
theorem kK {α:Type} {fr:aN} {d:Nat} {t e:aN→Tr α} {x:α} (h:(uE fr d t e).run=some x):∃ b fr',bA (strip fr) d=.bool b∧strip fr'=strip fr∧(if b then t fr' else e fr').run=some x:=by
 unfold uE at h
 split at h
 · rename_i b hg
   have hg':bA (strip fr) d=.bool b:=by rw[← eP,hg]
   rcases Tr.fL h with ⟨rfl,h⟩ | ⟨rfl,h⟩
   · exact ⟨true,_,hg',rR _ _ _ hg',h⟩
   · exact ⟨false,_,hg',rR _ _ _ hg',h⟩
 · rename_i b n hg
   have hg':bA (strip fr) d=.bool b:=by rw[← eP,hg]
   refine ⟨b,fr,hg',rfl,?_⟩
   cases b<;>exact h
 · exact (Tr.af h).elim
def BF (ops:Array Oper) (fr:aN) (o:Oper):Tr (Bool×aN) :=
 match o.guard with
 | none=>.ok (true,fr)
 | some (j,want)=>match (ops[j]?).bind (·.dst) with
   | none=>.bad
   | some d=>match (kS fr d).1 with
     | .bool _=>cond want (uE fr d (fun fr=>.ok (true,fr)) (fun fr=>.ok (false,fr))) (uE fr d (fun fr=>.ok (false,fr)) (fun fr=>.ok (true,fr)))
     | .tup _=>.ok (false,fr)
     | _=>.bad
theorem yM {ops:Array Oper} {fr:aN} {o:Oper} {r:Bool×aN} (h:(BF ops fr o).run=some r):gI ops (strip fr) o=(if r.1 then .run else .skip)∧strip r.2=strip fr:=by
 unfold BF at h
 unfold gI
 cases hg:o.guard with
 | none =>
   rw[hg] at h
   rw[← Tr.ab h];exact ⟨rfl,rfl⟩
 | some jw =>
   obtain ⟨j,want⟩:=jw
   rw[hg] at h
   dsimp only at h ⊢
   cases hd:(ops[j]?).bind (·.dst) with
   | none=>rw[hd] at h;exact (Tr.af h).elim
   | some d =>
     rw[hd] at h
     dsimp only at h ⊢
     have he:=eP fr d
     rw[he] at h
     cases hv:bA (strip fr) d<;>rw[hv] at h<;>try exact (Tr.af h).elim
     case bool b =>
      dsimp only at h ⊢
      cases want with
      | true =>
        rw[cond_true] at h
        obtain ⟨b',fr',h1,h2,h3⟩:=kK h
        rw[hv] at h1
        cases h1
        cases b<;>(have h3:=Tr.ab h3;rw[← h3];exact ⟨rfl,h2⟩)
      | false =>
        rw[cond_false] at h
        obtain ⟨b',fr',h1,h2,h3⟩:=kK h
        rw[hv] at h1
        cases h1
        cases b<;>(have h3:=Tr.ab h3;rw[← h3];exact ⟨rfl,h2⟩)
     case tup l=>rw[← Tr.ab h];exact ⟨rfl,rfl⟩

def ij (P:Program) (nt:Nat) (call:aA) (callR:bj) (ops:Array Oper):List Oper→aN→aa→Tr (aN×aa)
 | [],fr,H=>.ok (fr,H)
 | o::r,fr,H=>(BF ops fr o).bind fun b=>cond b.1
   ((Ly o.op o P call callR b.2 H (eZ H)).bind fun y=>ij P nt call callR ops r (pZ nt b.2 o.dst y.1) (MA y.2 H))
   (ij P nt call callR ops r (pZ nt b.2 o.dst (.tup [],none)) H)
theorem fb {P:Program} {nt:Nat} {call:aA} {callR:bj} (hC:callR.Ok call) {ops:Array Oper}:∀ (l:List Oper) (fr:aN) (H:aa) (x:aN×aa),(ij P nt call callR ops l fr H).run=some x→ef P nt call ops l (strip fr) H=some (strip x.1,x.2)
 | [],fr,H,x,h=>by rw[← Tr.ab h];rfl
 | o :: r,fr,H,x,h=>by
   simp only[ij] at h
   obtain ⟨b,h1,h⟩:=Tr.bind_some h
   unfold ef
   obtain ⟨hw,hs⟩:=yM h1
   rw[hw,← hs]
   obtain ⟨b,fr1⟩:=b
   dsimp only at h ⊢
   cases b with
   | false =>
     have:=fb hC r _ _ _ h
     rw[lO] at this
     exact this
   | true =>
     rw[cond_true] at h
     obtain ⟨y,h2,h⟩:=Tr.bind_some h
     have h2:=zJ hC h2
     rw[ga] at h2
     have:=fb hC r _ _ _ h
     rw[lO,Ei] at this
     rw[if_pos rfl]
     dsimp only
     rw[h2]
     exact this

def oA (fr:aN) (o:Oper):Touch:=jT (strip fr) o
def oU (P:Program) (call:aA) (callR:bj) (ops:Array Oper) (bef:Nat) (dJ:aN) (H:aa) (nx:Nat) (recs:List Rec) (o:Oper):Tr (sK×Option Nat×aN) :=
 (BF ops dJ o).bind fun b=>cond b.1
   (cond (eA o) ((Ly o.op o P call callR b.2 (oe (iA bef recs H)) nx).bind fun y=>.ok (⟨y.1.1,.all,none⟩,y.1.2,b.2))
     ((Ly o.op o P call callR b.2 (iA bef recs H) nx).bind fun y=>match y.2 with
       | .bk=>.ok (⟨y.1.1,oA b.2 o,none⟩,y.1.2,b.2)
       | .push q=>cond (fO o && !iG q && ob (dZ H 0 nx) && !eY H 0) (.ok (⟨y.1.1,oA b.2 o,some (0,nx,(0,q))⟩,y.1.2,b.2)) .bad
       | .set d i q=>.req (cr (iV (dZ H d i).1 q.1) (iV q.1 (Nat.succ (dZ H d i).1))) (cond (!iG q.2 && !iG (dZ (iA bef recs H) d i).2 && iJ bef d i recs) (.ok (⟨y.1.1,oA b.2 o,some (d,i,q)⟩,y.1.2,b.2)) .bad)
       | _=>.bad))
   (.ok (⟨.tup [],.none,none⟩,none,b.2))
theorem uS {P:Program} {call:aA} {callR:bj} (hC:callR.Ok call) {ops:Array Oper} {bef:Nat} {fr:aN} {H:aa} {nx:Nat} {recs:List Rec} {o:Oper} {e:sK×Option Nat×aN} (h:(oU P call callR ops bef fr H nx recs o).run=some e) :
 dY P call ops bef (strip fr) H nx recs o=some e.1∧strip e.2.2=strip fr:=by
 unfold oU at h
 unfold dY
 simp only[jJ,pW,oA,p7,gx,dN] at h
 obtain ⟨b,h1,h⟩:=Tr.bind_some h
 obtain ⟨hw,hs⟩:=yM h1
 rw[hw,← hs]
 obtain ⟨b,fr1⟩:=b
 dsimp only at h ⊢
 cases b with
 | false =>
   rw[cond_false] at h
   rw[← Tr.ab h];exact ⟨rfl,rfl⟩
 | true =>
   rw[cond_true] at h
   rw[if_pos rfl]
   dsimp only
   cases hcv:eA o with
   | true =>
     rw[hcv,cond_true] at h
     obtain ⟨y,h2,h⟩:=Tr.bind_some h
     rw[if_pos rfl,zJ hC h2,← Tr.ab h]
     exact ⟨rfl,rfl⟩
   | false =>
     rw[hcv,cond_false] at h
     obtain ⟨y,h2,h⟩:=Tr.bind_some h
     rw[if_neg (by simp),zJ hC h2]
     split at h
     · rename_i hy
       rw[hy,← Tr.ab h];exact ⟨rfl,rfl⟩
     · rename_i b hy
       obtain ⟨hc,h⟩:=Tr.aO h
       rw[hy]
       dsimp only
       rw[if_pos hc,← Tr.ab h];exact ⟨rfl,rfl⟩
     · rename_i d i b hy
       obtain ⟨hv,h⟩:=Tr.aK h
       obtain ⟨hc,h⟩:=Tr.aO h
       rw[hy]
       dsimp only
       rw[bV,kr,kr,Bool.and_eq_true,decide_eq_true_eq,decide_eq_true_eq] at hv
       have hv':(Nat.beq b.1 (ar H d i).1 || Nat.beq b.1 (Nat.succ (ar H d i).1))=true:=by
        simp only[Bool.or_eq_true,Nat.beq_eq];omega
       simp only[Bool.and_eq_true] at hc
       rw[if_pos (by simp only[Bool.and_eq_true];exact ⟨⟨⟨hc.1.1,hv'⟩,hc.1.2⟩,hc.2⟩),← Tr.ab h];exact ⟨rfl,rfl⟩
     · exact (Tr.af h).elim
def nK (P:Program) (nt:Nat) (call:aA) (callR:bj) (ops:Array Oper) (befs:Array Nat):List Oper→Nat→aN→aa→Nat→List Rec→Tr (aN×aa)
 | [],_,fr,H,_,_=>.ok (fr,H)
 | o::r,j,fr,H,nx,recs=>(oU P call callR ops (befs.getD j 0) fr H nx recs o).bind fun e =>
   nK P nt call callR ops befs r (j+1) (pZ nt e.2.2 o.dst (e.1.v,e.2.1)) (xA H e.1.wr) (if fO o then nx+1 else nx) (⟨j,e.1.rd,e.1.wr.map fun x=>(x.1,x.2.1)⟩::recs)
theorem pJ {P:Program} {nt:Nat} {call:aA} {callR:bj} (hC:callR.Ok call) {ops:Array Oper} {befs:Array Nat}:∀ (l:List Oper) (j:Nat) (fr:aN) (H:aa) (nx:Nat) (recs:List Rec) (x:aN×aa),
 (nK P nt call callR ops befs l j fr H nx recs).run=some x→eV P nt call ops befs j l (strip fr) H nx recs=some (strip x.1,x.2)
 | [],j,fr,H,nx,recs,x,h=>by rw[← Tr.ab h];rfl
 | o::r,j,fr,H,nx,recs,x,h=>by
   simp only[nK] at h
   obtain ⟨e,h1,h⟩:=Tr.bind_some h
   obtain ⟨hd,hs⟩:=uS hC h1
   unfold eV
   rw[hd,← hs]
   have:=pJ hC r _ _ _ _ _ _ h
   rw[lO,xB] at this
   exact this

def aI:Code→List (Nat×Code)
 | .block id b=>(id,b)::aI b
 | .loop b=>aI b
 | .seq a b=>aI a++aI b
 | .cond _ a b=>aI a++aI b
 | .scope b=>aI b
 | _=>[]
def aY (f:Func):Code:=match f.body with | some c=>c | none=>.skip
abbrev gK:=Ex×aN×aa
def gK.st (x:gK):Ex×au×aa:=(x.1,strip x.2.1,x.2.2)
abbrev eI:=Nat→aN→aa→Option (Tr gK)
abbrev nu:=Operand→aN→aa→Option (Tr gK)
def eI.Ok (bl:eI) (cx:Cx) (c:Code):Prop:=∀ id b,(id,b) ∈ aI c→∀ fr H t x,bl id fr H=some t→t.run=some x→exec cx (.block id b) (strip fr) H=some x.st
def dM:Code→List (Operand×Array Tmp×Code×Code)
 | .rangeFunc f ps a b=>[(f,ps,a,b)]
 | .loop b=>dM b
 | .block _ b=>dM b
 | .seq a b=>dM a++dM b
 | .cond _ a b=>dM a++dM b
 | .scope b=>dM b
 | _=>[]
def nu.Ok (rg:nu) (cx:Cx) (c:Code):Prop:=∀ f ps a b,(f,ps,a,b) ∈ dM c→∀ fr H t x,rg f fr H=some t→t.run=some x→exec cx (.rangeFunc f ps a b) (strip fr) H=some x.st
def dy (bl:eI) (id0:Nat) (dJ:au) (H0:aa) (u:Tr gK):eI:=fun id fr H=>cond (Nat.beq id id0) (some (.reqP (strip fr=dJ∧H=H0) u)) (bl id fr H)
theorem br {bl:eI} {cx:Cx} {c:Code} (h:bl.Ok cx c) {id0:Nat} {dJ:au} {H0:aa} {u:Tr gK} {B:Code} (hB:∀ b,(id0,b) ∈ aI c→b=B) (k:∀ x,u.run=some x→exec cx (.block id0 B) dJ H0=some x.st):(dy bl id0 dJ H0 u).Ok cx c:=by
 intro id b hm fr H t y ht hy
 unfold dy at ht
 cases hb:Nat.beq id id0 with
 | true =>
   have s8:=Nat.eq_of_beq_eq_true hb
   subst s8
   rw[hb,cond_true,Option.some.injEq] at ht
   subst ht
   obtain ⟨⟨h1,h2⟩,h3⟩:=Tr.fp hy
   rw[h1,h2,hB b hm]
   exact k y h3
 | false =>
   rw[hb,cond_false] at ht
   exact h id b hm fr H t y ht hy
def Hx (rg:nu) (tf:Operand→Bool) (dJ:au) (H0:aa) (u:Tr gK):nu:=fun f fr H=>cond (tf f) (some (.reqP (strip fr=dJ∧H=H0) u)) (rg f fr H)
theorem EA {rg:nu} {cx:Cx} {c:Code} (h:rg.Ok cx c) {tf:Operand→Bool} {dJ:au} {H0:aa} {u:Tr gK} (k:∀ f ps a b,tf f=true→(f,ps,a,b) ∈ dM c→∀ x,u.run=some x→exec cx (.rangeFunc f ps a b) dJ H0=some x.st):(Hx rg tf dJ H0 u).Ok cx c:=by
 intro f ps a b hm fr H t y ht hy
 unfold Hx at ht
 cases hb:tf f with
 | true =>
   rw[hb,cond_true,Option.some.injEq] at ht
   subst ht
   obtain ⟨⟨h1,h2⟩,h3⟩:=Tr.fp hy
   rw[h1,h2]
   exact k f ps a b hb hm y h3
 | false =>
   rw[hb,cond_false] at ht
   exact h f ps a b hm fr H t y ht hy
def bc:eI:=fun _ _ _=>none
def ba:nu:=fun _ _ _=>none
theorem ak (cx:Cx) (c:Code):bc.Ok cx c:=fun _ _ _ _ _ _ _ h=>by cases h
theorem al (cx:Cx) (c:Code):ba.Ok cx c:=fun _ _ _ _ _ _ _ _ _ h=>by cases h
def xf (g:AV→AV):aN→aN
 | []=>[]
 | (x,(v,h))::r=>(x,(mA g v,h))::xf g r
theorem xg (g:AV→AV):∀ fr:aN,strip (xf g fr)=po g (strip fr)
 | []=>rfl
 | (x,(v,h))::r=>by
   have e:xf g ((x,(v,h))::r)=(x,(mA g v,h))::xf g r:=rfl
   rw[e,cX,cX,po,xg g r]
def kL (n:Nat):Nat→aN→aa→aN×aa
 | 0,fr,H=>(fr,H)
 | k + 1,fr,H=>match H with
   | []=>(fr,[])
   | l::r=>cond (Nat.ble (ia l.bs) (Nat.succ n)) (fr,l::r) (match hole (strip fr) l.bs 4 n with
     | none=>(fr,l::r)
     | some h=>kL n k (xf (th (l.bs.length-1) h) fr) (je n (po (th (l.bs.length-1) h) (strip fr)) (vX (l.bs.length-1) h l::r)))
theorem sx (n:Nat):∀ (k:Nat) (fr:aN) (H:aa),(strip (kL n k fr H).1,(kL n k fr H).2)=iQ n k (strip fr) H
 | 0,fr,H=>rfl
 | k+1,fr,[]=>rfl
 | k + 1,fr,l::r=>by
   cases hb:Nat.ble (ia l.bs) (Nat.succ n) with
   | true =>
     have:kL n (k+1) fr (l::r)=(fr,l::r):=by
      unfold kL;dsimp only;rw[hb];rfl
     rw[this,sB (by rw[db] at hb;simpa using hb)]
   | false =>
     unfold kL iQ
     dsimp only
     rw[hb,cond_false]
     cases hole (strip fr) l.bs 4 n with
     | none=>rfl
     | some h =>
       dsimp only
       rw[sx n k,xg]
def BB (n:Nat) (fr:aN) (H:aa):aN×aa:=kL n 4 fr (je n (strip fr) H)
theorem EX (n:Nat) (fr:aN) (H:aa):(strip (BB n fr H).1,(BB n fr H).2)=tidy n (strip fr) H:=sx n 4 fr _
def AO (body:aN→aa→Tr gK) (n:Nat):Nat→aN→aa→Tr gK
 | 0,_,_=>.bad
 | k+1,fr,H=>(body fr H).bind fun x=>match x with
   | (.normal,fr,H)=>AO body n k (BB n fr H).1 (BB n fr H).2
   | r=>.ok r
theorem ub {body:au→aa→Option (Ex×au×aa)} {n:Nat}:∀ (k m:Nat) (fr:au) (H:aa) (x:Ex×au×aa),iter body n k fr H=some x→k≤m→iter body n m fr H=some x
 | 0,m,fr,H,x,h,_=>by simp[iter] at h
 | k+1,0,fr,H,x,h,hk=>by omega
 | k + 1,m+1,fr,H,x,h,hk=>by
   unfold iter at h ⊢
   cases hb:body fr H with
   | none=>rw[hb] at h;simp at h
   | some y =>
     rw[hb] at h
     obtain ⟨e,f,g⟩:=y
     cases e
     case normal=>exact ub k m _ _ _ h (by omega)
     all_goals exact h
theorem wU {body:aN→aa→Tr gK} {body':au→aa→Option (Ex×au×aa)} {n:Nat} (hb:∀ fr H x,(body fr H).run=some x→body' (strip fr) H=some x.st):∀ (k:Nat) (fr:aN) (H:aa) (x:gK),(AO body n k fr H).run=some x→iter body' n k (strip fr) H=some x.st
 | 0,fr,H,x,h=>(Tr.af h).elim
 | k+1,fr,H,x,h=>by
   simp only[AO] at h
   obtain ⟨y,h1,h⟩:=Tr.bind_some h
   unfold iter
   rw[hb _ _ _ h1]
   obtain ⟨e,f,g⟩:=y
   cases e
   case normal =>
    have e:=EX n f g
    have h:=wU hb k _ _ _ h
    show iter body' n k (tidy n (strip f) g).1 (tidy n (strip f) g).2=_
    rw[← e];exact h
   all_goals
    have h:=Tr.ab h
    rw[← h];rfl
def mZ (f:AV→Tr AV):List AV→Tr (List AV)
 | []=>.ok []
 | v::l=>(f v).bind fun u=>(mZ f l).bind fun m=>.ok (u::m)
theorem eC {f:AV→Tr AV} {g:AV→AV} (hf:∀ v u,(f v).run=some u→g v=u):∀ (l m:List AV),(mZ f l).run=some m→l.map g=m
 | [],m,h=>Tr.ab h
 | v::l,m,h=>by
   simp only[mZ] at h
   obtain ⟨u,h1,h⟩:=Tr.bind_some h
   obtain ⟨n,h2,h⟩:=Tr.bind_some h
   rw[← Tr.ab h,List.map_cons,hf _ _ h1,eC hf l n h2]
def lH (f:AV→Tr AV):List aq→Tr (List aq)
 | []=>.ok []
 | .one v::l=>(f v).bind fun u=>(lH f l).bind fun m=>.ok (.one u::m)
 | .arr k z n::l=>(lH f l).bind fun m=>.ok (.arr k z n::m)
theorem gz {f:AV→Tr AV} {g:AV→AV} (hf:∀ v u,(f v).run=some u→g v=u):∀ (l m:List aq),(lH f l).run=some m→mapM' g l=m
 | [],m,h=>Tr.ab h
 | .one v::l,m,h=>by
   simp only[lH] at h
   obtain ⟨u,h1,h⟩:=Tr.bind_some h
   obtain ⟨n,h2,h⟩:=Tr.bind_some h
   rw[← Tr.ab h,mapM',hf _ _ h1,gz hf l n h2]
 | .arr k z n::l,m,h=>by
   simp only[lH] at h
   obtain ⟨n,h2,h⟩:=Tr.bind_some h
   rw[← Tr.ab h,mapM',gz hf l n h2]
def pH (cap:Option Nat) (len:Nat):Bool :=
 match cap with
 | none=>false
 | some c=>eO c len
theorem jD (cap:Option Nat) (len:Nat):pH cap len=(cap == some len):=by
 cases cap with
 | none=>rfl
 | some c=>simp only[pH,fC];rw[Bool.eq_iff_iff];simp
def wQ (i ver:Nat) (r:Row):AV→Tr AV
 | .ptr d j v off=>cond (Nat.beq d 0 && Nat.beq j i) (.req (eO v ver) (.ok (.ptrT none r off))) (.ok (.ptr d j v off))
 | .slc d j v off sz len cap=>cond (Nat.beq d 0 && Nat.beq j i) (.req (eO v ver) (match r with
    | .M [.arr k z N]=>.req (mS off (fw len sz) 0 N) (.ok (.slcT none (.M [.arr k (xU z off) (fw len sz)]) sz len (pH cap len)))
    | .I k l=>cond (s4 (.I k l) off (Nat.mul len sz)) (.ok (.slcT none (.I k (gU (kR l off) (Nat.mul len sz))) sz len (pH cap len))) .bad
    | _=>.bad)) (.ok (.slc d j v off sz len cap))
 | v=>.ok v
theorem tA {d j i:Nat} {x:Bool} (h:(Nat.beq d 0 && Nat.beq j i)=true):(Nat.beq d 0 && (Nat.beq j i && x))=x:=by
 rw[Bool.and_eq_true] at h
 rw[h.1,h.2];rfl
theorem tC {d j i:Nat} {x:Bool} (h:(Nat.beq d 0 && Nat.beq j i)=false):(Nat.beq d 0 && (Nat.beq j i && x))=false:=by
 rw[← Bool.and_assoc,h];rfl
theorem wR {i ver:Nat} {r:Row}:∀ v u,(wQ i ver r v).run=some u→mz i ver r v=u:=by
 intro v u h
 cases v with
 | ptr d j v off =>
   simp only[wQ] at h
   simp only[mz]
   cases hc:(Nat.beq d 0 && Nat.beq j i) with
   | false=>rw[hc,cond_false] at h;rw[tC hc,if_neg (by simp)];exact Tr.ab h
   | true =>
     rw[hc,cond_true] at h
     obtain ⟨h1,h⟩:=Tr.aK h
     rw[fC,decide_eq_true_eq] at h1
     rw[tA hc,if_pos (by simpa using h1)];exact Tr.ab h
 | slc d j v off sz len cap =>
   simp only[wQ] at h
   simp only[mz]
   cases hc:(Nat.beq d 0 && Nat.beq j i) with
   | false=>rw[hc,cond_false] at h;rw[tC hc,if_neg (by simp)];exact Tr.ab h
   | true =>
     rw[hc,cond_true] at h
     obtain ⟨h1,h2⟩:=Tr.aK h
     clear h
     rw[fC,decide_eq_true_eq] at h1
     rw[tA hc]
     split at h2
     · obtain ⟨h3,h⟩:=Tr.aK h2
       rw[jo,decide_eq_true_eq,ct] at h3
       rw[if_pos (by simp[h1,Row.len,av,aH];omega),← Tr.ab h,jD,ct,lU]
       rfl
     · obtain ⟨h3,h⟩:=Tr.aO h2
       rw[kg,decide_eq_true_eq] at h3
       rw[if_pos (by simp only[h1,Bool.and_eq_true];exact ⟨by simp,Nat.ble_eq_true_of_le h3⟩),← Tr.ab h,jD,fS,gw]
       rfl
     · exact (Tr.af h2).elim
 | _=>exact Tr.ab h
def xh (f:AV→Tr AV) (v:AV):Tr AV :=
 match v with
 | .agg (.G l)=>(mZ f l).bind fun m=>.ok (.agg (.G m))
 | .agg (.M l)=>(lH f l).bind fun m=>.ok (.agg (.M m))
 | .fn g a b=>(mZ f a).bind fun a'=>(mZ f b).bind fun b'=>.ok (.fn g a' b')
 | v=>f v
theorem rQ {f:AV→Tr AV} {g:AV→AV} (hf:∀ v u,(f v).run=some u→g v=u):∀ v u,(xh f v).run=some u→mA g v=u:=by
 intro v u h
 unfold xh at h
 split at h
 · obtain ⟨m,h1,h⟩:=Tr.bind_some h
   rw[← Tr.ab h,← eC hf _ _ h1];rfl
 · obtain ⟨m,h1,h⟩:=Tr.bind_some h
   rw[← Tr.ab h,← gz hf _ _ h1];rfl
 · obtain ⟨a',h1,h⟩:=Tr.bind_some h
   obtain ⟨b',h2,h⟩:=Tr.bind_some h
   rw[← Tr.ab h,← eC hf _ _ h1,← eC hf _ _ h2];rfl
 · rename_i n1 n2 n3
   have:=hf _ _ h
   rw[← this]
   unfold mA
   split
   · exact absurd rfl (n1 _)
   · exact absurd rfl (n2 _)
   · exact absurd rfl (n3 _ _ _)
   · rfl
def D0 (f:AV→Tr AV):az→Tr az
 | .row r=>match r with
   | .G l=>(mZ (xh f) l).bind fun m=>.ok (.row (.G m))
   | .M l=>(lH (xh f) l).bind fun m=>.ok (.row (.M m))
   | r=>.ok (.row r)
 | b=>.ok b
theorem D1 {f:AV→Tr AV} {g:AV→AV} (hf:∀ v u,(f v).run=some u→g v=u) (b u:az) (h:(D0 f b).run=some u):pn g b=u:=by
 cases b with
 | row r =>
   simp only[D0] at h
   cases r with
   | G l =>
     obtain ⟨m,h1,h⟩:=Tr.bind_some h
     rw[← Tr.ab h,← eC (rQ hf) _ _ h1];rfl
   | M l =>
     obtain ⟨m,h1,h⟩:=Tr.bind_some h
     rw[← Tr.ab h,← gz (rQ hf) _ _ h1];rfl
   | I k l=>rw[← Tr.ab h];rfl
   | F z n=>rw[← Tr.ab h];rfl
 | dead=>exact Tr.ab h
 | map es=>exact Tr.ab h
 | fmap kq f g c=>exact Tr.ab h
 | loop l=>exact Tr.ab h
def vo (f:AV→Tr AV):List (Nat×az)→Tr (List (Nat×az))
 | []=>.ok []
 | (v,b)::r=>(D0 f b).bind fun b'=>(vo f r).bind fun r'=>.ok ((v,b')::r')
theorem uf {f:AV→Tr AV} {g:AV→AV} (hf:∀ v u,(f v).run=some u→g v=u):∀ (l m:List (Nat×az)),(vo f l).run=some m→jg g l=m
 | [],m,h=>Tr.ab h
 | (v,b)::r,m,h=>by
   simp only[vo] at h
   obtain ⟨b',h1,h⟩:=Tr.bind_some h
   obtain ⟨r',h2,h⟩:=Tr.bind_some h
   rw[← Tr.ab h,jg,D1 hf _ _ h1,uf hf r r' h2]
def AW (f:AV→Tr AV):aN→Tr aN
 | []=>.ok []
 | (x,(v,h))::r=>(xh f v).bind fun v'=>(AW f r).bind fun r'=>.ok ((x,(v',h))::r')
theorem xe {f:AV→Tr AV} {g:AV→AV} (hf:∀ v u,(f v).run=some u→g v=u):∀ (l m:aN),(AW f l).run=some m→po g (strip l)=strip m
 | [],m,h=>by rw[← Tr.ab h];rfl
 | (x,(v,hh))::r,m,h=>by
   simp only[AW] at h
   obtain ⟨v',h1,h⟩:=Tr.bind_some h
   obtain ⟨r',h2,h⟩:=Tr.bind_some h
   rw[← Tr.ab h,cX,cX,po,rQ hf _ _ h1,xe hf r r' h2]
def rG (i:Nat) (fr:aN) (l:bH):Tr (aN×bH) :=
 match zF l.bs i with
 | (ver,.row r)=>cond (vj r && (sS (fun x=>oQ (oE i) x.2) (strip fr) || sS (fun x=>JL (oE i) x.2) l.bs)) ((AW (wQ i ver r) fr).bind fun fr'=>(vo (wQ i ver r) l.bs).bind fun bs'=>.ok (fr',{ l with bs:=bB bs' i (ver,.dead) })) (.ok (fr,l))
 | _=>.ok (fr,l)
theorem o8 {i:Nat} {fr:aN} {l:bH} {y:aN×bH} (h:(rG i fr l).run=some y):lx i (strip fr) l=(strip y.1,y.2):=by
 unfold rG at h
 unfold lx
 rw[qy] at h
 split at h
 · rename_i ver r hb
   rw[hb]
   dsimp only
   rw[nz,nz] at h
   cases hc:(vj r && ((strip fr).any (fun x=>oQ (oE i) x.2) || l.bs.any (fun x=>JL (oE i) x.2))) with
   | true =>
     rw[hc,cond_true] at h
     obtain ⟨fr',h1,h⟩:=Tr.bind_some h
     obtain ⟨bs',h2,h⟩:=Tr.bind_some h
     rw[if_pos rfl,xe wR _ _ h1,uf wR _ _ h2,← Tr.ab h]
   | false =>
     rw[hc,cond_false] at h
     rw[if_neg (by simp),← Tr.ab h]
 · rename_i hno
   have h:=Tr.ab h
   subst h
   split
   · rename_i ver r hb
     exact absurd hb (hno ver r)
   · rfl
def qt:Nat→aN→bH→Tr (aN×bH)
 | 0,fr,l=>.ok (fr,l)
 | n+1,fr,l=>(qt n fr l).bind fun y=>rG n y.1 y.2
theorem rE:∀ (n:Nat) (fr:aN) (l:bH) (y:aN×bH),(qt n fr l).run=some y→iF n (strip fr) l=(strip y.1,y.2)
 | 0,fr,l,y,h=>by rw[← Tr.ab h];rfl
 | n+1,fr,l,y,h=>by
   simp only[qt] at h
   obtain ⟨z,h1,h⟩:=Tr.bind_some h
   have h1:=rE n fr l z h1
   simp only[iF]
   rw[h1]
   exact o8 h
def oa:Nat→aN→bH→Tr (aN×bH)
 | 0,fr,l=>.ok (fr,l)
 | n+1,fr,l=>(oa n fr l).bind fun y=>cond (sS (fun x=>oQ (oE n) x.2) (strip y.1)) (.ok y) (rG n y.1 y.2)
theorem pR:∀ (n:Nat) (fr:aN) (l:bH) (y:aN×bH),(oa n fr l).run=some y→dR n (strip fr) l=(strip y.1,y.2)
 | 0,fr,l,y,h=>by rw[← Tr.ab h];rfl
 | n + 1,fr,l,y,h=>by
   simp only[oa] at h
   obtain ⟨z,h1,h⟩:=Tr.bind_some h
   have h1:=pR n fr l z h1
   simp only[dR]
   rw[h1]
   dsimp only
   rw[nz] at h
   cases hc:(strip z.1).any (fun x=>oQ (oE n) x.2) with
   | true =>
     rw[hc,cond_true] at h
     rw[if_pos rfl,Tr.ab h]
   | false =>
     rw[hc,cond_false] at h
     rw[if_neg (by simp)]
     exact o8 h
def AR (s:Nat):aN→Option Nat
 | []=>none
 | (x,(v,_))::r=>cond (Nat.beq x s) (match v with
   | .slc 0 i _ _ _ _ _=>some i
   | _=>none) (AR s r)
theorem w6 (s:Nat):∀ fr:aN,AR s fr=AQ s (strip fr)
 | []=>rfl
 | (x,(v,h))::r=>by
   rw[cX]
   simp only[AR,AQ,w6 s r]
   cases Nat.beq x s<;>rfl
def vi (s:Nat) (fr:aN) (H:aa):Tr (aN×aa) :=
 match H with
 | []=>.ok (fr,[])
 | l::r=>cond l.lock (.ok (fr,l::r)) (match AR s fr with
   | some i=>(rG i fr l).bind fun y=>.ok (y.1,y.2::r)
   | none=>.ok (fr,l::r))
theorem zn {s:Nat} {fr:aN} {H:aa} {y:aN×aa} (h:(vi s fr H).run=some y):vh s (strip fr) H=(strip y.1,y.2):=by
 unfold vi at h
 unfold vh
 cases H with
 | nil=>rw[← Tr.ab h]
 | cons l r =>
   dsimp only at h ⊢
   cases hl:l.lock with
   | true =>
     rw[hl,cond_true] at h
     rw[if_pos rfl,← Tr.ab h]
   | false =>
     rw[hl,cond_false,w6] at h
     rw[if_neg (by simp)]
     split at h
     · rename_i i hi
       obtain ⟨z,h1,h⟩:=Tr.bind_some h
       have h1:=o8 h1
       rw[hi]
       dsimp only
       rw[h1,← Tr.ab h]
     · rename_i hi
       rw[hi,← Tr.ab h]
def zm (m:Nat) (fr:aN) (H:aa):Tr (aN×aa) :=
 cond (m5 m 4000) (match H with
  | []=>.ok (fZ fr m,[])
  | l::r=>cond l.lock (.ok (fZ fr m,l::r)) ((qt (ia l.bs) (fZ fr m) l).bind fun y=>.ok (y.1,cond (Nat.beq (Nat.shiftRight m 4003) 0) (y.2::r) (D9 (Nat.shiftRight m 4003) (y.2::r))))) (cond (m5 m 4001) (vi (Nat.shiftRight m 4003) (fZ fr m) H) (cond (m5 m 4002) (uE (fZ fr m) (Nat.shiftRight m 4003) (fun fr=>.ok (fr,H)) (fun fr=>match H with
  | []=>.ok (fr,[])
  | l::r=>cond l.lock (.ok (fr,l::r)) ((oa (ia l.bs) fr l).bind fun y=>.ok (y.1,y.2::r)))) (.ok (fZ fr m,H))))
theorem B8 {m:Nat} {fr:aN} {H:aa} {y:aN×aa} (h:(zm m fr H).run=some y):ly m (strip fr) H=(strip y.1,y.2):=by
 unfold zm at h
 unfold ly
 cases hm:m5 m 4000 with
 | false =>
   rw[hm,cond_false] at h
   rw[if_neg (by simp)]
   cases hm2:m5 m 4001 with
   | false =>
     rw[hm2,cond_false] at h
     rw[if_neg (by simp)]
     cases hm3:m5 m 4002 with
     | false =>
       rw[hm3,cond_false] at h
       rw[if_neg (by simp),← Tr.ab h,ey]
     | true =>
       rw[hm3,cond_true] at h
       rw[if_pos rfl]
       obtain ⟨b,fr',h1,h2,h3⟩:=kK h
       rw[ey] at h1 h2
       rw[h1]
       cases b with
       | true =>
         simp only[if_true] at h3
         rw[← Tr.ab h3,h2]
       | false =>
         simp only[Bool.false_eq_true,if_false] at h3
         cases H with
         | nil =>
           dsimp only at h3
           rw[← Tr.ab h3,← h2];rfl
         | cons l r =>
           dsimp only at h3
           show s9 (bJ (strip fr) m) (l::r)=_
           rw[← h2]
           unfold s9
           dsimp only
           cases hl:l.lock with
           | true =>
             rw[hl,cond_true] at h3
             rw[if_pos rfl,← Tr.ab h3]
           | false =>
             rw[hl,cond_false] at h3
             obtain ⟨z,h4,h5⟩:=Tr.bind_some h3
             have h4:=pR _ _ _ _ h4
             rw[db] at h4
             rw[if_neg (by simp),h4,← Tr.ab h5]
   | true =>
     rw[hm2,cond_true] at h
     rw[if_pos rfl]
     have h1:=zn h
     rw[ey] at h1
     exact h1
 | true =>
   rw[hm,cond_true] at h
   rw[if_pos rfl]
   cases H with
   | nil =>
     rw[← Tr.ab h,ey]
     simp only[B7,D9,ite_self]
   | cons l r =>
     dsimp only at h
     unfold B7
     dsimp only
     cases hl:l.lock with
     | true =>
       rw[hl,cond_true] at h
       simp only[if_true]
       rw[← Tr.ab h,ey]
       simp only[D9,hl,if_true,ite_self]
     | false =>
       rw[hl,cond_false] at h
       obtain ⟨z,h1,h⟩:=Tr.bind_some h
       have h1:=rE _ _ _ _ h1
       rw[db,ey] at h1
       simp only[Bool.false_eq_true,if_false,h1]
       rw[← Tr.ab h]
       cases Nat.beq (Nat.shiftRight m 4003) 0<;>rfl
def aT (cx:Cx) (callR:bj) (bl:eI) (rg:nu):Code→aN→aa→Tr gK
 | .skip,fr,H=>.ok (.normal,fr,H)
 | .label _,fr,H=>.ok (.normal,fr,H)
 | .exit id,fr,H=>.ok (.exit id,fr,H)
 | .goto l,fr,H=>.ok (.goto l,fr,H)
 | .ret,fr,H=>.ok (.ret,fr,H)
 | .region id ops draw,fr,H =>
   (cond draw (cond (eH ops (Region.before ops)) (nK cx.P cx.nt cx.call callR ops (Region.before ops) ops.toList 0 fr (lq H (cj ops.toList)) (eZ H) []) .bad) (ij cx.P cx.nt cx.call callR ops ops.toList fr H)).bind fun x=>(zm (cx.kt id) x.1 x.2).bind fun y=>.ok (.normal,y.1,y.2)
 | .seq a b,fr,H=>(aT cx callR bl rg a fr H).bind fun x=>match x with
   | (.normal,fr,H)=>aT cx callR bl rg b fr H
   | r=>.ok r
 | .cond c a b,fr,H=>match c with
   | .tmp d=>uE fr d (fun fr=>aT cx callR bl rg a fr H) (fun fr=>aT cx callR bl rg b fr H)
   | c=>match (bR fr c).1 with
     | .bool t=>cond t (aT cx callR bl rg a fr H) (aT cx callR bl rg b fr H)
     | _=>.bad
 | .block id b,fr,H=>match bl id fr H with
   | some t=>t
   | none=>(aT cx callR bl rg b fr H).bind fun x=>match x with
     | (.exit id',fr,H)=>cond (Nat.beq id' id) (.ok (.normal,fr,H)) (.ok (.exit id',fr,H))
     | r=>.ok r
 | .scope b,fr,H=>(aT cx callR bl rg b fr H).bind fun x=>match x with
   | (.goto _,_,_)=>.bad
   | r=>.ok r
 | .rangeFunc f _ _ _,fr,H=>match rg f fr H with
   | some t=>t
   | none=>.bad
 | .loop b,fr,H=>cond (Nat.ble 12 cx.fu) (AO (aT cx callR bl rg b) (eZ H) 12 fr H) .bad
 | .refuse _,_,_=>.bad

theorem fD {cx:Cx} {callR:bj} {bl:eI} {rg:nu} (hC:callR.Ok cx.call):∀ (c:Code),bl.Ok cx c→rg.Ok cx c→∀ (fr:aN) (H:aa) (x:gK),(aT cx callR bl rg c fr H).run=some x→exec cx c (strip fr) H=some x.st:=by
 intro c
 induction c with
 | skip=>intro _ _ fr H x h;rw[← Tr.ab h];rfl
 | label=>intro _ _ fr H x h;rw[← Tr.ab h];rfl
 | exit=>intro _ _ fr H x h;rw[← Tr.ab h];rfl
 | goto=>intro _ _ fr H x h;rw[← Tr.ab h];rfl
 | ret=>intro _ _ fr H x h;rw[← Tr.ab h];rfl
 | refuse=>intro _ _ fr H x h;exact (Tr.af h).elim
 | loop b ih =>
   intro hb hr fr H x h
   simp only[aT] at h
   obtain ⟨hk,h⟩:=Tr.aO h
   rw[Nat.ble_eq] at hk
   unfold exec
   rw[ga] at h
   exact ub _ _ _ _ _ (wU (fun fr H x h=>ih hb hr fr H x h) 12 fr H x h) hk
 | rangeFunc f ps a b =>
   intro _ hr fr H x h
   simp only[aT] at h
   split at h
   · rename_i t ht
     exact hr f ps a b (by simp[dM]) fr H t x ht h
   · exact (Tr.af h).elim
 | region id ops draw =>
   intro _ _ fr H x h
   simp only[aT] at h
   obtain ⟨y,h1,h⟩:=Tr.bind_some h
   obtain ⟨z,h2,h⟩:=Tr.bind_some h
   have h2:=B8 h2
   rw[← Tr.ab h]
   unfold exec
   cases draw with
   | true =>
     rw[cond_true] at h1
     obtain ⟨hs,h1⟩:=Tr.aO h1
     rw[ga] at h1
     simp only[if_true,hs]
     rw[pJ hC _ _ _ _ _ _ _ h1]
     dsimp only
     rw[h2]
     rfl
   | false =>
     rw[cond_false] at h1
     simp only[Bool.false_eq_true,if_false]
     rw[fb hC _ _ _ _ h1]
     dsimp only
     rw[h2]
     rfl
 | seq a b iha ihb =>
   intro hb hr fr H x h
   have hba:bl.Ok cx a:=fun id b' hm=>hb id b' (List.mem_append_left _ hm)
   have hbb:bl.Ok cx b:=fun id b' hm=>hb id b' (List.mem_append_right _ hm)
   have hra:rg.Ok cx a:=fun f ps u v hm=>hr f ps u v (List.mem_append_left _ hm)
   have hrb:rg.Ok cx b:=fun f ps u v hm=>hr f ps u v (List.mem_append_right _ hm)
   simp only[aT] at h
   obtain ⟨y,h1,h⟩:=Tr.bind_some h
   have h1:=iha hba hra _ _ _ h1
   unfold exec
   rw[h1]
   obtain ⟨e,fr1,H1⟩:=y
   cases e
   case normal=>exact ihb hbb hrb _ _ _ h
   all_goals
    have h:=Tr.ab h
    rw[← h];rfl
 | cond c a b iha ihb =>
   intro hb hr fr H x h
   have hba:bl.Ok cx a:=fun id b' hm=>hb id b' (List.mem_append_left _ hm)
   have hbb:bl.Ok cx b:=fun id b' hm=>hb id b' (List.mem_append_right _ hm)
   have hra:rg.Ok cx a:=fun f ps u v hm=>hr f ps u v (List.mem_append_left _ hm)
   have hrb:rg.Ok cx b:=fun f ps u v hm=>hr f ps u v (List.mem_append_right _ hm)
   simp only[aT] at h
   unfold exec
   split at h
   · rename_i d
     obtain ⟨b',fr',h1,h2,h3⟩:=kK h
     have e:bD (strip fr) (.tmp d)=.bool b':=h1
     rw[e,← h2]
     cases b' with
     | true=>exact iha hba hra _ _ _ h3
     | false=>exact ihb hbb hrb _ _ _ h3
   · rename_i c' hne
     rw[aU] at h
     split at h
     · rename_i t hc
       rw[hc]
       cases t with
       | true=>exact iha hba hra _ _ _ h
       | false=>exact ihb hbb hrb _ _ _ h
     · exact (Tr.af h).elim
 | block id b ih =>
   intro hb hr fr H x h
   have hbb:bl.Ok cx b:=fun id' b' hm=>hb id' b' (by simp only[aI];exact List.mem_cons_of_mem _ hm)
   simp only[aT] at h
   split at h
   · rename_i t ht
     exact hb id b (by simp[aI]) _ _ _ _ ht h
   · obtain ⟨y,h1,h⟩:=Tr.bind_some h
     have h1:=ih hbb hr _ _ _ h1
     unfold exec
     rw[h1]
     obtain ⟨e,fr1,H1⟩:=y
     cases e
     case exit id' =>
      dsimp only[gK.st] at h ⊢
      rw[fB] at h
      split at h
      · rename_i s8
        rw[if_pos s8,← Tr.ab h]
      · rename_i s8
        rw[if_neg s8,← Tr.ab h]
     all_goals
      have h:=Tr.ab h
      rw[← h];rfl
 | scope b ih =>
   intro hb hr fr H x h
   simp only[aT] at h
   obtain ⟨y,h1,h⟩:=Tr.bind_some h
   have h1:=ih hb hr _ _ _ h1
   unfold exec
   rw[h1]
   obtain ⟨e,fr1,H1⟩:=y
   cases e
   case goto=>exact (Tr.af h).elim
   all_goals
    have h:=Tr.ab h
    rw[← h];rfl

end
end Go.Eng
end
section
namespace Go.Eng
noncomputable section

def my   (bs:List (Nat×az)):Nat→AV→Tr AV
 | 0,_=>.ok .undef
 | n + 1,v=>match v with
   | .ptr d i ver off=>match d with
     | d+1=>.ok (.ptr d i ver off)
     | 0 => match zF bs i with
       | (w,.row r)=>cond (Nat.beq w ver) (match r with
         | .I k l=>.ok (.ptrT none (.I k l) off)
         | .F f m=>.ok (.ptrT none (.F f m) off)
         | .M l=>cond (fA l) (.ok (.ptrT none (.M l) off)) ((lH (my bs n) l).bind fun m=>.ok (.ptrT (some 0) (.M m) off))
         | .G l=>(mZ (my bs n) l).bind fun m=>.ok (.ptrT (some 0) (.G m) off)) .bad
       | _=>.bad
   | .slc d i ver off sz len cap=>match d with
     | d+1=>.ok (.slc d i ver off sz len cap)
     | 0 => match zF bs i with
       | (w,.row r)=>.req (eO w ver) (match r with
         | .M [.arr k z N]=>.req (mS off (fw len sz) 0 N) (.ok (.slcT none (.M [.arr k (xU z off) (fw len sz)]) sz len (pH cap len)))
         | .I k l=>cond (s4 (.I k l) off (Nat.mul len sz)) (.ok (.slcT none (.I k (gU (kR l off) (Nat.mul len sz))) sz len (pH cap len))) .bad
         | .F f N=>.req (mS off (fw len sz) 0 N) (.ok (.slcT none (.F (fun j=>f (aF off j)) (fw len sz)) sz len (pH cap len)))
         | .G l=>cond (s4 (.G l) off (Nat.mul len sz)) ((mZ (my bs n) (gU (kR l off) (Nat.mul len sz))).bind fun m=>.ok (.slcT (some 0) (.G m) sz len (pH cap len))) .bad
         | _=>.bad)
       | _=>.bad
   | .ptrT s r off=>match s with
     | none=>.ok (.ptrT none r off)
     | some (s+1)=>.ok (.ptrT (some s) r off)
     | some 0=>match r with
       | .G l=>(mZ (my bs n) l).bind fun m=>.ok (.ptrT (some 0) (.G m) off)
       | .M l=>cond (fA l) (.ok (.ptrT none (.M l) off)) ((lH (my bs n) l).bind fun m=>.ok (.ptrT (some 0) (.M m) off))
       | r=>.ok (.ptrT none r off)
   | .slcT s r sz len full=>match s with
     | none=>.ok (.slcT none r sz len full)
     | some (s+1)=>.ok (.slcT (some s) r sz len full)
     | some 0=>match r with
       | .G l=>(mZ (my bs n) l).bind fun m=>.ok (.slcT (some 0) (.G m) sz len full)
       | .M l=>cond (fA l) (.ok (.slcT none (.M l) sz len full)) ((lH (my bs n) l).bind fun m=>.ok (.slcT (some 0) (.M m) sz len full))
       | r=>.ok (.slcT none r sz len full)
   | .map d i=>match d with
     | d+1=>.ok (.map d i)
     | 0=>.ok .undef
   | .yld d i=>match d with
     | d+1=>.ok (.yld d i)
     | 0=>.ok .undef
   | .fn f a b=>(mZ (my bs n) a).bind fun a'=>(mZ (my bs n) b).bind fun b'=>.ok (.fn f a' b')
   | .agg r=>match r with
     | .G l=>(mZ (my bs n) l).bind fun m=>.ok (.agg (.G m))
     | .M l=>(lH (my bs n) l).bind fun m=>.ok (.agg (.M m))
     | r=>.ok (.agg r)
   | .tup l=>(mZ (my bs n) l).bind fun m=>.ok (.tup m)
   | v=>.ok v
theorem AF (bs:List (Nat×az)):∀ (n:Nat) (v u:AV),(my bs n v).run=some u→c8 bs n v=u
 | 0,v,u,h=>Tr.ab h
 | n + 1,v,  u,h=>by
   have ih:=AF bs n
   simp only[my,qy] at h
   cases v with
   | ptr d i ver off =>
     cases d with
     | succ d=>exact Tr.ab h
     | zero =>
       dsimp only at h
       simp only[c8]
       split at h
       · rename_i w r hg
         obtain ⟨hw,h⟩:=Tr.aO h
         rw[hg]
         dsimp only
         rw[if_pos hw]
         cases r with
         | I k l=>exact Tr.ab h
         | F f m=>exact Tr.ab h
         | G l =>
           obtain ⟨m,h1,h⟩:=Tr.bind_some h
           rw[← Tr.ab h,← eC ih _ _ h1]
         | M l =>
           dsimp only at h ⊢
           cases ha:fA l with
           | true=>rw[ha,cond_true] at h;rw[if_pos rfl];exact Tr.ab h
           | false =>
             rw[ha,cond_false] at h
             obtain ⟨m,h1,h⟩:=Tr.bind_some h
             rw[if_neg (by simp),← Tr.ab h,← gz ih _ _ h1]
       · exact (Tr.af h).elim
   | slc d i ver off sz len cap =>
     cases d with
     | succ d=>exact Tr.ab h
     | zero =>
       dsimp only at h
       simp only[c8]
       split at h
       · rename_i w r hg
         obtain ⟨hw,h'⟩:=Tr.aK h
         clear h
         rw[fC,decide_eq_true_eq] at hw
         subst hw
         rw[hg]
         dsimp only
         split at h'
         · rename_i k z N
           have h:=h'
           obtain ⟨hc,h⟩:=Tr.aK h
           rw[jo,decide_eq_true_eq,ct] at hc
           rw[if_pos ⟨by simp,by simp only[Row.len,av,aH];omega⟩,← Tr.ab h,jD,ct,lU]
           simp only[Row.sub,fA,if_true]
         · have h:=h'
           obtain ⟨hc,h⟩:=Tr.aO h
           rw[kg,decide_eq_true_eq] at hc
           rw[if_pos ⟨by simp,hc⟩,← Tr.ab h,jD,fS,gw]
           rfl
         · have h:=h'
           obtain ⟨hc,h⟩:=Tr.aK h
           rw[jo,decide_eq_true_eq,ct] at hc
           rw[if_pos ⟨by simp,by simp only[Row.len];omega⟩,← Tr.ab h,jD,ct]
           simp only[Row.sub,a6]
         · have h:=h'
           obtain ⟨hc,h⟩:=Tr.aO h
           rw[kg,decide_eq_true_eq] at hc
           obtain ⟨m,h1,h⟩:=Tr.bind_some h
           rw[fS,gw] at h1
           rw[if_pos ⟨by simp,hc⟩,← Tr.ab h,jD,← eC ih _ _ h1]
           rfl
         · exact (Tr.af h').elim
       · exact (Tr.af h).elim
   | ptrT s r off =>
     cases s with
     | none=>exact Tr.ab h
     | some s =>
       cases s with
       | succ s=>exact Tr.ab h
       | zero =>
         simp only[c8]
         cases r with
         | I k l=>exact Tr.ab h
         | F f m=>exact Tr.ab h
         | G l =>
           obtain ⟨m,h1,h⟩:=Tr.bind_some h
           rw[← Tr.ab h,← eC ih _ _ h1]
         | M l =>
           dsimp only at h ⊢
           cases ha:fA l with
           | true=>rw[ha,cond_true] at h;rw[if_pos rfl];exact Tr.ab h
           | false =>
             rw[ha,cond_false] at h
             obtain ⟨m,h1,h⟩:=Tr.bind_some h
             rw[if_neg (by simp),← Tr.ab h,← gz ih _ _ h1]
   | slcT s r sz len full =>
     cases s with
     | none=>exact Tr.ab h
     | some s =>
       cases s with
       | succ s=>exact Tr.ab h
       | zero =>
         simp only[c8]
         cases r with
         | I k l=>exact Tr.ab h
         | F f m=>exact Tr.ab h
         | G l =>
           obtain ⟨m,h1,h⟩:=Tr.bind_some h
           rw[← Tr.ab h,← eC ih _ _ h1]
         | M l =>
           dsimp only at h ⊢
           cases ha:fA l with
           | true=>rw[ha,cond_true] at h;rw[if_pos rfl];exact Tr.ab h
           | false =>
             rw[ha,cond_false] at h
             obtain ⟨m,h1,h⟩:=Tr.bind_some h
             rw[if_neg (by simp),← Tr.ab h,← gz ih _ _ h1]
   | map d i=>cases d<;>exact Tr.ab h
   | yld d i=>cases d<;>exact Tr.ab h
   | fn f a b =>
     obtain ⟨a',h1,h⟩:=Tr.bind_some h
     obtain ⟨b',h2,h⟩:=Tr.bind_some h
     simp only[c8]
     rw[← Tr.ab h,← eC ih _ _ h1,← eC ih _ _ h2]
   | agg r =>
     simp only[c8]
     cases r with
     | I k l=>exact Tr.ab h
     | F f m=>exact Tr.ab h
     | G l =>
       obtain ⟨m,h1,h⟩:=Tr.bind_some h
       rw[← Tr.ab h,← eC ih _ _ h1]
     | M l =>
       obtain ⟨m,h1,h⟩:=Tr.bind_some h
       rw[← Tr.ab h,← gz ih _ _ h1]
   | tup l =>
     obtain ⟨m,h1,h⟩:=Tr.bind_some h
     simp only[c8]
     rw[← Tr.ab h,← eC ih _ _ h1]
   | _=>exact Tr.ab h

def Fv (l:List HV):Nat→aN:=List.rec (motive:=fun _=>Nat→aN) (fun _=>[]) (fun v _ ih x=>(x,(kO 1 v.1,v.2))::ih (Nat.succ x)) l
theorem uL:∀ (l:List HV) (x:Nat),strip (Fv l x)=dC x (jZ l)
 | [],x=>rfl
 | v::l,x=>by
   have e:Fv (v::l) x=(x,(kO 1 v.1,v.2))::Fv l (x+1):=rfl
   rw[e,cX,uL l];rfl
def hints (f:au):aN:=List.rec (motive:=fun _=>aN) [] (fun p _ ih=>(p.1,(p.2,none))::ih) f
theorem bp:∀ f:au,strip (hints f)=f
 | []=>rfl
 | (x,v)::r=>by
   have e:hints ((x,v)::r)=(x,(v,none))::hints r:=rfl
   rw[e,cX,bp r]
def zM (P:Program) (fr:aN) (H:aa):List ResultVar→Tr (List AV)
 | []=>.ok []
 | .tmp t::r=>(zM P fr H r).bind fun l=>.ok ((kS fr t).1::l)
 | .cell a t::r=>(loadT P H t (bR fr (.tmp a))).bind fun v=>(zM P fr H r).bind fun l=>.ok (v::l)
theorem vG {P:Program} {fr:aN} {H:aa}:∀ (l:List ResultVar) (vs:List AV),(zM P fr H l).run=some vs→fP P (strip fr) H l=some vs
 | [],vs,h=>by rw[← Tr.ab h];rfl
 | .tmp t::r,vs,h=>by
   simp only[zM] at h
   obtain ⟨l,h1,h⟩:=Tr.bind_some h
   simp only[fP]
   rw[vG r l h1,← Tr.ab h,eP];rfl
 | .cell a t::r,vs,h=>by
   simp only[zM] at h
   obtain ⟨v,h0,h⟩:=Tr.bind_some h
   obtain ⟨l,h1,h⟩:=Tr.bind_some h
   have h0:=w8 h0
   rw[aU] at h0
   simp only[fP]
   have e:bD (strip fr) (.tmp a)=bA (strip fr) a:=rfl
   rw[e] at h0
   rw[h0]
   dsimp only
   rw[vG r l h1,← Tr.ab h];rfl
def Hn (fr:aN) (rs:List ResultVar):Option Nat :=
 match rs with
 | [.tmp t]=>(kS fr t).2
 | _=>none
def JC (P:Program) (rs:List ResultVar) (x:gK):Tr (HV×aa) :=
 match x with
 | (e,fr,l::H)=>match e with
   | .normal | .ret=>(zM P fr (l::H) rs).bind fun vs=>(my l.bs 5 (one vs)).bind fun v=>.ok ((v,Hn fr rs),H)
   | _=>.bad
 | _=>.bad
theorem Bc {P:Program} {rs:List ResultVar} {x:gK} {y:HV×aa} (h:(JC P rs x).run=some y):∃ l vs,x.2.2=l::y.2∧(x.1=.normal∨x.1=.ret)∧fP P (strip x.2.1) x.2.2 rs=some vs∧c8 l.bs 5 (one vs)=y.1.1:=by
 unfold JC at h
 split at h
 · rename_i e fr l H
   have key:((zM P fr (l::H) rs).bind fun vs=>(my l.bs 5 (one vs)).bind fun v=>Tr.ok (((v,Hn fr rs),H):HV×aa)).run=some y→∃ vs,l::H=l::y.2∧fP P (strip fr) (l::H) rs=some vs∧c8 l.bs 5 (one vs)=y.1.1:=by
    intro h
    obtain ⟨vs,h1,h⟩:=Tr.bind_some h
    obtain ⟨v,h2,h⟩:=Tr.bind_some h
    have h:=Tr.ab h
    refine ⟨vs,by rw[← h],vG _ _ h1,?_⟩
    rw[AF _ _ _ _ h2,← h]
   split at h
   · obtain ⟨vs,h1,h2,h3⟩:=key h;exact ⟨l,vs,h1,.inl rfl,h2,h3⟩
   · obtain ⟨vs,h1,h2,h3⟩:=key h;exact ⟨l,vs,h1,.inr rfl,h2,h3⟩
   · exact (Tr.af h).elim
 · exact (Tr.af h).elim
def bu (P:Program) (call:aA) (fu:Nat) (f:FuncId) (fn:Func) (kt:Nat→Nat) (callR:bj) (bl:eI) (rg:nu) (args:List HV) (H:aa):Tr (HV×aa) :=
 (aT ⟨P,call,fu,f,fn.ntmps,kt,none⟩ callR bl rg (aY fn) (Fv args 0) (⟨false,[]⟩::H)).bind fun x=>JC P fn.results.toList x
theorem nH {P:Program} {ora:aA→FuncId→List AV→aa→Option (AV×aa)} {KT:FuncId→Nat→Nat} {fu n:Nat} {f:FuncId} {fn:Func} (hf:P.funcs[f]?=some fn) (hb:fn.body.isSome=true) {args:List HV} {H:aa} (ho:ora (cD P ora KT fu n) f (jZ args) H=none) (hle:Nat.ble args.length fn.ntmps=true)
 {callR:bj} (hC:callR.Ok (cD P ora KT fu n)) {bl:eI} (hB:bl.Ok ⟨P,cD P ora KT fu n,fu,f,fn.ntmps,KT f,none⟩ (aY fn)) {rg:nu} (hR:rg.Ok ⟨P,cD P ora KT fu n,fu,f,fn.ntmps,KT f,none⟩ (aY fn)) {y:HV×aa}
 (h:(bu P (cD P ora KT fu n) fu f fn (KT f) callR bl rg args H).run=some y):cD P ora KT fu (n+1) (.fn f) (jZ args) H=some (y.1.1,y.2):=by
 unfold bu at h
 obtain ⟨x,h1,h⟩:=Tr.bind_some h
 have h1:=fD hC _ hB hR _ _ _ h1
 rw[uL] at h1
 obtain ⟨l,vs,k1,k2,k3,k4⟩:=Bc h
 obtain ⟨c,hc⟩:=Option.isSome_iff_exists.1 hb
 have hbody:aY fn=c:=by unfold aY;rw[hc]
 rw[hbody] at h1
 obtain ⟨e,fr,H1⟩:=x
 dsimp only[gK.st] at h1 k1 k2 k3
 rw[k1] at h1 k3
 have hl:(jZ args).length=args.length:=by unfold jZ;rw[gq,List.length_map]
 simp only[cD,ho,hf,hc,hl,hle,if_true,h1]
 rcases k2 with rfl | rfl<;>simp only[k3]<;>rw[k4]

theorem gM {cx:Cx} {id:Nat} {b:Code} {fr fr1:au} {H H1:aa} (h:iter (exec cx b) (aQ H) cx.fu fr H=some (.exit id,fr1,H1)):exec cx (.block id (.loop b)) fr H=some (.normal,fr1,H1):=by
 unfold exec
 have:exec cx (.loop b) fr H=some (.exit id,fr1,H1):=by unfold exec;exact h
 rw[this]
 dsimp only
 rw[if_pos (by simp)]
theorem dP {cx:Cx} {id:Nat} {b:Code} {fr fr1:au} {H H1:aa} {e:Ex} (he:∀ id',e=.exit id'→Nat.beq id' id=false) (h:iter (exec cx b) (aQ H) cx.fu fr H=some (e,fr1,H1)):exec cx (.block id (.loop b)) fr H=some (e,fr1,H1):=by
 unfold exec
 have:exec cx (.loop b) fr H=some (e,fr1,H1):=by unfold exec;exact h
 rw[this]
 cases e with
 | exit id'=>dsimp only;rw[if_neg (by rw[he id' rfl];simp)]
 | _=>rfl
def fN (p:Nat→Bool):Nat→Nat→Nat
 | 0,j=>j
 | k+1,j=>if p j then j else fN p k (j+1)
theorem uU (p:Nat→Bool):∀ (k j:Nat),j≤fN p k j∧fN p k j≤j+k∧(∀ i,j≤i→i<fN p k j→p i=false)∧(fN p k j<j+k→p (fN p k j)=true)
 | 0,j=>⟨Nat.le_refl _,Nat.le_refl _,fun i h1 h2=>absurd h2 (by simp only[fN];omega),fun h=>absurd h (by simp only[fN];omega)⟩
 | k + 1,j=>by
   simp only[fN]
   by_cases h:p j=true
   · rw[if_pos h]
     exact ⟨Nat.le_refl _,by omega,fun i h1 h2=>by omega,fun _=>h⟩
   · rw[if_neg h]
     obtain ⟨h1,h2,h3,h4⟩:=uU p k (j+1)
     refine ⟨by omega,by omega,fun i k1 k2=>?_,fun k1=>h4 (by omega)⟩
     by_cases e:i=j
     · subst e;simpa using h
     · exact h3 i (by omega) k2
theorem jN {body:au→aa→Option (Ex×au×aa)} {n:Nat} (F:Nat→au) (G:Nat→aa) (N:Nat) (p:Nat→Bool) (X:Nat→Ex×au×aa)
 (hs:∀ j,j<N→p j=false→∃ f g,body (F j) (G j)=some (.normal,f,g)∧tidy n f g=(F (j+1),G (j+1)))
 (hh:∀ j,j<N→p j=true→body (F j) (G j)=some (X j)∧(X j).1≠.normal) (he:body (F N) (G N)=some (X N)∧(X N).1≠.normal) :
 ∀ (k j fu:Nat),j+k=N→k<fu→iter body n fu (F j) (G j)=some (X (fN p k j))
 | 0,j,0,_,h=>by omega
 | 0,j,fu+1,hj,_=>by
   have:j=N:=by omega
   subst this
   unfold iter
   rw[he.1]
   obtain ⟨x,hx⟩:∃ x,x=X j:=⟨_,rfl⟩
   have hn:=he.2
   simp only[fN]
   rw[← hx] at hn ⊢
   obtain ⟨e,f,g⟩:=x
   cases e<;>first | exact absurd rfl hn | rfl
 | k+1,j,0,_,h=>by omega
 | k + 1,j,fu+1,hj,hf=>by
   unfold iter
   cases hp:p j with
   | true =>
     obtain ⟨h1,h2⟩:=hh j (by omega) hp
     rw[h1]
     simp only[fN]
     rw[if_pos hp]
     obtain ⟨x,hx⟩:∃ x,x=X j:=⟨_,rfl⟩
     rw[← hx] at h2 ⊢
     obtain ⟨e,f,g⟩:=x
     cases e<;>first | exact absurd rfl h2 | rfl
   | false =>
     obtain ⟨f,g,h1,h2⟩:=hs j (by omega) hp
     rw[h1]
     dsimp only
     rw[h2]
     simp only[fN]
     rw[if_neg (by rw[hp];simp)]
     exact jN F G N p X hs hh he k (j+1) fu (by omega) (by omega)
end
end Go.Eng
end
