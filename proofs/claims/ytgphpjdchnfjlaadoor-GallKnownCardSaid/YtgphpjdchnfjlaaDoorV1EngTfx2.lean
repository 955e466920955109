/- The engine as a tree: regions, code, calls. -/
import Derived.Test.YtgphpjdchnfjlaaDoorV1EngTe
set_option linter.unusedVariables false
set_option linter.unusedSimpArgs false
section
namespace Go.Eng
noncomputable section

def q9 (f:aA) (y:Nat) (b:Bool):aA:=List.rec (motive:=fun _=>aA) [] (fun p r ih=>Bool.rec (motive:=fun _=>aA) (p::ih) ((p.1,(.bool b,some 1))::r) (Nat.beq p.1 y)) f
theorem o9:∀ (f:aA) (y:Nat) (b:Bool),aO (strip f) y=.bool b→strip (q9 f y b)=strip f
 | [],y,b,_=>rfl
 | (x,v)::r,y,b,h=>by
   have e:q9 ((x,v)::r) y b=Bool.rec (motive:=fun _=>aA) ((x,v)::q9 r y b) ((x,(.bool b,some 1))::r) (Nat.beq x y):=rfl
   rw[bF,aO] at h
   rw[e]
   cases hb:Nat.beq x y with
   | true =>
     rw[hb] at h
     have h:v.1=.bool b:=h
     show (x,AV.bool b)::strip r=(x,v.1)::strip r
     rw[h]
   | false =>
     rw[hb] at h
     show (x,v.1)::strip (q9 r y b)=(x,v.1)::strip r
     rw[o9 r y b h]
def ru {α:Type} (fr:aA) (d:Nat) (t e:aA→Tr α):Tr α :=
 match iL fr d with
 | (.bool b,none)=>.ite b (t (q9 fr d true)) (e (q9 fr d false))
 | (.bool b,some _)=>cond b (t fr) (e fr)
 | _=>.bad
theorem iF {α:Type} {fr:aA} {d:Nat} {t e:aA→Tr α} {x:α} (h:(ru fr d t e).run=some x):∃ b fr',aO (strip fr) d=.bool b∧strip fr'=strip fr∧(if b then t fr' else e fr').run=some x:=by
 unfold ru at h
 split at h
 · rename_i b hg
   have hg':aO (strip fr) d=.bool b:=by rw[← df,hg]
   rcases Tr.jk h with ⟨rfl,h⟩ | ⟨rfl,h⟩
   · exact ⟨true,_,hg',o9 _ _ _ hg',h⟩
   · exact ⟨false,_,hg',o9 _ _ _ hg',h⟩
 · rename_i b n hg
   have hg':aO (strip fr) d=.bool b:=by rw[← df,hg]
   refine ⟨b,fr,hg',rfl,?_⟩
   cases b<;>exact h
 · exact (Tr.ad h).elim
def xO (ops:Array Oper) (fr:aA) (o:Oper):Tr (Bool×aA) :=
 match o.guard with
 | none=>.ok (true,fr)
 | some (j,want)=>match (ops[j]?).bind (·.dst) with
   | none=>.bad
   | some d=>match (iL fr d).1 with
     | .bool _=>cond want (ru fr d (fun fr=>.ok (true,fr)) (fun fr=>.ok (false,fr))) (ru fr d (fun fr=>.ok (false,fr)) (fun fr=>.ok (true,fr)))
     | .tup _=>.ok (false,fr)
     | _=>.bad
theorem vk {ops:Array Oper} {fr:aA} {o:Oper} {r:Bool×aA} (h:(xO ops fr o).run=some r):eP ops (strip fr) o=(if r.1 then .run else .skip)∧strip r.2=strip fr:=by
 unfold xO at h
 unfold eP
 cases hg:o.guard with
 | none =>
   rw[hg] at h
   rw[← Tr.ab h];exact ⟨rfl,rfl⟩
 | some jw =>
   obtain ⟨j,want⟩:=jw
   rw[hg] at h
   dsimp only at h ⊢
   cases hd:(ops[j]?).bind (·.dst) with
   | none=>rw[hd] at h;exact (Tr.ad h).elim
   | some d =>
     rw[hd] at h
     dsimp only at h ⊢
     have he:=df fr d
     rw[he] at h
     cases hv:aO (strip fr) d<;>rw[hv] at h<;>try exact (Tr.ad h).elim
     case bool b =>
      dsimp only at h ⊢
      cases want with
      | true =>
        rw[cond_true] at h
        obtain ⟨b',fr',h1,h2,h3⟩:=iF h
        rw[hv] at h1
        cases h1
        cases b<;>(have h3:=Tr.ab h3;rw[← h3];exact ⟨rfl,h2⟩)
      | false =>
        rw[cond_false] at h
        obtain ⟨b',fr',h1,h2,h3⟩:=iF h
        rw[hv] at h1
        cases h1
        cases b<;>(have h3:=Tr.ab h3;rw[← h3];exact ⟨rfl,h2⟩)
     case tup l=>rw[← Tr.ab h];exact ⟨rfl,rfl⟩

def fh (P:Program) (nt:Nat) (call:ak) (callR:aQ) (ops:Array Oper):List Oper→aA→aa→Tr (aA×aa)
 | [],fr,H=>.ok (fr,H)
 | o::r,fr,H=>(xO ops fr o).bind fun b=>cond b.1
   ((Ga o.op o P call callR b.2 H (dx H)).bind fun y=>fh P nt call callR ops r (ni nt b.2 o.dst y.1) (Gy y.2 H))
   (fh P nt call callR ops r (ni nt b.2 o.dst (.tup [],none)) H)
theorem dz {P:Program} {nt:Nat} {call:ak} {callR:aQ} (hC:callR.Ok call) {ops:Array Oper}:∀ (l:List Oper) (fr:aA) (H:aa) (x:aA×aa),(fh P nt call callR ops l fr H).run=some x→cU P nt call ops l (strip fr) H=some (strip x.1,x.2)
 | [],fr,H,x,h=>by rw[← Tr.ab h];rfl
 | o :: r,fr,H,x,h=>by
   simp only[fh] at h
   obtain ⟨b,h1,h⟩:=Tr.bind_some h
   unfold cU
   obtain ⟨hw,hs⟩:=vk h1
   rw[hw,← hs]
   obtain ⟨b,fr1⟩:=b
   dsimp only at h ⊢
   cases b with
   | false =>
     have:=dz hC r _ _ _ h
     rw[jx] at this
     exact this
   | true =>
     rw[cond_true] at h
     obtain ⟨y,h2,h⟩:=Tr.bind_some h
     have h2:=vX hC h2
     rw[ei] at h2
     have:=dz hC r _ _ _ h
     rw[jx,Ak] at this
     rw[if_pos rfl]
     dsimp only
     rw[h2]
     exact this

def lI (fr:aA) (o:Oper):Touch:=gP (strip fr) o
def ma (P:Program) (call:ak) (callR:aQ) (ops:Array Oper) (bef:Nat) (cq:aA) (H:aa) (nx:Nat) (recs:List Rec) (o:Oper):Tr (pZ×Option Nat×aA) :=
 (xO ops cq o).bind fun b=>cond b.1
   (cond (c5 o) ((Ga o.op o P call callR b.2 (ly (fv bef recs H)) nx).bind fun y=>.ok (⟨y.1.1,.all,none⟩,y.1.2,b.2))
     ((Ga o.op o P call callR b.2 (fv bef recs H) nx).bind fun y=>match y.2 with
       | .aJ=>.ok (⟨y.1.1,lI b.2 o,none⟩,y.1.2,b.2)
       | .push q=>cond (dW o && !fB q && lr (cN H 0 nx) && !dw H 0) (.ok (⟨y.1.1,lI b.2 o,some (0,nx,(0,q))⟩,y.1.2,b.2)) .bad
       | .set d i q=>.req (qa (tg (cN H d i).1 q.1) (tg q.1 (Nat.succ (cN H d i).1))) (cond (!fB q.2 && !fB (cN (fv bef recs H) d i).2 && fF bef d i recs) (.ok (⟨y.1.1,lI b.2 o,some (d,i,q)⟩,y.1.2,b.2)) .bad)
       | _=>.bad))
   (.ok (⟨.tup [],.none,none⟩,none,b.2))
theorem rJ {P:Program} {call:ak} {callR:aQ} (hC:callR.Ok call) {ops:Array Oper} {bef:Nat} {fr:aA} {H:aa} {nx:Nat} {recs:List Rec} {o:Oper} {e:pZ×Option Nat×aA} (h:(ma P call callR ops bef fr H nx recs o).run=some e) :
 cK P call ops bef (strip fr) H nx recs o=some e.1∧strip e.2.2=strip fr:=by
 unfold ma at h
 unfold cK
 simp only[gG,nf,lI,nk,eI,ct] at h
 obtain ⟨b,h1,h⟩:=Tr.bind_some h
 obtain ⟨hw,hs⟩:=vk h1
 rw[hw,← hs]
 obtain ⟨b,fr1⟩:=b
 dsimp only at h ⊢
 cases b with
 | false =>
   rw[cond_false] at h
   rw[← Tr.ab h];exact ⟨rfl,rfl⟩
 | true =>
   rw[cond_true] at h
   rw[if_pos rfl]
   dsimp only
   cases hcv:c5 o with
   | true =>
     rw[hcv,cond_true] at h
     obtain ⟨y,h2,h⟩:=Tr.bind_some h
     rw[if_pos rfl,vX hC h2,← Tr.ab h]
     exact ⟨rfl,rfl⟩
   | false =>
     rw[hcv,cond_false] at h
     obtain ⟨y,h2,h⟩:=Tr.bind_some h
     rw[if_neg (by simp),vX hC h2]
     split at h
     · rename_i hy
       rw[hy,← Tr.ab h];exact ⟨rfl,rfl⟩
     · rename_i b hy
       obtain ⟨hc,h⟩:=Tr.ay h
       rw[hy]
       dsimp only
       rw[if_pos hc,← Tr.ab h];exact ⟨rfl,rfl⟩
     · rename_i d i b hy
       obtain ⟨hv,h⟩:=Tr.au h
       obtain ⟨hc,h⟩:=Tr.ay h
       rw[hy]
       dsimp only
       rw[kQ,iq,iq,Bool.and_eq_true,decide_eq_true_eq,decide_eq_true_eq] at hv
       have hv':(Nat.beq b.1 (ah H d i).1 || Nat.beq b.1 (Nat.succ (ah H d i).1))=true:=by
        simp only[Bool.or_eq_true,Nat.beq_eq];omega
       simp only[Bool.and_eq_true] at hc
       rw[if_pos (by simp only[Bool.and_eq_true];exact ⟨⟨⟨hc.1.1,hv'⟩,hc.1.2⟩,hc.2⟩),← Tr.ab h];exact ⟨rfl,rfl⟩
     · exact (Tr.ad h).elim
def kZ (P:Program) (nt:Nat) (call:ak) (callR:aQ) (ops:Array Oper) (befs:Array Nat):List Oper→Nat→aA→aa→Nat→List Rec→Tr (aA×aa)
 | [],_,fr,H,_,_=>.ok (fr,H)
 | o::r,j,fr,H,nx,recs=>(ma P call callR ops (befs.getD j 0) fr H nx recs o).bind fun e =>
   kZ P nt call callR ops befs r (j+1) (ni nt e.2.2 o.dst (e.1.v,e.2.1)) (tM H e.1.wr) (if dW o then nx+1 else nx) (⟨j,e.1.rd,e.1.wr.map fun x=>(x.1,x.2.1)⟩::recs)
theorem mW {P:Program} {nt:Nat} {call:ak} {callR:aQ} (hC:callR.Ok call) {ops:Array Oper} {befs:Array Nat}:∀ (l:List Oper) (j:Nat) (fr:aA) (H:aa) (nx:Nat) (recs:List Rec) (x:aA×aa),
 (kZ P nt call callR ops befs l j fr H nx recs).run=some x→dp P nt call ops befs j l (strip fr) H nx recs=some (strip x.1,x.2)
 | [],j,fr,H,nx,recs,x,h=>by rw[← Tr.ab h];rfl
 | o::r,j,fr,H,nx,recs,x,h=>by
   simp only[kZ] at h
   obtain ⟨e,h1,h⟩:=Tr.bind_some h
   obtain ⟨hd,hs⟩:=rJ hC h1
   unfold dp
   rw[hd,← hs]
   have:=mW hC r _ _ _ _ _ _ h
   rw[jx,tN] at this
   exact this

def bf:Code→List (Nat×Code)
 | .block id b=>(id,b)::bf b
 | .loop b=>bf b
 | .seq a b=>bf a++bf b
 | .cond _ a b=>bf a++bf b
 | .scope b=>bf b
 | _=>[]
def eR (f:Func):Code:=match f.body with | some c=>c | none=>.skip
abbrev lY:=Ex×aA×aa
def lY.st (x:lY):Ex×aq×aa:=(x.1,strip x.2.1,x.2.2)
abbrev iT:=Nat→aA→aa→Option (Tr lY)
abbrev ss:=Operand→aA→aa→Option (Tr lY)
def iT.Ok (bl:iT) (cx:Cx) (c:Code):Prop:=∀ id b,(id,b) ∈ bf c→∀ fr H t x,bl id fr H=some t→t.run=some x→exec cx (.block id b) (strip fr) H=some x.st
def cQ:Code→List (Operand×Array Tmp×Code×Code)
 | .rangeFunc f ps a b=>[(f,ps,a,b)]
 | .loop b=>cQ b
 | .block _ b=>cQ b
 | .seq a b=>cQ a++cQ b
 | .cond _ a b=>cQ a++cQ b
 | .scope b=>cQ b
 | _=>[]
def ss.Ok (rg:ss) (cx:Cx) (c:Code):Prop:=∀ f ps a b,(f,ps,a,b) ∈ cQ c→∀ fr H t x,rg f fr H=some t→t.run=some x→exec cx (.rangeFunc f ps a b) (strip fr) H=some x.st
def xU (bl:iT) (id0:Nat) (cq:aq) (H0:aa) (u:Tr lY):iT:=fun id fr H=>cond (Nat.beq id id0) (some (.reqP (strip fr=cq∧H=H0) u)) (bl id fr H)
theorem nG {bl:iT} {cx:Cx} {c:Code} (h:bl.Ok cx c) {id0:Nat} {cq:aq} {H0:aa} {u:Tr lY} {B:Code} (hB:∀ b,(id0,b) ∈ bf c→b=B) (k:∀ x,u.run=some x→exec cx (.block id0 B) cq H0=some x.st):(xU bl id0 cq H0 u).Ok cx c:=by
 intro id b hm fr H t y ht hy
 unfold xU at ht
 cases hb:Nat.beq id id0 with
 | true =>
   have ql:=Nat.eq_of_beq_eq_true hb
   subst ql
   rw[hb,cond_true,Option.some.injEq] at ht
   subst ht
   obtain ⟨⟨h1,h2⟩,h3⟩:=Tr.jN hy
   rw[h1,h2,hB b hm]
   exact k y h3
 | false =>
   rw[hb,cond_false] at ht
   exact h id b hm fr H t y ht hy
def Gz (rg:ss) (tf:Operand→Bool) (cq:aq) (H0:aa) (u:Tr lY):ss:=fun f fr H=>cond (tf f) (some (.reqP (strip fr=cq∧H=H0) u)) (rg f fr H)
theorem EI {rg:ss} {cx:Cx} {c:Code} (h:rg.Ok cx c) {tf:Operand→Bool} {cq:aq} {H0:aa} {u:Tr lY} (k:∀ f ps a b,tf f=true→(f,ps,a,b) ∈ cQ c→∀ x,u.run=some x→exec cx (.rangeFunc f ps a b) cq H0=some x.st):(Gz rg tf cq H0 u).Ok cx c:=by
 intro f ps a b hm fr H t y ht hy
 unfold Gz at ht
 cases hb:tf f with
 | true =>
   rw[hb,cond_true,Option.some.injEq] at ht
   subst ht
   obtain ⟨⟨h1,h2⟩,h3⟩:=Tr.jN hy
   rw[h1,h2]
   exact k f ps a b hb hm y h3
 | false =>
   rw[hb,cond_false] at ht
   exact h f ps a b hm fr H t y ht hy
def jY:iT:=fun _ _ _=>none
def jZ:ss:=fun _ _ _=>none
theorem b9 (cx:Cx) (c:Code):jY.Ok cx c:=fun _ _ _ _ _ _ _ h=>by cases h
theorem cg (cx:Cx) (c:Code):jZ.Ok cx c:=fun _ _ _ _ _ _ _ _ _ h=>by cases h
def tp (g:AV→AV):aA→aA
 | []=>[]
 | (x,(v,h))::r=>(x,(jX g v,h))::tp g r
theorem tr (g:AV→AV):∀ fr:aA,strip (tp g fr)=mF g (strip fr)
 | []=>rfl
 | (x,(v,h))::r=>by
   have e:tp g ((x,(v,h))::r)=(x,(jX g v,h))::tp g r:=rfl
   rw[e,bF,bF,mF,tr g r]
def iG (n:Nat):Nat→aA→aa→aA×aa
 | 0,fr,H=>(fr,H)
 | k + 1,fr,H=>match H with
   | []=>(fr,[])
   | l::r=>cond (Nat.ble (fb l.bs) (Nat.succ n)) (fr,l::r) (match hole (strip fr) l.bs 4 n with
     | none=>(fr,l::r)
     | some h=>iG n k (tp (qv (l.bs.length-1) h) fr) (fX n (mF (qv (l.bs.length-1) h) (strip fr)) (sr (l.bs.length-1) h l::r)))
theorem pN (n:Nat):∀ (k:Nat) (fr:aA) (H:aa),(strip (iG n k fr H).1,(iG n k fr H).2)=fO n k (strip fr) H
 | 0,fr,H=>rfl
 | k+1,fr,[]=>rfl
 | k + 1,fr,l::r=>by
   cases hb:Nat.ble (fb l.bs) (Nat.succ n) with
   | true =>
     have:iG n (k+1) fr (l::r)=(fr,l::r):=by
      unfold iG;dsimp only;rw[hb];rfl
     rw[this,pP (by rw[bN] at hb;simpa using hb)]
   | false =>
     unfold iG fO
     dsimp only
     rw[hb,cond_false]
     cases hole (strip fr) l.bs 4 n with
     | none=>rfl
     | some h =>
       dsimp only
       rw[pN n k,tr]
def xK (n:Nat) (fr:aA) (H:aa):aA×aa:=iG n 4 fr (fX n (strip fr) H)
theorem AR (n:Nat) (fr:aA) (H:aa):(strip (xK n fr H).1,(xK n fr H).2)=tidy n (strip fr) H:=pN n 4 fr _
def w6 (body:aA→aa→Tr lY) (n:Nat):Nat→aA→aa→Tr lY
 | 0,_,_=>.bad
 | k+1,fr,H=>(body fr H).bind fun x=>match x with
   | (.normal,fr,H)=>w6 body n k (xK n fr H).1 (xK n fr H).2
   | r=>.ok r
theorem qX {body:aq→aa→Option (Ex×aq×aa)} {n:Nat}:∀ (k m:Nat) (fr:aq) (H:aa) (x:Ex×aq×aa),iter body n k fr H=some x→k≤m→iter body n m fr H=some x
 | 0,m,fr,H,x,h,_=>by simp[iter] at h
 | k+1,0,fr,H,x,h,hk=>by omega
 | k + 1,m+1,fr,H,x,h,hk=>by
   unfold iter at h ⊢
   cases hb:body fr H with
   | none=>rw[hb] at h;simp at h
   | some y =>
     rw[hb] at h
     obtain ⟨e,f,g⟩:=y
     cases e
     case normal=>exact qX k m _ _ _ h (by omega)
     all_goals exact h
theorem s6 {body:aA→aa→Tr lY} {body':aq→aa→Option (Ex×aq×aa)} {n:Nat} (hb:∀ fr H x,(body fr H).run=some x→body' (strip fr) H=some x.st):∀ (k:Nat) (fr:aA) (H:aa) (x:lY),(w6 body n k fr H).run=some x→iter body' n k (strip fr) H=some x.st
 | 0,fr,H,x,h=>(Tr.ad h).elim
 | k+1,fr,H,x,h=>by
   simp only[w6] at h
   obtain ⟨y,h1,h⟩:=Tr.bind_some h
   unfold iter
   rw[hb _ _ _ h1]
   obtain ⟨e,f,g⟩:=y
   cases e
   case normal =>
    have e:=AR n f g
    have h:=s6 hb k _ _ _ h
    show iter body' n k (tidy n (strip f) g).1 (tidy n (strip f) g).2=_
    rw[← e];exact h
   all_goals
    have h:=Tr.ab h
    rw[← h];rfl
def kr (f:AV→Tr AV):List AV→Tr (List AV)
 | []=>.ok []
 | v::l=>(f v).bind fun u=>(kr f l).bind fun m=>.ok (u::m)
theorem c6 {f:AV→Tr AV} {g:AV→AV} (hf:∀ v u,(f v).run=some u→g v=u):∀ (l m:List AV),(kr f l).run=some m→l.map g=m
 | [],m,h=>Tr.ab h
 | v::l,m,h=>by
   simp only[kr] at h
   obtain ⟨u,h1,h⟩:=Tr.bind_some h
   obtain ⟨n,h2,h⟩:=Tr.bind_some h
   rw[← Tr.ab h,List.map_cons,hf _ _ h1,c6 hf l n h2]
def jo (f:AV→Tr AV):List bL→Tr (List bL)
 | []=>.ok []
 | .one v::l=>(f v).bind fun u=>(jo f l).bind fun m=>.ok (.one u::m)
 | .arr k z n::l=>(jo f l).bind fun m=>.ok (.arr k z n::m)
theorem eK {f:AV→Tr AV} {g:AV→AV} (hf:∀ v u,(f v).run=some u→g v=u):∀ (l m:List bL),(jo f l).run=some m→mapM' g l=m
 | [],m,h=>Tr.ab h
 | .one v::l,m,h=>by
   simp only[jo] at h
   obtain ⟨u,h1,h⟩:=Tr.bind_some h
   obtain ⟨n,h2,h⟩:=Tr.bind_some h
   rw[← Tr.ab h,mapM',hf _ _ h1,eK hf l n h2]
 | .arr k z n::l,m,h=>by
   simp only[jo] at h
   obtain ⟨n,h2,h⟩:=Tr.bind_some h
   rw[← Tr.ab h,mapM',eK hf l n h2]
def mU (cap:Option Nat) (len:Nat):Bool :=
 match cap with
 | none=>false
 | some c=>qf c len
theorem gz (cap:Option Nat) (len:Nat):mU cap len=(cap == some len):=by
 cases cap with
 | none=>rfl
 | some c=>simp only[mU,dP];rw[Bool.eq_iff_iff];simp
def sZ (i ver:Nat) (r:Row):AV→Tr AV
 | .ptr d j v off=>cond (Nat.beq d 0 && Nat.beq j i) (.req (qf v ver) (.ok (.ptrT none r off))) (.ok (.ptr d j v off))
 | .slc d j v off sz len cap=>cond (Nat.beq d 0 && Nat.beq j i) (.req (qf v ver) (match r with
    | .M [.arr k z N]=>.req (vm off (fG len sz) 0 N) (.ok (.slcT none (.M [.arr k (AI z off) (fG len sz)]) sz len (mU cap len)))
    | .I k l=>cond (qj (.I k l) off (Nat.mul len sz)) (.ok (.slcT none (.I k (eZ (iJ l off) (Nat.mul len sz))) sz len (mU cap len))) .bad
    | _=>.bad)) (.ok (.slc d j v off sz len cap))
 | v=>.ok v
theorem qF {d j i:Nat} {x:Bool} (h:(Nat.beq d 0 && Nat.beq j i)=true):(Nat.beq d 0 && (Nat.beq j i && x))=x:=by
 rw[Bool.and_eq_true] at h
 rw[h.1,h.2];rfl
theorem qG {d j i:Nat} {x:Bool} (h:(Nat.beq d 0 && Nat.beq j i)=false):(Nat.beq d 0 && (Nat.beq j i && x))=false:=by
 rw[← Bool.and_assoc,h];rfl
theorem s3 {i ver:Nat} {r:Row}:∀ v u,(sZ i ver r v).run=some u→jW i ver r v=u:=by
 intro v u h
 cases v with
 | ptr d j v off =>
   simp only[sZ] at h
   simp only[jW]
   cases hc:(Nat.beq d 0 && Nat.beq j i) with
   | false=>rw[hc,cond_false] at h;rw[qG hc,if_neg (by simp)];exact Tr.ab h
   | true =>
     rw[hc,cond_true] at h
     obtain ⟨h1,h⟩:=Tr.au h
     rw[dP,decide_eq_true_eq] at h1
     rw[qF hc,if_pos (by simpa using h1)];exact Tr.ab h
 | slc d j v off sz len cap =>
   simp only[sZ] at h
   simp only[jW]
   cases hc:(Nat.beq d 0 && Nat.beq j i) with
   | false=>rw[hc,cond_false] at h;rw[qG hc,if_neg (by simp)];exact Tr.ab h
   | true =>
     rw[hc,cond_true] at h
     obtain ⟨h1,h2⟩:=Tr.au h
     clear h
     rw[dP,decide_eq_true_eq] at h1
     rw[qF hc]
     split at h2
     · obtain ⟨h3,h⟩:=Tr.au h2
       rw[gl,decide_eq_true_eq,bw] at h3
       rw[if_pos (by simp[h1,Row.len,ai,ar];omega),← Tr.ab h,gz,bw,jC]
       rfl
     · obtain ⟨h3,h⟩:=Tr.ay h2
       rw[ib,decide_eq_true_eq] at h3
       rw[if_pos (by simp only[h1,Bool.and_eq_true];exact ⟨by simp,Nat.ble_eq_true_of_le h3⟩),← Tr.ab h,gz,dZ,eH]
       rfl
     · exact (Tr.ad h2).elim
 | _=>exact Tr.ab h
def tu (f:AV→Tr AV) (v:AV):Tr AV :=
 match v with
 | .agg (.G l)=>(kr f l).bind fun m=>.ok (.agg (.G m))
 | .agg (.M l)=>(jo f l).bind fun m=>.ok (.agg (.M m))
 | .fn g a b=>(kr f a).bind fun a'=>(kr f b).bind fun b'=>.ok (.fn g a' b')
 | v=>f v
theorem o8 {f:AV→Tr AV} {g:AV→AV} (hf:∀ v u,(f v).run=some u→g v=u):∀ v u,(tu f v).run=some u→jX g v=u:=by
 intro v u h
 unfold tu at h
 split at h
 · obtain ⟨m,h1,h⟩:=Tr.bind_some h
   rw[← Tr.ab h,← c6 hf _ _ h1];rfl
 · obtain ⟨m,h1,h⟩:=Tr.bind_some h
   rw[← Tr.ab h,← eK hf _ _ h1];rfl
 · obtain ⟨a',h1,h⟩:=Tr.bind_some h
   obtain ⟨b',h2,h⟩:=Tr.bind_some h
   rw[← Tr.ab h,← c6 hf _ _ h1,← c6 hf _ _ h2];rfl
 · rename_i n1 n2 n3
   have:=hf _ _ h
   rw[← this]
   unfold jX
   split
   · exact absurd rfl (n1 _)
   · exact absurd rfl (n2 _)
   · exact absurd rfl (n3 _ _ _)
   · rfl
def zV (f:AV→Tr AV):aN→Tr aN
 | .row r=>match r with
   | .G l=>(kr (tu f) l).bind fun m=>.ok (.row (.G m))
   | .M l=>(jo (tu f) l).bind fun m=>.ok (.row (.M m))
   | r=>.ok (.row r)
 | b=>.ok b
theorem zW {f:AV→Tr AV} {g:AV→AV} (hf:∀ v u,(f v).run=some u→g v=u) (b u:aN) (h:(zV f b).run=some u):mE g b=u:=by
 cases b with
 | row r =>
   simp only[zV] at h
   cases r with
   | G l =>
     obtain ⟨m,h1,h⟩:=Tr.bind_some h
     rw[← Tr.ab h,← c6 (o8 hf) _ _ h1];rfl
   | M l =>
     obtain ⟨m,h1,h⟩:=Tr.bind_some h
     rw[← Tr.ab h,← eK (o8 hf) _ _ h1];rfl
   | I k l=>rw[← Tr.ab h];rfl
   | F z n=>rw[← Tr.ab h];rfl
 | dead=>exact Tr.ab h
 | map es=>exact Tr.ab h
 | fmap kq f g c=>exact Tr.ab h
 | loop l=>exact Tr.ab h
def rU (f:AV→Tr AV):List (Nat×aN)→Tr (List (Nat×aN))
 | []=>.ok []
 | (v,b)::r=>(zV f b).bind fun b'=>(rU f r).bind fun r'=>.ok ((v,b')::r')
theorem q8 {f:AV→Tr AV} {g:AV→AV} (hf:∀ v u,(f v).run=some u→g v=u):∀ (l m:List (Nat×aN)),(rU f l).run=some m→ga g l=m
 | [],m,h=>Tr.ab h
 | (v,b)::r,m,h=>by
   simp only[rU] at h
   obtain ⟨b',h1,h⟩:=Tr.bind_some h
   obtain ⟨r',h2,h⟩:=Tr.bind_some h
   rw[← Tr.ab h,ga,zW hf _ _ h1,q8 hf r r' h2]
def xa (f:AV→Tr AV):aA→Tr aA
 | []=>.ok []
 | (x,(v,h))::r=>(tu f v).bind fun v'=>(xa f r).bind fun r'=>.ok ((x,(v',h))::r')
theorem tn {f:AV→Tr AV} {g:AV→AV} (hf:∀ v u,(f v).run=some u→g v=u):∀ (l m:aA),(xa f l).run=some m→mF g (strip l)=strip m
 | [],m,h=>by rw[← Tr.ab h];rfl
 | (x,(v,hh))::r,m,h=>by
   simp only[xa] at h
   obtain ⟨v',h1,h⟩:=Tr.bind_some h
   obtain ⟨r',h2,h⟩:=Tr.bind_some h
   rw[← Tr.ab h,bF,bF,mF,o8 hf _ _ h1,tn hf r r' h2]
def oR (i:Nat) (fr:aA) (l:bT):Tr (aA×bT) :=
 match vT l.bs i with
 | (ver,.row r)=>cond (rR r && (qb (fun x=>lZ (lM i) x.2) (strip fr) || qb (fun x=>EL (lM i) x.2) l.bs)) ((xa (sZ i ver r) fr).bind fun fr'=>(rU (sZ i ver r) l.bs).bind fun bs'=>.ok (fr',{ l with bs:=aP bs' i (ver,.dead) })) (.ok (fr,l))
 | _=>.ok (fr,l)
theorem ml {i:Nat} {fr:aA} {l:bT} {y:aA×bT} (h:(oR i fr l).run=some y):jg i (strip fr) l=(strip y.1,y.2):=by
 unfold oR at h
 unfold jg
 rw[nR] at h
 split at h
 · rename_i ver r hb
   rw[hb]
   dsimp only
   rw[kR,kR] at h
   cases hc:(rR r && ((strip fr).any (fun x=>lZ (lM i) x.2) || l.bs.any (fun x=>EL (lM i) x.2))) with
   | true =>
     rw[hc,cond_true] at h
     obtain ⟨fr',h1,h⟩:=Tr.bind_some h
     obtain ⟨bs',h2,h⟩:=Tr.bind_some h
     rw[if_pos rfl,tn s3 _ _ h1,q8 s3 _ _ h2,← Tr.ab h]
   | false =>
     rw[hc,cond_false] at h
     rw[if_neg (by simp),← Tr.ab h]
 · rename_i hno
   have h:=Tr.ab h
   subst h
   split
   · rename_i ver r hb
     exact absurd hb (hno ver r)
   · rfl
def nK:Nat→aA→bT→Tr (aA×bT)
 | 0,fr,l=>.ok (fr,l)
 | n+1,fr,l=>(nK n fr l).bind fun y=>oR n y.1 y.2
theorem oP:∀ (n:Nat) (fr:aA) (l:bT) (y:aA×bT),(nK n fr l).run=some y→fA n (strip fr) l=(strip y.1,y.2)
 | 0,fr,l,y,h=>by rw[← Tr.ab h];rfl
 | n+1,fr,l,y,h=>by
   simp only[nK] at h
   obtain ⟨z,h1,h⟩:=Tr.bind_some h
   have h1:=oP n fr l z h1
   simp only[fA]
   rw[h1]
   exact ml h
def ln:Nat→aA→bT→Tr (aA×bT)
 | 0,fr,l=>.ok (fr,l)
 | n+1,fr,l=>(ln n fr l).bind fun y=>cond (qb (fun x=>lZ (lM n) x.2) (strip y.1)) (.ok y) (oR n y.1 y.2)
theorem m7:∀ (n:Nat) (fr:aA) (l:bT) (y:aA×bT),(ln n fr l).run=some y→cC n (strip fr) l=(strip y.1,y.2)
 | 0,fr,l,y,h=>by rw[← Tr.ab h];rfl
 | n + 1,fr,l,y,h=>by
   simp only[ln] at h
   obtain ⟨z,h1,h⟩:=Tr.bind_some h
   have h1:=m7 n fr l z h1
   simp only[cC]
   rw[h1]
   dsimp only
   rw[kR] at h
   cases hc:(strip z.1).any (fun x=>lZ (lM n) x.2) with
   | true =>
     rw[hc,cond_true] at h
     rw[if_pos rfl,Tr.ab h]
   | false =>
     rw[hc,cond_false] at h
     rw[if_neg (by simp)]
     exact ml h
def w8 (s:Nat):aA→Option Nat
 | []=>none
 | (x,(v,_))::r=>cond (Nat.beq x s) (match v with
   | .slc 0 i _ _ _ _ _=>some i
   | _=>none) (w8 s r)
theorem th (s:Nat):∀ fr:aA,w8 s fr=w7 s (strip fr)
 | []=>rfl
 | (x,(v,h))::r=>by
   rw[bF]
   simp only[w8,w7,th s r]
   cases Nat.beq x s<;>rfl
def rQ (s:Nat) (fr:aA) (H:aa):Tr (aA×aa) :=
 match H with
 | []=>.ok (fr,[])
 | l::r=>cond l.lock (.ok (fr,l::r)) (match w8 s fr with
   | some i=>(oR i fr l).bind fun y=>.ok (y.1,y.2::r)
   | none=>.ok (fr,l::r))
theorem vK {s:Nat} {fr:aA} {H:aa} {y:aA×aa} (h:(rQ s fr H).run=some y):rP s (strip fr) H=(strip y.1,y.2):=by
 unfold rQ at h
 unfold rP
 cases H with
 | nil=>rw[← Tr.ab h]
 | cons l r =>
   dsimp only at h ⊢
   cases hl:l.lock with
   | true =>
     rw[hl,cond_true] at h
     rw[if_pos rfl,← Tr.ab h]
   | false =>
     rw[hl,cond_false,th] at h
     rw[if_neg (by simp)]
     split at h
     · rename_i i hi
       obtain ⟨z,h1,h⟩:=Tr.bind_some h
       have h1:=ml h1
       rw[hi]
       dsimp only
       rw[h1,← Tr.ab h]
     · rename_i hi
       rw[hi,← Tr.ab h]
def vJ (m:Nat) (fr:aA) (H:aa):Tr (aA×aa) :=
 cond (kx m 4000) (match H with
  | []=>.ok (eh fr m,[])
  | l::r=>cond l.lock (.ok (eh fr m,l::r)) ((nK (fb l.bs) (eh fr m) l).bind fun y=>.ok (y.1,cond (Nat.beq (Nat.shiftRight m 4003) 0) (y.2::r) (Ac (Nat.shiftRight m 4003) (y.2::r))))) (cond (kx m 4001) (rQ (Nat.shiftRight m 4003) (eh fr m) H) (cond (kx m 4002) (ru (eh fr m) (Nat.shiftRight m 4003) (fun fr=>.ok (fr,H)) (fun fr=>match H with
  | []=>.ok (fr,[])
  | l::r=>cond l.lock (.ok (fr,l::r)) ((ln (fb l.bs) fr l).bind fun y=>.ok (y.1,y.2::r)))) (.ok (eh fr m,H))))
theorem yd {m:Nat} {fr:aA} {H:aa} {y:aA×aa} (h:(vJ m fr H).run=some y):jh m (strip fr) H=(strip y.1,y.2):=by
 unfold vJ at h
 unfold jh
 cases hm:kx m 4000 with
 | false =>
   rw[hm,cond_false] at h
   rw[if_neg (by simp)]
   cases hm2:kx m 4001 with
   | false =>
     rw[hm2,cond_false] at h
     rw[if_neg (by simp)]
     cases hm3:kx m 4002 with
     | false =>
       rw[hm3,cond_false] at h
       rw[if_neg (by simp),← Tr.ab h,cY]
     | true =>
       rw[hm3,cond_true] at h
       rw[if_pos rfl]
       obtain ⟨b,fr',h1,h2,h3⟩:=iF h
       rw[cY] at h1 h2
       rw[h1]
       cases b with
       | true =>
         simp only[if_true] at h3
         rw[← Tr.ab h3,h2]
       | false =>
         simp only[Bool.false_eq_true,if_false] at h3
         cases H with
         | nil =>
           dsimp only at h3
           rw[← Tr.ab h3,← h2];rfl
         | cons l r =>
           dsimp only at h3
           show qm (aT (strip fr) m) (l::r)=_
           rw[← h2]
           unfold qm
           dsimp only
           cases hl:l.lock with
           | true =>
             rw[hl,cond_true] at h3
             rw[if_pos rfl,← Tr.ab h3]
           | false =>
             rw[hl,cond_false] at h3
             obtain ⟨z,h4,h5⟩:=Tr.bind_some h3
             have h4:=m7 _ _ _ _ h4
             rw[bN] at h4
             rw[if_neg (by simp),h4,← Tr.ab h5]
   | true =>
     rw[hm2,cond_true] at h
     rw[if_pos rfl]
     have h1:=vK h
     rw[cY] at h1
     exact h1
 | true =>
   rw[hm,cond_true] at h
   rw[if_pos rfl]
   cases H with
   | nil =>
     rw[← Tr.ab h,cY]
     simp only[yc,Ac,ite_self]
   | cons l r =>
     dsimp only at h
     unfold yc
     dsimp only
     cases hl:l.lock with
     | true =>
       rw[hl,cond_true] at h
       simp only[if_true]
       rw[← Tr.ab h,cY]
       simp only[Ac,hl,if_true,ite_self]
     | false =>
       rw[hl,cond_false] at h
       obtain ⟨z,h1,h⟩:=Tr.bind_some h
       have h1:=oP _ _ _ _ h1
       rw[bN,cY] at h1
       simp only[Bool.false_eq_true,if_false,h1]
       rw[← Tr.ab h]
       cases Nat.beq (Nat.shiftRight m 4003) 0<;>rfl
def bG (cx:Cx) (callR:aQ) (bl:iT) (rg:ss):Code→aA→aa→Tr lY
 | .skip,fr,H=>.ok (.normal,fr,H)
 | .label _,fr,H=>.ok (.normal,fr,H)
 | .exit id,fr,H=>.ok (.exit id,fr,H)
 | .goto l,fr,H=>.ok (.goto l,fr,H)
 | .ret,fr,H=>.ok (.ret,fr,H)
 | .region id ops draw,fr,H =>
   (cond draw (cond (c9 ops (Region.before ops)) (kZ cx.P cx.nt cx.call callR ops (Region.before ops) ops.toList 0 fr (jd H (bk ops.toList)) (dx H) []) .bad) (fh cx.P cx.nt cx.call callR ops ops.toList fr H)).bind fun x=>(vJ (cx.kt id) x.1 x.2).bind fun y=>.ok (.normal,y.1,y.2)
 | .seq a b,fr,H=>(bG cx callR bl rg a fr H).bind fun x=>match x with
   | (.normal,fr,H)=>bG cx callR bl rg b fr H
   | r=>.ok r
 | .cond c a b,fr,H=>match c with
   | .tmp d=>ru fr d (fun fr=>bG cx callR bl rg a fr H) (fun fr=>bG cx callR bl rg b fr H)
   | c=>match (a6 fr c).1 with
     | .bool t=>cond t (bG cx callR bl rg a fr H) (bG cx callR bl rg b fr H)
     | _=>.bad
 | .block id b,fr,H=>match bl id fr H with
   | some t=>t
   | none=>(bG cx callR bl rg b fr H).bind fun x=>match x with
     | (.exit id',fr,H)=>cond (Nat.beq id' id) (.ok (.normal,fr,H)) (.ok (.exit id',fr,H))
     | r=>.ok r
 | .scope b,fr,H=>(bG cx callR bl rg b fr H).bind fun x=>match x with
   | (.goto _,_,_)=>.bad
   | r=>.ok r
 | .rangeFunc f _ _ _,fr,H=>match rg f fr H with
   | some t=>t
   | none=>.bad
 | .loop b,fr,H=>cond (Nat.ble 12 cx.fu) (w6 (bG cx callR bl rg b) (dx H) 12 fr H) .bad
 | .refuse _,_,_=>.bad

theorem gE {cx:Cx} {callR:aQ} {bl:iT} {rg:ss} (hC:callR.Ok cx.call):∀ (c:Code),bl.Ok cx c→rg.Ok cx c→∀ (fr:aA) (H:aa) (x:lY),(bG cx callR bl rg c fr H).run=some x→exec cx c (strip fr) H=some x.st:=by
 intro c
 induction c with
 | skip=>intro _ _ fr H x h;rw[← Tr.ab h];rfl
 | label=>intro _ _ fr H x h;rw[← Tr.ab h];rfl
 | exit=>intro _ _ fr H x h;rw[← Tr.ab h];rfl
 | goto=>intro _ _ fr H x h;rw[← Tr.ab h];rfl
 | ret=>intro _ _ fr H x h;rw[← Tr.ab h];rfl
 | refuse=>intro _ _ fr H x h;exact (Tr.ad h).elim
 | loop b ih =>
   intro hb hr fr H x h
   simp only[bG] at h
   obtain ⟨hk,h⟩:=Tr.ay h
   rw[Nat.ble_eq] at hk
   unfold exec
   rw[ei] at h
   exact qX _ _ _ _ _ (s6 (fun fr H x h=>ih hb hr fr H x h) 12 fr H x h) hk
 | rangeFunc f ps a b =>
   intro _ hr fr H x h
   simp only[bG] at h
   split at h
   · rename_i t ht
     exact hr f ps a b (by simp[cQ]) fr H t x ht h
   · exact (Tr.ad h).elim
 | region id ops draw =>
   intro _ _ fr H x h
   simp only[bG] at h
   obtain ⟨y,h1,h⟩:=Tr.bind_some h
   obtain ⟨z,h2,h⟩:=Tr.bind_some h
   have h2:=yd h2
   rw[← Tr.ab h]
   unfold exec
   cases draw with
   | true =>
     rw[cond_true] at h1
     obtain ⟨hs,h1⟩:=Tr.ay h1
     rw[ei] at h1
     simp only[if_true,hs]
     rw[mW hC _ _ _ _ _ _ _ h1]
     dsimp only
     rw[h2]
     rfl
   | false =>
     rw[cond_false] at h1
     simp only[Bool.false_eq_true,if_false]
     rw[dz hC _ _ _ _ h1]
     dsimp only
     rw[h2]
     rfl
 | seq a b iha ihb =>
   intro hb hr fr H x h
   have hba:bl.Ok cx a:=fun id b' hm=>hb id b' (List.mem_append_left _ hm)
   have hbb:bl.Ok cx b:=fun id b' hm=>hb id b' (List.mem_append_right _ hm)
   have hra:rg.Ok cx a:=fun f ps u v hm=>hr f ps u v (List.mem_append_left _ hm)
   have hrb:rg.Ok cx b:=fun f ps u v hm=>hr f ps u v (List.mem_append_right _ hm)
   simp only[bG] at h
   obtain ⟨y,h1,h⟩:=Tr.bind_some h
   have h1:=iha hba hra _ _ _ h1
   unfold exec
   rw[h1]
   obtain ⟨e,fr1,H1⟩:=y
   cases e
   case normal=>exact ihb hbb hrb _ _ _ h
   all_goals
    have h:=Tr.ab h
    rw[← h];rfl
 | cond c a b iha ihb =>
   intro hb hr fr H x h
   have hba:bl.Ok cx a:=fun id b' hm=>hb id b' (List.mem_append_left _ hm)
   have hbb:bl.Ok cx b:=fun id b' hm=>hb id b' (List.mem_append_right _ hm)
   have hra:rg.Ok cx a:=fun f ps u v hm=>hr f ps u v (List.mem_append_left _ hm)
   have hrb:rg.Ok cx b:=fun f ps u v hm=>hr f ps u v (List.mem_append_right _ hm)
   simp only[bG] at h
   unfold exec
   split at h
   · rename_i d
     obtain ⟨b',fr',h1,h2,h3⟩:=iF h
     have e:aR (strip fr) (.tmp d)=.bool b':=h1
     rw[e,← h2]
     cases b' with
     | true=>exact iha hba hra _ _ _ h3
     | false=>exact ihb hbb hrb _ _ _ h3
   · rename_i c' hne
     rw[aB] at h
     split at h
     · rename_i t hc
       rw[hc]
       cases t with
       | true=>exact iha hba hra _ _ _ h
       | false=>exact ihb hbb hrb _ _ _ h
     · exact (Tr.ad h).elim
 | block id b ih =>
   intro hb hr fr H x h
   have hbb:bl.Ok cx b:=fun id' b' hm=>hb id' b' (by simp only[bf];exact List.mem_cons_of_mem _ hm)
   simp only[bG] at h
   split at h
   · rename_i t ht
     exact hb id b (by simp[bf]) _ _ _ _ ht h
   · obtain ⟨y,h1,h⟩:=Tr.bind_some h
     have h1:=ih hbb hr _ _ _ h1
     unfold exec
     rw[h1]
     obtain ⟨e,fr1,H1⟩:=y
     cases e
     case exit id' =>
      dsimp only[lY.st] at h ⊢
      rw[dO] at h
      split at h
      · rename_i ql
        rw[if_pos ql,← Tr.ab h]
      · rename_i ql
        rw[if_neg ql,← Tr.ab h]
     all_goals
      have h:=Tr.ab h
      rw[← h];rfl
 | scope b ih =>
   intro hb hr fr H x h
   simp only[bG] at h
   obtain ⟨y,h1,h⟩:=Tr.bind_some h
   have h1:=ih hb hr _ _ _ h1
   unfold exec
   rw[h1]
   obtain ⟨e,fr1,H1⟩:=y
   cases e
   case goto=>exact (Tr.ad h).elim
   all_goals
    have h:=Tr.ab h
    rw[← h];rfl

end
end Go.Eng
end
section
namespace Go.Eng
noncomputable section

def jV   (bs:List (Nat×aN)):Nat→AV→Tr AV
 | 0,_=>.ok .undef
 | n + 1,v=>match v with
   | .ptr d i ver off=>match d with
     | d+1=>.ok (.ptr d i ver off)
     | 0 => match vT bs i with
       | (w,.row r)=>cond (Nat.beq w ver) (match r with
         | .I k l=>.ok (.ptrT none (.I k l) off)
         | .F f m=>.ok (.ptrT none (.F f m) off)
         | .M l=>cond (dN l) (.ok (.ptrT none (.M l) off)) ((jo (jV bs n) l).bind fun m=>.ok (.ptrT (some 0) (.M m) off))
         | .G l=>(kr (jV bs n) l).bind fun m=>.ok (.ptrT (some 0) (.G m) off)) .bad
       | _=>.bad
   | .slc d i ver off sz len cap=>match d with
     | d+1=>.ok (.slc d i ver off sz len cap)
     | 0 => match vT bs i with
       | (w,.row r)=>.req (qf w ver) (match r with
         | .M [.arr k z N]=>.req (vm off (fG len sz) 0 N) (.ok (.slcT none (.M [.arr k (AI z off) (fG len sz)]) sz len (mU cap len)))
         | .I k l=>cond (qj (.I k l) off (Nat.mul len sz)) (.ok (.slcT none (.I k (eZ (iJ l off) (Nat.mul len sz))) sz len (mU cap len))) .bad
         | .F f N=>.req (vm off (fG len sz) 0 N) (.ok (.slcT none (.F (fun j=>f (dM off j)) (fG len sz)) sz len (mU cap len)))
         | .G l=>cond (qj (.G l) off (Nat.mul len sz)) ((kr (jV bs n) (eZ (iJ l off) (Nat.mul len sz))).bind fun m=>.ok (.slcT (some 0) (.G m) sz len (mU cap len))) .bad
         | _=>.bad)
       | _=>.bad
   | .ptrT s r off=>match s with
     | none=>.ok (.ptrT none r off)
     | some (s+1)=>.ok (.ptrT (some s) r off)
     | some 0=>match r with
       | .G l=>(kr (jV bs n) l).bind fun m=>.ok (.ptrT (some 0) (.G m) off)
       | .M l=>cond (dN l) (.ok (.ptrT none (.M l) off)) ((jo (jV bs n) l).bind fun m=>.ok (.ptrT (some 0) (.M m) off))
       | r=>.ok (.ptrT none r off)
   | .slcT s r sz len full=>match s with
     | none=>.ok (.slcT none r sz len full)
     | some (s+1)=>.ok (.slcT (some s) r sz len full)
     | some 0=>match r with
       | .G l=>(kr (jV bs n) l).bind fun m=>.ok (.slcT (some 0) (.G m) sz len full)
       | .M l=>cond (dN l) (.ok (.slcT none (.M l) sz len full)) ((jo (jV bs n) l).bind fun m=>.ok (.slcT (some 0) (.M m) sz len full))
       | r=>.ok (.slcT none r sz len full)
   | .map d i=>match d with
     | d+1=>.ok (.map d i)
     | 0=>.ok .undef
   | .yld d i=>match d with
     | d+1=>.ok (.yld d i)
     | 0=>.ok .undef
   | .fn f a b=>(kr (jV bs n) a).bind fun a'=>(kr (jV bs n) b).bind fun b'=>.ok (.fn f a' b')
   | .agg r=>match r with
     | .G l=>(kr (jV bs n) l).bind fun m=>.ok (.agg (.G m))
     | .M l=>(jo (jV bs n) l).bind fun m=>.ok (.agg (.M m))
     | r=>.ok (.agg r)
   | .tup l=>(kr (jV bs n) l).bind fun m=>.ok (.tup m)
   | v=>.ok v
theorem wP (bs:List (Nat×aN)):∀ (n:Nat) (v u:AV),(jV bs n v).run=some u→bI bs n v=u
 | 0,v,u,h=>Tr.ab h
 | n + 1,v,  u,h=>by
   have ih:=wP bs n
   simp only[jV,nR] at h
   cases v with
   | ptr d i ver off =>
     cases d with
     | succ d=>exact Tr.ab h
     | zero =>
       dsimp only at h
       simp only[bI]
       split at h
       · rename_i w r hg
         obtain ⟨hw,h⟩:=Tr.ay h
         rw[hg]
         dsimp only
         rw[if_pos hw]
         cases r with
         | I k l=>exact Tr.ab h
         | F f m=>exact Tr.ab h
         | G l =>
           obtain ⟨m,h1,h⟩:=Tr.bind_some h
           rw[← Tr.ab h,← c6 ih _ _ h1]
         | M l =>
           dsimp only at h ⊢
           cases ha:dN l with
           | true=>rw[ha,cond_true] at h;rw[if_pos rfl];exact Tr.ab h
           | false =>
             rw[ha,cond_false] at h
             obtain ⟨m,h1,h⟩:=Tr.bind_some h
             rw[if_neg (by simp),← Tr.ab h,← eK ih _ _ h1]
       · exact (Tr.ad h).elim
   | slc d i ver off sz len cap =>
     cases d with
     | succ d=>exact Tr.ab h
     | zero =>
       dsimp only at h
       simp only[bI]
       split at h
       · rename_i w r hg
         obtain ⟨hw,h'⟩:=Tr.au h
         clear h
         rw[dP,decide_eq_true_eq] at hw
         subst hw
         rw[hg]
         dsimp only
         split at h'
         · rename_i k z N
           have h:=h'
           obtain ⟨hc,h⟩:=Tr.au h
           rw[gl,decide_eq_true_eq,bw] at hc
           rw[if_pos ⟨by simp,by simp only[Row.len,ai,ar];omega⟩,← Tr.ab h,gz,bw,jC]
           simp only[Row.sub,dN,if_true]
         · have h:=h'
           obtain ⟨hc,h⟩:=Tr.ay h
           rw[ib,decide_eq_true_eq] at hc
           rw[if_pos ⟨by simp,hc⟩,← Tr.ab h,gz,dZ,eH]
           rfl
         · have h:=h'
           obtain ⟨hc,h⟩:=Tr.au h
           rw[gl,decide_eq_true_eq,bw] at hc
           rw[if_pos ⟨by simp,by simp only[Row.len];omega⟩,← Tr.ab h,gz,bw]
           simp only[Row.sub,bc]
         · have h:=h'
           obtain ⟨hc,h⟩:=Tr.ay h
           rw[ib,decide_eq_true_eq] at hc
           obtain ⟨m,h1,h⟩:=Tr.bind_some h
           rw[dZ,eH] at h1
           rw[if_pos ⟨by simp,hc⟩,← Tr.ab h,gz,← c6 ih _ _ h1]
           rfl
         · exact (Tr.ad h').elim
       · exact (Tr.ad h).elim
   | ptrT s r off =>
     cases s with
     | none=>exact Tr.ab h
     | some s =>
       cases s with
       | succ s=>exact Tr.ab h
       | zero =>
         simp only[bI]
         cases r with
         | I k l=>exact Tr.ab h
         | F f m=>exact Tr.ab h
         | G l =>
           obtain ⟨m,h1,h⟩:=Tr.bind_some h
           rw[← Tr.ab h,← c6 ih _ _ h1]
         | M l =>
           dsimp only at h ⊢
           cases ha:dN l with
           | true=>rw[ha,cond_true] at h;rw[if_pos rfl];exact Tr.ab h
           | false =>
             rw[ha,cond_false] at h
             obtain ⟨m,h1,h⟩:=Tr.bind_some h
             rw[if_neg (by simp),← Tr.ab h,← eK ih _ _ h1]
   | slcT s r sz len full =>
     cases s with
     | none=>exact Tr.ab h
     | some s =>
       cases s with
       | succ s=>exact Tr.ab h
       | zero =>
         simp only[bI]
         cases r with
         | I k l=>exact Tr.ab h
         | F f m=>exact Tr.ab h
         | G l =>
           obtain ⟨m,h1,h⟩:=Tr.bind_some h
           rw[← Tr.ab h,← c6 ih _ _ h1]
         | M l =>
           dsimp only at h ⊢
           cases ha:dN l with
           | true=>rw[ha,cond_true] at h;rw[if_pos rfl];exact Tr.ab h
           | false =>
             rw[ha,cond_false] at h
             obtain ⟨m,h1,h⟩:=Tr.bind_some h
             rw[if_neg (by simp),← Tr.ab h,← eK ih _ _ h1]
   | map d i=>cases d<;>exact Tr.ab h
   | yld d i=>cases d<;>exact Tr.ab h
   | fn f a b =>
     obtain ⟨a',h1,h⟩:=Tr.bind_some h
     obtain ⟨b',h2,h⟩:=Tr.bind_some h
     simp only[bI]
     rw[← Tr.ab h,← c6 ih _ _ h1,← c6 ih _ _ h2]
   | agg r =>
     simp only[bI]
     cases r with
     | I k l=>exact Tr.ab h
     | F f m=>exact Tr.ab h
     | G l =>
       obtain ⟨m,h1,h⟩:=Tr.bind_some h
       rw[← Tr.ab h,← c6 ih _ _ h1]
     | M l =>
       obtain ⟨m,h1,h⟩:=Tr.bind_some h
       rw[← Tr.ab h,← eK ih _ _ h1]
   | tup l =>
     obtain ⟨m,h1,h⟩:=Tr.bind_some h
     simp only[bI]
     rw[← Tr.ab h,← c6 ih _ _ h1]
   | _=>exact Tr.ab h

def Bb (l:List HV):Nat→aA:=List.rec (motive:=fun _=>Nat→aA) (fun _=>[]) (fun v _ ih x=>(x,(iS 1 v.1,v.2))::ih (Nat.succ x)) l
theorem rD:∀ (l:List HV) (x:Nat),strip (Bb l x)=dv x (oh l)
 | [],x=>rfl
 | v::l,x=>by
   have e:Bb (v::l) x=(x,(iS 1 v.1,v.2))::Bb l (x+1):=rfl
   rw[e,bF,rD l];rfl
def hints (f:aq):aA:=List.rec (motive:=fun _=>aA) [] (fun p _ ih=>(p.1,(p.2,none))::ih) f
theorem cr:∀ f:aq,strip (hints f)=f
 | []=>rfl
 | (x,v)::r=>by
   have e:hints ((x,v)::r)=(x,(v,none))::hints r:=rfl
   rw[e,bF,cr r]
def vZ (P:Program) (fr:aA) (H:aa):List ResultVar→Tr (List AV)
 | []=>.ok []
 | .tmp t::r=>(vZ P fr H r).bind fun l=>.ok ((iL fr t).1::l)
 | .cell a t::r=>(loadT P H t (a6 fr (.tmp a))).bind fun v=>(vZ P fr H r).bind fun l=>.ok (v::l)
theorem r8 {P:Program} {fr:aA} {H:aa}:∀ (l:List ResultVar) (vs:List AV),(vZ P fr H l).run=some vs→eu P (strip fr) H l=some vs
 | [],vs,h=>by rw[← Tr.ab h];rfl
 | .tmp t::r,vs,h=>by
   simp only[vZ] at h
   obtain ⟨l,h1,h⟩:=Tr.bind_some h
   simp only[eu]
   rw[r8 r l h1,← Tr.ab h,df];rfl
 | .cell a t::r,vs,h=>by
   simp only[vZ] at h
   obtain ⟨v,h0,h⟩:=Tr.bind_some h
   obtain ⟨l,h1,h⟩:=Tr.bind_some h
   have h0:=tj h0
   rw[aB] at h0
   simp only[eu]
   have e:aR (strip fr) (.tmp a)=aO (strip fr) a:=rfl
   rw[e] at h0
   rw[h0]
   dsimp only
   rw[r8 r l h1,← Tr.ab h];rfl
def CN (fr:aA) (rs:List ResultVar):Option Nat :=
 match rs with
 | [.tmp t]=>(iL fr t).2
 | _=>none
def EB (P:Program) (rs:List ResultVar) (x:lY):Tr (HV×aa) :=
 match x with
 | (e,fr,l::H)=>match e with
   | .normal | .ret=>(vZ P fr (l::H) rs).bind fun vs=>(jV l.bs 5 (one vs)).bind fun v=>.ok ((v,CN fr rs),H)
   | _=>.bad
 | _=>.bad
theorem xo {P:Program} {rs:List ResultVar} {x:lY} {y:HV×aa} (h:(EB P rs x).run=some y):∃ l vs,x.2.2=l::y.2∧(x.1=.normal∨x.1=.ret)∧eu P (strip x.2.1) x.2.2 rs=some vs∧bI l.bs 5 (one vs)=y.1.1:=by
 unfold EB at h
 split at h
 · rename_i e fr l H
   have key:((vZ P fr (l::H) rs).bind fun vs=>(jV l.bs 5 (one vs)).bind fun v=>Tr.ok (((v,CN fr rs),H):HV×aa)).run=some y→∃ vs,l::H=l::y.2∧eu P (strip fr) (l::H) rs=some vs∧bI l.bs 5 (one vs)=y.1.1:=by
    intro h
    obtain ⟨vs,h1,h⟩:=Tr.bind_some h
    obtain ⟨v,h2,h⟩:=Tr.bind_some h
    have h:=Tr.ab h
    refine ⟨vs,by rw[← h],r8 _ _ h1,?_⟩
    rw[wP _ _ _ _ h2,← h]
   split at h
   · obtain ⟨vs,h1,h2,h3⟩:=key h;exact ⟨l,vs,h1,.inl rfl,h2,h3⟩
   · obtain ⟨vs,h1,h2,h3⟩:=key h;exact ⟨l,vs,h1,.inr rfl,h2,h3⟩
   · exact (Tr.ad h).elim
 · exact (Tr.ad h).elim
def kX (P:Program) (call:ak) (fu:Nat) (f:FuncId) (fn:Func) (kt:Nat→Nat) (callR:aQ) (bl:iT) (rg:ss) (args:List HV) (H:aa):Tr (HV×aa) :=
 (bG ⟨P,call,fu,f,fn.ntmps,kt,none⟩ callR bl rg (eR fn) (Bb args 0) (⟨false,[]⟩::H)).bind fun x=>EB P fn.results.toList x
theorem y8 {P:Program} {ora:ak→FuncId→List AV→aa→Option (AV×aa)} {KT:FuncId→Nat→Nat} {fu n:Nat} {f:FuncId} {fn:Func} (hf:P.funcs[f]?=some fn) (hb:fn.body.isSome=true) {args:List HV} {H:aa} (ho:ora (bY P ora KT fu n) f (oh args) H=none) (hle:Nat.ble args.length fn.ntmps=true)
 {callR:aQ} (hC:callR.Ok (bY P ora KT fu n)) {bl:iT} (hB:bl.Ok ⟨P,bY P ora KT fu n,fu,f,fn.ntmps,KT f,none⟩ (eR fn)) {rg:ss} (hR:rg.Ok ⟨P,bY P ora KT fu n,fu,f,fn.ntmps,KT f,none⟩ (eR fn)) {y:HV×aa}
 (h:(kX P (bY P ora KT fu n) fu f fn (KT f) callR bl rg args H).run=some y):bY P ora KT fu (n+1) (.fn f) (oh args) H=some (y.1.1,y.2):=by
 unfold kX at h
 obtain ⟨x,h1,h⟩:=Tr.bind_some h
 have h1:=gE hC _ hB hR _ _ _ h1
 rw[rD] at h1
 obtain ⟨l,vs,k1,k2,k3,k4⟩:=xo h
 obtain ⟨c,hc⟩:=Option.isSome_iff_exists.1 hb
 have hbody:eR fn=c:=by unfold eR;rw[hc]
 rw[hbody] at h1
 obtain ⟨e,fr,H1⟩:=x
 dsimp only[lY.st] at h1 k1 k2 k3
 rw[k1] at h1 k3
 have hl:(oh args).length=args.length:=by unfold oh;rw[ff,List.length_map]
 simp only[bY,ho,hf,hc,hl,hle,if_true,h1]
 rcases k2 with rfl | rfl<;>simp only[k3]<;>rw[k4]

theorem iK {cx:Cx} {id:Nat} {b:Code} {fr fr1:aq} {H H1:aa} (h:iter (exec cx b) (aC H) cx.fu fr H=some (.exit id,fr1,H1)):exec cx (.block id (.loop b)) fr H=some (.normal,fr1,H1):=by
 unfold exec
 have:exec cx (.loop b) fr H=some (.exit id,fr1,H1):=by unfold exec;exact h
 rw[this]
 dsimp only
 rw[if_pos (by simp)]
theorem iO {cx:Cx} {id:Nat} {b:Code} {fr fr1:aq} {H H1:aa} {e:Ex} (he:∀ id',e=.exit id'→Nat.beq id' id=false) (h:iter (exec cx b) (aC H) cx.fu fr H=some (e,fr1,H1)):exec cx (.block id (.loop b)) fr H=some (e,fr1,H1):=by
 unfold exec
 have:exec cx (.loop b) fr H=some (e,fr1,H1):=by unfold exec;exact h
 rw[this]
 cases e with
 | exit id'=>dsimp only;rw[if_neg (by rw[he id' rfl];simp)]
 | _=>rfl
def fN (p:Nat→Bool):Nat→Nat→Nat
 | 0,j=>j
 | k+1,j=>if p j then j else fN p k (j+1)
theorem rM (p:Nat→Bool):∀ (k j:Nat),j≤fN p k j∧fN p k j≤j+k∧(∀ i,j≤i→i<fN p k j→p i=false)∧(fN p k j<j+k→p (fN p k j)=true)
 | 0,j=>⟨Nat.le_refl _,Nat.le_refl _,fun i h1 h2=>absurd h2 (by simp only[fN];omega),fun h=>absurd h (by simp only[fN];omega)⟩
 | k + 1,j=>by
   simp only[fN]
   by_cases h:p j=true
   · rw[if_pos h]
     exact ⟨Nat.le_refl _,by omega,fun i h1 h2=>by omega,fun _=>h⟩
   · rw[if_neg h]
     obtain ⟨h1,h2,h3,h4⟩:=rM p k (j+1)
     refine ⟨by omega,by omega,fun i k1 k2=>?_,fun k1=>h4 (by omega)⟩
     by_cases e:i=j
     · subst e;simpa using h
     · exact h3 i (by omega) k2
theorem mA {body:aq→aa→Option (Ex×aq×aa)} {n:Nat} (F:Nat→aq) (G:Nat→aa) (N:Nat) (p:Nat→Bool) (X:Nat→Ex×aq×aa)
 (hs:∀ j,j<N→p j=false→∃ f g,body (F j) (G j)=some (.normal,f,g)∧tidy n f g=(F (j+1),G (j+1)))
 (hh:∀ j,j<N→p j=true→body (F j) (G j)=some (X j)∧(X j).1≠.normal) (he:body (F N) (G N)=some (X N)∧(X N).1≠.normal) :
 ∀ (k j fu:Nat),j+k=N→k<fu→iter body n fu (F j) (G j)=some (X (fN p k j))
 | 0,j,0,_,h=>by omega
 | 0,j,fu+1,hj,_=>by
   have:j=N:=by omega
   subst this
   unfold iter
   rw[he.1]
   obtain ⟨x,hx⟩:∃ x,x=X j:=⟨_,rfl⟩
   have hn:=he.2
   simp only[fN]
   rw[← hx] at hn ⊢
   obtain ⟨e,f,g⟩:=x
   cases e<;>first | exact absurd rfl hn | rfl
 | k+1,j,0,_,h=>by omega
 | k + 1,j,fu+1,hj,hf=>by
   unfold iter
   cases hp:p j with
   | true =>
     obtain ⟨h1,h2⟩:=hh j (by omega) hp
     rw[h1]
     simp only[fN]
     rw[if_pos hp]
     obtain ⟨x,hx⟩:∃ x,x=X j:=⟨_,rfl⟩
     rw[← hx] at h2 ⊢
     obtain ⟨e,f,g⟩:=x
     cases e<;>first | exact absurd rfl h2 | rfl
   | false =>
     obtain ⟨f,g,h1,h2⟩:=hs j (by omega) hp
     rw[h1]
     dsimp only
     rw[h2]
     simp only[fN]
     rw[if_neg (by rw[hp];simp)]
     exact mA F G N p X hs hh he k (j+1) fu (by omega) (by omega)
end
end Go.Eng
end
