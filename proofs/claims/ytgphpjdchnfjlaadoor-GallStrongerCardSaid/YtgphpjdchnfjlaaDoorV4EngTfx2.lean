/- The engine as a tree: regions, code, calls. -/
import Derived.Test.YtgphpjdchnfjlaaDoorV4EngTe
set_option linter.unusedVariables false
set_option linter.unusedSimpArgs false
section
namespace Go.Eng
noncomputable section

def vq (f:aO) (y:Nat) (b:Bool):aO:=List.rec (motive:=fun _=>aO) [] (fun p r ih=>Bool.rec (motive:=fun _=>aO) (p::ih) ((p.1,(.bool b,some 1))::r) (Nat.beq p.1 y)) f
theorem sQ:∀ (f:aO) (y:Nat) (b:Bool),bL (strip f) y=.bool b→strip (vq f y b)=strip f
 | [],y,b,_=>rfl
 | (x,v)::r,y,b,h=>by
   have e:vq ((x,v)::r) y b=Bool.rec (motive:=fun _=>aO) ((x,v)::vq r y b) ((x,(.bool b,some 1))::r) (Nat.beq x y):=rfl;rw[cX,bL] at h;rw[e];cases hb:Nat.beq x y with
   | true =>
     rw[hb] at h;have h:v.1=.bool b:=h;show (x,AV.bool b)::strip r=(x,v.1)::strip r;rw[h]
   | false =>
     rw[hb] at h;show (x,v.1)::strip (vq r y b)=(x,v.1)::strip r;rw[sQ r y b h]
def vN {α:Type} (fr:aO) (d:Nat) (t e:aO→Tr α):Tr α :=
 match lC fr d with
 | (.bool b,none)=>.ite b (t (vq fr d true)) (e (vq fr d false))
 | (.bool b,some _)=>cond b (t fr) (e fr)
 | _=>.bad
theorem lx {α:Type} {fr:aO} {d:Nat} {t e:aO→Tr α} {x:α} (h:(vN fr d t e).run=some x):∃ b fr',bL (strip fr) d=.bool b∧strip fr'=strip fr∧(if b then t fr' else e fr').run=some x:=by
 unfold vN at h;split at h
 · rename_i b hg;have hg':bL (strip fr) d=.bool b:=by rw[← fb,hg]
   rcases Tr.kh h with ⟨rfl,h⟩ | ⟨rfl,h⟩
   · exact ⟨true,_,hg',sQ _ _ _ hg',h⟩
   · exact ⟨false,_,hg',sQ _ _ _ hg',h⟩
 · rename_i b n hg;have hg':bL (strip fr) d=.bool b:=by rw[← fb,hg]
   refine ⟨b,fr,hg',rfl,?_⟩;cases b<;>exact h
 · exact (Tr.ag h).elim
def Dm (ops:Array Oper) (fr:aO) (o:Oper):Tr (Bool×aO) :=
 match o.guard with
 | none=>.ok (true,fr)
 | some (j,want)=>match (ops[j]?).bind (·.dst) with
   | none=>.bad
   | some d=>match (lC fr d).1 with
     | .bool _=>cond want (vN fr d (fun fr=>.ok (true,fr)) (fun fr=>.ok (false,fr))) (vN fr d (fun fr=>.ok (false,fr)) (fun fr=>.ok (true,fr)))
     | .tup _=>.ok (false,fr)
     | _=>.bad
theorem Ad {ops:Array Oper} {fr:aO} {o:Oper} {r:Bool×aO} (h:(Dm ops fr o).run=some r):lG ops (strip fr) o=(if r.1 then .run else .skip)∧strip r.2=strip fr:=by
 unfold Dm at h;unfold lG;cases hg:o.guard with
 | none =>
   rw[hg] at h;rw[← Tr.ab h];exact ⟨rfl,rfl⟩
 | some jw =>
   obtain ⟨j,want⟩:=jw;rw[hg] at h;dsimp only at h ⊢;cases hd:(ops[j]?).bind (·.dst) with
   | none=>rw[hd] at h;exact (Tr.ag h).elim
   | some d =>
     rw[hd] at h;dsimp only at h ⊢;have he:=fb fr d;rw[he] at h;cases hv:bL (strip fr) d<;>rw[hv] at h<;>try exact (Tr.ag h).elim
     case bool b =>
      dsimp only at h ⊢
      cases want with
      | true =>
        rw[cond_true] at h
        obtain ⟨b',fr',h1,h2,h3⟩:=lx h
        rw[hv] at h1
        cases h1
        cases b<;>(have h3:=Tr.ab h3;rw[← h3];exact ⟨rfl,h2⟩)
      | false =>
        rw[cond_false] at h
        obtain ⟨b',fr',h1,h2,h3⟩:=lx h
        rw[hv] at h1
        cases h1
        cases b<;>(have h3:=Tr.ab h3;rw[← h3];exact ⟨rfl,h2⟩)
     case tup l=>rw[← Tr.ab h];exact ⟨rfl,rfl⟩

def iF (P:Program) (nt:Nat) (call:aI) (callR:bp) (ops:Array Oper):List Oper→aO→aa→Tr (aO×aa)
 | [],fr,H=>.ok (fr,H)
 | o::r,fr,H=>(Dm ops fr o).bind fun b=>cond b.1
   ((OF o.op o P call callR b.2 H (wB H)).bind fun y=>iF P nt call callR ops r (qN nt b.2 o.dst y.1) (R3 y.2 H))
   (iF P nt call callR ops r (qN nt b.2 o.dst (.tup [],none)) H)
theorem fq {P:Program} {nt:Nat} {call:aI} {callR:bp} (hC:callR.Ok call) {ops:Array Oper}:∀ (l:List Oper) (fr:aO) (H:aa) (x:aO×aa),(iF P nt call callR ops l fr H).run=some x→eZ P nt call ops l (strip fr) H=some (strip x.1,x.2)
 | [],fr,H,x,h=>by rw[← Tr.ab h];rfl
 | o :: r,fr,H,x,h=>by
   simp only[iF] at h;obtain ⟨b,h1,h⟩:=Tr.bind_some h;unfold eZ;obtain ⟨hw,hs⟩:=Ad h1;rw[hw,← hs];obtain ⟨b,fr1⟩:=b;dsimp only at h ⊢;cases b with
   | false =>
     have:=fq hC r _ _ _ h;rw[mw] at this;exact this
   | true =>
     rw[cond_true] at h;obtain ⟨y,h2,h⟩:=Tr.bind_some h;have h2:=Bg hC h2;rw[pV] at h2;have:=fq hC r _ _ _ h;rw[mw,Me] at this;rw[if_pos rfl];dsimp only;rw[h2];exact this

def po (fr:aO) (o:Oper):Touch:=tz (strip fr) o
def pN (P:Program) (call:aI) (callR:bp) (ops:Array Oper) (bef:Nat) (dV:aO) (H:aa) (nx:Nat) (recs:List Rec) (o:Oper):Tr (uk×Option Nat×aO) :=
 (Dm ops dV o).bind fun b=>cond b.1
   (cond (fj o) ((OF o.op o P call callR b.2 (sL (l7 bef recs H)) nx).bind fun y=>.ok (⟨y.1.1,.all,none⟩,y.1.2,b.2))
     ((OF o.op o P call callR b.2 (l7 bef recs H) nx).bind fun y=>match y.2 with
       | .bz=>.ok (⟨y.1.1,po b.2 o,none⟩,y.1.2,b.2)
       | .push q=>cond (jz o && !mb q && rv (nq H 0 nx) && !jO H 0) (.ok (⟨y.1.1,po b.2 o,some (0,nx,(0,q))⟩,y.1.2,b.2)) .bad
       | .set d i q=>.req (bJ (dD (nq H d i).1 q.1) (dD q.1 (Nat.succ (nq H d i).1))) (cond (!mb q.2 && !mb (nq (l7 bef recs H) d i).2 && kn bef d i recs) (.ok (⟨y.1.1,po b.2 o,some (d,i,q)⟩,y.1.2,b.2)) .bad)
       | _=>.bad))
   (.ok (⟨.tup [],.none,none⟩,none,b.2))
theorem vZ {P:Program} {call:aI} {callR:bp} (hC:callR.Ok call) {ops:Array Oper} {bef:Nat} {fr:aO} {H:aa} {nx:Nat} {recs:List Rec} {o:Oper} {e:uk×Option Nat×aO} (h:(pN P call callR ops bef fr H nx recs o).run=some e) :
 gJ P call ops bef (strip fr) H nx recs o=some e.1∧strip e.2.2=strip fr:=by
 unfold pN at h
 unfold gJ
 simp only[mN,yn,po,yP,oY,gh] at h
 obtain ⟨b,h1,h⟩:=Tr.bind_some h
 obtain ⟨hw,hs⟩:=Ad h1
 rw[hw,← hs]
 obtain ⟨b,fr1⟩:=b
 dsimp only at h ⊢
 cases b with
 | false =>
   rw[cond_false] at h
   rw[← Tr.ab h];exact ⟨rfl,rfl⟩
 | true =>
   rw[cond_true] at h
   rw[if_pos rfl]
   dsimp only
   cases hcv:fj o with
   | true =>
     rw[hcv,cond_true] at h
     obtain ⟨y,h2,h⟩:=Tr.bind_some h
     rw[if_pos rfl,Bg hC h2,← Tr.ab h]
     exact ⟨rfl,rfl⟩
   | false =>
     rw[hcv,cond_false] at h
     obtain ⟨y,h2,h⟩:=Tr.bind_some h
     rw[if_neg (by simp),Bg hC h2]
     split at h
     · rename_i hy
       rw[hy,← Tr.ab h];exact ⟨rfl,rfl⟩
     · rename_i b hy
       obtain ⟨hc,h⟩:=Tr.aW h
       rw[hy]
       dsimp only
       rw[if_pos hc,← Tr.ab h];exact ⟨rfl,rfl⟩
     · rename_i d i b hy
       obtain ⟨hv,h⟩:=Tr.aT h
       obtain ⟨hc,h⟩:=Tr.aW h
       rw[hy]
       dsimp only
       rw[cg,kU,kU,Bool.and_eq_true,decide_eq_true_eq,decide_eq_true_eq] at hv
       have hv':(Nat.beq b.1 (ay H d i).1 || Nat.beq b.1 (Nat.succ (ay H d i).1))=true:=by
        simp only[Bool.or_eq_true,Nat.beq_eq];omega
       simp only[Bool.and_eq_true] at hc
       rw[if_pos (by simp only[Bool.and_eq_true];exact ⟨⟨⟨hc.1.1,hv'⟩,hc.1.2⟩,hc.2⟩),← Tr.ab h];exact ⟨rfl,rfl⟩
     · exact (Tr.ag h).elim
def oK (P:Program) (nt:Nat) (call:aI) (callR:bp) (ops:Array Oper) (befs:Array Nat):List Oper→Nat→aO→aa→Nat→List Rec→Tr (aO×aa)
 | [],_,fr,H,_,_=>.ok (fr,H)
 | o::r,j,fr,H,nx,recs=>(pN P call callR ops (befs.getD j 0) fr H nx recs o).bind fun e =>
   oK P nt call callR ops befs r (j+1) (qN nt e.2.2 o.dst (e.1.v,e.2.1)) (Gz H e.1.wr) (if jz o then nx+1 else nx) (⟨j,e.1.rd,e.1.wr.map fun x=>(x.1,x.2.1)⟩::recs)
theorem qw {P:Program} {nt:Nat} {call:aI} {callR:bp} (hC:callR.Ok call) {ops:Array Oper} {befs:Array Nat}:∀ (l:List Oper) (j:Nat) (fr:aO) (H:aa) (nx:Nat) (recs:List Rec) (x:aO×aa),
 (oK P nt call callR ops befs l j fr H nx recs).run=some x→gx P nt call ops befs j l (strip fr) H nx recs=some (strip x.1,x.2)
 | [],j,fr,H,nx,recs,x,h=>by rw[← Tr.ab h];rfl
 | o::r,j,fr,H,nx,recs,x,h=>by
   simp only[oK] at h;obtain ⟨e,h1,h⟩:=Tr.bind_some h;obtain ⟨hd,hs⟩:=vZ hC h1;unfold gx;rw[hd,← hs];have:=qw hC r _ _ _ _ _ _ h;rw[mw,GA] at this;exact this

def aL:Code→List (Nat×Code)
 | .block id b=>(id,b)::aL b
 | .loop b=>aL b
 | .seq a b=>aL a++aL b
 | .cond _ a b=>aL a++aL b
 | .scope b=>aL b
 | _=>[]
def aV (f:Func):Code:=match f.body with | some c=>c | none=>.skip
abbrev eC:=Ex×aO×aa
def eC.st (x:eC):Ex×aD×aa:=(x.1,strip x.2.1,x.2.2)
abbrev eJ:=Nat→aO→aa→Option (Tr eC)
abbrev nA:=Operand→aO→aa→Option (Tr eC)
def eJ.Ok (bl:eJ) (cx:Cx) (c:Code):Prop:=∀ id b,(id,b) ∈ aL c→∀ fr H t x,bl id fr H=some t→t.run=some x→exec cx (.block id b) (strip fr) H=some x.st
def dG:Code→List (Operand×Array Tmp×Code×Code)
 | .rangeFunc f ps a b=>[(f,ps,a,b)]
 | .loop b=>dG b
 | .block _ b=>dG b
 | .seq a b=>dG a++dG b
 | .cond _ a b=>dG a++dG b
 | .scope b=>dG b
 | _=>[]
def nA.Ok (rg:nA) (cx:Cx) (c:Code):Prop:=∀ f ps a b,(f,ps,a,b) ∈ dG c→∀ fr H t x,rg f fr H=some t→t.run=some x→exec cx (.rangeFunc f ps a b) (strip fr) H=some x.st
def cM (bl:eJ) (id0:Nat) (dV:aD) (H0:aa) (u:Tr eC):eJ:=fun id fr H=>cond (Nat.beq id id0) (some (.reqP (strip fr=dV∧H=H0) u)) (bl id fr H)
theorem a8 {bl:eJ} {cx:Cx} {c:Code} (h:bl.Ok cx c) {id0:Nat} {dV:aD} {H0:aa} {u:Tr eC} {B:Code} (hB:∀ b,(id0,b) ∈ aL c→b=B) (k:∀ x,u.run=some x→exec cx (.block id0 B) dV H0=some x.st):(cM bl id0 dV H0 u).Ok cx c:=by
 intro id b hm fr H t y ht hy;unfold cM at ht;cases hb:Nat.beq id id0 with
 | true =>
   have uz:=Nat.eq_of_beq_eq_true hb;subst uz;rw[hb,cond_true,Option.some.injEq] at ht;subst ht;obtain ⟨⟨h1,h2⟩,h3⟩:=Tr.gp hy;rw[h1,h2,hB b hm];exact k y h3
 | false =>
   rw[hb,cond_false] at ht;exact h id b hm fr H t y ht hy
def Hn (rg:nA) (tf:Operand→Bool) (dV:aD) (H0:aa) (u:Tr eC):nA:=fun f fr H=>cond (tf f) (some (.reqP (strip fr=dV∧H=H0) u)) (rg f fr H)
theorem Bm {rg:nA} {cx:Cx} {c:Code} (h:rg.Ok cx c) {tf:Operand→Bool} {dV:aD} {H0:aa} {u:Tr eC} (k:∀ f ps a b,tf f=true→(f,ps,a,b) ∈ dG c→∀ x,u.run=some x→exec cx (.rangeFunc f ps a b) dV H0=some x.st):(Hn rg tf dV H0 u).Ok cx c:=by
 intro f ps a b hm fr H t y ht hy;unfold Hn at ht;cases hb:tf f with
 | true =>
   rw[hb,cond_true,Option.some.injEq] at ht;subst ht;obtain ⟨⟨h1,h2⟩,h3⟩:=Tr.gp hy;rw[h1,h2];exact k f ps a b hb hm y h3
 | false =>
   rw[hb,cond_false] at ht;exact h f ps a b hm fr H t y ht hy
def aS:eJ:=fun _ _ _=>none
def aR:nA:=fun _ _ _=>none
theorem ai (cx:Cx) (c:Code):aS.Ok cx c:=fun _ _ _ _ _ _ _ h=>by cases h
theorem aj (cx:Cx) (c:Code):aR.Ok cx c:=fun _ _ _ _ _ _ _ _ _ h=>by cases h
def yt (g:AV→AV):aO→aO
 | []=>[]
 | (x,(v,h))::r=>(x,(nf g v,h))::yt g r
theorem yu (g:AV→AV):∀ fr:aO,strip (yt g fr)=qf g (strip fr)
 | []=>rfl
 | (x,(v,h))::r=>by
   have e:yt g ((x,(v,h))::r)=(x,(nf g v,h))::yt g r:=rfl;rw[e,cX,cX,qf,yu g r]
def ly (n:Nat):Nat→aO→aa→aO×aa
 | 0,fr,H=>(fr,H)
 | k + 1,fr,H=>match H with
   | []=>(fr,[])
   | l::r=>cond (Nat.ble (kj l.bs) (Nat.succ n)) (fr,l::r) (match hole (strip fr) l.bs 4 n with
     | none=>(fr,l::r)
     | some h=>ly n k (yt (uH (l.bs.length-1) h) fr) (lW n (qf (uH (l.bs.length-1) h) (strip fr)) (xy (l.bs.length-1) h l::r)))
theorem tY (n:Nat):∀ (k:Nat) (fr:aO) (H:aa),(strip (ly n k fr H).1,(ly n k fr H).2)=jT n k (strip fr) H
 | 0,fr,H=>rfl
 | k+1,fr,[]=>rfl
 | k + 1,fr,l::r=>by
   cases hb:Nat.ble (kj l.bs) (Nat.succ n) with
   | true =>
     have:ly n (k+1) fr (l::r)=(fr,l::r):=by
      unfold ly;dsimp only;rw[hb];rfl
     rw[this,BB (by rw[ev] at hb;simpa using hb)]
   | false =>
     unfold ly jT;dsimp only;rw[hb,cond_false];cases hole (strip fr) l.bs 4 n with
     | none=>rfl
     | some h =>
       dsimp only;rw[tY n k,yu]
def Di (n:Nat) (fr:aO) (H:aa):aO×aa:=ly n 4 fr (lW n (strip fr) H)
theorem G6 (n:Nat) (fr:aO) (H:aa):(strip (Di n fr H).1,(Di n fr H).2)=tidy n (strip fr) H:=tY n 4 fr _
def Cq (body:aO→aa→Tr eC) (n:Nat):Nat→aO→aa→Tr eC
 | 0,_,_=>.bad
 | k+1,fr,H=>(body fr H).bind fun x=>match x with
   | (.normal,fr,H)=>Cq body n k (Di n fr H).1 (Di n fr H).2
   | r=>.ok r
theorem vl {body:aD→aa→Option (Ex×aD×aa)} {n:Nat}:∀ (k m:Nat) (fr:aD) (H:aa) (x:Ex×aD×aa),iter body n k fr H=some x→k≤m→iter body n m fr H=some x
 | 0,m,fr,H,x,h,_=>by simp[iter] at h
 | k+1,0,fr,H,x,h,hk=>by omega
 | k + 1,m+1,fr,H,x,h,hk=>by
   unfold iter at h ⊢;cases hb:body fr H with
   | none=>rw[hb] at h;simp at h
   | some y =>
     rw[hb] at h;obtain ⟨e,f,g⟩:=y;cases e;case normal=>exact vl k m _ _ _ h (by omega)
     all_goals exact h
theorem ye {body:aO→aa→Tr eC} {body':aD→aa→Option (Ex×aD×aa)} {n:Nat} (hb:∀ fr H x,(body fr H).run=some x→body' (strip fr) H=some x.st):∀ (k:Nat) (fr:aO) (H:aa) (x:eC),(Cq body n k fr H).run=some x→iter body' n k (strip fr) H=some x.st
 | 0,fr,H,x,h=>(Tr.ag h).elim
 | k+1,fr,H,x,h=>by
   simp only[Cq] at h;obtain ⟨y,h1,h⟩:=Tr.bind_some h;unfold iter;rw[hb _ _ _ h1];obtain ⟨e,f,g⟩:=y;cases e;case normal =>
    have e:=G6 n f g
    have h:=ye hb k _ _ _ h
    show iter body' n k (tidy n (strip f) g).1 (tidy n (strip f) g).2=_
    rw[← e];exact h
   all_goals
    have h:=Tr.ab h
    rw[← h];rfl
def nU (f:AV→Tr AV):List AV→Tr (List AV)
 | []=>.ok []
 | v::l=>(f v).bind fun u=>(nU f l).bind fun m=>.ok (u::m)
theorem eR {f:AV→Tr AV} {g:AV→AV} (hf:∀ v u,(f v).run=some u→g v=u):∀ (l m:List AV),(nU f l).run=some m→l.map g=m
 | [],m,h=>Tr.ab h
 | v::l,m,h=>by
   simp only[nU] at h;obtain ⟨u,h1,h⟩:=Tr.bind_some h;obtain ⟨n,h2,h⟩:=Tr.bind_some h;rw[← Tr.ab h,List.map_cons,hf _ _ h1,eR hf l n h2]
def mg (f:AV→Tr AV):List c8→Tr (List c8)
 | []=>.ok []
 | .one v::l=>(f v).bind fun u=>(mg f l).bind fun m=>.ok (.one u::m)
 | .arr k z n::l=>(mg f l).bind fun m=>.ok (.arr k z n::m)
theorem gM {f:AV→Tr AV} {g:AV→AV} (hf:∀ v u,(f v).run=some u→g v=u):∀ (l m:List c8),(mg f l).run=some m→mapM' g l=m
 | [],m,h=>Tr.ab h
 | .one v::l,m,h=>by
   simp only[mg] at h;obtain ⟨u,h1,h⟩:=Tr.bind_some h;obtain ⟨n,h2,h⟩:=Tr.bind_some h;rw[← Tr.ab h,mapM',hf _ _ h1,gM hf l n h2]
 | .arr k z n::l,m,h=>by
   simp only[mg] at h;obtain ⟨n,h2,h⟩:=Tr.bind_some h;rw[← Tr.ab h,mapM',gM hf l n h2]
def qu (cap:Option Nat) (len:Nat):Bool :=
 match cap with
 | none=>false
 | some c=>cj c len
theorem j7 (cap:Option Nat) (len:Nat):qu cap len=(cap == some len):=by
 cases cap with
 | none=>rfl
 | some c=>simp only[qu,fJ];rw[Bool.eq_iff_iff];simp
def x9 (i ver:Nat) (r:Row):AV→Tr AV
 | .ptr d j v off=>cond (Nat.beq d 0 && Nat.beq j i) (.req (cj v ver) (.ok (.ptrT none r off))) (.ok (.ptr d j v off))
 | .slc d j v off sz len cap=>cond (Nat.beq d 0 && Nat.beq j i) (.req (cj v ver) (match r with
    | .M [.arr k z N]=>.req (dT off (fF len sz) 0 N) (.ok (.slcT none (.M [.arr k (dZ z off) (fF len sz)]) sz len (qu cap len)))
    | .I k l=>cond (uy (.I k l) off (Nat.mul len sz)) (.ok (.slcT none (.I k (lF (lB l off) (Nat.mul len sz))) sz len (qu cap len))) .bad
    | _=>.bad)) (.ok (.slc d j v off sz len cap))
 | v=>.ok v
theorem uV {d j i:Nat} {x:Bool} (h:(Nat.beq d 0 && Nat.beq j i)=true):(Nat.beq d 0 && (Nat.beq j i && x))=x:=by
 rw[Bool.and_eq_true] at h;rw[h.1,h.2];rfl
theorem uW {d j i:Nat} {x:Bool} (h:(Nat.beq d 0 && Nat.beq j i)=false):(Nat.beq d 0 && (Nat.beq j i && x))=false:=by
 rw[← Bool.and_assoc,h];rfl
theorem ya {i ver:Nat} {r:Row}:∀ v u,(x9 i ver r v).run=some u→nb i ver r v=u:=by
 intro v u h;cases v with
 | ptr d j v off =>
   simp only[x9] at h;simp only[nb];cases hc:(Nat.beq d 0 && Nat.beq j i) with
   | false=>rw[hc,cond_false] at h;rw[uW hc,if_neg (by simp)];exact Tr.ab h
   | true =>
     rw[hc,cond_true] at h;obtain ⟨h1,h⟩:=Tr.aT h;rw[fJ,decide_eq_true_eq] at h1;rw[uV hc,if_pos (by simpa using h1)];exact Tr.ab h
 | slc d j v off sz len cap =>
   simp only[x9] at h;simp only[nb];cases hc:(Nat.beq d 0 && Nat.beq j i) with
   | false=>rw[hc,cond_false] at h;rw[uW hc,if_neg (by simp)];exact Tr.ab h
   | true =>
     rw[hc,cond_true] at h;obtain ⟨h1,h2⟩:=Tr.aT h;clear h;rw[fJ,decide_eq_true_eq] at h1;rw[uV hc];split at h2
     · obtain ⟨h3,h⟩:=Tr.aT h2;rw[jP,decide_eq_true_eq,cI] at h3;rw[if_pos (by simp[h1,Row.len,aA,aQ];omega),← Tr.ab h,j7,cI,mD];rfl
     · obtain ⟨h3,h⟩:=Tr.aW h2;rw[kM,decide_eq_true_eq] at h3;rw[if_pos (by simp only[h1,Bool.and_eq_true];exact ⟨by simp,Nat.ble_eq_true_of_le h3⟩),← Tr.ab h,j7,gT,gK];rfl
     · exact (Tr.ag h2).elim
 | _=>exact Tr.ab h
def yv (f:AV→Tr AV) (v:AV):Tr AV :=
 match v with
 | .agg (.G l)=>(nU f l).bind fun m=>.ok (.agg (.G m))
 | .agg (.M l)=>(mg f l).bind fun m=>.ok (.agg (.M m))
 | .fn g a b=>(nU f a).bind fun a'=>(nU f b).bind fun b'=>.ok (.fn g a' b')
 | v=>f v
theorem sP {f:AV→Tr AV} {g:AV→AV} (hf:∀ v u,(f v).run=some u→g v=u):∀ v u,(yv f v).run=some u→nf g v=u:=by
 intro v u h;unfold yv at h;split at h
 · obtain ⟨m,h1,h⟩:=Tr.bind_some h;rw[← Tr.ab h,← eR hf _ _ h1];rfl
 · obtain ⟨m,h1,h⟩:=Tr.bind_some h;rw[← Tr.ab h,← gM hf _ _ h1];rfl
 · obtain ⟨a',h1,h⟩:=Tr.bind_some h;obtain ⟨b',h2,h⟩:=Tr.bind_some h;rw[← Tr.ab h,← eR hf _ _ h1,← eR hf _ _ h2];rfl
 · rename_i n1 n2 n3;have:=hf _ _ h;rw[← this];unfold nf;split
   · exact absurd rfl (n1 _)
   · exact absurd rfl (n2 _)
   · exact absurd rfl (n3 _ _ _)
   · rfl
def F3 (f:AV→Tr AV):an→Tr an
 | .row r=>match r with
   | .G l=>(nU (yv f) l).bind fun m=>.ok (.row (.G m))
   | .M l=>(mg (yv f) l).bind fun m=>.ok (.row (.M m))
   | r=>.ok (.row r)
 | b=>.ok b
theorem F4 {f:AV→Tr AV} {g:AV→AV} (hf:∀ v u,(f v).run=some u→g v=u) (b u:an) (h:(F3 f b).run=some u):qe g b=u:=by
 cases b with
 | row r =>
   simp only[F3] at h;cases r with
   | G l =>
     obtain ⟨m,h1,h⟩:=Tr.bind_some h;rw[← Tr.ab h,← eR (sP hf) _ _ h1];rfl
   | M l =>
     obtain ⟨m,h1,h⟩:=Tr.bind_some h;rw[← Tr.ab h,← gM (sP hf) _ _ h1];rfl
   | I k l=>rw[← Tr.ab h];rfl
   | F z n=>rw[← Tr.ab h];rfl
 | dead=>exact Tr.ab h
 | map es=>exact Tr.ab h
 | fmap kq f g c=>exact Tr.ab h
 | loop l=>exact Tr.ab h
def wM (f:AV→Tr AV):List (Nat×an)→Tr (List (Nat×an))
 | []=>.ok []
 | (v,b)::r=>(F3 f b).bind fun b'=>(wM f r).bind fun r'=>.ok ((v,b')::r')
theorem vp {f:AV→Tr AV} {g:AV→AV} (hf:∀ v u,(f v).run=some u→g v=u):∀ (l m:List (Nat×an)),(wM f l).run=some m→jx g l=m
 | [],m,h=>Tr.ab h
 | (v,b)::r,m,h=>by
   simp only[wM] at h;obtain ⟨b',h1,h⟩:=Tr.bind_some h;obtain ⟨r',h2,h⟩:=Tr.bind_some h;rw[← Tr.ab h,jx,F4 hf _ _ h1,vp hf r r' h2]
def CA (f:AV→Tr AV):aO→Tr aO
 | []=>.ok []
 | (x,(v,h))::r=>(yv f v).bind fun v'=>(CA f r).bind fun r'=>.ok ((x,(v',h))::r')
theorem yr {f:AV→Tr AV} {g:AV→AV} (hf:∀ v u,(f v).run=some u→g v=u):∀ (l m:aO),(CA f l).run=some m→qf g (strip l)=strip m
 | [],m,h=>by rw[← Tr.ab h];rfl
 | (x,(v,hh))::r,m,h=>by
   simp only[CA] at h;obtain ⟨v',h1,h⟩:=Tr.bind_some h;obtain ⟨r',h2,h⟩:=Tr.bind_some h;rw[← Tr.ab h,cX,cX,qf,sP hf _ _ h1,yr hf r r' h2]
def sB (i:Nat) (fr:aO) (l:bF):Tr (aO×bF) :=
 match Bb l.bs i with
 | (ver,.row r)=>cond (wE r && (Dt (fun x=>pJ (pz i) x.2) (strip fr) || Dt (fun x=>Ms (pz i) x.2) l.bs)) ((CA (x9 i ver r) fr).bind fun fr'=>(wM (x9 i ver r) l.bs).bind fun bs'=>.ok (fr',{ l with bs:=bN bs' i (ver,.dead) })) (.ok (fr,l))
 | _=>.ok (fr,l)
theorem pX {i:Nat} {fr:aO} {l:bF} {y:aO×bF} (h:(sB i fr l).run=some y):l9 i (strip fr) l=(strip y.1,y.2):=by
 unfold sB at h;unfold l9;rw[rD] at h;split at h
 · rename_i ver r hb;rw[hb];dsimp only;rw[re,re] at h;cases hc:(wE r && ((strip fr).any (fun x=>pJ (pz i) x.2) || l.bs.any (fun x=>Ms (pz i) x.2))) with
   | true =>
     rw[hc,cond_true] at h;obtain ⟨fr',h1,h⟩:=Tr.bind_some h;obtain ⟨bs',h2,h⟩:=Tr.bind_some h;rw[if_pos rfl,yr ya _ _ h1,vp ya _ _ h2,← Tr.ab h]
   | false =>
     rw[hc,cond_false] at h;rw[if_neg (by simp),← Tr.ab h]
 · rename_i hno;have h:=Tr.ab h;subst h;split
   · rename_i ver r hb;exact absurd hb (hno ver r)
   · rfl
def rq:Nat→aO→bF→Tr (aO×bF)
 | 0,fr,l=>.ok (fr,l)
 | n+1,fr,l=>(rq n fr l).bind fun y=>sB n y.1 y.2
theorem sx:∀ (n:Nat) (fr:aO) (l:bF) (y:aO×bF),(rq n fr l).run=some y→iZ n (strip fr) l=(strip y.1,y.2)
 | 0,fr,l,y,h=>by rw[← Tr.ab h];rfl
 | n+1,fr,l,y,h=>by
   simp only[rq] at h;obtain ⟨z,h1,h⟩:=Tr.bind_some h;have h1:=sx n fr l z h1;simp only[iZ];rw[h1];exact pX h
def o5:Nat→aO→bF→Tr (aO×bF)
 | 0,fr,l=>.ok (fr,l)
 | n+1,fr,l=>(o5 n fr l).bind fun y=>cond (Dt (fun x=>pJ (pz n) x.2) (strip y.1)) (.ok y) (sB n y.1 y.2)
theorem qF:∀ (n:Nat) (fr:aO) (l:bF) (y:aO×bF),(o5 n fr l).run=some y→ep n (strip fr) l=(strip y.1,y.2)
 | 0,fr,l,y,h=>by rw[← Tr.ab h];rfl
 | n + 1,fr,l,y,h=>by
   simp only[o5] at h;obtain ⟨z,h1,h⟩:=Tr.bind_some h;have h1:=qF n fr l z h1;simp only[ep];rw[h1];dsimp only;rw[re] at h;cases hc:(strip z.1).any (fun x=>pJ (pz n) x.2) with
   | true =>
     rw[hc,cond_true] at h;rw[if_pos rfl,Tr.ab h]
   | false =>
     rw[hc,cond_false] at h;rw[if_neg (by simp)];exact pX h
def Cu (s:Nat):aO→Option Nat
 | []=>none
 | (x,(v,_))::r=>cond (Nat.beq x s) (match v with
   | .slc 0 i _ _ _ _ _=>some i
   | _=>none) (Cu s r)
theorem yi (s:Nat):∀ fr:aO,Cu s fr=Ct s (strip fr)
 | []=>rfl
 | (x,(v,h))::r=>by
   rw[cX];simp only[Cu,Ct,yi s r];cases Nat.beq x s<;>rfl
def wD (s:Nat) (fr:aO) (H:aa):Tr (aO×aa) :=
 match H with
 | []=>.ok (fr,[])
 | l::r=>cond l.lock (.ok (fr,l::r)) (match Cu s fr with
   | some i=>(sB i fr l).bind fun y=>.ok (y.1,y.2::r)
   | none=>.ok (fr,l::r))
theorem AX {s:Nat} {fr:aO} {H:aa} {y:aO×aa} (h:(wD s fr H).run=some y):wC s (strip fr) H=(strip y.1,y.2):=by
 unfold wD at h;unfold wC;cases H with
 | nil=>rw[← Tr.ab h]
 | cons l r =>
   dsimp only at h ⊢;cases hl:l.lock with
   | true =>
     rw[hl,cond_true] at h;rw[if_pos rfl,← Tr.ab h]
   | false =>
     rw[hl,cond_false,yi] at h;rw[if_neg (by simp)];split at h
     · rename_i i hi;obtain ⟨z,h1,h⟩:=Tr.bind_some h;have h1:=pX h1;rw[hi];dsimp only;rw[h1,← Tr.ab h]
     · rename_i hi;rw[hi,← Tr.ab h]
def rr (m:Nat) (fr:aO) (H:aa):Tr (aO×aa) :=
 cond (lI m 4000) (match H with
  | []=>.ok (gf fr m,[])
  | l::r=>cond l.lock (.ok (gf fr m,l::r)) ((rq (kj l.bs) (gf fr m) l).bind fun y=>.ok (y.1,cond (Nat.beq (Nat.shiftRight m 4003) 0) (y.2::r) (Gc (Nat.shiftRight m 4003) (y.2::r))))) (cond (lI m 4001) (wD (Nat.shiftRight m 4003) (gf fr m) H) (cond (lI m 4002) (vN (gf fr m) (Nat.shiftRight m 4003) (fun fr=>.ok (fr,H)) (fun fr=>match H with
  | []=>.ok (fr,[])
  | l::r=>cond l.lock (.ok (fr,l::r)) ((o5 (kj l.bs) fr l).bind fun y=>.ok (y.1,y.2::r)))) (.ok (gf fr m,H))))
theorem sC {m:Nat} {fr:aO} {H:aa} {y:aO×aa} (h:(rr m fr H).run=some y):kT m (strip fr) H=(strip y.1,y.2):=by
 unfold rr at h;unfold kT;cases hm:lI m 4000 with
 | false =>
   rw[hm,cond_false] at h;rw[if_neg (by simp)];cases hm2:lI m 4001 with
   | false =>
     rw[hm2,cond_false] at h;rw[if_neg (by simp)];cases hm3:lI m 4002 with
     | false =>
       rw[hm3,cond_false] at h;rw[if_neg (by simp),← Tr.ab h,eP]
     | true =>
       rw[hm3,cond_true] at h;rw[if_pos rfl];obtain ⟨b,fr',h1,h2,h3⟩:=lx h;rw[eP] at h1 h2;rw[h1];cases b with
       | true =>
         simp only[if_true] at h3;rw[← Tr.ab h3,h2]
       | false =>
         simp only[Bool.false_eq_true,if_false] at h3;cases H with
         | nil =>
           dsimp only at h3;rw[← Tr.ab h3,← h2];rfl
         | cons l r =>
           dsimp only at h3;show uA (bS (strip fr) m) (l::r)=_;rw[← h2];unfold uA;dsimp only;cases hl:l.lock with
           | true =>
             rw[hl,cond_true] at h3;rw[if_pos rfl,← Tr.ab h3]
           | false =>
             rw[hl,cond_false] at h3;obtain ⟨z,h4,h5⟩:=Tr.bind_some h3;have h4:=qF _ _ _ _ h4;rw[ev] at h4;rw[if_neg (by simp),h4,← Tr.ab h5]
   | true =>
     rw[hm2,cond_true] at h;rw[if_pos rfl];have h1:=AX h;rw[eP] at h1;exact h1
 | true =>
   rw[hm,cond_true] at h;rw[if_pos rfl];cases H with
   | nil =>
     rw[← Tr.ab h,eP];simp only[DQ,Gc,ite_self]
   | cons l r =>
     dsimp only at h;unfold DQ;dsimp only;cases hl:l.lock with
     | true =>
       rw[hl,cond_true] at h;simp only[if_true];rw[← Tr.ab h,eP];simp only[Gc,hl,if_true,ite_self]
     | false =>
       rw[hl,cond_false] at h;obtain ⟨z,h1,h⟩:=Tr.bind_some h;have h1:=sx _ _ _ _ h1;rw[ev,eP] at h1;simp only[Bool.false_eq_true,if_false,h1];rw[← Tr.ab h];cases Nat.beq (Nat.shiftRight m 4003) 0<;>rfl
def IG:aO→aO
 | []=>[]
 | (x,(v,h))::r=>(x,(vt v,h))::IG r
theorem s8:∀ fr:aO,strip (IG fr)=D0 (strip fr)
 | []=>rfl
 | (x,(v,h))::r=>by
   simp only[IG,cX,D0,s7,s8 r]
def AW (m:Nat) (fr:aO) (H:aa):Tr (aO×aa) :=
 cond (lI m 3999) ((rr m fr H).bind fun y=>.ok (IG y.1,y.2)) (rr m fr H)
theorem DR {m:Nat} {fr:aO} {H:aa} {y:aO×aa} (h:(AW m fr H).run=some y):o6 m (strip fr) H=(strip y.1,y.2):=by
 unfold AW at h;unfold o6;cases hm:lI m 3999 with
 | false =>
   rw[hm,cond_false] at h;rw[if_neg (by simp)];exact sC h
 | true =>
   rw[hm,cond_true] at h;rw[if_pos rfl];obtain ⟨z,h1,h⟩:=Tr.bind_some h;have h1:=sC h1;rw[h1,← Tr.ab h,s8]
def aJ (cx:Cx) (callR:bp) (bl:eJ) (rg:nA):Code→aO→aa→Tr eC
 | .skip,fr,H=>.ok (.normal,fr,H)
 | .label _,fr,H=>.ok (.normal,fr,H)
 | .exit id,fr,H=>.ok (.exit id,fr,H)
 | .goto l,fr,H=>.ok (.goto l,fr,H)
 | .ret,fr,H=>.ok (.ret,fr,H)
 | .region id ops draw,fr,H =>
   (cond draw (cond (fW ops (Region.before ops)) (oK cx.P cx.nt cx.call callR ops (Region.before ops) ops.toList 0 fr (nL H (cW ops.toList)) (wB H) []) .bad) (iF cx.P cx.nt cx.call callR ops ops.toList fr H)).bind fun x=>(AW (cx.kt id) x.1 x.2).bind fun y=>.ok (.normal,y.1,y.2)
 | .seq a b,fr,H=>(aJ cx callR bl rg a fr H).bind fun x=>match x with
   | (.normal,fr,H)=>aJ cx callR bl rg b fr H
   | r=>.ok r
 | .cond c a b,fr,H=>match c with
   | .tmp d=>vN fr d (fun fr=>aJ cx callR bl rg a fr H) (fun fr=>aJ cx callR bl rg b fr H)
   | c=>match (b8 fr c).1 with
     | .bool t=>cond t (aJ cx callR bl rg a fr H) (aJ cx callR bl rg b fr H)
     | _=>.bad
 | .block id b,fr,H=>match bl id fr H with
   | some t=>t
   | none=>(aJ cx callR bl rg b fr H).bind fun x=>match x with
     | (.exit id',fr,H)=>cond (Nat.beq id' id) (.ok (.normal,fr,H)) (.ok (.exit id',fr,H))
     | r=>.ok r
 | .scope b,fr,H=>(aJ cx callR bl rg b fr H).bind fun x=>match x with
   | (.goto _,_,_)=>.bad
   | r=>.ok r
 | .rangeFunc f _ _ _,fr,H=>match rg f fr H with
   | some t=>t
   | none=>.bad
 | .loop b,fr,H=>cond (Nat.ble 12 cx.fu) (Cq (aJ cx callR bl rg b) (wB H) 12 fr H) .bad
 | .refuse _,_,_=>.bad

theorem fK {cx:Cx} {callR:bp} {bl:eJ} {rg:nA} (hC:callR.Ok cx.call):∀ (c:Code),bl.Ok cx c→rg.Ok cx c→∀ (fr:aO) (H:aa) (x:eC),(aJ cx callR bl rg c fr H).run=some x→exec cx c (strip fr) H=some x.st:=by
 intro c;induction c with
 | skip=>intro _ _ fr H x h;rw[← Tr.ab h];rfl
 | label=>intro _ _ fr H x h;rw[← Tr.ab h];rfl
 | exit=>intro _ _ fr H x h;rw[← Tr.ab h];rfl
 | goto=>intro _ _ fr H x h;rw[← Tr.ab h];rfl
 | ret=>intro _ _ fr H x h;rw[← Tr.ab h];rfl
 | refuse=>intro _ _ fr H x h;exact (Tr.ag h).elim
 | loop b ih =>
   intro hb hr fr H x h;simp only[aJ] at h;obtain ⟨hk,h⟩:=Tr.aW h;rw[Nat.ble_eq] at hk;unfold exec;rw[pV] at h;exact vl _ _ _ _ _ (ye (fun fr H x h=>ih hb hr fr H x h) 12 fr H x h) hk
 | rangeFunc f ps a b =>
   intro _ hr fr H x h;simp only[aJ] at h;split at h
   · rename_i t ht;exact hr f ps a b (by simp[dG]) fr H t x ht h
   · exact (Tr.ag h).elim
 | region id ops draw =>
   intro _ _ fr H x h;simp only[aJ] at h;obtain ⟨y,h1,h⟩:=Tr.bind_some h;obtain ⟨z,h2,h⟩:=Tr.bind_some h;have h2:=DR h2;rw[← Tr.ab h];unfold exec;cases draw with
   | true =>
     rw[cond_true] at h1;obtain ⟨hs,h1⟩:=Tr.aW h1;rw[pV] at h1;simp only[if_true,hs];rw[qw hC _ _ _ _ _ _ _ h1];dsimp only;rw[h2];rfl
   | false =>
     rw[cond_false] at h1;simp only[Bool.false_eq_true,if_false];rw[fq hC _ _ _ _ h1];dsimp only;rw[h2];rfl
 | seq a b iha ihb =>
   intro hb hr fr H x h;have hba:bl.Ok cx a:=fun id b' hm=>hb id b' (List.mem_append_left _ hm);have hbb:bl.Ok cx b:=fun id b' hm=>hb id b' (List.mem_append_right _ hm);have hra:rg.Ok cx a:=fun f ps u v hm=>hr f ps u v (List.mem_append_left _ hm);have hrb:rg.Ok cx b:=fun f ps u v hm=>hr f ps u v (List.mem_append_right _ hm);simp only[aJ] at h;obtain ⟨y,h1,h⟩:=Tr.bind_some h;have h1:=iha hba hra _ _ _ h1;unfold exec;rw[h1];obtain ⟨e,fr1,H1⟩:=y;cases e;case normal=>exact ihb hbb hrb _ _ _ h
   all_goals
    have h:=Tr.ab h
    rw[← h];rfl
 | cond c a b iha ihb =>
   intro hb hr fr H x h;have hba:bl.Ok cx a:=fun id b' hm=>hb id b' (List.mem_append_left _ hm);have hbb:bl.Ok cx b:=fun id b' hm=>hb id b' (List.mem_append_right _ hm);have hra:rg.Ok cx a:=fun f ps u v hm=>hr f ps u v (List.mem_append_left _ hm);have hrb:rg.Ok cx b:=fun f ps u v hm=>hr f ps u v (List.mem_append_right _ hm);simp only[aJ] at h;unfold exec;split at h
   · rename_i d;obtain ⟨b',fr',h1,h2,h3⟩:=lx h;have e:bW (strip fr) (.tmp d)=.bool b':=h1;rw[e,← h2];cases b' with
     | true=>exact iha hba hra _ _ _ h3
     | false=>exact ihb hbb hrb _ _ _ h3
   · rename_i c' hne;rw[bf] at h;split at h
     · rename_i t hc;rw[hc];cases t with
       | true=>exact iha hba hra _ _ _ h
       | false=>exact ihb hbb hrb _ _ _ h
     · exact (Tr.ag h).elim
 | block id b ih =>
   intro hb hr fr H x h;have hbb:bl.Ok cx b:=fun id' b' hm=>hb id' b' (by simp only[aL];exact List.mem_cons_of_mem _ hm);simp only[aJ] at h;split at h
   · rename_i t ht;exact hb id b (by simp[aL]) _ _ _ _ ht h
   · obtain ⟨y,h1,h⟩:=Tr.bind_some h;have h1:=ih hbb hr _ _ _ h1;unfold exec;rw[h1];obtain ⟨e,fr1,H1⟩:=y;cases e;case exit id' =>
      dsimp only[eC.st] at h ⊢
      rw[HQ] at h
      split at h
      · rename_i uz
        rw[if_pos uz,← Tr.ab h]
      · rename_i uz
        rw[if_neg uz,← Tr.ab h]
     all_goals
      have h:=Tr.ab h
      rw[← h];rfl
 | scope b ih =>
   intro hb hr fr H x h;simp only[aJ] at h;obtain ⟨y,h1,h⟩:=Tr.bind_some h;have h1:=ih hb hr _ _ _ h1;unfold exec;rw[h1];obtain ⟨e,fr1,H1⟩:=y;cases e;case goto=>exact (Tr.ag h).elim
   all_goals
    have h:=Tr.ab h
    rw[← h];rfl

end
end Go.Eng
end
section
namespace Go.Eng
noncomputable section

def m9   (bs:List (Nat×an)):Nat→AV→Tr AV
 | 0,_=>.ok .undef
 | n + 1,v=>match v with
   | .ptr d i ver off=>match d with
     | d+1=>.ok (.ptr d i ver off)
     | 0 => match Bb bs i with
       | (w,.row r)=>cond (Nat.beq w ver) (match r with
         | .I k l=>.ok (.ptrT none (.I k l) off)
         | .F f m=>.ok (.ptrT none (.F f m) off)
         | .M l=>cond (fI l) (.ok (.ptrT none (.M l) off)) ((mg (m9 bs n) l).bind fun m=>.ok (.ptrT (some 0) (.M m) off))
         | .G l=>(nU (m9 bs n) l).bind fun m=>.ok (.ptrT (some 0) (.G m) off)) .bad
       | _=>.bad
   | .slc d i ver off sz len cap=>match d with
     | d+1=>.ok (.slc d i ver off sz len cap)
     | 0 => match Bb bs i with
       | (w,.row r)=>.req (cj w ver) (match r with
         | .M [.arr k z N]=>.req (dT off (fF len sz) 0 N) (.ok (.slcT none (.M [.arr k (dZ z off) (fF len sz)]) sz len (qu cap len)))
         | .I k l=>cond (uy (.I k l) off (Nat.mul len sz)) (.ok (.slcT none (.I k (lF (lB l off) (Nat.mul len sz))) sz len (qu cap len))) .bad
         | .F f N=>.req (dT off (fF len sz) 0 N) (.ok (.slcT none (.F (fun j=>f (aq off j)) (fF len sz)) sz len (qu cap len)))
         | .G l=>cond (uy (.G l) off (Nat.mul len sz)) ((nU (m9 bs n) (lF (lB l off) (Nat.mul len sz))).bind fun m=>.ok (.slcT (some 0) (.G m) sz len (qu cap len))) .bad
         | _=>.bad)
       | _=>.bad
   | .ptrT s r off=>match s with
     | none=>.ok (.ptrT none r off)
     | some (s+1)=>.ok (.ptrT (some s) r off)
     | some 0=>match r with
       | .G l=>(nU (m9 bs n) l).bind fun m=>.ok (.ptrT (some 0) (.G m) off)
       | .M l=>cond (fI l) (.ok (.ptrT none (.M l) off)) ((mg (m9 bs n) l).bind fun m=>.ok (.ptrT (some 0) (.M m) off))
       | r=>.ok (.ptrT none r off)
   | .slcT s r sz len full=>match s with
     | none=>.ok (.slcT none r sz len full)
     | some (s+1)=>.ok (.slcT (some s) r sz len full)
     | some 0=>match r with
       | .G l=>(nU (m9 bs n) l).bind fun m=>.ok (.slcT (some 0) (.G m) sz len full)
       | .M l=>cond (fI l) (.ok (.slcT none (.M l) sz len full)) ((mg (m9 bs n) l).bind fun m=>.ok (.slcT (some 0) (.M m) sz len full))
       | r=>.ok (.slcT none r sz len full)
   | .map d i=>match d with
     | d+1=>.ok (.map d i)
     | 0=>.ok .undef
   | .yld d i=>match d with
     | d+1=>.ok (.yld d i)
     | 0=>.ok .undef
   | .fn f a b=>(nU (m9 bs n) a).bind fun a'=>(nU (m9 bs n) b).bind fun b'=>.ok (.fn f a' b')
   | .agg r=>match r with
     | .G l=>(nU (m9 bs n) l).bind fun m=>.ok (.agg (.G m))
     | .M l=>(mg (m9 bs n) l).bind fun m=>.ok (.agg (.M m))
     | r=>.ok (.agg r)
   | .tup l=>(nU (m9 bs n) l).bind fun m=>.ok (.tup m)
   | v=>.ok v
theorem Cf (bs:List (Nat×an)):∀ (n:Nat) (v u:AV),(m9 bs n v).run=some u→dz bs n v=u
 | 0,v,u,h=>Tr.ab h
 | n + 1,v,  u,h=>by
   have ih:=Cf bs n;simp only[m9,rD] at h;cases v with
   | ptr d i ver off =>
     cases d with
     | succ d=>exact Tr.ab h
     | zero =>
       dsimp only at h;simp only[dz];split at h
       · rename_i w r hg;obtain ⟨hw,h⟩:=Tr.aW h;rw[hg];dsimp only;rw[if_pos hw];cases r with
         | I k l=>exact Tr.ab h
         | F f m=>exact Tr.ab h
         | G l =>
           obtain ⟨m,h1,h⟩:=Tr.bind_some h;rw[← Tr.ab h,← eR ih _ _ h1]
         | M l =>
           dsimp only at h ⊢;cases ha:fI l with
           | true=>rw[ha,cond_true] at h;rw[if_pos rfl];exact Tr.ab h
           | false =>
             rw[ha,cond_false] at h;obtain ⟨m,h1,h⟩:=Tr.bind_some h;rw[if_neg (by simp),← Tr.ab h,← gM ih _ _ h1]
       · exact (Tr.ag h).elim
   | slc d i ver off sz len cap =>
     cases d with
     | succ d=>exact Tr.ab h
     | zero =>
       dsimp only at h;simp only[dz];split at h
       · rename_i w r hg;obtain ⟨hw,h'⟩:=Tr.aT h;clear h;rw[fJ,decide_eq_true_eq] at hw;subst hw;rw[hg];dsimp only;split at h'
         · rename_i k z N;have h:=h';obtain ⟨hc,h⟩:=Tr.aT h;rw[jP,decide_eq_true_eq,cI] at hc;rw[if_pos ⟨by simp,by simp only[Row.len,aA,aQ];omega⟩,← Tr.ab h,j7,cI,mD];simp only[Row.sub,fI,if_true]
         · have h:=h';obtain ⟨hc,h⟩:=Tr.aW h;rw[kM,decide_eq_true_eq] at hc;rw[if_pos ⟨by simp,hc⟩,← Tr.ab h,j7,gT,gK];rfl
         · have h:=h';obtain ⟨hc,h⟩:=Tr.aT h;rw[jP,decide_eq_true_eq,cI] at hc;rw[if_pos ⟨by simp,by simp only[Row.len];omega⟩,← Tr.ab h,j7,cI];simp only[Row.sub,aK]
         · have h:=h';obtain ⟨hc,h⟩:=Tr.aW h;rw[kM,decide_eq_true_eq] at hc;obtain ⟨m,h1,h⟩:=Tr.bind_some h;rw[gT,gK] at h1;rw[if_pos ⟨by simp,hc⟩,← Tr.ab h,j7,← eR ih _ _ h1];rfl
         · exact (Tr.ag h').elim
       · exact (Tr.ag h).elim
   | ptrT s r off =>
     cases s with
     | none=>exact Tr.ab h
     | some s =>
       cases s with
       | succ s=>exact Tr.ab h
       | zero =>
         simp only[dz];cases r with
         | I k l=>exact Tr.ab h
         | F f m=>exact Tr.ab h
         | G l =>
           obtain ⟨m,h1,h⟩:=Tr.bind_some h;rw[← Tr.ab h,← eR ih _ _ h1]
         | M l =>
           dsimp only at h ⊢;cases ha:fI l with
           | true=>rw[ha,cond_true] at h;rw[if_pos rfl];exact Tr.ab h
           | false =>
             rw[ha,cond_false] at h;obtain ⟨m,h1,h⟩:=Tr.bind_some h;rw[if_neg (by simp),← Tr.ab h,← gM ih _ _ h1]
   | slcT s r sz len full =>
     cases s with
     | none=>exact Tr.ab h
     | some s =>
       cases s with
       | succ s=>exact Tr.ab h
       | zero =>
         simp only[dz];cases r with
         | I k l=>exact Tr.ab h
         | F f m=>exact Tr.ab h
         | G l =>
           obtain ⟨m,h1,h⟩:=Tr.bind_some h;rw[← Tr.ab h,← eR ih _ _ h1]
         | M l =>
           dsimp only at h ⊢;cases ha:fI l with
           | true=>rw[ha,cond_true] at h;rw[if_pos rfl];exact Tr.ab h
           | false =>
             rw[ha,cond_false] at h;obtain ⟨m,h1,h⟩:=Tr.bind_some h;rw[if_neg (by simp),← Tr.ab h,← gM ih _ _ h1]
   | map d i=>cases d<;>exact Tr.ab h
   | yld d i=>cases d<;>exact Tr.ab h
   | fn f a b =>
     obtain ⟨a',h1,h⟩:=Tr.bind_some h;obtain ⟨b',h2,h⟩:=Tr.bind_some h;simp only[dz];rw[← Tr.ab h,← eR ih _ _ h1,← eR ih _ _ h2]
   | agg r =>
     simp only[dz];cases r with
     | I k l=>exact Tr.ab h
     | F f m=>exact Tr.ab h
     | G l =>
       obtain ⟨m,h1,h⟩:=Tr.bind_some h;rw[← Tr.ab h,← eR ih _ _ h1]
     | M l =>
       obtain ⟨m,h1,h⟩:=Tr.bind_some h;rw[← Tr.ab h,← gM ih _ _ h1]
   | tup l =>
     obtain ⟨m,h1,h⟩:=Tr.bind_some h;simp only[dz];rw[← Tr.ab h,← eR ih _ _ h1]
   | _=>exact Tr.ab h

def Hy (l:List HV):Nat→aO:=List.rec (motive:=fun _=>Nat→aO) (fun _=>[]) (fun v _ ih x=>(x,(mE 1 v.1,v.2))::ih (Nat.succ x)) l
theorem vQ:∀ (l:List HV) (x:Nat),strip (Hy l x)=dY x (jL l)
 | [],x=>rfl
 | v::l,x=>by
   have e:Hy (v::l) x=(x,(mE 1 v.1,v.2))::Hy l (x+1):=rfl;rw[e,cX,vQ l];rfl
def hints (f:aD):aO:=List.rec (motive:=fun _=>aO) [] (fun p _ ih=>(p.1,(p.2,none))::ih) f
theorem aP:∀ f:aD,strip (hints f)=f
 | []=>rfl
 | (x,v)::r=>by
   have e:hints ((x,v)::r)=(x,(v,none))::hints r:=rfl;rw[e,cX,aP r]
def Bk (P:Program) (fr:aO) (H:aa):List ResultVar→Tr (List AV)
 | []=>.ok []
 | .tmp t::r=>(Bk P fr H r).bind fun l=>.ok ((lC fr t).1::l)
 | .cell a t::r=>(loadT P H t (b8 fr (.tmp a))).bind fun v=>(Bk P fr H r).bind fun l=>.ok (v::l)
theorem w9 {P:Program} {fr:aO} {H:aa}:∀ (l:List ResultVar) (vs:List AV),(Bk P fr H l).run=some vs→gq P (strip fr) H l=some vs
 | [],vs,h=>by rw[← Tr.ab h];rfl
 | .tmp t::r,vs,h=>by
   simp only[Bk] at h;obtain ⟨l,h1,h⟩:=Tr.bind_some h;simp only[gq];rw[w9 r l h1,← Tr.ab h,fb];rfl
 | .cell a t::r,vs,h=>by
   simp only[Bk] at h;obtain ⟨v,h0,h⟩:=Tr.bind_some h;obtain ⟨l,h1,h⟩:=Tr.bind_some h;have h0:=yl h0;rw[bf] at h0;simp only[gq];have e:bW (strip fr) (.tmp a)=bL (strip fr) a:=rfl;rw[e] at h0;rw[h0];dsimp only;rw[w9 r l h1,← Tr.ab h];rfl
def JN (fr:aO) (rs:List ResultVar):Option Nat :=
 match rs with
 | [.tmp t]=>(lC fr t).2
 | _=>none
def Mi (P:Program) (rs:List ResultVar) (x:eC):Tr (HV×aa) :=
 match x with
 | (e,fr,l::H)=>match e with
   | .normal | .ret=>(Bk P fr (l::H) rs).bind fun vs=>(m9 l.bs 5 (one vs)).bind fun v=>.ok ((v,JN fr rs),H)
   | _=>.bad
 | _=>.bad
theorem CQ {P:Program} {rs:List ResultVar} {x:eC} {y:HV×aa} (h:(Mi P rs x).run=some y):∃ l vs,x.2.2=l::y.2∧(x.1=.normal∨x.1=.ret)∧gq P (strip x.2.1) x.2.2 rs=some vs∧dz l.bs 5 (one vs)=y.1.1:=by
 unfold Mi at h;split at h
 · rename_i e fr l H;have key:((Bk P fr (l::H) rs).bind fun vs=>(m9 l.bs 5 (one vs)).bind fun v=>Tr.ok (((v,JN fr rs),H):HV×aa)).run=some y→∃ vs,l::H=l::y.2∧gq P (strip fr) (l::H) rs=some vs∧dz l.bs 5 (one vs)=y.1.1:=by
    intro h;obtain ⟨vs,h1,h⟩:=Tr.bind_some h;obtain ⟨v,h2,h⟩:=Tr.bind_some h;have h:=Tr.ab h;refine ⟨vs,by rw[← h],w9 _ _ h1,?_⟩;rw[Cf _ _ _ _ h2,← h]
   split at h
   · obtain ⟨vs,h1,h2,h3⟩:=key h;exact ⟨l,vs,h1,.inl rfl,h2,h3⟩
   · obtain ⟨vs,h1,h2,h3⟩:=key h;exact ⟨l,vs,h1,.inr rfl,h2,h3⟩
   · exact (Tr.ag h).elim
 · exact (Tr.ag h).elim
def bk (P:Program) (call:aI) (fu:Nat) (f:FuncId) (fn:Func) (kt:Nat→Nat) (callR:bp) (bl:eJ) (rg:nA) (args:List HV) (H:aa):Tr (HV×aa) :=
 (aJ ⟨P,call,fu,f,fn.ntmps,kt,none⟩ callR bl rg (aV fn) (Hy args 0) (⟨false,[]⟩::H)).bind fun x=>Mi P fn.results.toList x
theorem oH {P:Program} {ora:aI→FuncId→List AV→aa→Option (AV×aa)} {KT:FuncId→Nat→Nat} {fu n:Nat} {f:FuncId} {fn:Func} (hf:P.funcs[f]?=some fn) (hb:fn.body.isSome=true) {args:List HV} {H:aa} (ho:ora (c6 P ora KT fu n) f (jL args) H=none) (hle:Nat.ble args.length fn.ntmps=true)
 {callR:bp} (hC:callR.Ok (c6 P ora KT fu n)) {bl:eJ} (hB:bl.Ok ⟨P,c6 P ora KT fu n,fu,f,fn.ntmps,KT f,none⟩ (aV fn)) {rg:nA} (hR:rg.Ok ⟨P,c6 P ora KT fu n,fu,f,fn.ntmps,KT f,none⟩ (aV fn)) {y:HV×aa}
 (h:(bk P (c6 P ora KT fu n) fu f fn (KT f) callR bl rg args H).run=some y):c6 P ora KT fu (n+1) (.fn f) (jL args) H=some (y.1.1,y.2):=by
 unfold bk at h
 obtain ⟨x,h1,h⟩:=Tr.bind_some h
 have h1:=fK hC _ hB hR _ _ _ h1
 rw[vQ] at h1
 obtain ⟨l,vs,k1,k2,k3,k4⟩:=CQ h
 obtain ⟨c,hc⟩:=Option.isSome_iff_exists.1 hb
 have hbody:aV fn=c:=by unfold aV;rw[hc]
 rw[hbody] at h1
 obtain ⟨e,fr,H1⟩:=x
 dsimp only[eC.st] at h1 k1 k2 k3
 rw[k1] at h1 k3
 have hl:(jL args).length=args.length:=by unfold jL;rw[jy,List.length_map]
 simp only[c6,ho,hf,hc,hl,hle,if_true,h1]
 rcases k2 with rfl | rfl<;>simp only[k3]<;>rw[k4]

theorem hJ {cx:Cx} {id:Nat} {b:Code} {fr fr1:aD} {H H1:aa} (h:iter (exec cx b) (a7 H) cx.fu fr H=some (.exit id,fr1,H1)):exec cx (.block id (.loop b)) fr H=some (.normal,fr1,H1):=by
 unfold exec;have:exec cx (.loop b) fr H=some (.exit id,fr1,H1):=by unfold exec;exact h
 rw[this];dsimp only;rw[if_pos (by simp)]
theorem dh {cx:Cx} {id:Nat} {b:Code} {fr fr1:aD} {H H1:aa} {e:Ex} (he:∀ id',e=.exit id'→Nat.beq id' id=false) (h:iter (exec cx b) (a7 H) cx.fu fr H=some (e,fr1,H1)):exec cx (.block id (.loop b)) fr H=some (e,fr1,H1):=by
 unfold exec;have:exec cx (.loop b) fr H=some (e,fr1,H1):=by unfold exec;exact h
 rw[this];cases e with
 | exit id'=>dsimp only;rw[if_neg (by rw[he id' rfl];simp)]
 | _=>rfl
def fN (p:Nat→Bool):Nat→Nat→Nat
 | 0,j=>j
 | k+1,j=>if p j then j else fN p k (j+1)
theorem rn (p:Nat→Bool):∀ (k j:Nat),j≤fN p k j∧fN p k j≤j+k∧(∀ i,j≤i→i<fN p k j→p i=false)∧(fN p k j<j+k→p (fN p k j)=true)
 | 0,j=>⟨Nat.le_refl _,Nat.le_refl _,fun i h1 h2=>absurd h2 (by simp only[fN];omega),fun h=>absurd h (by simp only[fN];omega)⟩
 | k + 1,j=>by
   simp only[fN];by_cases h:p j=true
   · rw[if_pos h];exact ⟨Nat.le_refl _,by omega,fun i h1 h2=>by omega,fun _=>h⟩
   · rw[if_neg h];obtain ⟨h1,h2,h3,h4⟩:=rn p k (j+1);refine ⟨by omega,by omega,fun i k1 k2=>?_,fun k1=>h4 (by omega)⟩;by_cases e:i=j
     · subst e;simpa using h
     · exact h3 i (by omega) k2
theorem iM {body:aD→aa→Option (Ex×aD×aa)} {n:Nat} (F:Nat→aD) (G:Nat→aa) (N:Nat) (p:Nat→Bool) (X:Nat→Ex×aD×aa)
 (hs:∀ j,j<N→p j=false→∃ f g,body (F j) (G j)=some (.normal,f,g)∧tidy n f g=(F (j+1),G (j+1)))
 (hh:∀ j,j<N→p j=true→body (F j) (G j)=some (X j)∧(X j).1≠.normal) (he:body (F N) (G N)=some (X N)∧(X N).1≠.normal) :
 ∀ (k j fu:Nat),j+k=N→k<fu→iter body n fu (F j) (G j)=some (X (fN p k j))
 | 0,j,0,_,h=>by omega
 | 0,j,fu+1,hj,_=>by
   have:j=N:=by omega
   subst this;unfold iter;rw[he.1];obtain ⟨x,hx⟩:∃ x,x=X j:=⟨_,rfl⟩
   have hn:=he.2;simp only[fN];rw[← hx] at hn ⊢;obtain ⟨e,f,g⟩:=x;cases e<;>first | exact absurd rfl hn | rfl
 | k+1,j,0,_,h=>by omega
 | k + 1,j,fu+1,hj,hf=>by
   unfold iter;cases hp:p j with
   | true =>
     obtain ⟨h1,h2⟩:=hh j (by omega) hp;rw[h1];simp only[fN];rw[if_pos hp];obtain ⟨x,hx⟩:∃ x,x=X j:=⟨_,rfl⟩
     rw[← hx] at h2 ⊢;obtain ⟨e,f,g⟩:=x;cases e<;>first | exact absurd rfl h2 | rfl
   | false =>
     obtain ⟨f,g,h1,h2⟩:=hs j (by omega) hp;rw[h1];dsimp only;rw[h2];simp only[fN];rw[if_neg (by rw[hp];simp)];exact iM F G N p X hs hh he k (j+1) fu (by omega) (by omega)
end
end Go.Eng
end
