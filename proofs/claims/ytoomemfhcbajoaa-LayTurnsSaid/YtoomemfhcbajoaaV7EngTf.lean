/- The engine as a tree: regions, code, calls. -/
import Derived.Test.YtoomemfhcbajoaaV7EngTe
namespace Go.Eng
set_option linter.unusedVariables false
set_option linter.unusedSimpArgs false
noncomputable section

def markF (f:HFrm) (y:Nat) (b:Bool):HFrm:=List.rec (motive:=fun _=>HFrm) [] (fun p r ih=>Bool.rec (motive:=fun _=>HFrm) (p::ih) ((p.1,(.bool b,some 1))::r) (Nat.beq p.1 y)) f
theorem markF_eq:∀ (f:HFrm) (y:Nat) (b:Bool),fGet (strip f) y=.bool b→strip (markF f y b)=strip f
 | [],y,b,_=>rfl
 | (x,v)::r,y,b,h=>by
   have e:markF ((x,v)::r) y b=Bool.rec (motive:=fun _=>HFrm) ((x,v)::markF r y b) ((x,(.bool b,some 1))::r) (Nat.beq x y):=rfl
   rw[strip_cons,fGet] at h
   rw[e]
   cases hb:Nat.beq x y with
   | true =>
     rw[hb] at h
     have h:v.1=.bool b:=h
     show (x,AV.bool b)::strip r=(x,v.1)::strip r
     rw[h]
   | false =>
     rw[hb] at h
     show (x,v.1)::strip (markF r y b)=(x,v.1)::strip r
     rw[markF_eq r y b h]
def testT {α:Type} (fr:HFrm) (d:Nat) (t e:HFrm→Tr α):Tr α :=
 match hGetF fr d with
 | (.bool b,none)=>.ite b (t (markF fr d true)) (e (markF fr d false))
 | (.bool b,some _)=>cond b (t fr) (e fr)
 | _=>.bad
theorem testT_some {α:Type} {fr:HFrm} {d:Nat} {t e:HFrm→Tr α} {x:α} (h:(testT fr d t e).run=some x):∃ b fr',fGet (strip fr) d=.bool b∧strip fr'=strip fr∧(if b then t fr' else e fr').run=some x:=by
 unfold testT at h
 split at h
 · rename_i b hg
   have hg':fGet (strip fr) d=.bool b:=by rw[← hGetF_eq,hg]
   rcases Tr.ite_some h with ⟨rfl,h⟩ | ⟨rfl,h⟩
   · exact ⟨true,_,hg',markF_eq _ _ _ hg',h⟩
   · exact ⟨false,_,hg',markF_eq _ _ _ hg',h⟩
 · rename_i b n hg
   have hg':fGet (strip fr) d=.bool b:=by rw[← hGetF_eq,hg]
   refine ⟨b,fr,hg',rfl,?_⟩
   cases b<;>exact h
 · exact (Tr.bad_some h).elim
def wantT (ops:Array Oper) (fr:HFrm) (o:Oper):Tr (Bool×HFrm) :=
 match o.guard with
 | none=>.ok (true,fr)
 | some (j,want)=>match (ops[j]?).bind (·.dst) with
   | none=>.bad
   | some d=>match (hGetF fr d).1 with
     | .bool _=>cond want (testT fr d (fun fr=>.ok (true,fr)) (fun fr=>.ok (false,fr))) (testT fr d (fun fr=>.ok (false,fr)) (fun fr=>.ok (true,fr)))
     | .tup _=>.ok (false,fr)
     | _=>.bad
theorem wantT_ok {ops:Array Oper} {fr:HFrm} {o:Oper} {r:Bool×HFrm} (h:(wantT ops fr o).run=some r):wantV ops (strip fr) o=(if r.1 then .run else .skip)∧strip r.2=strip fr:=by
 unfold wantT at h
 unfold wantV
 cases hg:o.guard with
 | none =>
   rw[hg] at h
   rw[← Tr.ok_some h];exact ⟨rfl,rfl⟩
 | some jw =>
   obtain ⟨j,want⟩:=jw
   rw[hg] at h
   dsimp only at h ⊢
   cases hd:(ops[j]?).bind (·.dst) with
   | none=>rw[hd] at h;exact (Tr.bad_some h).elim
   | some d =>
     rw[hd] at h
     dsimp only at h ⊢
     have he:=hGetF_eq fr d
     rw[he] at h
     cases hv:fGet (strip fr) d<;>rw[hv] at h<;>try exact (Tr.bad_some h).elim
     case bool b =>
      dsimp only at h ⊢
      cases want with
      | true =>
        rw[cond_true] at h
        obtain ⟨b',fr',h1,h2,h3⟩:=testT_some h
        rw[hv] at h1
        cases h1
        cases b<;>(have h3:=Tr.ok_some h3;rw[← h3];exact ⟨rfl,h2⟩)
      | false =>
        rw[cond_false] at h
        obtain ⟨b',fr',h1,h2,h3⟩:=testT_some h
        rw[hv] at h1
        cases h1
        cases b<;>(have h3:=Tr.ok_some h3;rw[← h3];exact ⟨rfl,h2⟩)
     case tup l=>rw[← Tr.ok_some h];exact ⟨rfl,rfl⟩

def runOpsT (P:Program) (nt:Nat) (call:CallT) (callR:CallTr) (ops:Array Oper):List Oper→HFrm→Heap→Tr (HFrm×Heap)
 | [],fr,H=>.ok (fr,H)
 | o::r,fr,H=>(wantT ops fr o).bind fun b=>cond b.1
   ((opT o.op o P call callR b.2 H (hNextX H)).bind fun y=>runOpsT P nt call callR ops r (putOT nt b.2 o.dst y.1) (onX y.2 H))
   (runOpsT P nt call callR ops r (putOT nt b.2 o.dst (.tup [],none)) H)
theorem runOpsT_ok {P:Program} {nt:Nat} {call:CallT} {callR:CallTr} (hC:callR.Ok call) {ops:Array Oper}:∀ (l:List Oper) (fr:HFrm) (H:Heap) (x:HFrm×Heap),(runOpsT P nt call callR ops l fr H).run=some x→runOps P nt call ops l (strip fr) H=some (strip x.1,x.2)
 | [],fr,H,x,h=>by rw[← Tr.ok_some h];rfl
 | o :: r,fr,H,x,h=>by
   simp only[runOpsT] at h
   obtain ⟨b,h1,h⟩:=Tr.bind_some h
   unfold runOps
   obtain ⟨hw,hs⟩:=wantT_ok h1
   rw[hw,← hs]
   obtain ⟨b,fr1⟩:=b
   dsimp only at h ⊢
   cases b with
   | false =>
     have:=runOpsT_ok hC r _ _ _ h
     rw[putOT_eq] at this
     exact this
   | true =>
     rw[cond_true] at h
     obtain ⟨y,h2,h⟩:=Tr.bind_some h
     have h2:=opT_ok hC h2
     rw[hNextX_eq] at h2
     have:=runOpsT_ok hC r _ _ _ h
     rw[putOT_eq,onX_eq] at this
     rw[if_pos rfl]
     dsimp only
     rw[h2]
     exact this

def readsOfT (fr:HFrm) (o:Oper):Touch:=readsOfX (strip fr) o
def drawStepT (P:Program) (call:CallT) (callR:CallTr) (ops:Array Oper) (bef:Nat) (fr0:HFrm) (H:Heap) (nx:Nat) (recs:List Rec) (o:Oper):Tr (Ent×Option Nat×HFrm) :=
 (wantT ops fr0 o).bind fun b=>cond b.1
   (cond (isCallV o) ((opT o.op o P call callR b.2 (lockAllX (hHideX bef recs H)) nx).bind fun y=>.ok (⟨y.1.1,.all,none⟩,y.1.2,b.2))
     ((opT o.op o P call callR b.2 (hHideX bef recs H) nx).bind fun y=>match y.2 with
       | .keep=>.ok (⟨y.1.1,readsOfT b.2 o,none⟩,y.1.2,b.2)
       | .push q=>cond (mayPush o && !isDead q && isDead0 (hGetX H 0 nx) && !hLockX H 0) (.ok (⟨y.1.1,readsOfT b.2 o,some (0,nx,(0,q))⟩,y.1.2,b.2)) .bad
       | .set d i q=>.req (andB (leN (hGetX H d i).1 q.1) (leN q.1 (Nat.succ (hGetX H d i).1))) (cond (!isDead q.2 && !isDead (hGetX (hHideX bef recs H) d i).2 && mayWrite bef d i recs) (.ok (⟨y.1.1,readsOfT b.2 o,some (d,i,q)⟩,y.1.2,b.2)) .bad)
       | _=>.bad))
   (.ok (⟨.tup [],.none,none⟩,none,b.2))
theorem drawStepT_ok {P:Program} {call:CallT} {callR:CallTr} (hC:callR.Ok call) {ops:Array Oper} {bef:Nat} {fr:HFrm} {H:Heap} {nx:Nat} {recs:List Rec} {o:Oper} {e:Ent×Option Nat×HFrm} (h:(drawStepT P call callR ops bef fr H nx recs o).run=some e) :
 drawStep P call ops bef (strip fr) H nx recs o=some e.1∧strip e.2.2=strip fr:=by
 unfold drawStepT at h
 unfold drawStep
 simp only[hHideX_eq,lockAllX_eq,readsOfT,readsOfX_eq,hGetX_eq,hLockX_eq] at h
 obtain ⟨b,h1,h⟩:=Tr.bind_some h
 obtain ⟨hw,hs⟩:=wantT_ok h1
 rw[hw,← hs]
 obtain ⟨b,fr1⟩:=b
 dsimp only at h ⊢
 cases b with
 | false =>
   rw[cond_false] at h
   rw[← Tr.ok_some h];exact ⟨rfl,rfl⟩
 | true =>
   rw[cond_true] at h
   rw[if_pos rfl]
   dsimp only
   cases hcv:isCallV o with
   | true =>
     rw[hcv,cond_true] at h
     obtain ⟨y,h2,h⟩:=Tr.bind_some h
     rw[if_pos rfl,opT_ok hC h2,← Tr.ok_some h]
     exact ⟨rfl,rfl⟩
   | false =>
     rw[hcv,cond_false] at h
     obtain ⟨y,h2,h⟩:=Tr.bind_some h
     rw[if_neg (by simp),opT_ok hC h2]
     split at h
     · rename_i hy
       rw[hy,← Tr.ok_some h];exact ⟨rfl,rfl⟩
     · rename_i b hy
       obtain ⟨hc,h⟩:=Tr.cond_bad h
       rw[hy]
       dsimp only
       rw[if_pos hc,← Tr.ok_some h];exact ⟨rfl,rfl⟩
     · rename_i d i b hy
       obtain ⟨hv,h⟩:=Tr.req_some h
       obtain ⟨hc,h⟩:=Tr.cond_bad h
       rw[hy]
       dsimp only
       rw[andB_eq,leN_eq,leN_eq,Bool.and_eq_true,decide_eq_true_eq,decide_eq_true_eq] at hv
       have hv':(Nat.beq b.1 (hGet H d i).1 || Nat.beq b.1 (Nat.succ (hGet H d i).1))=true:=by
        simp only[Bool.or_eq_true,Nat.beq_eq];omega
       simp only[Bool.and_eq_true] at hc
       rw[if_pos (by simp only[Bool.and_eq_true];exact ⟨⟨⟨hc.1.1,hv'⟩,hc.1.2⟩,hc.2⟩),← Tr.ok_some h];exact ⟨rfl,rfl⟩
     · exact (Tr.bad_some h).elim
def drawOpsT (P:Program) (nt:Nat) (call:CallT) (callR:CallTr) (ops:Array Oper) (befs:Array Nat):List Oper→Nat→HFrm→Heap→Nat→List Rec→Tr (HFrm×Heap)
 | [],_,fr,H,_,_=>.ok (fr,H)
 | o::r,j,fr,H,nx,recs=>(drawStepT P call callR ops (befs.getD j 0) fr H nx recs o).bind fun e =>
   drawOpsT P nt call callR ops befs r (j+1) (putOT nt e.2.2 o.dst (e.1.v,e.2.1)) (putWX H e.1.wr) (if mayPush o then nx+1 else nx) (⟨j,e.1.rd,e.1.wr.map fun x=>(x.1,x.2.1)⟩::recs)
theorem drawOpsT_ok {P:Program} {nt:Nat} {call:CallT} {callR:CallTr} (hC:callR.Ok call) {ops:Array Oper} {befs:Array Nat}:∀ (l:List Oper) (j:Nat) (fr:HFrm) (H:Heap) (nx:Nat) (recs:List Rec) (x:HFrm×Heap),
 (drawOpsT P nt call callR ops befs l j fr H nx recs).run=some x→drawOps P nt call ops befs j l (strip fr) H nx recs=some (strip x.1,x.2)
 | [],j,fr,H,nx,recs,x,h=>by rw[← Tr.ok_some h];rfl
 | o::r,j,fr,H,nx,recs,x,h=>by
   simp only[drawOpsT] at h
   obtain ⟨e,h1,h⟩:=Tr.bind_some h
   obtain ⟨hd,hs⟩:=drawStepT_ok hC h1
   unfold drawOps
   rw[hd,← hs]
   have:=drawOpsT_ok hC r _ _ _ _ _ _ h
   rw[putOT_eq,putWX_eq] at this
   exact this

def blocksOf:Code→List (Nat×Code)
 | .block id b=>(id,b)::blocksOf b
 | .loop b=>blocksOf b
 | .seq a b=>blocksOf a++blocksOf b
 | .cond _ a b=>blocksOf a++blocksOf b
 | .scope b=>blocksOf b
 | _=>[]
def bodyOf (f:Func):Code:=match f.body with | some c=>c | none=>.skip
abbrev Res:=Ex×HFrm×Heap
def Res.st (x:Res):Ex×Frm×Heap:=(x.1,strip x.2.1,x.2.2)
abbrev BlkT:=Nat→HFrm→Heap→Option (Tr Res)
abbrev RgT:=Operand→HFrm→Heap→Option (Tr Res)
def BlkT.Ok (bl:BlkT) (cx:Cx) (c:Code):Prop:=∀ id b,(id,b) ∈ blocksOf c→∀ fr H t x,bl id fr H=some t→t.run=some x→exec cx (.block id b) (strip fr) H=some x.st
def rangesOf:Code→List (Operand×Array Tmp×Code×Code)
 | .rangeFunc f ps a b=>[(f,ps,a,b)]
 | .loop b=>rangesOf b
 | .block _ b=>rangesOf b
 | .seq a b=>rangesOf a++rangesOf b
 | .cond _ a b=>rangesOf a++rangesOf b
 | .scope b=>rangesOf b
 | _=>[]
def RgT.Ok (rg:RgT) (cx:Cx) (c:Code):Prop:=∀ f ps a b,(f,ps,a,b) ∈ rangesOf c→∀ fr H t x,rg f fr H=some t→t.run=some x→exec cx (.rangeFunc f ps a b) (strip fr) H=some x.st
def blkE (bl:BlkT) (id0:Nat) (fr0:Frm) (H0:Heap) (u:Tr Res):BlkT:=fun id fr H=>cond (Nat.beq id id0) (some (.reqP (strip fr=fr0∧H=H0) u)) (bl id fr H)
theorem blkE_ok {bl:BlkT} {cx:Cx} {c:Code} (h:bl.Ok cx c) {id0:Nat} {fr0:Frm} {H0:Heap} {u:Tr Res} {B:Code} (hB:∀ b,(id0,b) ∈ blocksOf c→b=B) (k:∀ x,u.run=some x→exec cx (.block id0 B) fr0 H0=some x.st):(blkE bl id0 fr0 H0 u).Ok cx c:=by
 intro id b hm fr H t y ht hy
 unfold blkE at ht
 cases hb:Nat.beq id id0 with
 | true =>
   have hid:=Nat.eq_of_beq_eq_true hb
   subst hid
   rw[hb,cond_true,Option.some.injEq] at ht
   subst ht
   obtain ⟨⟨h1,h2⟩,h3⟩:=Tr.reqP_some hy
   rw[h1,h2,hB b hm]
   exact k y h3
 | false =>
   rw[hb,cond_false] at ht
   exact h id b hm fr H t y ht hy
def rgE (rg:RgT) (tf:Operand→Bool) (fr0:Frm) (H0:Heap) (u:Tr Res):RgT:=fun f fr H=>cond (tf f) (some (.reqP (strip fr=fr0∧H=H0) u)) (rg f fr H)
theorem rgE_ok {rg:RgT} {cx:Cx} {c:Code} (h:rg.Ok cx c) {tf:Operand→Bool} {fr0:Frm} {H0:Heap} {u:Tr Res} (k:∀ f ps a b,tf f=true→(f,ps,a,b) ∈ rangesOf c→∀ x,u.run=some x→exec cx (.rangeFunc f ps a b) fr0 H0=some x.st):(rgE rg tf fr0 H0 u).Ok cx c:=by
 intro f ps a b hm fr H t y ht hy
 unfold rgE at ht
 cases hb:tf f with
 | true =>
   rw[hb,cond_true,Option.some.injEq] at ht
   subst ht
   obtain ⟨⟨h1,h2⟩,h3⟩:=Tr.reqP_some hy
   rw[h1,h2]
   exact k f ps a b hb hm y h3
 | false =>
   rw[hb,cond_false] at ht
   exact h f ps a b hm fr H t y ht hy
def noBT:BlkT:=fun _ _ _=>none
def noRT:RgT:=fun _ _ _=>none
theorem noBT_ok (cx:Cx) (c:Code):noBT.Ok cx c:=fun _ _ _ _ _ _ _ h=>by cases h
theorem noRT_ok (cx:Cx) (c:Code):noRT.Ok cx c:=fun _ _ _ _ _ _ _ _ _ h=>by cases h
def mapHF (g:AV→AV):HFrm→HFrm
 | []=>[]
 | (x,(v,h))::r=>(x,(mapV g v,h))::mapHF g r
theorem mapHF_eq (g:AV→AV):∀ fr:HFrm,strip (mapHF g fr)=mapF g (strip fr)
 | []=>rfl
 | (x,(v,h))::r=>by
   have e:mapHF g ((x,(v,h))::r)=(x,(mapV g v,h))::mapHF g r:=rfl
   rw[e,strip_cons,strip_cons,mapF,mapHF_eq g r]
def tidyAtT (n:Nat):Nat→HFrm→Heap→HFrm×Heap
 | 0,fr,H=>(fr,H)
 | k + 1,fr,H=>match H with
   | []=>(fr,[])
   | l::r=>cond (Nat.ble (lenX l.bs) (Nat.succ n)) (fr,l::r) (match hole (strip fr) l.bs 4 n with
     | none=>(fr,l::r)
     | some h=>tidyAtT n k (mapHF (mvS (l.bs.length-1) h) fr) (cutTo n (mapF (mvS (l.bs.length-1) h) (strip fr)) (mvL (l.bs.length-1) h l::r)))
theorem tidyAtT_eq (n:Nat):∀ (k:Nat) (fr:HFrm) (H:Heap),(strip (tidyAtT n k fr H).1,(tidyAtT n k fr H).2)=tidyAt n k (strip fr) H
 | 0,fr,H=>rfl
 | k+1,fr,[]=>rfl
 | k + 1,fr,l::r=>by
   cases hb:Nat.ble (lenX l.bs) (Nat.succ n) with
   | true =>
     have:tidyAtT n (k+1) fr (l::r)=(fr,l::r):=by
      unfold tidyAtT;dsimp only;rw[hb];rfl
     rw[this,tidy_short (by rw[lenX_eq] at hb;simpa using hb)]
   | false =>
     unfold tidyAtT tidyAt
     dsimp only
     rw[hb,cond_false]
     cases hole (strip fr) l.bs 4 n with
     | none=>rfl
     | some h =>
       dsimp only
       rw[tidyAtT_eq n k,mapHF_eq]
def tidyT (n:Nat) (fr:HFrm) (H:Heap):HFrm×Heap:=tidyAtT n 4 fr (cutTo n (strip fr) H)
theorem tidyT_eq (n:Nat) (fr:HFrm) (H:Heap):(strip (tidyT n fr H).1,(tidyT n fr H).2)=tidy n (strip fr) H:=tidyAtT_eq n 4 fr _
def iterT (body:HFrm→Heap→Tr Res) (n:Nat):Nat→HFrm→Heap→Tr Res
 | 0,_,_=>.bad
 | k+1,fr,H=>(body fr H).bind fun x=>match x with
   | (.normal,fr,H)=>iterT body n k (tidyT n fr H).1 (tidyT n fr H).2
   | r=>.ok r
theorem iter_more {body:Frm→Heap→Option (Ex×Frm×Heap)} {n:Nat}:∀ (k m:Nat) (fr:Frm) (H:Heap) (x:Ex×Frm×Heap),iter body n k fr H=some x→k≤m→iter body n m fr H=some x
 | 0,m,fr,H,x,h,_=>by simp[iter] at h
 | k+1,0,fr,H,x,h,hk=>by omega
 | k + 1,m+1,fr,H,x,h,hk=>by
   unfold iter at h ⊢
   cases hb:body fr H with
   | none=>rw[hb] at h;simp at h
   | some y =>
     rw[hb] at h
     obtain ⟨e,f,g⟩:=y
     cases e
     case normal=>exact iter_more k m _ _ _ h (by omega)
     all_goals exact h
theorem iterT_ok {body:HFrm→Heap→Tr Res} {body':Frm→Heap→Option (Ex×Frm×Heap)} {n:Nat} (hb:∀ fr H x,(body fr H).run=some x→body' (strip fr) H=some x.st):∀ (k:Nat) (fr:HFrm) (H:Heap) (x:Res),(iterT body n k fr H).run=some x→iter body' n k (strip fr) H=some x.st
 | 0,fr,H,x,h=>(Tr.bad_some h).elim
 | k+1,fr,H,x,h=>by
   simp only[iterT] at h
   obtain ⟨y,h1,h⟩:=Tr.bind_some h
   unfold iter
   rw[hb _ _ _ h1]
   obtain ⟨e,f,g⟩:=y
   cases e
   case normal =>
    have e:=tidyT_eq n f g
    have h:=iterT_ok hb k _ _ _ h
    show iter body' n k (tidy n (strip f) g).1 (tidy n (strip f) g).2=_
    rw[← e];exact h
   all_goals
    have h:=Tr.ok_some h
    rw[← h];rfl
def mapT (f:AV→Tr AV):List AV→Tr (List AV)
 | []=>.ok []
 | v::l=>(f v).bind fun u=>(mapT f l).bind fun m=>.ok (u::m)
theorem mapT_ok {f:AV→Tr AV} {g:AV→AV} (hf:∀ v u,(f v).run=some u→g v=u):∀ (l m:List AV),(mapT f l).run=some m→l.map g=m
 | [],m,h=>Tr.ok_some h
 | v::l,m,h=>by
   simp only[mapT] at h
   obtain ⟨u,h1,h⟩:=Tr.bind_some h
   obtain ⟨n,h2,h⟩:=Tr.bind_some h
   rw[← Tr.ok_some h,List.map_cons,hf _ _ h1,mapT_ok hf l n h2]
def mapMT (f:AV→Tr AV):List Seg→Tr (List Seg)
 | []=>.ok []
 | .one v::l=>(f v).bind fun u=>(mapMT f l).bind fun m=>.ok (.one u::m)
 | .arr k z n::l=>(mapMT f l).bind fun m=>.ok (.arr k z n::m)
theorem mapMT_ok {f:AV→Tr AV} {g:AV→AV} (hf:∀ v u,(f v).run=some u→g v=u):∀ (l m:List Seg),(mapMT f l).run=some m→mapM' g l=m
 | [],m,h=>Tr.ok_some h
 | .one v::l,m,h=>by
   simp only[mapMT] at h
   obtain ⟨u,h1,h⟩:=Tr.bind_some h
   obtain ⟨n,h2,h⟩:=Tr.bind_some h
   rw[← Tr.ok_some h,mapM',hf _ _ h1,mapMT_ok hf l n h2]
 | .arr k z n::l,m,h=>by
   simp only[mapMT] at h
   obtain ⟨n,h2,h⟩:=Tr.bind_some h
   rw[← Tr.ok_some h,mapM',mapMT_ok hf l n h2]
def capEq (cap:Option Nat) (len:Nat):Bool :=
 match cap with
 | none=>false
 | some c=>eqN c len
theorem capEq_eq (cap:Option Nat) (len:Nat):capEq cap len=(cap == some len):=by
 cases cap with
 | none=>rfl
 | some c=>simp only[capEq,eqN_eq];rw[Bool.eq_iff_iff];simp
def iceST (i ver:Nat) (r:Row):AV→Tr AV
 | .ptr d j v off=>cond (Nat.beq d 0 && Nat.beq j i) (.req (eqN v ver) (.ok (.ptrT none r off))) (.ok (.ptr d j v off))
 | .slc d j v off sz len cap=>cond (Nat.beq d 0 && Nat.beq j i) (.req (eqN v ver) (match r with
    | .M [.arr k z N]=>.req (inO off (mulS len sz) 0 N) (.ok (.slcT none (.M [.arr k (shO z off) (mulS len sz)]) sz len (capEq cap len)))
    | .I k l=>cond (fitX (.I k l) off (Nat.mul len sz)) (.ok (.slcT none (.I k (takeX (dropX l off) (Nat.mul len sz))) sz len (capEq cap len))) .bad
    | _=>.bad)) (.ok (.slc d j v off sz len cap))
 | v=>.ok v
theorem beq_and3' {d j i:Nat} {x:Bool} (h:(Nat.beq d 0 && Nat.beq j i)=true):(Nat.beq d 0 && (Nat.beq j i && x))=x:=by
 rw[Bool.and_eq_true] at h
 rw[h.1,h.2];rfl
theorem beq_and3f {d j i:Nat} {x:Bool} (h:(Nat.beq d 0 && Nat.beq j i)=false):(Nat.beq d 0 && (Nat.beq j i && x))=false:=by
 rw[← Bool.and_assoc,h];rfl
theorem iceST_ok {i ver:Nat} {r:Row}:∀ v u,(iceST i ver r v).run=some u→iceS i ver r v=u:=by
 intro v u h
 cases v with
 | ptr d j v off =>
   simp only[iceST] at h
   simp only[iceS]
   cases hc:(Nat.beq d 0 && Nat.beq j i) with
   | false=>rw[hc,cond_false] at h;rw[beq_and3f hc,if_neg (by simp)];exact Tr.ok_some h
   | true =>
     rw[hc,cond_true] at h
     obtain ⟨h1,h⟩:=Tr.req_some h
     rw[eqN_eq,decide_eq_true_eq] at h1
     rw[beq_and3' hc,if_pos (by simpa using h1)];exact Tr.ok_some h
 | slc d j v off sz len cap =>
   simp only[iceST] at h
   simp only[iceS]
   cases hc:(Nat.beq d 0 && Nat.beq j i) with
   | false=>rw[hc,cond_false] at h;rw[beq_and3f hc,if_neg (by simp)];exact Tr.ok_some h
   | true =>
     rw[hc,cond_true] at h
     obtain ⟨h1,h2⟩:=Tr.req_some h
     clear h
     rw[eqN_eq,decide_eq_true_eq] at h1
     rw[beq_and3' hc]
     split at h2
     · obtain ⟨h3,h⟩:=Tr.req_some h2
       rw[inO_eq,decide_eq_true_eq,mulS_eq] at h3
       rw[if_pos (by simp[h1,Row.len,lenM,segLen];omega),← Tr.ok_some h,capEq_eq,mulS_eq,shO_fn]
       rfl
     · obtain ⟨h3,h⟩:=Tr.cond_bad h2
       rw[fitX_eq,decide_eq_true_eq] at h3
       rw[if_pos (by simp only[h1,Bool.and_eq_true];exact ⟨by simp,Nat.ble_eq_true_of_le h3⟩),← Tr.ok_some h,capEq_eq,takeX_eq,dropX_eq]
       rfl
     · exact (Tr.bad_some h2).elim
 | _=>exact Tr.ok_some h
def mapVT (f:AV→Tr AV) (v:AV):Tr AV :=
 match v with
 | .agg (.G l)=>(mapT f l).bind fun m=>.ok (.agg (.G m))
 | .agg (.M l)=>(mapMT f l).bind fun m=>.ok (.agg (.M m))
 | .fn g a b=>(mapT f a).bind fun a'=>(mapT f b).bind fun b'=>.ok (.fn g a' b')
 | v=>f v
theorem mapVT_ok {f:AV→Tr AV} {g:AV→AV} (hf:∀ v u,(f v).run=some u→g v=u):∀ v u,(mapVT f v).run=some u→mapV g v=u:=by
 intro v u h
 unfold mapVT at h
 split at h
 · obtain ⟨m,h1,h⟩:=Tr.bind_some h
   rw[← Tr.ok_some h,← mapT_ok hf _ _ h1];rfl
 · obtain ⟨m,h1,h⟩:=Tr.bind_some h
   rw[← Tr.ok_some h,← mapMT_ok hf _ _ h1];rfl
 · obtain ⟨a',h1,h⟩:=Tr.bind_some h
   obtain ⟨b',h2,h⟩:=Tr.bind_some h
   rw[← Tr.ok_some h,← mapT_ok hf _ _ h1,← mapT_ok hf _ _ h2];rfl
 · rename_i n1 n2 n3
   have:=hf _ _ h
   rw[← this]
   unfold mapV
   split
   · exact absurd rfl (n1 _)
   · exact absurd rfl (n2 _)
   · exact absurd rfl (n3 _ _ _)
   · rfl
def mapBT (f:AV→Tr AV):Blk→Tr Blk
 | .row r=>match r with
   | .G l=>(mapT (mapVT f) l).bind fun m=>.ok (.row (.G m))
   | .M l=>(mapMT (mapVT f) l).bind fun m=>.ok (.row (.M m))
   | r=>.ok (.row r)
 | b=>.ok b
theorem mapBT_ok {f:AV→Tr AV} {g:AV→AV} (hf:∀ v u,(f v).run=some u→g v=u) (b u:Blk) (h:(mapBT f b).run=some u):mapB g b=u:=by
 cases b with
 | row r =>
   simp only[mapBT] at h
   cases r with
   | G l =>
     obtain ⟨m,h1,h⟩:=Tr.bind_some h
     rw[← Tr.ok_some h,← mapT_ok (mapVT_ok hf) _ _ h1];rfl
   | M l =>
     obtain ⟨m,h1,h⟩:=Tr.bind_some h
     rw[← Tr.ok_some h,← mapMT_ok (mapVT_ok hf) _ _ h1];rfl
   | I k l=>rw[← Tr.ok_some h];rfl
   | F z n=>rw[← Tr.ok_some h];rfl
 | dead=>exact Tr.ok_some h
 | map es=>exact Tr.ok_some h
 | fmap kq f g c=>exact Tr.ok_some h
 | loop l=>exact Tr.ok_some h
def mapBsT (f:AV→Tr AV):List (Nat×Blk)→Tr (List (Nat×Blk))
 | []=>.ok []
 | (v,b)::r=>(mapBT f b).bind fun b'=>(mapBsT f r).bind fun r'=>.ok ((v,b')::r')
theorem mapBsT_ok {f:AV→Tr AV} {g:AV→AV} (hf:∀ v u,(f v).run=some u→g v=u):∀ (l m:List (Nat×Blk)),(mapBsT f l).run=some m→mapBs g l=m
 | [],m,h=>Tr.ok_some h
 | (v,b)::r,m,h=>by
   simp only[mapBsT] at h
   obtain ⟨b',h1,h⟩:=Tr.bind_some h
   obtain ⟨r',h2,h⟩:=Tr.bind_some h
   rw[← Tr.ok_some h,mapBs,mapBT_ok hf _ _ h1,mapBsT_ok hf r r' h2]
def mapFT (f:AV→Tr AV):HFrm→Tr HFrm
 | []=>.ok []
 | (x,(v,h))::r=>(mapVT f v).bind fun v'=>(mapFT f r).bind fun r'=>.ok ((x,(v',h))::r')
theorem mapFT_ok {f:AV→Tr AV} {g:AV→AV} (hf:∀ v u,(f v).run=some u→g v=u):∀ (l m:HFrm),(mapFT f l).run=some m→mapF g (strip l)=strip m
 | [],m,h=>by rw[← Tr.ok_some h];rfl
 | (x,(v,hh))::r,m,h=>by
   simp only[mapFT] at h
   obtain ⟨v',h1,h⟩:=Tr.bind_some h
   obtain ⟨r',h2,h⟩:=Tr.bind_some h
   rw[← Tr.ok_some h,strip_cons,strip_cons,mapF,mapVT_ok hf _ _ h1,mapFT_ok hf r r' h2]
def iceAtT (i:Nat) (fr:HFrm) (l:Lvl):Tr (HFrm×Lvl) :=
 match nthX l.bs i with
 | (ver,.row r)=>cond (iceR r && (anyX (fun x=>anyV (slcAt i) x.2) (strip fr) || anyX (fun x=>rowB (slcAt i) x.2) l.bs)) ((mapFT (iceST i ver r) fr).bind fun fr'=>(mapBsT (iceST i ver r) l.bs).bind fun bs'=>.ok (fr',{ l with bs:=setBlk bs' i (ver,.dead) })) (.ok (fr,l))
 | _=>.ok (fr,l)
theorem iceAtT_ok {i:Nat} {fr:HFrm} {l:Lvl} {y:HFrm×Lvl} (h:(iceAtT i fr l).run=some y):iceAt i (strip fr) l=(strip y.1,y.2):=by
 unfold iceAtT at h
 unfold iceAt
 rw[nthX_eq] at h
 split at h
 · rename_i ver r hb
   rw[hb]
   dsimp only
   rw[anyX_eq,anyX_eq] at h
   cases hc:(iceR r && ((strip fr).any (fun x=>anyV (slcAt i) x.2) || l.bs.any (fun x=>rowB (slcAt i) x.2))) with
   | true =>
     rw[hc,cond_true] at h
     obtain ⟨fr',h1,h⟩:=Tr.bind_some h
     obtain ⟨bs',h2,h⟩:=Tr.bind_some h
     rw[if_pos rfl,mapFT_ok iceST_ok _ _ h1,mapBsT_ok iceST_ok _ _ h2,← Tr.ok_some h]
   | false =>
     rw[hc,cond_false] at h
     rw[if_neg (by simp),← Tr.ok_some h]
 · rename_i hno
   have h:=Tr.ok_some h
   subst h
   split
   · rename_i ver r hb
     exact absurd hb (hno ver r)
   · rfl
def iceAllT:Nat→HFrm→Lvl→Tr (HFrm×Lvl)
 | 0,fr,l=>.ok (fr,l)
 | n+1,fr,l=>(iceAllT n fr l).bind fun y=>iceAtT n y.1 y.2
theorem iceAllT_ok:∀ (n:Nat) (fr:HFrm) (l:Lvl) (y:HFrm×Lvl),(iceAllT n fr l).run=some y→iceAll n (strip fr) l=(strip y.1,y.2)
 | 0,fr,l,y,h=>by rw[← Tr.ok_some h];rfl
 | n+1,fr,l,y,h=>by
   simp only[iceAllT] at h
   obtain ⟨z,h1,h⟩:=Tr.bind_some h
   have h1:=iceAllT_ok n fr l z h1
   simp only[iceAll]
   rw[h1]
   exact iceAtT_ok h
def iceAllHT:Nat→HFrm→Lvl→Tr (HFrm×Lvl)
 | 0,fr,l=>.ok (fr,l)
 | n+1,fr,l=>(iceAllHT n fr l).bind fun y=>cond (anyX (fun x=>anyV (slcAt n) x.2) (strip y.1)) (.ok y) (iceAtT n y.1 y.2)
theorem iceAllHT_ok:∀ (n:Nat) (fr:HFrm) (l:Lvl) (y:HFrm×Lvl),(iceAllHT n fr l).run=some y→iceAllH n (strip fr) l=(strip y.1,y.2)
 | 0,fr,l,y,h=>by rw[← Tr.ok_some h];rfl
 | n + 1,fr,l,y,h=>by
   simp only[iceAllHT] at h
   obtain ⟨z,h1,h⟩:=Tr.bind_some h
   have h1:=iceAllHT_ok n fr l z h1
   simp only[iceAllH]
   rw[h1]
   dsimp only
   rw[anyX_eq] at h
   cases hc:(strip z.1).any (fun x=>anyV (slcAt n) x.2) with
   | true =>
     rw[hc,cond_true] at h
     rw[if_pos rfl,Tr.ok_some h]
   | false =>
     rw[hc,cond_false] at h
     rw[if_neg (by simp)]
     exact iceAtT_ok h
def leadT (s:Nat):HFrm→Option Nat
 | []=>none
 | (x,(v,_))::r=>cond (Nat.beq x s) (match v with
   | .slc 0 i _ _ _ _ _=>some i
   | _=>none) (leadT s r)
theorem leadT_eq (s:Nat):∀ fr:HFrm,leadT s fr=leadF s (strip fr)
 | []=>rfl
 | (x,(v,h))::r=>by
   rw[strip_cons]
   simp only[leadT,leadF,leadT_eq s r]
   cases Nat.beq x s<;>rfl
def iceOneT (s:Nat) (fr:HFrm) (H:Heap):Tr (HFrm×Heap) :=
 match H with
 | []=>.ok (fr,[])
 | l::r=>cond l.lock (.ok (fr,l::r)) (match leadT s fr with
   | some i=>(iceAtT i fr l).bind fun y=>.ok (y.1,y.2::r)
   | none=>.ok (fr,l::r))
theorem iceOneT_ok {s:Nat} {fr:HFrm} {H:Heap} {y:HFrm×Heap} (h:(iceOneT s fr H).run=some y):iceOne s (strip fr) H=(strip y.1,y.2):=by
 unfold iceOneT at h
 unfold iceOne
 cases H with
 | nil=>rw[← Tr.ok_some h]
 | cons l r =>
   dsimp only at h ⊢
   cases hl:l.lock with
   | true =>
     rw[hl,cond_true] at h
     rw[if_pos rfl,← Tr.ok_some h]
   | false =>
     rw[hl,cond_false,leadT_eq] at h
     rw[if_neg (by simp)]
     split at h
     · rename_i i hi
       obtain ⟨z,h1,h⟩:=Tr.bind_some h
       have h1:=iceAtT_ok h1
       rw[hi]
       dsimp only
       rw[h1,← Tr.ok_some h]
     · rename_i hi
       rw[hi,← Tr.ok_some h]
def iceIfT (m:Nat) (fr:HFrm) (H:Heap):Tr (HFrm×Heap) :=
 cond (memS m 4000) (match H with
  | []=>.ok (hKillF fr m,[])
  | l::r=>cond l.lock (.ok (hKillF fr m,l::r)) ((iceAllT (lenX l.bs) (hKillF fr m) l).bind fun y=>.ok (y.1,cond (Nat.beq (Nat.shiftRight m 4003) 0) (y.2::r) (nilH (Nat.shiftRight m 4003) (y.2::r))))) (cond (memS m 4001) (iceOneT (Nat.shiftRight m 4003) (hKillF fr m) H) (cond (memS m 4002) (testT (hKillF fr m) (Nat.shiftRight m 4003) (fun fr=>.ok (fr,H)) (fun fr=>match H with
  | []=>.ok (fr,[])
  | l::r=>cond l.lock (.ok (fr,l::r)) ((iceAllHT (lenX l.bs) fr l).bind fun y=>.ok (y.1,y.2::r)))) (.ok (hKillF fr m,H))))
theorem iceIfT_ok {m:Nat} {fr:HFrm} {H:Heap} {y:HFrm×Heap} (h:(iceIfT m fr H).run=some y):iceIf m (strip fr) H=(strip y.1,y.2):=by
 unfold iceIfT at h
 unfold iceIf
 cases hm:memS m 4000 with
 | false =>
   rw[hm,cond_false] at h
   rw[if_neg (by simp)]
   cases hm2:memS m 4001 with
   | false =>
     rw[hm2,cond_false] at h
     rw[if_neg (by simp)]
     cases hm3:memS m 4002 with
     | false =>
       rw[hm3,cond_false] at h
       rw[if_neg (by simp),← Tr.ok_some h,hKillF_eq]
     | true =>
       rw[hm3,cond_true] at h
       rw[if_pos rfl]
       obtain ⟨b,fr',h1,h2,h3⟩:=testT_some h
       rw[hKillF_eq] at h1 h2
       rw[h1]
       cases b with
       | true =>
         simp only[if_true] at h3
         rw[← Tr.ok_some h3,h2]
       | false =>
         simp only[Bool.false_eq_true,if_false] at h3
         cases H with
         | nil =>
           dsimp only at h3
           rw[← Tr.ok_some h3,← h2];rfl
         | cons l r =>
           dsimp only at h3
           show iceH (fKill (strip fr) m) (l::r)=_
           rw[← h2]
           unfold iceH
           dsimp only
           cases hl:l.lock with
           | true =>
             rw[hl,cond_true] at h3
             rw[if_pos rfl,← Tr.ok_some h3]
           | false =>
             rw[hl,cond_false] at h3
             obtain ⟨z,h4,h5⟩:=Tr.bind_some h3
             have h4:=iceAllHT_ok _ _ _ _ h4
             rw[lenX_eq] at h4
             rw[if_neg (by simp),h4,← Tr.ok_some h5]
   | true =>
     rw[hm2,cond_true] at h
     rw[if_pos rfl]
     have h1:=iceOneT_ok h
     rw[hKillF_eq] at h1
     exact h1
 | true =>
   rw[hm,cond_true] at h
   rw[if_pos rfl]
   cases H with
   | nil =>
     rw[← Tr.ok_some h,hKillF_eq]
     simp only[ice,nilH,ite_self]
   | cons l r =>
     dsimp only at h
     unfold ice
     dsimp only
     cases hl:l.lock with
     | true =>
       rw[hl,cond_true] at h
       simp only[if_true]
       rw[← Tr.ok_some h,hKillF_eq]
       simp only[nilH,hl,if_true,ite_self]
     | false =>
       rw[hl,cond_false] at h
       obtain ⟨z,h1,h⟩:=Tr.bind_some h
       have h1:=iceAllT_ok _ _ _ _ h1
       rw[lenX_eq,hKillF_eq] at h1
       simp only[Bool.false_eq_true,if_false,h1]
       rw[← Tr.ok_some h]
       cases Nat.beq (Nat.shiftRight m 4003) 0<;>rfl
def execT (cx:Cx) (callR:CallTr) (bl:BlkT) (rg:RgT):Code→HFrm→Heap→Tr Res
 | .skip,fr,H=>.ok (.normal,fr,H)
 | .label _,fr,H=>.ok (.normal,fr,H)
 | .exit id,fr,H=>.ok (.exit id,fr,H)
 | .goto l,fr,H=>.ok (.goto l,fr,H)
 | .ret,fr,H=>.ok (.ret,fr,H)
 | .region id ops draw,fr,H =>
   (cond draw (cond (slotsOk ops (Region.before ops)) (drawOpsT cx.P cx.nt cx.call callR ops (Region.before ops) ops.toList 0 fr (hPad H (pushes ops.toList)) (hNextX H) []) .bad) (runOpsT cx.P cx.nt cx.call callR ops ops.toList fr H)).bind fun x=>(iceIfT (cx.kt id) x.1 x.2).bind fun y=>.ok (.normal,y.1,y.2)
 | .seq a b,fr,H=>(execT cx callR bl rg a fr H).bind fun x=>match x with
   | (.normal,fr,H)=>execT cx callR bl rg b fr H
   | r=>.ok r
 | .cond c a b,fr,H=>match c with
   | .tmp d=>testT fr d (fun fr=>execT cx callR bl rg a fr H) (fun fr=>execT cx callR bl rg b fr H)
   | c=>match (opdT fr c).1 with
     | .bool t=>cond t (execT cx callR bl rg a fr H) (execT cx callR bl rg b fr H)
     | _=>.bad
 | .block id b,fr,H=>match bl id fr H with
   | some t=>t
   | none=>(execT cx callR bl rg b fr H).bind fun x=>match x with
     | (.exit id',fr,H)=>cond (Nat.beq id' id) (.ok (.normal,fr,H)) (.ok (.exit id',fr,H))
     | r=>.ok r
 | .scope b,fr,H=>(execT cx callR bl rg b fr H).bind fun x=>match x with
   | (.goto _,_,_)=>.bad
   | r=>.ok r
 | .rangeFunc f _ _ _,fr,H=>match rg f fr H with
   | some t=>t
   | none=>.bad
 | .loop b,fr,H=>cond (Nat.ble 12 cx.fu) (iterT (execT cx callR bl rg b) (hNextX H) 12 fr H) .bad
 | .refuse _,_,_=>.bad

theorem execT_ok {cx:Cx} {callR:CallTr} {bl:BlkT} {rg:RgT} (hC:callR.Ok cx.call):∀ (c:Code),bl.Ok cx c→rg.Ok cx c→∀ (fr:HFrm) (H:Heap) (x:Res),(execT cx callR bl rg c fr H).run=some x→exec cx c (strip fr) H=some x.st:=by
 intro c
 induction c with
 | skip=>intro _ _ fr H x h;rw[← Tr.ok_some h];rfl
 | label=>intro _ _ fr H x h;rw[← Tr.ok_some h];rfl
 | exit=>intro _ _ fr H x h;rw[← Tr.ok_some h];rfl
 | goto=>intro _ _ fr H x h;rw[← Tr.ok_some h];rfl
 | ret=>intro _ _ fr H x h;rw[← Tr.ok_some h];rfl
 | refuse=>intro _ _ fr H x h;exact (Tr.bad_some h).elim
 | loop b ih =>
   intro hb hr fr H x h
   simp only[execT] at h
   obtain ⟨hk,h⟩:=Tr.cond_bad h
   rw[Nat.ble_eq] at hk
   unfold exec
   rw[hNextX_eq] at h
   exact iter_more _ _ _ _ _ (iterT_ok (fun fr H x h=>ih hb hr fr H x h) 12 fr H x h) hk
 | rangeFunc f ps a b =>
   intro _ hr fr H x h
   simp only[execT] at h
   split at h
   · rename_i t ht
     exact hr f ps a b (by simp[rangesOf]) fr H t x ht h
   · exact (Tr.bad_some h).elim
 | region id ops draw =>
   intro _ _ fr H x h
   simp only[execT] at h
   obtain ⟨y,h1,h⟩:=Tr.bind_some h
   obtain ⟨z,h2,h⟩:=Tr.bind_some h
   have h2:=iceIfT_ok h2
   rw[← Tr.ok_some h]
   unfold exec
   cases draw with
   | true =>
     rw[cond_true] at h1
     obtain ⟨hs,h1⟩:=Tr.cond_bad h1
     rw[hNextX_eq] at h1
     simp only[if_true,hs]
     rw[drawOpsT_ok hC _ _ _ _ _ _ _ h1]
     dsimp only
     rw[h2]
     rfl
   | false =>
     rw[cond_false] at h1
     simp only[Bool.false_eq_true,if_false]
     rw[runOpsT_ok hC _ _ _ _ h1]
     dsimp only
     rw[h2]
     rfl
 | seq a b iha ihb =>
   intro hb hr fr H x h
   have hba:bl.Ok cx a:=fun id b' hm=>hb id b' (List.mem_append_left _ hm)
   have hbb:bl.Ok cx b:=fun id b' hm=>hb id b' (List.mem_append_right _ hm)
   have hra:rg.Ok cx a:=fun f ps u v hm=>hr f ps u v (List.mem_append_left _ hm)
   have hrb:rg.Ok cx b:=fun f ps u v hm=>hr f ps u v (List.mem_append_right _ hm)
   simp only[execT] at h
   obtain ⟨y,h1,h⟩:=Tr.bind_some h
   have h1:=iha hba hra _ _ _ h1
   unfold exec
   rw[h1]
   obtain ⟨e,fr1,H1⟩:=y
   cases e
   case normal=>exact ihb hbb hrb _ _ _ h
   all_goals
    have h:=Tr.ok_some h
    rw[← h];rfl
 | cond c a b iha ihb =>
   intro hb hr fr H x h
   have hba:bl.Ok cx a:=fun id b' hm=>hb id b' (List.mem_append_left _ hm)
   have hbb:bl.Ok cx b:=fun id b' hm=>hb id b' (List.mem_append_right _ hm)
   have hra:rg.Ok cx a:=fun f ps u v hm=>hr f ps u v (List.mem_append_left _ hm)
   have hrb:rg.Ok cx b:=fun f ps u v hm=>hr f ps u v (List.mem_append_right _ hm)
   simp only[execT] at h
   unfold exec
   split at h
   · rename_i d
     obtain ⟨b',fr',h1,h2,h3⟩:=testT_some h
     have e:opd (strip fr) (.tmp d)=.bool b':=h1
     rw[e,← h2]
     cases b' with
     | true=>exact iha hba hra _ _ _ h3
     | false=>exact ihb hbb hrb _ _ _ h3
   · rename_i c' hne
     rw[opdT_eq] at h
     split at h
     · rename_i t hc
       rw[hc]
       cases t with
       | true=>exact iha hba hra _ _ _ h
       | false=>exact ihb hbb hrb _ _ _ h
     · exact (Tr.bad_some h).elim
 | block id b ih =>
   intro hb hr fr H x h
   have hbb:bl.Ok cx b:=fun id' b' hm=>hb id' b' (by simp only[blocksOf];exact List.mem_cons_of_mem _ hm)
   simp only[execT] at h
   split at h
   · rename_i t ht
     exact hb id b (by simp[blocksOf]) _ _ _ _ ht h
   · obtain ⟨y,h1,h⟩:=Tr.bind_some h
     have h1:=ih hbb hr _ _ _ h1
     unfold exec
     rw[h1]
     obtain ⟨e,fr1,H1⟩:=y
     cases e
     case exit id' =>
      dsimp only[Res.st] at h ⊢
      rw[cond_if] at h
      split at h
      · rename_i hid
        rw[if_pos hid,← Tr.ok_some h]
      · rename_i hid
        rw[if_neg hid,← Tr.ok_some h]
     all_goals
      have h:=Tr.ok_some h
      rw[← h];rfl
 | scope b ih =>
   intro hb hr fr H x h
   simp only[execT] at h
   obtain ⟨y,h1,h⟩:=Tr.bind_some h
   have h1:=ih hb hr _ _ _ h1
   unfold exec
   rw[h1]
   obtain ⟨e,fr1,H1⟩:=y
   cases e
   case goto=>exact (Tr.bad_some h).elim
   all_goals
    have h:=Tr.ok_some h
    rw[← h];rfl

end
end Go.Eng
