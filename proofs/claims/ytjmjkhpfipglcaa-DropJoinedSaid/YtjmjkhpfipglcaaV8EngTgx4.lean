/- The engine as a tree: what a call hands down; calls; loops. -/
import Derived.Test.YtjmjkhpfipglcaaV8EngTf
import Derived.Test.YtjmjkhpfipglcaaV8EngXx4
import Derived.ProofKit
section
namespace Go.Eng
set_option linter.unusedVariables false
set_option linter.unusedSimpArgs false
noncomputable section

def frzT (bs:List (Nat×Blk)):Nat→AV→Tr AV
 | 0,_=>.ok .undef
 | n + 1,v=>match v with
   | .ptr d i ver off=>match d with
     | d+1=>.ok (.ptr d i ver off)
     | 0 => match nthX bs i with
       | (w,.row r)=>cond (Nat.beq w ver) (match r with
         | .I k l=>.ok (.ptrT none (.I k l) off)
         | .F f m=>.ok (.ptrT none (.F f m) off)
         | .M l=>cond (arrs l) (.ok (.ptrT none (.M l) off)) ((mapMT (frzT bs n) l).bind fun m=>.ok (.ptrT (some 0) (.M m) off))
         | .G l=>(mapT (frzT bs n) l).bind fun m=>.ok (.ptrT (some 0) (.G m) off)) .bad
       | _=>.bad
   | .slc d i ver off sz len cap=>match d with
     | d+1=>.ok (.slc d i ver off sz len cap)
     | 0 => match nthX bs i with
       | (w,.row r)=>.req (eqN w ver) (match r with
         | .M [.arr k z N]=>.req (inO off (mulS len sz) 0 N) (.ok (.slcT none (.M [.arr k (shO z off) (mulS len sz)]) sz len (capEq cap len)))
         | .I k l=>cond (fitX (.I k l) off (Nat.mul len sz)) (.ok (.slcT none (.I k (takeX (dropX l off) (Nat.mul len sz))) sz len (capEq cap len))) .bad
         | .F f N=>.req (inO off (mulS len sz) 0 N) (.ok (.slcT none (.F (fun j=>f (addO off j)) (mulS len sz)) sz len (capEq cap len)))
         | .G l=>cond (fitX (.G l) off (Nat.mul len sz)) ((mapT (frzT bs n) (takeX (dropX l off) (Nat.mul len sz))).bind fun m=>.ok (.slcT (some 0) (.G m) sz len (capEq cap len))) .bad
         | _=>.bad)
       | _=>.bad
   | .ptrT s r off=>match s with
     | none=>.ok (.ptrT none r off)
     | some (s+1)=>.ok (.ptrT (some s) r off)
     | some 0=>match r with
       | .G l=>(mapT (frzT bs n) l).bind fun m=>.ok (.ptrT (some 0) (.G m) off)
       | .M l=>cond (arrs l) (.ok (.ptrT none (.M l) off)) ((mapMT (frzT bs n) l).bind fun m=>.ok (.ptrT (some 0) (.M m) off))
       | r=>.ok (.ptrT none r off)
   | .slcT s r sz len full=>match s with
     | none=>.ok (.slcT none r sz len full)
     | some (s+1)=>.ok (.slcT (some s) r sz len full)
     | some 0=>match r with
       | .G l=>(mapT (frzT bs n) l).bind fun m=>.ok (.slcT (some 0) (.G m) sz len full)
       | .M l=>cond (arrs l) (.ok (.slcT none (.M l) sz len full)) ((mapMT (frzT bs n) l).bind fun m=>.ok (.slcT (some 0) (.M m) sz len full))
       | r=>.ok (.slcT none r sz len full)
   | .map d i=>match d with
     | d+1=>.ok (.map d i)
     | 0=>.ok .undef
   | .yld d i=>match d with
     | d+1=>.ok (.yld d i)
     | 0=>.ok .undef
   | .fn f a b=>(mapT (frzT bs n) a).bind fun a'=>(mapT (frzT bs n) b).bind fun b'=>.ok (.fn f a' b')
   | .agg r=>match r with
     | .G l=>(mapT (frzT bs n) l).bind fun m=>.ok (.agg (.G m))
     | .M l=>(mapMT (frzT bs n) l).bind fun m=>.ok (.agg (.M m))
     | r=>.ok (.agg r)
   | .tup l=>(mapT (frzT bs n) l).bind fun m=>.ok (.tup m)
   | v=>.ok v
theorem frzT_ok (bs:List (Nat×Blk)):∀ (n:Nat) (v u:AV),(frzT bs n v).run=some u→frzV bs n v=u
 | 0,v,u,h=>Tr.ok_some h
 | n + 1,v,  u,h=>by
   have ih:=frzT_ok bs n
   simp only[frzT,nthX_eq] at h
   cases v with
   | ptr d i ver off =>
     cases d with
     | succ d=>exact Tr.ok_some h
     | zero =>
       dsimp only at h
       simp only[frzV]
       split at h
       · rename_i w r hg
         obtain ⟨hw,h⟩:=Tr.cond_bad h
         rw[hg]
         dsimp only
         rw[if_pos hw]
         cases r with
         | I k l=>exact Tr.ok_some h
         | F f m=>exact Tr.ok_some h
         | G l =>
           obtain ⟨m,h1,h⟩:=Tr.bind_some h
           rw[← Tr.ok_some h,← mapT_ok ih _ _ h1]
         | M l =>
           dsimp only at h ⊢
           cases ha:arrs l with
           | true=>rw[ha,cond_true] at h;rw[if_pos rfl];exact Tr.ok_some h
           | false =>
             rw[ha,cond_false] at h
             obtain ⟨m,h1,h⟩:=Tr.bind_some h
             rw[if_neg (by simp),← Tr.ok_some h,← mapMT_ok ih _ _ h1]
       · exact (Tr.bad_some h).elim
   | slc d i ver off sz len cap =>
     cases d with
     | succ d=>exact Tr.ok_some h
     | zero =>
       dsimp only at h
       simp only[frzV]
       split at h
       · rename_i w r hg
         obtain ⟨hw,h'⟩:=Tr.req_some h
         clear h
         rw[eqN_eq,decide_eq_true_eq] at hw
         subst hw
         rw[hg]
         dsimp only
         split at h'
         · rename_i k z N
           have h:=h'
           obtain ⟨hc,h⟩:=Tr.req_some h
           rw[inO_eq,decide_eq_true_eq,mulS_eq] at hc
           rw[if_pos ⟨by simp,by simp only[Row.len,lenM,segLen];omega⟩,← Tr.ok_some h,capEq_eq,mulS_eq,shO_fn]
           simp only[Row.sub,arrs,if_true]
         · have h:=h'
           obtain ⟨hc,h⟩:=Tr.cond_bad h
           rw[fitX_eq,decide_eq_true_eq] at hc
           rw[if_pos ⟨by simp,hc⟩,← Tr.ok_some h,capEq_eq,takeX_eq,dropX_eq]
           rfl
         · have h:=h'
           obtain ⟨hc,h⟩:=Tr.req_some h
           rw[inO_eq,decide_eq_true_eq,mulS_eq] at hc
           rw[if_pos ⟨by simp,by simp only[Row.len];omega⟩,← Tr.ok_some h,capEq_eq,mulS_eq]
           simp only[Row.sub,addO_eq]
         · have h:=h'
           obtain ⟨hc,h⟩:=Tr.cond_bad h
           rw[fitX_eq,decide_eq_true_eq] at hc
           obtain ⟨m,h1,h⟩:=Tr.bind_some h
           rw[takeX_eq,dropX_eq] at h1
           rw[if_pos ⟨by simp,hc⟩,← Tr.ok_some h,capEq_eq,← mapT_ok ih _ _ h1]
           rfl
         · exact (Tr.bad_some h').elim
       · exact (Tr.bad_some h).elim
   | ptrT s r off =>
     cases s with
     | none=>exact Tr.ok_some h
     | some s =>
       cases s with
       | succ s=>exact Tr.ok_some h
       | zero =>
         simp only[frzV]
         cases r with
         | I k l=>exact Tr.ok_some h
         | F f m=>exact Tr.ok_some h
         | G l =>
           obtain ⟨m,h1,h⟩:=Tr.bind_some h
           rw[← Tr.ok_some h,← mapT_ok ih _ _ h1]
         | M l =>
           dsimp only at h ⊢
           cases ha:arrs l with
           | true=>rw[ha,cond_true] at h;rw[if_pos rfl];exact Tr.ok_some h
           | false =>
             rw[ha,cond_false] at h
             obtain ⟨m,h1,h⟩:=Tr.bind_some h
             rw[if_neg (by simp),← Tr.ok_some h,← mapMT_ok ih _ _ h1]
   | slcT s r sz len full =>
     cases s with
     | none=>exact Tr.ok_some h
     | some s =>
       cases s with
       | succ s=>exact Tr.ok_some h
       | zero =>
         simp only[frzV]
         cases r with
         | I k l=>exact Tr.ok_some h
         | F f m=>exact Tr.ok_some h
         | G l =>
           obtain ⟨m,h1,h⟩:=Tr.bind_some h
           rw[← Tr.ok_some h,← mapT_ok ih _ _ h1]
         | M l =>
           dsimp only at h ⊢
           cases ha:arrs l with
           | true=>rw[ha,cond_true] at h;rw[if_pos rfl];exact Tr.ok_some h
           | false =>
             rw[ha,cond_false] at h
             obtain ⟨m,h1,h⟩:=Tr.bind_some h
             rw[if_neg (by simp),← Tr.ok_some h,← mapMT_ok ih _ _ h1]
   | map d i=>cases d<;>exact Tr.ok_some h
   | yld d i=>cases d<;>exact Tr.ok_some h
   | fn f a b =>
     obtain ⟨a',h1,h⟩:=Tr.bind_some h
     obtain ⟨b',h2,h⟩:=Tr.bind_some h
     simp only[frzV]
     rw[← Tr.ok_some h,← mapT_ok ih _ _ h1,← mapT_ok ih _ _ h2]
   | agg r =>
     simp only[frzV]
     cases r with
     | I k l=>exact Tr.ok_some h
     | F f m=>exact Tr.ok_some h
     | G l =>
       obtain ⟨m,h1,h⟩:=Tr.bind_some h
       rw[← Tr.ok_some h,← mapT_ok ih _ _ h1]
     | M l =>
       obtain ⟨m,h1,h⟩:=Tr.bind_some h
       rw[← Tr.ok_some h,← mapMT_ok ih _ _ h1]
   | tup l =>
     obtain ⟨m,h1,h⟩:=Tr.bind_some h
     simp only[frzV]
     rw[← Tr.ok_some h,← mapT_ok ih _ _ h1]
   | _=>exact Tr.ok_some h

def argH (l:List HV):Nat→HFrm:=List.rec (motive:=fun _=>Nat→HFrm) (fun _=>[]) (fun v _ ih x=>(x,(upV 1 v.1,v.2))::ih (Nat.succ x)) l
theorem argH_eq:∀ (l:List HV) (x:Nat),strip (argH l x)=argFrm x (avs l)
 | [],x=>rfl
 | v::l,x=>by
   have e:argH (v::l) x=(x,(upV 1 v.1,v.2))::argH l (x+1):=rfl
   rw[e,strip_cons,argH_eq l];rfl
def hints (f:Frm):HFrm:=List.rec (motive:=fun _=>HFrm) [] (fun p _ ih=>(p.1,(p.2,none))::ih) f
theorem hints_eq:∀ f:Frm,strip (hints f)=f
 | []=>rfl
 | (x,v)::r=>by
   have e:hints ((x,v)::r)=(x,(v,none))::hints r:=rfl
   rw[e,strip_cons,hints_eq r]
def resT (P:Program) (fr:HFrm) (H:Heap):List ResultVar→Tr (List AV)
 | []=>.ok []
 | .tmp t::r=>(resT P fr H r).bind fun l=>.ok ((hGetF fr t).1::l)
 | .cell a t::r=>(loadT P H t (opdT fr (.tmp a))).bind fun v=>(resT P fr H r).bind fun l=>.ok (v::l)
theorem resT_ok {P:Program} {fr:HFrm} {H:Heap}:∀ (l:List ResultVar) (vs:List AV),(resT P fr H l).run=some vs→resV P (strip fr) H l=some vs
 | [],vs,h=>by rw[← Tr.ok_some h];rfl
 | .tmp t::r,vs,h=>by
   simp only[resT] at h
   obtain ⟨l,h1,h⟩:=Tr.bind_some h
   simp only[resV]
   rw[resT_ok r l h1,← Tr.ok_some h,hGetF_eq];rfl
 | .cell a t::r,vs,h=>by
   simp only[resT] at h
   obtain ⟨v,h0,h⟩:=Tr.bind_some h
   obtain ⟨l,h1,h⟩:=Tr.bind_some h
   have h0:=loadT_ok h0
   rw[opdT_eq] at h0
   simp only[resV]
   have e:opd (strip fr) (.tmp a)=fGet (strip fr) a:=rfl
   rw[e] at h0
   rw[h0]
   dsimp only
   rw[resT_ok r l h1,← Tr.ok_some h];rfl
def hintR (fr:HFrm) (rs:List ResultVar):Option Nat :=
 match rs with
 | [.tmp t]=>(hGetF fr t).2
 | _=>none
def outT (P:Program) (rs:List ResultVar) (x:Res):Tr (HV×Heap) :=
 match x with
 | (e,fr,l::H)=>match e with
   | .normal | .ret=>(resT P fr (l::H) rs).bind fun vs=>(frzT l.bs 5 (one vs)).bind fun v=>.ok ((v,hintR fr rs),H)
   | _=>.bad
 | _=>.bad
theorem outT_ok {P:Program} {rs:List ResultVar} {x:Res} {y:HV×Heap} (h:(outT P rs x).run=some y):∃ l vs,x.2.2=l::y.2∧(x.1=.normal∨x.1=.ret)∧resV P (strip x.2.1) x.2.2 rs=some vs∧frzV l.bs 5 (one vs)=y.1.1:=by
 unfold outT at h
 split at h
 · rename_i e fr l H
   have key:((resT P fr (l::H) rs).bind fun vs=>(frzT l.bs 5 (one vs)).bind fun v=>Tr.ok (((v,hintR fr rs),H):HV×Heap)).run=some y→∃ vs,l::H=l::y.2∧resV P (strip fr) (l::H) rs=some vs∧frzV l.bs 5 (one vs)=y.1.1:=by
    intro h
    obtain ⟨vs,h1,h⟩:=Tr.bind_some h
    obtain ⟨v,h2,h⟩:=Tr.bind_some h
    have h:=Tr.ok_some h
    refine ⟨vs,by rw[← h],resT_ok _ _ h1,?_⟩
    rw[frzT_ok _ _ _ _ h2,← h]
   split at h
   · obtain ⟨vs,h1,h2,h3⟩:=key h;exact ⟨l,vs,h1,.inl rfl,h2,h3⟩
   · obtain ⟨vs,h1,h2,h3⟩:=key h;exact ⟨l,vs,h1,.inr rfl,h2,h3⟩
   · exact (Tr.bad_some h).elim
 · exact (Tr.bad_some h).elim
def bodyT (P:Program) (call:CallT) (fu:Nat) (f:FuncId) (fn:Func) (kt:Nat→Nat) (callR:CallTr) (bl:BlkT) (rg:RgT) (args:List HV) (H:Heap):Tr (HV×Heap) :=
 (execT ⟨P,call,fu,f,fn.ntmps,kt,none⟩ callR bl rg (bodyOf fn) (argH args 0) (⟨false,[]⟩::H)).bind fun x=>outT P fn.results.toList x
theorem bodyT_ok {P:Program} {ora:CallT→FuncId→List AV→Heap→Option (AV×Heap)} {KT:FuncId→Nat→Nat} {fu n:Nat} {f:FuncId} {fn:Func} (hf:P.funcs[f]?=some fn) (hb:fn.body.isSome=true) {args:List HV} {H:Heap} (ho:ora (callN P ora KT fu n) f (avs args) H=none) (hle:Nat.ble args.length fn.ntmps=true)
 {callR:CallTr} (hC:callR.Ok (callN P ora KT fu n)) {bl:BlkT} (hB:bl.Ok ⟨P,callN P ora KT fu n,fu,f,fn.ntmps,KT f,none⟩ (bodyOf fn)) {rg:RgT} (hR:rg.Ok ⟨P,callN P ora KT fu n,fu,f,fn.ntmps,KT f,none⟩ (bodyOf fn)) {y:HV×Heap}
 (h:(bodyT P (callN P ora KT fu n) fu f fn (KT f) callR bl rg args H).run=some y):callN P ora KT fu (n+1) (.fn f) (avs args) H=some (y.1.1,y.2):=by
 unfold bodyT at h
 obtain ⟨x,h1,h⟩:=Tr.bind_some h
 have h1:=execT_ok hC _ hB hR _ _ _ h1
 rw[argH_eq] at h1
 obtain ⟨l,vs,k1,k2,k3,k4⟩:=outT_ok h
 obtain ⟨c,hc⟩:=Option.isSome_iff_exists.1 hb
 have hbody:bodyOf fn=c:=by unfold bodyOf;rw[hc]
 rw[hbody] at h1
 obtain ⟨e,fr,H1⟩:=x
 dsimp only[Res.st] at h1 k1 k2 k3
 rw[k1] at h1 k3
 have hl:(avs args).length=args.length:=by unfold avs;rw[mapX_eq,List.length_map]
 simp only[callN,ho,hf,hc,hl,hle,if_true,h1]
 rcases k2 with rfl | rfl<;>simp only[k3]<;>rw[k4]

theorem exec_block_loop {cx:Cx} {id:Nat} {b:Code} {fr fr1:Frm} {H H1:Heap} (h:iter (exec cx b) (hNext H) cx.fu fr H=some (.exit id,fr1,H1)):exec cx (.block id (.loop b)) fr H=some (.normal,fr1,H1):=by
 unfold exec
 have:exec cx (.loop b) fr H=some (.exit id,fr1,H1):=by unfold exec;exact h
 rw[this]
 dsimp only
 rw[if_pos (by simp)]
theorem exec_block_loop_other {cx:Cx} {id:Nat} {b:Code} {fr fr1:Frm} {H H1:Heap} {e:Ex} (he:∀ id',e=.exit id'→Nat.beq id' id=false) (h:iter (exec cx b) (hNext H) cx.fu fr H=some (e,fr1,H1)):exec cx (.block id (.loop b)) fr H=some (e,fr1,H1):=by
 unfold exec
 have:exec cx (.loop b) fr H=some (e,fr1,H1):=by unfold exec;exact h
 rw[this]
 cases e with
 | exit id'=>dsimp only;rw[if_neg (by rw[he id' rfl];simp)]
 | _=>rfl
def fN (p:Nat→Bool):Nat→Nat→Nat
 | 0,j=>j
 | k+1,j=>if p j then j else fN p k (j+1)
theorem fN_spec (p:Nat→Bool):∀ (k j:Nat),j≤fN p k j∧fN p k j≤j+k∧(∀ i,j≤i→i<fN p k j→p i=false)∧(fN p k j<j+k→p (fN p k j)=true)
 | 0,j=>⟨Nat.le_refl _,Nat.le_refl _,fun i h1 h2=>absurd h2 (by simp only[fN];omega),fun h=>absurd h (by simp only[fN];omega)⟩
 | k + 1,j=>by
   simp only[fN]
   by_cases h:p j=true
   · rw[if_pos h]
     exact ⟨Nat.le_refl _,by omega,fun i h1 h2=>by omega,fun _=>h⟩
   · rw[if_neg h]
     obtain ⟨h1,h2,h3,h4⟩:=fN_spec p k (j+1)
     refine ⟨by omega,by omega,fun i k1 k2=>?_,fun k1=>h4 (by omega)⟩
     by_cases e:i=j
     · subst e;simpa using h
     · exact h3 i (by omega) k2
theorem iter_find {body:Frm→Heap→Option (Ex×Frm×Heap)} {n:Nat} (F:Nat→Frm) (G:Nat→Heap) (N:Nat) (p:Nat→Bool) (X:Nat→Ex×Frm×Heap)
 (hs:∀ j,j<N→p j=false→∃ f g,body (F j) (G j)=some (.normal,f,g)∧tidy n f g=(F (j+1),G (j+1)))
 (hh:∀ j,j<N→p j=true→body (F j) (G j)=some (X j)∧(X j).1≠.normal) (he:body (F N) (G N)=some (X N)∧(X N).1≠.normal) :
 ∀ (k j fu:Nat),j+k=N→k<fu→iter body n fu (F j) (G j)=some (X (fN p k j))
 | 0,j,0,_,h=>by omega
 | 0,j,fu+1,hj,_=>by
   have:j=N:=by omega
   subst this
   unfold iter
   rw[he.1]
   obtain ⟨x,hx⟩:∃ x,x=X j:=⟨_,rfl⟩
   have hn:=he.2
   simp only[fN]
   rw[← hx] at hn ⊢
   obtain ⟨e,f,g⟩:=x
   cases e<;>first | exact absurd rfl hn | rfl
 | k+1,j,0,_,h=>by omega
 | k + 1,j,fu+1,hj,hf=>by
   unfold iter
   cases hp:p j with
   | true =>
     obtain ⟨h1,h2⟩:=hh j (by omega) hp
     rw[h1]
     simp only[fN]
     rw[if_pos hp]
     obtain ⟨x,hx⟩:∃ x,x=X j:=⟨_,rfl⟩
     rw[← hx] at h2 ⊢
     obtain ⟨e,f,g⟩:=x
     cases e<;>first | exact absurd rfl h2 | rfl
   | false =>
     obtain ⟨f,g,h1,h2⟩:=hs j (by omega) hp
     rw[h1]
     dsimp only
     rw[h2]
     simp only[fN]
     rw[if_neg (by rw[hp];simp)]
     exact iter_find F G N p X hs hh he k (j+1) fu (by omega) (by omega)
theorem iter_for {body:Frm→Heap→Option (Ex×Frm×Heap)} {n:Nat} (F:Nat→Frm) (G:Nat→Heap) (N:Nat) (X:Ex×Frm×Heap)
 (hs:∀ j,j<N→∃ f g,body (F j) (G j)=some (.normal,f,g)∧tidy n f g=(F (j+1),G (j+1)))
 (he:body (F N) (G N)=some X∧X.1≠.normal) (fu:Nat) (hf:N<fu):iter body n fu (F 0) (G 0)=some X:=by
 have:=iter_find (n:=n) F G N (fun _=>false) (fun _=>X) (fun j hj _=>hs j hj) (fun j _ h=>by cases h) he N 0 fu (by omega) hf
 exact this
theorem iter_inv {body:Frm→Heap→Option (Ex×Frm×Heap)} {n:Nat} (I:Nat→Frm→Heap→Prop) (Q:Ex×Frm×Heap→Prop) (N:Nat)
 (hr:∀ j fr H,I j fr H→(∃ e f g,body fr H=some (e,f,g)∧((e=.normal∧j<N∧I (j+1) (tidy n f g).1 (tidy n f g).2)∨(e≠.normal∧Q (e,f,g))))) :
 ∀ (fu j:Nat) (fr:Frm) (H:Heap),I j fr H→N-j<fu→∃ x,iter body n fu fr H=some x∧Q x
 | 0,j,fr,H,_,h=>by omega
 | fu+1,j,fr,H,hI,h=>by
   obtain ⟨e,f,g,h1,h2⟩:=hr j fr H hI
   unfold iter
   rw[h1]
   rcases h2 with ⟨rfl,hj,h2⟩ | ⟨he,hq⟩
   · dsimp only
     exact iter_inv I Q N hr fu (j+1) _ _ h2 (by omega)
   · cases e<;>first | exact absurd rfl he | exact ⟨_,rfl,hq⟩

end
end Go.Eng
end
section
namespace Go.Eng
set_option linter.unusedVariables false
set_option linter.unusedSimpArgs false
noncomputable section

def oraS (tab:List Ora):CallT→FuncId→List AV→Heap→Option (AV×Heap):=fun call f args H =>
 cond (Nat.beq f 1000000) (match H with
  | []=>some (.undef,[])
  | _=>none) (oraT tab call f args H)
theorem oraS_ok {P:Program} (tab:List Ora) (hT:∀ e ∈ tab,OneOk P e):OraOk P (oraS tab):=by
 intro call hC f args H v H' h hne
 unfold oraS at h
 cases hb:Nat.beq f 1000000 with
 | true =>
   rw[hb,cond_true] at h
   cases H with
   | nil=>exact absurd rfl hne
   | cons l r=>simp at h
 | false =>
   rw[hb,cond_false] at h
   exact oraT_ok tab hT call hC f args H v H' h hne
theorem oraS_mode (P:Program) (tab:List Ora) (KT:FuncId→Nat→Nat) (fu n:Nat):∃ x,callN P (oraS tab) KT fu n .mode [] []=some x:=by
 cases n<;>exact ⟨_,rfl⟩

abbrev Ctr:=FuncId→Option (List HV→Heap→Tr (HV×Heap))
def Ctr.Ok (tab:Ctr) (call:CallT):Prop:=∀ f g,tab f=some g→∀ args H x,(g args H).run=some x→call (.fn f) (avs args) H=some (x.1.1,x.2)
variable (P:Program) (ora:CallT→FuncId→List AV→Heap→Option (AV×Heap)) (KT:FuncId→Nat→Nat) (fu:Nat) (no:FuncId→Bool) (tab:Ctr) (n:Nat)
def inlT : Nat→CallTr
 | 0 => fun tgt args H=>match tgt with
   | .fn g=>match tab g with
     | some c=>c args H
     | none=>.bad
   | _=>.bad
 | k + 1 => fun tgt args H=>match tgt with
   | .fn g=>match tab g with
     | some c=>c args H
     | none=>cond (no g) .bad (match P.funcs[g]? with
       | some fn=>match fn.body with
         | some _=>cond (Nat.ble (lenX args) fn.ntmps) (bodyT P (callN P ora KT fu (n+k)) fu g fn (KT g) (inlT k) noBT noRT args H) .bad
         | none=>.bad
       | none=>.bad)
   | _=>.bad
theorem inlT_ok (hno:∀ g,no g=false→∀ c args H,ora c g args H=none) (hm:∀ k,∃ x,callN P ora KT fu k .mode [] []=some x) (ht:∀ k,tab.Ok (callN P ora KT fu (n+k))):∀ k,(inlT P ora KT fu no tab n k).Ok (callN P ora KT fu (n+k))
 | 0 => ⟨hm _,fun tgt args H x h=>by
   unfold inlT at h
   split at h
   · split at h
     · rename_i c hc
       exact ht 0 _ _ hc _ _ _ h
     · exact (Tr.bad_some h).elim
   · exact (Tr.bad_some h).elim⟩
 | k + 1 => ⟨hm _,fun tgt args H x h=>by
   unfold inlT at h
   split at h
   · rename_i g
     split at h
     · rename_i c hc
       exact ht (k+1) _ _ hc _ _ _ h
     · obtain ⟨hn,h⟩:=Tr.cond_bad' h
       split at h
       · rename_i fn hf
         split at h
         · rename_i c hb
           obtain ⟨hl,h⟩:=Tr.cond_bad h
           rw[lenX_eq] at hl
           exact bodyT_ok hf (by rw[hb];rfl) (hno g hn _ _ _) hl (inlT_ok hno hm ht k) (noBT_ok _ _) (noRT_ok _ _) h
         · exact (Tr.bad_some h).elim
       · exact (Tr.bad_some h).elim
   · exact (Tr.bad_some h).elim⟩
def noCt:Ctr:=fun _=>none
theorem noCt_ok (call:CallT):noCt.Ok call:=fun _ _ h=>by cases h
def ctG (t:Ctr) (f:FuncId) (g:List AV→Option (Prop×AV)):Ctr:=fun x=>cond (Nat.beq x f) (some fun args H=>match g (avs args) with
 | some (p,v)=>.reqP p (.ok ((v,none),H))
 | none=>.bad) (t x)
theorem ctG_ok {t:Ctr} {f:FuncId} {g:List AV→Option (Prop×AV)} {call:CallT} (h:t.Ok call) (k:∀ args p v,g args=some (p,v)→p→∀ H,call (.fn f) args H=some (v,H)):(ctG t f g).Ok call:=by
 intro f' g' hg args H x hx
 unfold ctG at hg
 cases hb:Nat.beq f' f with
 | true =>
   rw[hb,cond_true,Option.some.injEq] at hg
   have:=Nat.eq_of_beq_eq_true hb
   subst this;subst hg
   dsimp only at hx
   split at hx
   · rename_i p v hp
     obtain ⟨e1,hx⟩:=Tr.reqP_some hx
     rw[k _ p v hp e1 H,← Tr.ok_some hx]
   · exact (Tr.bad_some hx).elim
 | false =>
   rw[hb,cond_false] at hg
   exact h _ _ hg _ _ _ hx
def ctE (t:Ctr) (f:FuncId) (args0:List AV) (H0:Heap) (u:Tr (AV×Heap)):Ctr:=fun x=>cond (Nat.beq x f) (some fun args H=>.reqP (avs args=args0∧H=H0) (u.bind fun y=>.ok ((y.1,none),y.2))) (t x)
theorem ctE_ok {t:Ctr} {f:FuncId} {args0:List AV} {H0:Heap} {u:Tr (AV×Heap)} {call:CallT} (h:t.Ok call) (k:∀ x,u.run=some x→call (.fn f) args0 H0=some x):(ctE t f args0 H0 u).Ok call:=by
 intro f' g' hg args H x hx
 unfold ctE at hg
 cases hb:Nat.beq f' f with
 | true =>
   rw[hb,cond_true,Option.some.injEq] at hg
   have:=Nat.eq_of_beq_eq_true hb
   subst this;subst hg
   obtain ⟨⟨e1,e2⟩,hx⟩:=Tr.reqP_some hx
   obtain ⟨y,h1,h2⟩:=Tr.bind_some hx
   rw[e1,e2,k _ h1,← Tr.ok_some h2]
 | false =>
   rw[hb,cond_false] at hg
   exact h _ _ hg _ _ _ hx

theorem shO_zero (z:Nat→Int):shO z 0=z:=by rw[shO_fn];funext j;simp
theorem ver0:andB (leN 0 0) (leN 0 1)=true:=by simp[andB_eq,leN_eq]
theorem beqN_self (a:Nat):eqN a a=true:=by simp[eqN_eq]

end
end Go.Eng
end
section
namespace Go.Eng.Kt
def k0:List Nat:=[]
def k1:List Nat:=[]
def k2:List Nat:=[]
def k3:List Nat:=[]
def k4:List Nat:=[]
def k5:List Nat:=[]
def k6:List Nat:=[]
def k7:List Nat:=[]
def k8:List Nat:=[]
def k9:List Nat:=[]
def k10:List Nat:=[]
def k11:List Nat:=[]
def k12:List Nat:=[]
def k13:List Nat:=[220855883097298041197912187592864814478435487109452369765200775161577459,220855883097298041197912187592864814478435487109452369765200775157383155,220855883097298041197912187592864814478435487109452369765200775161577455,220855883097298041197912187592864814478435487109452369765200775161577371,220855883097298041197912187592864814478435487109452369765200775161576987,220855883097298041197912187592864814478435487109452369765200775161575451,220855883097298041197912187592864814478435487109452369765200775161571355,220855883097298041197912187592864814478435487109452369765200775161554971,220855883097298041197912187592864814478435487109452222191248185485143323,220855883097298041197912187592864814478435487109452369765200775161577455,220855883097298041197912187592864814478435487109452369765200775161523483,220855883097298041197912187592864814478435487109447647398717905516309787,220855883097298041197912187592864814478435487109452369765200775161523483,220855883097298041197912187592864814478435487109452369765200775161457947,220855883097298041197912187592864814478435487109452369765200775161326875,220855883097298041197912187592864814478435487107034518125971516811914523,220855883097298041197912187592864814478435487109452369765200775161326875,220855883097298041197912187592864814478435487109452369765200775161326875,220855883097298041197912187592864814436897112241173748736956804527762715,220855883097298041197912187592864814478435487109452369765200775161577455,220855883097298041197912187592864814478435487109452369765200775161294111,220855883097298041197912187592864813813821489216994433313297245021121823,220855883097298041197912187592864814478435487109452369765200775161294111,220855883097298041197912187414458852890190501977166623584013883113450783,220855883097298041197912187592864814478435487109452369765200775161577455,220855883097298041197912187592864814478435487109452369765200775160769823,220855883097298041197912164756901731183077390176876858573278593036823839,220855883097298041197912187592864814478435487109452369765200775160769823,220855883097291764096176800912100978689012279443036267409756311126256927,220855883097298041197912187592864814478435487109452369765200775161577455,220855883090870289020876226490696966109070836699363557790069603820350751,220855883097298041197912187592864814478435487109452369765200775161577455,220855883097298041197912187592864814478435487109452369765200775161577455]
def k14:List Nat:=[]
def k15:List Nat:=[8189,8187]
def k16:List Nat:=[1569275433846670190958947355801916604025588861116008628223,1569275433846670190958947355801916604025588861116008628217,1569275433846670190958947355801916604025588861116008628193,1569275433846670190958947355801916604025588861116008628097,1569275433846670190958947355801916604025588861116008627713,1569275433846670190958947355801916604025588861116008626177,1569275433846670190958947355801916604025588861116008622081,1569275433846670190958947355801916604025588861116008597509,1569275433846670190958947355801916604025588861116008531973,1569275433846670190958947355801916604025588861116008138757,1569275433846670190958947355801916604025588861116007090181,1569275433846670190958947355801916604025588861116000798725,1569275433846670190958947355801916604025588861115984021509,1569275433846670190958947355801916604025588861115883358213,1569275433846670190958947355801916604025588861115749140485,1569275433846670190958947355801916604025588861115480705031,1569275433845242943266241395920858318056139365979590090071,1569275433846670190958947355801916604025588861116008628222,1569275433846670190958947355801916604025588861116008628222]
def k17:List Nat:=[34359738345,34359738157,34359729965,34359738319,34359476141,34359738319,34359738319]
def k18:List Nat:=[]
def k19:List Nat:=[1125899906842621,1125899906842613,1125899906842597,1125899906842085,1125899906842619,1125899906809829,1125899906842619,1125899839733741,1125899906842619,1125869842071533,1125835482333165,1125869842071437,1108277656027117,1125899906842619,1125869842071533,562949953421311,1125899906842619,1125899906842619]
def k20:List Nat:=[1361129467683753853853498429727072845821,1361129467683753853853498429727072813053,1361129467683753853853498429727072845819,1361129467683753853853498429727039291389,1361129467683753853853498429727072845819,1361129467683753853853498429727072845813,1361129467683753853853498429725999103989,1361129467683753853853498429727072845813,1361129467683753853558350524547720019957,1361129467683753853853498429727072845819,1361129467683753853853498429727072845805,1361129467683753844408765463987782418413,1361129467683753853853498429727072845805,1361129467683753853853498429727072845773,1361129467683753551622043526069779169229,1361129467683753853853498429727072845773,1361129467681277973774927669177274597325,1361129467683753853853498429727072845819,1361129467683753853853498429727072845757,1361129467604525691339234092133528895421,1361129467683753853853498429727072845757,1361129467683753853853498429727072845629,680564733841876926926749214863536422845,1361129467683753853853498429727072845819,1361129467683753853853498429727072845819]
def k21:List Nat:=[16777201,16776441,16514297,16777023,16777023]
def k22:List Nat:=[]
def k23:List Nat:=[5070602400912917605986812821489,5070602400912917605986812820721,5070602400912917605986811772145,5070602400912917605986812821311,5070602400912917605986796044017,5070602400912917605986812821311,5070602400912917605986812818167,5070602400912917605986812814071,5070602400912917605986812789495,5070602400912773490798736933623,5070602400912917605986812821311,5070602382023451674508231941887,5070602400912917605986812821311,5070602400912917605986812821311]
def k24:List Nat:=[]
def k25:List Nat:=[68719476615,68719475847,68719213703,68719476543,68711088007,68719476543,68719475647,68719476543]
def k26:List Nat:=[]
def k27:List Nat:=[2251799813685241,2251799813685053,2251799813619517,2251799813685199,2251799812636605,2251799813685199,2251799276814269,2251799813685199,2251799813684925,2251799813684413,2251765453946045,2251799813684413,2251799813683389,1970324836972733,2251799813684413,2251799813685199]
def k28:List Nat:=[]
def k29:List Nat:=[549755813857,549755810801,549751616497,549755813119,549755809791,547608326143,549755813119,549755801599,549755805695,549755813119]
def k30:List Nat:=[]
def k31:List Nat:=[67108860,67107836,67108847,67108828,67092444,67108828,33554396,67108847,67108847]
def k32:List Nat:=[73786976294838206449,73786976294838206073,73786976294837943929,73786976294838206399,73786976294834012025,73786976294838206399,73786976292690722681,73786976294838206399,73786976054320037753,73786975779442130809,73786976054320036217,73786905685575860089,73786976294838206399,73786976054320037753,73783035645164257145,73778532045536886649,73783035645164251001,55336291571454705529,73786976294838206399,73783035645164257145,73786976294838206399]
def k33:List Nat:=[]
def k34:List Nat:=[2147483617,2147480561,2145383409,2147482879,2147479547,1610608639,2147482879,2147482879]
def k35:List Nat:=[]
def k36:List Nat:=[562949953421299,562949953421111,562949953290039,562949953421263,562949953420983,562949952372407,562949953420471,562932773551287,562949953419519,554153860397823,562949953421311,562949953421263]
def k37:List Nat:=[]
def k38:List Nat:=[134217724,134216700,134217711,134217692,134201308,134217692,67108828,134217711,134217711]
def k39:List Nat:=[302231454903657293675209,302231454903657293669097,302231454903657226560233,302231454903657293675519,302231454903655414625001,302231454903653267141353,302231454903655414600425,302231452651855600939753,302231454903657293675519,302231454903655414625001,302229149060648079979247,302231454903657293675519,302199173101528301957871,302162279613380882854639,302199173101528301892335,299837989860093479351023,302231454903657293544191,226673591177742970256383,302231454903657293676543,302199173101528301957871,302231454903657293675519]
def k40:List Nat:=[]
def k41:List Nat:=[2045,2043]
def k42:List Nat:=[]
def k43:List Nat:=[4294967283,4294967099,4294704955,4294967103,4294967247]
def k44:List Nat:=[]
def k45:List Nat:=[]
def k46:List Nat:=[]
def k47:List Nat:=[]
def k48:List Nat:=[]
def k49:List Nat:=[4024,4031]
def k50:List Nat:=[]
def k51:List Nat:=[236,239]
def k52:List Nat:=[]
def k53:List Nat:=[34359738364,34359738332,34359738268,34359736220,34359738268,34359738140,34358689564,34359738140,32212254492,34359738140,34359738351]
def k54:List Nat:=[524284,524252,523740,524252,393180,524271,524271]
def k55:List Nat:=[2046,2046]
def k56:List Nat:=[16382,16380,16380,16382]
def k57:List Nat:=[236,239]
def k58:List Nat:=[4093,4077,3821,4083,4083]
def k59:List Nat:=[131068,131055]
def k60:List Nat:=[16377,16367]
def k61:List Nat:=[]
def k62:List Nat:=[524281,524279]
def k63:List Nat:=[2019,1983]
def k64:List Nat:=[34359738361,34359738359]
def k65:List Nat:=[508,495]
def k66:List Nat:=[502,495]
def k67:List Nat:=[508,495]
def k68:List Nat:=[68719476721,68719475961,68719443193,68719476543,68718952191,68719476543,68719476543]
def k69:List Nat:=[131064,131007]
def k70:List Nat:=[]
def k71:List Nat:=[]
def k72:List Nat:=[13,11]
def k73:List Nat:=[249,247]
def k74:List Nat:=[]
def k75:List Nat:=[]
def k76:List Nat:=[1125899906842608,1125899906842544,1125899906842544,1125899906383792,1125899905859504,1125899906383408,1125899906383664,1121501859872560,1125899906842591,1125899906383792,1125899906842591]
def k77:List Nat:=[19807040628566084398385987581,19807040628566084398385987573,19807040628566084398385070071,19807040628566084398384021495,19807040628566084398385070039,19807040628566084398385069975,19807040628566084398385069975,19807040628566084398385070071,19807040628566084398385070071,19807040628561580798758617079,19807040628566084398385987447,19807040628530055601367023479,19807040628566084398385987191,19807040628421969210310131319,19807040626260241389172293239,19807040628566084398385987583,19806889512838632569739148919,19807040628566084398385987583,19807040628566084398385987579]
def k78:List Nat:=[]
def k79:List Nat:=[16327,16231,16319]
def k80:List Nat:=[10384593717069655257060992658440041,10384593717069655257060992658439529,10384593717069655257060992658438505,10384593717069655257060992658436457,10384593717069655257060988363469161,10384593717069655257060992658436457,10384593717069655257060923938959721,10384593717069655257060992658432367,10384593717069655257060992658407791,10384593717069655254809192844747119,10384593717069655257060992658432367,10384593717069654968830616506724863,10384593717069655257060992658403839,10384593717069655257060992658272767,10384593717069360109155813305577983,10384593717069655257060992658440191,10384593716465192347253678071085417,10384593717069655257060992658436457,10384593717069655257060992657653097,10384593407584645435715923933396329,10384593717069655257060992658439935,10384593717069655257060992657128809,10384593717069655257060992655031659,10384573910029026690976594269044075,10384593717069655257060992655031659,10384593717069655257060992655031659,10384593717069655257060992655031659,10384593717069655257060992658439935]
def k81:List Nat:=[]
def k82:List Nat:=[]
def k83:List Nat:=[508,495]
def k84:List Nat:=[252,247]
def k85:List Nat:=[508,495]
def k86:List Nat:=[131056,130544,129528,130552,130815]
def k87:List Nat:=[]
def k88:List Nat:=[72057594037927914,72057594037927786,72057594037927786,72057594037927786,72057594037927530,72057594037927018,72057594035829866,72057594037927018,72057592964185194,72057594037926511,72057594037924463,72022409665837695,72057594037926655,72057594037927935,72057594037927679,72057594037927871]
def k89:List Nat:=[]
def k90:List Nat:=[262140,262108,261596,262108,131036,262127,262127]
def k91:List Nat:=[13,11]
def k92:List Nat:=[199,191]
def k93:List Nat:=[8185,8175]
def k94:List Nat:=[508,495]
def k95:List Nat:=[8184,8175]
def k96:List Nat:=[524284,523900,523388,523868,458332,524271,523900,524271]
def k97:List Nat:=[524278,523894,523382,523862,458326,524271,523894,524271]
def k98:List Nat:=[524284,523900,523388,523868,458332,524271,523900,524271]
def k99:List Nat:=[2361183241434822606832,2361183241434822475760,2361183241434822606591,2361183241434822082544,2361183241434822606832,2361183241434822605298,2361183241434822603250,2361183241400462864882,2361183241434822606591,2361183241159944696306,2361183241434822603775,2361182678484869181938,2361183241434822606591,2361183241434822606591]
def k100:List Nat:=[8188,8175]
def k101:List Nat:=[8188,8175]
def k102:List Nat:=[131056,130802,131039,131039]
def k103:List Nat:=[4070,4007,4039,3023,4095,4079]
def k104:List Nat:=[65520,65503]
def k105:List Nat:=[1048568,1048475,1048559]
def k106:List Nat:=[524284,523900,523388,523868,458332,524271,523900,524271]
def k107:List Nat:=[524284,523900,523388,523868,458332,524271,523900,524271]
def k108:List Nat:=[2042,2047]
def k109:List Nat:=[262132,260084,262132,131060]
def k110:List Nat:=[536870881,536854497,536805345,536870849,268435455]
def k111:List Nat:=[524284,523900,523388,523868,458332,524271,523900,524271]
def k112:List Nat:=[562949953421116,562949953419772,562949953419260,562949953421055]
def k113:List Nat:=[21778071482940061661655974875633165532912,21778071482940061661655974875633165532400,21778071482940061661655974875633165531376,21778071482940061661655974875633157142768,21778071482940061661655974875633165533183,21778071482940061661655974875632628660464,21778071482940061661655974875633165533183,21778071482940061661655974875598805793008,21778071482940061661655974875633165531376,21778071482940061661655974875633165531376,21778071482940061661655974875633165525232,21778071482940061661655973749733258682608,21778071482940061661655974875633165529328,21778071482940061661655974875633165529328,21778071482940061661655974875633165525232,21778071482940061661360826970453812703472,21778071482940061656933608392763520315632,21778071482939906919151064203098803138800,21778071482940061661655974875633165524210,21778071482940061661655974875633165532400,21778071482940061661655974875633165482992,21778071482940061661655974875633165515248,21778071482940061661655974875633165318640,21778071482940061661655974875633165057520,21778061098346344592000717814640506617328,21778071482940061661655974875633165516016,21778071482940061661655974875633165516018,21778071482940061661655974875633165532400,21778071482940061661655974875633165516016,21778071482940061661655974875633165516020,21778071482940061661655974875633165532400]
def k114:List Nat:=[254,251,251]
def k115:List Nat:=[562949953421240,562949953417144,562949953421240,562949953421112,562948879679288,562949953421112,562949953421112]
def k116:List Nat:=[72057594037927864,72057594037927736,72057594037927486,72057594037926974,72057594037402686,72057594037926974,72057594037926974,72057594037926718,72057592964184894,72057594037926718,72057594037926718,72057594037926718]
def k117:List Nat:=[36893488147419103164,36893488147419070396,36893488147419103036,36893488147419102780,36893488147419102268,36893488138829167676,36893488147419102268,36893488147419101244,36893479351326079036,36893488147419101244,36893488147419102268]
def k118:List Nat:=[144115188075855864,144115188075855612,144115188075855100,144115188075854076,144115188075852028,144115188075847934,144115183780880638,144115170895979006,144115188075848190,144115188075848190,144115188075848190,144115188075853311,143552238122432511,144115188075855679,141300438308747263,144115188075855679,126100789566371839,144115188075855679]
def k119:List Nat:=[4294967226,4294967102,4294958910,4294967102,4294967102,4294967102]
def k120:List Nat:=[10889035741470030830827987437816582766584,10889035741470030830827987437816582766456,10889035741470030830827987437816582766200,10889035741470030830827987437816582749816,10889035741470030830827987437816582766200,10889035741470030830827987437812287798904,10889035741470030830827987437816582766200,10889035741470030830827987437679143812728,10889035741470030830827987437816582766527,10889035741470030830827987435617559510648,10889035741470030830827987437816582766527,10889035741470030830827987437816582766200,10889035741470030830825681594807369072248,10889035741470030830827987437816582765688,10889035741470030830791093949669163662456,10889035741470030830827987437816582765688,10889035741470030528596532534159289089144,10889035741470030830827987437816582765688,10889035741153118180770930087442406964856,10889035741470030830827987437816582765176,10889035731328826029002152225842957122168,10889035741470030830827987437816582765176,10888952664720294273585930949875315243640,10889035741470030830827987437816582765176,10889035741470030830827987437816582766527]
def k121:List Nat:=[131068,131055]
def k122:List Nat:=[19342813113834066795298800,19342813113834066795298808,19342813113834066795297276,19342813113825270702275068,19342813113834066795297276,19342812537373314491873788,19342813113834066795297276,19342794667089993085745660,19342813113834066795297276,19342813113834066795297276,19342813113834066795297276,19342813113834066795298559]
def k123:List Nat:=[374144419156711147060143317175368453031918731001840,374144419156711147060143317175368453031918731001848,374144419156711147060143317175368453031918730998780,374144419156711147060143317175368453023122637976572,374144419156711147060143317175368453031918730998780,374144419156711147060143317175367300110414124151804,374144419156711147060143317175368453031918730998780,374144419156711147060143317175331559543771311895548,374144419156711147060143317175368453031918730999807,374144419156711147060143317175368453031918731001087,374144419156711147060143317175368453031918730998780,374144419156711147060143317175368453031918730998780,374144419156711147060143317175368453031918730998780,374144419156711141867846458640540824501422401778684,374144419156711147060143317175368453031918730998780,374144419156030582326301440248441703817055194575868,374144419156711147060143317175368453031918730998780,374144419134933075577203255513712478156285565465596,374144419156711147060143317175368453031918730998780,374144419156711147060143317175368453031918730998780,374144419156711147060143317175368453031918730998780,374144419156711147060143317175368453031918730999807,374144419156711147060143317175368453031918731001087]
def k124:List Nat:=[524282,524266,524286,524282,524026,524282,524282,524283]
def k125:List Nat:=[33554426,33554410,33554430,33554426,33554170,33554426,33554426,33538042,33554426,33554426,33554427]
def k126:List Nat:=[75557863725914323418866,75557863725914323418354,75557863725914323352818,75557863725845603941618,75557863725914323418354,75557859222314696047858,75557863725914323418610,75557863725914323418866]
def k127:List Nat:=[126,123]
def k128:List Nat:=[8589934590,8589934590,8589934590,8589934590,8589934587]
def k129:List Nat:=[32760,32703]
def k130:List Nat:=[68719476704,68719476704,68719476712,68719476731,68719475711]
def k131:List Nat:=[62,59]
def k132:List Nat:=[268435440,268173297,268435449,268434687,268434687]
def k133:List Nat:=[]
def k134:List Nat:=[]
def k135:List Nat:=[]
def k136:List Nat:=[]
def k137:List Nat:=[]
def k138:List Nat:=[]
def k139:List Nat:=[]
def k140:List Nat:=[]
def k141:List Nat:=[]
def k142:List Nat:=[]
def k143:List Nat:=[]
def k144:List Nat:=[]
def k145:List Nat:=[]
def k146:List Nat:=[]
def k147:List Nat:=[]
def k148:List Nat:=[]
def all:List (List Nat):=[k0,k1,k2,k3,k4,k5,k6,k7,k8,k9,k10,k11,k12,k13,k14,k15,k16,k17,k18,k19,k20,k21,k22,k23,k24,k25,k26,k27,k28,k29,k30,k31,k32,k33,k34,k35,k36,k37,k38,k39,k40,k41,k42,k43,k44,k45,k46,k47,k48,k49,k50,k51,k52,k53,k54,k55,k56,k57,k58,k59,k60,k61,k62,k63,k64,k65,k66,k67,k68,k69,k70,k71,k72,k73,k74,k75,k76,k77,k78,k79,k80,k81,k82,k83,k84,k85,k86,k87,k88,k89,k90,k91,k92,k93,k94,k95,k96,k97,k98,k99,k100,k101,k102,k103,k104,k105,k106,k107,k108,k109,k110,k111,k112,k113,k114,k115,k116,k117,k118,k119,k120,k121,k122,k123,k124,k125,k126,k127,k128,k129,k130,k131,k132,k133,k134,k135,k136,k137,k138,k139,k140,k141,k142,k143,k144,k145,k146,k147,k148]
def nth {α:Type} (d:α):List α→Nat→α
 | [],_=>d
 | x::_,0=>x
 | _::r,n+1=>nth d r n
def fl (f r:Nat):Nat:=cond (Nat.beq f 76 && Nat.beq r 6 || Nat.beq f 10 && Nat.beq r 22) (2 ^ 4000) (cond (Nat.beq f 12 && Nat.beq r 12) (2 ^ 4000+17*2 ^ 4003) (cond (Nat.beq f 12 && Nat.beq r 17) (2 ^ 4000+26*2 ^ 4003) 0))
def kt (f r:Nat):Nat:=Nat.add (nth 0 (nth [] all f) r) (fl f r)
end Go.Eng.Kt
end
section
namespace Go.Eng
open Go.ChangeShapes Go.RowKit
set_option linter.unusedVariables false

theorem post_of_below {H:Type} {enc:TypeId×Value→H} {P:Program} {f:Func} {s:ChangeSpec} {apart fresh handsOn again:Bool} {W W':World} {args:Array Value} {v:Value} {ds gs:List (DataW H)} {before pa pv:List MemPlace}
 (hW:DataW.Whole enc P f.params.toList s.vars apart W args.toList ds gs before) (hb:Below W.heap.size W W')
 (hres:∀ (b:Nat) (sp:Nat→Bool) (hd:Bool),DataW.TrodAll enc P W' b sp hd f.resultTypes.toList (v.resultList f.resultTypes.size) (s.fn H (ds++gs)).results [])
 (hargs:∀ sp:Nat→Bool,(∀ p ∈ before,sp p.block=true)→DataW.TrodAll enc P W' 0 sp true f.params.toList args.toList (s.fn H (ds++gs)).args pa)
 (hvars:∀ sp:Nat→Bool,(∀ p ∈ before,sp p.block=true)→DataW.TrodVars enc P W' sp s.vars (s.fn H (ds++gs)).vars pv) (hps:before=pa++pv)
 (hok:∀ (j:Nat) (t:TypeId) (r:Value),f.resultTypes[j]?=some t→(v.resultList f.resultTypes.size)[j]?=some r→Value.okWide P W' .any 0 t r) :
 s.post enc P f apart fresh handsOn again W args v W':=by
 have old:∀ p ∈ before,p.block<W.heap.size:=fun p hp=>hW.lt p hp
 have hz:=hW
 obtain ⟨_,_,_,_,_,hz,hn⟩:=hz
 refine ⟨ds,gs,before,[],pa,pv,hW,hres _ _ _,hargs _ (fun p hp=>by simpa using old p hp),hvars _ (fun p hp=>by simpa using old p hp),hb.frame _,fun _=>⟨hok,_,_,[]++pa++pv,⟨[]++pa,pv,trodAll_append (hargs _ (fun _ _=>rfl)) (hres _ _ _),hvars _ (fun _ _=>rfl),rfl,?_,?_⟩,?_⟩⟩
 · intro b off hp
   have hp':MemPlace.cell b off ∈ before:=by rw[hps];simpa using hp
   rw[hb.frozen (old _ hp')]
   exact hz b off hp'
 · intro ha
   have:=hn ha
   rw[hps] at this
   simpa using this
 · intro p hp _
   rw[hps]
   simpa using hp

end Go.Eng
end
