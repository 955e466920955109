/- The engine as a tree: what a call hands down; calls; loops. -/
import Derived.Test.YtoomemfhcbajoaaV7EngTf
import Derived.Test.YtoomemfhcbajoaaV7EngZx2
import Derived.Maps.RangeRun
section
namespace Go.Eng
set_option linter.unusedVariables false
set_option linter.unusedSimpArgs false
noncomputable section

def frzT (bs:List (Nat×Blk)):Nat→AV→Tr AV
 | 0,_=>.ok .undef
 | n + 1,v=>match v with
   | .ptr d i ver off=>match d with
     | d+1=>.ok (.ptr d i ver off)
     | 0 => match nthX bs i with
       | (w,.row r)=>cond (Nat.beq w ver) (match r with
         | .I k l=>.ok (.ptrT none (.I k l) off)
         | .F f m=>.ok (.ptrT none (.F f m) off)
         | .M l=>cond (arrs l) (.ok (.ptrT none (.M l) off)) ((mapMT (frzT bs n) l).bind fun m=>.ok (.ptrT (some 0) (.M m) off))
         | .G l=>(mapT (frzT bs n) l).bind fun m=>.ok (.ptrT (some 0) (.G m) off)) .bad
       | _=>.bad
   | .slc d i ver off sz len cap=>match d with
     | d+1=>.ok (.slc d i ver off sz len cap)
     | 0 => match nthX bs i with
       | (w,.row r)=>.req (eqN w ver) (match r with
         | .M [.arr k z N]=>.req (inO off (mulS len sz) 0 N) (.ok (.slcT none (.M [.arr k (shO z off) (mulS len sz)]) sz len (capEq cap len)))
         | .I k l=>cond (fitX (.I k l) off (Nat.mul len sz)) (.ok (.slcT none (.I k (takeX (dropX l off) (Nat.mul len sz))) sz len (capEq cap len))) .bad
         | .F f N=>.req (inO off (mulS len sz) 0 N) (.ok (.slcT none (.F (fun j=>f (addO off j)) (mulS len sz)) sz len (capEq cap len)))
         | .G l=>cond (fitX (.G l) off (Nat.mul len sz)) ((mapT (frzT bs n) (takeX (dropX l off) (Nat.mul len sz))).bind fun m=>.ok (.slcT (some 0) (.G m) sz len (capEq cap len))) .bad
         | _=>.bad)
       | _=>.bad
   | .ptrT s r off=>match s with
     | none=>.ok (.ptrT none r off)
     | some (s+1)=>.ok (.ptrT (some s) r off)
     | some 0=>match r with
       | .G l=>(mapT (frzT bs n) l).bind fun m=>.ok (.ptrT (some 0) (.G m) off)
       | .M l=>cond (arrs l) (.ok (.ptrT none (.M l) off)) ((mapMT (frzT bs n) l).bind fun m=>.ok (.ptrT (some 0) (.M m) off))
       | r=>.ok (.ptrT none r off)
   | .slcT s r sz len full=>match s with
     | none=>.ok (.slcT none r sz len full)
     | some (s+1)=>.ok (.slcT (some s) r sz len full)
     | some 0=>match r with
       | .G l=>(mapT (frzT bs n) l).bind fun m=>.ok (.slcT (some 0) (.G m) sz len full)
       | .M l=>cond (arrs l) (.ok (.slcT none (.M l) sz len full)) ((mapMT (frzT bs n) l).bind fun m=>.ok (.slcT (some 0) (.M m) sz len full))
       | r=>.ok (.slcT none r sz len full)
   | .map d i=>match d with
     | d+1=>.ok (.map d i)
     | 0=>.ok .undef
   | .yld d i=>match d with
     | d+1=>.ok (.yld d i)
     | 0=>.ok .undef
   | .fn f a b=>(mapT (frzT bs n) a).bind fun a'=>(mapT (frzT bs n) b).bind fun b'=>.ok (.fn f a' b')
   | .agg r=>match r with
     | .G l=>(mapT (frzT bs n) l).bind fun m=>.ok (.agg (.G m))
     | .M l=>(mapMT (frzT bs n) l).bind fun m=>.ok (.agg (.M m))
     | r=>.ok (.agg r)
   | .tup l=>(mapT (frzT bs n) l).bind fun m=>.ok (.tup m)
   | v=>.ok v
theorem frzT_ok (bs:List (Nat×Blk)):∀ (n:Nat) (v u:AV),(frzT bs n v).run=some u→frzV bs n v=u
 | 0,v,u,h=>Tr.ok_some h
 | n + 1,v,  u,h=>by
   have ih:=frzT_ok bs n
   simp only[frzT,nthX_eq] at h
   cases v with
   | ptr d i ver off =>
     cases d with
     | succ d=>exact Tr.ok_some h
     | zero =>
       dsimp only at h
       simp only[frzV]
       split at h
       · rename_i w r hg
         obtain ⟨hw,h⟩:=Tr.cond_bad h
         rw[hg]
         dsimp only
         rw[if_pos hw]
         cases r with
         | I k l=>exact Tr.ok_some h
         | F f m=>exact Tr.ok_some h
         | G l =>
           obtain ⟨m,h1,h⟩:=Tr.bind_some h
           rw[← Tr.ok_some h,← mapT_ok ih _ _ h1]
         | M l =>
           dsimp only at h ⊢
           cases ha:arrs l with
           | true=>rw[ha,cond_true] at h;rw[if_pos rfl];exact Tr.ok_some h
           | false =>
             rw[ha,cond_false] at h
             obtain ⟨m,h1,h⟩:=Tr.bind_some h
             rw[if_neg (by simp),← Tr.ok_some h,← mapMT_ok ih _ _ h1]
       · exact (Tr.bad_some h).elim
   | slc d i ver off sz len cap =>
     cases d with
     | succ d=>exact Tr.ok_some h
     | zero =>
       dsimp only at h
       simp only[frzV]
       split at h
       · rename_i w r hg
         obtain ⟨hw,h'⟩:=Tr.req_some h
         clear h
         rw[eqN_eq,decide_eq_true_eq] at hw
         subst hw
         rw[hg]
         dsimp only
         split at h'
         · rename_i k z N
           have h:=h'
           obtain ⟨hc,h⟩:=Tr.req_some h
           rw[inO_eq,decide_eq_true_eq,mulS_eq] at hc
           rw[if_pos ⟨by simp,by simp only[Row.len,lenM,segLen];omega⟩,← Tr.ok_some h,capEq_eq,mulS_eq,shO_fn]
           simp only[Row.sub,arrs,if_true]
         · have h:=h'
           obtain ⟨hc,h⟩:=Tr.cond_bad h
           rw[fitX_eq,decide_eq_true_eq] at hc
           rw[if_pos ⟨by simp,hc⟩,← Tr.ok_some h,capEq_eq,takeX_eq,dropX_eq]
           rfl
         · have h:=h'
           obtain ⟨hc,h⟩:=Tr.req_some h
           rw[inO_eq,decide_eq_true_eq,mulS_eq] at hc
           rw[if_pos ⟨by simp,by simp only[Row.len];omega⟩,← Tr.ok_some h,capEq_eq,mulS_eq]
           simp only[Row.sub,addO_eq]
         · have h:=h'
           obtain ⟨hc,h⟩:=Tr.cond_bad h
           rw[fitX_eq,decide_eq_true_eq] at hc
           obtain ⟨m,h1,h⟩:=Tr.bind_some h
           rw[takeX_eq,dropX_eq] at h1
           rw[if_pos ⟨by simp,hc⟩,← Tr.ok_some h,capEq_eq,← mapT_ok ih _ _ h1]
           rfl
         · exact (Tr.bad_some h').elim
       · exact (Tr.bad_some h).elim
   | ptrT s r off =>
     cases s with
     | none=>exact Tr.ok_some h
     | some s =>
       cases s with
       | succ s=>exact Tr.ok_some h
       | zero =>
         simp only[frzV]
         cases r with
         | I k l=>exact Tr.ok_some h
         | F f m=>exact Tr.ok_some h
         | G l =>
           obtain ⟨m,h1,h⟩:=Tr.bind_some h
           rw[← Tr.ok_some h,← mapT_ok ih _ _ h1]
         | M l =>
           dsimp only at h ⊢
           cases ha:arrs l with
           | true=>rw[ha,cond_true] at h;rw[if_pos rfl];exact Tr.ok_some h
           | false =>
             rw[ha,cond_false] at h
             obtain ⟨m,h1,h⟩:=Tr.bind_some h
             rw[if_neg (by simp),← Tr.ok_some h,← mapMT_ok ih _ _ h1]
   | slcT s r sz len full =>
     cases s with
     | none=>exact Tr.ok_some h
     | some s =>
       cases s with
       | succ s=>exact Tr.ok_some h
       | zero =>
         simp only[frzV]
         cases r with
         | I k l=>exact Tr.ok_some h
         | F f m=>exact Tr.ok_some h
         | G l =>
           obtain ⟨m,h1,h⟩:=Tr.bind_some h
           rw[← Tr.ok_some h,← mapT_ok ih _ _ h1]
         | M l =>
           dsimp only at h ⊢
           cases ha:arrs l with
           | true=>rw[ha,cond_true] at h;rw[if_pos rfl];exact Tr.ok_some h
           | false =>
             rw[ha,cond_false] at h
             obtain ⟨m,h1,h⟩:=Tr.bind_some h
             rw[if_neg (by simp),← Tr.ok_some h,← mapMT_ok ih _ _ h1]
   | map d i=>cases d<;>exact Tr.ok_some h
   | yld d i=>cases d<;>exact Tr.ok_some h
   | fn f a b =>
     obtain ⟨a',h1,h⟩:=Tr.bind_some h
     obtain ⟨b',h2,h⟩:=Tr.bind_some h
     simp only[frzV]
     rw[← Tr.ok_some h,← mapT_ok ih _ _ h1,← mapT_ok ih _ _ h2]
   | agg r =>
     simp only[frzV]
     cases r with
     | I k l=>exact Tr.ok_some h
     | F f m=>exact Tr.ok_some h
     | G l =>
       obtain ⟨m,h1,h⟩:=Tr.bind_some h
       rw[← Tr.ok_some h,← mapT_ok ih _ _ h1]
     | M l =>
       obtain ⟨m,h1,h⟩:=Tr.bind_some h
       rw[← Tr.ok_some h,← mapMT_ok ih _ _ h1]
   | tup l =>
     obtain ⟨m,h1,h⟩:=Tr.bind_some h
     simp only[frzV]
     rw[← Tr.ok_some h,← mapT_ok ih _ _ h1]
   | _=>exact Tr.ok_some h

def argH (l:List HV):Nat→HFrm:=List.rec (motive:=fun _=>Nat→HFrm) (fun _=>[]) (fun v _ ih x=>(x,(upV 1 v.1,v.2))::ih (Nat.succ x)) l
theorem argH_eq:∀ (l:List HV) (x:Nat),strip (argH l x)=argFrm x (avs l)
 | [],x=>rfl
 | v::l,x=>by
   have e:argH (v::l) x=(x,(upV 1 v.1,v.2))::argH l (x+1):=rfl
   rw[e,strip_cons,argH_eq l];rfl
def hints (f:Frm):HFrm:=List.rec (motive:=fun _=>HFrm) [] (fun p _ ih=>(p.1,(p.2,none))::ih) f
theorem hints_eq:∀ f:Frm,strip (hints f)=f
 | []=>rfl
 | (x,v)::r=>by
   have e:hints ((x,v)::r)=(x,(v,none))::hints r:=rfl
   rw[e,strip_cons,hints_eq r]
def resT (P:Program) (fr:HFrm) (H:Heap):List ResultVar→Tr (List AV)
 | []=>.ok []
 | .tmp t::r=>(resT P fr H r).bind fun l=>.ok ((hGetF fr t).1::l)
 | .cell a t::r=>(loadT P H t (opdT fr (.tmp a))).bind fun v=>(resT P fr H r).bind fun l=>.ok (v::l)
theorem resT_ok {P:Program} {fr:HFrm} {H:Heap}:∀ (l:List ResultVar) (vs:List AV),(resT P fr H l).run=some vs→resV P (strip fr) H l=some vs
 | [],vs,h=>by rw[← Tr.ok_some h];rfl
 | .tmp t::r,vs,h=>by
   simp only[resT] at h
   obtain ⟨l,h1,h⟩:=Tr.bind_some h
   simp only[resV]
   rw[resT_ok r l h1,← Tr.ok_some h,hGetF_eq];rfl
 | .cell a t::r,vs,h=>by
   simp only[resT] at h
   obtain ⟨v,h0,h⟩:=Tr.bind_some h
   obtain ⟨l,h1,h⟩:=Tr.bind_some h
   have h0:=loadT_ok h0
   rw[opdT_eq] at h0
   simp only[resV]
   have e:opd (strip fr) (.tmp a)=fGet (strip fr) a:=rfl
   rw[e] at h0
   rw[h0]
   dsimp only
   rw[resT_ok r l h1,← Tr.ok_some h];rfl
def hintR (fr:HFrm) (rs:List ResultVar):Option Nat :=
 match rs with
 | [.tmp t]=>(hGetF fr t).2
 | _=>none
def outT (P:Program) (rs:List ResultVar) (x:Res):Tr (HV×Heap) :=
 match x with
 | (e,fr,l::H)=>match e with
   | .normal | .ret=>(resT P fr (l::H) rs).bind fun vs=>(frzT l.bs 5 (one vs)).bind fun v=>.ok ((v,hintR fr rs),H)
   | _=>.bad
 | _=>.bad
theorem outT_ok {P:Program} {rs:List ResultVar} {x:Res} {y:HV×Heap} (h:(outT P rs x).run=some y):∃ l vs,x.2.2=l::y.2∧(x.1=.normal∨x.1=.ret)∧resV P (strip x.2.1) x.2.2 rs=some vs∧frzV l.bs 5 (one vs)=y.1.1:=by
 unfold outT at h
 split at h
 · rename_i e fr l H
   have key:((resT P fr (l::H) rs).bind fun vs=>(frzT l.bs 5 (one vs)).bind fun v=>Tr.ok (((v,hintR fr rs),H):HV×Heap)).run=some y→∃ vs,l::H=l::y.2∧resV P (strip fr) (l::H) rs=some vs∧frzV l.bs 5 (one vs)=y.1.1:=by
    intro h
    obtain ⟨vs,h1,h⟩:=Tr.bind_some h
    obtain ⟨v,h2,h⟩:=Tr.bind_some h
    have h:=Tr.ok_some h
    refine ⟨vs,by rw[← h],resT_ok _ _ h1,?_⟩
    rw[frzT_ok _ _ _ _ h2,← h]
   split at h
   · obtain ⟨vs,h1,h2,h3⟩:=key h;exact ⟨l,vs,h1,.inl rfl,h2,h3⟩
   · obtain ⟨vs,h1,h2,h3⟩:=key h;exact ⟨l,vs,h1,.inr rfl,h2,h3⟩
   · exact (Tr.bad_some h).elim
 · exact (Tr.bad_some h).elim
def bodyT (P:Program) (call:CallT) (fu:Nat) (f:FuncId) (fn:Func) (kt:Nat→Nat) (callR:CallTr) (bl:BlkT) (rg:RgT) (args:List HV) (H:Heap):Tr (HV×Heap) :=
 (execT ⟨P,call,fu,f,fn.ntmps,kt,none⟩ callR bl rg (bodyOf fn) (argH args 0) (⟨false,[]⟩::H)).bind fun x=>outT P fn.results.toList x
theorem bodyT_ok {P:Program} {ora:CallT→FuncId→List AV→Heap→Option (AV×Heap)} {KT:FuncId→Nat→Nat} {fu n:Nat} {f:FuncId} {fn:Func} (hf:P.funcs[f]?=some fn) (hb:fn.body.isSome=true) {args:List HV} {H:Heap} (ho:ora (callN P ora KT fu n) f (avs args) H=none) (hle:Nat.ble args.length fn.ntmps=true)
 {callR:CallTr} (hC:callR.Ok (callN P ora KT fu n)) {bl:BlkT} (hB:bl.Ok ⟨P,callN P ora KT fu n,fu,f,fn.ntmps,KT f,none⟩ (bodyOf fn)) {rg:RgT} (hR:rg.Ok ⟨P,callN P ora KT fu n,fu,f,fn.ntmps,KT f,none⟩ (bodyOf fn)) {y:HV×Heap}
 (h:(bodyT P (callN P ora KT fu n) fu f fn (KT f) callR bl rg args H).run=some y):callN P ora KT fu (n+1) (.fn f) (avs args) H=some (y.1.1,y.2):=by
 unfold bodyT at h
 obtain ⟨x,h1,h⟩:=Tr.bind_some h
 have h1:=execT_ok hC _ hB hR _ _ _ h1
 rw[argH_eq] at h1
 obtain ⟨l,vs,k1,k2,k3,k4⟩:=outT_ok h
 obtain ⟨c,hc⟩:=Option.isSome_iff_exists.1 hb
 have hbody:bodyOf fn=c:=by unfold bodyOf;rw[hc]
 rw[hbody] at h1
 obtain ⟨e,fr,H1⟩:=x
 dsimp only[Res.st] at h1 k1 k2 k3
 rw[k1] at h1 k3
 have hl:(avs args).length=args.length:=by unfold avs;rw[mapX_eq,List.length_map]
 simp only[callN,ho,hf,hc,hl,hle,if_true,h1]
 rcases k2 with rfl | rfl<;>simp only[k3]<;>rw[k4]

theorem exec_block_loop {cx:Cx} {id:Nat} {b:Code} {fr fr1:Frm} {H H1:Heap} (h:iter (exec cx b) (hNext H) cx.fu fr H=some (.exit id,fr1,H1)):exec cx (.block id (.loop b)) fr H=some (.normal,fr1,H1):=by
 unfold exec
 have:exec cx (.loop b) fr H=some (.exit id,fr1,H1):=by unfold exec;exact h
 rw[this]
 dsimp only
 rw[if_pos (by simp)]
theorem exec_block_loop_other {cx:Cx} {id:Nat} {b:Code} {fr fr1:Frm} {H H1:Heap} {e:Ex} (he:∀ id',e=.exit id'→Nat.beq id' id=false) (h:iter (exec cx b) (hNext H) cx.fu fr H=some (e,fr1,H1)):exec cx (.block id (.loop b)) fr H=some (e,fr1,H1):=by
 unfold exec
 have:exec cx (.loop b) fr H=some (e,fr1,H1):=by unfold exec;exact h
 rw[this]
 cases e with
 | exit id'=>dsimp only;rw[if_neg (by rw[he id' rfl];simp)]
 | _=>rfl
def fN (p:Nat→Bool):Nat→Nat→Nat
 | 0,j=>j
 | k+1,j=>if p j then j else fN p k (j+1)
theorem fN_spec (p:Nat→Bool):∀ (k j:Nat),j≤fN p k j∧fN p k j≤j+k∧(∀ i,j≤i→i<fN p k j→p i=false)∧(fN p k j<j+k→p (fN p k j)=true)
 | 0,j=>⟨Nat.le_refl _,Nat.le_refl _,fun i h1 h2=>absurd h2 (by simp only[fN];omega),fun h=>absurd h (by simp only[fN];omega)⟩
 | k + 1,j=>by
   simp only[fN]
   by_cases h:p j=true
   · rw[if_pos h]
     exact ⟨Nat.le_refl _,by omega,fun i h1 h2=>by omega,fun _=>h⟩
   · rw[if_neg h]
     obtain ⟨h1,h2,h3,h4⟩:=fN_spec p k (j+1)
     refine ⟨by omega,by omega,fun i k1 k2=>?_,fun k1=>h4 (by omega)⟩
     by_cases e:i=j
     · subst e;simpa using h
     · exact h3 i (by omega) k2
theorem iter_find {body:Frm→Heap→Option (Ex×Frm×Heap)} {n:Nat} (F:Nat→Frm) (G:Nat→Heap) (N:Nat) (p:Nat→Bool) (X:Nat→Ex×Frm×Heap)
 (hs:∀ j,j<N→p j=false→∃ f g,body (F j) (G j)=some (.normal,f,g)∧tidy n f g=(F (j+1),G (j+1)))
 (hh:∀ j,j<N→p j=true→body (F j) (G j)=some (X j)∧(X j).1≠.normal) (he:body (F N) (G N)=some (X N)∧(X N).1≠.normal) :
 ∀ (k j fu:Nat),j+k=N→k<fu→iter body n fu (F j) (G j)=some (X (fN p k j))
 | 0,j,0,_,h=>by omega
 | 0,j,fu+1,hj,_=>by
   have:j=N:=by omega
   subst this
   unfold iter
   rw[he.1]
   obtain ⟨x,hx⟩:∃ x,x=X j:=⟨_,rfl⟩
   have hn:=he.2
   simp only[fN]
   rw[← hx] at hn ⊢
   obtain ⟨e,f,g⟩:=x
   cases e<;>first | exact absurd rfl hn | rfl
 | k+1,j,0,_,h=>by omega
 | k + 1,j,fu+1,hj,hf=>by
   unfold iter
   cases hp:p j with
   | true =>
     obtain ⟨h1,h2⟩:=hh j (by omega) hp
     rw[h1]
     simp only[fN]
     rw[if_pos hp]
     obtain ⟨x,hx⟩:∃ x,x=X j:=⟨_,rfl⟩
     rw[← hx] at h2 ⊢
     obtain ⟨e,f,g⟩:=x
     cases e<;>first | exact absurd rfl h2 | rfl
   | false =>
     obtain ⟨f,g,h1,h2⟩:=hs j (by omega) hp
     rw[h1]
     dsimp only
     rw[h2]
     simp only[fN]
     rw[if_neg (by rw[hp];simp)]
     exact iter_find F G N p X hs hh he k (j+1) fu (by omega) (by omega)
theorem iter_inv {body:Frm→Heap→Option (Ex×Frm×Heap)} {n:Nat} (I:Nat→Frm→Heap→Prop) (Q:Ex×Frm×Heap→Prop) (N:Nat)
 (hr:∀ j fr H,I j fr H→(∃ e f g,body fr H=some (e,f,g)∧((e=.normal∧j<N∧I (j+1) (tidy n f g).1 (tidy n f g).2)∨(e≠.normal∧Q (e,f,g))))) :
 ∀ (fu j:Nat) (fr:Frm) (H:Heap),I j fr H→N-j<fu→∃ x,iter body n fu fr H=some x∧Q x
 | 0,j,fr,H,_,h=>by omega
 | fu+1,j,fr,H,hI,h=>by
   obtain ⟨e,f,g,h1,h2⟩:=hr j fr H hI
   unfold iter
   rw[h1]
   rcases h2 with ⟨rfl,hj,h2⟩ | ⟨he,hq⟩
   · dsimp only
     exact iter_inv I Q N hr fu (j+1) _ _ h2 (by omega)
   · cases e<;>first | exact absurd rfl he | exact ⟨_,rfl,hq⟩

end
end Go.Eng
end
section
namespace Go.Eng
set_option linter.unusedVariables false
set_option linter.unusedSimpArgs false
noncomputable section

def oraS (tab:List Ora):CallT→FuncId→List AV→Heap→Option (AV×Heap):=fun call f args H =>
 cond (Nat.beq f 1000000) (match H with
  | []=>some (.undef,[])
  | _=>none) (oraT tab call f args H)
theorem oraS_ok {P:Program} (tab:List Ora) (hT:∀ e ∈ tab,OneOk P e):OraOk P (oraS tab):=by
 intro call hC f args H v H' h hne
 unfold oraS at h
 cases hb:Nat.beq f 1000000 with
 | true =>
   rw[hb,cond_true] at h
   cases H with
   | nil=>exact absurd rfl hne
   | cons l r=>simp at h
 | false =>
   rw[hb,cond_false] at h
   exact oraT_ok tab hT call hC f args H v H' h hne
abbrev Ctr:=FuncId→Option (List HV→Heap→Tr (HV×Heap))
def Ctr.Ok (tab:Ctr) (call:CallT):Prop:=∀ f g,tab f=some g→∀ args H x,(g args H).run=some x→call (.fn f) (avs args) H=some (x.1.1,x.2)
variable (P:Program) (ora:CallT→FuncId→List AV→Heap→Option (AV×Heap)) (KT:FuncId→Nat→Nat) (fu:Nat) (no:FuncId→Bool) (tab:Ctr) (n:Nat)
def inlT : Nat→CallTr
 | 0 => fun tgt args H=>match tgt with
   | .fn g=>match tab g with
     | some c=>c args H
     | none=>.bad
   | _=>.bad
 | k + 1 => fun tgt args H=>match tgt with
   | .fn g=>match tab g with
     | some c=>c args H
     | none=>cond (no g) .bad (match P.funcs[g]? with
       | some fn=>match fn.body with
         | some _=>cond (Nat.ble (lenX args) fn.ntmps) (bodyT P (callN P ora KT fu (n+k)) fu g fn (KT g) (inlT k) noBT noRT args H) .bad
         | none=>.bad
       | none=>.bad)
   | _=>.bad
theorem inlT_ok (hno:∀ g,no g=false→∀ c args H,ora c g args H=none) (hm:∀ k,∃ x,callN P ora KT fu k .mode [] []=some x) (ht:∀ k,tab.Ok (callN P ora KT fu (n+k))):∀ k,(inlT P ora KT fu no tab n k).Ok (callN P ora KT fu (n+k))
 | 0 => ⟨hm _,fun tgt args H x h=>by
   unfold inlT at h
   split at h
   · split at h
     · rename_i c hc
       exact ht 0 _ _ hc _ _ _ h
     · exact (Tr.bad_some h).elim
   · exact (Tr.bad_some h).elim⟩
 | k + 1 => ⟨hm _,fun tgt args H x h=>by
   unfold inlT at h
   split at h
   · rename_i g
     split at h
     · rename_i c hc
       exact ht (k+1) _ _ hc _ _ _ h
     · obtain ⟨hn,h⟩:=Tr.cond_bad' h
       split at h
       · rename_i fn hf
         split at h
         · rename_i c hb
           obtain ⟨hl,h⟩:=Tr.cond_bad h
           rw[lenX_eq] at hl
           exact bodyT_ok hf (by rw[hb];rfl) (hno g hn _ _ _) hl (inlT_ok hno hm ht k) (noBT_ok _ _) (noRT_ok _ _) h
         · exact (Tr.bad_some h).elim
       · exact (Tr.bad_some h).elim
   · exact (Tr.bad_some h).elim⟩
def noCt:Ctr:=fun _=>none
theorem noCt_ok (call:CallT):noCt.Ok call:=fun _ _ h=>by cases h
def addCt (t:Ctr) (f:FuncId) (g:List AV→Heap→Tr (AV×Heap)):Ctr:=fun x=>cond (Nat.beq x f) (some fun args H=>(g (avs args) H).bind fun y=>.ok ((y.1,none),y.2)) (t x)
theorem addCt_ok {t:Ctr} {f:FuncId} {g:List AV→Heap→Tr (AV×Heap)} {call:CallT} (h:t.Ok call) (k:∀ args H x,(g args H).run=some x→call (.fn f) args H=some x):(addCt t f g).Ok call:=by
 intro f' g' hg args H x hx
 unfold addCt at hg
 cases hb:Nat.beq f' f with
 | true =>
   rw[hb,cond_true,Option.some.injEq] at hg
   have:=Nat.eq_of_beq_eq_true hb
   subst this;subst hg
   obtain ⟨y,h1,h2⟩:=Tr.bind_some hx
   have:=k _ _ _ h1
   rw[← Tr.ok_some h2];exact this
 | false =>
   rw[hb,cond_false] at hg
   exact h _ _ hg _ _ _ hx

def ctG (t:Ctr) (f:FuncId) (g:List AV→Option (Prop×AV)):Ctr:=fun x=>cond (Nat.beq x f) (some fun args H=>match g (avs args) with
 | some (p,v)=>.reqP p (.ok ((v,none),H))
 | none=>.bad) (t x)
theorem ctG_ok {t:Ctr} {f:FuncId} {g:List AV→Option (Prop×AV)} {call:CallT} (h:t.Ok call) (k:∀ args p v,g args=some (p,v)→p→∀ H,call (.fn f) args H=some (v,H)):(ctG t f g).Ok call:=by
 intro f' g' hg args H x hx
 unfold ctG at hg
 cases hb:Nat.beq f' f with
 | true =>
   rw[hb,cond_true,Option.some.injEq] at hg
   have:=Nat.eq_of_beq_eq_true hb
   subst this;subst hg
   dsimp only at hx
   split at hx
   · rename_i p v hp
     obtain ⟨e1,hx⟩:=Tr.reqP_some hx
     rw[k _ p v hp e1 H,← Tr.ok_some hx]
   · exact (Tr.bad_some hx).elim
 | false =>
   rw[hb,cond_false] at hg
   exact h _ _ hg _ _ _ hx
def ctE (t:Ctr) (f:FuncId) (args0:List AV) (H0:Heap) (u:Tr (AV×Heap)):Ctr:=fun x=>cond (Nat.beq x f) (some fun args H=>.reqP (avs args=args0∧H=H0) (u.bind fun y=>.ok ((y.1,none),y.2))) (t x)
theorem ctE_ok {t:Ctr} {f:FuncId} {args0:List AV} {H0:Heap} {u:Tr (AV×Heap)} {call:CallT} (h:t.Ok call) (k:∀ x,u.run=some x→call (.fn f) args0 H0=some x):(ctE t f args0 H0 u).Ok call:=by
 intro f' g' hg args H x hx
 unfold ctE at hg
 cases hb:Nat.beq f' f with
 | true =>
   rw[hb,cond_true,Option.some.injEq] at hg
   have:=Nat.eq_of_beq_eq_true hb
   subst this;subst hg
   obtain ⟨⟨e1,e2⟩,hx⟩:=Tr.reqP_some hx
   obtain ⟨y,h1,h2⟩:=Tr.bind_some hx
   rw[e1,e2,k _ h1,← Tr.ok_some h2]
 | false =>
   rw[hb,cond_false] at hg
   exact h _ _ hg _ _ _ hx

theorem shO_zero (z:Nat→Int):shO z 0=z:=by rw[shO_fn];funext j;simp
end
end Go.Eng
end
section
namespace Go.Eng
set_option linter.unusedVariables false
set_option linter.unusedSimpArgs false

theorem Evo.name {p:Pst} {M:Mu} {H:Heap} {w:World} (h:HRel p M H w) {k:Nat} (hk0:(hGet H 0 k).2=.dead) (hk:k<hNextAt H 0) (hm0:∀ v,M 0 k v=none) (hl0:hLock H 0=false) (x:Obj):Evo p M H w p (muSet M 0 k 0 (w.heap.size,0,0)) H (w.alloc x):=by
 have hle:Mu.le M (muSet M 0 k 0 (w.heap.size,0,0)):=muSet_le fun u hu=>by rw[hm0] at hu;cases hu
 have hs:=stay_alloc w x
 have h':=h.stay hs
 have mu:∀ d i v t,muSet M 0 k 0 (w.heap.size,0,0) d i v=some t→(d=0∧i=k∧v=0∧t=(w.heap.size,0,0))∨M d i v=some t:=fun d i v t hm=>by
  simp only[muSet] at hm
  split at hm
  · rename_i e;exact .inl ⟨e.1,e.2.1,e.2.2,(Option.some.inj hm).symm⟩
  · exact .inr hm
 have dead:∀ {d i v B},hGet H d i=(v,B)→B≠.dead→¬ (d=0∧i=k):=fun {d i v B} hg hB e=>by
  rw[e.1,e.2] at hg
  rw[hg] at hk0
  exact hB hk0
 refine { Evo.refl h with mu:=hle,rel:=⟨h'.pers,?_,?_,?_⟩,stay:=hs.weaken (fun _ _ _=>trivial),keep:=?_,own:=?_,new:=?_ }
 · intro d i v B hg hB
   obtain ⟨b,o,t,k1,k2,k3⟩:=h'.live d i v B hg hB
   exact ⟨b,o,t,hle _ _ _ _ k1,k2.mono (Pst.le.refl _) (hle.up d) rfl,k3⟩
 · intro d i v B d' i' v' B' b o t o' t' hg hB hg' hB' hm hm'
   rcases mu _ _ _ _ hm with ⟨e1,e2,_⟩ | hm
   · exact absurd ⟨e1,e2⟩ (dead hg hB)
   · rcases mu _ _ _ _ hm' with ⟨e1,e2,_⟩ | hm'
     · exact absurd ⟨e1,e2⟩ (dead hg' hB')
     · exact h.apart d i v B d' i' v' B' b o t o' t' hg hB hg' hB' hm hm'
 · intro d i v t hm
   rcases mu _ _ _ _ hm with ⟨e1,e2,e3,_⟩ | hm
   · rw[e1,e2,e3];exact ⟨hk,fun _=>Nat.zero_le _⟩
   · exact h.dom d i v t hm
 · intro b hb hkk d i v B hg hB hl o t hm
   rcases mu _ _ _ _ hm with ⟨e1,e2,_⟩ | hm
   · exact dead hg hB ⟨e1,e2⟩
   · exact hkk d i v B hg hB hl o t hm
 · intro d i v b o t hm
   rcases mu _ _ _ _ hm with ⟨_,_,_,e4⟩ | hm
   · simp only[Prod.mk.injEq] at e4;exact .inl (by omega)
   · exact .inr ⟨_,_,_,_,_,Nat.le_refl _,hm⟩
 · intro d i v t hm
   rcases mu _ _ _ _ hm with ⟨e1,_,_,_⟩ | hm
   · exact .inr (.inr (by rw[e1];exact hl0))
   · exact .inl hm

theorem iter_not {p:Pst} {M:Mu} {H:Heap} {w:World} (h:HRel p M H w) {r:Nat} {m:Option Nat} {s c:Nat} {seen:Array Nat} (hr:w.heap[r]?=some (.mapIter m s seen c)) {d i v:Nat} {B:Blk} (hg:hGet H d i=(v,B)) (hB:B≠.dead) (o t:Nat):M d i v≠some (r,o,t):=by
 intro hm
 obtain ⟨b,o',t',k1,k2,_⟩:=h.live d i v B hg hB
 rw[hm] at k1
 simp only[nP] at k1
 obtain ⟨rfl,_,_⟩:=k1
 cases B with
 | dead=>exact hB rfl
 | row q=>obtain ⟨_,_,e,_⟩:=k2;rw[hr] at e;simp at e
 | map es=>obtain ⟨_,_,e,_⟩:=k2;rw[hr] at e;simp at e
 | fmap kq f g c=>obtain ⟨_,_,_,_,e,_⟩:=k2;rw[hr] at e;simp at e
 | loop l=>obtain ⟨_,e,_⟩:=k2;rw[hr] at e;simp at e

theorem Evo.poke {p p':Pst} {M M':Mu} {H H':Heap} {w w':World} (h:Evo p M H w p' M' H' w') {r:Nat} {m:Option Nat} {s c:Nat} {seen:Array Nat} (hr:w'.heap[r]?=some (.mapIter m s seen c)) (hn:w.heap.size≤r) (x:Obj) :
 Evo p M H w p' M' H' (Go.ChangeMaps.setBlock w' r x):=by
 have blk:∀ b,b≠r→(Go.ChangeMaps.setBlock w' r x).heap[b]?=w'.heap[b]?:=fun b hb=>by simp[Go.ChangeMaps.setBlock,Array.getElem?_setIfInBounds_ne (Ne.symm hb)]
 refine { h with rel:=⟨?_,?_,h.rel.apart,h.rel.dom⟩,stay:=⟨h.stay.os,h.stay.tape,h.stay.output,by simp[Go.ChangeMaps.setBlock];exact h.stay.size,fun b hb hk=>?_⟩ }
 · intro b o v hp
   have hc:=h.rel.pers b o v hp
   have hbr:b≠r:=by
    rintro rfl
    simp[World.cell?,hr] at hc
   rw[← hc]
   exact World.cell?_of_block (w:=w') (blk b hbr)
 · intro d i v B hg hB
   obtain ⟨b,o,t,k1,k2,k3⟩:=h.rel.live d i v B hg hB
   have hbr:b≠r:=by
    rintro rfl
    exact iter_not h.rel hr hg hB o t k1
   exact ⟨b,o,t,k1,k2.mono (Pst.le.refl _) (Mu.le.refl _) (blk b hbr),k3⟩
 · rw[blk b (by omega)];exact h.stay.block b hb hk

theorem Evo.drew {p p':Pst} {M M':Mu} {H H':Heap} {w w':World} (h:Evo p M H w p' M' H' w'):Evo p M H w p' M' H' w'.drew:=by
 have hs:Stay (fun _=>True) w' w'.drew:=⟨rfl,rfl,rfl,Nat.le_refl _,fun _ _ _=>rfl⟩
 exact { h with rel:=h.rel.stay hs,stay:=h.stay.trans hs (fun _ _ _=>trivial) }

end Go.Eng
end
section
namespace Go.Eng
set_option linter.unusedVariables false
set_option linter.unusedSimpArgs false
open Go.ChangeMaps (setBlock)

theorem op_val {P:Program} {F:Fence} (hFW:Wide F) {o:Oper} (hd:∀ c,o.op≠.defer c) {a:Act} {w w':World} {cv:Value} (h:(execOp a.eval o).run P w=.ok (.value cv) w') {n:Nat} {next:Act→World→Prop} {Q:Exit→Act→World→Prop} (hn:next (a.put o.dst cv) w'):o.wpIn F n P a w next Q:=by
 refine ⟨about_fn hFW P o w a,?_⟩
 rw[Oper.semAt_eq _ _ _ hd,h]
 exact hn

theorem Marks.poke {n0:Nat} {M:Mu} {H:Heap} {w:World} {ds:List Deferred} (h:Marks n0 M H w ds) {r:Nat} {m:Option Nat} {s c:Nat} {seen:Array Nat} (hr:w.heap[r]?=some (.mapIter m s seen c)) (x:Obj):Marks n0 M H (setBlock w r x) ds:=by
 obtain ⟨rs,h1,h2,h0,h3⟩:=h
 refine ⟨rs,h1,h2,by simpa[setBlock] using h0,fun q hq=>?_⟩
 obtain ⟨k1,k2,k3⟩:=h3 q hq
 have hne:q≠r:=by rintro rfl;rw[hr] at k1;simp at k1
 exact ⟨by simp[setBlock,Array.getElem?_setIfInBounds_ne (Ne.symm hne)];exact k1,k2,k3⟩
theorem Marks.drew {n0:Nat} {M:Mu} {H:Heap} {w:World} {ds:List Deferred} (h:Marks n0 M H w ds):Marks n0 M H w.drew ds:=h

structure RLoop where
 out:Nat
 id1:Nat
 id2:Nat
 nxt:Nat
 ops1:Array Oper
 ops2:Array Oper
 no:Oper
 eo:Oper
 t1:List Oper
 t2:List Oper
 it:Tmp
 nx:Tmp
 mo:Tmp
 en:Tmp
 rest:Code
 km:Nat
def RLoop.code (L:RLoop):Code:=.block L.out (.loop (.seq (.region L.id1 L.ops1 false) (.seq (.cond (.tmp L.mo) .skip (.exit L.out)) (.block L.nxt (.seq (.region L.id2 L.ops2 false) L.rest)))))
structure RLoop.Ok (L:RLoop):Prop where
 l1:L.ops1.toList=L.no::L.t1
 o1:L.no.op=.next (.tmp L.it) false
 d1:L.no.dst=some L.nx
 g1:L.no.guard=none
 l2:L.ops2.toList=L.eo::L.t2
 o2:L.eo.op=.entry (.tmp L.it)
 d2:L.eo.dst=some L.en
 g2:L.eo.guard=none

def isPtr0 (k:Nat) (v:AV):Bool :=
 match v with
 | .ptr 0 i 0 0=>Nat.beq i k
 | _=>false
theorem isPtr0_eq {k:Nat} {v:AV} (h:isPtr0 k v=true):v=.ptr 0 k 0 0:=by
 unfold isPtr0 at h
 split at h
 · rw[Nat.eq_of_beq_eq_true h]
 · cases h
def isB (b:Bool) (v:AV):Bool :=
 match v with
 | .bool c=>c == b
 | _=>false
theorem isB_eq {b:Bool} {v:AV} (h:isB b v=true):v=.bool b:=by
 unfold isB at h
 split at h
 · rw[beq_iff_eq] at h;rw[h]
 · cases h

noncomputable def RLoop.round (L:RLoop) (cx:Cx) (k n:Nat) (kv:AV×AV) (fr:Frm) (H:Heap):Option (Frm×Heap) :=
 match runOpsX cx.P cx.nt cx.call L.ops1 L.t1 (putO cx.nt fr (some L.nx) (.tup [.bool true,kv.1,kv.2])) H with
 | some (frA,HA)=>if isB true (fGet frA L.mo) && isPtr0 k (fGet frA L.it) then
    match runOpsX cx.P cx.nt cx.call L.ops2 L.t2 (putO cx.nt frA (some L.en) (.tup [kv.1,kv.2])) HA with
    | some (frB,HB)=>match execX cx L.rest frB HB with
      | some (.normal,frC,HC)=>if isPtr0 k (fGet (fKill frC L.km) L.it) then some (fKill frC L.km,cutTo n (fKill frC L.km) HC) else none
      | _=>none
    | none=>none
   else none
 | none=>none
noncomputable def RLoop.last (L:RLoop) (cx:Cx) (fr:Frm) (H:Heap):Option (Frm×Heap) :=
 match runOpsX cx.P cx.nt cx.call L.ops1 L.t1 (putO cx.nt fr (some L.nx) (.tup [.bool false])) H with
 | some (frE,HE)=>if isB false (fGet frE L.mo) then some (frE,HE) else none
 | none=>none

def seenOf (r:Nat) (w:World):Array Nat :=
 match w.heap[r]? with
 | some (.mapIter _ _ s _)=>s
 | _=>#[]

theorem left_push {ces:Array MapEntry} {seen:Array Nat} {e:MapEntry} (he:e ∈ (leftOf ces seen).toList):(leftOf ces (seen.push e.born)).size<(leftOf ces seen).size:=by
 unfold leftOf at he ⊢
 rw[Array.toList_filter] at he
 have sz:∀ f:MapEntry→Bool,(ces.filter f).size=(ces.toList.filter f).length:=fun f=>by rw[← Array.toList_filter,Array.length_toList]
 rw[sz,sz]
 have mono:∀ x:MapEntry,seen.contains x.born=true→(seen.push e.born).contains x.born=true:=fun x h=>by
  rw[Array.contains_push,h];simp
 have self:(seen.push e.born).contains e.born=true:=by rw[Array.contains_push];simp
 have hle:∀ (l:List MapEntry),(l.filter fun x=>!(seen.push e.born).contains x.born).length≤(l.filter fun x=>!seen.contains x.born).length:=by
  intro l
  induction l with
  | nil=>exact Nat.le_refl _
  | cons x l ih =>
    rw[List.filter_cons,List.filter_cons]
    cases h1:seen.contains x.born with
    | true =>
      rw[mono x h1]
      simp only[Bool.not_true,Bool.false_eq_true,if_false]
      exact ih
    | false =>
      cases h2:(seen.push e.born).contains x.born with
      | true=>simp only[Bool.not_true,Bool.false_eq_true,if_false,Bool.not_false,if_true,List.length_cons];exact Nat.le_succ_of_le ih
      | false=>simp only[Bool.not_false,if_true,List.length_cons];exact Nat.succ_le_succ ih
 have hlt:∀ (l:List MapEntry),e ∈ (l.filter fun x=>!seen.contains x.born)→(l.filter fun x=>!(seen.push e.born).contains x.born).length<(l.filter fun x=>!seen.contains x.born).length:=by
  intro l
  induction l with
  | nil=>intro h;cases h
  | cons x l ih =>
    intro h
    rw[List.filter_cons] at h
    rw[List.filter_cons,List.filter_cons]
    cases h1:seen.contains x.born with
    | true =>
      rw[h1] at h
      simp only[Bool.not_true,Bool.false_eq_true,if_false] at h
      rw[mono x h1]
      simp only[Bool.not_true,Bool.false_eq_true,if_false]
      exact ih h
    | false =>
      rw[h1] at h
      simp only[Bool.not_false,if_true] at h
      cases h2:(seen.push e.born).contains x.born with
      | true =>
        simp only[Bool.not_true,Bool.false_eq_true,if_false,Bool.not_false,if_true,List.length_cons]
        exact Nat.lt_succ_of_le (hle l)
      | false =>
        simp only[Bool.not_false,if_true,List.length_cons]
        rcases List.mem_cons.1 h with h | h
        · rw[← h,self] at h2;cases h2
        · exact Nat.succ_lt_succ (ih h)
 exact hlt _ he

theorem loop_rel {cx:Cx} {F:Fence} (hFW:Wide F) (hN:Named cx.P) (hC:CallOk cx.P cx.call) (hX:CodeMore cx F) {L:RLoop} (hL:L.Ok) (hit:L.it<cx.nt)
 {k n j0:Nat} {es:List (AV×AV)} {X S:Frm→Lvl→Prop} {R:Heap} {fr':Frm} {H':Heap} (hlk:∀ d,hLock R d=true)
 (hXk:∀ fr l,X fr l→fGet fr L.it=.ptr 0 k 0 0) (hXr:∀ fr l,X fr l→∀ j,j<es.length→∃ fr1 l1 R1,L.round cx k n (es.getD j (.undef,.undef)) fr (l::R)=some (fr1,l1::R1)∧X fr1 l1∧(j=j0→S fr1 l1))
 (hSr:∀ fr l,S fr l→∀ j,j<es.length→∀ fr1 l1 R1,L.round cx k n (es.getD j (.undef,.undef)) fr (l::R)=some (fr1,l1::R1)→S fr1 l1)
 (hend:∀ fr l,X fr l→(0<es.length→S fr l)→L.last cx fr (l::R)=some (fr',H')) (hj0:0<es.length→j0<es.length)
 -- the base
 {p0:Pst} {M0:Mu} {lb:Lvl} {Hb:Heap} {w0:World} (hHb:Hb=lb::R) (hH0:HRel p0 M0 Hb w0) (hn:hNext Hb=n) (hne:Hb≠[]) (hRo:RoOk F cx.ro M0) {n0 b clock:Nat} {ces:Array MapEntry} (hkb:Go.Eng.keep M0 Hb b) (hb0:w0.heap[b]?=some (.map ces clock)) (hborn:Born ces clock) (hsz:ces.size=es.length)
 (hrel:∀ j,(h:j<ces.size)→VRel p0 M0 (es.getD j (.undef,.undef)).1 ces[j].key∧VRel p0 M0 (es.getD j (.undef,.undef)).2 ces[j].val)
 -- where it begins
 {r:Nat} (hr0:w0.heap.size≤r) {p:Pst} {M:Mu} {fr:Frm} {l0:Lvl} {a:Act} {w:World} (hE:Evo p0 M0 Hb w0 p M (l0::R) w) (hF:FRel p M cx.nt fr a) (hM:Marks n0 M (l0::R) w a.defers) (hx:X fr l0) (hr:w.heap[r]?=some (.mapIter (some b) clock #[] clock))
 (ha:a.tmps.getD L.it Go.undef=.pointer (some ⟨r,0,none⟩)) {Q:Exit→Act→World→Prop} (hQ:∀ a' w',Now n0 p0 M0 Hb w0 cx.nt fr' H' a' w'→Q .normal a' w'):L.code.wpIn F 0 cx.P Q a w:=by
 have hbl:b<w0.heap.size:=(Array.getElem?_eq_some_iff.1 hb0).1
 have hnod:(ces.toList.map (·.born)).Nodup:=by
  refine List.pairwise_iff_getElem.2 fun i i' hi hi' hlt e=>?_
  simp only[List.length_map,Array.length_toList] at hi hi'
  have:=hborn.2 i i' hi hi' (by simpa using e)
  omega
 -- of the iterator's slot
 have slot:∀ {p:Pst} {M:Mu} {fr:Frm} {a:Act},FRel p M cx.nt fr a→fGet fr L.it=.ptr 0 k 0 0→a.tmps.getD L.it Go.undef=.pointer (some ⟨r,0,none⟩)→∃ t,M 0 k 0=some (r,0,t):=by
  intro p M fr a hF hk he
  have:=hF.at_ L.it
  rw[hk,he] at this
  generalize hz:(Value.pointer (some ⟨r,0,none⟩))=z at this
  cases this
  rename_i b' o' t' hm
  simp only[Value.pointer.injEq,Option.some.injEq,Addr.mk.injEq] at hz
  obtain ⟨rfl,hz,_⟩:=hz
  obtain rfl:o'=0:=by omega
  exact ⟨t',hm⟩
 have slot':∀ {p:Pst} {M:Mu} {fr:Frm} {a:Act} {t:Nat},FRel p M cx.nt fr a→fGet fr L.it=.ptr 0 k 0 0→M 0 k 0=some (r,0,t)→a.tmps.getD L.it Go.undef=.pointer (some ⟨r,0,none⟩):=by
  intro p M fr a t hF hk hm
  have:=hF.at_ L.it
  rw[hk] at this
  generalize a.tmps.getD L.it Go.undef=z at this
  cases this
  rename_i b' o' t' hm'
  rw[hm] at hm'
  simp only[nP] at hm'
  obtain ⟨rfl,rfl,_⟩:=hm'
  rfl
 refine wpIn_block (wpIn_loop (fun a w=>∃ p M fr l seen,Evo p0 M0 Hb w0 p M (l::R) w∧FRel p M cx.nt fr a∧Marks n0 M (l::R) w a.defers∧X fr l∧w.heap[r]?=some (.mapIter (some b) clock seen clock) ∧
  a.tmps.getD L.it Go.undef=.pointer (some ⟨r,0,none⟩)∧(∀ h:j0<ces.size,seen.contains (ces[j0]).born=true→S fr l)) (fun _ w=>(leftOf ces (seenOf r w)).size) ⟨p,M,fr,l0,#[],hE,hF,hM,hx,hr,ha,fun h hc=>by simp at hc⟩ ?_)
 rintro a w ⟨p,M,fr,l,seen,hE,hF,hM,hx,hr,ha,hs⟩
 obtain ⟨H,hHl⟩:∃ H,H=l::R:=⟨_,rfl⟩
 rw[← hHl] at hE hM
 have hseen:seenOf r w=seen:=by unfold seenOf;rw[hr]
 have hbw:w.heap[b]?=some (.map ces clock):=by rw[hE.stay.block b hbl hkb];exact hb0
 have hwant:∀ (o:Oper),o.guard=none→∀ y,Region.wanted o y=true:=fun o hg y=>by unfold Region.wanted;rw[hg]
 have hev:a.eval (.tmp L.it)=.pointer (some ⟨r,0,none⟩):=ha
 refine wpIn_seq (wpIn_region_list ?_)
 rw[hL.l1]
 unfold wpListIn
 rw[if_pos (hwant _ hL.g1 _)]
 rcases run_next_at (P:=cx.P) w L.no.type r b clock clock seen ces clock hr hbw (fun x hx=>by
  obtain ⟨i,hi,rfl⟩:=List.getElem_of_mem hx
  have:=hborn.1 i (by simpa using hi)
  simpa using this) (Nat.le_refl _) with ⟨hz,hrun⟩ | ⟨e,he,w1,hw1,hrun⟩
 · -- nothing is left
   refine op_val hFW (by rw[hL.o1];intro c h;cases h) (cv:=.tuple #[.bool false]) (w':=w) (by simp only[execOp,hL.o1,hev];simp[Sem.run_bind,hrun,Result.andThen]) ?_
   have hS:0<es.length→S fr l:=fun hpos=>by
    have hj:=hj0 hpos
    rw[← hsz] at hj
    refine hs hj (Classical.byContradiction fun hc=>?_)
    have hc':seen.contains (ces[j0]).born=false:=by simpa using hc
    have:ces[j0] ∈ leftOf ces seen:=by
     unfold leftOf
     rw[Array.mem_filter]
     exact ⟨Array.getElem_mem hj,by rw[hc'];rfl⟩
    have:=Array.size_pos_of_mem this
    omega
   have hl:=hend fr l hx hS
   rw[← hHl] at hl
   unfold RLoop.last at hl
   rw[runOpsX_eq] at hl
   cases hro:runOps cx.P cx.nt cx.call L.ops1 L.t1 (putO cx.nt fr (some L.nx) (.tup [.bool false])) H with
   | none=>rw[hro] at hl;simp at hl
   | some q =>
     obtain ⟨frE,HE⟩:=q
     rw[hro] at hl
     dsimp only at hl
     split at hl
     · rename_i hb
       simp only[nP] at hl
       obtain ⟨rfl,rfl⟩:=hl
       have hput:=hF.put (some L.nx) (v:=.tup [.bool false]) (c:=.tuple #[.bool false]) (.tup rfl (fun j hj=>by
        obtain rfl:j=0:=by simpa using hj
        exact .bool _))
       rw[hL.d1]
       refine runOps_rel hFW hN hC _ _ _ _ _ hro p M _ w hput hE.rel (hE.ne hne) (fun a2 w2 ⟨p2,M2,hE2,hF2,hd2⟩=>?_)
       refine wpIn_seq ?_
       have hmo:=hF2.at_ L.mo
       rw[isB_eq hb] at hmo
       have hc:a2.eval (.tmp L.mo)=.bool false:=by
        show a2.tmps.getD L.mo Go.undef=_
        generalize a2.tmps.getD L.mo Go.undef=z at hmo
        cases hmo;rfl
       refine wpIn_cond_false hc (wpIn_exit ?_)
       show Exit.inBlock L.out Q (.exit L.out) a2 w2
       simp only[Exit.inBlock,if_true]
       refine hQ a2 w2 ⟨p2,M2,hE.trans hE2,hF2,?_⟩
       rw[hd2,put_defers]
       exact hM.evo hE2
     · simp at hl
 · -- an entry comes
   have hemem:e ∈ ces.toList:=by
    unfold leftOf at he
    simp at he
    simpa using he.1
   obtain ⟨j,hj,hje⟩:=List.getElem_of_mem hemem
   have hj':j<ces.size:=by simpa using hj
   have hje':ces[j]=e:=by simpa using hje
   have hjl:j<es.length:=by rw[← hsz];exact hj'
   obtain ⟨frN,lN,RN,hround,hxN,hjS⟩:=hXr fr l hx j hjl
   have hround':=hround
   rw[← hHl] at hround'
   unfold RLoop.round at hround'
   simp only[runOpsX_eq,execX_eq] at hround'
   obtain ⟨hkey,hval⟩:=hrel j hj'
   rw[hje'] at hkey hval
   have hE1:Evo p0 M0 Hb w0 p M H w1∧Marks n0 M H w1 a.defers∧w1.heap[r]?=some (.mapIter (some b) clock seen clock):=by
    rcases hw1 with rfl | rfl
    · exact ⟨hE,hM,hr⟩
    · exact ⟨hE.drew,hM.drew,hr⟩
   obtain ⟨hE1,hM1,hr1⟩:=hE1
   have hE2:=hE1.poke hr1 hr0 (.mapIter (some b) clock (seen.push e.born) clock)
   have hM2:=hM1.poke hr1 (.mapIter (some b) clock (seen.push e.born) clock)
   have hr2:(setBlock w1 r (.mapIter (some b) clock (seen.push e.born) clock)).heap[r]?=some (.mapIter (some b) clock (seen.push e.born) clock):=by
    have hlt:r<w1.heap.size:=(Array.getElem?_eq_some_iff.1 hr1).1
    simp[setBlock,hlt]
   generalize setBlock w1 r (.mapIter (some b) clock (seen.push e.born) clock)=w2 at hrun hE2 hM2 hr2
   refine op_val hFW (by rw[hL.o1];intro c h;cases h) (cv:=.tuple #[.bool true,e.key,e.val]) (w':=w2) (by simp only[execOp,hL.o1,hev];simp[Sem.run_bind,hrun,Result.andThen]) ?_
   rw[hL.d1]
   have hput:=hF.put (some L.nx) (v:=.tup [.bool true,(es.getD j (.undef,.undef)).1,(es.getD j (.undef,.undef)).2]) (c:=.tuple #[.bool true,e.key,e.val]) (.tup rfl (fun i hi=>by
    match i,hi with
    | 0,_=>exact .bool _
    | 1,_=>exact hkey.mono hE2.pst hE2.mu
    | 2,_=>exact hval.mono hE2.pst hE2.mu))
   cases hro:runOps cx.P cx.nt cx.call L.ops1 L.t1 (putO cx.nt fr (some L.nx) (.tup [.bool true,(es.getD j (.undef,.undef)).1,(es.getD j (.undef,.undef)).2])) H with
   | none=>rw[hro] at hround';simp at hround'
   | some q =>
     obtain ⟨frA,HA⟩:=q
     rw[hro] at hround'
     dsimp only at hround'
     split at hround'
     · rename_i hcA
       simp only[Bool.and_eq_true] at hcA
       obtain ⟨hcA1,hcA2⟩:=hcA
       obtain ⟨t,hmk⟩:=slot hF (hXk fr l hx) ha
       refine runOps_rel hFW hN hC _ _ _ _ _ hro p M _ w2 hput hE2.rel (hE2.ne hne) (fun a3 w3 ⟨p3,M3,hE3,hF3,hd3⟩=>?_)
       refine wpIn_seq ?_
       have hmo:=hF3.at_ L.mo
       rw[isB_eq hcA1] at hmo
       have hc:a3.eval (.tmp L.mo)=.bool true:=by
        show a3.tmps.getD L.mo Go.undef=_
        generalize a3.tmps.getD L.mo Go.undef=z at hmo
        cases hmo;rfl
       refine wpIn_cond_true hc (wpIn_skip ?_)
       show Code.wpIn F 0 cx.P _ _ a3 w3
       have hmk3:=hE3.mu _ _ _ _ hmk
       have ha3:=slot' hF3 (isPtr0_eq hcA2) hmk3
       have hr3:w3.heap[r]?=some (.mapIter (some b) clock (seen.push e.born) clock):=by
        rw[hE3.stay.block r (Array.getElem?_eq_some_iff.1 hr2).1 (fun d i v B hg hB _ o t=>iter_not hE2.rel hr2 hg hB o t)];exact hr2
       have hE03:=hE2.trans hE3
       have hbw3:w3.heap[b]?=some (.map ces clock):=by rw[hE03.stay.block b hbl hkb];exact hb0
       have hM3:Marks n0 M3 HA w3 a3.defers:=by rw[hd3,put_defers];exact hM2.evo hE3
       refine wpIn_block (wpIn_seq (wpIn_region_list ?_))
       rw[hL.l2]
       unfold wpListIn
       rw[if_pos (hwant _ hL.g2 _)]
       have hrunE:=run_entry_at (P:=cx.P) w3 r b clock seen ces clock e hr3 hbw3 hemem hnod
       have hev3:a3.eval (.tmp L.it)=.pointer (some ⟨r,0,none⟩):=ha3
       refine op_val hFW (by rw[hL.o2];intro c h;cases h) (cv:=.tuple #[e.key,e.val]) (w':=w3) (by simp only[execOp,hL.o2,hev3];simp[Sem.run_bind,hrunE,Result.andThen]) ?_
       rw[hL.d2]
       have hput3:=hF3.put (some L.en) (v:=.tup [(es.getD j (.undef,.undef)).1,(es.getD j (.undef,.undef)).2]) (c:=.tuple #[e.key,e.val]) (.tup rfl (fun i hi=>by
        match i,hi with
        | 0,_=>exact hkey.mono hE03.pst hE03.mu
        | 1,_=>exact hval.mono hE03.pst hE03.mu))
       cases hro2:runOps cx.P cx.nt cx.call L.ops2 L.t2 (putO cx.nt frA (some L.en) (.tup [(es.getD j (.undef,.undef)).1,(es.getD j (.undef,.undef)).2])) HA with
       | none=>rw[hro2] at hround';simp at hround'
       | some q2 =>
         obtain ⟨frB,HB⟩:=q2
         rw[hro2] at hround'
         dsimp only at hround'
         refine runOps_rel hFW hN hC _ _ _ _ _ hro2 p3 M3 _ w3 hput3 hE3.rel (hE03.ne hne) (fun a4 w4 ⟨p4,M4,hE4,hF4,hd4⟩=>?_)
         show Code.wpIn F 0 cx.P _ _ a4 w4
         have hE04:=hE03.trans hE4
         have hM4:Marks n0 M4 HB w4 a4.defers:=by rw[hd4,put_defers];exact hM3.evo hE4
         split at hround'
         · rename_i frC HC hex
           split at hround'
           · rename_i hptC
             simp only[nP] at hround'
             obtain ⟨rfl,hcut⟩:=hround'
             refine exec_rel hFW hN hC hX _ _ _ _ _ _ hex n0 p4 M4 a4 w4 _ hF4 hE4.rel (hE04.ne hne) (hRo.mono hE04.mu) hM4 (fun a5 w5 ⟨p5,M5,hE5,hF5,hM5⟩=>?_)
             show Exit.inBlock L.nxt _ .normal a5 w5
             simp only[Exit.inBlock,Exit.then]
             have hE05:=hE04.trans hE5
             have hE35:=hE4.trans hE5
             have hF5':=hF5.kill L.km
             have hmk5:=hE35.mu _ _ _ _ hmk3
             have ha5:=slot' hF5' (isPtr0_eq hptC) hmk5
             have hr5:w5.heap[r]?=some (.mapIter (some b) clock (seen.push e.born) clock):=by
              rw[hE35.stay.block r (Array.getElem?_eq_some_iff.1 hr3).1 (fun d i v B hg hB _ o t=>iter_not hE3.rel hr3 hg hB o t)];exact hr3
             obtain ⟨M6,hE6,hF6,hM6⟩:=cut_rel hE05 hF5' hM5 (fun d i v t hm=>(hH0.dom d i v t hm).1)
             rw[hn,hcut] at hE6 hM6
             have hRN:RN=R:=by
              have hdR:∀ d,hLock Hb (d+1)=true:=fun d=>by rw[hHb];exact hlk d
              refine heap_ext _ _ (by have:=hE6.len;rw[hHb] at this;simpa using this) (fun d i=>?_) (fun d=>?_) (fun d=>?_)
              · have:=hE6.same (d+1) i (by omega) (hdR d);rw[hHb] at this;exact this
              · have:=hE6.next (d+1) (by omega) (hdR d);rw[hHb] at this;exact this
              · have:=hE6.lock (d+1);rw[hHb] at this;exact this
             rw[hRN] at hE6 hM6
             refine ⟨⟨p5,M6,_,_,seen.push e.born,hE6,hF6,hM6,hxN,hr5,ha5,fun h hc=>?_⟩,?_⟩
             · rw [Array.contains_push] at hc
               by_cases hold:seen.contains (ces[j0]).born=true
               · exact hSr fr l (hs h hold) j hjl _ _ _ hround
               · have hnew:(ces[j0]).born=e.born:=by
                  simp only[Bool.or_eq_true,beq_iff_eq] at hc
                  rcases hc with hc | hc
                  · exact absurd hc hold
                  · first | exact hc | exact hc.symm
                 have:=hborn.2 j0 j h hj' (by rw[hje'];exact hnew)
                 exact hjS this.symm
             · have hs5:seenOf r w5=seen.push e.born:=by unfold seenOf;rw[hr5]
               rw[hs5,hseen]
               exact left_push he
           · simp at hround'
         · simp at hround'
     · simp at hround'

end Go.Eng
end
