/- The engine as a tree: what a call hands down; calls; loops. -/
import Derived.Test.YtgphpjdchnfjlaaDoorV6EngTf
import Derived.Test.YtgphpjdchnfjlaaDoorV6EngXx4
import Derived.Maps.RangeRun
set_option linter.unusedVariables false
set_option linter.unusedSimpArgs false
section
namespace Go.Eng
noncomputable section

def m8   (bs:List (Nat×an)):Nat→AV→Tr AV
 | 0,_=>.ok .undef
 | n + 1,v=>match v with
   | .ptr d i ver off=>match d with
     | d+1=>.ok (.ptr d i ver off)
     | 0 => match Bo bs i with
       | (w,.row r)=>cond (Nat.beq w ver) (match r with
         | .I k l=>.ok (.ptrT none (.I k l) off)
         | .F f m=>.ok (.ptrT none (.F f m) off)
         | .M l=>cond (fP l) (.ok (.ptrT none (.M l) off)) ((mh (m8 bs n) l).bind fun m=>.ok (.ptrT (some 0) (.M m) off))
         | .G l=>(nN (m8 bs n) l).bind fun m=>.ok (.ptrT (some 0) (.G m) off)) .bad
       | _=>.bad
   | .slc d i ver off sz len cap=>match d with
     | d+1=>.ok (.slc d i ver off sz len cap)
     | 0 => match Bo bs i with
       | (w,.row r)=>.req (cg w ver) (match r with
         | .M [.arr k z N]=>.req (eD off (fK len sz) 0 N) (.ok (.slcT none (.M [.arr k (rJ z off) (fK len sz)]) sz len (qm cap len)))
         | .I k l=>cond (uC (.I k l) off (Nat.mul len sz)) (.ok (.slcT none (.I k (lH (lB l off) (Nat.mul len sz))) sz len (qm cap len))) .bad
         | .F f N=>.req (eD off (fK len sz) 0 N) (.ok (.slcT none (.F (fun j=>f (au off j)) (fK len sz)) sz len (qm cap len)))
         | .G l=>cond (uC (.G l) off (Nat.mul len sz)) ((nN (m8 bs n) (lH (lB l off) (Nat.mul len sz))).bind fun m=>.ok (.slcT (some 0) (.G m) sz len (qm cap len))) .bad
         | _=>.bad)
       | _=>.bad
   | .ptrT s r off=>match s with
     | none=>.ok (.ptrT none r off)
     | some (s+1)=>.ok (.ptrT (some s) r off)
     | some 0=>match r with
       | .G l=>(nN (m8 bs n) l).bind fun m=>.ok (.ptrT (some 0) (.G m) off)
       | .M l=>cond (fP l) (.ok (.ptrT none (.M l) off)) ((mh (m8 bs n) l).bind fun m=>.ok (.ptrT (some 0) (.M m) off))
       | r=>.ok (.ptrT none r off)
   | .slcT s r sz len full=>match s with
     | none=>.ok (.slcT none r sz len full)
     | some (s+1)=>.ok (.slcT (some s) r sz len full)
     | some 0=>match r with
       | .G l=>(nN (m8 bs n) l).bind fun m=>.ok (.slcT (some 0) (.G m) sz len full)
       | .M l=>cond (fP l) (.ok (.slcT none (.M l) sz len full)) ((mh (m8 bs n) l).bind fun m=>.ok (.slcT (some 0) (.M m) sz len full))
       | r=>.ok (.slcT none r sz len full)
   | .map d i=>match d with
     | d+1=>.ok (.map d i)
     | 0=>.ok .undef
   | .yld d i=>match d with
     | d+1=>.ok (.yld d i)
     | 0=>.ok .undef
   | .fn f a b=>(nN (m8 bs n) a).bind fun a'=>(nN (m8 bs n) b).bind fun b'=>.ok (.fn f a' b')
   | .agg r=>match r with
     | .G l=>(nN (m8 bs n) l).bind fun m=>.ok (.agg (.G m))
     | .M l=>(mh (m8 bs n) l).bind fun m=>.ok (.agg (.M m))
     | r=>.ok (.agg r)
   | .tup l=>(nN (m8 bs n) l).bind fun m=>.ok (.tup m)
   | v=>.ok v
theorem Ct (bs:List (Nat×an)):∀ (n:Nat) (v u:AV),(m8 bs n v).run=some u→dF bs n v=u
 | 0,v,u,h=>Tr.ae h
 | n + 1,v,  u,h=>by
   have ih:=Ct bs n;simp only[m8,rC] at h;cases v with
   | ptr d i ver off =>
     cases d with
     | succ d=>exact Tr.ae h
     | zero =>
       dsimp only at h;simp only[dF];split at h
       · rename_i w r hg;obtain ⟨hw,h⟩:=Tr.aX h;rw[hg];dsimp only;rw[if_pos hw];cases r with
         | I k l=>exact Tr.ae h
         | F f m=>exact Tr.ae h
         | G l =>
           obtain ⟨m,h1,h⟩:=Tr.bind_some h;rw[← Tr.ae h,← eS ih _ _ h1]
         | M l =>
           dsimp only at h ⊢;cases ha:fP l with
           | true=>rw[ha,cond_true] at h;rw[if_pos rfl];exact Tr.ae h
           | false =>
             rw[ha,cond_false] at h;obtain ⟨m,h1,h⟩:=Tr.bind_some h;rw[if_neg (by simp),← Tr.ae h,← gT ih _ _ h1]
       · exact (Tr.ah h).elim
   | slc d i ver off sz len cap =>
     cases d with
     | succ d=>exact Tr.ae h
     | zero =>
       dsimp only at h;simp only[dF];split at h
       · rename_i w r hg;obtain ⟨hw,h'⟩:=Tr.aU h;clear h;rw[ft,decide_eq_true_eq] at hw;subst hw;rw[hg];dsimp only;split at h'
         · rename_i k z N;have h:=h';obtain ⟨hc,h⟩:=Tr.aU h;rw[jQ,decide_eq_true_eq,cP] at hc;rw[if_pos ⟨by simp,by simp only[Row.len,aA,aT];omega⟩,← Tr.ae h,j6,cP,mG];simp only[Row.sub,fP,if_true]
         · have h:=h';obtain ⟨hc,h⟩:=Tr.aX h;rw[kN,decide_eq_true_eq] at hc;rw[if_pos ⟨by simp,hc⟩,← Tr.ae h,j6,hJ,gP];rfl
         · have h:=h';obtain ⟨hc,h⟩:=Tr.aU h;rw[jQ,decide_eq_true_eq,cP] at hc;rw[if_pos ⟨by simp,by simp only[Row.len];omega⟩,← Tr.ae h,j6,cP];simp only[Row.sub,aM]
         · have h:=h';obtain ⟨hc,h⟩:=Tr.aX h;rw[kN,decide_eq_true_eq] at hc;obtain ⟨m,h1,h⟩:=Tr.bind_some h;rw[hJ,gP] at h1;rw[if_pos ⟨by simp,hc⟩,← Tr.ae h,j6,← eS ih _ _ h1];rfl
         · exact (Tr.ah h').elim
       · exact (Tr.ah h).elim
   | ptrT s r off =>
     cases s with
     | none=>exact Tr.ae h
     | some s =>
       cases s with
       | succ s=>exact Tr.ae h
       | zero =>
         simp only[dF];cases r with
         | I k l=>exact Tr.ae h
         | F f m=>exact Tr.ae h
         | G l =>
           obtain ⟨m,h1,h⟩:=Tr.bind_some h;rw[← Tr.ae h,← eS ih _ _ h1]
         | M l =>
           dsimp only at h ⊢;cases ha:fP l with
           | true=>rw[ha,cond_true] at h;rw[if_pos rfl];exact Tr.ae h
           | false =>
             rw[ha,cond_false] at h;obtain ⟨m,h1,h⟩:=Tr.bind_some h;rw[if_neg (by simp),← Tr.ae h,← gT ih _ _ h1]
   | slcT s r sz len full =>
     cases s with
     | none=>exact Tr.ae h
     | some s =>
       cases s with
       | succ s=>exact Tr.ae h
       | zero =>
         simp only[dF];cases r with
         | I k l=>exact Tr.ae h
         | F f m=>exact Tr.ae h
         | G l =>
           obtain ⟨m,h1,h⟩:=Tr.bind_some h;rw[← Tr.ae h,← eS ih _ _ h1]
         | M l =>
           dsimp only at h ⊢;cases ha:fP l with
           | true=>rw[ha,cond_true] at h;rw[if_pos rfl];exact Tr.ae h
           | false =>
             rw[ha,cond_false] at h;obtain ⟨m,h1,h⟩:=Tr.bind_some h;rw[if_neg (by simp),← Tr.ae h,← gT ih _ _ h1]
   | map d i=>cases d<;>exact Tr.ae h
   | yld d i=>cases d<;>exact Tr.ae h
   | fn f a b =>
     obtain ⟨a',h1,h⟩:=Tr.bind_some h;obtain ⟨b',h2,h⟩:=Tr.bind_some h;simp only[dF];rw[← Tr.ae h,← eS ih _ _ h1,← eS ih _ _ h2]
   | agg r =>
     simp only[dF];cases r with
     | I k l=>exact Tr.ae h
     | F f m=>exact Tr.ae h
     | G l =>
       obtain ⟨m,h1,h⟩:=Tr.bind_some h;rw[← Tr.ae h,← eS ih _ _ h1]
     | M l =>
       obtain ⟨m,h1,h⟩:=Tr.bind_some h;rw[← Tr.ae h,← gT ih _ _ h1]
   | tup l =>
     obtain ⟨m,h1,h⟩:=Tr.bind_some h;simp only[dF];rw[← Tr.ae h,← eS ih _ _ h1]
   | _=>exact Tr.ae h

def HQ (l:List HV):Nat→aH:=List.rec (motive:=fun _=>Nat→aH) (fun _=>[]) (fun v _ ih x=>(x,(mH 1 v.1,v.2))::ih (Nat.succ x)) l
theorem vU:∀ (l:List HV) (x:Nat),strip (HQ l x)=fO x (lJ l)
 | [],x=>rfl
 | v::l,x=>by
   have e:HQ (v::l) x=(x,(mH 1 v.1,v.2))::HQ l (x+1):=rfl;rw[e,cO,vU l];rfl
def hints (f:aC):aH:=List.rec (motive:=fun _=>aH) [] (fun p _ ih=>(p.1,(p.2,none))::ih) f
theorem aL:∀ f:aC,strip (hints f)=f
 | []=>rfl
 | (x,v)::r=>by
   have e:hints ((x,v)::r)=(x,(v,none))::hints r:=rfl;rw[e,cO,aL r]
def Bz (P:Program) (fr:aH) (H:ab):List ResultVar→Tr (List AV)
 | []=>.ok []
 | .tmp t::r=>(Bz P fr H r).bind fun l=>.ok ((lD fr t).1::l)
 | .cell a t::r=>(loadT P H t (b8 fr (.tmp a))).bind fun v=>(Bz P fr H r).bind fun l=>.ok (v::l)
theorem xa {P:Program} {fr:aH} {H:ab}:∀ (l:List ResultVar) (vs:List AV),(Bz P fr H l).run=some vs→ir P (strip fr) H l=some vs
 | [],vs,h=>by rw[← Tr.ae h];rfl
 | .tmp t::r,vs,h=>by
   simp only[Bz] at h;obtain ⟨l,h1,h⟩:=Tr.bind_some h;simp only[ir];rw[xa r l h1,← Tr.ae h,fe];rfl
 | .cell a t::r,vs,h=>by
   simp only[Bz] at h;obtain ⟨v,h0,h⟩:=Tr.bind_some h;obtain ⟨l,h1,h⟩:=Tr.bind_some h;have h0:=yt h0;rw[bf] at h0;simp only[ir];have e:bU (strip fr) (.tmp a)=bH (strip fr) a:=rfl;rw[e] at h0;rw[h0];dsimp only;rw[xa r l h1,← Tr.ae h];rfl
def J8 (fr:aH) (rs:List ResultVar):Option Nat :=
 match rs with
 | [.tmp t]=>(lD fr t).2
 | _=>none
def Mv (P:Program) (rs:List ResultVar) (x:eB):Tr (HV×ab) :=
 match x with
 | (e,fr,l::H)=>match e with
   | .normal | .ret=>(Bz P fr (l::H) rs).bind fun vs=>(m8 l.bs 5 (one vs)).bind fun v=>.ok ((v,J8 fr rs),H)
   | _=>.bad
 | _=>.bad
theorem C7 {P:Program} {rs:List ResultVar} {x:eB} {y:HV×ab} (h:(Mv P rs x).run=some y):∃ l vs,x.2.2=l::y.2∧(x.1=.normal∨x.1=.ret)∧ir P (strip x.2.1) x.2.2 rs=some vs∧dF l.bs 5 (one vs)=y.1.1:=by
 unfold Mv at h;split at h
 · rename_i e fr l H;have key:((Bz P fr (l::H) rs).bind fun vs=>(m8 l.bs 5 (one vs)).bind fun v=>Tr.ok (((v,J8 fr rs),H):HV×ab)).run=some y→∃ vs,l::H=l::y.2∧ir P (strip fr) (l::H) rs=some vs∧dF l.bs 5 (one vs)=y.1.1:=by
    intro h;obtain ⟨vs,h1,h⟩:=Tr.bind_some h;obtain ⟨v,h2,h⟩:=Tr.bind_some h;have h:=Tr.ae h;refine ⟨vs,by rw[← h],xa _ _ h1,?_⟩;rw[Ct _ _ _ _ h2,← h]
   split at h
   · obtain ⟨vs,h1,h2,h3⟩:=key h;exact ⟨l,vs,h1,.inl rfl,h2,h3⟩
   · obtain ⟨vs,h1,h2,h3⟩:=key h;exact ⟨l,vs,h1,.inr rfl,h2,h3⟩
   · exact (Tr.ah h).elim
 · exact (Tr.ah h).elim
def bg (P:Program) (call:aJ) (fu:Nat) (f:FuncId) (fn:Func) (kt:Nat→Nat) (callR:bt) (bl:eV) (rg:om) (args:List HV) (H:ab):Tr (HV×ab) :=
 (aS ⟨P,call,fu,f,fn.ntmps,kt,none⟩ callR bl rg (bA fn) (HQ args 0) (⟨false,[]⟩::H)).bind fun x=>Mv P fn.results.toList x
theorem r5 {P:Program} {ora:aJ→FuncId→List AV→ab→Option (AV×ab)} {KT:FuncId→Nat→Nat} {fu n:Nat} {f:FuncId} {fn:Func} (hf:P.funcs[f]?=some fn) (hb:fn.body.isSome=true) {args:List HV} {H:ab} (ho:ora (dh P ora KT fu n) f (lJ args) H=none) (hle:Nat.ble args.length fn.ntmps=true)
 {callR:bt} (hC:callR.Ok (dh P ora KT fu n)) {bl:eV} (hB:bl.Ok ⟨P,dh P ora KT fu n,fu,f,fn.ntmps,KT f,none⟩ (bA fn)) {rg:om} (hR:rg.Ok ⟨P,dh P ora KT fu n,fu,f,fn.ntmps,KT f,none⟩ (bA fn)) {y:HV×ab}
 (h:(bg P (dh P ora KT fu n) fu f fn (KT f) callR bl rg args H).run=some y):dh P ora KT fu (n+1) (.fn f) (lJ args) H=some (y.1.1,y.2):=by
 unfold bg at h
 obtain ⟨x,h1,h⟩:=Tr.bind_some h
 have h1:=fQ hC _ hB hR _ _ _ h1
 rw[vU] at h1
 obtain ⟨l,vs,k1,k2,k3,k4⟩:=C7 h
 obtain ⟨c,hc⟩:=Option.isSome_iff_exists.1 hb
 have hbody:bA fn=c:=by unfold bA;rw[hc]
 rw[hbody] at h1
 obtain ⟨e,fr,H1⟩:=x
 dsimp only[eB.st] at h1 k1 k2 k3
 rw[k1] at h1 k3
 have hl:(lJ args).length=args.length:=by unfold lJ;rw[kZ,List.length_map]
 simp only[dh,ho,hf,hc,hl,hle,if_true,h1]
 rcases k2 with rfl | rfl<;>simp only[k3]<;>rw[k4]

theorem ib {cx:Cx} {id:Nat} {b:Code} {fr fr1:aC} {H H1:ab} (h:iter (exec cx b) (aW H) cx.fu fr H=some (.exit id,fr1,H1)):exec cx (.block id (.loop b)) fr H=some (.normal,fr1,H1):=by
 unfold exec;have:exec cx (.loop b) fr H=some (.exit id,fr1,H1):=by unfold exec;exact h
 rw[this];dsimp only;rw[if_pos (by simp)]
theorem cJ {cx:Cx} {id:Nat} {b:Code} {fr fr1:aC} {H H1:ab} {e:Ex} (he:∀ id',e=.exit id'→Nat.beq id' id=false) (h:iter (exec cx b) (aW H) cx.fu fr H=some (e,fr1,H1)):exec cx (.block id (.loop b)) fr H=some (e,fr1,H1):=by
 unfold exec;have:exec cx (.loop b) fr H=some (e,fr1,H1):=by unfold exec;exact h
 rw[this];cases e with
 | exit id'=>dsimp only;rw[if_neg (by rw[he id' rfl];simp)]
 | _=>rfl
def fN (p:Nat→Bool):Nat→Nat→Nat
 | 0,j=>j
 | k+1,j=>if p j then j else fN p k (j+1)
theorem we (p:Nat→Bool):∀ (k j:Nat),j≤fN p k j∧fN p k j≤j+k∧(∀ i,j≤i→i<fN p k j→p i=false)∧(fN p k j<j+k→p (fN p k j)=true)
 | 0,j=>⟨Nat.le_refl _,Nat.le_refl _,fun i h1 h2=>absurd h2 (by simp only[fN];omega),fun h=>absurd h (by simp only[fN];omega)⟩
 | k + 1,j=>by
   simp only[fN];by_cases h:p j=true
   · rw[if_pos h];exact ⟨Nat.le_refl _,by omega,fun i h1 h2=>by omega,fun _=>h⟩
   · rw[if_neg h];obtain ⟨h1,h2,h3,h4⟩:=we p k (j+1);refine ⟨by omega,by omega,fun i k1 k2=>?_,fun k1=>h4 wO⟩;by_cases e:i=j
     · subst e;simpa using h
     · exact h3 i wO k2
theorem iN {body:aC→ab→Option (Ex×aC×ab)} {n:Nat} (F:Nat→aC) (G:Nat→ab) (N:Nat) (p:Nat→Bool) (X:Nat→Ex×aC×ab)
 (hs:∀ j,j<N→p j=false→∃ f g,body (F j) (G j)=some (.normal,f,g)∧tidy n f g=(F (j+1),G (j+1)))
 (hh:∀ j,j<N→p j=true→body (F j) (G j)=some (X j)∧(X j).1≠.normal) (he:body (F N) (G N)=some (X N)∧(X N).1≠.normal) :
 ∀ (k j fu:Nat),j+k=N→k<fu→iter body n fu (F j) (G j)=some (X (fN p k j))
 | 0,j,0,_,h=>by omega
 | 0,j,fu+1,hj,_=>by
   have:j=N:=by omega
   subst this;unfold iter;rw[he.1];obtain ⟨x,hx⟩:∃ x,x=X j:=⟨_,rfl⟩
   have hn:=he.2;simp only[fN];rw[← hx] at hn ⊢;obtain ⟨e,f,g⟩:=x;cases e<;>first | exact absurd rfl hn | rfl
 | k+1,j,0,_,h=>by omega
 | k + 1,j,fu+1,hj,hf=>by
   unfold iter;cases hp:p j with
   | true =>
     obtain ⟨h1,h2⟩:=hh j wO hp;rw[h1];simp only[fN];rw[if_pos hp];obtain ⟨x,hx⟩:∃ x,x=X j:=⟨_,rfl⟩
     rw[← hx] at h2 ⊢;obtain ⟨e,f,g⟩:=x;cases e<;>first | exact absurd rfl h2 | rfl
   | false =>
     obtain ⟨f,g,h1,h2⟩:=hs j wO hp;rw[h1];dsimp only;rw[h2];simp only[fN];rw[if_neg (by rw[hp];simp)];exact iN F G N p X hs hh he k (j+1) fu wO wO
theorem yk {body:aC→ab→Option (Ex×aC×ab)} {n:Nat} (I:Nat→aC→ab→Prop) (Q:Ex×aC×ab→Prop) (N:Nat)
 (hr:∀ j fr H,I j fr H→(∃ e f g,body fr H=some (e,f,g)∧((e=.normal∧j<N∧I (j+1) (tidy n f g).1 (tidy n f g).2)∨(e≠.normal∧Q (e,f,g))))) :
 ∀ (fu j:Nat) (fr:aC) (H:ab),I j fr H→N-j<fu→∃ x,iter body n fu fr H=some x∧Q x
 | 0,j,fr,H,_,h=>by omega
 | fu+1,j,fr,H,hI,h=>by
   obtain ⟨e,f,g,h1,h2⟩:=hr j fr H hI;unfold iter;rw[h1];rcases h2 with ⟨rfl,hj,h2⟩ | ⟨he,hq⟩
   · dsimp only;exact yk I Q N hr fu (j+1) _ _ h2 wO
   · cases e<;>first | exact absurd rfl he | exact ⟨_,rfl,hq⟩

end
end Go.Eng
end
section
namespace Go.Eng
noncomputable section

def wV (tab:List cA):aJ→FuncId→List AV→ab→Option (AV×ab):=fun call f args H =>
 cond (Nat.beq f 1000000) (match H with
  | []=>some (.undef,[])
  | _=>none) (Bu tab call f args H)
theorem C6 {P:Program} (tab:List cA) (hT:∀ e ∈ tab,aD P e):rQ P (wV tab):=by
 intro call hC f args H v H' h hne;unfold wV at h;cases hb:Nat.beq f 1000000 with
 | true =>
   rw[hb,cond_true] at h;cases H with
   | nil=>exact absurd rfl hne
   | cons l r=>simp at h
 | false =>
   rw[hb,cond_false] at h;exact wW tab hT call hC f args H v H' h hne
abbrev ou:=FuncId→Option (List HV→ab→Tr (HV×ab))
def ou.Ok (tab:ou) (call:aJ):Prop:=∀ f g,tab f=some g→∀ args H x,(g args H).run=some x→call (.fn f) (lJ args) H=some (x.1.1,x.2)
variable (P:Program) (ora:aJ→FuncId→List AV→ab→Option (AV×ab)) (KT:FuncId→Nat→Nat) (fu:Nat) (no:FuncId→Bool) (tab:ou) (n:Nat)
def A8   : Nat→bt
 | 0 => fun tgt args H=>match tgt with
   | .fn g=>match tab g with
     | some c=>c args H
     | none=>.bad
   | _=>.bad
 | k + 1 => fun tgt args H=>match tgt with
   | .fn g=>match tab g with
     | some c=>c args H
     | none=>cond (no g) .bad (match P.funcs[g]? with
       | some fn=>match fn.body with
         | some _=>cond (Nat.ble (kj args) fn.ntmps) (bg P (dh P ora KT fu (n+k)) fu g fn (KT g) (A8 k) aR aQ args H) .bad
         | none=>.bad
       | none=>.bad)
   | _=>.bad
theorem wB (hno:∀ g,no g=false→∀ c args H,ora c g args H=none) (hm:∀ k,∃ x,dh P ora KT fu k .mode [] []=some x) (ht:∀ k,tab.Ok (dh P ora KT fu (n+k))):∀ k,(A8 P ora KT fu no tab n k).Ok (dh P ora KT fu (n+k))
 | 0 => ⟨hm _,fun tgt args H x h=>by
   unfold A8 at h;split at h
   · split at h
     · rename_i c hc;exact ht 0 _ _ hc _ _ _ h
     · exact (Tr.ah h).elim
   · exact (Tr.ah h).elim⟩
 | k + 1 => ⟨hm _,fun tgt args H x h=>by
   unfold A8 at h;split at h
   · rename_i g;split at h
     · rename_i c hc;exact ht (k+1) _ _ hc _ _ _ h
     · obtain ⟨hn,h⟩:=Tr.j7 h;split at h
       · rename_i fn hf;split at h
         · rename_i c hb;obtain ⟨hl,h⟩:=Tr.aX h;rw[eh] at hl;exact r5 hf (by rw[hb];rfl) (hno g hn _ _ _) hl (wB hno hm ht k) (aj _ _) (ak _ _) h
         · exact (Tr.ah h).elim
       · exact (Tr.ah h).elim
   · exact (Tr.ah h).elim⟩
def aF:ou:=fun _=>none
theorem aN (call:aJ):aF.Ok call:=fun _ _ h=>by cases h
def ng (t:ou) (f:FuncId) (g:List AV→ab→Tr (AV×ab)):ou:=fun x=>cond (Nat.beq x f) (some fun args H=>(g (lJ args) H).bind fun y=>.ok ((y.1,none),y.2)) (t x)
theorem xC {t:ou} {f:FuncId} {g:List AV→ab→Tr (AV×ab)} {call:aJ} (h:t.Ok call) (k:∀ args H x,(g args H).run=some x→call (.fn f) args H=some x):(ng t f g).Ok call:=by
 intro f' g' hg args H x hx;unfold ng at hg;cases hb:Nat.beq f' f with
 | true =>
   rw[hb,cond_true,Option.some.injEq] at hg;have:=Nat.eq_of_beq_eq_true hb;subst this;subst hg;obtain ⟨y,h1,h2⟩:=Tr.bind_some hx;have:=k _ _ _ h1;rw[← Tr.ae h2];exact this
 | false =>
   rw[hb,cond_false] at hg;exact h _ _ hg _ _ _ hx

def lW (t:ou) (f:FuncId) (g:List AV→Option (Prop×AV)):ou:=fun x=>cond (Nat.beq x f) (some fun args H=>match g (lJ args) with
 | some (p,v)=>.reqP p (.ok ((v,none),H))
 | none=>.bad) (t x)
theorem nw {t:ou} {f:FuncId} {g:List AV→Option (Prop×AV)} {call:aJ} (h:t.Ok call) (k:∀ args p v,g args=some (p,v)→p→∀ H,call (.fn f) args H=some (v,H)):(lW t f g).Ok call:=by
 intro f' g' hg args H x hx;unfold lW at hg;cases hb:Nat.beq f' f with
 | true =>
   rw[hb,cond_true,Option.some.injEq] at hg;have:=Nat.eq_of_beq_eq_true hb;subst this;subst hg;dsimp only at hx;split at hx
   · rename_i p v hp;obtain ⟨e1,hx⟩:=Tr.gv hx;rw[k _ p v hp e1 H,← Tr.ae hx]
   · exact (Tr.ah hx).elim
 | false =>
   rw[hb,cond_false] at hg;exact h _ _ hg _ _ _ hx
def oo (t:ou) (f:FuncId) (args0:List AV) (H0:ab) (u:Tr (AV×ab)):ou:=fun x=>cond (Nat.beq x f) (some fun args H=>.reqP (lJ args=args0∧H=H0) (u.bind fun y=>.ok ((y.1,none),y.2))) (t x)
theorem cj {t:ou} {f:FuncId} {args0:List AV} {H0:ab} {u:Tr (AV×ab)} {call:aJ} (h:t.Ok call) (k:∀ x,u.run=some x→call (.fn f) args0 H0=some x):(oo t f args0 H0 u).Ok call:=by
 intro f' g' hg args H x hx;unfold oo at hg;cases hb:Nat.beq f' f with
 | true =>
   rw[hb,cond_true,Option.some.injEq] at hg;have:=Nat.eq_of_beq_eq_true hb;subst this;subst hg;obtain ⟨⟨e1,e2⟩,hx⟩:=Tr.gv hx;obtain ⟨y,h1,h2⟩:=Tr.bind_some hx;rw[e1,e2,k _ h1,← Tr.ae h2]
 | false =>
   rw[hb,cond_false] at hg;exact h _ _ hg _ _ _ hx

theorem jm (z:Nat→Int):rJ z 0=z:=by rw[mG];funext j;simp
end
end Go.Eng
end
section
namespace Go.Eng

theorem ct.name {p:aG} {M:Mu} {H:ab} {w:World} (h:bn p M H w) {k:Nat} (hk0:(az H 0 k).2=.dead) (hk:k<ao H 0) (hm0:∀ v,M 0 k v=none) (hl0:aK H 0=false) (x:Obj):ct p M H w p (bw M 0 k 0 (w.heap.size,0,0)) H (w.alloc x):=by
 have hle:Mu.le M (bw M 0 k 0 (w.heap.size,0,0)):=ko fun u hu=>by rw[hm0] at hu;cases hu
 have hs:=fC w x;have h':=h.stay hs;have mu:∀ d i v t,bw M 0 k 0 (w.heap.size,0,0) d i v=some t→(d=0∧i=k∧v=0∧t=(w.heap.size,0,0))∨M d i v=some t:=fun d i v t hm=>by
  simp only[bw] at hm;split at hm
  · rename_i e;exact .inl ⟨e.1,e.2.1,e.2.2,(Option.some.inj hm).symm⟩
  · exact .inr hm
 have dead:∀ {d i v B},az H d i=(v,B)→B≠.dead→¬ (d=0∧i=k):=fun {d i v B} hg hB e=>by
  rw[e.1,e.2] at hg;rw[hg] at hk0;exact hB hk0
 refine { ct.refl h with mu:=hle,rel:=⟨h'.pers,?_,?_,?_⟩,stay:=hs.weaken (fun _ _ _=>trivial),bC:=?_,own:=?_,new:=?_ }
 · intro d i v B hg hB;obtain ⟨b,o,t,k1,k2,k3⟩:=h'.live d i v B hg hB;exact ⟨b,o,t,hle _ _ _ _ k1,k2.mono (aG.le.refl _) (hle.up d) rfl,k3⟩
 · intro d i v B d' i' v' B' b o t o' t' hg hB hg' hB' hm hm';rcases mu _ _ _ _ hm with ⟨e1,e2,_⟩ | hm
   · exact absurd ⟨e1,e2⟩ (dead hg hB)
   · rcases mu _ _ _ _ hm' with ⟨e1,e2,_⟩ | hm'
     · exact absurd ⟨e1,e2⟩ (dead hg' hB')
     · exact h.apart d i v B d' i' v' B' b o t o' t' hg hB hg' hB' hm hm'
 · intro d i v t hm;rcases mu _ _ _ _ hm with ⟨e1,e2,e3,_⟩ | hm
   · rw[e1,e2,e3];exact ⟨hk,fun _=>Nat.zero_le _⟩
   · exact h.dom d i v t hm
 · intro b hb hkk d i v B hg hB hl o t hm;rcases mu _ _ _ _ hm with ⟨e1,e2,_⟩ | hm
   · exact dead hg hB ⟨e1,e2⟩
   · exact hkk d i v B hg hB hl o t hm
 · intro d i v b o t hm;rcases mu _ _ _ _ hm with ⟨_,_,_,e4⟩ | hm
   · simp only[Prod.mk.injEq] at e4;exact .inl wO
   · exact .inr ⟨_,_,_,_,_,Nat.le_refl _,hm⟩
 · intro d i v t hm;rcases mu _ _ _ _ hm with ⟨e1,_,_,_⟩ | hm
   · exact .inr (.inr (by rw[e1];exact hl0))
   · exact .inl hm

theorem sM {p:aG} {M:Mu} {H:ab} {w:World} (h:bn p M H w) {r:Nat} {m:Option Nat} {s c:Nat} {seen:Array Nat} (hr:w.heap[r]?=some (.mapIter m s seen c)) {d i v:Nat} {B:an} (hg:az H d i=(v,B)) (hB:B≠.dead) (o t:Nat):M d i v≠some (r,o,t):=by
 intro hm;obtain ⟨b,o',t',k1,k2,_⟩:=h.live d i v B hg hB;rw[hm] at k1;simp only[nP] at k1;obtain ⟨rfl,_,_⟩:=k1;cases B with
 | dead=>exact hB rfl
 | row q=>obtain ⟨_,_,e,_⟩:=k2;rw[hr] at e;simp at e
 | map es=>obtain ⟨_,_,e,_⟩:=k2;rw[hr] at e;simp at e
 | fmap kq f g c=>obtain ⟨_,_,_,_,e,_⟩:=k2;rw[hr] at e;simp at e
 | loop l=>obtain ⟨_,e,_⟩:=k2;rw[hr] at e;simp at e

theorem ct.Mz {p p':aG} {M M':Mu} {H H':ab} {w w':World} (h:ct p M H w p' M' H' w') {r:Nat} {m:Option Nat} {s c:Nat} {seen:Array Nat} (hr:w'.heap[r]?=some (.mapIter m s seen c)) (hn:w.heap.size≤r) (x:Obj) :
 ct p M H w p' M' H' (Go.ChangeMaps.setBlock w' r x):=by
 have blk:∀ b,b≠r→(Go.ChangeMaps.setBlock w' r x).heap[b]?=w'.heap[b]?:=fun b hb=>by simp[Go.ChangeMaps.setBlock,Array.getElem?_setIfInBounds_ne (Ne.symm hb)]
 refine { h with rel:=⟨?_,?_,h.rel.apart,h.rel.dom⟩,stay:=⟨h.stay.os,h.stay.tape,h.stay.output,by simp[Go.ChangeMaps.setBlock];exact h.stay.size,fun b hb hk=>?_⟩ }
 · intro b o v hp
   have hc:=h.rel.pers b o v hp
   have hbr:b≠r:=by
    rintro rfl;simp[World.cell?,hr] at hc
   rw[← hc]
   exact World.cell?_of_block (w:=w') (blk b hbr)
 · intro d i v B hg hB
   obtain ⟨b,o,t,k1,k2,k3⟩:=h.rel.live d i v B hg hB
   have hbr:b≠r:=by
    rintro rfl;exact sM h.rel hr hg hB o t k1
   exact ⟨b,o,t,k1,k2.mono (aG.le.refl _) (Mu.le.refl _) (blk b hbr),k3⟩
 · rw[blk b wO];exact h.stay.block b hb hk

theorem ct.drew {p p':aG} {M M':Mu} {H H':ab} {w w':World} (h:ct p M H w p' M' H' w'):ct p M H w p' M' H' w'.drew:=by
 have hs:dB (fun _=>True) w' w'.drew:=⟨rfl,rfl,rfl,Nat.le_refl _,fun _ _ _=>rfl⟩
 exact { h with rel:=h.rel.stay hs,stay:=h.stay.trans hs (fun _ _ _=>trivial) }

end Go.Eng
end
section
namespace Go.Eng
open Go.ChangeMaps (setBlock)

theorem wS {P:Program} {F:Fence} (hFW:dK F) {o:Oper} (hd:∀ c,o.op≠.defer c) {a:Act} {w w':World} {cv:Value} (h:(execOp a.eval o).run P w=.ok (.value cv) w') {n:Nat} {next:Act→World→Prop} {Q:Exit→Act→World→Prop} (hn:next (a.put o.dst cv) w'):o.wpIn F n P a w next Q:=by
 refine ⟨j0 hFW P o w a,?_⟩;rw[Oper.semAt_eq _ _ _ hd,h];exact hn

theorem Marks.Mz {n0:Nat} {M:Mu} {H:ab} {w:World} {ds:List Deferred} (h:Marks n0 M H w ds) {r:Nat} {m:Option Nat} {s c:Nat} {seen:Array Nat} (hr:w.heap[r]?=some (.mapIter m s seen c)) (x:Obj):Marks n0 M H (setBlock w r x) ds:=by
 obtain ⟨rs,h1,h2,h0,h3⟩:=h;refine ⟨rs,h1,h2,by simpa[setBlock] using h0,fun q hq=>?_⟩;obtain ⟨k1,k2,k3⟩:=h3 q hq;have hne:q≠r:=by rintro rfl;rw[hr] at k1;simp at k1
 exact ⟨by simp[setBlock,Array.getElem?_setIfInBounds_ne (Ne.symm hne)];exact k1,k2,k3⟩
theorem Marks.drew {n0:Nat} {M:Mu} {H:ab} {w:World} {ds:List Deferred} (h:Marks n0 M H w ds):Marks n0 M H w.drew ds:=h

structure bP where
 out:Nat
 yf:Nat
 id2:Nat
 nxt:Nat
 ops1:Array Oper
 ops2:Array Oper
 no:Oper
 eo:Oper
 t1:List Oper
 t2:List Oper
 it:Tmp
 nx:Tmp
 mo:Tmp
 en:Tmp
 rest:Code
 km:Nat
def bP.code (L:bP):Code:=.block L.out (.loop (.seq (.region L.yf L.ops1 false) (.seq (.cond (.tmp L.mo) .skip (.exit L.out)) (.block L.nxt (.seq (.region L.id2 L.ops2 false) L.rest)))))
structure bP.Ok (L:bP):Prop where
 l1:L.ops1.toList=L.no::L.t1
 o1:L.no.op=.next (.tmp L.it) false
 d1:L.no.dst=some L.nx
 g1:L.no.guard=none
 l2:L.ops2.toList=L.eo::L.t2
 o2:L.eo.op=.entry (.tmp L.it)
 d2:L.eo.dst=some L.en
 g2:L.eo.guard=none

def nH (k:Nat) (v:AV):Bool :=
 match v with
 | .ptr 0 i 0 0=>Nat.beq i k
 | _=>false
theorem pX {k:Nat} {v:AV} (h:nH k v=true):v=.ptr 0 k 0 0:=by
 unfold nH at h;split at h
 · rw[Nat.eq_of_beq_eq_true h]
 · cases h
def Oh (b:Bool) (v:AV):Bool :=
 match v with
 | .bool c=>c == b
 | _=>false
theorem Gc {b:Bool} {v:AV} (h:Oh b v=true):v=.bool b:=by
 unfold Oh at h;split at h
 · rw[beq_iff_eq] at h;rw[h]
 · cases h

noncomputable def bP.round (L:bP) (cx:Cx) (k n:Nat) (kv:AV×AV) (fr:aC) (H:ab):Option (aC×ab) :=
 match lr cx.P cx.nt cx.call L.ops1 L.t1 (iF cx.nt fr (some L.nx) (.tup [.bool true,kv.1,kv.2])) H with
 | some (frA,HA)=>if Oh true (bH frA L.mo) && nH k (bH frA L.it) then
    match lr cx.P cx.nt cx.call L.ops2 L.t2 (iF cx.nt frA (some L.en) (.tup [kv.1,kv.2])) HA with
    | some (frB,HB)=>match oL cx L.rest frB HB with
      | some (.normal,frC,HC)=>if nH k (bH (bN frC L.km) L.it) then some (bN frC L.km,lX n (bN frC L.km) HC) else none
      | _=>none
    | none=>none
   else none
 | none=>none
noncomputable def bP.last (L:bP) (cx:Cx) (fr:aC) (H:ab):Option (aC×ab) :=
 match lr cx.P cx.nt cx.call L.ops1 L.t1 (iF cx.nt fr (some L.nx) (.tup [.bool false])) H with
 | some (frE,HE)=>if Oh false (bH frE L.mo) then some (frE,HE) else none
 | none=>none

def tM (r:Nat) (w:World):Array Nat :=
 match w.heap[r]? with
 | some (.mapIter _ _ s _)=>s
 | _=>#[]

theorem D9 {ces:Array MapEntry} {seen:Array Nat} {e:MapEntry} (he:e ∈ (leftOf ces seen).toList):(leftOf ces (seen.push e.born)).size<(leftOf ces seen).size:=by
 unfold leftOf at he ⊢;rw[Array.toList_filter] at he;have sz:∀ f:MapEntry→Bool,(ces.filter f).size=(ces.toList.filter f).length:=fun f=>by rw[← Array.toList_filter,Array.length_toList]
 rw[sz,sz];have mono:∀ x:MapEntry,seen.contains x.born=true→(seen.push e.born).contains x.born=true:=fun x h=>by
  rw[Array.contains_push,h];simp
 have self:(seen.push e.born).contains e.born=true:=by rw[Array.contains_push];simp
 have hle:∀ (l:List MapEntry),(l.filter fun x=>!(seen.push e.born).contains x.born).length≤(l.filter fun x=>!seen.contains x.born).length:=by
  intro l;induction l with
  | nil=>exact Nat.le_refl _
  | cons x l ih =>
    rw[List.filter_cons,List.filter_cons];cases h1:seen.contains x.born with
    | true =>
      rw[mono x h1];simp only[Bool.not_true,Bool.false_eq_true,if_false];exact ih
    | false =>
      cases h2:(seen.push e.born).contains x.born with
      | true=>simp only[Bool.not_true,Bool.false_eq_true,if_false,Bool.not_false,if_true,List.length_cons];exact Nat.le_succ_of_le ih
      | false=>simp only[Bool.not_false,if_true,List.length_cons];exact Nat.succ_le_succ ih
 have hlt:∀ (l:List MapEntry),e ∈ (l.filter fun x=>!seen.contains x.born)→(l.filter fun x=>!(seen.push e.born).contains x.born).length<(l.filter fun x=>!seen.contains x.born).length:=by
  intro l;induction l with
  | nil=>intro h;cases h
  | cons x l ih =>
    intro h;rw[List.filter_cons] at h;rw[List.filter_cons,List.filter_cons];cases h1:seen.contains x.born with
    | true =>
      rw[h1] at h;simp only[Bool.not_true,Bool.false_eq_true,if_false] at h;rw[mono x h1];simp only[Bool.not_true,Bool.false_eq_true,if_false];exact ih h
    | false =>
      rw[h1] at h;simp only[Bool.not_false,if_true] at h;cases h2:(seen.push e.born).contains x.born with
      | true =>
        simp only[Bool.not_true,Bool.false_eq_true,if_false,Bool.not_false,if_true,List.length_cons];exact Nat.lt_succ_of_le (hle l)
      | false =>
        simp only[Bool.not_false,if_true,List.length_cons];rcases List.mem_cons.1 h with h | h
        · rw[← h,self] at h2;cases h2
        · exact Nat.succ_lt_succ (ih h)
 exact hlt _ he

end Go.Eng
end
section
namespace Go.Eng

def dq:ab→ab
 | []=>[]
 | l::r=>l::bE r
theorem fY (H:ab) (d i:Nat):az (dq H) d i=az H d i:=by
 cases H with
 | nil=>rfl
 | cons l r=>cases d with
   | zero=>rfl
   | succ d=>exact iB r d i
theorem fh (H:ab) (d:Nat):ao (dq H) d=ao H d:=by
 cases H with
 | nil=>rfl
 | cons l r=>cases d with
   | zero=>rfl
   | succ d=>exact fm r d
theorem bn.same {p:aG} {M:Mu} {H K:ab} {w:World} (h:bn p M H w) (hg:∀ d i,az K d i=az H d i) (hn:∀ d,ao K d=ao H d):bn p M K w :=
 h.under ⟨fun d i=>.inl (hg d i),hn⟩

theorem ct.unlock {p p':aG} {M M':Mu} {l l':bG} {r:ab} {w w':World} (h:bn p M (l::r) w) (h0:l.lock=false) (hE:ct p M (dq (l::r)) w p' M' (l'::bE r) w'):ct p M (l::r) w p' M' (l'::r) w':=by
 have get:∀ d i,az (l'::r) d i=az (l'::bE r) d i:=fun d i=>by
  cases d with
  | zero=>rfl
  | succ d=>exact (iB r d i).symm
 have next:∀ d,ao (l'::r) d=ao (l'::bE r) d:=fun d=>by
  cases d with
  | zero=>rfl
  | succ d=>exact (fm r d).symm
 have hl':l'.lock=false:=by have:=hE.lock 0;exact this.trans h0
 refine ⟨hE.pst,hE.mu,hE.rel.same get next,hE.stay.weaken (fun b hb hk d i v B hg hB hl o t=>?_),fun b hb hk d i v B hg hB hl o t hm=>?_,hE.fresh,hE.own,fun d=>?_,fun d i hd hl=>?_,fun d hd hl=>?_,?_,fun d=>?_,fun d i v t hm=>?_⟩
 · rw[fY] at hg;cases d with
   | zero=>exact hk 0 i v B hg hB h0 o t
   | succ d =>
     have:aK (dq (l::r)) (d+1)=true:=b5 r d;rw[this] at hl;cases hl
 · cases d with
   | zero =>
     have hkb:Go.Eng.bC M (dq (l::r)) b:=fun d i v B hg hB hl o t=>by
      rw[fY] at hg;cases d with
      | zero=>exact hk 0 i v B hg hB h0 o t
      | succ d =>
        have:aK (dq (l::r)) (d+1)=true:=b5 r d;rw[this] at hl;cases hl
     exact hE.bC b hb hkb 0 i v B hg hB hl' o t hm
   | succ d =>
     have hg':az (l::r) (d+1) i=(v,B):=hg;obtain ⟨b2,o2,t2,k1,_,_⟩:=h.live (d+1) i v B hg' hB;have k2:=hE.mu _ _ _ _ k1;rw[hm] at k2;simp only[nP] at k2;exact hk (d+1) i v B hg' hB hl o2 t2 (by rw[k1,← k2.1])
 · cases d with
   | zero=>exact hl'.trans h0.symm
   | succ d=>rfl
 · cases d with
   | zero=>exact absurd rfl hd
   | succ d=>rfl
 · cases d with
   | zero=>exact absurd rfl hd
   | succ d=>rfl
 · simp
 · rw[next];have:=hE.grow d;rw[fh] at this;exact this
 · rcases hE.new d i v t hm with h1 | h1 | h1
   · exact .inl h1
   · rw[fh] at h1;exact .inr (.inl h1)
   · cases d with
     | zero=>exact .inr (.inr h0)
     | succ d =>
       have:aK (dq (l::r)) (d+1)=true:=b5 r d;rw[this] at h1;cases h1

theorem mD {P:Program} {F:Fence} (hFW:dK F) (hN:dI P) {call:aJ} (hC:bW P call) {nt:Nat} {ops:Array Oper} {n:Nat} {Q:Exit→Act→World→Prop} {l2:List Oper}:∀ (l:List Oper) (fr:aC) (H:ab) (fr':aC) (H':ab),
 fb P nt call ops l fr H=some (fr',H')→∀ (p:aG) (M:Mu) (a:Act) (w:World),bR p M nt fr a→bn p M H w→H≠[] →
 (∀ a' w',At p M H w nt a.defers fr' H' a' w'→wpListIn F n P ops Q l2 a' w')→wpListIn F n P ops Q (l++l2) a w
 | [],fr,H,fr',H',h,p,M,a,w,hF,hH,hne,hQ=>by
   simp only[fb,Option.some.injEq,Prod.mk.injEq] at h;obtain ⟨rfl,rfl⟩:=h;exact hQ a w ⟨p,M,ct.refl hH,hF,rfl⟩
 | o :: l,fr,H,fr',H',h,p,M,a,w,hF,hH,hne,hQ=>by
   simp only[fb] at h;have hw:=ug hF ops o;rw[List.cons_append];unfold wpListIn;cases hwv:lI ops fr o with
   | lost=>rw[hwv] at h;simp at h
   | skip =>
     rw[hwv] at h;simp only at h;rw[if_neg (by rw[hw.2 hwv];simp)];exact ⟨j0 hFW P o w a,mD hFW hN hC l _ H fr' H' h p M _ w (hF.put o.dst qj) hH hne (fun a' w' ha=>hQ a' w' (by rw[put_defers] at ha;exact ha))⟩
   | run =>
     rw[hwv] at h;simp only at h;rw[if_pos (hw.1 hwv)];cases he:evalOp P call fr H (aW H) o with
     | none=>rw[he] at h;simp at h
     | some vd =>
       obtain ⟨v,δ⟩:=vd;rw[he] at h;simp only at h;refine C0 hFW hN hC he hF hH hne (fun cv w' ⟨p',M',hE,hv⟩=>?_);refine mD hFW hN hC l _ _ fr' H' h p' M' _ w' ((hF.mono hE.pst hE.mu).put o.dst hv) hE.rel (hE.ne hne) (fun a' w'' ⟨p'',M'',hE',hF',hd⟩=>?_);exact hQ a' w'' ⟨p'',M'',hE.trans hE',hF',by rw[put_defers] at hd;exact hd⟩

end Go.Eng
end
section
namespace Go.Eng

end Go.Eng
end
section
namespace Go.Eng

structure eE where
 id0:Nat
 ops0:Array Oper
 pre:List Oper
 ro:Oper
 m:Tmp
 ty:TypeId
def eE.code (S:eE) (L:bP):Code:=.seq (.region S.id0 S.ops0 false) L.code
structure eE.Ok (P:Program) (S:eE) (L:bP):Prop where
 l0:S.ops0.toList=S.pre++[S.ro]
 o0:S.ro.op=.range S.ty (.tmp S.m)
 d0:S.ro.dst=some L.it
 g0:S.ro.guard=none
 t0:∃ k e,P.underlying S.ty=some (.map k e)

noncomputable def gb (L:bP) (cx:Cx) (k n:Nat) (R:ab) (kv:AV×AV) (s:aC×bG):Option (aC×bG) :=
 match L.round cx k n kv s.1 (s.2::R) with
 | some (fr,l::_)=>some (fr,l)
 | _=>none
theorem qK {L:bP} {cx:Cx} {k n:Nat} {R:ab} {kv:AV×AV} {s t:aC×bG} (h:gb L cx k n R kv s=some t):∃ R1,L.round cx k n kv s.1 (s.2::R)=some (t.1,t.2::R1):=by
 unfold gb at h;split at h
 · rename_i fr l R1 e;simp only[Option.some.injEq] at h;subst h;exact ⟨R1,e⟩
 · cases h

noncomputable def fU (L:bP) (cx:Cx) (k n:Nat) (R:ab):List (AV×AV)→aC×bG→Option (aC×bG)
 | [],s=>some s
 | kv::r,s=>match gb L cx k n R kv s with
   | some t=>fU L cx k n R r t
   | none=>none
end Go.Eng
end
section
namespace Go.Eng

end Go.Eng
end
section
namespace Go.Eng

def assemble:List Code→Code→Code→Code
 | [],C,suf=>.seq C suf
 | c::r,C,suf=>.seq c (assemble r C suf)
theorem FB {cx:Cx} {F:Fence} {x y:Code} {fr fr1 fr':aC} {H H1 H':ab} {e:Ex} (hx:dQ cx.P F cx.ro cx.nt x fr H .normal fr1 H1) (hy:dQ cx.P F cx.ro cx.nt y fr1 H1 e fr' H'):dQ cx.P F cx.ro cx.nt (.seq x y) fr H e fr' H' :=
 fun n0 p M a w Q hF hH hne hR hM hQ=>wpIn_seq (hx n0 p M a w _ hF hH hne hR hM (fun a1 w1 ⟨p1,M1,k1,k2,k3⟩=>hy n0 p1 M1 a1 w1 Q k2 k1.rel (k1.ne hne) (hR.mono k1.mu) k3 (fun a2 w2 h2=>hQ a2 w2 (Hw.trans k1 h2))))
theorem vZ {cx:Cx} {F:Fence} {x y:Code} {fr fr':aC} {H H':ab} {e:Ex} (he:e≠.normal) (hx:dQ cx.P F cx.ro cx.nt x fr H e fr' H'):dQ cx.P F cx.ro cx.nt (.seq x y) fr H e fr' H' :=
 fun n0 p M a w Q hF hH hne hR hM hQ=>wpIn_seq (hx n0 p M a w _ hF hH hne hR hM (fun a1 w1 hn=>by
  have:=hQ a1 w1 hn;cases e<;>first | exact absurd rfl he | exact this))

end Go.Eng
end
section
namespace Go.Eng

theorem FX {P:Program} {f:FuncId} {fn:Func} {c:Code} (hf:P.funcs[f]?=some fn) (hb:fn.body=some c) {args:List AV} (hle:args.length≤fn.ntmps) {H:ab} {e:Ex} {fr:aC} {l:bG} {H':ab} (he:e=.normal∨e=.ret)
 {j ver off sz len:Nat} {cap:Option Nat} {q:Row} (hv:ir P fr (l::H') fn.results.toList=some [.slc 0 j ver off sz len cap]) (hq:da (l::H') 0 j ver=some q) (hl0:l.lock=false) (hl1:aK H' 0=false) (hne:H'≠[])
 (hC:dQ P Fence.wide none fn.ntmps c (fO 0 args) (⟨false,[]⟩::H) e fr (l::H')) {p:aG} {M:Mu} {w:World} {cargs:Array Value} (hH:bn p M H w) (hA:eK p M args cargs) :
 CallsIn Fence.wide 0 P f cargs w (eW p M H w (.slc 0 (ao H' 0) 0 off sz len cap) (bB H' 0 (.row (jq 1 q)))):=by
 refine callsIn_of_wp_marks hf hb trivial (hC w.heap.size p (dv M) _ w _ (rX hA hle) hH.down (by simp) rfl (Marks.nil _ _ _) (fun a' w' ⟨p',M',k1,k2,k3⟩=>?_)) rfl
 have main:LeavesInM Fence.wide 0 P fn a'.tmps (eW p M H w (.slc 0 (ao H' 0) 0 off sz len cap) (bB H' 0 (.row (jq 1 q)))) a'.defers .returning w':=by
  obtain ⟨rs,h1,h2,_,h3⟩:=k3;rw[h1];refine kW (p:=p) (M:=dv M) (H:=⟨false,[]⟩::H) (w:=w) (p':=p') (M':=M') (H':=l::H') (fun w2 hE=>?_) rs w' h2 (fun r hr=>⟨(h3 r hr).1,(h3 r hr).2.2⟩) k1;obtain ⟨cv,r1,r2⟩:=mz k2 hE.rel hv;have r2':al p' M' (.slc 0 j ver off sz len cap) cv:=r2;cases r2' with
  | slc hm h5 h6 h7 h8 =>
    rename_i b o t x cc;have mv:=hE.rel.move (d:=1) hq hm hl0 hl1 (by
     cases H' with
     | nil=>exact absurd rfl hne
     | cons y r=>simp) wO
    have hE2:=hE.trans mv;have hk:bB (dW (l::H') 0 j) 1 (.row (jq 1 q))=(⟨l.lock,(bK l.bs j ((az (l::H') 0 j).1,.dead))⟩:bG)::bB H' 0 (.row (jq 1 q)):=rfl;rw[hk] at hE2;refine ⟨_,r1,_,rfl,⟨fun d i hl=>hE2.same (d+1) i wO hl,fun d hl=>hE2.next (d+1) wO hl⟩,_,_,hE2.pop,?_⟩;refine .slc (b:=b) (o:=o) (t:=t) ?_ h5 h6 h7 h8;show bw M' 1 (ao (l::H') 1) 0 (b,o,t) 1 (ao H' 0) 0=some (b,o,t);unfold bw;exact if_pos ⟨rfl,rfl,rfl⟩
 rcases he with rfl | rfl
 · exact main
 · exact main

noncomputable def GA (P:Program) (KT:FuncId→Nat→Nat) (fu:Nat) (f:FuncId) (call:aJ) (args:List AV) (H:ab):Option (AV×ab) :=
 match P.funcs[f]? with
 | none=>none
 | some fn => match fn.body with
   | none=>none
   | some c=>if Nat.ble args.length fn.ntmps then
     match oL ⟨P,call,fu,f,fn.ntmps,KT f,none⟩ c (fO 0 args) (⟨false,[]⟩::H) with
     | some (e,fr,l::l1::H')=>(match e with
       | .normal | .ret=>match ir P fr (l::l1::H') fn.results.toList with
         | some [.slc 0 j ver off sz len cap]=>match da (l::l1::H') 0 j ver with
           | some q=>if l.lock || l1.lock then none else some (.slc 0 l1.bs.length 0 off sz len cap,bB (l1::H') 0 (.row (jq 1 q)))
           | none=>none
         | _=>none
       | _=>none)
     | _=>none
     else none
theorem GB {P:Program} (hN:dI P) (hD:gl P) {f:FuncId} (KT:FuncId→Nat→Nat) (fu:Nat) {call:aJ} (hC:bW P call) {args:List AV} {H:ab} {v:AV} {H':ab} (h:GA P KT fu f call args H=some (v,H'))
 {p:aG} {M:Mu} {w:World} {cargs:Array Value} (hH:bn p M H w) (hA:eK p M args cargs):(∃ fn,P.funcs[f]?=some fn∧fn.body.isNone=false)∧CallsIn Fence.wide 0 P f cargs w (eW p M H w v H'):=by
 unfold GA at h
 split at h
 · simp at h
 rename_i fn hf
 split at h
 · simp at h
 rename_i c hb
 split at h
 case isFalse=>simp at h
 rename_i hle
 split at h
 case h_2=>simp at h
 rename_i e fr l l1 H1 he
 rw[fR] at he
 have hcode:=cW (cx:=⟨P,call,fu,f,fn.ntmps,KT f,none⟩) dK.wide hN hC (more hN hD hC _ _ rfl rfl dK.wide) _ _ _ _ _ _ he
 have fin:(e=.normal∨e=.ret)→(match ir P fr (l::l1::H1) fn.results.toList with
  | some [.slc 0 j ver off sz len cap]=>match da (l::l1::H1) 0 j ver with
    | some q=>if l.lock || l1.lock then none else some (AV.slc 0 l1.bs.length 0 off sz len cap,bB (l1::H1) 0 (.row (jq 1 q)))
    | none=>none
  | _=>none)=some (v,H')→(∃ fn,P.funcs[f]?=some fn∧fn.body.isNone=false)∧CallsIn Fence.wide 0 P f cargs w (eW p M H w v H'):=fun he h=>by
  split at h
  case h_2=>simp at h
  rename_i j ver off sz len cap hv
  split at h
  case h_2=>simp at h
  rename_i q hq
  split at h
  case isTrue=>simp at h
  rename_i hlk
  simp only[Bool.or_eq_true,not_or,Bool.not_eq_true] at hlk
  simp only[nP] at h
  obtain ⟨rfl,rfl⟩:=h
  exact ⟨⟨fn,hf,by rw[hb];rfl⟩,FX hf hb (by simpa using hle) he hv hq hlk.1 hlk.2 (by simp) hcode hH hA⟩
 split at h
 · exact fin (.inl rfl) h
 · exact fin (.inr rfl) h
 · simp at h

end Go.Eng
end
section
namespace Go.Eng

noncomputable def RH (P:Program) (KT:FuncId→Nat→Nat) (fu:Nat) (f:FuncId) (call:aJ) (args:List AV) (H:ab):Option (AV×ab) :=
 match P.funcs[f]? with
 | none=>none
 | some fn => match fn.body with
   | none=>none
   | some c=>if Nat.ble args.length fn.ntmps then
     match oL ⟨P,call,fu,f,fn.ntmps,KT f,none⟩ c (fO 0 args) (⟨false,[]⟩::H) with
     | some (e,fr,l::l1::H')=>(match e with
       | .normal | .ret=>match ir P fr (l::l1::H') fn.results.toList with
         | some [v0,.slc 0 j ver off sz len cap]=>match da (l::l1::H') 0 j ver with
           | some q=>if l.lock || l1.lock then none else some (dF (bK l.bs j ((az (l::l1::H') 0 j).1,.dead)) 5 (.tup [v0,.slc 1 l1.bs.length 0 off sz len cap]),bB (l1::H') 0 (.row (jq 1 q)))
           | none=>none
         | _=>none
       | _=>none)
     | _=>none
     else none
noncomputable def od (P:Program) (KT:FuncId→Nat→Nat) (fu:Nat) (f:FuncId) (call:aJ) (args:List AV) (H:ab):Option (AV×ab) :=
 match P.funcs[f]? with
 | none=>none
 | some fn=>match fn.body with
   | none=>none
   | some c=>if Nat.ble args.length fn.ntmps then
     match exec ⟨P,call,fu,f,fn.ntmps,KT f,none⟩ c (fO 0 args) (⟨false,[]⟩::H) with
     | some (e,fr,l::H')=>(match e with
       | .normal | .ret=>match ir P fr (l::H') fn.results.toList with
         | some vs=>some (dF l.bs 5 (one vs),H')
         | none=>none
       | _=>none)
     | _=>none
     else none
theorem pn {P:Program} (hN:dI P) (hD:gl P) {f:FuncId} (KT:FuncId→Nat→Nat) (fu:Nat) {call:aJ} (hC:bW P call) {args:List AV} {H:ab} {v:AV} {H':ab} (h:od P KT fu f call args H=some (v,H'))
 {p:aG} {M:Mu} {w:World} {cargs:Array Value} (hH:bn p M H w) (hA:eK p M args cargs):(∃ fn,P.funcs[f]?=some fn∧fn.body.isNone=false)∧CallsIn Fence.wide 0 P f cargs w (eW p M H w v H'):=by
 unfold od at h
 split at h
 · simp at h
 rename_i fn hf
 split at h
 · simp at h
 rename_i c hb
 split at h
 case isFalse=>simp at h
 rename_i hle
 split at h
 case h_2=>simp at h
 rename_i e fr l H1 he
 have hcode:=cW (cx:=⟨P,call,fu,f,fn.ntmps,KT f,none⟩) dK.wide hN hC (more hN hD hC _ _ rfl rfl dK.wide) _ _ _ _ _ _ he
 have fin:(e=.normal∨e=.ret)→(match ir P fr (l::H1) fn.results.toList with
  | some vs=>some (dF l.bs 5 (one vs),H1)
  | none=>none)=some (v,H')→(∃ fn,P.funcs[f]?=some fn∧fn.body.isNone=false)∧CallsIn Fence.wide 0 P f cargs w (eW p M H w v H'):=fun he h=>by
  split at h
  case h_2=>simp at h
  rename_i vs hv
  simp only[nP] at h
  obtain ⟨rfl,rfl⟩:=h
  exact ⟨⟨fn,hf,by rw[hb];rfl⟩,ss hf hb (by simpa using hle) he hv hcode hH hA⟩
 split at h
 · exact fin (.inl rfl) h
 · exact fin (.inr rfl) h
 · simp at h
end Go.Eng
end
