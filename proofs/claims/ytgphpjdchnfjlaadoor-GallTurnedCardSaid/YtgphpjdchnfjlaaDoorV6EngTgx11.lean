/- The engine as a tree: what a call hands down; calls; loops. -/
import Derived.Test.YtgphpjdchnfjlaaDoorV6EngTf
import Derived.Test.YtgphpjdchnfjlaaDoorV6EngXx4
import Derived.Maps.RangeRun
set_option linter.unusedVariables false
set_option linter.unusedSimpArgs false
section
namespace Go.Eng
noncomputable section

def nF   (bs:List (Nat×ak)):Nat→AV→Tr AV
 | 0,_=>.ok .undef
 | n + 1,v=>match v with
   | .ptr d i ver off=>match d with
     | d+1=>.ok (.ptr d i ver off)
     | 0 => match B9 bs i with
       | (w,.row r)=>cond (Nat.beq w ver) (match r with
         | .I k l=>.ok (.ptrT none (.I k l) off)
         | .F f m=>.ok (.ptrT none (.F f m) off)
         | .M l=>cond (fY l) (.ok (.ptrT none (.M l) off)) ((mO (nF bs n) l).bind fun m=>.ok (.ptrT (some 0) (.M m) off))
         | .G l=>(oA (nF bs n) l).bind fun m=>.ok (.ptrT (some 0) (.G m) off)) .bad
       | _=>.bad
   | .slc d i ver off sz len cap=>match d with
     | d+1=>.ok (.slc d i ver off sz len cap)
     | 0 => match B9 bs i with
       | (w,.row r)=>.req (cg w ver) (match r with
         | .M [.arr k z N]=>.req (dN off (fT len sz) 0 N) (.ok (.slcT none (.M [.arr k (jI z off) (fT len sz)]) sz len (qY cap len)))
         | .I k l=>cond (vo (.I k l) off (Nat.mul len sz)) (.ok (.slcT none (.I k (l9 (lZ l off) (Nat.mul len sz))) sz len (qY cap len))) .bad
         | .F f N=>.req (dN off (fT len sz) 0 N) (.ok (.slcT none (.F (fun j=>f (ar off j)) (fT len sz)) sz len (qY cap len)))
         | .G l=>cond (vo (.G l) off (Nat.mul len sz)) ((oA (nF bs n) (l9 (lZ l off) (Nat.mul len sz))).bind fun m=>.ok (.slcT (some 0) (.G m) sz len (qY cap len))) .bad
         | _=>.bad)
       | _=>.bad
   | .ptrT s r off=>match s with
     | none=>.ok (.ptrT none r off)
     | some (s+1)=>.ok (.ptrT (some s) r off)
     | some 0=>match r with
       | .G l=>(oA (nF bs n) l).bind fun m=>.ok (.ptrT (some 0) (.G m) off)
       | .M l=>cond (fY l) (.ok (.ptrT none (.M l) off)) ((mO (nF bs n) l).bind fun m=>.ok (.ptrT (some 0) (.M m) off))
       | r=>.ok (.ptrT none r off)
   | .slcT s r sz len full=>match s with
     | none=>.ok (.slcT none r sz len full)
     | some (s+1)=>.ok (.slcT (some s) r sz len full)
     | some 0=>match r with
       | .G l=>(oA (nF bs n) l).bind fun m=>.ok (.slcT (some 0) (.G m) sz len full)
       | .M l=>cond (fY l) (.ok (.slcT none (.M l) sz len full)) ((mO (nF bs n) l).bind fun m=>.ok (.slcT (some 0) (.M m) sz len full))
       | r=>.ok (.slcT none r sz len full)
   | .map d i=>match d with
     | d+1=>.ok (.map d i)
     | 0=>.ok .undef
   | .yld d i=>match d with
     | d+1=>.ok (.yld d i)
     | 0=>.ok .undef
   | .fn f a b=>(oA (nF bs n) a).bind fun a'=>(oA (nF bs n) b).bind fun b'=>.ok (.fn f a' b')
   | .agg r=>match r with
     | .G l=>(oA (nF bs n) l).bind fun m=>.ok (.agg (.G m))
     | .M l=>(mO (nF bs n) l).bind fun m=>.ok (.agg (.M m))
     | r=>.ok (.agg r)
   | .tup l=>(oA (nF bs n) l).bind fun m=>.ok (.tup m)
   | v=>.ok v
theorem Dc (bs:List (Nat×ak)):∀ (n:Nat) (v u:AV),(nF bs n v).run=some u→dI bs n v=u
 | 0,v,u,h=>Tr.ae h
 | n + 1,v,  u,h=>by
   have ih:=Dc bs n;simp only[nF,se] at h;cases v with
   | ptr d i ver off =>
     cases d with
     | succ d=>exact Tr.ae h
     | zero =>
       dsimp only at h;simp only[dI];split at h
       · rename_i w r hg;obtain ⟨hw,h⟩:=Tr.a6 h;rw[hg];dsimp only;rw[if_pos hw];cases r with
         | I k l=>exact Tr.ae h
         | F f m=>exact Tr.ae h
         | G l =>
           obtain ⟨m,h1,h⟩:=Tr.bind_some h;rw[← Tr.ae h,← fc ih _ _ h1]
         | M l =>
           dsimp only at h ⊢;cases ha:fY l with
           | true=>rw[ha,cond_true] at h;rw[if_pos rfl];exact Tr.ae h
           | false =>
             rw[ha,cond_false] at h;obtain ⟨m,h1,h⟩:=Tr.bind_some h;rw[if_neg (by simp),← Tr.ae h,← iv ih _ _ h1]
       · exact (Tr.ah h).elim
   | slc d i ver off sz len cap =>
     cases d with
     | succ d=>exact Tr.ae h
     | zero =>
       dsimp only at h;simp only[dI];split at h
       · rename_i w r hg;obtain ⟨hw,h'⟩:=Tr.aW h;clear h;rw[fZ,decide_eq_true_eq] at hw;subst hw;rw[hg];dsimp only;split at h'
         · rename_i k z N;have h:=h';obtain ⟨hc,h⟩:=Tr.aW h;rw[kh,decide_eq_true_eq,cO] at hc;rw[if_pos ⟨by simp,by simp only[Row.len,aE,aU];omega⟩,← Tr.ae h,kD,cO,m5];simp only[Row.sub,fY,if_true]
         · have h:=h';obtain ⟨hc,h⟩:=Tr.a6 h;rw[lr,decide_eq_true_eq] at hc;rw[if_pos ⟨by simp,hc⟩,← Tr.ae h,kD,iC,ik];rfl
         · have h:=h';obtain ⟨hc,h⟩:=Tr.aW h;rw[kh,decide_eq_true_eq,cO] at hc;rw[if_pos ⟨by simp,by simp only[Row.len];omega⟩,← Tr.ae h,kD,cO];simp only[Row.sub,aI]
         · have h:=h';obtain ⟨hc,h⟩:=Tr.a6 h;rw[lr,decide_eq_true_eq] at hc;obtain ⟨m,h1,h⟩:=Tr.bind_some h;rw[iC,ik] at h1;rw[if_pos ⟨by simp,hc⟩,← Tr.ae h,kD,← fc ih _ _ h1];rfl
         · exact (Tr.ah h').elim
       · exact (Tr.ah h).elim
   | ptrT s r off =>
     cases s with
     | none=>exact Tr.ae h
     | some s =>
       cases s with
       | succ s=>exact Tr.ae h
       | zero =>
         simp only[dI];cases r with
         | I k l=>exact Tr.ae h
         | F f m=>exact Tr.ae h
         | G l =>
           obtain ⟨m,h1,h⟩:=Tr.bind_some h;rw[← Tr.ae h,← fc ih _ _ h1]
         | M l =>
           dsimp only at h ⊢;cases ha:fY l with
           | true=>rw[ha,cond_true] at h;rw[if_pos rfl];exact Tr.ae h
           | false =>
             rw[ha,cond_false] at h;obtain ⟨m,h1,h⟩:=Tr.bind_some h;rw[if_neg (by simp),← Tr.ae h,← iv ih _ _ h1]
   | slcT s r sz len full =>
     cases s with
     | none=>exact Tr.ae h
     | some s =>
       cases s with
       | succ s=>exact Tr.ae h
       | zero =>
         simp only[dI];cases r with
         | I k l=>exact Tr.ae h
         | F f m=>exact Tr.ae h
         | G l =>
           obtain ⟨m,h1,h⟩:=Tr.bind_some h;rw[← Tr.ae h,← fc ih _ _ h1]
         | M l =>
           dsimp only at h ⊢;cases ha:fY l with
           | true=>rw[ha,cond_true] at h;rw[if_pos rfl];exact Tr.ae h
           | false =>
             rw[ha,cond_false] at h;obtain ⟨m,h1,h⟩:=Tr.bind_some h;rw[if_neg (by simp),← Tr.ae h,← iv ih _ _ h1]
   | map d i=>cases d<;>exact Tr.ae h
   | yld d i=>cases d<;>exact Tr.ae h
   | fn f a b =>
     obtain ⟨a',h1,h⟩:=Tr.bind_some h;obtain ⟨b',h2,h⟩:=Tr.bind_some h;simp only[dI];rw[← Tr.ae h,← fc ih _ _ h1,← fc ih _ _ h2]
   | agg r =>
     simp only[dI];cases r with
     | I k l=>exact Tr.ae h
     | F f m=>exact Tr.ae h
     | G l =>
       obtain ⟨m,h1,h⟩:=Tr.bind_some h;rw[← Tr.ae h,← fc ih _ _ h1]
     | M l =>
       obtain ⟨m,h1,h⟩:=Tr.bind_some h;rw[← Tr.ae h,← iv ih _ _ h1]
   | tup l =>
     obtain ⟨m,h1,h⟩:=Tr.bind_some h;simp only[dI];rw[← Tr.ae h,← fc ih _ _ h1]
   | _=>exact Tr.ae h

def IV (l:List HV):Nat→aO:=List.rec (motive:=fun _=>Nat→aO) (fun _=>[]) (fun v _ ih x=>(x,(m6 1 v.1,v.2))::ih (Nat.succ x)) l
theorem wV:∀ (l:List HV) (x:Nat),strip (IV l x)=ev x (kd l)
 | [],x=>rfl
 | v::l,x=>by
   have e:IV (v::l) x=(x,(m6 1 v.1,v.2))::IV l (x+1):=rfl;rw[e,cX,wV l];rfl
def hints (f:aD):aO:=List.rec (motive:=fun _=>aO) [] (fun p _ ih=>(p.1,(p.2,none))::ih) f
theorem aq:∀ f:aD,strip (hints f)=f
 | []=>rfl
 | (x,v)::r=>by
   have e:hints ((x,v)::r)=(x,(v,none))::hints r:=rfl;rw[e,cX,aq r]
def Cg (P:Program) (fr:aO) (H:aa):List ResultVar→Tr (List AV)
 | []=>.ok []
 | .tmp t::r=>(Cg P fr H r).bind fun l=>.ok ((l7 fr t).1::l)
 | .cell a t::r=>(loadT P H t (cA fr (.tmp a))).bind fun v=>(Cg P fr H r).bind fun l=>.ok (v::l)
theorem xO {P:Program} {fr:aO} {H:aa}:∀ (l:List ResultVar) (vs:List AV),(Cg P fr H l).run=some vs→gM P (strip fr) H l=some vs
 | [],vs,h=>by rw[← Tr.ae h];rfl
 | .tmp t::r,vs,h=>by
   simp only[Cg] at h;obtain ⟨l,h1,h⟩:=Tr.bind_some h;simp only[gM];rw[xO r l h1,← Tr.ae h,fm];rfl
 | .cell a t::r,vs,h=>by
   simp only[Cg] at h;obtain ⟨v,h0,h⟩:=Tr.bind_some h;obtain ⟨l,h1,h⟩:=Tr.bind_some h;have h0:=zh h0;rw[bf] at h0;simp only[gM];have e:b9 (strip fr) (.tmp a)=bO (strip fr) a:=rfl;rw[e] at h0;rw[h0];dsimp only;rw[xO r l h1,← Tr.ae h];rfl
def Lc (fr:aO) (rs:List ResultVar):Option Nat :=
 match rs with
 | [.tmp t]=>(l7 fr t).2
 | _=>none
def NY (P:Program) (rs:List ResultVar) (x:db):Tr (HV×aa) :=
 match x with
 | (e,fr,l::H)=>match e with
   | .normal | .ret=>(Cg P fr (l::H) rs).bind fun vs=>(nF l.bs 5 (one vs)).bind fun v=>.ok ((v,Lc fr rs),H)
   | _=>.bad
 | _=>.bad
theorem DP {P:Program} {rs:List ResultVar} {x:db} {y:HV×aa} (h:(NY P rs x).run=some y):∃ l vs,x.2.2=l::y.2∧(x.1=.normal∨x.1=.ret)∧gM P (strip x.2.1) x.2.2 rs=some vs∧dI l.bs 5 (one vs)=y.1.1:=by
 unfold NY at h;split at h
 · rename_i e fr l H;have key:((Cg P fr (l::H) rs).bind fun vs=>(nF l.bs 5 (one vs)).bind fun v=>Tr.ok (((v,Lc fr rs),H):HV×aa)).run=some y→∃ vs,l::H=l::y.2∧gM P (strip fr) (l::H) rs=some vs∧dI l.bs 5 (one vs)=y.1.1:=by
    intro h;obtain ⟨vs,h1,h⟩:=Tr.bind_some h;obtain ⟨v,h2,h⟩:=Tr.bind_some h;have h:=Tr.ae h;refine ⟨vs,by rw[← h],xO _ _ h1,?_⟩;rw[Dc _ _ _ _ h2,← h]
   split at h
   · obtain ⟨vs,h1,h2,h3⟩:=key h;exact ⟨l,vs,h1,.inl rfl,h2,h3⟩
   · obtain ⟨vs,h1,h2,h3⟩:=key h;exact ⟨l,vs,h1,.inr rfl,h2,h3⟩
   · exact (Tr.ah h).elim
 · exact (Tr.ah h).elim
def bo (P:Program) (call:aN) (fu:Nat) (f:FuncId) (fn:Func) (kt:Nat→Nat) (callR:bw) (bl:eV) (rg:nZ) (args:List HV) (H:aa):Tr (HV×aa) :=
 (aJ ⟨P,call,fu,f,fn.ntmps,kt,none⟩ callR bl rg (aZ fn) (IV args 0) (⟨false,[]⟩::H)).bind fun x=>NY P fn.results.toList x
theorem oY {P:Program} {ora:aN→FuncId→List AV→aa→Option (AV×aa)} {KT:FuncId→Nat→Nat} {fu n:Nat} {f:FuncId} {fn:Func} (hf:P.funcs[f]?=some fn) (hb:fn.body.isSome=true) {args:List HV} {H:aa} (ho:ora (dk P ora KT fu n) f (kd args) H=none) (hle:Nat.ble args.length fn.ntmps=true)
 {callR:bw} (hC:callR.Ok (dk P ora KT fu n)) {bl:eV} (hB:bl.Ok ⟨P,dk P ora KT fu n,fu,f,fn.ntmps,KT f,none⟩ (aZ fn)) {rg:nZ} (hR:rg.Ok ⟨P,dk P ora KT fu n,fu,f,fn.ntmps,KT f,none⟩ (aZ fn)) {y:HV×aa}
 (h:(bo P (dk P ora KT fu n) fu f fn (KT f) callR bl rg args H).run=some y):dk P ora KT fu (n+1) (.fn f) (kd args) H=some (y.1.1,y.2):=by
 unfold bo at h
 obtain ⟨x,h1,h⟩:=Tr.bind_some h
 have h1:=ga hC _ hB hR _ _ _ h1
 rw[wV] at h1
 obtain ⟨l,vs,k1,k2,k3,k4⟩:=DP h
 obtain ⟨c,hc⟩:=Option.isSome_iff_exists.1 hb
 have hbody:aZ fn=c:=by unfold aZ;rw[hc]
 rw[hbody] at h1
 obtain ⟨e,fr,H1⟩:=x
 dsimp only[db.st] at h1 k1 k2 k3
 rw[k1] at h1 k3
 have hl:(kd args).length=args.length:=by unfold kd;rw[jW,List.length_map]
 simp only[dk,ho,hf,hc,hl,hle,if_true,h1]
 rcases k2 with rfl | rfl<;>simp only[k3]<;>rw[k4]

theorem iF {cx:Cx} {id:Nat} {b:Code} {fr fr1:aD} {H H1:aa} (h:iter (exec cx b) (aY H) cx.fu fr H=some (.exit id,fr1,H1)):exec cx (.block id (.loop b)) fr H=some (.normal,fr1,H1):=by
 unfold exec;have:exec cx (.loop b) fr H=some (.exit id,fr1,H1):=by unfold exec;exact h
 rw[this];dsimp only;rw[if_pos (by simp)]
theorem cP {cx:Cx} {id:Nat} {b:Code} {fr fr1:aD} {H H1:aa} {e:Ex} (he:∀ id',e=.exit id'→Nat.beq id' id=false) (h:iter (exec cx b) (aY H) cx.fu fr H=some (e,fr1,H1)):exec cx (.block id (.loop b)) fr H=some (e,fr1,H1):=by
 unfold exec;have:exec cx (.loop b) fr H=some (e,fr1,H1):=by unfold exec;exact h
 rw[this];cases e with
 | exit id'=>dsimp only;rw[if_neg (by rw[he id' rfl];simp)]
 | _=>rfl
def fN (p:Nat→Bool):Nat→Nat→Nat
 | 0,j=>j
 | k+1,j=>if p j then j else fN p k (j+1)
theorem xe (p:Nat→Bool):∀ (k j:Nat),j≤fN p k j∧fN p k j≤j+k∧(∀ i,j≤i→i<fN p k j→p i=false)∧(fN p k j<j+k→p (fN p k j)=true)
 | 0,j=>⟨Nat.le_refl _,Nat.le_refl _,fun i h1 h2=>absurd h2 (by simp only[fN];omega),fun h=>absurd h (by simp only[fN];omega)⟩
 | k + 1,j=>by
   simp only[fN];by_cases h:p j=true
   · rw[if_pos h];exact ⟨Nat.le_refl _,by omega,fun i h1 h2=>by omega,fun _=>h⟩
   · rw[if_neg h];obtain ⟨h1,h2,h3,h4⟩:=xe p k (j+1);refine ⟨by omega,by omega,fun i k1 k2=>?_,fun k1=>h4 wO⟩;by_cases e:i=j
     · subst e;simpa using h
     · exact h3 i wO k2
theorem jg {body:aD→aa→Option (Ex×aD×aa)} {n:Nat} (F:Nat→aD) (G:Nat→aa) (N:Nat) (p:Nat→Bool) (X:Nat→Ex×aD×aa)
 (hs:∀ j,j<N→p j=false→∃ f g,body (F j) (G j)=some (.normal,f,g)∧tidy n f g=(F (j+1),G (j+1)))
 (hh:∀ j,j<N→p j=true→body (F j) (G j)=some (X j)∧(X j).1≠.normal) (he:body (F N) (G N)=some (X N)∧(X N).1≠.normal) :
 ∀ (k j fu:Nat),j+k=N→k<fu→iter body n fu (F j) (G j)=some (X (fN p k j))
 | 0,j,0,_,h=>by omega
 | 0,j,fu+1,hj,_=>by
   have:j=N:=by omega
   subst this;unfold iter;rw[he.1];obtain ⟨x,hx⟩:∃ x,x=X j:=⟨_,rfl⟩
   have hn:=he.2;simp only[fN];rw[← hx] at hn ⊢;obtain ⟨e,f,g⟩:=x;cases e<;>first | exact absurd rfl hn | rfl
 | k+1,j,0,_,h=>by omega
 | k + 1,j,fu+1,hj,hf=>by
   unfold iter;cases hp:p j with
   | true =>
     obtain ⟨h1,h2⟩:=hh j wO hp;rw[h1];simp only[fN];rw[if_pos hp];obtain ⟨x,hx⟩:∃ x,x=X j:=⟨_,rfl⟩
     rw[← hx] at h2 ⊢;obtain ⟨e,f,g⟩:=x;cases e<;>first | exact absurd rfl h2 | rfl
   | false =>
     obtain ⟨f,g,h1,h2⟩:=hs j wO hp;rw[h1];dsimp only;rw[h2];simp only[fN];rw[if_neg (by rw[hp];simp)];exact jg F G N p X hs hh he k (j+1) fu wO wO
theorem yX {body:aD→aa→Option (Ex×aD×aa)} {n:Nat} (I:Nat→aD→aa→Prop) (Q:Ex×aD×aa→Prop) (N:Nat)
 (hr:∀ j fr H,I j fr H→(∃ e f g,body fr H=some (e,f,g)∧((e=.normal∧j<N∧I (j+1) (tidy n f g).1 (tidy n f g).2)∨(e≠.normal∧Q (e,f,g))))) :
 ∀ (fu j:Nat) (fr:aD) (H:aa),I j fr H→N-j<fu→∃ x,iter body n fu fr H=some x∧Q x
 | 0,j,fr,H,_,h=>by omega
 | fu+1,j,fr,H,hI,h=>by
   obtain ⟨e,f,g,h1,h2⟩:=hr j fr H hI;unfold iter;rw[h1];rcases h2 with ⟨rfl,hj,h2⟩ | ⟨he,hq⟩
   · dsimp only;exact yX I Q N hr fu (j+1) _ _ h2 wO
   · cases e<;>first | exact absurd rfl he | exact ⟨_,rfl,hq⟩

end
end Go.Eng
end
section
namespace Go.Eng
noncomputable section

def uj (tab:List cH):aN→FuncId→List AV→aa→Option (AV×aa):=fun call f args H =>
 cond (Nat.beq f 1000000) (match H with
  | []=>some (.undef,[])
  | _=>none) (Ce tab call f args H)
theorem DO {P:Program} (tab:List cH) (hT:∀ e ∈ tab,aG P e):ss P (uj tab):=by
 intro call hC f args H v H' h hne;unfold uj at h;cases hb:Nat.beq f 1000000 with
 | true =>
   rw[hb,cond_true] at h;cases H with
   | nil=>exact absurd rfl hne
   | cons l r=>simp at h
 | false =>
   rw[hb,cond_false] at h;exact xI tab hT call hC f args H v H' h hne
abbrev nK:=FuncId→Option (List HV→aa→Tr (HV×aa))
def nK.Ok (tab:nK) (call:aN):Prop:=∀ f g,tab f=some g→∀ args H x,(g args H).run=some x→call (.fn f) (kd args) H=some (x.1.1,x.2)
variable (P:Program) (ora:aN→FuncId→List AV→aa→Option (AV×aa)) (KT:FuncId→Nat→Nat) (fu:Nat) (no:FuncId→Bool) (tab:nK) (n:Nat)
def BS   : Nat→bw
 | 0 => fun tgt args H=>match tgt with
   | .fn g=>match tab g with
     | some c=>c args H
     | none=>.bad
   | _=>.bad
 | k + 1 => fun tgt args H=>match tgt with
   | .fn g=>match tab g with
     | some c=>c args H
     | none=>cond (no g) .bad (match P.funcs[g]? with
       | some fn=>match fn.body with
         | some _=>cond (Nat.ble (kN args) fn.ntmps) (bo P (dk P ora KT fu (n+k)) fu g fn (KT g) (BS k) aS aR args H) .bad
         | none=>.bad
       | none=>.bad)
   | _=>.bad
theorem xw (hno:∀ g,no g=false→∀ c args H,ora c g args H=none) (hm:∀ k,∃ x,dk P ora KT fu k .mode [] []=some x) (ht:∀ k,tab.Ok (dk P ora KT fu (n+k))):∀ k,(BS P ora KT fu no tab n k).Ok (dk P ora KT fu (n+k))
 | 0 => ⟨hm _,fun tgt args H x h=>by
   unfold BS at h;split at h
   · split at h
     · rename_i c hc;exact ht 0 _ _ hc _ _ _ h
     · exact (Tr.ah h).elim
   · exact (Tr.ah h).elim⟩
 | k + 1 => ⟨hm _,fun tgt args H x h=>by
   unfold BS at h;split at h
   · rename_i g;split at h
     · rename_i c hc;exact ht (k+1) _ _ hc _ _ _ h
     · obtain ⟨hn,h⟩:=Tr.kE h;split at h
       · rename_i fn hf;split at h
         · rename_i c hb;obtain ⟨hl,h⟩:=Tr.a6 h;rw[eE] at hl;exact oY hf (by rw[hb];rfl) (hno g hn _ _ _) hl (xw hno hm ht k) (ai _ _) (aj _ _) h
         · exact (Tr.ah h).elim
       · exact (Tr.ah h).elim
   · exact (Tr.ah h).elim⟩
def aK:nK:=fun _=>none
theorem bp (call:aN):aK.Ok call:=fun _ _ h=>by cases h
def nL (t:nK) (f:FuncId) (g:List AV→aa→Tr (AV×aa)):nK:=fun x=>cond (Nat.beq x f) (some fun args H=>(g (kd args) H).bind fun y=>.ok ((y.1,none),y.2)) (t x)
theorem yi {t:nK} {f:FuncId} {g:List AV→aa→Tr (AV×aa)} {call:aN} (h:t.Ok call) (k:∀ args H x,(g args H).run=some x→call (.fn f) args H=some x):(nL t f g).Ok call:=by
 intro f' g' hg args H x hx;unfold nL at hg;cases hb:Nat.beq f' f with
 | true =>
   rw[hb,cond_true,Option.some.injEq] at hg;have:=Nat.eq_of_beq_eq_true hb;subst this;subst hg;obtain ⟨y,h1,h2⟩:=Tr.bind_some hx;have:=k _ _ _ h1;rw[← Tr.ae h2];exact this
 | false =>
   rw[hb,cond_false] at hg;exact h _ _ hg _ _ _ hx

def gT (t:nK) (f:FuncId) (g:List AV→Option (Prop×AV)):nK:=fun x=>cond (Nat.beq x f) (some fun args H=>match g (kd args) with
 | some (p,v)=>.reqP p (.ok ((v,none),H))
 | none=>.bad) (t x)
theorem mz {t:nK} {f:FuncId} {g:List AV→Option (Prop×AV)} {call:aN} (h:t.Ok call) (k:∀ args p v,g args=some (p,v)→p→∀ H,call (.fn f) args H=some (v,H)):(gT t f g).Ok call:=by
 intro f' g' hg args H x hx;unfold gT at hg;cases hb:Nat.beq f' f with
 | true =>
   rw[hb,cond_true,Option.some.injEq] at hg;have:=Nat.eq_of_beq_eq_true hb;subst this;subst hg;dsimp only at hx;split at hx
   · rename_i p v hp;obtain ⟨e1,hx⟩:=Tr.gL hx;rw[k _ p v hp e1 H,← Tr.ae hx]
   · exact (Tr.ah hx).elim
 | false =>
   rw[hb,cond_false] at hg;exact h _ _ hg _ _ _ hx
def rS (t:nK) (f:FuncId) (args0:List AV) (H0:aa) (u:Tr (AV×aa)):nK:=fun x=>cond (Nat.beq x f) (some fun args H=>.reqP (kd args=args0∧H=H0) (u.bind fun y=>.ok ((y.1,none),y.2))) (t x)
theorem dh {t:nK} {f:FuncId} {args0:List AV} {H0:aa} {u:Tr (AV×aa)} {call:aN} (h:t.Ok call) (k:∀ x,u.run=some x→call (.fn f) args0 H0=some x):(rS t f args0 H0 u).Ok call:=by
 intro f' g' hg args H x hx;unfold rS at hg;cases hb:Nat.beq f' f with
 | true =>
   rw[hb,cond_true,Option.some.injEq] at hg;have:=Nat.eq_of_beq_eq_true hb;subst this;subst hg;obtain ⟨⟨e1,e2⟩,hx⟩:=Tr.gL hx;obtain ⟨y,h1,h2⟩:=Tr.bind_some hx;rw[e1,e2,k _ h1,← Tr.ae h2]
 | false =>
   rw[hb,cond_false] at hg;exact h _ _ hg _ _ _ hx

theorem bU (z:Nat→Int):jI z 0=z:=by rw[m5];funext j;simp
end
end Go.Eng
end
section
namespace Go.Eng

theorem cG.name {p:aL} {M:Mu} {H:aa} {w:World} (h:bn p M H w) {k:Nat} (hk0:(aB H 0 k).2=.dead) (hk:k<ao H 0) (hm0:∀ v,M 0 k v=none) (hl0:aM H 0=false) (x:Obj):cG p M H w p (bA M 0 k 0 (w.heap.size,0,0)) H (w.alloc x):=by
 have hle:Mu.le M (bA M 0 k 0 (w.heap.size,0,0)):=kP fun u hu=>by rw[hm0] at hu;cases hu
 have hs:=fH w x;have h':=h.stay hs;have mu:∀ d i v t,bA M 0 k 0 (w.heap.size,0,0) d i v=some t→(d=0∧i=k∧v=0∧t=(w.heap.size,0,0))∨M d i v=some t:=fun d i v t hm=>by
  simp only[bA] at hm;split at hm
  · rename_i e;exact .inl ⟨e.1,e.2.1,e.2.2,(Option.some.inj hm).symm⟩
  · exact .inr hm
 have dead:∀ {d i v B},aB H d i=(v,B)→B≠.dead→¬ (d=0∧i=k):=fun {d i v B} hg hB e=>by
  rw[e.1,e.2] at hg;rw[hg] at hk0;exact hB hk0
 refine { cG.refl h with mu:=hle,rel:=⟨h'.pers,?_,?_,?_⟩,stay:=hs.weaken (fun _ _ _=>trivial),bD:=?_,own:=?_,new:=?_ }
 · intro d i v B hg hB;obtain ⟨b,o,t,k1,k2,k3⟩:=h'.live d i v B hg hB;exact ⟨b,o,t,hle _ _ _ _ k1,k2.mono (aL.le.refl _) (hle.up d) rfl,k3⟩
 · intro d i v B d' i' v' B' b o t o' t' hg hB hg' hB' hm hm';rcases mu _ _ _ _ hm with ⟨e1,e2,_⟩ | hm
   · exact absurd ⟨e1,e2⟩ (dead hg hB)
   · rcases mu _ _ _ _ hm' with ⟨e1,e2,_⟩ | hm'
     · exact absurd ⟨e1,e2⟩ (dead hg' hB')
     · exact h.apart d i v B d' i' v' B' b o t o' t' hg hB hg' hB' hm hm'
 · intro d i v t hm;rcases mu _ _ _ _ hm with ⟨e1,e2,e3,_⟩ | hm
   · rw[e1,e2,e3];exact ⟨hk,fun _=>Nat.zero_le _⟩
   · exact h.dom d i v t hm
 · intro b hb hkk d i v B hg hB hl o t hm;rcases mu _ _ _ _ hm with ⟨e1,e2,_⟩ | hm
   · exact dead hg hB ⟨e1,e2⟩
   · exact hkk d i v B hg hB hl o t hm
 · intro d i v b o t hm;rcases mu _ _ _ _ hm with ⟨_,_,_,e4⟩ | hm
   · simp only[Prod.mk.injEq] at e4;exact .inl wO
   · exact .inr ⟨_,_,_,_,_,Nat.le_refl _,hm⟩
 · intro d i v t hm;rcases mu _ _ _ _ hm with ⟨e1,_,_,_⟩ | hm
   · exact .inr (.inr (by rw[e1];exact hl0))
   · exact .inl hm

theorem tw {p:aL} {M:Mu} {H:aa} {w:World} (h:bn p M H w) {r:Nat} {m:Option Nat} {s c:Nat} {seen:Array Nat} (hr:w.heap[r]?=some (.mapIter m s seen c)) {d i v:Nat} {B:ak} (hg:aB H d i=(v,B)) (hB:B≠.dead) (o t:Nat):M d i v≠some (r,o,t):=by
 intro hm;obtain ⟨b,o',t',k1,k2,_⟩:=h.live d i v B hg hB;rw[hm] at k1;simp only[nP] at k1;obtain ⟨rfl,_,_⟩:=k1;cases B with
 | dead=>exact hB rfl
 | row q=>obtain ⟨_,_,e,_⟩:=k2;rw[hr] at e;simp at e
 | map es=>obtain ⟨_,_,e,_⟩:=k2;rw[hr] at e;simp at e
 | fmap kq f g c=>obtain ⟨_,_,_,_,e,_⟩:=k2;rw[hr] at e;simp at e
 | loop l=>obtain ⟨_,e,_⟩:=k2;rw[hr] at e;simp at e

theorem cG.N3 {p p':aL} {M M':Mu} {H H':aa} {w w':World} (h:cG p M H w p' M' H' w') {r:Nat} {m:Option Nat} {s c:Nat} {seen:Array Nat} (hr:w'.heap[r]?=some (.mapIter m s seen c)) (hn:w.heap.size≤r) (x:Obj) :
 cG p M H w p' M' H' (Go.ChangeMaps.setBlock w' r x):=by
 have blk:∀ b,b≠r→(Go.ChangeMaps.setBlock w' r x).heap[b]?=w'.heap[b]?:=fun b hb=>by simp[Go.ChangeMaps.setBlock,Array.getElem?_setIfInBounds_ne (Ne.symm hb)]
 refine { h with rel:=⟨?_,?_,h.rel.apart,h.rel.dom⟩,stay:=⟨h.stay.os,h.stay.tape,h.stay.output,by simp[Go.ChangeMaps.setBlock];exact h.stay.size,fun b hb hk=>?_⟩ }
 · intro b o v hp
   have hc:=h.rel.pers b o v hp
   have hbr:b≠r:=by
    rintro rfl;simp[World.cell?,hr] at hc
   rw[← hc]
   exact World.cell?_of_block (w:=w') (blk b hbr)
 · intro d i v B hg hB
   obtain ⟨b,o,t,k1,k2,k3⟩:=h.rel.live d i v B hg hB
   have hbr:b≠r:=by
    rintro rfl;exact tw h.rel hr hg hB o t k1
   exact ⟨b,o,t,k1,k2.mono (aL.le.refl _) (Mu.le.refl _) (blk b hbr),k3⟩
 · rw[blk b wO];exact h.stay.block b hb hk

theorem cG.drew {p p':aL} {M M':Mu} {H H':aa} {w w':World} (h:cG p M H w p' M' H' w'):cG p M H w p' M' H' w'.drew:=by
 have hs:dC (fun _=>True) w' w'.drew:=⟨rfl,rfl,rfl,Nat.le_refl _,fun _ _ _=>rfl⟩
 exact { h with rel:=h.rel.stay hs,stay:=h.stay.trans hs (fun _ _ _=>trivial) }

end Go.Eng
end
section
namespace Go.Eng
open Go.ChangeMaps (setBlock)

theorem xF {P:Program} {F:Fence} (hFW:dL F) {o:Oper} (hd:∀ c,o.op≠.defer c) {a:Act} {w w':World} {cv:Value} (h:(execOp a.eval o).run P w=.ok (.value cv) w') {n:Nat} {next:Act→World→Prop} {Q:Exit→Act→World→Prop} (hn:next (a.put o.dst cv) w'):o.wpIn F n P a w next Q:=by
 refine ⟨kA hFW P o w a,?_⟩;rw[Oper.semAt_eq _ _ _ hd,h];exact hn

theorem Marks.N3 {n0:Nat} {M:Mu} {H:aa} {w:World} {ds:List Deferred} (h:Marks n0 M H w ds) {r:Nat} {m:Option Nat} {s c:Nat} {seen:Array Nat} (hr:w.heap[r]?=some (.mapIter m s seen c)) (x:Obj):Marks n0 M H (setBlock w r x) ds:=by
 obtain ⟨rs,h1,h2,h0,h3⟩:=h;refine ⟨rs,h1,h2,by simpa[setBlock] using h0,fun q hq=>?_⟩;obtain ⟨k1,k2,k3⟩:=h3 q hq;have hne:q≠r:=by rintro rfl;rw[hr] at k1;simp at k1
 exact ⟨by simp[setBlock,Array.getElem?_setIfInBounds_ne (Ne.symm hne)];exact k1,k2,k3⟩
theorem Marks.drew {n0:Nat} {M:Mu} {H:aa} {w:World} {ds:List Deferred} (h:Marks n0 M H w ds):Marks n0 M H w.drew ds:=h

structure bY where
 out:Nat
 BQ:Nat
 id2:Nat
 nxt:Nat
 ops1:Array Oper
 ops2:Array Oper
 no:Oper
 eo:Oper
 t1:List Oper
 t2:List Oper
 it:Tmp
 nx:Tmp
 mo:Tmp
 en:Tmp
 rest:Code
 km:Nat
def bY.code (L:bY):Code:=.block L.out (.loop (.seq (.region L.BQ L.ops1 false) (.seq (.cond (.tmp L.mo) .skip (.exit L.out)) (.block L.nxt (.seq (.region L.id2 L.ops2 false) L.rest)))))
structure bY.Ok (L:bY):Prop where
 l1:L.ops1.toList=L.no::L.t1
 o1:L.no.op=.next (.tmp L.it) false
 d1:L.no.dst=some L.nx
 g1:L.no.guard=none
 l2:L.ops2.toList=L.eo::L.t2
 o2:L.eo.op=.entry (.tmp L.it)
 d2:L.eo.dst=some L.en
 g2:L.eo.guard=none

def ot (k:Nat) (v:AV):Bool :=
 match v with
 | .ptr 0 i 0 0=>Nat.beq i k
 | _=>false
theorem qy {k:Nat} {v:AV} (h:ot k v=true):v=.ptr 0 k 0 0:=by
 unfold ot at h;split at h
 · rw[Nat.eq_of_beq_eq_true h]
 · cases h
def PT (b:Bool) (v:AV):Bool :=
 match v with
 | .bool c=>c == b
 | _=>false
theorem GZ {b:Bool} {v:AV} (h:PT b v=true):v=.bool b:=by
 unfold PT at h;split at h
 · rw[beq_iff_eq] at h;rw[h]
 · cases h

noncomputable def bY.round (L:bY) (cx:Cx) (k n:Nat) (kv:AV×AV) (fr:aD) (H:aa):Option (aD×aa) :=
 match lS cx.P cx.nt cx.call L.ops1 L.t1 (iZ cx.nt fr (some L.nx) (.tup [.bool true,kv.1,kv.2])) H with
 | some (frA,HA)=>if PT true (bO frA L.mo) && ot k (bO frA L.it) then
    match lS cx.P cx.nt cx.call L.ops2 L.t2 (iZ cx.nt frA (some L.en) (.tup [kv.1,kv.2])) HA with
    | some (frB,HB)=>match pe cx L.rest frB HB with
      | some (.normal,frC,HC)=>if ot k (bO (bX frC L.km) L.it) then some (bX frC L.km,mA n (bX frC L.km) HC) else none
      | _=>none
    | none=>none
   else none
 | none=>none
noncomputable def bY.last (L:bY) (cx:Cx) (fr:aD) (H:aa):Option (aD×aa) :=
 match lS cx.P cx.nt cx.call L.ops1 L.t1 (iZ cx.nt fr (some L.nx) (.tup [.bool false])) H with
 | some (frE,HE)=>if PT false (bO frE L.mo) then some (frE,HE) else none
 | none=>none

def uE (r:Nat) (w:World):Array Nat :=
 match w.heap[r]? with
 | some (.mapIter _ _ s _)=>s
 | _=>#[]

theorem EU {ces:Array MapEntry} {seen:Array Nat} {e:MapEntry} (he:e ∈ (leftOf ces seen).toList):(leftOf ces (seen.push e.born)).size<(leftOf ces seen).size:=by
 unfold leftOf at he ⊢;rw[Array.toList_filter] at he;have sz:∀ f:MapEntry→Bool,(ces.filter f).size=(ces.toList.filter f).length:=fun f=>by rw[← Array.toList_filter,Array.length_toList]
 rw[sz,sz];have mono:∀ x:MapEntry,seen.contains x.born=true→(seen.push e.born).contains x.born=true:=fun x h=>by
  rw[Array.contains_push,h];simp
 have self:(seen.push e.born).contains e.born=true:=by rw[Array.contains_push];simp
 have hle:∀ (l:List MapEntry),(l.filter fun x=>!(seen.push e.born).contains x.born).length≤(l.filter fun x=>!seen.contains x.born).length:=by
  intro l;induction l with
  | nil=>exact Nat.le_refl _
  | cons x l ih =>
    rw[List.filter_cons,List.filter_cons];cases h1:seen.contains x.born with
    | true =>
      rw[mono x h1];simp only[Bool.not_true,Bool.false_eq_true,if_false];exact ih
    | false =>
      cases h2:(seen.push e.born).contains x.born with
      | true=>simp only[Bool.not_true,Bool.false_eq_true,if_false,Bool.not_false,if_true,List.length_cons];exact Nat.le_succ_of_le ih
      | false=>simp only[Bool.not_false,if_true,List.length_cons];exact Nat.succ_le_succ ih
 have hlt:∀ (l:List MapEntry),e ∈ (l.filter fun x=>!seen.contains x.born)→(l.filter fun x=>!(seen.push e.born).contains x.born).length<(l.filter fun x=>!seen.contains x.born).length:=by
  intro l;induction l with
  | nil=>intro h;cases h
  | cons x l ih =>
    intro h;rw[List.filter_cons] at h;rw[List.filter_cons,List.filter_cons];cases h1:seen.contains x.born with
    | true =>
      rw[h1] at h;simp only[Bool.not_true,Bool.false_eq_true,if_false] at h;rw[mono x h1];simp only[Bool.not_true,Bool.false_eq_true,if_false];exact ih h
    | false =>
      rw[h1] at h;simp only[Bool.not_false,if_true] at h;cases h2:(seen.push e.born).contains x.born with
      | true =>
        simp only[Bool.not_true,Bool.false_eq_true,if_false,Bool.not_false,if_true,List.length_cons];exact Nat.lt_succ_of_le (hle l)
      | false =>
        simp only[Bool.not_false,if_true,List.length_cons];rcases List.mem_cons.1 h with h | h
        · rw[← h,self] at h2;cases h2
        · exact Nat.succ_lt_succ (ih h)
 exact hlt _ he

end Go.Eng
end
section
namespace Go.Eng

def dv:aa→aa
 | []=>[]
 | l::r=>l::bK r
theorem gl (H:aa) (d i:Nat):aB (dv H) d i=aB H d i:=by
 cases H with
 | nil=>rfl
 | cons l r=>cases d with
   | zero=>rfl
   | succ d=>exact iV r d i
theorem fp (H:aa) (d:Nat):ao (dv H) d=ao H d:=by
 cases H with
 | nil=>rfl
 | cons l r=>cases d with
   | zero=>rfl
   | succ d=>exact fw r d
theorem bn.same {p:aL} {M:Mu} {H K:aa} {w:World} (h:bn p M H w) (hg:∀ d i,aB K d i=aB H d i) (hn:∀ d,ao K d=ao H d):bn p M K w :=
 h.under ⟨fun d i=>.inl (hg d i),hn⟩

theorem cG.unlock {p p':aL} {M M':Mu} {l l':bB} {r:aa} {w w':World} (h:bn p M (l::r) w) (h0:l.lock=false) (hE:cG p M (dv (l::r)) w p' M' (l'::bK r) w'):cG p M (l::r) w p' M' (l'::r) w':=by
 have get:∀ d i,aB (l'::r) d i=aB (l'::bK r) d i:=fun d i=>by
  cases d with
  | zero=>rfl
  | succ d=>exact (iV r d i).symm
 have next:∀ d,ao (l'::r) d=ao (l'::bK r) d:=fun d=>by
  cases d with
  | zero=>rfl
  | succ d=>exact (fw r d).symm
 have hl':l'.lock=false:=by have:=hE.lock 0;exact this.trans h0
 refine ⟨hE.pst,hE.mu,hE.rel.same get next,hE.stay.weaken (fun b hb hk d i v B hg hB hl o t=>?_),fun b hb hk d i v B hg hB hl o t hm=>?_,hE.fresh,hE.own,fun d=>?_,fun d i hd hl=>?_,fun d hd hl=>?_,?_,fun d=>?_,fun d i v t hm=>?_⟩
 · rw[gl] at hg;cases d with
   | zero=>exact hk 0 i v B hg hB h0 o t
   | succ d =>
     have:aM (dv (l::r)) (d+1)=true:=cu r d;rw[this] at hl;cases hl
 · cases d with
   | zero =>
     have hkb:Go.Eng.bD M (dv (l::r)) b:=fun d i v B hg hB hl o t=>by
      rw[gl] at hg;cases d with
      | zero=>exact hk 0 i v B hg hB h0 o t
      | succ d =>
        have:aM (dv (l::r)) (d+1)=true:=cu r d;rw[this] at hl;cases hl
     exact hE.bD b hb hkb 0 i v B hg hB hl' o t hm
   | succ d =>
     have hg':aB (l::r) (d+1) i=(v,B):=hg;obtain ⟨b2,o2,t2,k1,_,_⟩:=h.live (d+1) i v B hg' hB;have k2:=hE.mu _ _ _ _ k1;rw[hm] at k2;simp only[nP] at k2;exact hk (d+1) i v B hg' hB hl o2 t2 (by rw[k1,← k2.1])
 · cases d with
   | zero=>exact hl'.trans h0.symm
   | succ d=>rfl
 · cases d with
   | zero=>exact absurd rfl hd
   | succ d=>rfl
 · cases d with
   | zero=>exact absurd rfl hd
   | succ d=>rfl
 · simp
 · rw[next];have:=hE.grow d;rw[fp] at this;exact this
 · rcases hE.new d i v t hm with h1 | h1 | h1
   · exact .inl h1
   · rw[fp] at h1;exact .inr (.inl h1)
   · cases d with
     | zero=>exact .inr (.inr h0)
     | succ d =>
       have:aM (dv (l::r)) (d+1)=true:=cu r d;rw[this] at h1;cases h1

theorem mY {P:Program} {F:Fence} (hFW:dL F) (hN:dK P) {call:aN} (hC:cq P call) {nt:Nat} {ops:Array Oper} {n:Nat} {Q:Exit→Act→World→Prop} {l2:List Oper}:∀ (l:List Oper) (fr:aD) (H:aa) (fr':aD) (H':aa),
 fj P nt call ops l fr H=some (fr',H')→∀ (p:aL) (M:Mu) (a:Act) (w:World),bZ p M nt fr a→bn p M H w→H≠[] →
 (∀ a' w',At p M H w nt a.defers fr' H' a' w'→wpListIn F n P ops Q l2 a' w')→wpListIn F n P ops Q (l++l2) a w
 | [],fr,H,fr',H',h,p,M,a,w,hF,hH,hne,hQ=>by
   simp only[fj,Option.some.injEq,Prod.mk.injEq] at h;obtain ⟨rfl,rfl⟩:=h;exact hQ a w ⟨p,M,cG.refl hH,hF,rfl⟩
 | o :: l,fr,H,fr',H',h,p,M,a,w,hF,hH,hne,hQ=>by
   simp only[fj] at h;have hw:=uV hF ops o;rw[List.cons_append];unfold wpListIn;cases hwv:ma ops fr o with
   | lost=>rw[hwv] at h;simp at h
   | skip =>
     rw[hwv] at h;simp only at h;rw[if_neg (by rw[hw.2 hwv];simp)];exact ⟨kA hFW P o w a,mY hFW hN hC l _ H fr' H' h p M _ w (hF.put o.dst qQ) hH hne (fun a' w' ha=>hQ a' w' (by rw[put_defers] at ha;exact ha))⟩
   | run =>
     rw[hwv] at h;simp only at h;rw[if_pos (hw.1 hwv)];cases he:evalOp P call fr H (aY H) o with
     | none=>rw[he] at h;simp at h
     | some vd =>
       obtain ⟨v,δ⟩:=vd;rw[he] at h;simp only at h;refine DL hFW hN hC he hF hH hne (fun cv w' ⟨p',M',hE,hv⟩=>?_);refine mY hFW hN hC l _ _ fr' H' h p' M' _ w' ((hF.mono hE.pst hE.mu).put o.dst hv) hE.rel (hE.ne hne) (fun a' w'' ⟨p'',M'',hE',hF',hd⟩=>?_);exact hQ a' w'' ⟨p'',M'',hE.trans hE',hF',by rw[put_defers] at hd;exact hd⟩

end Go.Eng
end
section
namespace Go.Eng

end Go.Eng
end
section
namespace Go.Eng

structure eO where
 id0:Nat
 ops0:Array Oper
 pre:List Oper
 ro:Oper
 m:Tmp
 ty:TypeId
def eO.code (S:eO) (L:bY):Code:=.seq (.region S.id0 S.ops0 false) L.code
structure eO.Ok (P:Program) (S:eO) (L:bY):Prop where
 l0:S.ops0.toList=S.pre++[S.ro]
 o0:S.ro.op=.range S.ty (.tmp S.m)
 d0:S.ro.dst=some L.it
 g0:S.ro.guard=none
 t0:∃ k e,P.underlying S.ty=some (.map k e)

noncomputable def gn (L:bY) (cx:Cx) (k n:Nat) (R:aa) (kv:AV×AV) (s:aD×bB):Option (aD×bB) :=
 match L.round cx k n kv s.1 (s.2::R) with
 | some (fr,l::_)=>some (fr,l)
 | _=>none
theorem ry {L:bY} {cx:Cx} {k n:Nat} {R:aa} {kv:AV×AV} {s t:aD×bB} (h:gn L cx k n R kv s=some t):∃ R1,L.round cx k n kv s.1 (s.2::R)=some (t.1,t.2::R1):=by
 unfold gn at h;split at h
 · rename_i fr l R1 e;simp only[Option.some.injEq] at h;subst h;exact ⟨R1,e⟩
 · cases h

noncomputable def gf (L:bY) (cx:Cx) (k n:Nat) (R:aa):List (AV×AV)→aD×bB→Option (aD×bB)
 | [],s=>some s
 | kv::r,s=>match gn L cx k n R kv s with
   | some t=>gf L cx k n R r t
   | none=>none
end Go.Eng
end
section
namespace Go.Eng

end Go.Eng
end
section
namespace Go.Eng

def assemble:List Code→Code→Code→Code
 | [],C,suf=>.seq C suf
 | c::r,C,suf=>.seq c (assemble r C suf)
theorem Gl {cx:Cx} {F:Fence} {x y:Code} {fr fr1 fr':aD} {H H1 H':aa} {e:Ex} (hx:dU cx.P F cx.ro cx.nt x fr H .normal fr1 H1) (hy:dU cx.P F cx.ro cx.nt y fr1 H1 e fr' H'):dU cx.P F cx.ro cx.nt (.seq x y) fr H e fr' H' :=
 fun n0 p M a w Q hF hH hne hR hM hQ=>wpIn_seq (hx n0 p M a w _ hF hH hne hR hM (fun a1 w1 ⟨p1,M1,k1,k2,k3⟩=>hy n0 p1 M1 a1 w1 Q k2 k1.rel (k1.ne hne) (hR.mono k1.mu) k3 (fun a2 w2 h2=>hQ a2 w2 (Ix.trans k1 h2))))
theorem w6 {cx:Cx} {F:Fence} {x y:Code} {fr fr':aD} {H H':aa} {e:Ex} (he:e≠.normal) (hx:dU cx.P F cx.ro cx.nt x fr H e fr' H'):dU cx.P F cx.ro cx.nt (.seq x y) fr H e fr' H' :=
 fun n0 p M a w Q hF hH hne hR hM hQ=>wpIn_seq (hx n0 p M a w _ hF hH hne hR hM (fun a1 w1 hn=>by
  have:=hQ a1 w1 hn;cases e<;>first | exact absurd rfl he | exact this))

end Go.Eng
end
section
namespace Go.Eng

theorem GL {P:Program} {f:FuncId} {fn:Func} {c:Code} (hf:P.funcs[f]?=some fn) (hb:fn.body=some c) {args:List AV} (hle:args.length≤fn.ntmps) {H:aa} {e:Ex} {fr:aD} {l:bB} {H':aa} (he:e=.normal∨e=.ret)
 {j ver off sz len:Nat} {cap:Option Nat} {q:Row} (hv:gM P fr (l::H') fn.results.toList=some [.slc 0 j ver off sz len cap]) (hq:c6 (l::H') 0 j ver=some q) (hl0:l.lock=false) (hl1:aM H' 0=false) (hne:H'≠[])
 (hC:dU P Fence.wide none fn.ntmps c (ev 0 args) (⟨false,[]⟩::H) e fr (l::H')) {p:aL} {M:Mu} {w:World} {cargs:Array Value} (hH:bn p M H w) (hA:eW p M args cargs) :
 CallsIn Fence.wide 0 P f cargs w (ff p M H w (.slc 0 (ao H' 0) 0 off sz len cap) (bC H' 0 (.row (jM 1 q)))):=by
 refine callsIn_of_wp_marks hf hb trivial (hC w.heap.size p (dw M) _ w _ (sA hA hle) hH.down (by simp) rfl (Marks.nil _ _ _) (fun a' w' ⟨p',M',k1,k2,k3⟩=>?_)) rfl
 have main:LeavesInM Fence.wide 0 P fn a'.tmps (ff p M H w (.slc 0 (ao H' 0) 0 off sz len cap) (bC H' 0 (.row (jM 1 q)))) a'.defers .returning w':=by
  obtain ⟨rs,h1,h2,_,h3⟩:=k3;rw[h1];refine lF (p:=p) (M:=dw M) (H:=⟨false,[]⟩::H) (w:=w) (p':=p') (M':=M') (H':=l::H') (fun w2 hE=>?_) rs w' h2 (fun r hr=>⟨(h3 r hr).1,(h3 r hr).2.2⟩) k1;obtain ⟨cv,r1,r2⟩:=mV k2 hE.rel hv;have r2':an p' M' (.slc 0 j ver off sz len cap) cv:=r2;cases r2' with
  | slc hm h5 h6 h7 h8 =>
    rename_i b o t x cc;have mv:=hE.rel.move (d:=1) hq hm hl0 hl1 (by
     cases H' with
     | nil=>exact absurd rfl hne
     | cons y r=>simp) wO
    have hE2:=hE.trans mv;have hk:bC (dS (l::H') 0 j) 1 (.row (jM 1 q))=(⟨l.lock,(bT l.bs j ((aB (l::H') 0 j).1,.dead))⟩:bB)::bC H' 0 (.row (jM 1 q)):=rfl;rw[hk] at hE2;refine ⟨_,r1,_,rfl,⟨fun d i hl=>hE2.same (d+1) i wO hl,fun d hl=>hE2.next (d+1) wO hl⟩,_,_,hE2.pop,?_⟩;refine .slc (b:=b) (o:=o) (t:=t) ?_ h5 h6 h7 h8;show bA M' 1 (ao (l::H') 1) 0 (b,o,t) 1 (ao H' 0) 0=some (b,o,t);unfold bA;exact if_pos ⟨rfl,rfl,rfl⟩
 rcases he with rfl | rfl
 · exact main
 · exact main

noncomputable def nS (P:Program) (KT:FuncId→Nat→Nat) (fu:Nat) (f:FuncId) (call:aN) (args:List AV) (H:aa):Option (AV×aa) :=
 match P.funcs[f]? with
 | none=>none
 | some fn => match fn.body with
   | none=>none
   | some c=>if Nat.ble args.length fn.ntmps then
     match pe ⟨P,call,fu,f,fn.ntmps,KT f,none⟩ c (ev 0 args) (⟨false,[]⟩::H) with
     | some (e,fr,l::l1::H')=>(match e with
       | .normal | .ret=>match gM P fr (l::l1::H') fn.results.toList with
         | some [.slc 0 j ver off sz len cap]=>match c6 (l::l1::H') 0 j ver with
           | some q=>if l.lock || l1.lock then none else some (.slc 0 l1.bs.length 0 off sz len cap,bC (l1::H') 0 (.row (jM 1 q)))
           | none=>none
         | _=>none
       | _=>none)
     | _=>none
     else none
theorem Hl {P:Program} (hN:dK P) (hD:gx P) {f:FuncId} (KT:FuncId→Nat→Nat) (fu:Nat) {call:aN} (hC:cq P call) {args:List AV} {H:aa} {v:AV} {H':aa} (h:nS P KT fu f call args H=some (v,H'))
 {p:aL} {M:Mu} {w:World} {cargs:Array Value} (hH:bn p M H w) (hA:eW p M args cargs):(∃ fn,P.funcs[f]?=some fn∧fn.body.isNone=false)∧CallsIn Fence.wide 0 P f cargs w (ff p M H w v H'):=by
 unfold nS at h
 split at h
 · simp at h
 rename_i fn hf
 split at h
 · simp at h
 rename_i c hb
 split at h
 case isFalse=>simp at h
 rename_i hle
 split at h
 case h_2=>simp at h
 rename_i e fr l l1 H1 he
 rw[eR] at he
 have hcode:=c5 (cx:=⟨P,call,fu,f,fn.ntmps,KT f,none⟩) dL.wide hN hC (more hN hD hC _ _ rfl rfl dL.wide) _ _ _ _ _ _ he
 have fin:(e=.normal∨e=.ret)→(match gM P fr (l::l1::H1) fn.results.toList with
  | some [.slc 0 j ver off sz len cap]=>match c6 (l::l1::H1) 0 j ver with
    | some q=>if l.lock || l1.lock then none else some (AV.slc 0 l1.bs.length 0 off sz len cap,bC (l1::H1) 0 (.row (jM 1 q)))
    | none=>none
  | _=>none)=some (v,H')→(∃ fn,P.funcs[f]?=some fn∧fn.body.isNone=false)∧CallsIn Fence.wide 0 P f cargs w (ff p M H w v H'):=fun he h=>by
  split at h
  case h_2=>simp at h
  rename_i j ver off sz len cap hv
  split at h
  case h_2=>simp at h
  rename_i q hq
  split at h
  case isTrue=>simp at h
  rename_i hlk
  simp only[Bool.or_eq_true,not_or,Bool.not_eq_true] at hlk
  simp only[nP] at h
  obtain ⟨rfl,rfl⟩:=h
  exact ⟨⟨fn,hf,by rw[hb];rfl⟩,GL hf hb (by simpa using hle) he hv hq hlk.1 hlk.2 (by simp) hcode hH hA⟩
 split at h
 · exact fin (.inl rfl) h
 · exact fin (.inr rfl) h
 · simp at h

end Go.Eng
end
section
namespace Go.Eng

noncomputable def Tj (P:Program) (KT:FuncId→Nat→Nat) (fu:Nat) (f:FuncId) (call:aN) (args:List AV) (H:aa):Option (AV×aa) :=
 match P.funcs[f]? with
 | none=>none
 | some fn => match fn.body with
   | none=>none
   | some c=>if Nat.ble args.length fn.ntmps then
     match pe ⟨P,call,fu,f,fn.ntmps,KT f,none⟩ c (ev 0 args) (⟨false,[]⟩::H) with
     | some (e,fr,l::l1::H')=>(match e with
       | .normal | .ret=>match gM P fr (l::l1::H') fn.results.toList with
         | some [v0,.slc 0 j ver off sz len cap]=>match c6 (l::l1::H') 0 j ver with
           | some q=>if l.lock || l1.lock then none else some (dI (bT l.bs j ((aB (l::l1::H') 0 j).1,.dead)) 5 (.tup [v0,.slc 1 l1.bs.length 0 off sz len cap]),bC (l1::H') 0 (.row (jM 1 q)))
           | none=>none
         | _=>none
       | _=>none)
     | _=>none
     else none
noncomputable def oM (P:Program) (KT:FuncId→Nat→Nat) (fu:Nat) (f:FuncId) (call:aN) (args:List AV) (H:aa):Option (AV×aa) :=
 match P.funcs[f]? with
 | none=>none
 | some fn=>match fn.body with
   | none=>none
   | some c=>if Nat.ble args.length fn.ntmps then
     match exec ⟨P,call,fu,f,fn.ntmps,KT f,none⟩ c (ev 0 args) (⟨false,[]⟩::H) with
     | some (e,fr,l::H')=>(match e with
       | .normal | .ret=>match gM P fr (l::H') fn.results.toList with
         | some vs=>some (dI l.bs 5 (one vs),H')
         | none=>none
       | _=>none)
     | _=>none
     else none
theorem pQ {P:Program} (hN:dK P) (hD:gx P) {f:FuncId} (KT:FuncId→Nat→Nat) (fu:Nat) {call:aN} (hC:cq P call) {args:List AV} {H:aa} {v:AV} {H':aa} (h:oM P KT fu f call args H=some (v,H'))
 {p:aL} {M:Mu} {w:World} {cargs:Array Value} (hH:bn p M H w) (hA:eW p M args cargs):(∃ fn,P.funcs[f]?=some fn∧fn.body.isNone=false)∧CallsIn Fence.wide 0 P f cargs w (ff p M H w v H'):=by
 unfold oM at h
 split at h
 · simp at h
 rename_i fn hf
 split at h
 · simp at h
 rename_i c hb
 split at h
 case isFalse=>simp at h
 rename_i hle
 split at h
 case h_2=>simp at h
 rename_i e fr l H1 he
 have hcode:=c5 (cx:=⟨P,call,fu,f,fn.ntmps,KT f,none⟩) dL.wide hN hC (more hN hD hC _ _ rfl rfl dL.wide) _ _ _ _ _ _ he
 have fin:(e=.normal∨e=.ret)→(match gM P fr (l::H1) fn.results.toList with
  | some vs=>some (dI l.bs 5 (one vs),H1)
  | none=>none)=some (v,H')→(∃ fn,P.funcs[f]?=some fn∧fn.body.isNone=false)∧CallsIn Fence.wide 0 P f cargs w (ff p M H w v H'):=fun he h=>by
  split at h
  case h_2=>simp at h
  rename_i vs hv
  simp only[nP] at h
  obtain ⟨rfl,rfl⟩:=h
  exact ⟨⟨fn,hf,by rw[hb];rfl⟩,s7 hf hb (by simpa using hle) he hv hcode hH hA⟩
 split at h
 · exact fin (.inl rfl) h
 · exact fin (.inr rfl) h
 · simp at h
end Go.Eng
end
