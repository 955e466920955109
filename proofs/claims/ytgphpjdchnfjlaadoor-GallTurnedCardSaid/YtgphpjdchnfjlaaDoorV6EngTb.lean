/- The engine as a tree: frames with hints, rows, loads, stores, addresses. -/
import Derived.Test.YtgphpjdchnfjlaaDoorV6EngTa
set_option linter.unusedVariables false
set_option linter.unusedSimpArgs false
namespace Go.Eng
noncomputable section

abbrev HV:=AV×Option Nat
abbrev aO:=List (Nat×HV)
def strip (f:aO):aD:=List.rec (motive:=fun _=>aD) [] (fun p _ ih=>(p.1,p.2.1)::ih) f
theorem cX (x:Nat) (v:HV) (r:aO):strip ((x,v)::r)=(x,v.1)::strip r:=rfl
def l7 (f:aO) (y:Nat):HV:=List.rec (motive:=fun _=>HV) (AV.undef,none) (fun p _ ih=>Bool.rec ih p.2 (Nat.beq p.1 y)) f
theorem fm:∀ (f:aO) (y:Nat),(l7 f y).1=bO (strip f) y
 | [],y=>rfl
 | (x,v)::r,y=>by
   have e:l7 ((x,v)::r) y=Bool.rec (l7 r y) v (Nat.beq x y):=rfl;rw[e,cX,bO];cases Nat.beq x y with
   | true=>rfl
   | false=>exact fm r y
def yM (f:aO) (y:Nat) (u:HV):aO:=List.rec (motive:=fun _=>aO) [(y,u)] (fun p r ih=>Bool.rec (motive:=fun _=>aO) (p::ih) (Bool.rec (motive:=fun _=>aO) ((y,u)::p::r) ((y,u)::r) (Nat.beq p.1 y)) (Nat.ble y p.1)) f
theorem yN:∀ (f:aO) (y:Nat) (u:HV),strip (yM f y u)=vk (strip f) y u.1
 | [],y,u=>rfl
 | (x,v)::r,y,u=>by
   have e:yM ((x,v)::r) y u=Bool.rec (motive:=fun _=>aO) ((x,v)::yM r y u) (Bool.rec (motive:=fun _=>aO) ((y,u)::(x,v)::r) ((y,u)::r) (Nat.beq x y)) (Nat.ble y x):=rfl;rw[e,cX,vk,← yN r y u];cases Nat.ble y x with
   | false=>rfl
   | true=>cases Nat.beq x y<;>rfl
def gF (f:aO) (m:Nat):aO:=List.rec (motive:=fun _=>aO) [] (fun p _ ih=>Bool.rec (motive:=fun _=>aO) (p::ih) ih (Nat.beq (Nat.land (Nat.shiftRight m p.1) 1) 1)) f
theorem fa:∀ (f:aO) (m:Nat),strip (gF f m)=bX (strip f) m
 | [],m=>rfl
 | (x,v)::r,m=>by
   have e:gF ((x,v)::r) m=Bool.rec (motive:=fun _=>aO) ((x,v)::gF r m) (gF r m) (Nat.beq (Nat.land (Nat.shiftRight m x) 1) 1):=rfl;have e2:bX ((x,v.1)::strip r) m=Bool.rec (motive:=fun _=>aD) ((x,v.1)::bX (strip r) m) (bX (strip r) m) (Nat.beq (Nat.land (Nat.shiftRight m x) 1) 1):=rfl;rw[e,cX,e2,← fa r m];cases Nat.beq (Nat.land (Nat.shiftRight m x) 1) 1<;>rfl
def Te (v:Value):Option Nat :=
 match v with
 | .int _ _=>some 1
 | .bool _=>some 1
 | _=>none
def cA (fr:aO) (x:Operand):HV:=Operand.rec (motive:=fun _=>HV) (fun t=>l7 fr t) (fun v=>(ll v,Te v)) (fun _=>(.undef,none)) (fun f=>(.fn (.func f) [] [],none)) x
theorem bf (fr:aO) (x:Operand):(cA fr x).1=b9 (strip fr) x:=by
 cases x with
 | tmp t=>exact fm fr t
 | _=>rfl
def zJ (fr:aO) (l:List Operand):List AV:=rJ (fun x=>(cA fr x).1) l
theorem uh (fr:aO):∀ l,zJ fr l=lM (strip fr) l
 | []=>rfl
 | x::l=>by
   have e:zJ fr (x::l)=(cA fr x).1::zJ fr l:=rfl;rw[e,uh fr l,bf];rfl
def rv (nt:Nat) (fr:aO) (dst:Option Tmp) (v:HV):aO:=Option.rec (motive:=fun _=>aO) fr (fun d=>Bool.rec (motive:=fun _=>aO) fr (yM fr d v) (Nat.ble (Nat.succ d) nt)) dst
theorem mU (nt:Nat) (fr:aO) (dst:Option Tmp) (v:HV):strip (rv nt fr dst v)=iZ nt (strip fr) dst v.1:=by
 rw[← HD];cases dst with
 | none=>rfl
 | some d =>
   have e:rv nt fr (some d) v=Bool.rec (motive:=fun _=>aO) fr (yM fr d v) (Nat.ble (Nat.succ d) nt):=rfl;have e2:Hz nt (strip fr) (some d) v.1=Bool.rec (motive:=fun _=>aD) (strip fr) (vZ (strip fr) d v.1) (Nat.ble (Nat.succ d) nt):=rfl;rw[e,e2,yy,← yN];cases Nat.ble (Nat.succ d) nt<;>rfl

def re:List dp→Nat→Option AV
 | [],_=>none
 | .one v::r,j=>match j with
   | 0=>some v
   | j+1=>re r j
 | .arr k z n::r,j=>cond (Nat.blt j n) (some (.int k (z j))) (re r (Nat.sub j n))
theorem CP {a b:Nat} (h:Nat.blt a b=true):a<b:=by rwa [Nat.blt_eq] at h
theorem K3 {a b:Nat} (h:Nat.blt a b=false):¬ a<b:=fun e=>by
 have:Nat.blt a b=true:=by rw[Nat.blt_eq];exact e
 rw[h] at this;cases this
theorem ta:∀ (l:List dp) (j:Nat) (v:AV),re l j=some v→j<aE l∧getM l j=v
 | [],_,_,h=>by simp[re] at h
 | .one u::r,0,v,h=>by
   simp only[re,Option.some.injEq] at h;exact ⟨by simp only[aE,aU];omega,h⟩
 | .one u::r,j+1,v,h=>by
   have:=ta r j v (by simpa[re] using h);exact ⟨by simp only[aE,aU];omega,this.2⟩
 | .arr k z n::r,j,v,h=>by
   simp only[re] at h;simp only[aE,aU,getM];cases hb:Nat.blt j n with
   | true =>
     rw[hb,cond_true,Option.some.injEq] at h;have:=CP hb;exact ⟨by omega,by rw[if_pos this];exact h⟩
   | false =>
     rw[hb,cond_false] at h;have hn:=K3 hb;have:=ta r (j-n) v h;exact ⟨by omega,by rw[if_neg hn];exact this.2⟩
def H6:List dp→Nat→Nat→Nat→Tr AV
 | [],_,_,_=>.bad
 | .one _::r,pos,h,off=>match h with
   | 0=>.bad
   | h+1=>H6 r (Nat.succ pos) h off
 | .arr k z n::r,pos,h,off=>cond (Nat.blt h n) (.req (dN off 1 pos n) (.ok (.int k (z (c9 off pos))))) (H6 r (Nat.add pos n) (Nat.sub h n) off)
theorem xW:∀ (l:List dp) (pos h off:Nat) (v:AV),(H6 l pos h off).run=some v→pos≤off∧off-pos<aE l∧getM l (off-pos)=v
 | [],_,_,_,_,h=>(Tr.ah h).elim
 | .one _::r,pos,0,off,v,h=>(Tr.ah h).elim
 | .one u::r,pos,h'+1,off,v,h=>by
   obtain ⟨h1,h2,h3⟩:=xW r (pos+1) h' off v h;refine ⟨by omega,by simp only[aE,aU];omega,?_⟩;rw[show off-pos=(off-(pos+1))+1 by omega];exact h3
 | .arr k z n::r,pos,h',off,v,h=>by
   simp only[H6] at h;cases hb:Nat.blt h' n with
   | true =>
     rw[hb,cond_true] at h;obtain ⟨hc,h⟩:=Tr.aW h;rw[kh,decide_eq_true_eq] at hc;have h:=Tr.ae h;refine ⟨hc.1,by simp only[aE,aU];omega,?_⟩;simp only[getM];rw[if_pos wO,← h,dj]
   | false =>
     rw[hb,cond_false] at h;obtain ⟨h1,h2,h3⟩:=xW r (pos+n) (h'-n) off v h;refine ⟨by omega,by simp only[aE,aU];omega,?_⟩;simp only[getM];rw[if_neg wO,← h3];congr 1;omega
def D0 (r:Row) (off:Nat) (h:Option Nat):Tr AV :=
 match r with
 | .F f n=>.req (cK off n) (.ok (f off))
 | .M l=>match l with
   | [.arr k z n]=>.req (cK off n) (.ok (.int k (z off)))
   | l=>match h with
     | none=>wB (re l off)
     | some h=>H6 l 0 h off
 | .I k l=>match h with
   | none=>wB (j4 (.I k l) off)
   | some _=>.req (cK off (JG l)) (.ok (.int k (aC l off)))
 | .G l=>match h with
   | none=>wB (j4 (.G l) off)
   | some _=>.bad
theorem zX {r:Row} {off:Nat} {v:AV} (h:j4 r off=some v):off<r.len∧r.get off=v:=by
 rw[uz] at h;split at h
 · rename_i h0;exact ⟨h0,Option.some.inj h⟩
 · simp at h
theorem zR {r:Row} {off:Nat} {h:Option Nat} {v:AV} (hr:(D0 r off h).run=some v):off<r.len∧r.get off=v:=by
 unfold D0 at hr;split at hr
 · obtain ⟨hc,hr⟩:=Tr.aW hr;rw[iK,decide_eq_true_eq] at hc;exact ⟨hc,Tr.ae hr⟩
 · rename_i l;split at hr
   · rename_i k z n;obtain ⟨hc,hr⟩:=Tr.aW hr;rw[iK,decide_eq_true_eq] at hc;refine ⟨by simp only[Row.len,aE,aU];omega,?_⟩;simp only[Row.get,getM];rw[if_pos hc];exact Tr.ae hr
   · split at hr
     · rw[di] at hr;exact ta _ _ _ hr
     · have:=xW _ _ _ _ _ hr;rw[Nat.sub_zero] at this;exact this.2
 · split at hr
   · rw[di] at hr;exact zX hr
   · obtain ⟨hc,hr⟩:=Tr.aW hr;rw[iK,decide_eq_true_eq,Du] at hc;refine ⟨hc,?_⟩;rw[← Tr.ae hr,fz];rfl
 · split at hr
   · rw[di] at hr;exact zX hr
   · exact (Tr.ah hr).elim
def Ff (off:Nat) (h:Option Nat) (j:Nat):Nat :=
 match h with
 | none=>Nat.add off j
 | some _=>match j with
   | 0=>off
   | j+1=>ar off (Nat.succ j)
theorem sh (off:Nat) (h:Option Nat) (j:Nat):Ff off h j=off+j:=by
 unfold Ff;split
 · rfl
 · split
   · rfl
   · rw[aI]
def yP (h:Option Nat) (j:Nat):Option Nat :=
 match h with
 | none=>none
 | some h=>some (Nat.add h j)
def D1 (r:Row) (off:Nat) (h:Option Nat):Nat→Nat→Tr (List AV)
 | _,0=>.ok []
 | j,n+1=>(D0 r (Ff off h j) (yP h j)).bind fun v=>(D1 r off h (Nat.succ j) n).bind fun l=>.ok (v::l)
theorem zS {r:Row} {off:Nat} {h:Option Nat}:∀ (n j:Nat) (l:List AV),(D1 r off h j n).run=some l→l=dJ r.get (off+j) n∧(n=0∨off+j+n≤r.len)
 | 0,j,l,hr=>⟨(Tr.ae hr).symm,.inl rfl⟩
 | n+1,j,l,hr=>by
   simp only[D1] at hr;obtain ⟨v,h1,hr⟩:=Tr.bind_some hr;obtain ⟨m,h2,hr⟩:=Tr.bind_some hr;have hr:=Tr.ae hr;obtain ⟨k1,k2⟩:=zR h1;obtain ⟨k3,k4⟩:=zS n (j+1) m h2;rw[sh] at k1 k2;refine ⟨?_,.inr wO⟩;rw[← hr,dJ,k2,k3,show off+(j+1)=off+j+1 by omega]
def H5:List dp→Nat→Nat→Nat→Nat→Tr AV
 | [],_,_,_,_=>.bad
 | .one _::r,pos,h,off,n=>match h with
   | 0=>.bad
   | h+1=>H5 r (Nat.succ pos) h off n
 | .arr k z m::r,pos,h,off,n=>cond (Nat.blt h m) (.req (dN off n pos m) (.ok (.agg (.M [.arr k (jI z (c9 off pos)) n])))) (H5 r (Nat.add pos m) (Nat.sub h m) off n)
theorem xV:∀ (l:List dp) (pos h off n:Nat) (v:AV),0<n→(H5 l pos h off n).run=some v→pos≤off∧off-pos+n≤aE l∧∃ k z,lU l (off-pos) n=some (k,z)∧v=.agg (.M [.arr k z n])
 | [],_,_,_,_,_,_,h=>(Tr.ah h).elim
 | .one _::r,pos,0,off,n,v,_,h=>(Tr.ah h).elim
 | .one u::r,pos,h'+1,off,n,v,hn,h=>by
   obtain ⟨h1,h2,k,z,h3,h4⟩:=xV r (pos+1) h' off n v hn h;refine ⟨by omega,by simp only[aE,aU];omega,k,z,?_,h4⟩;rw[show off-pos=(off-(pos+1))+1 by omega];exact h3
 | .arr k z m::r,pos,h',off,n,v,hn,h=>by
   simp only[H5] at h;cases hb:Nat.blt h' m with
   | true =>
     rw[hb,cond_true] at h;obtain ⟨hc,h⟩:=Tr.aW h;rw[kh,decide_eq_true_eq] at hc;have h:=Tr.ae h;refine ⟨hc.1,by simp only[aE,aU];omega,k,fun j=>z (off-pos+j),?_,?_⟩
     · simp only[lU];rw[if_pos wO]
     · rw[← h,m5,dj]
   | false =>
     rw[hb,cond_false] at h;obtain ⟨h1,h2,k',z',h3,h4⟩:=xV r (pos+m) (h'-m) off n v hn h;refine ⟨by omega,by simp only[aE,aU];omega,k',z',?_,h4⟩;simp only[lU];rw[if_neg wO,if_pos wO,← h3];congr 1;omega
def H4:List dp→Nat→Nat→Option Row
 | [],_,_=>none
 | .one _::r,o+1,n=>H4 r o n
 | .one _::_,0,_=>none
 | .arr k z m::r,o,n=>cond (Nat.ble (Nat.add o n) m) (some (.M [.arr k (cond (Nat.beq o 0) z (jI z o)) n])) (cond (Nat.ble m o) (H4 r (Nat.sub o m) n) none)
theorem xU:∀ (l:List dp) (o n:Nat) (q:Row),H4 l o n=some q→∃ k z,lU l o n=some (k,z)∧q=.M [.arr k z n]
 | [],_,_,_,h=>by cases h
 | .one u::r,o+1,n,q,h=>xU r o n q h
 | .one _::_,0,_,_,h=>by cases h
 | .arr k z m::r,o,n,q,h=>by
   simp only[H4] at h;cases hb:Nat.ble (Nat.add o n) m with
   | true =>
     rw[hb,cond_true] at h;have hle:o+n≤m:=Nat.le_of_ble_eq_true hb;simp only[Option.some.injEq] at h;refine ⟨k,fun j=>z (o+j),by simp only[lU];rw[if_pos hle],?_⟩;rw[← h];cases ho:Nat.beq o 0 with
     | true =>
       have:=Nat.eq_of_beq_eq_true ho;subst this;simp only[cond_true,Nat.zero_add]
     | false=>rw[cond_false,m5]
   | false =>
     rw[hb,cond_false] at h;cases hm:Nat.ble m o with
     | true =>
       rw[hm,cond_true] at h;have hle:m≤o:=Nat.le_of_ble_eq_true hm;have hnl:¬ (o+n≤m):=fun hc=>by
        have:Nat.ble (Nat.add o n) m=true:=by rw[Nat.ble_eq];exact hc
        rw[hb] at this;cases this
       obtain ⟨k',z',h1,h2⟩:=xU r (o-m) n q h;exact ⟨k',z',by simp only[lU];rw[if_neg hnl,if_pos hle];exact h1,h2⟩
     | false=>rw[hm,cond_false] at h;cases h
def zT (P:Program) (t:TypeId) (r:Row) (off:Nat) (h:Option Nat):Tr AV :=
 match fk P t with
 | some false=>D0 r off h
 | some true=>match bH P t with
   | some 0=>.bad
   | some (n+1)=>match r with
     | .M l=>cond (Nat.ble (Nat.succ n) 8) ((D1 (.M l) off h 0 (Nat.succ n)).bind fun vs=>.ok (.agg (Row.ofList vs)))
       (match h with
       | none=>cond (Nat.ble (Nat.add off (Nat.succ n)) (aE l)) (cond (Nat.beq (aE l) (Nat.succ n)) (.ok (.agg ((Row.M l).cut off (Nat.succ n)))) (match H4 l off (Nat.succ n) with
         | some q=>.ok (.agg q)
         | none=>.ok (.agg ((Row.M l).cut off (Nat.succ n))))) .bad
       | some h=>cond (Nat.beq (aE l) (Nat.succ n)) .bad (H5 l 0 h off (Nat.succ n)))
     | .F f m=>.req (eU (ar off (Nat.succ n)) m) (.ok (.agg ((Row.F f m).cut off (Nat.succ n))))
     | .I k l=>match h with
       | none=>wB (xN P t (.I k l) off)
       | some _=>.bad
     | .G l=>match h with
       | none=>wB (xN P t (.G l) off)
       | some _=>.bad
   | none=>.bad
 | none=>.bad
theorem ux       {P : Program} {t:TypeId} {r:Row} {off:Nat} {h:Option Nat} {v:AV} (hr:(zT P t r off h).run=some v):j0 P t r off=some v:=by
 unfold zT at hr;split at hr
 · rename_i ha;obtain ⟨h1,h2⟩:=zR hr;unfold j0;rw[ha];dsimp only;rw[if_pos h1,h2]
 · rename_i ha;split at hr
   · exact (Tr.ah hr).elim
   · rename_i n hs;split at hr
     · rename_i l;unfold j0;rw[ha,hs];dsimp only;cases hb:Nat.ble (Nat.succ n) 8 with
       | true =>
         rw[hb,cond_true] at hr;obtain ⟨vs,h1,hr⟩:=Tr.bind_some hr;have hr:=Tr.ae hr;obtain ⟨k1,k2⟩:=zS _ _ _ h1;rw[if_pos wO,← hr,k1];simp only[Row.cut];rw[show Nat.ble (n+1) 8=true from hb,if_pos rfl,Nat.add_zero];rfl
       | false =>
         rw[hb,cond_false] at hr;split at hr
         · cases hc : Nat.ble (Nat.add off (Nat.succ n)) (aE l) with
           | true =>
             rw[hc,cond_true] at hr;rw[Nat.ble_eq] at hc;rw[if_pos (show off+(n+1)≤(Row.M l).len from hc)];cases hq:Nat.beq (aE l) (Nat.succ n) with
             | true=>rw[hq,cond_true] at hr;rw[← Tr.ae hr]
             | false =>
               rw[hq,cond_false] at hr;split at hr
               · rename_i q hseg;obtain ⟨k,z,h3,h4⟩:=xU _ _ _ _ hseg;simp only[Row.cut];rw[show Nat.ble (n+1) 8=false from hb,if_neg (by simp),show Nat.beq (aE l) (n+1)=false from hq,Bool.and_false,if_neg (by simp)];have : Row.sub (.M l) off (n+1)=.M [.arr k z (n+1)]:=by
                  match l,h3,hq with
                  | [],h3,_=>simp[lU] at h3
                  | [.arr k' z' m],h3,hq =>
                    simp only[lU] at h3;split at h3
                    · simp only[nP] at h3;obtain ⟨rfl,rfl⟩:=h3;rfl
                    · split at h3<;>simp at h3
                  | .one u::r,h3,hq =>
                    simp only[Row.sub];rw[show Nat.beq (aE (.one u::r)) (n+1)=false from hq,Bool.and_false,h3];rfl
                  | .arr k' z' m::s::r,h3,hq =>
                    simp only[Row.sub];rw[show Nat.beq (aE (.arr k' z' m::s::r)) (n+1)=false from hq,Bool.and_false,h3];rfl
                 rw[this,← Tr.ae hr,h4]
               · rw[← Tr.ae hr]
           | false=>rw[hc,cond_false] at hr;exact (Tr.ah hr).elim
         · rename_i h;cases hc:Nat.beq (aE l) (Nat.succ n) with
           | true=>rw[hc,cond_true] at hr;exact (Tr.ah hr).elim
           | false =>
             rw[hc,cond_false] at hr;obtain ⟨h1,h2,k,z,h3,h4⟩:=xV _ _ _ _ _ _ (Nat.succ_pos n) hr;rw[Nat.sub_zero] at h2 h3;rw[if_pos (show off+(n+1)≤(Row.M l).len from h2)];simp only[Row.cut];rw[show Nat.ble (n+1) 8=false from hb,if_neg (by simp),show Nat.beq (aE l) (n+1)=false from hc,Bool.and_false,if_neg (by simp)];have : Row.sub (.M l) off (n+1)=.M [.arr k z (n+1)]:=by
              match l,h3,hc with
              | [],h3,_=>simp[lU] at h3
              | [.arr k' z' m],h3,hc =>
                simp only[lU] at h3;split at h3
                · simp only[nP] at h3;obtain ⟨rfl,rfl⟩:=h3;rfl
                · split at h3<;>simp at h3
              | .one u::r,h3,hc =>
                simp only[Row.sub];rw[show Nat.beq (aE (.one u::r)) (n+1)=false from hc,Bool.and_false,h3];rfl
              | .arr k' z' m::s::r,h3,hc =>
                simp only[Row.sub];rw[show Nat.beq (aE (.arr k' z' m::s::r)) (n+1)=false from hc,Bool.and_false,h3];rfl
             rw[this,h4]
     · rename_i f m;obtain ⟨hc,hr⟩:=Tr.aW hr;rw[lD,decide_eq_true_eq,aI] at hc;unfold j0;rw[ha,hs];dsimp only;rw[if_pos (show off+(n+1)≤(Row.F f m).len from hc),← Tr.ae hr]
     · split at hr
       · rw[di,wI] at hr;exact hr
       · exact (Tr.ah hr).elim
     · split at hr
       · rw[di,wI] at hr;exact hr
       · exact (Tr.ah hr).elim
   · exact (Tr.ah hr).elim
 · exact (Tr.ah hr).elim

def xS (H:aa) (d i v:Nat) (h:Option Nat):Tr Row :=
 match h with
 | none=>wB (De H d i v)
 | some _=>match nQ H d i with
   | (ver,.row r)=>.req (cg ver v) (.ok r)
   | _=>.bad
theorem lR {H:aa} {d i v:Nat} {h:Option Nat} {r:Row} (hr:(xS H d i v h).run=some r):c6 H d i v=some r:=by
 unfold xS at hr;split at hr
 · rw[di,yO] at hr;exact hr
 · rw[pr] at hr;split at hr
   · rename_i ver q hg;obtain ⟨hc,hr2⟩:=Tr.aW hr;rw[fZ,decide_eq_true_eq] at hc;subst hc;unfold c6;rw[hg];simp only[Nat.beq_refl,if_true];rw[Tr.ae hr2]
   · exact (Tr.ah hr).elim
def loadT (P:Program) (H:aa) (t:TypeId) (a:HV):Tr AV :=
 match a.1 with
 | .ptr d i v off=>(xS H d i v a.2).bind fun r=>(zT P t r off a.2).bind fun x=>.ok (m6 d x)
 | .ptrT s r off=>(zT P t r off a.2).bind fun x=>.ok (VY s x)
 | _=>.bad
theorem zh {P:Program} {H:aa} {t:TypeId} {a:HV} {v:AV} (hr:(loadT P H t a).run=some v):pC P H t a.1=some v:=by
 unfold loadT at hr;unfold pC;split at hr
 · rename_i d i ver off ha;obtain ⟨r,h1,hr⟩:=Tr.bind_some hr;obtain ⟨x,h2,hr⟩:=Tr.bind_some hr;rw[ha];dsimp only;rw[lR h1];dsimp only;rw[ux h2,← Tr.ae hr];rfl
 · rename_i s r off ha;obtain ⟨x,h2,hr⟩:=Tr.bind_some hr;rw[ha];dsimp only;rw[ux h2,← Tr.ae hr];rfl
 · exact (Tr.ah hr).elim

def rC:List dp→Nat→AV→Option (List dp)
 | [],_,_=>none
 | .one u::r,j,v=>match j with
   | 0=>some (.one v::r)
   | j+1=>match rC r j v with
     | some r'=>some (.one u::r')
     | none=>none
 | .arr k z n::r,j,v=>cond (Nat.blt j n) (match v with
    | .int k' x=>cond (iu k' k) (some (.arr k (eB z j x) n::r)) none
    | _=>none)
   (match rC r (Nat.sub j n) v with
     | some r'=>some (.arr k z n::r')
     | none=>none)
theorem uJ:∀ (l:List dp) (j:Nat) (v:AV) (l':List dp),rC l j v=some l'→j<aE l∧ko l j v=l'
 | [],_,_,_,h=>by simp[rC] at h
 | .one u::r,0,v,l',h=>by
   simp only[rC,Option.some.injEq] at h;exact ⟨by simp only[aE,aU];omega,h⟩
 | .one u::r,j+1,v,l',h=>by
   simp only[rC] at h;split at h
   · rename_i r' hr;have:=uJ r j v r' hr;simp only[Option.some.injEq] at h;exact ⟨by simp only[aE,aU];omega,by simp only[ko];rw[this.2];exact h⟩
   · simp at h
 | .arr k z n::r,j,v,l',h=>by
   simp only[rC] at h;cases hb:Nat.blt j n with
   | true =>
     rw[hb,cond_true] at h;have hj:=CP hb;split at h
     · rename_i k' x;rw[kM] at h;split at h
       · rename_i hk;simp only[Option.some.injEq] at h;refine ⟨by simp only[aE,aU];omega,?_⟩;simp only[ko];rw[if_pos hj,if_pos hk,← h,so]
       · simp at h
     · simp at h
   | false =>
     rw[hb,cond_false] at h;have hj:=K3 hb;split at h
     · rename_i r' hr;have:=uJ r (j-n) v r' hr;simp only[Option.some.injEq] at h;exact ⟨by simp only[aE,aU];omega,by simp only[ko];rw[if_neg hj,this.2];exact h⟩
     · simp at h
def Fs:List dp→Nat→Nat→Nat→AV→Tr (List dp)
 | [],_,_,_,_=>.bad
 | .one u::r,pos,h,off,v=>match h with
   | 0=>.bad
   | h+1=>(Fs r (Nat.succ pos) h off v).bind fun r'=>.ok (.one u::r')
 | .arr k z n::r,pos,h,off,v=>cond (Nat.blt h n) (match v with
    | .int k' x=>cond (iu k' k) (.req (dN off 1 pos n) (.ok (.arr k (eB z (c9 off pos) x) n::r))) .bad
    | _=>.bad)
   ((Fs r (Nat.add pos n) (Nat.sub h n) off v).bind fun r'=>.ok (.arr k z n::r'))
theorem xX:∀ (l:List dp) (pos h off:Nat) (v:AV) (l':List dp),(Fs l pos h off v).run=some l'→pos≤off∧off-pos<aE l∧ko l (off-pos) v=l'
 | [],_,_,_,_,_,h=>(Tr.ah h).elim
 | .one _::r,pos,0,off,v,l',h=>(Tr.ah h).elim
 | .one u::r,pos,h'+1,off,v,l',h=>by
   simp only[Fs] at h;obtain ⟨r',hr,h⟩:=Tr.bind_some h;obtain ⟨h1,h2,h3⟩:=xX r (pos+1) h' off v r' hr;refine ⟨by omega,by simp only[aE,aU];omega,?_⟩;rw[show off-pos=(off-(pos+1))+1 by omega,← Tr.ae h,← h3];rfl
 | .arr k z n::r,pos,h',off,v,l',h=>by
   simp only[Fs] at h;cases hb:Nat.blt h' n with
   | true =>
     rw[hb,cond_true] at h;split at h
     · rename_i k' x;rw[kM] at h;split at h
       · rename_i hk;obtain ⟨hc,h⟩:=Tr.aW h;rw[kh,decide_eq_true_eq] at hc;refine ⟨hc.1,by simp only[aE,aU];omega,?_⟩;simp only[ko];rw[if_pos wO,if_pos hk,← Tr.ae h,so,dj]
       · exact (Tr.ah h).elim
     · exact (Tr.ah h).elim
   | false =>
     rw[hb,cond_false] at h;obtain ⟨r',hr,h⟩:=Tr.bind_some h;obtain ⟨h1,h2,h3⟩:=xX r (pos+n) (h'-n) off v r' hr;refine ⟨by omega,by simp only[aE,aU];omega,?_⟩;simp only[ko];rw[if_neg wO,← Tr.ae h,← h3,show off-pos-n=off-(pos+n) by omega]
def Oe (l:List dp) (off:Nat) (h:Option Nat) (v:AV):Tr (List dp) :=
 match l with
 | [.arr k z n]=>match v with
   | .int k' x=>cond (iu k' k) (.req (cK off n) (.ok [.arr k (eB z off x) n])) .bad
   | _=>.bad
 | l=>match h with
   | none=>wB (rC l off v)
   | some h=>Fs l 0 h off v
theorem Ky {l l':List dp} {off:Nat} {h:Option Nat} {v:AV} (hr:(Oe l off h v).run=some l'):off<aE l∧ko l off v=l':=by
 unfold Oe at hr;split at hr
 · rename_i k z n;split at hr
   · rename_i k' x;rw[kM] at hr;split at hr
     · rename_i hk;obtain ⟨hc,hr⟩:=Tr.aW hr;rw[iK,decide_eq_true_eq] at hc;refine ⟨by simp only[aE,aU];omega,?_⟩;simp only[ko];rw[if_pos hc,if_pos hk,← Tr.ae hr,so]
     · exact (Tr.ah hr).elim
   · exact (Tr.ah hr).elim
 · split at hr
   · rw[di] at hr;exact uJ _ _ _ _ hr
   · have:=xX _ _ _ _ _ _ hr;rw[Nat.sub_zero] at this;exact this.2
def Ac (off:Nat) (h:Option Nat):List AV→Nat→List dp→Tr (List dp)
 | [],_,l=>.ok l
 | v::vs,j,l=>(Oe l (Ff off h j) (yP h j) v).bind fun l'=>Ac off h vs (Nat.succ j) l'
theorem uI {off:Nat} {h:Option Nat}:∀ (vs:List AV) (j:Nat) (l l':List dp),(Ac off h vs j l).run=some l'→(vs=[]∨off+j+vs.length≤aE l)∧Row.cW (.M l) (off+j) vs=.M l'
 | [],j,l,l',h=>⟨.inl rfl,by rw[Tr.ae h];rfl⟩
 | v :: vs,j,l,l',h=>by
   simp only[Ac] at h;obtain ⟨l1,h1,h⟩:=Tr.bind_some h;obtain ⟨k1,k2⟩:=Ky h1;rw[sh] at k1 k2;obtain ⟨k3,k4⟩:=uI vs (j+1) l1 l' h;have hl:aE l1=aE l:=by rw[← k2,nk]
   refine ⟨.inr ?_,?_⟩
   · rcases k3 with rfl | k3
     · simp only[List.length_cons,List.length_nil];omega
     · simp only[List.length_cons];omega
   · simp only[Row.cW,Row.set,k2];exact k4
def HF (l:List dp) (off:Nat) (h:Option Nat) (q:Row):Tr Row :=
 match l,q with
 | [.arr k z m],.M [.arr k' z' n]=>cond (iu k' k) (.req (dN off n 0 m) (.ok (.M [.arr k (o5 z off z' n) m]))) .bad
 | l,q=>cond (Nat.ble 9 (iQ q)) (match h with
    | none=>cond (Nat.ble (Nat.add off (iQ q)) (aE l)) (.ok (xL l off q)) .bad
    | some _=>.bad)
   (match lW q with
     | []=>.bad
     | v::vs=>(Ac off h (v::vs) 0 l).bind fun l'=>.ok (.M l'))
theorem xM {l:List dp} {off:Nat} {h:Option Nat} {q r:Row} (hr:(HF l off h q).run=some r):off+q.len≤aE l∧kn (.M l) off q=r:=by
 unfold HF at hr;split at hr
 · rename_i k z m k' z' n;rw[kM] at hr;split at hr
   · rename_i hk;obtain ⟨hc,hr⟩:=Tr.aW hr;rw[kh,decide_eq_true_eq] at hc;refine ⟨by simp only[Row.len,aE,aU];omega,?_⟩;simp only[kn];rw[if_pos hk,← Tr.ae hr,w7]
   · exact (Tr.ah hr).elim
 · rename_i hne;have hA:kn (.M l) off q=xL l off q:=by
    simp only[kn];split
    · rename_i k z m;split
      · rename_i k' z' n;exact (hne _ _ _ _ _ _ rfl rfl).elim
      · rfl
    · rfl
   rw[hA];rw[fq] at hr;cases hb:Nat.ble 9 q.len with
   | true =>
     rw[hb,cond_true] at hr;split at hr
     · cases hc:Nat.ble (Nat.add off q.len) (aE l) with
       | true =>
         rw[hc,cond_true] at hr;rw[Nat.ble_eq] at hc;exact ⟨hc,Tr.ae hr⟩
       | false=>rw[hc,cond_false] at hr;exact (Tr.ah hr).elim
     · exact (Tr.ah hr).elim
   | false =>
     rw[hb,cond_false,oP] at hr;have hl:=Row.bz q;split at hr
     · exact (Tr.ah hr).elim
     · rename_i v vs hq;obtain ⟨l1,h1,hr⟩:=Tr.bind_some hr;obtain ⟨k1,k2⟩:=uI _ _ _ _ h1;rw[hq] at hl;refine ⟨?_,?_⟩
       · rcases k1 with k1 | k1
         · simp at k1
         · omega
       · unfold xL;rw[hb,if_neg (by simp),hq,← Tr.ae hr,← k2];rfl
def NZ (d:Nat) (x:AV):Bool :=
 match d with
 | 0=>false
 | _+1=>match x with
   | .slc 0 _ _ _ _ _ _=>true
   | _=>false
def storeT (P:Program) (H:aa) (t:TypeId) (a:HV) (x:AV):Tr Delta :=
 match a.1 with
 | .ptr d i v off=>cond (NZ d x) (match a.2 with | none=>wB (sm P H t a.1 x) | some _=>.bad)
   (cond (kg H d) .bad ((xS H d i v a.2).bind fun r=>match bH P t with
     | some n=>match x.row with
       | some q=>cond (Nat.beq (iQ q) n) (match r with
         | .M l=>(HF l off a.2 (jM d q)).bind fun r'=>.ok (.set d i (v,.row r'))
         | _=>match a.2 with | none=>wB (sm P H t a.1 x) | some _=>.bad) .bad
       | none=>.bad
     | none=>.bad))
 | _=>.bad
theorem Fz {P:Program} {H:aa} {t:TypeId} {a:HV} {x:AV} {δ:Delta} (hr:(storeT P H t a x).run=some δ):gP P H t a.1 x=some δ:=by
 unfold storeT at hr;split at hr
 · rename_i d i v off ha;cases ho:NZ d x with
   | true =>
     rw[ho,cond_true] at hr;split at hr
     · rw[di,uO] at hr;exact hr
     · exact (Tr.ah hr).elim
   | false =>
     rw[ho,cond_false,gG] at hr;cases hl:aM H d with
     | true=>rw[hl,cond_true] at hr;exact (Tr.ah hr).elim
     | false =>
       rw[hl,cond_false] at hr;obtain ⟨r,h1,hr⟩:=Tr.bind_some hr;split at hr
       · rename_i n hs;split at hr
         · rename_i q hq;rw[fq] at hr;cases hb:Nat.beq q.len n with
           | false=>rw[hb,cond_false] at hr;exact (Tr.ah hr).elim
           | true =>
             rw[hb,cond_true] at hr;have hb:q.len=n:=by simpa using hb
             split at hr
             · rename_i l;obtain ⟨r',h2,hr⟩:=Tr.bind_some hr;obtain ⟨k1,k2⟩:=xM h2;rw[ft] at k1;rw[ha];unfold gP;dsimp only;rw[hl,if_neg (by simp),lR h1,hs,hq];dsimp only;rw[if_pos ⟨hb,by show off+n≤aE l;omega⟩];have:∀ (d':Nat) (j w o sz len:Nat) (cap:Option Nat),d=d'+1→x≠.slc 0 j w o sz len cap:=by
                rintro d' j w o sz len cap rfl rfl;simp[NZ] at ho
               rw[← Tr.ae hr,← k2];split
               · exact absurd rfl (this _ _ _ _ _ _ _ rfl)
               · rfl
             · split at hr
               · rw[di,uO] at hr;exact hr
               · exact (Tr.ah hr).elim
         · exact (Tr.ah hr).elim
       · exact (Tr.ah hr).elim
 · exact (Tr.ah hr).elim

def hOr (h:Option Nat) (off:Nat):Nat :=
 match h with
 | none=>off
 | some h=>h
def og (P:Program) (t:TypeId) (a:HV) (f:Nat):Tr HV :=
 match P.underlying t with
 | some (.struct fs)=>match fs[f]? with
   | some g=>match bH P g.type with
     | some (_+1)=>match a.1 with
       | .ptr d i v off=>.ok (.ptr d i v (Ff off a.2 g.offset),yP a.2 g.offset)
       | .ptrT s r off=>.ok (.ptrT s r (Ff off a.2 g.offset),yP a.2 g.offset)
       | _=>.bad
     | _=>.bad
   | none=>.bad
 | _=>.bad
theorem vm {P:Program} {t:TypeId} {a b:HV} {f:Nat} (hr:(og P t a f).run=some b):jn P t a.1 f=some b.1:=by
 unfold og at hr;unfold jn;split at hr
 · rename_i fs hu;rw[hu];dsimp only;split at hr
   · rename_i g hg;rw[hg];dsimp only;split at hr
     · rename_i n hs;rw[hs];dsimp only;split at hr
       · rename_i d i v off ha;rw[ha,← Tr.ae hr];simp only[mi,sh]
       · rename_i s r off ha;rw[ha,← Tr.ae hr];simp only[mi,sh]
       · exact (Tr.ah hr).elim
     · exact (Tr.ah hr).elim
   · exact (Tr.ah hr).elim
 · exact (Tr.ah hr).elim
def isLit (x:HV):Bool :=
 match x.2 with
 | some _=>true
 | none=>false
def Hn (off:Nat) (ic:Bool) (i:Int) (z:Nat):Nat:=cond ic (Nat.add off (Nat.mul i.toNat z)) (au off i z)
theorem sg (off:Nat) (ic:Bool) (i:Int) (z:Nat):Hn off ic i z=off+i.toNat*z:=by
 cases ic with
 | true=>rfl
 | false=>exact bt _ _ _
def Dj (h:Option Nat) (off:Nat) (ic:Bool) (i:Int) (z:Nat):Option Nat :=
 cond ic (yP h (Nat.mul i.toNat z)) (some (hOr h off))
def Nr (P:Program) (t:TypeId) (a:HV) (ic:Bool) (i:Int):Tr HV :=
 match P.underlying t with
 | some (.array n e)=>match bH P e with
   | some z=>match a.1 with
     | .ptr d j v off=>.req (cQ i n) (.ok (.ptr d j v (Hn off ic i z),Dj a.2 off ic i z))
     | .ptrT s r off=>.req (cQ i n) (.ok (.ptrT s r (Hn off ic i z),Dj a.2 off ic i z))
     | _=>.bad
   | none=>.bad
 | some (.slice e)=>match bH P e with
   | some z=>match a.1 with
     | .slc d j v off sz len cap=>cond (Nat.beq z sz) (.req (cQ i len) (.ok (.ptr d j v (Hn off ic i z),match cap with
       | some _=>Dj none off ic i z
       | none=>some off))) .bad
     | .slcT s r sz len _=>cond (Nat.beq z sz) (.req (cQ i len) (.ok (.ptrT s r (Hn 0 ic i z),Dj none 0 ic i z))) .bad
     | _=>.bad
   | none=>.bad
 | _=>.bad
def Sg (P:Program) (t:TypeId) (x:AV) (ic:Bool) (i:Int):Tr AV :=
 cond ic (wB (qw P t x i)) (match P.underlying t with
  | some (.array n e)=>match x with
    | .agg r=>match bH P e with
      | some z=>.req (cQ i n) (zT P e r (au 0 i z) (some 0))
      | none=>.bad
    | _=>.bad
  | _=>.bad)
theorem Nx {P:Program} {t:TypeId} {x v:AV} {ic:Bool} {i:Int} (hr:(Sg P t x ic i).run=some v):qw P t x i=some v:=by
 unfold Sg at hr;cases ic with
 | true=>rw[cond_true,di] at hr;exact hr
 | false =>
   rw[cond_false] at hr;split at hr
   · rename_i n e hu;split at hr
     · split at hr
       · rename_i z hs;obtain ⟨hc,hr⟩:=Tr.aW hr;rw[qv,decide_eq_true_eq] at hc;have h:=ux hr;rw[bt,Nat.zero_add] at h;unfold qw;rw[hu];dsimp only;rw[hs];dsimp only;rw[if_pos hc,h]
       · exact (Tr.ah hr).elim
     · exact (Tr.ah hr).elim
   · exact (Tr.ah hr).elim
theorem JB {P:Program} {t:TypeId} {a b:HV} {ic:Bool} {i:Int} (hr:(Nr P t a ic i).run=some b):jv P t a.1 i=some b.1:=by
 unfold Nr at hr;unfold jv;split at hr
 · rename_i n e hu;split at hr
   · rename_i z hs;split at hr
     · rename_i d j v off ha;obtain ⟨hc,hr⟩:=Tr.aW hr;rw[qv,decide_eq_true_eq] at hc;rw[hu,ha];dsimp only;rw[hs];dsimp only;rw[if_pos hc,← Tr.ae hr];simp only[mi,sg]
     · rename_i s r off ha;obtain ⟨hc,hr⟩:=Tr.aW hr;rw[qv,decide_eq_true_eq] at hc;rw[hu,ha];dsimp only;rw[hs];dsimp only;rw[if_pos hc,← Tr.ae hr];simp only[mi,sg]
     · exact (Tr.ah hr).elim
   · exact (Tr.ah hr).elim
 · rename_i e hu;split at hr
   · rename_i z hs;split at hr
     · rename_i d j v off sz len cap ha;cases hb:Nat.beq z sz with
       | false=>rw[hb,cond_false] at hr;exact (Tr.ah hr).elim
       | true =>
         rw[hb,cond_true] at hr;have hb:z=sz:=by simpa using hb
         subst hb;obtain ⟨hc,hr⟩:=Tr.aW hr;rw[qv,decide_eq_true_eq] at hc;rw[hu,ha];dsimp only;rw[if_pos ⟨hc.1,hc.2,hs⟩,← Tr.ae hr];simp only[sg]
     · rename_i s r sz len full ha;cases hb:Nat.beq z sz with
       | false=>rw[hb,cond_false] at hr;exact (Tr.ah hr).elim
       | true =>
         rw[hb,cond_true] at hr;have hb:z=sz:=by simpa using hb
         subst hb;obtain ⟨hc,hr⟩:=Tr.aW hr;rw[qv,decide_eq_true_eq] at hc;rw[hu,ha];dsimp only;rw[if_pos ⟨hc.1,hc.2,hs⟩,← Tr.ae hr];simp only[sg,Nat.zero_add]
     · exact (Tr.ah hr).elim
   · exact (Tr.ah hr).elim
 · exact (Tr.ah hr).elim

end
end Go.Eng
