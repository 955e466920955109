/- The engine as a tree: frames with hints, rows, loads, stores, addresses. -/
import Derived.Test.YtgphpjdchnfjlaaDoorV5EngTa
set_option linter.unusedVariables false
set_option linter.unusedSimpArgs false
namespace Go.Eng
noncomputable section

abbrev HV:=AV×Option Nat
abbrev aT:=List (Nat×HV)
def strip (f:aT):aD:=List.rec (motive:=fun _=>aD) [] (fun p _ ih=>(p.1,p.2.1)::ih) f
theorem dg (x:Nat) (v:HV) (r:aT):strip ((x,v)::r)=(x,v.1)::strip r:=rfl
def lU (f:aT) (y:Nat):HV:=List.rec (motive:=fun _=>HV) (AV.undef,none) (fun p _ ih=>Bool.rec ih p.2 (Nat.beq p.1 y)) f
theorem fp:∀ (f:aT) (y:Nat),(lU f y).1=bM (strip f) y
 | [],y=>rfl
 | (x,v)::r,y=>by
   have e:lU ((x,v)::r) y=Bool.rec (lU r y) v (Nat.beq x y):=rfl;rw[e,dg,bM];cases Nat.beq x y with
   | true=>rfl
   | false=>exact fp r y
def yH (f:aT) (y:Nat) (u:HV):aT:=List.rec (motive:=fun _=>aT) [(y,u)] (fun p r ih=>Bool.rec (motive:=fun _=>aT) (p::ih) (Bool.rec (motive:=fun _=>aT) ((y,u)::p::r) ((y,u)::r) (Nat.beq p.1 y)) (Nat.ble y p.1)) f
theorem yI:∀ (f:aT) (y:Nat) (u:HV),strip (yH f y u)=u9 (strip f) y u.1
 | [],y,u=>rfl
 | (x,v)::r,y,u=>by
   have e:yH ((x,v)::r) y u=Bool.rec (motive:=fun _=>aT) ((x,v)::yH r y u) (Bool.rec (motive:=fun _=>aT) ((y,u)::(x,v)::r) ((y,u)::r) (Nat.beq x y)) (Nat.ble y x):=rfl;rw[e,dg,u9,← yI r y u];cases Nat.ble y x with
   | false=>rfl
   | true=>cases Nat.beq x y<;>rfl
def gF (f:aT) (m:Nat):aT:=List.rec (motive:=fun _=>aT) [] (fun p _ ih=>Bool.rec (motive:=fun _=>aT) (p::ih) ih (Nat.beq (Nat.land (Nat.shiftRight m p.1) 1) 1)) f
theorem eZ:∀ (f:aT) (m:Nat),strip (gF f m)=bV (strip f) m
 | [],m=>rfl
 | (x,v)::r,m=>by
   have e:gF ((x,v)::r) m=Bool.rec (motive:=fun _=>aT) ((x,v)::gF r m) (gF r m) (Nat.beq (Nat.land (Nat.shiftRight m x) 1) 1):=rfl;have e2:bV ((x,v.1)::strip r) m=Bool.rec (motive:=fun _=>aD) ((x,v.1)::bV (strip r) m) (bV (strip r) m) (Nat.beq (Nat.land (Nat.shiftRight m x) 1) 1):=rfl;rw[e,dg,e2,← eZ r m];cases Nat.beq (Nat.land (Nat.shiftRight m x) 1) 1<;>rfl
def Sv (v:Value):Option Nat :=
 match v with
 | .int _ _=>some 1
 | .bool _=>some 1
 | _=>none
def cD (fr:aT) (x:Operand):HV:=Operand.rec (motive:=fun _=>HV) (fun t=>lU fr t) (fun v=>(kW v,Sv v)) (fun _=>(.undef,none)) (fun f=>(.fn (.func f) [] [],none)) x
theorem bh (fr:aT) (x:Operand):(cD fr x).1=b5 (strip fr) x:=by
 cases x with
 | tmp t=>exact fp fr t
 | _=>rfl
def zD (fr:aT) (l:List Operand):List AV:=rD (fun x=>(cD fr x).1) l
theorem tU (fr:aT):∀ l,zD fr l=lF (strip fr) l
 | []=>rfl
 | x::l=>by
   have e:zD fr (x::l)=(cD fr x).1::zD fr l:=rfl;rw[e,tU fr l,bh];rfl
def rm (nt:Nat) (fr:aT) (dst:Option Tmp) (v:HV):aT:=Option.rec (motive:=fun _=>aT) fr (fun d=>Bool.rec (motive:=fun _=>aT) fr (yH fr d v) (Nat.ble (Nat.succ d) nt)) dst
theorem mU (nt:Nat) (fr:aT) (dst:Option Tmp) (v:HV):strip (rm nt fr dst v)=iS nt (strip fr) dst v.1:=by
 rw[← Hk];cases dst with
 | none=>rfl
 | some d =>
   have e:rm nt fr (some d) v=Bool.rec (motive:=fun _=>aT) fr (yH fr d v) (Nat.ble (Nat.succ d) nt):=rfl;have e2:Hj nt (strip fr) (some d) v.1=Bool.rec (motive:=fun _=>aD) (strip fr) (vQ (strip fr) d v.1) (Nat.ble (Nat.succ d) nt):=rfl;rw[e,e2,yr,← yI];cases Nat.ble (Nat.succ d) nt<;>rfl

def qZ:List da→Nat→Option AV
 | [],_=>none
 | .one v::r,j=>match j with
   | 0=>some v
   | j+1=>qZ r j
 | .arr k z n::r,j=>cond (Nat.blt j n) (some (.int k (z j))) (qZ r (Nat.sub j n))
theorem CC {a b:Nat} (h:Nat.blt a b=true):a<b:=by rwa [Nat.blt_eq] at h
theorem Ko {a b:Nat} (h:Nat.blt a b=false):¬ a<b:=fun e=>by
 have:Nat.blt a b=true:=by rw[Nat.blt_eq];exact e
 rw[h] at this;cases this
theorem sW:∀ (l:List da) (j:Nat) (v:AV),qZ l j=some v→j<aE l∧getM l j=v
 | [],_,_,h=>by simp[qZ] at h
 | .one u::r,0,v,h=>by
   simp only[qZ,Option.some.injEq] at h;exact ⟨by simp only[aE,aV];omega,h⟩
 | .one u::r,j+1,v,h=>by
   have:=sW r j v (by simpa[qZ] using h);exact ⟨by simp only[aE,aV];omega,this.2⟩
 | .arr k z n::r,j,v,h=>by
   simp only[qZ] at h;simp only[aE,aV,getM];cases hb:Nat.blt j n with
   | true =>
     rw[hb,cond_true,Option.some.injEq] at h;have:=CC hb;exact ⟨by omega,by rw[if_pos this];exact h⟩
   | false =>
     rw[hb,cond_false] at h;have hn:=Ko hb;have:=sW r (j-n) v h;exact ⟨by omega,by rw[if_neg hn];exact this.2⟩
def HI:List da→Nat→Nat→Nat→Tr AV
 | [],_,_,_=>.bad
 | .one _::r,pos,h,off=>match h with
   | 0=>.bad
   | h+1=>HI r (Nat.succ pos) h off
 | .arr k z n::r,pos,h,off=>cond (Nat.blt h n) (.req (dP off 1 pos n) (.ok (.int k (z (bQ off pos))))) (HI r (Nat.add pos n) (Nat.sub h n) off)
theorem xR:∀ (l:List da) (pos h off:Nat) (v:AV),(HI l pos h off).run=some v→pos≤off∧off-pos<aE l∧getM l (off-pos)=v
 | [],_,_,_,_,h=>(Tr.ai h).elim
 | .one _::r,pos,0,off,v,h=>(Tr.ai h).elim
 | .one u::r,pos,h'+1,off,v,h=>by
   obtain ⟨h1,h2,h3⟩:=xR r (pos+1) h' off v h;refine ⟨by omega,by simp only[aE,aV];omega,?_⟩;rw[show off-pos=(off-(pos+1))+1 by omega];exact h3
 | .arr k z n::r,pos,h',off,v,h=>by
   simp only[HI] at h;cases hb:Nat.blt h' n with
   | true =>
     rw[hb,cond_true] at h;obtain ⟨hc,h⟩:=Tr.aX h;rw[j6,decide_eq_true_eq] at hc;have h:=Tr.af h;refine ⟨hc.1,by simp only[aE,aV];omega,?_⟩;simp only[getM];rw[if_pos wO,← h,cw]
   | false =>
     rw[hb,cond_false] at h;obtain ⟨h1,h2,h3⟩:=xR r (pos+n) (h'-n) off v h;refine ⟨by omega,by simp only[aE,aV];omega,?_⟩;simp only[getM];rw[if_neg wO,← h3];congr 1;omega
def DJ (r:Row) (off:Nat) (h:Option Nat):Tr AV :=
 match r with
 | .F f n=>.req (bX off n) (.ok (f off))
 | .M l=>match l with
   | [.arr k z n]=>.req (bX off n) (.ok (.int k (z off)))
   | l=>match h with
     | none=>wj (qZ l off)
     | some h=>HI l 0 h off
 | .I k l=>match h with
   | none=>wj (jO (.I k l) off)
   | some _=>.req (bX off (EF l)) (.ok (.int k (az l off)))
 | .G l=>match h with
   | none=>wj (jO (.G l) off)
   | some _=>.bad
theorem zR {r:Row} {off:Nat} {v:AV} (h:jO r off=some v):off<r.len∧r.get off=v:=by
 rw[uj] at h;split at h
 · rename_i h0;exact ⟨h0,Option.some.inj h⟩
 · simp at h
theorem zL {r:Row} {off:Nat} {h:Option Nat} {v:AV} (hr:(DJ r off h).run=some v):off<r.len∧r.get off=v:=by
 unfold DJ at hr;split at hr
 · obtain ⟨hc,hr⟩:=Tr.aX hr;rw[iG,decide_eq_true_eq] at hc;exact ⟨hc,Tr.af hr⟩
 · rename_i l;split at hr
   · rename_i k z n;obtain ⟨hc,hr⟩:=Tr.aX hr;rw[iG,decide_eq_true_eq] at hc;refine ⟨by simp only[Row.len,aE,aV];omega,?_⟩;simp only[Row.get,getM];rw[if_pos hc];exact Tr.af hr
   · split at hr
     · rw[dp] at hr;exact sW _ _ _ hr
     · have:=xR _ _ _ _ _ hr;rw[Nat.sub_zero] at this;exact this.2
 · split at hr
   · rw[dp] at hr;exact zR hr
   · obtain ⟨hc,hr⟩:=Tr.aX hr;rw[iG,decide_eq_true_eq,xo] at hc;refine ⟨hc,?_⟩;rw[← Tr.af hr,fa];rfl
 · split at hr
   · rw[dp] at hr;exact zR hr
   · exact (Tr.ai hr).elim
def EO (off:Nat) (h:Option Nat) (j:Nat):Nat :=
 match h with
 | none=>Nat.add off j
 | some _=>match j with
   | 0=>off
   | j+1=>au off (Nat.succ j)
theorem se (off:Nat) (h:Option Nat) (j:Nat):EO off h j=off+j:=by
 unfold EO;split
 · rfl
 · split
   · rfl
   · rw[aH]
def yM (h:Option Nat) (j:Nat):Option Nat :=
 match h with
 | none=>none
 | some h=>some (Nat.add h j)
def DK (r:Row) (off:Nat) (h:Option Nat):Nat→Nat→Tr (List AV)
 | _,0=>.ok []
 | j,n+1=>(DJ r (EO off h j) (yM h j)).bind fun v=>(DK r off h (Nat.succ j) n).bind fun l=>.ok (v::l)
theorem zM {r:Row} {off:Nat} {h:Option Nat}:∀ (n j:Nat) (l:List AV),(DK r off h j n).run=some l→l=dM r.get (off+j) n∧(n=0∨off+j+n≤r.len)
 | 0,j,l,hr=>⟨(Tr.af hr).symm,.inl rfl⟩
 | n+1,j,l,hr=>by
   simp only[DK] at hr;obtain ⟨v,h1,hr⟩:=Tr.bind_some hr;obtain ⟨m,h2,hr⟩:=Tr.bind_some hr;have hr:=Tr.af hr;obtain ⟨k1,k2⟩:=zL h1;obtain ⟨k3,k4⟩:=zM n (j+1) m h2;rw[se] at k1 k2;refine ⟨?_,.inr wO⟩;rw[← hr,dM,k2,k3,show off+(j+1)=off+j+1 by omega]
def HG:List da→Nat→Nat→Nat→Nat→Tr AV
 | [],_,_,_,_=>.bad
 | .one _::r,pos,h,off,n=>match h with
   | 0=>.bad
   | h+1=>HG r (Nat.succ pos) h off n
 | .arr k z m::r,pos,h,off,n=>cond (Nat.blt h m) (.req (dP off n pos m) (.ok (.agg (.M [.arr k (qO z (bQ off pos)) n])))) (HG r (Nat.add pos m) (Nat.sub h m) off n)
theorem xQ:∀ (l:List da) (pos h off n:Nat) (v:AV),0<n→(HG l pos h off n).run=some v→pos≤off∧off-pos+n≤aE l∧∃ k z,lM l (off-pos) n=some (k,z)∧v=.agg (.M [.arr k z n])
 | [],_,_,_,_,_,_,h=>(Tr.ai h).elim
 | .one _::r,pos,0,off,n,v,_,h=>(Tr.ai h).elim
 | .one u::r,pos,h'+1,off,n,v,hn,h=>by
   obtain ⟨h1,h2,k,z,h3,h4⟩:=xQ r (pos+1) h' off n v hn h;refine ⟨by omega,by simp only[aE,aV];omega,k,z,?_,h4⟩;rw[show off-pos=(off-(pos+1))+1 by omega];exact h3
 | .arr k z m::r,pos,h',off,n,v,hn,h=>by
   simp only[HG] at h;cases hb:Nat.blt h' m with
   | true =>
     rw[hb,cond_true] at h;obtain ⟨hc,h⟩:=Tr.aX h;rw[j6,decide_eq_true_eq] at hc;have h:=Tr.af h;refine ⟨hc.1,by simp only[aE,aV];omega,k,fun j=>z (off-pos+j),?_,?_⟩
     · simp only[lM];rw[if_pos wO]
     · rw[← h,m5,cw]
   | false =>
     rw[hb,cond_false] at h;obtain ⟨h1,h2,k',z',h3,h4⟩:=xQ r (pos+m) (h'-m) off n v hn h;refine ⟨by omega,by simp only[aE,aV];omega,k',z',?_,h4⟩;simp only[lM];rw[if_neg wO,if_pos wO,← h3];congr 1;omega
def HF:List da→Nat→Nat→Option Row
 | [],_,_=>none
 | .one _::r,o+1,n=>HF r o n
 | .one _::_,0,_=>none
 | .arr k z m::r,o,n=>cond (Nat.ble (Nat.add o n) m) (some (.M [.arr k (cond (Nat.beq o 0) z (qO z o)) n])) (cond (Nat.ble m o) (HF r (Nat.sub o m) n) none)
theorem xP:∀ (l:List da) (o n:Nat) (q:Row),HF l o n=some q→∃ k z,lM l o n=some (k,z)∧q=.M [.arr k z n]
 | [],_,_,_,h=>by cases h
 | .one u::r,o+1,n,q,h=>xP r o n q h
 | .one _::_,0,_,_,h=>by cases h
 | .arr k z m::r,o,n,q,h=>by
   simp only[HF] at h;cases hb:Nat.ble (Nat.add o n) m with
   | true =>
     rw[hb,cond_true] at h;have hle:o+n≤m:=Nat.le_of_ble_eq_true hb;simp only[Option.some.injEq] at h;refine ⟨k,fun j=>z (o+j),by simp only[lM];rw[if_pos hle],?_⟩;rw[← h];cases ho:Nat.beq o 0 with
     | true =>
       have:=Nat.eq_of_beq_eq_true ho;subst this;simp only[cond_true,Nat.zero_add]
     | false=>rw[cond_false,m5]
   | false =>
     rw[hb,cond_false] at h;cases hm:Nat.ble m o with
     | true =>
       rw[hm,cond_true] at h;have hle:m≤o:=Nat.le_of_ble_eq_true hm;have hnl:¬ (o+n≤m):=fun hc=>by
        have:Nat.ble (Nat.add o n) m=true:=by rw[Nat.ble_eq];exact hc
        rw[hb] at this;cases this
       obtain ⟨k',z',h1,h2⟩:=xP r (o-m) n q h;exact ⟨k',z',by simp only[lM];rw[if_neg hnl,if_pos hle];exact h1,h2⟩
     | false=>rw[hm,cond_false] at h;cases h
def zN (P:Program) (t:TypeId) (r:Row) (off:Nat) (h:Option Nat):Tr AV :=
 match fo P t with
 | some false=>DJ r off h
 | some true=>match bH P t with
   | some 0=>.bad
   | some (n+1)=>match r with
     | .M l=>cond (Nat.ble (Nat.succ n) 8) ((DK (.M l) off h 0 (Nat.succ n)).bind fun vs=>.ok (.agg (Row.ofList vs)))
       (match h with
       | none=>cond (Nat.ble (Nat.add off (Nat.succ n)) (aE l)) (cond (Nat.beq (aE l) (Nat.succ n)) (.ok (.agg ((Row.M l).cut off (Nat.succ n)))) (match HF l off (Nat.succ n) with
         | some q=>.ok (.agg q)
         | none=>.ok (.agg ((Row.M l).cut off (Nat.succ n))))) .bad
       | some h=>cond (Nat.beq (aE l) (Nat.succ n)) .bad (HG l 0 h off (Nat.succ n)))
     | .F f m=>.req (dW (au off (Nat.succ n)) m) (.ok (.agg ((Row.F f m).cut off (Nat.succ n))))
     | .I k l=>match h with
       | none=>wj (xI P t (.I k l) off)
       | some _=>.bad
     | .G l=>match h with
       | none=>wj (xI P t (.G l) off)
       | some _=>.bad
   | none=>.bad
 | none=>.bad
theorem uh       {P : Program} {t:TypeId} {r:Row} {off:Nat} {h:Option Nat} {v:AV} (hr:(zN P t r off h).run=some v):jN P t r off=some v:=by
 unfold zN at hr;split at hr
 · rename_i ha;obtain ⟨h1,h2⟩:=zL hr;unfold jN;rw[ha];dsimp only;rw[if_pos h1,h2]
 · rename_i ha;split at hr
   · exact (Tr.ai hr).elim
   · rename_i n hs;split at hr
     · rename_i l;unfold jN;rw[ha,hs];dsimp only;cases hb:Nat.ble (Nat.succ n) 8 with
       | true =>
         rw[hb,cond_true] at hr;obtain ⟨vs,h1,hr⟩:=Tr.bind_some hr;have hr:=Tr.af hr;obtain ⟨k1,k2⟩:=zM _ _ _ h1;rw[if_pos wO,← hr,k1];simp only[Row.cut];rw[show Nat.ble (n+1) 8=true from hb,if_pos rfl,Nat.add_zero];rfl
       | false =>
         rw[hb,cond_false] at hr;split at hr
         · cases hc : Nat.ble (Nat.add off (Nat.succ n)) (aE l) with
           | true =>
             rw[hc,cond_true] at hr;rw[Nat.ble_eq] at hc;rw[if_pos (show off+(n+1)≤(Row.M l).len from hc)];cases hq:Nat.beq (aE l) (Nat.succ n) with
             | true=>rw[hq,cond_true] at hr;rw[← Tr.af hr]
             | false =>
               rw[hq,cond_false] at hr;split at hr
               · rename_i q hseg;obtain ⟨k,z,h3,h4⟩:=xP _ _ _ _ hseg;simp only[Row.cut];rw[show Nat.ble (n+1) 8=false from hb,if_neg (by simp),show Nat.beq (aE l) (n+1)=false from hq,Bool.and_false,if_neg (by simp)];have : Row.sub (.M l) off (n+1)=.M [.arr k z (n+1)]:=by
                  match l,h3,hq with
                  | [],h3,_=>simp[lM] at h3
                  | [.arr k' z' m],h3,hq =>
                    simp only[lM] at h3;split at h3
                    · simp only[nP] at h3;obtain ⟨rfl,rfl⟩:=h3;rfl
                    · split at h3<;>simp at h3
                  | .one u::r,h3,hq =>
                    simp only[Row.sub];rw[show Nat.beq (aE (.one u::r)) (n+1)=false from hq,Bool.and_false,h3];rfl
                  | .arr k' z' m::s::r,h3,hq =>
                    simp only[Row.sub];rw[show Nat.beq (aE (.arr k' z' m::s::r)) (n+1)=false from hq,Bool.and_false,h3];rfl
                 rw[this,← Tr.af hr,h4]
               · rw[← Tr.af hr]
           | false=>rw[hc,cond_false] at hr;exact (Tr.ai hr).elim
         · rename_i h;cases hc:Nat.beq (aE l) (Nat.succ n) with
           | true=>rw[hc,cond_true] at hr;exact (Tr.ai hr).elim
           | false =>
             rw[hc,cond_false] at hr;obtain ⟨h1,h2,k,z,h3,h4⟩:=xQ _ _ _ _ _ _ (Nat.succ_pos n) hr;rw[Nat.sub_zero] at h2 h3;rw[if_pos (show off+(n+1)≤(Row.M l).len from h2)];simp only[Row.cut];rw[show Nat.ble (n+1) 8=false from hb,if_neg (by simp),show Nat.beq (aE l) (n+1)=false from hc,Bool.and_false,if_neg (by simp)];have : Row.sub (.M l) off (n+1)=.M [.arr k z (n+1)]:=by
              match l,h3,hc with
              | [],h3,_=>simp[lM] at h3
              | [.arr k' z' m],h3,hc =>
                simp only[lM] at h3;split at h3
                · simp only[nP] at h3;obtain ⟨rfl,rfl⟩:=h3;rfl
                · split at h3<;>simp at h3
              | .one u::r,h3,hc =>
                simp only[Row.sub];rw[show Nat.beq (aE (.one u::r)) (n+1)=false from hc,Bool.and_false,h3];rfl
              | .arr k' z' m::s::r,h3,hc =>
                simp only[Row.sub];rw[show Nat.beq (aE (.arr k' z' m::s::r)) (n+1)=false from hc,Bool.and_false,h3];rfl
             rw[this,h4]
     · rename_i f m;obtain ⟨hc,hr⟩:=Tr.aX hr;rw[ln,decide_eq_true_eq,aH] at hc;unfold jN;rw[ha,hs];dsimp only;rw[if_pos (show off+(n+1)≤(Row.F f m).len from hc),← Tr.af hr]
     · split at hr
       · rw[dp,wq] at hr;exact hr
       · exact (Tr.ai hr).elim
     · split at hr
       · rw[dp,wq] at hr;exact hr
       · exact (Tr.ai hr).elim
   · exact (Tr.ai hr).elim
 · exact (Tr.ai hr).elim

def xN (H:aa) (d i v:Nat) (h:Option Nat):Tr Row :=
 match h with
 | none=>wj (C0 H d i v)
 | some _=>match nN H d i with
   | (ver,.row r)=>.req (cH ver v) (.ok r)
   | _=>.bad
theorem lI {H:aa} {d i v:Nat} {h:Option Nat} {r:Row} (hr:(xN H d i v h).run=some r):c8 H d i v=some r:=by
 unfold xN at hr;split at hr
 · rw[dp,yJ] at hr;exact hr
 · rw[pt] at hr;split at hr
   · rename_i ver q hg;obtain ⟨hc,hr2⟩:=Tr.aX hr;rw[fV,decide_eq_true_eq] at hc;subst hc;unfold c8;rw[hg];simp only[Nat.beq_refl,if_true];rw[Tr.af hr2]
   · exact (Tr.ai hr).elim
def loadT (P:Program) (H:aa) (t:TypeId) (a:HV):Tr AV :=
 match a.1 with
 | .ptr d i v off=>(xN H d i v a.2).bind fun r=>(zN P t r off a.2).bind fun x=>.ok (mf d x)
 | .ptrT s r off=>(zN P t r off a.2).bind fun x=>.ok (VC s x)
 | _=>.bad
theorem zd {P:Program} {H:aa} {t:TypeId} {a:HV} {v:AV} (hr:(loadT P H t a).run=some v):pC P H t a.1=some v:=by
 unfold loadT at hr;unfold pC;split at hr
 · rename_i d i ver off ha;obtain ⟨r,h1,hr⟩:=Tr.bind_some hr;obtain ⟨x,h2,hr⟩:=Tr.bind_some hr;rw[ha];dsimp only;rw[lI h1];dsimp only;rw[uh h2,← Tr.af hr];rfl
 · rename_i s r off ha;obtain ⟨x,h2,hr⟩:=Tr.bind_some hr;rw[ha];dsimp only;rw[uh h2,← Tr.af hr];rfl
 · exact (Tr.ai hr).elim

def ru:List da→Nat→AV→Option (List da)
 | [],_,_=>none
 | .one u::r,j,v=>match j with
   | 0=>some (.one v::r)
   | j+1=>match ru r j v with
     | some r'=>some (.one u::r')
     | none=>none
 | .arr k z n::r,j,v=>cond (Nat.blt j n) (match v with
    | .int k' x=>cond (im k' k) (some (.arr k (dh z j x) n::r)) none
    | _=>none)
   (match ru r (Nat.sub j n) v with
     | some r'=>some (.arr k z n::r')
     | none=>none)
theorem uz:∀ (l:List da) (j:Nat) (v:AV) (l':List da),ru l j v=some l'→j<aE l∧ka l j v=l'
 | [],_,_,_,h=>by simp[ru] at h
 | .one u::r,0,v,l',h=>by
   simp only[ru,Option.some.injEq] at h;exact ⟨by simp only[aE,aV];omega,h⟩
 | .one u::r,j+1,v,l',h=>by
   simp only[ru] at h;split at h
   · rename_i r' hr;have:=uz r j v r' hr;simp only[Option.some.injEq] at h;exact ⟨by simp only[aE,aV];omega,by simp only[ka];rw[this.2];exact h⟩
   · simp at h
 | .arr k z n::r,j,v,l',h=>by
   simp only[ru] at h;cases hb:Nat.blt j n with
   | true =>
     rw[hb,cond_true] at h;have hj:=CC hb;split at h
     · rename_i k' x;rw[kE] at h;split at h
       · rename_i hk;simp only[Option.some.injEq] at h;refine ⟨by simp only[aE,aV];omega,?_⟩;simp only[ka];rw[if_pos hj,if_pos hk,← h,sj]
       · simp at h
     · simp at h
   | false =>
     rw[hb,cond_false] at h;have hj:=Ko hb;split at h
     · rename_i r' hr;have:=uz r (j-n) v r' hr;simp only[Option.some.injEq] at h;exact ⟨by simp only[aE,aV];omega,by simp only[ka];rw[if_neg hj,this.2];exact h⟩
     · simp at h
def Fe:List da→Nat→Nat→Nat→AV→Tr (List da)
 | [],_,_,_,_=>.bad
 | .one u::r,pos,h,off,v=>match h with
   | 0=>.bad
   | h+1=>(Fe r (Nat.succ pos) h off v).bind fun r'=>.ok (.one u::r')
 | .arr k z n::r,pos,h,off,v=>cond (Nat.blt h n) (match v with
    | .int k' x=>cond (im k' k) (.req (dP off 1 pos n) (.ok (.arr k (dh z (bQ off pos) x) n::r))) .bad
    | _=>.bad)
   ((Fe r (Nat.add pos n) (Nat.sub h n) off v).bind fun r'=>.ok (.arr k z n::r'))
theorem xS:∀ (l:List da) (pos h off:Nat) (v:AV) (l':List da),(Fe l pos h off v).run=some l'→pos≤off∧off-pos<aE l∧ka l (off-pos) v=l'
 | [],_,_,_,_,_,h=>(Tr.ai h).elim
 | .one _::r,pos,0,off,v,l',h=>(Tr.ai h).elim
 | .one u::r,pos,h'+1,off,v,l',h=>by
   simp only[Fe] at h;obtain ⟨r',hr,h⟩:=Tr.bind_some h;obtain ⟨h1,h2,h3⟩:=xS r (pos+1) h' off v r' hr;refine ⟨by omega,by simp only[aE,aV];omega,?_⟩;rw[show off-pos=(off-(pos+1))+1 by omega,← Tr.af h,← h3];rfl
 | .arr k z n::r,pos,h',off,v,l',h=>by
   simp only[Fe] at h;cases hb:Nat.blt h' n with
   | true =>
     rw[hb,cond_true] at h;split at h
     · rename_i k' x;rw[kE] at h;split at h
       · rename_i hk;obtain ⟨hc,h⟩:=Tr.aX h;rw[j6,decide_eq_true_eq] at hc;refine ⟨hc.1,by simp only[aE,aV];omega,?_⟩;simp only[ka];rw[if_pos wO,if_pos hk,← Tr.af h,sj,cw]
       · exact (Tr.ai h).elim
     · exact (Tr.ai h).elim
   | false =>
     rw[hb,cond_false] at h;obtain ⟨r',hr,h⟩:=Tr.bind_some h;obtain ⟨h1,h2,h3⟩:=xS r (pos+n) (h'-n) off v r' hr;refine ⟨by omega,by simp only[aE,aV];omega,?_⟩;simp only[ka];rw[if_neg wO,← Tr.af h,← h3,show off-pos-n=off-(pos+n) by omega]
def Nr (l:List da) (off:Nat) (h:Option Nat) (v:AV):Tr (List da) :=
 match l with
 | [.arr k z n]=>match v with
   | .int k' x=>cond (im k' k) (.req (bX off n) (.ok [.arr k (dh z off x) n])) .bad
   | _=>.bad
 | l=>match h with
   | none=>wj (ru l off v)
   | some h=>Fe l 0 h off v
theorem JU {l l':List da} {off:Nat} {h:Option Nat} {v:AV} (hr:(Nr l off h v).run=some l'):off<aE l∧ka l off v=l':=by
 unfold Nr at hr;split at hr
 · rename_i k z n;split at hr
   · rename_i k' x;rw[kE] at hr;split at hr
     · rename_i hk;obtain ⟨hc,hr⟩:=Tr.aX hr;rw[iG,decide_eq_true_eq] at hc;refine ⟨by simp only[aE,aV];omega,?_⟩;simp only[ka];rw[if_pos hc,if_pos hk,← Tr.af hr,sj]
     · exact (Tr.ai hr).elim
   · exact (Tr.ai hr).elim
 · split at hr
   · rw[dp] at hr;exact uz _ _ _ _ hr
   · have:=xS _ _ _ _ _ _ hr;rw[Nat.sub_zero] at this;exact this.2
def zZ (off:Nat) (h:Option Nat):List AV→Nat→List da→Tr (List da)
 | [],_,l=>.ok l
 | v::vs,j,l=>(Nr l (EO off h j) (yM h j) v).bind fun l'=>zZ off h vs (Nat.succ j) l'
theorem uy {off:Nat} {h:Option Nat}:∀ (vs:List AV) (j:Nat) (l l':List da),(zZ off h vs j l).run=some l'→(vs=[]∨off+j+vs.length≤aE l)∧Row.cX (.M l) (off+j) vs=.M l'
 | [],j,l,l',h=>⟨.inl rfl,by rw[Tr.af h];rfl⟩
 | v :: vs,j,l,l',h=>by
   simp only[zZ] at h;obtain ⟨l1,h1,h⟩:=Tr.bind_some h;obtain ⟨k1,k2⟩:=JU h1;rw[se] at k1 k2;obtain ⟨k3,k4⟩:=uy vs (j+1) l1 l' h;have hl:aE l1=aE l:=by rw[← k2,ni]
   refine ⟨.inr ?_,?_⟩
   · rcases k3 with rfl | k3
     · simp only[List.length_cons,List.length_nil];omega
     · simp only[List.length_cons];omega
   · simp only[Row.cX,Row.set,k2];exact k4
def Hl (l:List da) (off:Nat) (h:Option Nat) (q:Row):Tr Row :=
 match l,q with
 | [.arr k z m],.M [.arr k' z' n]=>cond (im k' k) (.req (dP off n 0 m) (.ok (.M [.arr k (nz z off z' n) m]))) .bad
 | l,q=>cond (Nat.ble 9 (iN q)) (match h with
    | none=>cond (Nat.ble (Nat.add off (iN q)) (aE l)) (.ok (xG l off q)) .bad
    | some _=>.bad)
   (match lQ q with
     | []=>.bad
     | v::vs=>(zZ off h (v::vs) 0 l).bind fun l'=>.ok (.M l'))
theorem xH {l:List da} {off:Nat} {h:Option Nat} {q r:Row} (hr:(Hl l off h q).run=some r):off+q.len≤aE l∧j8 (.M l) off q=r:=by
 unfold Hl at hr;split at hr
 · rename_i k z m k' z' n;rw[kE] at hr;split at hr
   · rename_i hk;obtain ⟨hc,hr⟩:=Tr.aX hr;rw[j6,decide_eq_true_eq] at hc;refine ⟨by simp only[Row.len,aE,aV];omega,?_⟩;simp only[j8];rw[if_pos hk,← Tr.af hr,rL]
   · exact (Tr.ai hr).elim
 · rename_i hne;have hA:j8 (.M l) off q=xG l off q:=by
    simp only[j8];split
    · rename_i k z m;split
      · rename_i k' z' n;exact (hne _ _ _ _ _ _ rfl rfl).elim
      · rfl
    · rfl
   rw[hA];rw[fv] at hr;cases hb:Nat.ble 9 q.len with
   | true =>
     rw[hb,cond_true] at hr;split at hr
     · cases hc:Nat.ble (Nat.add off q.len) (aE l) with
       | true =>
         rw[hc,cond_true] at hr;rw[Nat.ble_eq] at hc;exact ⟨hc,Tr.af hr⟩
       | false=>rw[hc,cond_false] at hr;exact (Tr.ai hr).elim
     · exact (Tr.ai hr).elim
   | false =>
     rw[hb,cond_false,oO] at hr;have hl:=Row.bA q;split at hr
     · exact (Tr.ai hr).elim
     · rename_i v vs hq;obtain ⟨l1,h1,hr⟩:=Tr.bind_some hr;obtain ⟨k1,k2⟩:=uy _ _ _ _ h1;rw[hq] at hl;refine ⟨?_,?_⟩
       · rcases k1 with k1 | k1
         · simp at k1
         · omega
       · unfold xG;rw[hb,if_neg (by simp),hq,← Tr.af hr,← k2];rfl
def M9 (d:Nat) (x:AV):Bool :=
 match d with
 | 0=>false
 | _+1=>match x with
   | .slc 0 _ _ _ _ _ _=>true
   | _=>false
def storeT (P:Program) (H:aa) (t:TypeId) (a:HV) (x:AV):Tr Delta :=
 match a.1 with
 | .ptr d i v off=>cond (M9 d x) (match a.2 with | none=>wj (sh P H t a.1 x) | some _=>.bad)
   (cond (j5 H d) .bad ((xN H d i v a.2).bind fun r=>match bH P t with
     | some n=>match x.row with
       | some q=>cond (Nat.beq (iN q) n) (match r with
         | .M l=>(Hl l off a.2 (jA d q)).bind fun r'=>.ok (.set d i (v,.row r'))
         | _=>match a.2 with | none=>wj (sh P H t a.1 x) | some _=>.bad) .bad
       | none=>.bad
     | none=>.bad))
 | _=>.bad
theorem Fl {P:Program} {H:aa} {t:TypeId} {a:HV} {x:AV} {δ:Delta} (hr:(storeT P H t a x).run=some δ):gQ P H t a.1 x=some δ:=by
 unfold storeT at hr;split at hr
 · rename_i d i v off ha;cases ho:M9 d x with
   | true =>
     rw[ho,cond_true] at hr;split at hr
     · rw[dp,uE] at hr;exact hr
     · exact (Tr.ai hr).elim
   | false =>
     rw[ho,cond_false,gG] at hr;cases hl:aM H d with
     | true=>rw[hl,cond_true] at hr;exact (Tr.ai hr).elim
     | false =>
       rw[hl,cond_false] at hr;obtain ⟨r,h1,hr⟩:=Tr.bind_some hr;split at hr
       · rename_i n hs;split at hr
         · rename_i q hq;rw[fv] at hr;cases hb:Nat.beq q.len n with
           | false=>rw[hb,cond_false] at hr;exact (Tr.ai hr).elim
           | true =>
             rw[hb,cond_true] at hr;have hb:q.len=n:=by simpa using hb
             split at hr
             · rename_i l;obtain ⟨r',h2,hr⟩:=Tr.bind_some hr;obtain ⟨k1,k2⟩:=xH h2;rw[fx] at k1;rw[ha];unfold gQ;dsimp only;rw[hl,if_neg (by simp),lI h1,hs,hq];dsimp only;rw[if_pos ⟨hb,by show off+n≤aE l;omega⟩];have:∀ (d':Nat) (j w o sz len:Nat) (cap:Option Nat),d=d'+1→x≠.slc 0 j w o sz len cap:=by
                rintro d' j w o sz len cap rfl rfl;simp[M9] at ho
               rw[← Tr.af hr,← k2];split
               · exact absurd rfl (this _ _ _ _ _ _ _ rfl)
               · rfl
             · split at hr
               · rw[dp,uE] at hr;exact hr
               · exact (Tr.ai hr).elim
         · exact (Tr.ai hr).elim
       · exact (Tr.ai hr).elim
 · exact (Tr.ai hr).elim

def hOr (h:Option Nat) (off:Nat):Nat :=
 match h with
 | none=>off
 | some h=>h
def oe (P:Program) (t:TypeId) (a:HV) (f:Nat):Tr HV :=
 match P.underlying t with
 | some (.struct fs)=>match fs[f]? with
   | some g=>match bH P g.type with
     | some (_+1)=>match a.1 with
       | .ptr d i v off=>.ok (.ptr d i v (EO off a.2 g.offset),yM a.2 g.offset)
       | .ptrT s r off=>.ok (.ptrT s r (EO off a.2 g.offset),yM a.2 g.offset)
       | _=>.bad
     | _=>.bad
   | none=>.bad
 | _=>.bad
theorem ve {P:Program} {t:TypeId} {a b:HV} {f:Nat} (hr:(oe P t a f).run=some b):jg P t a.1 f=some b.1:=by
 unfold oe at hr;unfold jg;split at hr
 · rename_i fs hu;rw[hu];dsimp only;split at hr
   · rename_i g hg;rw[hg];dsimp only;split at hr
     · rename_i n hs;rw[hs];dsimp only;split at hr
       · rename_i d i v off ha;rw[ha,← Tr.af hr];simp only[mh,se]
       · rename_i s r off ha;rw[ha,← Tr.af hr];simp only[mh,se]
       · exact (Tr.ai hr).elim
     · exact (Tr.ai hr).elim
   · exact (Tr.ai hr).elim
 · exact (Tr.ai hr).elim
def isLit (x:HV):Bool :=
 match x.2 with
 | some _=>true
 | none=>false
def G5 (off:Nat) (ic:Bool) (i:Int) (z:Nat):Nat:=cond ic (Nat.add off (Nat.mul i.toNat z)) (aq off i z)
theorem sd (off:Nat) (ic:Bool) (i:Int) (z:Nat):G5 off ic i z=off+i.toNat*z:=by
 cases ic with
 | true=>rfl
 | false=>exact bo _ _ _
def C7 (h:Option Nat) (off:Nat) (ic:Bool) (i:Int) (z:Nat):Option Nat :=
 cond ic (yM h (Nat.mul i.toNat z)) (some (hOr h off))
def Mv (P:Program) (t:TypeId) (a:HV) (ic:Bool) (i:Int):Tr HV :=
 match P.underlying t with
 | some (.array n e)=>match bH P e with
   | some z=>match a.1 with
     | .ptr d j v off=>.req (cu i n) (.ok (.ptr d j v (G5 off ic i z),C7 a.2 off ic i z))
     | .ptrT s r off=>.req (cu i n) (.ok (.ptrT s r (G5 off ic i z),C7 a.2 off ic i z))
     | _=>.bad
   | none=>.bad
 | some (.slice e)=>match bH P e with
   | some z=>match a.1 with
     | .slc d j v off sz len cap=>cond (Nat.beq z sz) (.req (cu i len) (.ok (.ptr d j v (G5 off ic i z),match cap with
       | some _=>C7 none off ic i z
       | none=>some off))) .bad
     | .slcT s r sz len _=>cond (Nat.beq z sz) (.req (cu i len) (.ok (.ptrT s r (G5 0 ic i z),C7 none 0 ic i z))) .bad
     | _=>.bad
   | none=>.bad
 | _=>.bad
def Rs (P:Program) (t:TypeId) (x:AV) (ic:Bool) (i:Int):Tr AV :=
 cond ic (wj (qu P t x i)) (match P.underlying t with
  | some (.array n e)=>match x with
    | .agg r=>match bH P e with
      | some z=>.req (cu i n) (zN P e r (aq 0 i z) (some 0))
      | none=>.bad
    | _=>.bad
  | _=>.bad)
theorem MB {P:Program} {t:TypeId} {x v:AV} {ic:Bool} {i:Int} (hr:(Rs P t x ic i).run=some v):qu P t x i=some v:=by
 unfold Rs at hr;cases ic with
 | true=>rw[cond_true,dp] at hr;exact hr
 | false =>
   rw[cond_false] at hr;split at hr
   · rename_i n e hu;split at hr
     · split at hr
       · rename_i z hs;obtain ⟨hc,hr⟩:=Tr.aX hr;rw[qt,decide_eq_true_eq] at hc;have h:=uh hr;rw[bo,Nat.zero_add] at h;unfold qu;rw[hu];dsimp only;rw[hs];dsimp only;rw[if_pos hc,h]
       · exact (Tr.ai hr).elim
     · exact (Tr.ai hr).elim
   · exact (Tr.ai hr).elim
theorem I4 {P:Program} {t:TypeId} {a b:HV} {ic:Bool} {i:Int} (hr:(Mv P t a ic i).run=some b):jn P t a.1 i=some b.1:=by
 unfold Mv at hr;unfold jn;split at hr
 · rename_i n e hu;split at hr
   · rename_i z hs;split at hr
     · rename_i d j v off ha;obtain ⟨hc,hr⟩:=Tr.aX hr;rw[qt,decide_eq_true_eq] at hc;rw[hu,ha];dsimp only;rw[hs];dsimp only;rw[if_pos hc,← Tr.af hr];simp only[mh,sd]
     · rename_i s r off ha;obtain ⟨hc,hr⟩:=Tr.aX hr;rw[qt,decide_eq_true_eq] at hc;rw[hu,ha];dsimp only;rw[hs];dsimp only;rw[if_pos hc,← Tr.af hr];simp only[mh,sd]
     · exact (Tr.ai hr).elim
   · exact (Tr.ai hr).elim
 · rename_i e hu;split at hr
   · rename_i z hs;split at hr
     · rename_i d j v off sz len cap ha;cases hb:Nat.beq z sz with
       | false=>rw[hb,cond_false] at hr;exact (Tr.ai hr).elim
       | true =>
         rw[hb,cond_true] at hr;have hb:z=sz:=by simpa using hb
         subst hb;obtain ⟨hc,hr⟩:=Tr.aX hr;rw[qt,decide_eq_true_eq] at hc;rw[hu,ha];dsimp only;rw[if_pos ⟨hc.1,hc.2,hs⟩,← Tr.af hr];simp only[sd]
     · rename_i s r sz len full ha;cases hb:Nat.beq z sz with
       | false=>rw[hb,cond_false] at hr;exact (Tr.ai hr).elim
       | true =>
         rw[hb,cond_true] at hr;have hb:z=sz:=by simpa using hb
         subst hb;obtain ⟨hc,hr⟩:=Tr.aX hr;rw[qt,decide_eq_true_eq] at hc;rw[hu,ha];dsimp only;rw[if_pos ⟨hc.1,hc.2,hs⟩,← Tr.af hr];simp only[sd,Nat.zero_add]
     · exact (Tr.ai hr).elim
   · exact (Tr.ai hr).elim
 · exact (Tr.ai hr).elim

end
end Go.Eng
