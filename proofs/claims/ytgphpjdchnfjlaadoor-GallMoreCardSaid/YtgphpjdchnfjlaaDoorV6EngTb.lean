/- The engine as a tree: frames with hints, rows, loads, stores, addresses. -/
import Derived.Test.YtgphpjdchnfjlaaDoorV6EngTa
set_option linter.unusedVariables false
set_option linter.unusedSimpArgs false
namespace Go.Eng
noncomputable section

abbrev HV:=AV×Option Nat
abbrev aG:=List (Nat×HV)
def strip (f:aG):aE:=List.rec (motive:=fun _=>aE) [] (fun p _ ih=>(p.1,p.2.1)::ih) f
theorem cO (x:Nat) (v:HV) (r:aG):strip ((x,v)::r)=(x,v.1)::strip r:=rfl
def lU (f:aG) (y:Nat):HV:=List.rec (motive:=fun _=>HV) (AV.undef,none) (fun p _ ih=>Bool.rec ih p.2 (Nat.beq p.1 y)) f
theorem ff:∀ (f:aG) (y:Nat),(lU f y).1=bM (strip f) y
 | [],y=>rfl
 | (x,v)::r,y=>by
   have e:lU ((x,v)::r) y=Bool.rec (lU r y) v (Nat.beq x y):=rfl;rw[e,cO,bM];cases Nat.beq x y with
   | true=>rfl
   | false=>exact ff r y
def yj (f:aG) (y:Nat) (u:HV):aG:=List.rec (motive:=fun _=>aG) [(y,u)] (fun p r ih=>Bool.rec (motive:=fun _=>aG) (p::ih) (Bool.rec (motive:=fun _=>aG) ((y,u)::p::r) ((y,u)::r) (Nat.beq p.1 y)) (Nat.ble y p.1)) f
theorem yk:∀ (f:aG) (y:Nat) (u:HV),strip (yj f y u)=uQ (strip f) y u.1
 | [],y,u=>rfl
 | (x,v)::r,y,u=>by
   have e:yj ((x,v)::r) y u=Bool.rec (motive:=fun _=>aG) ((x,v)::yj r y u) (Bool.rec (motive:=fun _=>aG) ((y,u)::(x,v)::r) ((y,u)::r) (Nat.beq x y)) (Nat.ble y x):=rfl;rw[e,cO,uQ,← yk r y u];cases Nat.ble y x with
   | false=>rfl
   | true=>cases Nat.beq x y<;>rfl
def gp (f:aG) (m:Nat):aG:=List.rec (motive:=fun _=>aG) [] (fun p _ ih=>Bool.rec (motive:=fun _=>aG) (p::ih) ih (Nat.beq (Nat.land (Nat.shiftRight m p.1) 1) 1)) f
theorem eR:∀ (f:aG) (m:Nat),strip (gp f m)=bT (strip f) m
 | [],m=>rfl
 | (x,v)::r,m=>by
   have e:gp ((x,v)::r) m=Bool.rec (motive:=fun _=>aG) ((x,v)::gp r m) (gp r m) (Nat.beq (Nat.land (Nat.shiftRight m x) 1) 1):=rfl;have e2:bT ((x,v.1)::strip r) m=Bool.rec (motive:=fun _=>aE) ((x,v.1)::bT (strip r) m) (bT (strip r) m) (Nat.beq (Nat.land (Nat.shiftRight m x) 1) 1):=rfl;rw[e,cO,e2,← eR r m];cases Nat.beq (Nat.land (Nat.shiftRight m x) 1) 1<;>rfl
def Rt (v:Value):Option Nat :=
 match v with
 | .int _ _=>some 1
 | .bool _=>some 1
 | _=>none
def cA (fr:aG) (x:Operand):HV:=Operand.rec (motive:=fun _=>HV) (fun t=>lU fr t) (fun v=>(kV v,Rt v)) (fun _=>(.undef,none)) (fun f=>(.fn (.func f) [] [],none)) x
theorem a8 (fr:aG) (x:Operand):(cA fr x).1=b9 (strip fr) x:=by
 cases x with
 | tmp t=>exact ff fr t
 | _=>rfl
def yV (fr:aG) (l:List Operand):List AV:=rz (fun x=>(cA fr x).1) l
theorem tL (fr:aG):∀ l,yV fr l=lD (strip fr) l
 | []=>rfl
 | x::l=>by
   have e:yV fr (x::l)=(cA fr x).1::yV fr l:=rfl;rw[e,tL fr l,a8];rfl
def rh (nt:Nat) (fr:aG) (dst:Option Tmp) (v:HV):aG:=Option.rec (motive:=fun _=>aG) fr (fun d=>Bool.rec (motive:=fun _=>aG) fr (yj fr d v) (Nat.ble (Nat.succ d) nt)) dst
theorem mQ (nt:Nat) (fr:aG) (dst:Option Tmp) (v:HV):strip (rh nt fr dst v)=iJ nt (strip fr) dst v.1:=by
 rw[← GS];cases dst with
 | none=>rfl
 | some d =>
   have e:rh nt fr (some d) v=Bool.rec (motive:=fun _=>aG) fr (yj fr d v) (Nat.ble (Nat.succ d) nt):=rfl;have e2:GR nt (strip fr) (some d) v.1=Bool.rec (motive:=fun _=>aE) (strip fr) (vD (strip fr) d v.1) (Nat.ble (Nat.succ d) nt):=rfl;rw[e,e2,x6,← yk];cases Nat.ble (Nat.succ d) nt<;>rfl

def qR:List dh→Nat→Option AV
 | [],_=>none
 | .one v::r,j=>match j with
   | 0=>some v
   | j+1=>qR r j
 | .arr k z n::r,j=>cond (Nat.blt j n) (some (.int k (z j))) (qR r (Nat.sub j n))
theorem Cd {a b:Nat} (h:Nat.blt a b=true):a<b:=by rwa [Nat.blt_eq] at h
theorem J1 {a b:Nat} (h:Nat.blt a b=false):¬ a<b:=fun e=>by
 have:Nat.blt a b=true:=by rw[Nat.blt_eq];exact e
 rw[h] at this;cases this
theorem sO:∀ (l:List dh) (j:Nat) (v:AV),qR l j=some v→j<aB l∧getM l j=v
 | [],_,_,h=>by simp[qR] at h
 | .one u::r,0,v,h=>by
   simp only[qR,Option.some.injEq] at h;exact ⟨by simp only[aB,aQ];omega,h⟩
 | .one u::r,j+1,v,h=>by
   have:=sO r j v (by simpa[qR] using h);exact ⟨by simp only[aB,aQ];omega,this.2⟩
 | .arr k z n::r,j,v,h=>by
   simp only[qR] at h;simp only[aB,aQ,getM];cases hb:Nat.blt j n with
   | true =>
     rw[hb,cond_true,Option.some.injEq] at h;have:=Cd hb;exact ⟨by omega,by rw[if_pos this];exact h⟩
   | false =>
     rw[hb,cond_false] at h;have hn:=J1 hb;have:=sO r (j-n) v h;exact ⟨by omega,by rw[if_neg hn];exact this.2⟩
def Hc:List dh→Nat→Nat→Nat→Tr AV
 | [],_,_,_=>.bad
 | .one _::r,pos,h,off=>match h with
   | 0=>.bad
   | h+1=>Hc r (Nat.succ pos) h off
 | .arr k z n::r,pos,h,off=>cond (Nat.blt h n) (.req (dX off 1 pos n) (.ok (.int k (z (dx off pos))))) (Hc r (Nat.add pos n) (Nat.sub h n) off)
theorem xw:∀ (l:List dh) (pos h off:Nat) (v:AV),(Hc l pos h off).run=some v→pos≤off∧off-pos<aB l∧getM l (off-pos)=v
 | [],_,_,_,_,h=>(Tr.ag h).elim
 | .one _::r,pos,0,off,v,h=>(Tr.ag h).elim
 | .one u::r,pos,h'+1,off,v,h=>by
   obtain ⟨h1,h2,h3⟩:=xw r (pos+1) h' off v h;refine ⟨by omega,by simp only[aB,aQ];omega,?_⟩;rw[show off-pos=(off-(pos+1))+1 by omega];exact h3
 | .arr k z n::r,pos,h',off,v,h=>by
   simp only[Hc] at h;cases hb:Nat.blt h' n with
   | true =>
     rw[hb,cond_true] at h;obtain ⟨hc,h⟩:=Tr.aS h;rw[j4,decide_eq_true_eq] at hc;have h:=Tr.ab h;refine ⟨hc.1,by simp only[aB,aQ];omega,?_⟩;simp only[getM];rw[if_pos wO,← h,dq]
   | false =>
     rw[hb,cond_false] at h;obtain ⟨h1,h2,h3⟩:=xw r (pos+n) (h'-n) off v h;refine ⟨by omega,by simp only[aB,aQ];omega,?_⟩;simp only[getM];rw[if_neg wO,← h3];congr 1;omega
def Dk (r:Row) (off:Nat) (h:Option Nat):Tr AV :=
 match r with
 | .F f n=>.req (bt off n) (.ok (f off))
 | .M l=>match l with
   | [.arr k z n]=>.req (bt off n) (.ok (.int k (z off)))
   | l=>match h with
     | none=>vW (qR l off)
     | some h=>Hc l 0 h off
 | .I k l=>match h with
   | none=>vW (jN (.I k l) off)
   | some _=>.req (bt off (gr l)) (.ok (.int k (ar l off)))
 | .G l=>match h with
   | none=>vW (jN (.G l) off)
   | some _=>.bad
theorem zi {r:Row} {off:Nat} {v:AV} (h:jN r off=some v):off<r.len∧r.get off=v:=by
 rw[ue] at h;split at h
 · rename_i h0;exact ⟨h0,Option.some.inj h⟩
 · simp at h
theorem za {r:Row} {off:Nat} {h:Option Nat} {v:AV} (hr:(Dk r off h).run=some v):off<r.len∧r.get off=v:=by
 unfold Dk at hr;split at hr
 · obtain ⟨hc,hr⟩:=Tr.aS hr;rw[ir,decide_eq_true_eq] at hc;exact ⟨hc,Tr.ab hr⟩
 · rename_i l;split at hr
   · rename_i k z n;obtain ⟨hc,hr⟩:=Tr.aS hr;rw[ir,decide_eq_true_eq] at hc;refine ⟨by simp only[Row.len,aB,aQ];omega,?_⟩;simp only[Row.get,getM];rw[if_pos hc];exact Tr.ab hr
   · split at hr
     · rw[dc] at hr;exact sO _ _ _ hr
     · have:=xw _ _ _ _ _ hr;rw[Nat.sub_zero] at this;exact this.2
 · split at hr
   · rw[dc] at hr;exact zi hr
   · obtain ⟨hc,hr⟩:=Tr.aS hr;rw[ir,decide_eq_true_eq,II] at hc;refine ⟨hc,?_⟩;rw[← Tr.ab hr,gL];rfl
 · split at hr
   · rw[dc] at hr;exact zi hr
   · exact (Tr.ag hr).elim
def Er (off:Nat) (h:Option Nat) (j:Nat):Nat :=
 match h with
 | none=>Nat.add off j
 | some _=>match j with
   | 0=>off
   | j+1=>ah off (Nat.succ j)
theorem r7 (off:Nat) (h:Option Nat) (j:Nat):Er off h j=off+j:=by
 unfold Er;split
 · rfl
 · split
   · rfl
   · rw[aF]
def ym (h:Option Nat) (j:Nat):Option Nat :=
 match h with
 | none=>none
 | some h=>some (Nat.add h j)
def Dl (r:Row) (off:Nat) (h:Option Nat):Nat→Nat→Tr (List AV)
 | _,0=>.ok []
 | j,n+1=>(Dk r (Er off h j) (ym h j)).bind fun v=>(Dl r off h (Nat.succ j) n).bind fun l=>.ok (v::l)
theorem zd {r:Row} {off:Nat} {h:Option Nat}:∀ (n j:Nat) (l:List AV),(Dl r off h j n).run=some l→l=dF r.get (off+j) n∧(n=0∨off+j+n≤r.len)
 | 0,j,l,hr=>⟨(Tr.ab hr).symm,.inl rfl⟩
 | n+1,j,l,hr=>by
   simp only[Dl] at hr;obtain ⟨v,h1,hr⟩:=Tr.bind_some hr;obtain ⟨m,h2,hr⟩:=Tr.bind_some hr;have hr:=Tr.ab hr;obtain ⟨k1,k2⟩:=za h1;obtain ⟨k3,k4⟩:=zd n (j+1) m h2;rw[r7] at k1 k2;refine ⟨?_,.inr wO⟩;rw[← hr,dF,k2,k3,show off+(j+1)=off+j+1 by omega]
def Ha:List dh→Nat→Nat→Nat→Nat→Tr AV
 | [],_,_,_,_=>.bad
 | .one _::r,pos,h,off,n=>match h with
   | 0=>.bad
   | h+1=>Ha r (Nat.succ pos) h off n
 | .arr k z m::r,pos,h,off,n=>cond (Nat.blt h m) (.req (dX off n pos m) (.ok (.agg (.M [.arr k (iO z (dx off pos)) n])))) (Ha r (Nat.add pos m) (Nat.sub h m) off n)
theorem xv:∀ (l:List dh) (pos h off n:Nat) (v:AV),0<n→(Ha l pos h off n).run=some v→pos≤off∧off-pos+n≤aB l∧∃ k z,lP l (off-pos) n=some (k,z)∧v=.agg (.M [.arr k z n])
 | [],_,_,_,_,_,_,h=>(Tr.ag h).elim
 | .one _::r,pos,0,off,n,v,_,h=>(Tr.ag h).elim
 | .one u::r,pos,h'+1,off,n,v,hn,h=>by
   obtain ⟨h1,h2,k,z,h3,h4⟩:=xv r (pos+1) h' off n v hn h;refine ⟨by omega,by simp only[aB,aQ];omega,k,z,?_,h4⟩;rw[show off-pos=(off-(pos+1))+1 by omega];exact h3
 | .arr k z m::r,pos,h',off,n,v,hn,h=>by
   simp only[Ha] at h;cases hb:Nat.blt h' m with
   | true =>
     rw[hb,cond_true] at h;obtain ⟨hc,h⟩:=Tr.aS h;rw[j4,decide_eq_true_eq] at hc;have h:=Tr.ab h;refine ⟨hc.1,by simp only[aB,aQ];omega,k,fun j=>z (off-pos+j),?_,?_⟩
     · simp only[lP];rw[if_pos wO]
     · rw[← h,mW,dq]
   | false =>
     rw[hb,cond_false] at h;obtain ⟨h1,h2,k',z',h3,h4⟩:=xv r (pos+m) (h'-m) off n v hn h;refine ⟨by omega,by simp only[aB,aQ];omega,k',z',?_,h4⟩;simp only[lP];rw[if_neg wO,if_pos wO,← h3];congr 1;omega
def G9:List dh→Nat→Nat→Option Row
 | [],_,_=>none
 | .one _::r,o+1,n=>G9 r o n
 | .one _::_,0,_=>none
 | .arr k z m::r,o,n=>cond (Nat.ble (Nat.add o n) m) (some (.M [.arr k (cond (Nat.beq o 0) z (iO z o)) n])) (cond (Nat.ble m o) (G9 r (Nat.sub o m) n) none)
theorem xu:∀ (l:List dh) (o n:Nat) (q:Row),G9 l o n=some q→∃ k z,lP l o n=some (k,z)∧q=.M [.arr k z n]
 | [],_,_,_,h=>by cases h
 | .one u::r,o+1,n,q,h=>xu r o n q h
 | .one _::_,0,_,_,h=>by cases h
 | .arr k z m::r,o,n,q,h=>by
   simp only[G9] at h;cases hb:Nat.ble (Nat.add o n) m with
   | true =>
     rw[hb,cond_true] at h;have hle:o+n≤m:=Nat.le_of_ble_eq_true hb;simp only[Option.some.injEq] at h;refine ⟨k,fun j=>z (o+j),by simp only[lP];rw[if_pos hle],?_⟩;rw[← h];cases ho:Nat.beq o 0 with
     | true =>
       have:=Nat.eq_of_beq_eq_true ho;subst this;simp only[cond_true,Nat.zero_add]
     | false=>rw[cond_false,mW]
   | false =>
     rw[hb,cond_false] at h;cases hm:Nat.ble m o with
     | true =>
       rw[hm,cond_true] at h;have hle:m≤o:=Nat.le_of_ble_eq_true hm;have hnl:¬ (o+n≤m):=fun hc=>by
        have:Nat.ble (Nat.add o n) m=true:=by rw[Nat.ble_eq];exact hc
        rw[hb] at this;cases this
       obtain ⟨k',z',h1,h2⟩:=xu r (o-m) n q h;exact ⟨k',z',by simp only[lP];rw[if_neg hnl,if_pos hle];exact h1,h2⟩
     | false=>rw[hm,cond_false] at h;cases h
def ze (P:Program) (t:TypeId) (r:Row) (off:Nat) (h:Option Nat):Tr AV :=
 match fc P t with
 | some false=>Dk r off h
 | some true=>match bF P t with
   | some 0=>.bad
   | some (n+1)=>match r with
     | .M l=>cond (Nat.ble (Nat.succ n) 8) ((Dl (.M l) off h 0 (Nat.succ n)).bind fun vs=>.ok (.agg (Row.ofList vs)))
       (match h with
       | none=>cond (Nat.ble (Nat.add off (Nat.succ n)) (aB l)) (cond (Nat.beq (aB l) (Nat.succ n)) (.ok (.agg ((Row.M l).cut off (Nat.succ n)))) (match G9 l off (Nat.succ n) with
         | some q=>.ok (.agg q)
         | none=>.ok (.agg ((Row.M l).cut off (Nat.succ n))))) .bad
       | some h=>cond (Nat.beq (aB l) (Nat.succ n)) .bad (Ha l 0 h off (Nat.succ n)))
     | .F f m=>.req (bH (ah off (Nat.succ n)) m) (.ok (.agg ((Row.F f m).cut off (Nat.succ n))))
     | .I k l=>match h with
       | none=>vW (xm P t (.I k l) off)
       | some _=>.bad
     | .G l=>match h with
       | none=>vW (xm P t (.G l) off)
       | some _=>.bad
   | none=>.bad
 | none=>.bad
theorem uc       {P : Program} {t:TypeId} {r:Row} {off:Nat} {h:Option Nat} {v:AV} (hr:(ze P t r off h).run=some v):jM P t r off=some v:=by
 unfold ze at hr;split at hr
 · rename_i ha;obtain ⟨h1,h2⟩:=za hr;unfold jM;rw[ha];dsimp only;rw[if_pos h1,h2]
 · rename_i ha;split at hr
   · exact (Tr.ag hr).elim
   · rename_i n hs;split at hr
     · rename_i l;unfold jM;rw[ha,hs];dsimp only;cases hb:Nat.ble (Nat.succ n) 8 with
       | true =>
         rw[hb,cond_true] at hr;obtain ⟨vs,h1,hr⟩:=Tr.bind_some hr;have hr:=Tr.ab hr;obtain ⟨k1,k2⟩:=zd _ _ _ h1;rw[if_pos wO,← hr,k1];simp only[Row.cut];rw[show Nat.ble (n+1) 8=true from hb,if_pos rfl,Nat.add_zero];rfl
       | false =>
         rw[hb,cond_false] at hr;split at hr
         · cases hc : Nat.ble (Nat.add off (Nat.succ n)) (aB l) with
           | true =>
             rw[hc,cond_true] at hr;rw[Nat.ble_eq] at hc;rw[if_pos (show off+(n+1)≤(Row.M l).len from hc)];cases hq:Nat.beq (aB l) (Nat.succ n) with
             | true=>rw[hq,cond_true] at hr;rw[← Tr.ab hr]
             | false =>
               rw[hq,cond_false] at hr;split at hr
               · rename_i q hseg;obtain ⟨k,z,h3,h4⟩:=xu _ _ _ _ hseg;simp only[Row.cut];rw[show Nat.ble (n+1) 8=false from hb,if_neg (by simp),show Nat.beq (aB l) (n+1)=false from hq,Bool.and_false,if_neg (by simp)];have : Row.sub (.M l) off (n+1)=.M [.arr k z (n+1)]:=by
                  match l,h3,hq with
                  | [],h3,_=>simp[lP] at h3
                  | [.arr k' z' m],h3,hq =>
                    simp only[lP] at h3;split at h3
                    · simp only[nP] at h3;obtain ⟨rfl,rfl⟩:=h3;rfl
                    · split at h3<;>simp at h3
                  | .one u::r,h3,hq =>
                    simp only[Row.sub];rw[show Nat.beq (aB (.one u::r)) (n+1)=false from hq,Bool.and_false,h3];rfl
                  | .arr k' z' m::s::r,h3,hq =>
                    simp only[Row.sub];rw[show Nat.beq (aB (.arr k' z' m::s::r)) (n+1)=false from hq,Bool.and_false,h3];rfl
                 rw[this,← Tr.ab hr,h4]
               · rw[← Tr.ab hr]
           | false=>rw[hc,cond_false] at hr;exact (Tr.ag hr).elim
         · rename_i h;cases hc:Nat.beq (aB l) (Nat.succ n) with
           | true=>rw[hc,cond_true] at hr;exact (Tr.ag hr).elim
           | false =>
             rw[hc,cond_false] at hr;obtain ⟨h1,h2,k,z,h3,h4⟩:=xv _ _ _ _ _ _ (Nat.succ_pos n) hr;rw[Nat.sub_zero] at h2 h3;rw[if_pos (show off+(n+1)≤(Row.M l).len from h2)];simp only[Row.cut];rw[show Nat.ble (n+1) 8=false from hb,if_neg (by simp),show Nat.beq (aB l) (n+1)=false from hc,Bool.and_false,if_neg (by simp)];have : Row.sub (.M l) off (n+1)=.M [.arr k z (n+1)]:=by
              match l,h3,hc with
              | [],h3,_=>simp[lP] at h3
              | [.arr k' z' m],h3,hc =>
                simp only[lP] at h3;split at h3
                · simp only[nP] at h3;obtain ⟨rfl,rfl⟩:=h3;rfl
                · split at h3<;>simp at h3
              | .one u::r,h3,hc =>
                simp only[Row.sub];rw[show Nat.beq (aB (.one u::r)) (n+1)=false from hc,Bool.and_false,h3];rfl
              | .arr k' z' m::s::r,h3,hc =>
                simp only[Row.sub];rw[show Nat.beq (aB (.arr k' z' m::s::r)) (n+1)=false from hc,Bool.and_false,h3];rfl
             rw[this,h4]
     · rename_i f m;obtain ⟨hc,hr⟩:=Tr.aS hr;rw[lq,decide_eq_true_eq,aF] at hc;unfold jM;rw[ha,hs];dsimp only;rw[if_pos (show off+(n+1)≤(Row.F f m).len from hc),← Tr.ab hr]
     · split at hr
       · rw[dc,v7] at hr;exact hr
       · exact (Tr.ag hr).elim
     · split at hr
       · rw[dc,v7] at hr;exact hr
       · exact (Tr.ag hr).elim
   · exact (Tr.ag hr).elim
 · exact (Tr.ag hr).elim

def xr (H:aa) (d i v:Nat) (h:Option Nat):Tr Row :=
 match h with
 | none=>vW (CA H d i v)
 | some _=>match nQ H d i with
   | (ver,.row r)=>.req (aU ver v) (.ok r)
   | _=>.bad
theorem lK {H:aa} {d i v:Nat} {h:Option Nat} {r:Row} (hr:(xr H d i v h).run=some r):cX H d i v=some r:=by
 unfold xr at hr;split at hr
 · rw[dc,yl] at hr;exact hr
 · rw[pr] at hr;split at hr
   · rename_i ver q hg;obtain ⟨hc,hr2⟩:=Tr.aS hr;rw[fP,decide_eq_true_eq] at hc;subst hc;unfold cX;rw[hg];simp only[Nat.beq_refl,if_true];rw[Tr.ab hr2]
   · exact (Tr.ag hr).elim
def loadT (P:Program) (H:aa) (t:TypeId) (a:HV):Tr AV :=
 match a.1 with
 | .ptr d i v off=>(xr H d i v a.2).bind fun r=>(ze P t r off a.2).bind fun x=>.ok (mX d x)
 | .ptrT s r off=>(ze P t r off a.2).bind fun x=>.ok (Ue s x)
 | _=>.bad
theorem yB {P:Program} {H:aa} {t:TypeId} {a:HV} {v:AV} (hr:(loadT P H t a).run=some v):pB P H t a.1=some v:=by
 unfold loadT at hr;unfold pB;split at hr
 · rename_i d i ver off ha;obtain ⟨r,h1,hr⟩:=Tr.bind_some hr;obtain ⟨x,h2,hr⟩:=Tr.bind_some hr;rw[ha];dsimp only;rw[lK h1];dsimp only;rw[uc h2,← Tr.ab hr];rfl
 · rename_i s r off ha;obtain ⟨x,h2,hr⟩:=Tr.bind_some hr;rw[ha];dsimp only;rw[uc h2,← Tr.ab hr];rfl
 · exact (Tr.ag hr).elim

def rm:List dh→Nat→AV→Option (List dh)
 | [],_,_=>none
 | .one u::r,j,v=>match j with
   | 0=>some (.one v::r)
   | j+1=>match rm r j v with
     | some r'=>some (.one u::r')
     | none=>none
 | .arr k z n::r,j,v=>cond (Nat.blt j n) (match v with
    | .int k' x=>cond (gY k' k) (some (.arr k (cu z j x) n::r)) none
    | _=>none)
   (match rm r (Nat.sub j n) v with
     | some r'=>some (.arr k z n::r')
     | none=>none)
theorem ur:∀ (l:List dh) (j:Nat) (v:AV) (l':List dh),rm l j v=some l'→j<aB l∧j7 l j v=l'
 | [],_,_,_,h=>by simp[rm] at h
 | .one u::r,0,v,l',h=>by
   simp only[rm,Option.some.injEq] at h;exact ⟨by simp only[aB,aQ];omega,h⟩
 | .one u::r,j+1,v,l',h=>by
   simp only[rm] at h;split at h
   · rename_i r' hr;have:=ur r j v r' hr;simp only[Option.some.injEq] at h;exact ⟨by simp only[aB,aQ];omega,by simp only[j7];rw[this.2];exact h⟩
   · simp at h
 | .arr k z n::r,j,v,l',h=>by
   simp only[rm] at h;cases hb:Nat.blt j n with
   | true =>
     rw[hb,cond_true] at h;have hj:=Cd hb;split at h
     · rename_i k' x;rw[kB] at h;split at h
       · rename_i hk;simp only[Option.some.injEq] at h;refine ⟨by simp only[aB,aQ];omega,?_⟩;simp only[j7];rw[if_pos hj,if_pos hk,← h,sc]
       · simp at h
     · simp at h
   | false =>
     rw[hb,cond_false] at h;have hj:=J1 hb;split at h
     · rename_i r' hr;have:=ur r (j-n) v r' hr;simp only[Option.some.injEq] at h;exact ⟨by simp only[aB,aQ];omega,by simp only[j7];rw[if_neg hj,this.2];exact h⟩
     · simp at h
def EE:List dh→Nat→Nat→Nat→AV→Tr (List dh)
 | [],_,_,_,_=>.bad
 | .one u::r,pos,h,off,v=>match h with
   | 0=>.bad
   | h+1=>(EE r (Nat.succ pos) h off v).bind fun r'=>.ok (.one u::r')
 | .arr k z n::r,pos,h,off,v=>cond (Nat.blt h n) (match v with
    | .int k' x=>cond (gY k' k) (.req (dX off 1 pos n) (.ok (.arr k (cu z (dx off pos) x) n::r))) .bad
    | _=>.bad)
   ((EE r (Nat.add pos n) (Nat.sub h n) off v).bind fun r'=>.ok (.arr k z n::r'))
theorem xx:∀ (l:List dh) (pos h off:Nat) (v:AV) (l':List dh),(EE l pos h off v).run=some l'→pos≤off∧off-pos<aB l∧j7 l (off-pos) v=l'
 | [],_,_,_,_,_,h=>(Tr.ag h).elim
 | .one _::r,pos,0,off,v,l',h=>(Tr.ag h).elim
 | .one u::r,pos,h'+1,off,v,l',h=>by
   simp only[EE] at h;obtain ⟨r',hr,h⟩:=Tr.bind_some h;obtain ⟨h1,h2,h3⟩:=xx r (pos+1) h' off v r' hr;refine ⟨by omega,by simp only[aB,aQ];omega,?_⟩;rw[show off-pos=(off-(pos+1))+1 by omega,← Tr.ab h,← h3];rfl
 | .arr k z n::r,pos,h',off,v,l',h=>by
   simp only[EE] at h;cases hb:Nat.blt h' n with
   | true =>
     rw[hb,cond_true] at h;split at h
     · rename_i k' x;rw[kB] at h;split at h
       · rename_i hk;obtain ⟨hc,h⟩:=Tr.aS h;rw[j4,decide_eq_true_eq] at hc;refine ⟨hc.1,by simp only[aB,aQ];omega,?_⟩;simp only[j7];rw[if_pos wO,if_pos hk,← Tr.ab h,sc,dq]
       · exact (Tr.ag h).elim
     · exact (Tr.ag h).elim
   | false =>
     rw[hb,cond_false] at h;obtain ⟨r',hr,h⟩:=Tr.bind_some h;obtain ⟨h1,h2,h3⟩:=xx r (pos+n) (h'-n) off v r' hr;refine ⟨by omega,by simp only[aB,aQ];omega,?_⟩;simp only[j7];rw[if_neg wO,← Tr.ab h,← h3,show off-pos-n=off-(pos+n) by omega]
def MR (l:List dh) (off:Nat) (h:Option Nat) (v:AV):Tr (List dh) :=
 match l with
 | [.arr k z n]=>match v with
   | .int k' x=>cond (gY k' k) (.req (bt off n) (.ok [.arr k (cu z off x) n])) .bad
   | _=>.bad
 | l=>match h with
   | none=>vW (rm l off v)
   | some h=>EE l 0 h off v
theorem Jy {l l':List dh} {off:Nat} {h:Option Nat} {v:AV} (hr:(MR l off h v).run=some l'):off<aB l∧j7 l off v=l':=by
 unfold MR at hr;split at hr
 · rename_i k z n;split at hr
   · rename_i k' x;rw[kB] at hr;split at hr
     · rename_i hk;obtain ⟨hc,hr⟩:=Tr.aS hr;rw[ir,decide_eq_true_eq] at hc;refine ⟨by simp only[aB,aQ];omega,?_⟩;simp only[j7];rw[if_pos hc,if_pos hk,← Tr.ab hr,sc]
     · exact (Tr.ag hr).elim
   · exact (Tr.ag hr).elim
 · split at hr
   · rw[dc] at hr;exact ur _ _ _ _ hr
   · have:=xx _ _ _ _ _ _ hr;rw[Nat.sub_zero] at this;exact this.2
def zA (off:Nat) (h:Option Nat):List AV→Nat→List dh→Tr (List dh)
 | [],_,l=>.ok l
 | v::vs,j,l=>(MR l (Er off h j) (ym h j) v).bind fun l'=>zA off h vs (Nat.succ j) l'
theorem uq {off:Nat} {h:Option Nat}:∀ (vs:List AV) (j:Nat) (l l':List dh),(zA off h vs j l).run=some l'→(vs=[]∨off+j+vs.length≤aB l)∧Row.cN (.M l) (off+j) vs=.M l'
 | [],j,l,l',h=>⟨.inl rfl,by rw[Tr.ab h];rfl⟩
 | v :: vs,j,l,l',h=>by
   simp only[zA] at h;obtain ⟨l1,h1,h⟩:=Tr.bind_some h;obtain ⟨k1,k2⟩:=Jy h1;rw[r7] at k1 k2;obtain ⟨k3,k4⟩:=uq vs (j+1) l1 l' h;have hl:aB l1=aB l:=by rw[← k2,nf]
   refine ⟨.inr ?_,?_⟩
   · rcases k3 with rfl | k3
     · simp only[List.length_cons,List.length_nil];omega
     · simp only[List.length_cons];omega
   · simp only[Row.cN,Row.set,k2];exact k4
def GU (l:List dh) (off:Nat) (h:Option Nat) (q:Row):Tr Row :=
 match l,q with
 | [.arr k z m],.M [.arr k' z' n]=>cond (gY k' k) (.req (dX off n 0 m) (.ok (.M [.arr k (nz z off z' n) m]))) .bad
 | l,q=>cond (Nat.ble 9 (iC q)) (match h with
    | none=>cond (Nat.ble (Nat.add off (iC q)) (aB l)) (.ok (xk l off q)) .bad
    | some _=>.bad)
   (match lR q with
     | []=>.bad
     | v::vs=>(zA off h (v::vs) 0 l).bind fun l'=>.ok (.M l'))
theorem xl {l:List dh} {off:Nat} {h:Option Nat} {q r:Row} (hr:(GU l off h q).run=some r):off+q.len≤aB l∧j6 (.M l) off q=r:=by
 unfold GU at hr;split at hr
 · rename_i k z m k' z' n;rw[kB] at hr;split at hr
   · rename_i hk;obtain ⟨hc,hr⟩:=Tr.aS hr;rw[j4,decide_eq_true_eq] at hc;refine ⟨by simp only[Row.len,aB,aQ];omega,?_⟩;simp only[j6];rw[if_pos hk,← Tr.ab hr,rG]
   · exact (Tr.ag hr).elim
 · rename_i hne;have hA:j6 (.M l) off q=xk l off q:=by
    simp only[j6];split
    · rename_i k z m;split
      · rename_i k' z' n;exact (hne _ _ _ _ _ _ rfl rfl).elim
      · rfl
    · rfl
   rw[hA];rw[fi] at hr;cases hb:Nat.ble 9 q.len with
   | true =>
     rw[hb,cond_true] at hr;split at hr
     · cases hc:Nat.ble (Nat.add off q.len) (aB l) with
       | true =>
         rw[hc,cond_true] at hr;rw[Nat.ble_eq] at hc;exact ⟨hc,Tr.ab hr⟩
       | false=>rw[hc,cond_false] at hr;exact (Tr.ag hr).elim
     · exact (Tr.ag hr).elim
   | false =>
     rw[hb,cond_false,oO] at hr;have hl:=Row.bu q;split at hr
     · exact (Tr.ag hr).elim
     · rename_i v vs hq;obtain ⟨l1,h1,hr⟩:=Tr.bind_some hr;obtain ⟨k1,k2⟩:=uq _ _ _ _ h1;rw[hq] at hl;refine ⟨?_,?_⟩
       · rcases k1 with k1 | k1
         · simp at k1
         · omega
       · unfold xk;rw[hb,if_neg (by simp),hq,← Tr.ab hr,← k2];rfl
def MD (d:Nat) (x:AV):Bool :=
 match d with
 | 0=>false
 | _+1=>match x with
   | .slc 0 _ _ _ _ _ _=>true
   | _=>false
def storeT (P:Program) (H:aa) (t:TypeId) (a:HV) (x:AV):Tr Delta :=
 match a.1 with
 | .ptr d i v off=>cond (MD d x) (match a.2 with | none=>vW (sa P H t a.1 x) | some _=>.bad)
   (cond (j0 H d) .bad ((xr H d i v a.2).bind fun r=>match bF P t with
     | some n=>match x.row with
       | some q=>cond (Nat.beq (iC q) n) (match r with
         | .M l=>(GU l off a.2 (jx d q)).bind fun r'=>.ok (.set d i (v,.row r'))
         | _=>match a.2 with | none=>vW (sa P H t a.1 x) | some _=>.bad) .bad
       | none=>.bad
     | none=>.bad))
 | _=>.bad
theorem EL {P:Program} {H:aa} {t:TypeId} {a:HV} {x:AV} {δ:Delta} (hr:(storeT P H t a x).run=some δ):gF P H t a.1 x=some δ:=by
 unfold storeT at hr;split at hr
 · rename_i d i v off ha;cases ho:MD d x with
   | true =>
     rw[ho,cond_true] at hr;split at hr
     · rw[dc,uw] at hr;exact hr
     · exact (Tr.ag hr).elim
   | false =>
     rw[ho,cond_false,gq] at hr;cases hl:aK H d with
     | true=>rw[hl,cond_true] at hr;exact (Tr.ag hr).elim
     | false =>
       rw[hl,cond_false] at hr;obtain ⟨r,h1,hr⟩:=Tr.bind_some hr;split at hr
       · rename_i n hs;split at hr
         · rename_i q hq;rw[fi] at hr;cases hb:Nat.beq q.len n with
           | false=>rw[hb,cond_false] at hr;exact (Tr.ag hr).elim
           | true =>
             rw[hb,cond_true] at hr;have hb:q.len=n:=by simpa using hb
             split at hr
             · rename_i l;obtain ⟨r',h2,hr⟩:=Tr.bind_some hr;obtain ⟨k1,k2⟩:=xl h2;rw[fk] at k1;rw[ha];unfold gF;dsimp only;rw[hl,if_neg (by simp),lK h1,hs,hq];dsimp only;rw[if_pos ⟨hb,by show off+n≤aB l;omega⟩];have:∀ (d':Nat) (j w o sz len:Nat) (cap:Option Nat),d=d'+1→x≠.slc 0 j w o sz len cap:=by
                rintro d' j w o sz len cap rfl rfl;simp[MD] at ho
               rw[← Tr.ab hr,← k2];split
               · exact absurd rfl (this _ _ _ _ _ _ _ rfl)
               · rfl
             · split at hr
               · rw[dc,uw] at hr;exact hr
               · exact (Tr.ag hr).elim
         · exact (Tr.ag hr).elim
       · exact (Tr.ag hr).elim
 · exact (Tr.ag hr).elim

def hOr (h:Option Nat) (off:Nat):Nat :=
 match h with
 | none=>off
 | some h=>h
def oe (P:Program) (t:TypeId) (a:HV) (f:Nat):Tr HV :=
 match P.underlying t with
 | some (.struct fs)=>match fs[f]? with
   | some g=>match bF P g.type with
     | some (_+1)=>match a.1 with
       | .ptr d i v off=>.ok (.ptr d i v (Er off a.2 g.offset),ym a.2 g.offset)
       | .ptrT s r off=>.ok (.ptrT s r (Er off a.2 g.offset),ym a.2 g.offset)
       | _=>.bad
     | _=>.bad
   | none=>.bad
 | _=>.bad
theorem uS {P:Program} {t:TypeId} {a b:HV} {f:Nat} (hr:(oe P t a f).run=some b):jb P t a.1 f=some b.1:=by
 unfold oe at hr;unfold jb;split at hr
 · rename_i fs hu;rw[hu];dsimp only;split at hr
   · rename_i g hg;rw[hg];dsimp only;split at hr
     · rename_i n hs;rw[hs];dsimp only;split at hr
       · rename_i d i v off ha;rw[ha,← Tr.ab hr];simp only[ma,r7]
       · rename_i s r off ha;rw[ha,← Tr.ab hr];simp only[ma,r7]
       · exact (Tr.ag hr).elim
     · exact (Tr.ag hr).elim
   · exact (Tr.ag hr).elim
 · exact (Tr.ag hr).elim
def isLit (x:HV):Bool :=
 match x.2 with
 | some _=>true
 | none=>false
def GF (off:Nat) (ic:Bool) (i:Int) (z:Nat):Nat:=cond ic (Nat.add off (Nat.mul i.toNat z)) (au off i z)
theorem r6 (off:Nat) (ic:Bool) (i:Int) (z:Nat):GF off ic i z=off+i.toNat*z:=by
 cases ic with
 | true=>rfl
 | false=>exact bN _ _ _
def CF (h:Option Nat) (off:Nat) (ic:Bool) (i:Int) (z:Nat):Option Nat :=
 cond ic (ym h (Nat.mul i.toNat z)) (some (hOr h off))
def L7 (P:Program) (t:TypeId) (a:HV) (ic:Bool) (i:Int):Tr HV :=
 match P.underlying t with
 | some (.array n e)=>match bF P e with
   | some z=>match a.1 with
     | .ptr d j v off=>.req (bL i n) (.ok (.ptr d j v (GF off ic i z),CF a.2 off ic i z))
     | .ptrT s r off=>.req (bL i n) (.ok (.ptrT s r (GF off ic i z),CF a.2 off ic i z))
     | _=>.bad
   | none=>.bad
 | some (.slice e)=>match bF P e with
   | some z=>match a.1 with
     | .slc d j v off sz len cap=>cond (Nat.beq z sz) (.req (bL i len) (.ok (.ptr d j v (GF off ic i z),match cap with
       | some _=>CF none off ic i z
       | none=>some off))) .bad
     | .slcT s r sz len _=>cond (Nat.beq z sz) (.req (bL i len) (.ok (.ptrT s r (GF 0 ic i z),CF none 0 ic i z))) .bad
     | _=>.bad
   | none=>.bad
 | _=>.bad
def Qx (P:Program) (t:TypeId) (x:AV) (ic:Bool) (i:Int):Tr AV :=
 cond ic (vW (qm P t x i)) (match P.underlying t with
  | some (.array n e)=>match x with
    | .agg r=>match bF P e with
      | some z=>.req (bL i n) (ze P e r (au 0 i z) (some 0))
      | none=>.bad
    | _=>.bad
  | _=>.bad)
theorem Md {P:Program} {t:TypeId} {x v:AV} {ic:Bool} {i:Int} (hr:(Qx P t x ic i).run=some v):qm P t x i=some v:=by
 unfold Qx at hr;cases ic with
 | true=>rw[cond_true,dc] at hr;exact hr
 | false =>
   rw[cond_false] at hr;split at hr
   · rename_i n e hu;split at hr
     · split at hr
       · rename_i z hs;obtain ⟨hc,hr⟩:=Tr.aS hr;rw[ql,decide_eq_true_eq] at hc;have h:=uc hr;rw[bN,Nat.zero_add] at h;unfold qm;rw[hu];dsimp only;rw[hs];dsimp only;rw[if_pos hc,h]
       · exact (Tr.ag hr).elim
     · exact (Tr.ag hr).elim
   · exact (Tr.ag hr).elim
theorem IC {P:Program} {t:TypeId} {a b:HV} {ic:Bool} {i:Int} (hr:(L7 P t a ic i).run=some b):ji P t a.1 i=some b.1:=by
 unfold L7 at hr;unfold ji;split at hr
 · rename_i n e hu;split at hr
   · rename_i z hs;split at hr
     · rename_i d j v off ha;obtain ⟨hc,hr⟩:=Tr.aS hr;rw[ql,decide_eq_true_eq] at hc;rw[hu,ha];dsimp only;rw[hs];dsimp only;rw[if_pos hc,← Tr.ab hr];simp only[ma,r6]
     · rename_i s r off ha;obtain ⟨hc,hr⟩:=Tr.aS hr;rw[ql,decide_eq_true_eq] at hc;rw[hu,ha];dsimp only;rw[hs];dsimp only;rw[if_pos hc,← Tr.ab hr];simp only[ma,r6]
     · exact (Tr.ag hr).elim
   · exact (Tr.ag hr).elim
 · rename_i e hu;split at hr
   · rename_i z hs;split at hr
     · rename_i d j v off sz len cap ha;cases hb:Nat.beq z sz with
       | false=>rw[hb,cond_false] at hr;exact (Tr.ag hr).elim
       | true =>
         rw[hb,cond_true] at hr;have hb:z=sz:=by simpa using hb
         subst hb;obtain ⟨hc,hr⟩:=Tr.aS hr;rw[ql,decide_eq_true_eq] at hc;rw[hu,ha];dsimp only;rw[if_pos ⟨hc.1,hc.2,hs⟩,← Tr.ab hr];simp only[r6]
     · rename_i s r sz len full ha;cases hb:Nat.beq z sz with
       | false=>rw[hb,cond_false] at hr;exact (Tr.ag hr).elim
       | true =>
         rw[hb,cond_true] at hr;have hb:z=sz:=by simpa using hb
         subst hb;obtain ⟨hc,hr⟩:=Tr.aS hr;rw[ql,decide_eq_true_eq] at hc;rw[hu,ha];dsimp only;rw[if_pos ⟨hc.1,hc.2,hs⟩,← Tr.ab hr];simp only[r6,Nat.zero_add]
     · exact (Tr.ag hr).elim
   · exact (Tr.ag hr).elim
 · exact (Tr.ag hr).elim

end
end Go.Eng
