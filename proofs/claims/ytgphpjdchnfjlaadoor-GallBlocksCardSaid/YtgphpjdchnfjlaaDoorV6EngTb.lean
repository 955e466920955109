/- The engine as a tree: frames with hints, rows, loads, stores, addresses. -/
import Derived.Test.YtgphpjdchnfjlaaDoorV6EngTa
set_option linter.unusedVariables false
set_option linter.unusedSimpArgs false
namespace Go.Eng
noncomputable section

abbrev HV:=AV×Option Nat
abbrev aD:=List (Nat×HV)
def strip (f:aD):aA:=List.rec (motive:=fun _=>aA) [] (fun p _ ih=>(p.1,p.2.1)::ih) f
theorem cO (x:Nat) (v:HV) (r:aD):strip ((x,v)::r)=(x,v.1)::strip r:=rfl
def lf (f:aD) (y:Nat):HV:=List.rec (motive:=fun _=>HV) (AV.undef,none) (fun p _ ih=>Bool.rec ih p.2 (Nat.beq p.1 y)) f
theorem eY:∀ (f:aD) (y:Nat),(lf f y).1=bM (strip f) y
 | [],y=>rfl
 | (x,v)::r,y=>by
   have e:lf ((x,v)::r) y=Bool.rec (lf r y) v (Nat.beq x y):=rfl;rw[e,cO,bM];cases Nat.beq x y with
   | true=>rfl
   | false=>exact eY r y
def yf (f:aD) (y:Nat) (u:HV):aD:=List.rec (motive:=fun _=>aD) [(y,u)] (fun p r ih=>Bool.rec (motive:=fun _=>aD) (p::ih) (Bool.rec (motive:=fun _=>aD) ((y,u)::p::r) ((y,u)::r) (Nat.beq p.1 y)) (Nat.ble y p.1)) f
theorem yg:∀ (f:aD) (y:Nat) (u:HV),strip (yf f y u)=uv (strip f) y u.1
 | [],y,u=>rfl
 | (x,v)::r,y,u=>by
   have e:yf ((x,v)::r) y u=Bool.rec (motive:=fun _=>aD) ((x,v)::yf r y u) (Bool.rec (motive:=fun _=>aD) ((y,u)::(x,v)::r) ((y,u)::r) (Nat.beq x y)) (Nat.ble y x):=rfl;rw[e,cO,uv,← yg r y u];cases Nat.ble y x with
   | false=>rfl
   | true=>cases Nat.beq x y<;>rfl
def gf (f:aD) (m:Nat):aD:=List.rec (motive:=fun _=>aD) [] (fun p _ ih=>Bool.rec (motive:=fun _=>aD) (p::ih) ih (Nat.beq (Nat.land (Nat.shiftRight m p.1) 1) 1)) f
theorem eK:∀ (f:aD) (m:Nat),strip (gf f m)=bT (strip f) m
 | [],m=>rfl
 | (x,v)::r,m=>by
   have e:gf ((x,v)::r) m=Bool.rec (motive:=fun _=>aD) ((x,v)::gf r m) (gf r m) (Nat.beq (Nat.land (Nat.shiftRight m x) 1) 1):=rfl;have e2:bT ((x,v.1)::strip r) m=Bool.rec (motive:=fun _=>aA) ((x,v.1)::bT (strip r) m) (bT (strip r) m) (Nat.beq (Nat.land (Nat.shiftRight m x) 1) 1):=rfl;rw[e,cO,e2,← eK r m];cases Nat.beq (Nat.land (Nat.shiftRight m x) 1) 1<;>rfl
def Ry (v:Value):Option Nat :=
 match v with
 | .int _ _=>some 1
 | .bool _=>some 1
 | _=>none
def ct (fr:aD) (x:Operand):HV:=Operand.rec (motive:=fun _=>HV) (fun t=>lf fr t) (fun v=>(ko v,Ry v)) (fun _=>(.undef,none)) (fun f=>(.fn (.func f) [] [],none)) x
theorem a8 (fr:aD) (x:Operand):(ct fr x).1=b5 (strip fr) x:=by
 cases x with
 | tmp t=>exact eY fr t
 | _=>rfl
def yS (fr:aD) (l:List Operand):List AV:=qX (fun x=>(ct fr x).1) l
theorem tl (fr:aD):∀ l,yS fr l=kN (strip fr) l
 | []=>rfl
 | x::l=>by
   have e:yS fr (x::l)=(ct fr x).1::yS fr l:=rfl;rw[e,tl fr l,a8];rfl
def qL (nt:Nat) (fr:aD) (dst:Option Tmp) (v:HV):aD:=Option.rec (motive:=fun _=>aD) fr (fun d=>Bool.rec (motive:=fun _=>aD) fr (yf fr d v) (Nat.ble (Nat.succ d) nt)) dst
theorem mc (nt:Nat) (fr:aD) (dst:Option Tmp) (v:HV):strip (qL nt fr dst v)=iu nt (strip fr) dst v.1:=by
 rw[← GC];cases dst with
 | none=>rfl
 | some d =>
   have e:qL nt fr (some d) v=Bool.rec (motive:=fun _=>aD) fr (yf fr d v) (Nat.ble (Nat.succ d) nt):=rfl;have e2:GB nt (strip fr) (some d) v.1=Bool.rec (motive:=fun _=>aA) (strip fr) (vm (strip fr) d v.1) (Nat.ble (Nat.succ d) nt):=rfl;rw[e,e2,xV,← yg];cases Nat.ble (Nat.succ d) nt<;>rfl

def qx:List db→Nat→Option AV
 | [],_=>none
 | .one v::r,j=>match j with
   | 0=>some v
   | j+1=>qx r j
 | .arr k z n::r,j=>cond (Nat.blt j n) (some (.int k (z j))) (qx r (Nat.sub j n))
theorem B8 {a b:Nat} (h:Nat.blt a b=true):a<b:=by rwa [Nat.blt_eq] at h
theorem JH {a b:Nat} (h:Nat.blt a b=false):¬ a<b:=fun e=>by
 have:Nat.blt a b=true:=by rw[Nat.blt_eq];exact e
 rw[h] at this;cases this
theorem su:∀ (l:List db) (j:Nat) (v:AV),qx l j=some v→j<ay l∧getM l j=v
 | [],_,_,h=>by simp[qx] at h
 | .one u::r,0,v,h=>by
   simp only[qx,Option.some.injEq] at h;exact ⟨by simp only[ay,aP];omega,h⟩
 | .one u::r,j+1,v,h=>by
   have:=su r j v (by simpa[qx] using h);exact ⟨by simp only[ay,aP];omega,this.2⟩
 | .arr k z n::r,j,v,h=>by
   simp only[qx] at h;simp only[ay,aP,getM];cases hb:Nat.blt j n with
   | true =>
     rw[hb,cond_true,Option.some.injEq] at h;have:=B8 hb;exact ⟨by omega,by rw[if_pos this];exact h⟩
   | false =>
     rw[hb,cond_false] at h;have hn:=JH hb;have:=su r (j-n) v h;exact ⟨by omega,by rw[if_neg hn];exact this.2⟩
def GW:List db→Nat→Nat→Nat→Tr AV
 | [],_,_,_=>.bad
 | .one _::r,pos,h,off=>match h with
   | 0=>.bad
   | h+1=>GW r (Nat.succ pos) h off
 | .arr k z n::r,pos,h,off=>cond (Nat.blt h n) (.req (fF off 1 pos n) (.ok (.int k (z (jh off pos))))) (GW r (Nat.add pos n) (Nat.sub h n) off)
theorem xj:∀ (l:List db) (pos h off:Nat) (v:AV),(GW l pos h off).run=some v→pos≤off∧off-pos<ay l∧getM l (off-pos)=v
 | [],_,_,_,_,h=>(Tr.ah h).elim
 | .one _::r,pos,0,off,v,h=>(Tr.ah h).elim
 | .one u::r,pos,h'+1,off,v,h=>by
   obtain ⟨h1,h2,h3⟩:=xj r (pos+1) h' off v h;refine ⟨by omega,by simp only[ay,aP];omega,?_⟩;rw[show off-pos=(off-(pos+1))+1 by omega];exact h3
 | .arr k z n::r,pos,h',off,v,h=>by
   simp only[GW] at h;cases hb:Nat.blt h' n with
   | true =>
     rw[hb,cond_true] at h;obtain ⟨hc,h⟩:=Tr.aT h;rw[iP,decide_eq_true_eq] at hc;have h:=Tr.af h;refine ⟨hc.1,by simp only[ay,aP];omega,?_⟩;simp only[getM];rw[if_pos wO,← h,gx]
   | false =>
     rw[hb,cond_false] at h;obtain ⟨h1,h2,h3⟩:=xj r (pos+n) (h'-n) off v h;refine ⟨by omega,by simp only[ay,aP];omega,?_⟩;simp only[getM];rw[if_neg wO,← h3];congr 1;omega
def Dd (r:Row) (off:Nat) (h:Option Nat):Tr AV :=
 match r with
 | .F f n=>.req (bR off n) (.ok (f off))
 | .M l=>match l with
   | [.arr k z n]=>.req (bR off n) (.ok (.int k (z off)))
   | l=>match h with
     | none=>vI (qx l off)
     | some h=>GW l 0 h off
 | .I k l=>match h with
   | none=>vI (jx (.I k l) off)
   | some _=>.req (bR off (LY l)) (.ok (.int k (aI l off)))
 | .G l=>match h with
   | none=>vI (jx (.G l) off)
   | some _=>.bad
theorem zg {r:Row} {off:Nat} {v:AV} (h:jx r off=some v):off<r.len∧r.get off=v:=by
 rw[tA] at h;split at h
 · rename_i h0;exact ⟨h0,Option.some.inj h⟩
 · simp at h
theorem y8 {r:Row} {off:Nat} {h:Option Nat} {v:AV} (hr:(Dd r off h).run=some v):off<r.len∧r.get off=v:=by
 unfold Dd at hr;split at hr
 · obtain ⟨hc,hr⟩:=Tr.aT hr;rw[gV,decide_eq_true_eq] at hc;exact ⟨hc,Tr.af hr⟩
 · rename_i l;split at hr
   · rename_i k z n;obtain ⟨hc,hr⟩:=Tr.aT hr;rw[gV,decide_eq_true_eq] at hc;refine ⟨by simp only[Row.len,ay,aP];omega,?_⟩;simp only[Row.get,getM];rw[if_pos hc];exact Tr.af hr
   · split at hr
     · rw[c9] at hr;exact su _ _ _ hr
     · have:=xj _ _ _ _ _ hr;rw[Nat.sub_zero] at this;exact this.2
 · split at hr
   · rw[c9] at hr;exact zg hr
   · obtain ⟨hc,hr⟩:=Tr.aT hr;rw[gV,decide_eq_true_eq,Ip] at hc;refine ⟨hc,?_⟩;rw[← Tr.af hr,gw];rfl
 · split at hr
   · rw[c9] at hr;exact zg hr
   · exact (Tr.ah hr).elim
def Ej (off:Nat) (h:Option Nat) (j:Nat):Nat :=
 match h with
 | none=>Nat.add off j
 | some _=>match j with
   | 0=>off
   | j+1=>ar off (Nat.succ j)
theorem rD (off:Nat) (h:Option Nat) (j:Nat):Ej off h j=off+j:=by
 unfold Ej;split
 · rfl
 · split
   · rfl
   · rw[aC]
def yi (h:Option Nat) (j:Nat):Option Nat :=
 match h with
 | none=>none
 | some h=>some (Nat.add h j)
def De (r:Row) (off:Nat) (h:Option Nat):Nat→Nat→Tr (List AV)
 | _,0=>.ok []
 | j,n+1=>(Dd r (Ej off h j) (yi h j)).bind fun v=>(De r off h (Nat.succ j) n).bind fun l=>.ok (v::l)
theorem y9 {r:Row} {off:Nat} {h:Option Nat}:∀ (n j:Nat) (l:List AV),(De r off h j n).run=some l→l=dF r.get (off+j) n∧(n=0∨off+j+n≤r.len)
 | 0,j,l,hr=>⟨(Tr.af hr).symm,.inl rfl⟩
 | n+1,j,l,hr=>by
   simp only[De] at hr;obtain ⟨v,h1,hr⟩:=Tr.bind_some hr;obtain ⟨m,h2,hr⟩:=Tr.bind_some hr;have hr:=Tr.af hr;obtain ⟨k1,k2⟩:=y8 h1;obtain ⟨k3,k4⟩:=y9 n (j+1) m h2;rw[rD] at k1 k2;refine ⟨?_,.inr wO⟩;rw[← hr,dF,k2,k3,show off+(j+1)=off+j+1 by omega]
def GV:List db→Nat→Nat→Nat→Nat→Tr AV
 | [],_,_,_,_=>.bad
 | .one _::r,pos,h,off,n=>match h with
   | 0=>.bad
   | h+1=>GV r (Nat.succ pos) h off n
 | .arr k z m::r,pos,h,off,n=>cond (Nat.blt h m) (.req (fF off n pos m) (.ok (.agg (.M [.arr k (qj z (jh off pos)) n])))) (GV r (Nat.add pos m) (Nat.sub h m) off n)
theorem xi:∀ (l:List db) (pos h off n:Nat) (v:AV),0<n→(GV l pos h off n).run=some v→pos≤off∧off-pos+n≤ay l∧∃ k z,kU l (off-pos) n=some (k,z)∧v=.agg (.M [.arr k z n])
 | [],_,_,_,_,_,_,h=>(Tr.ah h).elim
 | .one _::r,pos,0,off,n,v,_,h=>(Tr.ah h).elim
 | .one u::r,pos,h'+1,off,n,v,hn,h=>by
   obtain ⟨h1,h2,k,z,h3,h4⟩:=xi r (pos+1) h' off n v hn h;refine ⟨by omega,by simp only[ay,aP];omega,k,z,?_,h4⟩;rw[show off-pos=(off-(pos+1))+1 by omega];exact h3
 | .arr k z m::r,pos,h',off,n,v,hn,h=>by
   simp only[GV] at h;cases hb:Nat.blt h' m with
   | true =>
     rw[hb,cond_true] at h;obtain ⟨hc,h⟩:=Tr.aT h;rw[iP,decide_eq_true_eq] at hc;have h:=Tr.af h;refine ⟨hc.1,by simp only[ay,aP];omega,k,fun j=>z (off-pos+j),?_,?_⟩
     · simp only[kU];rw[if_pos wO]
     · rw[← h,mn,gx]
   | false =>
     rw[hb,cond_false] at h;obtain ⟨h1,h2,k',z',h3,h4⟩:=xi r (pos+m) (h'-m) off n v hn h;refine ⟨by omega,by simp only[ay,aP];omega,k',z',?_,h4⟩;simp only[kU];rw[if_neg wO,if_pos wO,← h3];congr 1;omega
def GU:List db→Nat→Nat→Option Row
 | [],_,_=>none
 | .one _::r,o+1,n=>GU r o n
 | .one _::_,0,_=>none
 | .arr k z m::r,o,n=>cond (Nat.ble (Nat.add o n) m) (some (.M [.arr k (cond (Nat.beq o 0) z (qj z o)) n])) (cond (Nat.ble m o) (GU r (Nat.sub o m) n) none)
theorem xh:∀ (l:List db) (o n:Nat) (q:Row),GU l o n=some q→∃ k z,kU l o n=some (k,z)∧q=.M [.arr k z n]
 | [],_,_,_,h=>by cases h
 | .one u::r,o+1,n,q,h=>xh r o n q h
 | .one _::_,0,_,_,h=>by cases h
 | .arr k z m::r,o,n,q,h=>by
   simp only[GU] at h;cases hb:Nat.ble (Nat.add o n) m with
   | true =>
     rw[hb,cond_true] at h;have hle:o+n≤m:=Nat.le_of_ble_eq_true hb;simp only[Option.some.injEq] at h;refine ⟨k,fun j=>z (o+j),by simp only[kU];rw[if_pos hle],?_⟩;rw[← h];cases ho:Nat.beq o 0 with
     | true =>
       have:=Nat.eq_of_beq_eq_true ho;subst this;simp only[cond_true,Nat.zero_add]
     | false=>rw[cond_false,mn]
   | false =>
     rw[hb,cond_false] at h;cases hm:Nat.ble m o with
     | true =>
       rw[hm,cond_true] at h;have hle:m≤o:=Nat.le_of_ble_eq_true hm;have hnl:¬ (o+n≤m):=fun hc=>by
        have:Nat.ble (Nat.add o n) m=true:=by rw[Nat.ble_eq];exact hc
        rw[hb] at this;cases this
       obtain ⟨k',z',h1,h2⟩:=xh r (o-m) n q h;exact ⟨k',z',by simp only[kU];rw[if_neg hnl,if_pos hle];exact h1,h2⟩
     | false=>rw[hm,cond_false] at h;cases h
def za (P:Program) (t:TypeId) (r:Row) (off:Nat) (h:Option Nat):Tr AV :=
 match eX P t with
 | some false=>Dd r off h
 | some true=>match bE P t with
   | some 0=>.bad
   | some (n+1)=>match r with
     | .M l=>cond (Nat.ble (Nat.succ n) 8) ((De (.M l) off h 0 (Nat.succ n)).bind fun vs=>.ok (.agg (Row.ofList vs)))
       (match h with
       | none=>cond (Nat.ble (Nat.add off (Nat.succ n)) (ay l)) (cond (Nat.beq (ay l) (Nat.succ n)) (.ok (.agg ((Row.M l).cut off (Nat.succ n)))) (match GU l off (Nat.succ n) with
         | some q=>.ok (.agg q)
         | none=>.ok (.agg ((Row.M l).cut off (Nat.succ n))))) .bad
       | some h=>cond (Nat.beq (ay l) (Nat.succ n)) .bad (GV l 0 h off (Nat.succ n)))
     | .F f m=>.req (dO (ar off (Nat.succ n)) m) (.ok (.agg ((Row.F f m).cut off (Nat.succ n))))
     | .I k l=>match h with
       | none=>vI (xa P t (.I k l) off)
       | some _=>.bad
     | .G l=>match h with
       | none=>vI (xa P t (.G l) off)
       | some _=>.bad
   | none=>.bad
 | none=>.bad
theorem tx       {P : Program} {t:TypeId} {r:Row} {off:Nat} {h:Option Nat} {v:AV} (hr:(za P t r off h).run=some v):jv P t r off=some v:=by
 unfold za at hr;split at hr
 · rename_i ha;obtain ⟨h1,h2⟩:=y8 hr;unfold jv;rw[ha];dsimp only;rw[if_pos h1,h2]
 · rename_i ha;split at hr
   · exact (Tr.ah hr).elim
   · rename_i n hs;split at hr
     · rename_i l;unfold jv;rw[ha,hs];dsimp only;cases hb:Nat.ble (Nat.succ n) 8 with
       | true =>
         rw[hb,cond_true] at hr;obtain ⟨vs,h1,hr⟩:=Tr.bind_some hr;have hr:=Tr.af hr;obtain ⟨k1,k2⟩:=y9 _ _ _ h1;rw[if_pos wO,← hr,k1];simp only[Row.cut];rw[show Nat.ble (n+1) 8=true from hb,if_pos rfl,Nat.add_zero];rfl
       | false =>
         rw[hb,cond_false] at hr;split at hr
         · cases hc : Nat.ble (Nat.add off (Nat.succ n)) (ay l) with
           | true =>
             rw[hc,cond_true] at hr;rw[Nat.ble_eq] at hc;rw[if_pos (show off+(n+1)≤(Row.M l).len from hc)];cases hq:Nat.beq (ay l) (Nat.succ n) with
             | true=>rw[hq,cond_true] at hr;rw[← Tr.af hr]
             | false =>
               rw[hq,cond_false] at hr;split at hr
               · rename_i q hseg;obtain ⟨k,z,h3,h4⟩:=xh _ _ _ _ hseg;simp only[Row.cut];rw[show Nat.ble (n+1) 8=false from hb,if_neg (by simp),show Nat.beq (ay l) (n+1)=false from hq,Bool.and_false,if_neg (by simp)];have : Row.sub (.M l) off (n+1)=.M [.arr k z (n+1)]:=by
                  match l,h3,hq with
                  | [],h3,_=>simp[kU] at h3
                  | [.arr k' z' m],h3,hq =>
                    simp only[kU] at h3;split at h3
                    · simp only[nP] at h3;obtain ⟨rfl,rfl⟩:=h3;rfl
                    · split at h3<;>simp at h3
                  | .one u::r,h3,hq =>
                    simp only[Row.sub];rw[show Nat.beq (ay (.one u::r)) (n+1)=false from hq,Bool.and_false,h3];rfl
                  | .arr k' z' m::s::r,h3,hq =>
                    simp only[Row.sub];rw[show Nat.beq (ay (.arr k' z' m::s::r)) (n+1)=false from hq,Bool.and_false,h3];rfl
                 rw[this,← Tr.af hr,h4]
               · rw[← Tr.af hr]
           | false=>rw[hc,cond_false] at hr;exact (Tr.ah hr).elim
         · rename_i h;cases hc:Nat.beq (ay l) (Nat.succ n) with
           | true=>rw[hc,cond_true] at hr;exact (Tr.ah hr).elim
           | false =>
             rw[hc,cond_false] at hr;obtain ⟨h1,h2,k,z,h3,h4⟩:=xi _ _ _ _ _ _ (Nat.succ_pos n) hr;rw[Nat.sub_zero] at h2 h3;rw[if_pos (show off+(n+1)≤(Row.M l).len from h2)];simp only[Row.cut];rw[show Nat.ble (n+1) 8=false from hb,if_neg (by simp),show Nat.beq (ay l) (n+1)=false from hc,Bool.and_false,if_neg (by simp)];have : Row.sub (.M l) off (n+1)=.M [.arr k z (n+1)]:=by
              match l,h3,hc with
              | [],h3,_=>simp[kU] at h3
              | [.arr k' z' m],h3,hc =>
                simp only[kU] at h3;split at h3
                · simp only[nP] at h3;obtain ⟨rfl,rfl⟩:=h3;rfl
                · split at h3<;>simp at h3
              | .one u::r,h3,hc =>
                simp only[Row.sub];rw[show Nat.beq (ay (.one u::r)) (n+1)=false from hc,Bool.and_false,h3];rfl
              | .arr k' z' m::s::r,h3,hc =>
                simp only[Row.sub];rw[show Nat.beq (ay (.arr k' z' m::s::r)) (n+1)=false from hc,Bool.and_false,h3];rfl
             rw[this,h4]
     · rename_i f m;obtain ⟨hc,hr⟩:=Tr.aT hr;rw[iS,decide_eq_true_eq,aC] at hc;unfold jv;rw[ha,hs];dsimp only;rw[if_pos (show off+(n+1)≤(Row.F f m).len from hc),← Tr.af hr]
     · split at hr
       · rw[c9,vM] at hr;exact hr
       · exact (Tr.ah hr).elim
     · split at hr
       · rw[c9,vM] at hr;exact hr
       · exact (Tr.ah hr).elim
   · exact (Tr.ah hr).elim
 · exact (Tr.ah hr).elim

def xg (H:ab) (d i v:Nat) (h:Option Nat):Tr Row :=
 match h with
 | none=>vI (Ct H d i v)
 | some _=>match ni H d i with
   | (ver,.row r)=>.req (cu ver v) (.ok r)
   | _=>.bad
theorem kS {H:ab} {d i v:Nat} {h:Option Nat} {r:Row} (hr:(xg H d i v h).run=some r):dg H d i v=some r:=by
 unfold xg at hr;split at hr
 · rw[c9,yh] at hr;exact hr
 · rw[oT] at hr;split at hr
   · rename_i ver q hg;obtain ⟨hc,hr2⟩:=Tr.aT hr;rw[eQ,decide_eq_true_eq] at hc;subst hc;unfold dg;rw[hg];simp only[Nat.beq_refl,if_true];rw[Tr.af hr2]
   · exact (Tr.ah hr).elim
def loadT (P:Program) (H:ab) (t:TypeId) (a:HV):Tr AV :=
 match a.1 with
 | .ptr d i v off=>(xg H d i v a.2).bind fun r=>(za P t r off a.2).bind fun x=>.ok (nr d x)
 | .ptrT s r off=>(za P t r off a.2).bind fun x=>.ok (Un s x)
 | _=>.bad
theorem yy {P:Program} {H:ab} {t:TypeId} {a:HV} {v:AV} (hr:(loadT P H t a).run=some v):oZ P H t a.1=some v:=by
 unfold loadT at hr;unfold oZ;split at hr
 · rename_i d i ver off ha;obtain ⟨r,h1,hr⟩:=Tr.bind_some hr;obtain ⟨x,h2,hr⟩:=Tr.bind_some hr;rw[ha];dsimp only;rw[kS h1];dsimp only;rw[tx h2,← Tr.af hr];rfl
 · rename_i s r off ha;obtain ⟨x,h2,hr⟩:=Tr.bind_some hr;rw[ha];dsimp only;rw[tx h2,← Tr.af hr];rfl
 · exact (Tr.ah hr).elim

def qQ:List db→Nat→AV→Option (List db)
 | [],_,_=>none
 | .one u::r,j,v=>match j with
   | 0=>some (.one v::r)
   | j+1=>match qQ r j v with
     | some r'=>some (.one u::r')
     | none=>none
 | .arr k z n::r,j,v=>cond (Nat.blt j n) (match v with
    | .int k' x=>cond (gJ k' k) (some (.arr k (ft z j x) n::r)) none
    | _=>none)
   (match qQ r (Nat.sub j n) v with
     | some r'=>some (.arr k z n::r')
     | none=>none)
theorem tM:∀ (l:List db) (j:Nat) (v:AV) (l':List db),qQ l j v=some l'→j<ay l∧jI l j v=l'
 | [],_,_,_,h=>by simp[qQ] at h
 | .one u::r,0,v,l',h=>by
   simp only[qQ,Option.some.injEq] at h;exact ⟨by simp only[ay,aP];omega,h⟩
 | .one u::r,j+1,v,l',h=>by
   simp only[qQ] at h;split at h
   · rename_i r' hr;have:=tM r j v r' hr;simp only[Option.some.injEq] at h;exact ⟨by simp only[ay,aP];omega,by simp only[jI];rw[this.2];exact h⟩
   · simp at h
 | .arr k z n::r,j,v,l',h=>by
   simp only[qQ] at h;cases hb:Nat.blt j n with
   | true =>
     rw[hb,cond_true] at h;have hj:=B8 hb;split at h
     · rename_i k' x;rw[j0] at h;split at h
       · rename_i hk;simp only[Option.some.injEq] at h;refine ⟨by simp only[ay,aP];omega,?_⟩;simp only[jI];rw[if_pos hj,if_pos hk,← h,rN]
       · simp at h
     · simp at h
   | false =>
     rw[hb,cond_false] at h;have hj:=JH hb;split at h
     · rename_i r' hr;have:=tM r (j-n) v r' hr;simp only[Option.some.injEq] at h;exact ⟨by simp only[ay,aP];omega,by simp only[jI];rw[if_neg hj,this.2];exact h⟩
     · simp at h
def Eu:List db→Nat→Nat→Nat→AV→Tr (List db)
 | [],_,_,_,_=>.bad
 | .one u::r,pos,h,off,v=>match h with
   | 0=>.bad
   | h+1=>(Eu r (Nat.succ pos) h off v).bind fun r'=>.ok (.one u::r')
 | .arr k z n::r,pos,h,off,v=>cond (Nat.blt h n) (match v with
    | .int k' x=>cond (gJ k' k) (.req (fF off 1 pos n) (.ok (.arr k (ft z (jh off pos) x) n::r))) .bad
    | _=>.bad)
   ((Eu r (Nat.add pos n) (Nat.sub h n) off v).bind fun r'=>.ok (.arr k z n::r'))
theorem xk:∀ (l:List db) (pos h off:Nat) (v:AV) (l':List db),(Eu l pos h off v).run=some l'→pos≤off∧off-pos<ay l∧jI l (off-pos) v=l'
 | [],_,_,_,_,_,h=>(Tr.ah h).elim
 | .one _::r,pos,0,off,v,l',h=>(Tr.ah h).elim
 | .one u::r,pos,h'+1,off,v,l',h=>by
   simp only[Eu] at h;obtain ⟨r',hr,h⟩:=Tr.bind_some h;obtain ⟨h1,h2,h3⟩:=xk r (pos+1) h' off v r' hr;refine ⟨by omega,by simp only[ay,aP];omega,?_⟩;rw[show off-pos=(off-(pos+1))+1 by omega,← Tr.af h,← h3];rfl
 | .arr k z n::r,pos,h',off,v,l',h=>by
   simp only[Eu] at h;cases hb:Nat.blt h' n with
   | true =>
     rw[hb,cond_true] at h;split at h
     · rename_i k' x;rw[j0] at h;split at h
       · rename_i hk;obtain ⟨hc,h⟩:=Tr.aT h;rw[iP,decide_eq_true_eq] at hc;refine ⟨hc.1,by simp only[ay,aP];omega,?_⟩;simp only[jI];rw[if_pos wO,if_pos hk,← Tr.af h,rN,gx]
       · exact (Tr.ah h).elim
     · exact (Tr.ah h).elim
   | false =>
     rw[hb,cond_false] at h;obtain ⟨r',hr,h⟩:=Tr.bind_some h;obtain ⟨h1,h2,h3⟩:=xk r (pos+n) (h'-n) off v r' hr;refine ⟨by omega,by simp only[ay,aP];omega,?_⟩;simp only[jI];rw[if_neg wO,← Tr.af h,← h3,show off-pos-n=off-(pos+n) by omega]
def MA (l:List db) (off:Nat) (h:Option Nat) (v:AV):Tr (List db) :=
 match l with
 | [.arr k z n]=>match v with
   | .int k' x=>cond (gJ k' k) (.req (bR off n) (.ok [.arr k (ft z off x) n])) .bad
   | _=>.bad
 | l=>match h with
   | none=>vI (qQ l off v)
   | some h=>Eu l 0 h off v
theorem Jc {l l':List db} {off:Nat} {h:Option Nat} {v:AV} (hr:(MA l off h v).run=some l'):off<ay l∧jI l off v=l':=by
 unfold MA at hr;split at hr
 · rename_i k z n;split at hr
   · rename_i k' x;rw[j0] at hr;split at hr
     · rename_i hk;obtain ⟨hc,hr⟩:=Tr.aT hr;rw[gV,decide_eq_true_eq] at hc;refine ⟨by simp only[ay,aP];omega,?_⟩;simp only[jI];rw[if_pos hc,if_pos hk,← Tr.af hr,rN]
     · exact (Tr.ah hr).elim
   · exact (Tr.ah hr).elim
 · split at hr
   · rw[c9] at hr;exact tM _ _ _ _ hr
   · have:=xk _ _ _ _ _ _ hr;rw[Nat.sub_zero] at this;exact this.2
def zo (off:Nat) (h:Option Nat):List AV→Nat→List db→Tr (List db)
 | [],_,l=>.ok l
 | v::vs,j,l=>(MA l (Ej off h j) (yi h j) v).bind fun l'=>zo off h vs (Nat.succ j) l'
theorem tL {off:Nat} {h:Option Nat}:∀ (vs:List AV) (j:Nat) (l l':List db),(zo off h vs j l).run=some l'→(vs=[]∨off+j+vs.length≤ay l)∧Row.cN (.M l) (off+j) vs=.M l'
 | [],j,l,l',h=>⟨.inl rfl,by rw[Tr.af h];rfl⟩
 | v :: vs,j,l,l',h=>by
   simp only[zo] at h;obtain ⟨l1,h1,h⟩:=Tr.bind_some h;obtain ⟨k1,k2⟩:=Jc h1;rw[rD] at k1 k2;obtain ⟨k3,k4⟩:=tL vs (j+1) l1 l' h;have hl:ay l1=ay l:=by rw[← k2,mK]
   refine ⟨.inr ?_,?_⟩
   · rcases k3 with rfl | k3
     · simp only[List.length_cons,List.length_nil];omega
     · simp only[List.length_cons];omega
   · simp only[Row.cN,Row.set,k2];exact k4
def GD (l:List db) (off:Nat) (h:Option Nat) (q:Row):Tr Row :=
 match l,q with
 | [.arr k z m],.M [.arr k' z' n]=>cond (gJ k' k) (.req (fF off n 0 m) (.ok (.M [.arr k (lI z off z' n) m]))) .bad
 | l,q=>cond (Nat.ble 9 (ie q)) (match h with
    | none=>cond (Nat.ble (Nat.add off (ie q)) (ay l)) (.ok (w8 l off q)) .bad
    | some _=>.bad)
   (match kW q with
     | []=>.bad
     | v::vs=>(zo off h (v::vs) 0 l).bind fun l'=>.ok (.M l'))
theorem w9 {l:List db} {off:Nat} {h:Option Nat} {q r:Row} (hr:(GD l off h q).run=some r):off+q.len≤ay l∧jH (.M l) off q=r:=by
 unfold GD at hr;split at hr
 · rename_i k z m k' z' n;rw[j0] at hr;split at hr
   · rename_i hk;obtain ⟨hc,hr⟩:=Tr.aT hr;rw[iP,decide_eq_true_eq] at hc;refine ⟨by simp only[Row.len,ay,aP];omega,?_⟩;simp only[jH];rw[if_pos hk,← Tr.af hr,wc]
   · exact (Tr.ah hr).elim
 · rename_i hne;have hA:jH (.M l) off q=w8 l off q:=by
    simp only[jH];split
    · rename_i k z m;split
      · rename_i k' z' n;exact (hne _ _ _ _ _ _ rfl rfl).elim
      · rfl
    · rfl
   rw[hA];rw[fb] at hr;cases hb:Nat.ble 9 q.len with
   | true =>
     rw[hb,cond_true] at hr;split at hr
     · cases hc:Nat.ble (Nat.add off q.len) (ay l) with
       | true =>
         rw[hc,cond_true] at hr;rw[Nat.ble_eq] at hc;exact ⟨hc,Tr.af hr⟩
       | false=>rw[hc,cond_false] at hr;exact (Tr.ah hr).elim
     · exact (Tr.ah hr).elim
   | false =>
     rw[hb,cond_false,oi] at hr;have hl:=Row.bo q;split at hr
     · exact (Tr.ah hr).elim
     · rename_i v vs hq;obtain ⟨l1,h1,hr⟩:=Tr.bind_some hr;obtain ⟨k1,k2⟩:=tL _ _ _ _ h1;rw[hq] at hl;refine ⟨?_,?_⟩
       · rcases k1 with k1 | k1
         · simp at k1
         · omega
       · unfold w8;rw[hb,if_neg (by simp),hq,← Tr.af hr,← k2];rfl
def Mk (d:Nat) (x:AV):Bool :=
 match d with
 | 0=>false
 | _+1=>match x with
   | .slc 0 _ _ _ _ _ _=>true
   | _=>false
def storeT (P:Program) (H:ab) (t:TypeId) (a:HV) (x:AV):Tr Delta :=
 match a.1 with
 | .ptr d i v off=>cond (Mk d x) (match a.2 with | none=>vI (rK P H t a.1 x) | some _=>.bad)
   (cond (jF H d) .bad ((xg H d i v a.2).bind fun r=>match bE P t with
     | some n=>match x.row with
       | some q=>cond (Nat.beq (ie q) n) (match r with
         | .M l=>(GD l off a.2 (jd d q)).bind fun r'=>.ok (.set d i (v,.row r'))
         | _=>match a.2 with | none=>vI (rK P H t a.1 x) | some _=>.bad) .bad
       | none=>.bad
     | none=>.bad))
 | _=>.bad
theorem EE {P:Program} {H:ab} {t:TypeId} {a:HV} {x:AV} {δ:Delta} (hr:(storeT P H t a x).run=some δ):gp P H t a.1 x=some δ:=by
 unfold storeT at hr;split at hr
 · rename_i d i v off ha;cases ho:Mk d x with
   | true =>
     rw[ho,cond_true] at hr;split at hr
     · rw[c9,tQ] at hr;exact hr
     · exact (Tr.ah hr).elim
   | false =>
     rw[ho,cond_false,gh] at hr;cases hl:aL H d with
     | true=>rw[hl,cond_true] at hr;exact (Tr.ah hr).elim
     | false =>
       rw[hl,cond_false] at hr;obtain ⟨r,h1,hr⟩:=Tr.bind_some hr;split at hr
       · rename_i n hs;split at hr
         · rename_i q hq;rw[fb] at hr;cases hb:Nat.beq q.len n with
           | false=>rw[hb,cond_false] at hr;exact (Tr.ah hr).elim
           | true =>
             rw[hb,cond_true] at hr;have hb:q.len=n:=by simpa using hb
             split at hr
             · rename_i l;obtain ⟨r',h2,hr⟩:=Tr.bind_some hr;obtain ⟨k1,k2⟩:=w9 h2;rw[fe] at k1;rw[ha];unfold gp;dsimp only;rw[hl,if_neg (by simp),kS h1,hs,hq];dsimp only;rw[if_pos ⟨hb,by show off+n≤ay l;omega⟩];have:∀ (d':Nat) (j w o sz len:Nat) (cap:Option Nat),d=d'+1→x≠.slc 0 j w o sz len cap:=by
                rintro d' j w o sz len cap rfl rfl;simp[Mk] at ho
               rw[← Tr.af hr,← k2];split
               · exact absurd rfl (this _ _ _ _ _ _ _ rfl)
               · rfl
             · split at hr
               · rw[c9,tQ] at hr;exact hr
               · exact (Tr.ah hr).elim
         · exact (Tr.ah hr).elim
       · exact (Tr.ah hr).elim
 · exact (Tr.ah hr).elim

def hOr (h:Option Nat) (off:Nat):Nat :=
 match h with
 | none=>off
 | some h=>h
def nD (P:Program) (t:TypeId) (a:HV) (f:Nat):Tr HV :=
 match P.underlying t with
 | some (.struct fs)=>match fs[f]? with
   | some g=>match bE P g.type with
     | some (_+1)=>match a.1 with
       | .ptr d i v off=>.ok (.ptr d i v (Ej off a.2 g.offset),yi a.2 g.offset)
       | .ptrT s r off=>.ok (.ptrT s r (Ej off a.2 g.offset),yi a.2 g.offset)
       | _=>.bad
     | _=>.bad
   | none=>.bad
 | _=>.bad
theorem uw {P:Program} {t:TypeId} {a b:HV} {f:Nat} (hr:(nD P t a f).run=some b):iG P t a.1 f=some b.1:=by
 unfold nD at hr;unfold iG;split at hr
 · rename_i fs hu;rw[hu];dsimp only;split at hr
   · rename_i g hg;rw[hg];dsimp only;split at hr
     · rename_i n hs;rw[hs];dsimp only;split at hr
       · rename_i d i v off ha;rw[ha,← Tr.af hr];simp only[lz,rD]
       · rename_i s r off ha;rw[ha,← Tr.af hr];simp only[lz,rD]
       · exact (Tr.ah hr).elim
     · exact (Tr.ah hr).elim
   · exact (Tr.ah hr).elim
 · exact (Tr.ah hr).elim
def isLit (x:HV):Bool :=
 match x.2 with
 | some _=>true
 | none=>false
def Gr (off:Nat) (ic:Bool) (i:Int) (z:Nat):Nat:=cond ic (Nat.add off (Nat.mul i.toNat z)) (aq off i z)
theorem rC (off:Nat) (ic:Bool) (i:Int) (z:Nat):Gr off ic i z=off+i.toNat*z:=by
 cases ic with
 | true=>rfl
 | false=>exact bP _ _ _
def Cz (h:Option Nat) (off:Nat) (ic:Bool) (i:Int) (z:Nat):Option Nat :=
 cond ic (yi h (Nat.mul i.toNat z)) (some (hOr h off))
def LO (P:Program) (t:TypeId) (a:HV) (ic:Bool) (i:Int):Tr HV :=
 match P.underlying t with
 | some (.array n e)=>match bE P e with
   | some z=>match a.1 with
     | .ptr d j v off=>.req (b8 i n) (.ok (.ptr d j v (Gr off ic i z),Cz a.2 off ic i z))
     | .ptrT s r off=>.req (b8 i n) (.ok (.ptrT s r (Gr off ic i z),Cz a.2 off ic i z))
     | _=>.bad
   | none=>.bad
 | some (.slice e)=>match bE P e with
   | some z=>match a.1 with
     | .slc d j v off sz len cap=>cond (Nat.beq z sz) (.req (b8 i len) (.ok (.ptr d j v (Gr off ic i z),match cap with
       | some _=>Cz none off ic i z
       | none=>some off))) .bad
     | .slcT s r sz len _=>cond (Nat.beq z sz) (.req (b8 i len) (.ok (.ptrT s r (Gr 0 ic i z),Cz none 0 ic i z))) .bad
     | _=>.bad
   | none=>.bad
 | _=>.bad
def Qx (P:Program) (t:TypeId) (x:AV) (ic:Bool) (i:Int):Tr AV :=
 cond ic (vI (pV P t x i)) (match P.underlying t with
  | some (.array n e)=>match x with
    | .agg r=>match bE P e with
      | some z=>.req (b8 i n) (za P e r (aq 0 i z) (some 0))
      | none=>.bad
    | _=>.bad
  | _=>.bad)
theorem LV {P:Program} {t:TypeId} {x v:AV} {ic:Bool} {i:Int} (hr:(Qx P t x ic i).run=some v):pV P t x i=some v:=by
 unfold Qx at hr;cases ic with
 | true=>rw[cond_true,c9] at hr;exact hr
 | false =>
   rw[cond_false] at hr;split at hr
   · rename_i n e hu;split at hr
     · split at hr
       · rename_i z hs;obtain ⟨hc,hr⟩:=Tr.aT hr;rw[pU,decide_eq_true_eq] at hc;have h:=tx hr;rw[bP,Nat.zero_add] at h;unfold pV;rw[hu];dsimp only;rw[hs];dsimp only;rw[if_pos hc,h]
       · exact (Tr.ah hr).elim
     · exact (Tr.ah hr).elim
   · exact (Tr.ah hr).elim
theorem Ij {P:Program} {t:TypeId} {a b:HV} {ic:Bool} {i:Int} (hr:(LO P t a ic i).run=some b):iQ P t a.1 i=some b.1:=by
 unfold LO at hr;unfold iQ;split at hr
 · rename_i n e hu;split at hr
   · rename_i z hs;split at hr
     · rename_i d j v off ha;obtain ⟨hc,hr⟩:=Tr.aT hr;rw[pU,decide_eq_true_eq] at hc;rw[hu,ha];dsimp only;rw[hs];dsimp only;rw[if_pos hc,← Tr.af hr];simp only[lz,rC]
     · rename_i s r off ha;obtain ⟨hc,hr⟩:=Tr.aT hr;rw[pU,decide_eq_true_eq] at hc;rw[hu,ha];dsimp only;rw[hs];dsimp only;rw[if_pos hc,← Tr.af hr];simp only[lz,rC]
     · exact (Tr.ah hr).elim
   · exact (Tr.ah hr).elim
 · rename_i e hu;split at hr
   · rename_i z hs;split at hr
     · rename_i d j v off sz len cap ha;cases hb:Nat.beq z sz with
       | false=>rw[hb,cond_false] at hr;exact (Tr.ah hr).elim
       | true =>
         rw[hb,cond_true] at hr;have hb:z=sz:=by simpa using hb
         subst hb;obtain ⟨hc,hr⟩:=Tr.aT hr;rw[pU,decide_eq_true_eq] at hc;rw[hu,ha];dsimp only;rw[if_pos ⟨hc.1,hc.2,hs⟩,← Tr.af hr];simp only[rC]
     · rename_i s r sz len full ha;cases hb:Nat.beq z sz with
       | false=>rw[hb,cond_false] at hr;exact (Tr.ah hr).elim
       | true =>
         rw[hb,cond_true] at hr;have hb:z=sz:=by simpa using hb
         subst hb;obtain ⟨hc,hr⟩:=Tr.aT hr;rw[pU,decide_eq_true_eq] at hc;rw[hu,ha];dsimp only;rw[if_pos ⟨hc.1,hc.2,hs⟩,← Tr.af hr];simp only[rC,Nat.zero_add]
     · exact (Tr.ah hr).elim
   · exact (Tr.ah hr).elim
 · exact (Tr.ah hr).elim

end
end Go.Eng
