/- The engine as a tree: frames with hints, rows, loads, stores, addresses. -/
import Derived.Test.YtgphpjdchnfjlaaDoorV4EngTa
set_option linter.unusedVariables false
set_option linter.unusedSimpArgs false
namespace Go.Eng
noncomputable section

abbrev HV:=AV×Option Nat
abbrev aO:=List (Nat×HV)
def strip (f:aO):aD:=List.rec (motive:=fun _=>aD) [] (fun p _ ih=>(p.1,p.2.1)::ih) f
theorem cX (x:Nat) (v:HV) (r:aO):strip ((x,v)::r)=(x,v.1)::strip r:=rfl
def lC (f:aO) (y:Nat):HV:=List.rec (motive:=fun _=>HV) (AV.undef,none) (fun p _ ih=>Bool.rec ih p.2 (Nat.beq p.1 y)) f
theorem fb:∀ (f:aO) (y:Nat),(lC f y).1=bL (strip f) y
 | [],y=>rfl
 | (x,v)::r,y=>by
   have e:lC ((x,v)::r) y=Bool.rec (lC r y) v (Nat.beq x y):=rfl;rw[e,cX,bL];cases Nat.beq x y with
   | true=>rfl
   | false=>exact fb r y
def x4 (f:aO) (y:Nat) (u:HV):aO:=List.rec (motive:=fun _=>aO) [(y,u)] (fun p r ih=>Bool.rec (motive:=fun _=>aO) (p::ih) (Bool.rec (motive:=fun _=>aO) ((y,u)::p::r) ((y,u)::r) (Nat.beq p.1 y)) (Nat.ble y p.1)) f
theorem x5:∀ (f:aO) (y:Nat) (u:HV),strip (x4 f y u)=uu (strip f) y u.1
 | [],y,u=>rfl
 | (x,v)::r,y,u=>by
   have e:x4 ((x,v)::r) y u=Bool.rec (motive:=fun _=>aO) ((x,v)::x4 r y u) (Bool.rec (motive:=fun _=>aO) ((y,u)::(x,v)::r) ((y,u)::r) (Nat.beq x y)) (Nat.ble y x):=rfl;rw[e,cX,uu,← x5 r y u];cases Nat.ble y x with
   | false=>rfl
   | true=>cases Nat.beq x y<;>rfl
def gf (f:aO) (m:Nat):aO:=List.rec (motive:=fun _=>aO) [] (fun p _ ih=>Bool.rec (motive:=fun _=>aO) (p::ih) ih (Nat.beq (Nat.land (Nat.shiftRight m p.1) 1) 1)) f
theorem eP:∀ (f:aO) (m:Nat),strip (gf f m)=bS (strip f) m
 | [],m=>rfl
 | (x,v)::r,m=>by
   have e:gf ((x,v)::r) m=Bool.rec (motive:=fun _=>aO) ((x,v)::gf r m) (gf r m) (Nat.beq (Nat.land (Nat.shiftRight m x) 1) 1):=rfl;have e2:bS ((x,v.1)::strip r) m=Bool.rec (motive:=fun _=>aD) ((x,v.1)::bS (strip r) m) (bS (strip r) m) (Nat.beq (Nat.land (Nat.shiftRight m x) 1) 1):=rfl;rw[e,cX,e2,← eP r m];cases Nat.beq (Nat.land (Nat.shiftRight m x) 1) 1<;>rfl
def Q9 (v:Value):Option Nat :=
 match v with
 | .int _ _=>some 1
 | .bool _=>some 1
 | _=>none
def b8 (fr:aO) (x:Operand):HV:=Operand.rec (motive:=fun _=>HV) (fun t=>lC fr t) (fun v=>(kJ v,Q9 v)) (fun _=>(.undef,none)) (fun f=>(.fn (.func f) [] [],none)) x
theorem bf (fr:aO) (x:Operand):(b8 fr x).1=bW (strip fr) x:=by
 cases x with
 | tmp t=>exact fb fr t
 | _=>rfl
def yE (fr:aO) (l:List Operand):List AV:=q8 (fun x=>(b8 fr x).1) l
theorem tg (fr:aO):∀ l,yE fr l=lh (strip fr) l
 | []=>rfl
 | x::l=>by
   have e:yE fr (x::l)=(b8 fr x).1::yE fr l:=rfl;rw[e,tg fr l,bf];rfl
def qN (nt:Nat) (fr:aO) (dst:Option Tmp) (v:HV):aO:=Option.rec (motive:=fun _=>aO) fr (fun d=>Bool.rec (motive:=fun _=>aO) fr (x4 fr d v) (Nat.ble (Nat.succ d) nt)) dst
theorem mw (nt:Nat) (fr:aO) (dst:Option Tmp) (v:HV):strip (qN nt fr dst v)=iC nt (strip fr) dst v.1:=by
 rw[← Gx];cases dst with
 | none=>rfl
 | some d =>
   have e:qN nt fr (some d) v=Bool.rec (motive:=fun _=>aO) fr (x4 fr d v) (Nat.ble (Nat.succ d) nt):=rfl;have e2:Gw nt (strip fr) (some d) v.1=Bool.rec (motive:=fun _=>aD) (strip fr) (vc (strip fr) d v.1) (Nat.ble (Nat.succ d) nt):=rfl;rw[e,e2,xO,← x5];cases Nat.ble (Nat.succ d) nt<;>rfl

def qA:List c8→Nat→Option AV
 | [],_=>none
 | .one v::r,j=>match j with
   | 0=>some v
   | j+1=>qA r j
 | .arr k z n::r,j=>cond (Nat.blt j n) (some (.int k (z j))) (qA r (Nat.sub j n))
theorem BS {a b:Nat} (h:Nat.blt a b=true):a<b:=by rwa [Nat.blt_eq] at h
theorem JD {a b:Nat} (h:Nat.blt a b=false):¬ a<b:=fun e=>by
 have:Nat.blt a b=true:=by rw[Nat.blt_eq];exact e
 rw[h] at this;cases this
theorem sq:∀ (l:List c8) (j:Nat) (v:AV),qA l j=some v→j<aA l∧getM l j=v
 | [],_,_,h=>by simp[qA] at h
 | .one u::r,0,v,h=>by
   simp only[qA,Option.some.injEq] at h;exact ⟨by simp only[aA,aQ];omega,h⟩
 | .one u::r,j+1,v,h=>by
   have:=sq r j v (by simpa[qA] using h);exact ⟨by simp only[aA,aQ];omega,this.2⟩
 | .arr k z n::r,j,v,h=>by
   simp only[qA] at h;simp only[aA,aQ,getM];cases hb:Nat.blt j n with
   | true =>
     rw[hb,cond_true,Option.some.injEq] at h;have:=BS hb;exact ⟨by omega,by rw[if_pos this];exact h⟩
   | false =>
     rw[hb,cond_false] at h;have hn:=JD hb;have:=sq r (j-n) v h;exact ⟨by omega,by rw[if_neg hn];exact this.2⟩
def GQ:List c8→Nat→Nat→Nat→Tr AV
 | [],_,_,_=>.bad
 | .one _::r,pos,h,off=>match h with
   | 0=>.bad
   | h+1=>GQ r (Nat.succ pos) h off
 | .arr k z n::r,pos,h,off=>cond (Nat.blt h n) (.req (dT off 1 pos n) (.ok (.int k (z (cY off pos))))) (GQ r (Nat.add pos n) (Nat.sub h n) off)
theorem xh:∀ (l:List c8) (pos h off:Nat) (v:AV),(GQ l pos h off).run=some v→pos≤off∧off-pos<aA l∧getM l (off-pos)=v
 | [],_,_,_,_,h=>(Tr.ag h).elim
 | .one _::r,pos,0,off,v,h=>(Tr.ag h).elim
 | .one u::r,pos,h'+1,off,v,h=>by
   obtain ⟨h1,h2,h3⟩:=xh r (pos+1) h' off v h;refine ⟨by omega,by simp only[aA,aQ];omega,?_⟩;rw[show off-pos=(off-(pos+1))+1 by omega];exact h3
 | .arr k z n::r,pos,h',off,v,h=>by
   simp only[GQ] at h;cases hb:Nat.blt h' n with
   | true =>
     rw[hb,cond_true] at h;obtain ⟨hc,h⟩:=Tr.aT h;rw[jP,decide_eq_true_eq] at hc;have h:=Tr.ab h;refine ⟨hc.1,by simp only[aA,aQ];omega,?_⟩;simp only[getM];rw[if_pos (by omega),← h,cQ]
   | false =>
     rw[hb,cond_false] at h;obtain ⟨h1,h2,h3⟩:=xh r (pos+n) (h'-n) off v h;refine ⟨by omega,by simp only[aA,aQ];omega,?_⟩;simp only[getM];rw[if_neg (by omega),← h3];congr 1;omega
def CX (r:Row) (off:Nat) (h:Option Nat):Tr AV :=
 match r with
 | .F f n=>.req (cH off n) (.ok (f off))
 | .M l=>match l with
   | [.arr k z n]=>.req (cH off n) (.ok (.int k (z off)))
   | l=>match h with
     | none=>vz (qA l off)
     | some h=>GQ l 0 h off
 | .I k l=>match h with
   | none=>vz (jD (.I k l) off)
   | some _=>.req (cH off (FX l)) (.ok (.int k (az l off)))
 | .G l=>match h with
   | none=>vz (jD (.G l) off)
   | some _=>.bad
theorem yR {r:Row} {off:Nat} {v:AV} (h:jD r off=some v):off<r.len∧r.get off=v:=by
 rw[tA] at h;split at h
 · rename_i h0;exact ⟨h0,Option.some.inj h⟩
 · simp at h
theorem yL {r:Row} {off:Nat} {h:Option Nat} {v:AV} (hr:(CX r off h).run=some v):off<r.len∧r.get off=v:=by
 unfold CX at hr;split at hr
 · obtain ⟨hc,hr⟩:=Tr.aT hr;rw[ie,decide_eq_true_eq] at hc;exact ⟨hc,Tr.ab hr⟩
 · rename_i l;split at hr
   · rename_i k z n;obtain ⟨hc,hr⟩:=Tr.aT hr;rw[ie,decide_eq_true_eq] at hc;refine ⟨by simp only[Row.len,aA,aQ];omega,?_⟩;simp only[Row.get,getM];rw[if_pos hc];exact Tr.ab hr
   · split at hr
     · rw[c5] at hr;exact sq _ _ _ hr
     · have:=xh _ _ _ _ _ hr;rw[Nat.sub_zero] at this;exact this.2
 · split at hr
   · rw[c5] at hr;exact yR hr
   · obtain ⟨hc,hr⟩:=Tr.aT hr;rw[ie,decide_eq_true_eq,Cv] at hc;refine ⟨hc,?_⟩;rw[← Tr.ab hr,fT];rfl
 · split at hr
   · rw[c5] at hr;exact yR hr
   · exact (Tr.ag hr).elim
def D4 (off:Nat) (h:Option Nat) (j:Nat):Nat :=
 match h with
 | none=>Nat.add off j
 | some _=>match j with
   | 0=>off
   | j+1=>aq off (Nat.succ j)
theorem rG (off:Nat) (h:Option Nat) (j:Nat):D4 off h j=off+j:=by
 unfold D4;split
 · rfl
 · split
   · rfl
   · rw[aK]
def x7 (h:Option Nat) (j:Nat):Option Nat :=
 match h with
 | none=>none
 | some h=>some (Nat.add h j)
def CY (r:Row) (off:Nat) (h:Option Nat):Nat→Nat→Tr (List AV)
 | _,0=>.ok []
 | j,n+1=>(CX r (D4 off h j) (x7 h j)).bind fun v=>(CY r off h (Nat.succ j) n).bind fun l=>.ok (v::l)
theorem yM {r:Row} {off:Nat} {h:Option Nat}:∀ (n j:Nat) (l:List AV),(CY r off h j n).run=some l→l=dB r.get (off+j) n∧(n=0∨off+j+n≤r.len)
 | 0,j,l,hr=>⟨(Tr.ab hr).symm,.inl rfl⟩
 | n+1,j,l,hr=>by
   simp only[CY] at hr;obtain ⟨v,h1,hr⟩:=Tr.bind_some hr;obtain ⟨m,h2,hr⟩:=Tr.bind_some hr;have hr:=Tr.ab hr;obtain ⟨k1,k2⟩:=yL h1;obtain ⟨k3,k4⟩:=yM n (j+1) m h2;rw[rG] at k1 k2;refine ⟨?_,.inr (by omega)⟩;rw[← hr,dB,k2,k3,show off+(j+1)=off+j+1 by omega]
def GP:List c8→Nat→Nat→Nat→Nat→Tr AV
 | [],_,_,_,_=>.bad
 | .one _::r,pos,h,off,n=>match h with
   | 0=>.bad
   | h+1=>GP r (Nat.succ pos) h off n
 | .arr k z m::r,pos,h,off,n=>cond (Nat.blt h m) (.req (dT off n pos m) (.ok (.agg (.M [.arr k (dZ z (cY off pos)) n])))) (GP r (Nat.add pos m) (Nat.sub h m) off n)
theorem xg:∀ (l:List c8) (pos h off n:Nat) (v:AV),0<n→(GP l pos h off n).run=some v→pos≤off∧off-pos+n≤aA l∧∃ k z,lu l (off-pos) n=some (k,z)∧v=.agg (.M [.arr k z n])
 | [],_,_,_,_,_,_,h=>(Tr.ag h).elim
 | .one _::r,pos,0,off,n,v,_,h=>(Tr.ag h).elim
 | .one u::r,pos,h'+1,off,n,v,hn,h=>by
   obtain ⟨h1,h2,k,z,h3,h4⟩:=xg r (pos+1) h' off n v hn h;refine ⟨by omega,by simp only[aA,aQ];omega,k,z,?_,h4⟩;rw[show off-pos=(off-(pos+1))+1 by omega];exact h3
 | .arr k z m::r,pos,h',off,n,v,hn,h=>by
   simp only[GP] at h;cases hb:Nat.blt h' m with
   | true =>
     rw[hb,cond_true] at h;obtain ⟨hc,h⟩:=Tr.aT h;rw[jP,decide_eq_true_eq] at hc;have h:=Tr.ab h;refine ⟨hc.1,by simp only[aA,aQ];omega,k,fun j=>z (off-pos+j),?_,?_⟩
     · simp only[lu];rw[if_pos (by omega)]
     · rw[← h,mD,cQ]
   | false =>
     rw[hb,cond_false] at h;obtain ⟨h1,h2,k',z',h3,h4⟩:=xg r (pos+m) (h'-m) off n v hn h;refine ⟨by omega,by simp only[aA,aQ];omega,k',z',?_,h4⟩;simp only[lu];rw[if_neg (by omega),if_pos (by omega),← h3];congr 1;omega
def GO:List c8→Nat→Nat→Option Row
 | [],_,_=>none
 | .one _::r,o+1,n=>GO r o n
 | .one _::_,0,_=>none
 | .arr k z m::r,o,n=>cond (Nat.ble (Nat.add o n) m) (some (.M [.arr k (cond (Nat.beq o 0) z (dZ z o)) n])) (cond (Nat.ble m o) (GO r (Nat.sub o m) n) none)
theorem xf:∀ (l:List c8) (o n:Nat) (q:Row),GO l o n=some q→∃ k z,lu l o n=some (k,z)∧q=.M [.arr k z n]
 | [],_,_,_,h=>by cases h
 | .one u::r,o+1,n,q,h=>xf r o n q h
 | .one _::_,0,_,_,h=>by cases h
 | .arr k z m::r,o,n,q,h=>by
   simp only[GO] at h;cases hb:Nat.ble (Nat.add o n) m with
   | true =>
     rw[hb,cond_true] at h;have hle:o+n≤m:=Nat.le_of_ble_eq_true hb;simp only[Option.some.injEq] at h;refine ⟨k,fun j=>z (o+j),by simp only[lu];rw[if_pos hle],?_⟩;rw[← h];cases ho:Nat.beq o 0 with
     | true =>
       have:=Nat.eq_of_beq_eq_true ho;subst this;simp only[cond_true,Nat.zero_add]
     | false=>rw[cond_false,mD]
   | false =>
     rw[hb,cond_false] at h;cases hm:Nat.ble m o with
     | true =>
       rw[hm,cond_true] at h;have hle:m≤o:=Nat.le_of_ble_eq_true hm;have hnl:¬ (o+n≤m):=fun hc=>by
        have:Nat.ble (Nat.add o n) m=true:=by rw[Nat.ble_eq];exact hc
        rw[hb] at this;cases this
       obtain ⟨k',z',h1,h2⟩:=xf r (o-m) n q h;exact ⟨k',z',by simp only[lu];rw[if_neg hnl,if_pos hle];exact h1,h2⟩
     | false=>rw[hm,cond_false] at h;cases h
def yN (P:Program) (t:TypeId) (r:Row) (off:Nat) (h:Option Nat):Tr AV :=
 match fa P t with
 | some false=>CX r off h
 | some true=>match bA P t with
   | some 0=>.bad
   | some (n+1)=>match r with
     | .M l=>cond (Nat.ble (Nat.succ n) 8) ((CY (.M l) off h 0 (Nat.succ n)).bind fun vs=>.ok (.agg (Row.ofList vs)))
       (match h with
       | none=>cond (Nat.ble (Nat.add off (Nat.succ n)) (aA l)) (cond (Nat.beq (aA l) (Nat.succ n)) (.ok (.agg ((Row.M l).cut off (Nat.succ n)))) (match GO l off (Nat.succ n) with
         | some q=>.ok (.agg q)
         | none=>.ok (.agg ((Row.M l).cut off (Nat.succ n))))) .bad
       | some h=>cond (Nat.beq (aA l) (Nat.succ n)) .bad (GP l 0 h off (Nat.succ n)))
     | .F f m=>.req (dD (aq off (Nat.succ n)) m) (.ok (.agg ((Row.F f m).cut off (Nat.succ n))))
     | .I k l=>match h with
       | none=>vz (w8 P t (.I k l) off)
       | some _=>.bad
     | .G l=>match h with
       | none=>vz (w8 P t (.G l) off)
       | some _=>.bad
   | none=>.bad
 | none=>.bad
theorem tx       {P : Program} {t:TypeId} {r:Row} {off:Nat} {h:Option Nat} {v:AV} (hr:(yN P t r off h).run=some v):jC P t r off=some v:=by
 unfold yN at hr;split at hr
 · rename_i ha;obtain ⟨h1,h2⟩:=yL hr;unfold jC;rw[ha];dsimp only;rw[if_pos h1,h2]
 · rename_i ha;split at hr
   · exact (Tr.ag hr).elim
   · rename_i n hs;split at hr
     · rename_i l;unfold jC;rw[ha,hs];dsimp only;cases hb:Nat.ble (Nat.succ n) 8 with
       | true =>
         rw[hb,cond_true] at hr;obtain ⟨vs,h1,hr⟩:=Tr.bind_some hr;have hr:=Tr.ab hr;obtain ⟨k1,k2⟩:=yM _ _ _ h1;rw[if_pos (by omega),← hr,k1];simp only[Row.cut];rw[show Nat.ble (n+1) 8=true from hb,if_pos rfl,Nat.add_zero];rfl
       | false =>
         rw[hb,cond_false] at hr;split at hr
         · cases hc : Nat.ble (Nat.add off (Nat.succ n)) (aA l) with
           | true =>
             rw[hc,cond_true] at hr;rw[Nat.ble_eq] at hc;rw[if_pos (show off+(n+1)≤(Row.M l).len from hc)];cases hq:Nat.beq (aA l) (Nat.succ n) with
             | true=>rw[hq,cond_true] at hr;rw[← Tr.ab hr]
             | false =>
               rw[hq,cond_false] at hr;split at hr
               · rename_i q hseg;obtain ⟨k,z,h3,h4⟩:=xf _ _ _ _ hseg;simp only[Row.cut];rw[show Nat.ble (n+1) 8=false from hb,if_neg (by simp),show Nat.beq (aA l) (n+1)=false from hq,Bool.and_false,if_neg (by simp)];have : Row.sub (.M l) off (n+1)=.M [.arr k z (n+1)]:=by
                  match l,h3,hq with
                  | [],h3,_=>simp[lu] at h3
                  | [.arr k' z' m],h3,hq =>
                    simp only[lu] at h3;split at h3
                    · simp only[nP] at h3;obtain ⟨rfl,rfl⟩:=h3;rfl
                    · split at h3<;>simp at h3
                  | .one u::r,h3,hq =>
                    simp only[Row.sub];rw[show Nat.beq (aA (.one u::r)) (n+1)=false from hq,Bool.and_false,h3];rfl
                  | .arr k' z' m::s::r,h3,hq =>
                    simp only[Row.sub];rw[show Nat.beq (aA (.arr k' z' m::s::r)) (n+1)=false from hq,Bool.and_false,h3];rfl
                 rw[this,← Tr.ab hr,h4]
               · rw[← Tr.ab hr]
           | false=>rw[hc,cond_false] at hr;exact (Tr.ag hr).elim
         · rename_i h;cases hc:Nat.beq (aA l) (Nat.succ n) with
           | true=>rw[hc,cond_true] at hr;exact (Tr.ag hr).elim
           | false =>
             rw[hc,cond_false] at hr;obtain ⟨h1,h2,k,z,h3,h4⟩:=xg _ _ _ _ _ _ (Nat.succ_pos n) hr;rw[Nat.sub_zero] at h2 h3;rw[if_pos (show off+(n+1)≤(Row.M l).len from h2)];simp only[Row.cut];rw[show Nat.ble (n+1) 8=false from hb,if_neg (by simp),show Nat.beq (aA l) (n+1)=false from hc,Bool.and_false,if_neg (by simp)];have : Row.sub (.M l) off (n+1)=.M [.arr k z (n+1)]:=by
              match l,h3,hc with
              | [],h3,_=>simp[lu] at h3
              | [.arr k' z' m],h3,hc =>
                simp only[lu] at h3;split at h3
                · simp only[nP] at h3;obtain ⟨rfl,rfl⟩:=h3;rfl
                · split at h3<;>simp at h3
              | .one u::r,h3,hc =>
                simp only[Row.sub];rw[show Nat.beq (aA (.one u::r)) (n+1)=false from hc,Bool.and_false,h3];rfl
              | .arr k' z' m::s::r,h3,hc =>
                simp only[Row.sub];rw[show Nat.beq (aA (.arr k' z' m::s::r)) (n+1)=false from hc,Bool.and_false,h3];rfl
             rw[this,h4]
     · rename_i f m;obtain ⟨hc,hr⟩:=Tr.aT hr;rw[kU,decide_eq_true_eq,aK] at hc;unfold jC;rw[ha,hs];dsimp only;rw[if_pos (show off+(n+1)≤(Row.F f m).len from hc),← Tr.ab hr]
     · split at hr
       · rw[c5,vD] at hr;exact hr
       · exact (Tr.ag hr).elim
     · split at hr
       · rw[c5,vD] at hr;exact hr
       · exact (Tr.ag hr).elim
   · exact (Tr.ag hr).elim
 · exact (Tr.ag hr).elim

def xc (H:aa) (d i v:Nat) (h:Option Nat):Tr Row :=
 match h with
 | none=>vz (Ch H d i v)
 | some _=>match nq H d i with
   | (ver,.row r)=>.req (cj ver v) (.ok r)
   | _=>.bad
theorem ln {H:aa} {d i v:Nat} {h:Option Nat} {r:Row} (hr:(xc H d i v h).run=some r):cO H d i v=some r:=by
 unfold xc at hr;split at hr
 · rw[c5,x6] at hr;exact hr
 · rw[oY] at hr;split at hr
   · rename_i ver q hg;obtain ⟨hc,hr2⟩:=Tr.aT hr;rw[fJ,decide_eq_true_eq] at hc;subst hc;unfold cO;rw[hg];simp only[Nat.beq_refl,if_true];rw[Tr.ab hr2]
   · exact (Tr.ag hr).elim
def loadT (P:Program) (H:aa) (t:TypeId) (a:HV):Tr AV :=
 match a.1 with
 | .ptr d i v off=>(xc H d i v a.2).bind fun r=>(yN P t r off a.2).bind fun x=>.ok (mE d x)
 | .ptrT s r off=>(yN P t r off a.2).bind fun x=>.ok (TY s x)
 | _=>.bad
theorem yl {P:Program} {H:aa} {t:TypeId} {a:HV} {v:AV} (hr:(loadT P H t a).run=some v):pb P H t a.1=some v:=by
 unfold loadT at hr;unfold pb;split at hr
 · rename_i d i ver off ha;obtain ⟨r,h1,hr⟩:=Tr.bind_some hr;obtain ⟨x,h2,hr⟩:=Tr.bind_some hr;rw[ha];dsimp only;rw[ln h1];dsimp only;rw[tx h2,← Tr.ab hr];rfl
 · rename_i s r off ha;obtain ⟨x,h2,hr⟩:=Tr.bind_some hr;rw[ha];dsimp only;rw[tx h2,← Tr.ab hr];rfl
 · exact (Tr.ag hr).elim

def qS:List c8→Nat→AV→Option (List c8)
 | [],_,_=>none
 | .one u::r,j,v=>match j with
   | 0=>some (.one v::r)
   | j+1=>match qS r j v with
     | some r'=>some (.one u::r')
     | none=>none
 | .arr k z n::r,j,v=>cond (Nat.blt j n) (match v with
    | .int k' x=>cond (gL k' k) (some (.arr k (eg z j x) n::r)) none
    | _=>none)
   (match qS r (Nat.sub j n) v with
     | some r'=>some (.arr k z n::r')
     | none=>none)
theorem tM:∀ (l:List c8) (j:Nat) (v:AV) (l':List c8),qS l j v=some l'→j<aA l∧jS l j v=l'
 | [],_,_,_,h=>by simp[qS] at h
 | .one u::r,0,v,l',h=>by
   simp only[qS,Option.some.injEq] at h;exact ⟨by simp only[aA,aQ];omega,h⟩
 | .one u::r,j+1,v,l',h=>by
   simp only[qS] at h;split at h
   · rename_i r' hr;have:=tM r j v r' hr;simp only[Option.some.injEq] at h;exact ⟨by simp only[aA,aQ];omega,by simp only[jS];rw[this.2];exact h⟩
   · simp at h
 | .arr k z n::r,j,v,l',h=>by
   simp only[qS] at h;cases hb:Nat.blt j n with
   | true =>
     rw[hb,cond_true] at h;have hj:=BS hb;split at h
     · rename_i k' x;rw[ki] at h;split at h
       · rename_i hk;simp only[Option.some.injEq] at h;refine ⟨by simp only[aA,aQ];omega,?_⟩;simp only[jS];rw[if_pos hj,if_pos hk,← h,rO]
       · simp at h
     · simp at h
   | false =>
     rw[hb,cond_false] at h;have hj:=JD hb;split at h
     · rename_i r' hr;have:=tM r (j-n) v r' hr;simp only[Option.some.injEq] at h;exact ⟨by simp only[aA,aQ];omega,by simp only[jS];rw[if_neg hj,this.2];exact h⟩
     · simp at h
def Ef:List c8→Nat→Nat→Nat→AV→Tr (List c8)
 | [],_,_,_,_=>.bad
 | .one u::r,pos,h,off,v=>match h with
   | 0=>.bad
   | h+1=>(Ef r (Nat.succ pos) h off v).bind fun r'=>.ok (.one u::r')
 | .arr k z n::r,pos,h,off,v=>cond (Nat.blt h n) (match v with
    | .int k' x=>cond (gL k' k) (.req (dT off 1 pos n) (.ok (.arr k (eg z (cY off pos) x) n::r))) .bad
    | _=>.bad)
   ((Ef r (Nat.add pos n) (Nat.sub h n) off v).bind fun r'=>.ok (.arr k z n::r'))
theorem xi:∀ (l:List c8) (pos h off:Nat) (v:AV) (l':List c8),(Ef l pos h off v).run=some l'→pos≤off∧off-pos<aA l∧jS l (off-pos) v=l'
 | [],_,_,_,_,_,h=>(Tr.ag h).elim
 | .one _::r,pos,0,off,v,l',h=>(Tr.ag h).elim
 | .one u::r,pos,h'+1,off,v,l',h=>by
   simp only[Ef] at h;obtain ⟨r',hr,h⟩:=Tr.bind_some h;obtain ⟨h1,h2,h3⟩:=xi r (pos+1) h' off v r' hr;refine ⟨by omega,by simp only[aA,aQ];omega,?_⟩;rw[show off-pos=(off-(pos+1))+1 by omega,← Tr.ab h,← h3];rfl
 | .arr k z n::r,pos,h',off,v,l',h=>by
   simp only[Ef] at h;cases hb:Nat.blt h' n with
   | true =>
     rw[hb,cond_true] at h;split at h
     · rename_i k' x;rw[ki] at h;split at h
       · rename_i hk;obtain ⟨hc,h⟩:=Tr.aT h;rw[jP,decide_eq_true_eq] at hc;refine ⟨hc.1,by simp only[aA,aQ];omega,?_⟩;simp only[jS];rw[if_pos (by omega),if_pos hk,← Tr.ab h,rO,cQ]
       · exact (Tr.ag h).elim
     · exact (Tr.ag h).elim
   | false =>
     rw[hb,cond_false] at h;obtain ⟨r',hr,h⟩:=Tr.bind_some h;obtain ⟨h1,h2,h3⟩:=xi r (pos+n) (h'-n) off v r' hr;refine ⟨by omega,by simp only[aA,aQ];omega,?_⟩;simp only[jS];rw[if_neg (by omega),← Tr.ab h,← h3,show off-pos-n=off-(pos+n) by omega]
def Mx (l:List c8) (off:Nat) (h:Option Nat) (v:AV):Tr (List c8) :=
 match l with
 | [.arr k z n]=>match v with
   | .int k' x=>cond (gL k' k) (.req (cH off n) (.ok [.arr k (eg z off x) n])) .bad
   | _=>.bad
 | l=>match h with
   | none=>vz (qS l off v)
   | some h=>Ef l 0 h off v
theorem Jb {l l':List c8} {off:Nat} {h:Option Nat} {v:AV} (hr:(Mx l off h v).run=some l'):off<aA l∧jS l off v=l':=by
 unfold Mx at hr;split at hr
 · rename_i k z n;split at hr
   · rename_i k' x;rw[ki] at hr;split at hr
     · rename_i hk;obtain ⟨hc,hr⟩:=Tr.aT hr;rw[ie,decide_eq_true_eq] at hc;refine ⟨by simp only[aA,aQ];omega,?_⟩;simp only[jS];rw[if_pos hc,if_pos hk,← Tr.ab hr,rO]
     · exact (Tr.ag hr).elim
   · exact (Tr.ag hr).elim
 · split at hr
   · rw[c5] at hr;exact tM _ _ _ _ hr
   · have:=xi _ _ _ _ _ _ hr;rw[Nat.sub_zero] at this;exact this.2
def y8 (off:Nat) (h:Option Nat):List AV→Nat→List c8→Tr (List c8)
 | [],_,l=>.ok l
 | v::vs,j,l=>(Mx l (D4 off h j) (x7 h j) v).bind fun l'=>y8 off h vs (Nat.succ j) l'
theorem tL {off:Nat} {h:Option Nat}:∀ (vs:List AV) (j:Nat) (l l':List c8),(y8 off h vs j l).run=some l'→(vs=[]∨off+j+vs.length≤aA l)∧Row.cG (.M l) (off+j) vs=.M l'
 | [],j,l,l',h=>⟨.inl rfl,by rw[Tr.ab h];rfl⟩
 | v :: vs,j,l,l',h=>by
   simp only[y8] at h;obtain ⟨l1,h1,h⟩:=Tr.bind_some h;obtain ⟨k1,k2⟩:=Jb h1;rw[rG] at k1 k2;obtain ⟨k3,k4⟩:=tL vs (j+1) l1 l' h;have hl:aA l1=aA l:=by rw[← k2,mP]
   refine ⟨.inr ?_,?_⟩
   · rcases k3 with rfl | k3
     · simp only[List.length_cons,List.length_nil];omega
     · simp only[List.length_cons];omega
   · simp only[Row.cG,Row.set,k2];exact k4
def Gy (l:List c8) (off:Nat) (h:Option Nat) (q:Row):Tr Row :=
 match l,q with
 | [.arr k z m],.M [.arr k' z' n]=>cond (gL k' k) (.req (dT off n 0 m) (.ok (.M [.arr k (m6 z off z' n) m]))) .bad
 | l,q=>cond (Nat.ble 9 (iw q)) (match h with
    | none=>cond (Nat.ble (Nat.add off (iw q)) (aA l)) (.ok (w6 l off q)) .bad
    | some _=>.bad)
   (match lz q with
     | []=>.bad
     | v::vs=>(y8 off h (v::vs) 0 l).bind fun l'=>.ok (.M l'))
theorem w7 {l:List c8} {off:Nat} {h:Option Nat} {q r:Row} (hr:(Gy l off h q).run=some r):off+q.len≤aA l∧jR (.M l) off q=r:=by
 unfold Gy at hr;split at hr
 · rename_i k z m k' z' n;rw[ki] at hr;split at hr
   · rename_i hk;obtain ⟨hc,hr⟩:=Tr.aT hr;rw[jP,decide_eq_true_eq] at hc;refine ⟨by simp only[Row.len,aA,aQ];omega,?_⟩;simp only[jR];rw[if_pos hk,← Tr.ab hr,ri]
   · exact (Tr.ag hr).elim
 · rename_i hne;have hA:jR (.M l) off q=w6 l off q:=by
    simp only[jR];split
    · rename_i k z m;split
      · rename_i k' z' n;exact (hne _ _ _ _ _ _ rfl rfl).elim
      · rfl
    · rfl
   rw[hA];rw[fg] at hr;cases hb:Nat.ble 9 q.len with
   | true =>
     rw[hb,cond_true] at hr;split at hr
     · cases hc:Nat.ble (Nat.add off q.len) (aA l) with
       | true =>
         rw[hc,cond_true] at hr;rw[Nat.ble_eq] at hc;exact ⟨hc,Tr.ab hr⟩
       | false=>rw[hc,cond_false] at hr;exact (Tr.ag hr).elim
     · exact (Tr.ag hr).elim
   | false =>
     rw[hb,cond_false,ou] at hr;have hl:=Row.bt q;split at hr
     · exact (Tr.ag hr).elim
     · rename_i v vs hq;obtain ⟨l1,h1,hr⟩:=Tr.bind_some hr;obtain ⟨k1,k2⟩:=tL _ _ _ _ h1;rw[hq] at hl;refine ⟨?_,?_⟩
       · rcases k1 with k1 | k1
         · simp at k1
         · omega
       · unfold w6;rw[hb,if_neg (by simp),hq,← Tr.ab hr,← k2];rfl
def Mj (d:Nat) (x:AV):Bool :=
 match d with
 | 0=>false
 | _+1=>match x with
   | .slc 0 _ _ _ _ _ _=>true
   | _=>false
def storeT (P:Program) (H:aa) (t:TypeId) (a:HV) (x:AV):Tr Delta :=
 match a.1 with
 | .ptr d i v off=>cond (Mj d x) (match a.2 with | none=>vz (rL P H t a.1 x) | some _=>.bad)
   (cond (jO H d) .bad ((xc H d i v a.2).bind fun r=>match bA P t with
     | some n=>match x.row with
       | some q=>cond (Nat.beq (iw q) n) (match r with
         | .M l=>(Gy l off a.2 (jk d q)).bind fun r'=>.ok (.set d i (v,.row r'))
         | _=>match a.2 with | none=>vz (rL P H t a.1 x) | some _=>.bad) .bad
       | none=>.bad
     | none=>.bad))
 | _=>.bad
theorem Em {P:Program} {H:aa} {t:TypeId} {a:HV} {x:AV} {δ:Delta} (hr:(storeT P H t a x).run=some δ):gv P H t a.1 x=some δ:=by
 unfold storeT at hr;split at hr
 · rename_i d i v off ha;cases ho:Mj d x with
   | true =>
     rw[ho,cond_true] at hr;split at hr
     · rw[c5,tU] at hr;exact hr
     · exact (Tr.ag hr).elim
   | false =>
     rw[ho,cond_false,gh] at hr;cases hl:aG H d with
     | true=>rw[hl,cond_true] at hr;exact (Tr.ag hr).elim
     | false =>
       rw[hl,cond_false] at hr;obtain ⟨r,h1,hr⟩:=Tr.bind_some hr;split at hr
       · rename_i n hs;split at hr
         · rename_i q hq;rw[fg] at hr;cases hb:Nat.beq q.len n with
           | false=>rw[hb,cond_false] at hr;exact (Tr.ag hr).elim
           | true =>
             rw[hb,cond_true] at hr;have hb:q.len=n:=by simpa using hb
             split at hr
             · rename_i l;obtain ⟨r',h2,hr⟩:=Tr.bind_some hr;obtain ⟨k1,k2⟩:=w7 h2;rw[fh] at k1;rw[ha];unfold gv;dsimp only;rw[hl,if_neg (by simp),ln h1,hs,hq];dsimp only;rw[if_pos ⟨hb,by show off+n≤aA l;omega⟩];have:∀ (d':Nat) (j w o sz len:Nat) (cap:Option Nat),d=d'+1→x≠.slc 0 j w o sz len cap:=by
                rintro d' j w o sz len cap rfl rfl;simp[Mj] at ho
               rw[← Tr.ab hr,← k2];split
               · exact absurd rfl (this _ _ _ _ _ _ _ rfl)
               · rfl
             · split at hr
               · rw[c5,tU] at hr;exact hr
               · exact (Tr.ag hr).elim
         · exact (Tr.ag hr).elim
       · exact (Tr.ag hr).elim
 · exact (Tr.ag hr).elim

def hOr (h:Option Nat) (off:Nat):Nat :=
 match h with
 | none=>off
 | some h=>h
def nG (P:Program) (t:TypeId) (a:HV) (f:Nat):Tr HV :=
 match P.underlying t with
 | some (.struct fs)=>match fs[f]? with
   | some g=>match bA P g.type with
     | some (_+1)=>match a.1 with
       | .ptr d i v off=>.ok (.ptr d i v (D4 off a.2 g.offset),x7 a.2 g.offset)
       | .ptrT s r off=>.ok (.ptrT s r (D4 off a.2 g.offset),x7 a.2 g.offset)
       | _=>.bad
     | _=>.bad
   | none=>.bad
 | _=>.bad
theorem uw {P:Program} {t:TypeId} {a b:HV} {f:Nat} (hr:(nG P t a f).run=some b):iT P t a.1 f=some b.1:=by
 unfold nG at hr;unfold iT;split at hr
 · rename_i fs hu;rw[hu];dsimp only;split at hr
   · rename_i g hg;rw[hg];dsimp only;split at hr
     · rename_i n hs;rw[hs];dsimp only;split at hr
       · rename_i d i v off ha;rw[ha,← Tr.ab hr];simp only[lO,rG]
       · rename_i s r off ha;rw[ha,← Tr.ab hr];simp only[lO,rG]
       · exact (Tr.ag hr).elim
     · exact (Tr.ag hr).elim
   · exact (Tr.ag hr).elim
 · exact (Tr.ag hr).elim
def isLit (x:HV):Bool :=
 match x.2 with
 | some _=>true
 | none=>false
def Gj (off:Nat) (ic:Bool) (i:Int) (z:Nat):Nat:=cond ic (Nat.add off (Nat.mul i.toNat z)) (av off i z)
theorem rF (off:Nat) (ic:Bool) (i:Int) (z:Nat):Gj off ic i z=off+i.toNat*z:=by
 cases ic with
 | true=>rfl
 | false=>exact bE _ _ _
def Cm (h:Option Nat) (off:Nat) (ic:Bool) (i:Int) (z:Nat):Option Nat :=
 cond ic (x7 h (Nat.mul i.toNat z)) (some (hOr h off))
def LM (P:Program) (t:TypeId) (a:HV) (ic:Bool) (i:Int):Tr HV :=
 match P.underlying t with
 | some (.array n e)=>match bA P e with
   | some z=>match a.1 with
     | .ptr d j v off=>.req (bR i n) (.ok (.ptr d j v (Gj off ic i z),Cm a.2 off ic i z))
     | .ptrT s r off=>.req (bR i n) (.ok (.ptrT s r (Gj off ic i z),Cm a.2 off ic i z))
     | _=>.bad
   | none=>.bad
 | some (.slice e)=>match bA P e with
   | some z=>match a.1 with
     | .slc d j v off sz len cap=>cond (Nat.beq z sz) (.req (bR i len) (.ok (.ptr d j v (Gj off ic i z),match cap with
       | some _=>Cm none off ic i z
       | none=>some off))) .bad
     | .slcT s r sz len _=>cond (Nat.beq z sz) (.req (bR i len) (.ok (.ptrT s r (Gj 0 ic i z),Cm none 0 ic i z))) .bad
     | _=>.bad
   | none=>.bad
 | _=>.bad
def Qe (P:Program) (t:TypeId) (x:AV) (ic:Bool) (i:Int):Tr AV :=
 cond ic (vz (p6 P t x i)) (match P.underlying t with
  | some (.array n e)=>match x with
    | .agg r=>match bA P e with
      | some z=>.req (bR i n) (yN P e r (av 0 i z) (some 0))
      | none=>.bad
    | _=>.bad
  | _=>.bad)
theorem LS {P:Program} {t:TypeId} {x v:AV} {ic:Bool} {i:Int} (hr:(Qe P t x ic i).run=some v):p6 P t x i=some v:=by
 unfold Qe at hr;cases ic with
 | true=>rw[cond_true,c5] at hr;exact hr
 | false =>
   rw[cond_false] at hr;split at hr
   · rename_i n e hu;split at hr
     · split at hr
       · rename_i z hs;obtain ⟨hc,hr⟩:=Tr.aT hr;rw[pZ,decide_eq_true_eq] at hc;have h:=tx hr;rw[bE,Nat.zero_add] at h;unfold p6;rw[hu];dsimp only;rw[hs];dsimp only;rw[if_pos hc,h]
       · exact (Tr.ag hr).elim
     · exact (Tr.ag hr).elim
   · exact (Tr.ag hr).elim
theorem Ih {P:Program} {t:TypeId} {a b:HV} {ic:Bool} {i:Int} (hr:(LM P t a ic i).run=some b):ja P t a.1 i=some b.1:=by
 unfold LM at hr;unfold ja;split at hr
 · rename_i n e hu;split at hr
   · rename_i z hs;split at hr
     · rename_i d j v off ha;obtain ⟨hc,hr⟩:=Tr.aT hr;rw[pZ,decide_eq_true_eq] at hc;rw[hu,ha];dsimp only;rw[hs];dsimp only;rw[if_pos hc,← Tr.ab hr];simp only[lO,rF]
     · rename_i s r off ha;obtain ⟨hc,hr⟩:=Tr.aT hr;rw[pZ,decide_eq_true_eq] at hc;rw[hu,ha];dsimp only;rw[hs];dsimp only;rw[if_pos hc,← Tr.ab hr];simp only[lO,rF]
     · exact (Tr.ag hr).elim
   · exact (Tr.ag hr).elim
 · rename_i e hu;split at hr
   · rename_i z hs;split at hr
     · rename_i d j v off sz len cap ha;cases hb:Nat.beq z sz with
       | false=>rw[hb,cond_false] at hr;exact (Tr.ag hr).elim
       | true =>
         rw[hb,cond_true] at hr;have hb:z=sz:=by simpa using hb
         subst hb;obtain ⟨hc,hr⟩:=Tr.aT hr;rw[pZ,decide_eq_true_eq] at hc;rw[hu,ha];dsimp only;rw[if_pos ⟨hc.1,hc.2,hs⟩,← Tr.ab hr];simp only[rF]
     · rename_i s r sz len full ha;cases hb:Nat.beq z sz with
       | false=>rw[hb,cond_false] at hr;exact (Tr.ag hr).elim
       | true =>
         rw[hb,cond_true] at hr;have hb:z=sz:=by simpa using hb
         subst hb;obtain ⟨hc,hr⟩:=Tr.aT hr;rw[pZ,decide_eq_true_eq] at hc;rw[hu,ha];dsimp only;rw[if_pos ⟨hc.1,hc.2,hs⟩,← Tr.ab hr];simp only[rF,Nat.zero_add]
     · exact (Tr.ag hr).elim
   · exact (Tr.ag hr).elim
 · exact (Tr.ag hr).elim

end
end Go.Eng
