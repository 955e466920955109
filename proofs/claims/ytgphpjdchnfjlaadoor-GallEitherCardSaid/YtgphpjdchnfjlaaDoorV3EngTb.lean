/- The engine as a tree: frames with hints, rows, loads, stores, addresses. -/
import Derived.Test.YtgphpjdchnfjlaaDoorV3EngTa
set_option linter.unusedVariables false
set_option linter.unusedSimpArgs false
namespace Go.Eng
noncomputable section

abbrev HV:=AV×Option Nat
abbrev aS:=List (Nat×HV)
def strip (f:aS):aF:=List.rec (motive:=fun _=>aF) [] (fun p _ ih=>(p.1,p.2.1)::ih) f
theorem c7 (x:Nat) (v:HV) (r:aS):strip ((x,v)::r)=(x,v.1)::strip r:=rfl
def lO (f:aS) (y:Nat):HV:=List.rec (motive:=fun _=>HV) (AV.undef,none) (fun p _ ih=>Bool.rec ih p.2 (Nat.beq p.1 y)) f
theorem fk:∀ (f:aS) (y:Nat),(lO f y).1=bM (strip f) y
 | [],y=>rfl
 | (x,v)::r,y=>by
   have e:lO ((x,v)::r) y=Bool.rec (lO r y) v (Nat.beq x y):=rfl;rw[e,c7,bM];cases Nat.beq x y with
   | true=>rfl
   | false=>exact fk r y
def yG (f:aS) (y:Nat) (u:HV):aS:=List.rec (motive:=fun _=>aS) [(y,u)] (fun p r ih=>Bool.rec (motive:=fun _=>aS) (p::ih) (Bool.rec (motive:=fun _=>aS) ((y,u)::p::r) ((y,u)::r) (Nat.beq p.1 y)) (Nat.ble y p.1)) f
theorem yH:∀ (f:aS) (y:Nat) (u:HV),strip (yG f y u)=uQ (strip f) y u.1
 | [],y,u=>rfl
 | (x,v)::r,y,u=>by
   have e:yG ((x,v)::r) y u=Bool.rec (motive:=fun _=>aS) ((x,v)::yG r y u) (Bool.rec (motive:=fun _=>aS) ((y,u)::(x,v)::r) ((y,u)::r) (Nat.beq x y)) (Nat.ble y x):=rfl;rw[e,c7,uQ,← yH r y u];cases Nat.ble y x with
   | false=>rfl
   | true=>cases Nat.beq x y<;>rfl
def gu (f:aS) (m:Nat):aS:=List.rec (motive:=fun _=>aS) [] (fun p _ ih=>Bool.rec (motive:=fun _=>aS) (p::ih) ih (Nat.beq (Nat.land (Nat.shiftRight m p.1) 1) 1)) f
theorem eW:∀ (f:aS) (m:Nat),strip (gu f m)=bV (strip f) m
 | [],m=>rfl
 | (x,v)::r,m=>by
   have e:gu ((x,v)::r) m=Bool.rec (motive:=fun _=>aS) ((x,v)::gu r m) (gu r m) (Nat.beq (Nat.land (Nat.shiftRight m x) 1) 1):=rfl;have e2:bV ((x,v.1)::strip r) m=Bool.rec (motive:=fun _=>aF) ((x,v.1)::bV (strip r) m) (bV (strip r) m) (Nat.beq (Nat.land (Nat.shiftRight m x) 1) 1):=rfl;rw[e,c7,e2,← eW r m];cases Nat.beq (Nat.land (Nat.shiftRight m x) 1) 1<;>rfl
def Sf (v:Value):Option Nat :=
 match v with
 | .int _ _=>some 1
 | .bool _=>some 1
 | _=>none
def cu (fr:aS) (x:Operand):HV:=Operand.rec (motive:=fun _=>HV) (fun t=>lO fr t) (fun v=>(kS v,Sf v)) (fun _=>(.undef,none)) (fun f=>(.fn (.func f) [] [],none)) x
theorem bg (fr:aS) (x:Operand):(cu fr x).1=bZ (strip fr) x:=by
 cases x with
 | tmp t=>exact fk fr t
 | _=>rfl
def zx (fr:aS) (l:List Operand):List AV:=rF (fun x=>(cu fr x).1) l
theorem tK (fr:aS):∀ l,zx fr l=lu (strip fr) l
 | []=>rfl
 | x::l=>by
   have e:zx fr (x::l)=(cu fr x).1::zx fr l:=rfl;rw[e,tK fr l,bg];rfl
def rn (nt:Nat) (fr:aS) (dst:Option Tmp) (v:HV):aS:=Option.rec (motive:=fun _=>aS) fr (fun d=>Bool.rec (motive:=fun _=>aS) fr (yG fr d v) (Nat.ble (Nat.succ d) nt)) dst
theorem mN (nt:Nat) (fr:aS) (dst:Option Tmp) (v:HV):strip (rn nt fr dst v)=iL nt (strip fr) dst v.1:=by
 rw[← He];cases dst with
 | none=>rfl
 | some d =>
   have e:rn nt fr (some d) v=Bool.rec (motive:=fun _=>aS) fr (yG fr d v) (Nat.ble (Nat.succ d) nt):=rfl;have e2:Hd nt (strip fr) (some d) v.1=Bool.rec (motive:=fun _=>aF) (strip fr) (vJ (strip fr) d v.1) (Nat.ble (Nat.succ d) nt):=rfl;rw[e,e2,yq,← yH];cases Nat.ble (Nat.succ d) nt<;>rfl

def qZ:List df→Nat→Option AV
 | [],_=>none
 | .one v::r,j=>match j with
   | 0=>some v
   | j+1=>qZ r j
 | .arr k z n::r,j=>cond (Nat.blt j n) (some (.int k (z j))) (qZ r (Nat.sub j n))
theorem CA {a b:Nat} (h:Nat.blt a b=true):a<b:=by rwa [Nat.blt_eq] at h
theorem Kd {a b:Nat} (h:Nat.blt a b=false):¬ a<b:=fun e=>by
 have:Nat.blt a b=true:=by rw[Nat.blt_eq];exact e
 rw[h] at this;cases this
theorem sQ:∀ (l:List df) (j:Nat) (v:AV),qZ l j=some v→j<aC l∧getM l j=v
 | [],_,_,h=>by simp[qZ] at h
 | .one u::r,0,v,h=>by
   simp only[qZ,Option.some.injEq] at h;exact ⟨by simp only[aC,aU];omega,h⟩
 | .one u::r,j+1,v,h=>by
   have:=sQ r j v (by simpa[qZ] using h);exact ⟨by simp only[aC,aU];omega,this.2⟩
 | .arr k z n::r,j,v,h=>by
   simp only[qZ] at h;simp only[aC,aU,getM];cases hb:Nat.blt j n with
   | true =>
     rw[hb,cond_true,Option.some.injEq] at h;have:=CA hb;exact ⟨by omega,by rw[if_pos this];exact h⟩
   | false =>
     rw[hb,cond_false] at h;have hn:=Kd hb;have:=sQ r (j-n) v h;exact ⟨by omega,by rw[if_neg hn];exact this.2⟩
def Hw:List df→Nat→Nat→Nat→Tr AV
 | [],_,_,_=>.bad
 | .one _::r,pos,h,off=>match h with
   | 0=>.bad
   | h+1=>Hw r (Nat.succ pos) h off
 | .arr k z n::r,pos,h,off=>cond (Nat.blt h n) (.req (eD off 1 pos n) (.ok (.int k (z (dC off pos))))) (Hw r (Nat.add pos n) (Nat.sub h n) off)
theorem xP:∀ (l:List df) (pos h off:Nat) (v:AV),(Hw l pos h off).run=some v→pos≤off∧off-pos<aC l∧getM l (off-pos)=v
 | [],_,_,_,_,h=>(Tr.ah h).elim
 | .one _::r,pos,0,off,v,h=>(Tr.ah h).elim
 | .one u::r,pos,h'+1,off,v,h=>by
   obtain ⟨h1,h2,h3⟩:=xP r (pos+1) h' off v h;refine ⟨by omega,by simp only[aC,aU];omega,?_⟩;rw[show off-pos=(off-(pos+1))+1 by omega];exact h3
 | .arr k z n::r,pos,h',off,v,h=>by
   simp only[Hw] at h;cases hb:Nat.blt h' n with
   | true =>
     rw[hb,cond_true] at h;obtain ⟨hc,h⟩:=Tr.aX h;rw[jg,decide_eq_true_eq] at hc;have h:=Tr.af h;refine ⟨hc.1,by simp only[aC,aU];omega,?_⟩;simp only[getM];rw[if_pos (by omega),← h,dv]
   | false =>
     rw[hb,cond_false] at h;obtain ⟨h1,h2,h3⟩:=xP r (pos+n) (h'-n) off v h;refine ⟨by omega,by simp only[aC,aU];omega,?_⟩;simp only[getM];rw[if_neg (by omega),← h3];congr 1;omega
def DF (r:Row) (off:Nat) (h:Option Nat):Tr AV :=
 match r with
 | .F f n=>.req (bW off n) (.ok (f off))
 | .M l=>match l with
   | [.arr k z n]=>.req (bW off n) (.ok (.int k (z off)))
   | l=>match h with
     | none=>wb (qZ l off)
     | some h=>Hw l 0 h off
 | .I k l=>match h with
   | none=>wb (jM (.I k l) off)
   | some _=>.req (bW off (Mv l)) (.ok (.int k (az l off)))
 | .G l=>match h with
   | none=>wb (jM (.G l) off)
   | some _=>.bad
theorem zL {r:Row} {off:Nat} {v:AV} (h:jM r off=some v):off<r.len∧r.get off=v:=by
 rw[ub] at h;split at h
 · rename_i h0;exact ⟨h0,Option.some.inj h⟩
 · simp at h
theorem zF {r:Row} {off:Nat} {h:Option Nat} {v:AV} (hr:(DF r off h).run=some v):off<r.len∧r.get off=v:=by
 unfold DF at hr;split at hr
 · obtain ⟨hc,hr⟩:=Tr.aX hr;rw[iy,decide_eq_true_eq] at hc;exact ⟨hc,Tr.af hr⟩
 · rename_i l;split at hr
   · rename_i k z n;obtain ⟨hc,hr⟩:=Tr.aX hr;rw[iy,decide_eq_true_eq] at hc;refine ⟨by simp only[Row.len,aC,aU];omega,?_⟩;simp only[Row.get,getM];rw[if_pos hc];exact Tr.af hr
   · split at hr
     · rw[da] at hr;exact sQ _ _ _ hr
     · have:=xP _ _ _ _ _ hr;rw[Nat.sub_zero] at this;exact this.2
 · split at hr
   · rw[da] at hr;exact zL hr
   · obtain ⟨hc,hr⟩:=Tr.aX hr;rw[iy,decide_eq_true_eq,IZ] at hc;refine ⟨hc,?_⟩;rw[← Tr.af hr,gN];rfl
 · split at hr
   · rw[da] at hr;exact zL hr
   · exact (Tr.ah hr).elim
def EI (off:Nat) (h:Option Nat) (j:Nat):Nat :=
 match h with
 | none=>Nat.add off j
 | some _=>match j with
   | 0=>off
   | j+1=>ar off (Nat.succ j)
theorem r9 (off:Nat) (h:Option Nat) (j:Nat):EI off h j=off+j:=by
 unfold EI;split
 · rfl
 · split
   · rfl
   · rw[aI]
def yJ (h:Option Nat) (j:Nat):Option Nat :=
 match h with
 | none=>none
 | some h=>some (Nat.add h j)
def DG (r:Row) (off:Nat) (h:Option Nat):Nat→Nat→Tr (List AV)
 | _,0=>.ok []
 | j,n+1=>(DF r (EI off h j) (yJ h j)).bind fun v=>(DG r off h (Nat.succ j) n).bind fun l=>.ok (v::l)
theorem zG {r:Row} {off:Nat} {h:Option Nat}:∀ (n j:Nat) (l:List AV),(DG r off h j n).run=some l→l=dL r.get (off+j) n∧(n=0∨off+j+n≤r.len)
 | 0,j,l,hr=>⟨(Tr.af hr).symm,.inl rfl⟩
 | n+1,j,l,hr=>by
   simp only[DG] at hr;obtain ⟨v,h1,hr⟩:=Tr.bind_some hr;obtain ⟨m,h2,hr⟩:=Tr.bind_some hr;have hr:=Tr.af hr;obtain ⟨k1,k2⟩:=zF h1;obtain ⟨k3,k4⟩:=zG n (j+1) m h2;rw[r9] at k1 k2;refine ⟨?_,.inr (by omega)⟩;rw[← hr,dL,k2,k3,show off+(j+1)=off+j+1 by omega]
def Hv:List df→Nat→Nat→Nat→Nat→Tr AV
 | [],_,_,_,_=>.bad
 | .one _::r,pos,h,off,n=>match h with
   | 0=>.bad
   | h+1=>Hv r (Nat.succ pos) h off n
 | .arr k z m::r,pos,h,off,n=>cond (Nat.blt h m) (.req (eD off n pos m) (.ok (.agg (.M [.arr k (pZ z (dC off pos)) n])))) (Hv r (Nat.add pos m) (Nat.sub h m) off n)
theorem xO:∀ (l:List df) (pos h off n:Nat) (v:AV),0<n→(Hv l pos h off n).run=some v→pos≤off∧off-pos+n≤aC l∧∃ k z,lG l (off-pos) n=some (k,z)∧v=.agg (.M [.arr k z n])
 | [],_,_,_,_,_,_,h=>(Tr.ah h).elim
 | .one _::r,pos,0,off,n,v,_,h=>(Tr.ah h).elim
 | .one u::r,pos,h'+1,off,n,v,hn,h=>by
   obtain ⟨h1,h2,k,z,h3,h4⟩:=xO r (pos+1) h' off n v hn h;refine ⟨by omega,by simp only[aC,aU];omega,k,z,?_,h4⟩;rw[show off-pos=(off-(pos+1))+1 by omega];exact h3
 | .arr k z m::r,pos,h',off,n,v,hn,h=>by
   simp only[Hv] at h;cases hb:Nat.blt h' m with
   | true =>
     rw[hb,cond_true] at h;obtain ⟨hc,h⟩:=Tr.aX h;rw[jg,decide_eq_true_eq] at hc;have h:=Tr.af h;refine ⟨hc.1,by simp only[aC,aU];omega,k,fun j=>z (off-pos+j),?_,?_⟩
     · simp only[lG];rw[if_pos (by omega)]
     · rw[← h,mT,dv]
   | false =>
     rw[hb,cond_false] at h;obtain ⟨h1,h2,k',z',h3,h4⟩:=xO r (pos+m) (h'-m) off n v hn h;refine ⟨by omega,by simp only[aC,aU];omega,k',z',?_,h4⟩;simp only[lG];rw[if_neg (by omega),if_pos (by omega),← h3];congr 1;omega
def Hu:List df→Nat→Nat→Option Row
 | [],_,_=>none
 | .one _::r,o+1,n=>Hu r o n
 | .one _::_,0,_=>none
 | .arr k z m::r,o,n=>cond (Nat.ble (Nat.add o n) m) (some (.M [.arr k (cond (Nat.beq o 0) z (pZ z o)) n])) (cond (Nat.ble m o) (Hu r (Nat.sub o m) n) none)
theorem xN:∀ (l:List df) (o n:Nat) (q:Row),Hu l o n=some q→∃ k z,lG l o n=some (k,z)∧q=.M [.arr k z n]
 | [],_,_,_,h=>by cases h
 | .one u::r,o+1,n,q,h=>xN r o n q h
 | .one _::_,0,_,_,h=>by cases h
 | .arr k z m::r,o,n,q,h=>by
   simp only[Hu] at h;cases hb:Nat.ble (Nat.add o n) m with
   | true =>
     rw[hb,cond_true] at h;have hle:o+n≤m:=Nat.le_of_ble_eq_true hb;simp only[Option.some.injEq] at h;refine ⟨k,fun j=>z (o+j),by simp only[lG];rw[if_pos hle],?_⟩;rw[← h];cases ho:Nat.beq o 0 with
     | true =>
       have:=Nat.eq_of_beq_eq_true ho;subst this;simp only[cond_true,Nat.zero_add]
     | false=>rw[cond_false,mT]
   | false =>
     rw[hb,cond_false] at h;cases hm:Nat.ble m o with
     | true =>
       rw[hm,cond_true] at h;have hle:m≤o:=Nat.le_of_ble_eq_true hm;have hnl:¬ (o+n≤m):=fun hc=>by
        have:Nat.ble (Nat.add o n) m=true:=by rw[Nat.ble_eq];exact hc
        rw[hb] at this;cases this
       obtain ⟨k',z',h1,h2⟩:=xN r (o-m) n q h;exact ⟨k',z',by simp only[lG];rw[if_neg hnl,if_pos hle];exact h1,h2⟩
     | false=>rw[hm,cond_false] at h;cases h
def zH (P:Program) (t:TypeId) (r:Row) (off:Nat) (h:Option Nat):Tr AV :=
 match fj P t with
 | some false=>DF r off h
 | some true=>match bH P t with
   | some 0=>.bad
   | some (n+1)=>match r with
     | .M l=>cond (Nat.ble (Nat.succ n) 8) ((DG (.M l) off h 0 (Nat.succ n)).bind fun vs=>.ok (.agg (Row.ofList vs)))
       (match h with
       | none=>cond (Nat.ble (Nat.add off (Nat.succ n)) (aC l)) (cond (Nat.beq (aC l) (Nat.succ n)) (.ok (.agg ((Row.M l).cut off (Nat.succ n)))) (match Hu l off (Nat.succ n) with
         | some q=>.ok (.agg q)
         | none=>.ok (.agg ((Row.M l).cut off (Nat.succ n))))) .bad
       | some h=>cond (Nat.beq (aC l) (Nat.succ n)) .bad (Hv l 0 h off (Nat.succ n)))
     | .F f m=>.req (eR (ar off (Nat.succ n)) m) (.ok (.agg ((Row.F f m).cut off (Nat.succ n))))
     | .I k l=>match h with
       | none=>wb (xF P t (.I k l) off)
       | some _=>.bad
     | .G l=>match h with
       | none=>wb (xF P t (.G l) off)
       | some _=>.bad
   | none=>.bad
 | none=>.bad
theorem tY       {P : Program} {t:TypeId} {r:Row} {off:Nat} {h:Option Nat} {v:AV} (hr:(zH P t r off h).run=some v):jL P t r off=some v:=by
 unfold zH at hr;split at hr
 · rename_i ha;obtain ⟨h1,h2⟩:=zF hr;unfold jL;rw[ha];dsimp only;rw[if_pos h1,h2]
 · rename_i ha;split at hr
   · exact (Tr.ah hr).elim
   · rename_i n hs;split at hr
     · rename_i l;unfold jL;rw[ha,hs];dsimp only;cases hb:Nat.ble (Nat.succ n) 8 with
       | true =>
         rw[hb,cond_true] at hr;obtain ⟨vs,h1,hr⟩:=Tr.bind_some hr;have hr:=Tr.af hr;obtain ⟨k1,k2⟩:=zG _ _ _ h1;rw[if_pos (by omega),← hr,k1];simp only[Row.cut];rw[show Nat.ble (n+1) 8=true from hb,if_pos rfl,Nat.add_zero];rfl
       | false =>
         rw[hb,cond_false] at hr;split at hr
         · cases hc : Nat.ble (Nat.add off (Nat.succ n)) (aC l) with
           | true =>
             rw[hc,cond_true] at hr;rw[Nat.ble_eq] at hc;rw[if_pos (show off+(n+1)≤(Row.M l).len from hc)];cases hq:Nat.beq (aC l) (Nat.succ n) with
             | true=>rw[hq,cond_true] at hr;rw[← Tr.af hr]
             | false =>
               rw[hq,cond_false] at hr;split at hr
               · rename_i q hseg;obtain ⟨k,z,h3,h4⟩:=xN _ _ _ _ hseg;simp only[Row.cut];rw[show Nat.ble (n+1) 8=false from hb,if_neg (by simp),show Nat.beq (aC l) (n+1)=false from hq,Bool.and_false,if_neg (by simp)];have : Row.sub (.M l) off (n+1)=.M [.arr k z (n+1)]:=by
                  match l,h3,hq with
                  | [],h3,_=>simp[lG] at h3
                  | [.arr k' z' m],h3,hq =>
                    simp only[lG] at h3;split at h3
                    · simp only[nP] at h3;obtain ⟨rfl,rfl⟩:=h3;rfl
                    · split at h3<;>simp at h3
                  | .one u::r,h3,hq =>
                    simp only[Row.sub];rw[show Nat.beq (aC (.one u::r)) (n+1)=false from hq,Bool.and_false,h3];rfl
                  | .arr k' z' m::s::r,h3,hq =>
                    simp only[Row.sub];rw[show Nat.beq (aC (.arr k' z' m::s::r)) (n+1)=false from hq,Bool.and_false,h3];rfl
                 rw[this,← Tr.af hr,h4]
               · rw[← Tr.af hr]
           | false=>rw[hc,cond_false] at hr;exact (Tr.ah hr).elim
         · rename_i h;cases hc:Nat.beq (aC l) (Nat.succ n) with
           | true=>rw[hc,cond_true] at hr;exact (Tr.ah hr).elim
           | false =>
             rw[hc,cond_false] at hr;obtain ⟨h1,h2,k,z,h3,h4⟩:=xO _ _ _ _ _ _ (Nat.succ_pos n) hr;rw[Nat.sub_zero] at h2 h3;rw[if_pos (show off+(n+1)≤(Row.M l).len from h2)];simp only[Row.cut];rw[show Nat.ble (n+1) 8=false from hb,if_neg (by simp),show Nat.beq (aC l) (n+1)=false from hc,Bool.and_false,if_neg (by simp)];have : Row.sub (.M l) off (n+1)=.M [.arr k z (n+1)]:=by
              match l,h3,hc with
              | [],h3,_=>simp[lG] at h3
              | [.arr k' z' m],h3,hc =>
                simp only[lG] at h3;split at h3
                · simp only[nP] at h3;obtain ⟨rfl,rfl⟩:=h3;rfl
                · split at h3<;>simp at h3
              | .one u::r,h3,hc =>
                simp only[Row.sub];rw[show Nat.beq (aC (.one u::r)) (n+1)=false from hc,Bool.and_false,h3];rfl
              | .arr k' z' m::s::r,h3,hc =>
                simp only[Row.sub];rw[show Nat.beq (aC (.arr k' z' m::s::r)) (n+1)=false from hc,Bool.and_false,h3];rfl
             rw[this,h4]
     · rename_i f m;obtain ⟨hc,hr⟩:=Tr.aX hr;rw[jj,decide_eq_true_eq,aI] at hc;unfold jL;rw[ha,hs];dsimp only;rw[if_pos (show off+(n+1)≤(Row.F f m).len from hc),← Tr.af hr]
     · split at hr
       · rw[da,wh] at hr;exact hr
       · exact (Tr.ah hr).elim
     · split at hr
       · rw[da,wh] at hr;exact hr
       · exact (Tr.ah hr).elim
   · exact (Tr.ah hr).elim
 · exact (Tr.ah hr).elim

def xL (H:ab) (d i v:Nat) (h:Option Nat):Tr Row :=
 match h with
 | none=>wb (CV H d i v)
 | some _=>match nN H d i with
   | (ver,.row r)=>.req (cD ver v) (.ok r)
   | _=>.bad
theorem lB {H:ab} {d i v:Nat} {h:Option Nat} {r:Row} (hr:(xL H d i v h).run=some r):cX H d i v=some r:=by
 unfold xL at hr;split at hr
 · rw[da,yI] at hr;exact hr
 · rw[pr] at hr;split at hr
   · rename_i ver q hg;obtain ⟨hc,hr2⟩:=Tr.aX hr;rw[fz,decide_eq_true_eq] at hc;subst hc;unfold cX;rw[hg];simp only[Nat.beq_refl,if_true];rw[Tr.af hr2]
   · exact (Tr.ah hr).elim
def loadT (P:Program) (H:ab) (t:TypeId) (a:HV):Tr AV :=
 match a.1 with
 | .ptr d i v off=>(xL H d i v a.2).bind fun r=>(zH P t r off a.2).bind fun x=>.ok (mU d x)
 | .ptrT s r off=>(zH P t r off a.2).bind fun x=>.ok (Vi s x)
 | _=>.bad
theorem yY {P:Program} {H:ab} {t:TypeId} {a:HV} {v:AV} (hr:(loadT P H t a).run=some v):pA P H t a.1=some v:=by
 unfold loadT at hr;unfold pA;split at hr
 · rename_i d i ver off ha;obtain ⟨r,h1,hr⟩:=Tr.bind_some hr;obtain ⟨x,h2,hr⟩:=Tr.bind_some hr;rw[ha];dsimp only;rw[lB h1];dsimp only;rw[tY h2,← Tr.af hr];rfl
 · rename_i s r off ha;obtain ⟨x,h2,hr⟩:=Tr.bind_some hr;rw[ha];dsimp only;rw[tY h2,← Tr.af hr];rfl
 · exact (Tr.ah hr).elim

def ry:List df→Nat→AV→Option (List df)
 | [],_,_=>none
 | .one u::r,j,v=>match j with
   | 0=>some (.one v::r)
   | j+1=>match ry r j v with
     | some r'=>some (.one u::r')
     | none=>none
 | .arr k z n::r,j,v=>cond (Nat.blt j n) (match v with
    | .int k' x=>cond (gY k' k) (some (.arr k (dQ z j x) n::r)) none
    | _=>none)
   (match ry r (Nat.sub j n) v with
     | some r'=>some (.arr k z n::r')
     | none=>none)
theorem um:∀ (l:List df) (j:Nat) (v:AV) (l':List df),ry l j v=some l'→j<aC l∧j4 l j v=l'
 | [],_,_,_,h=>by simp[ry] at h
 | .one u::r,0,v,l',h=>by
   simp only[ry,Option.some.injEq] at h;exact ⟨by simp only[aC,aU];omega,h⟩
 | .one u::r,j+1,v,l',h=>by
   simp only[ry] at h;split at h
   · rename_i r' hr;have:=um r j v r' hr;simp only[Option.some.injEq] at h;exact ⟨by simp only[aC,aU];omega,by simp only[j4];rw[this.2];exact h⟩
   · simp at h
 | .arr k z n::r,j,v,l',h=>by
   simp only[ry] at h;cases hb:Nat.blt j n with
   | true =>
     rw[hb,cond_true] at h;have hj:=CA hb;split at h
     · rename_i k' x;rw[ky] at h;split at h
       · rename_i hk;simp only[Option.some.injEq] at h;refine ⟨by simp only[aC,aU];omega,?_⟩;simp only[j4];rw[if_pos hj,if_pos hk,← h,se]
       · simp at h
     · simp at h
   | false =>
     rw[hb,cond_false] at h;have hj:=Kd hb;split at h
     · rename_i r' hr;have:=um r (j-n) v r' hr;simp only[Option.some.injEq] at h;exact ⟨by simp only[aC,aU];omega,by simp only[j4];rw[if_neg hj,this.2];exact h⟩
     · simp at h
def ET:List df→Nat→Nat→Nat→AV→Tr (List df)
 | [],_,_,_,_=>.bad
 | .one u::r,pos,h,off,v=>match h with
   | 0=>.bad
   | h+1=>(ET r (Nat.succ pos) h off v).bind fun r'=>.ok (.one u::r')
 | .arr k z n::r,pos,h,off,v=>cond (Nat.blt h n) (match v with
    | .int k' x=>cond (gY k' k) (.req (eD off 1 pos n) (.ok (.arr k (dQ z (dC off pos) x) n::r))) .bad
    | _=>.bad)
   ((ET r (Nat.add pos n) (Nat.sub h n) off v).bind fun r'=>.ok (.arr k z n::r'))
theorem xQ:∀ (l:List df) (pos h off:Nat) (v:AV) (l':List df),(ET l pos h off v).run=some l'→pos≤off∧off-pos<aC l∧j4 l (off-pos) v=l'
 | [],_,_,_,_,_,h=>(Tr.ah h).elim
 | .one _::r,pos,0,off,v,l',h=>(Tr.ah h).elim
 | .one u::r,pos,h'+1,off,v,l',h=>by
   simp only[ET] at h;obtain ⟨r',hr,h⟩:=Tr.bind_some h;obtain ⟨h1,h2,h3⟩:=xQ r (pos+1) h' off v r' hr;refine ⟨by omega,by simp only[aC,aU];omega,?_⟩;rw[show off-pos=(off-(pos+1))+1 by omega,← Tr.af h,← h3];rfl
 | .arr k z n::r,pos,h',off,v,l',h=>by
   simp only[ET] at h;cases hb:Nat.blt h' n with
   | true =>
     rw[hb,cond_true] at h;split at h
     · rename_i k' x;rw[ky] at h;split at h
       · rename_i hk;obtain ⟨hc,h⟩:=Tr.aX h;rw[jg,decide_eq_true_eq] at hc;refine ⟨hc.1,by simp only[aC,aU];omega,?_⟩;simp only[j4];rw[if_pos (by omega),if_pos hk,← Tr.af h,se,dv]
       · exact (Tr.ah h).elim
     · exact (Tr.ah h).elim
   | false =>
     rw[hb,cond_false] at h;obtain ⟨r',hr,h⟩:=Tr.bind_some h;obtain ⟨h1,h2,h3⟩:=xQ r (pos+n) (h'-n) off v r' hr;refine ⟨by omega,by simp only[aC,aU];omega,?_⟩;simp only[j4];rw[if_neg (by omega),← Tr.af h,← h3,show off-pos-n=off-(pos+n) by omega]
def Nb (l:List df) (off:Nat) (h:Option Nat) (v:AV):Tr (List df) :=
 match l with
 | [.arr k z n]=>match v with
   | .int k' x=>cond (gY k' k) (.req (bW off n) (.ok [.arr k (dQ z off x) n])) .bad
   | _=>.bad
 | l=>match h with
   | none=>wb (ry l off v)
   | some h=>ET l 0 h off v
theorem JK {l l':List df} {off:Nat} {h:Option Nat} {v:AV} (hr:(Nb l off h v).run=some l'):off<aC l∧j4 l off v=l':=by
 unfold Nb at hr;split at hr
 · rename_i k z n;split at hr
   · rename_i k' x;rw[ky] at hr;split at hr
     · rename_i hk;obtain ⟨hc,hr⟩:=Tr.aX hr;rw[iy,decide_eq_true_eq] at hc;refine ⟨by simp only[aC,aU];omega,?_⟩;simp only[j4];rw[if_pos hc,if_pos hk,← Tr.af hr,se]
     · exact (Tr.ah hr).elim
   · exact (Tr.ah hr).elim
 · split at hr
   · rw[da] at hr;exact um _ _ _ _ hr
   · have:=xQ _ _ _ _ _ _ hr;rw[Nat.sub_zero] at this;exact this.2
def zV (off:Nat) (h:Option Nat):List AV→Nat→List df→Tr (List df)
 | [],_,l=>.ok l
 | v::vs,j,l=>(Nb l (EI off h j) (yJ h j) v).bind fun l'=>zV off h vs (Nat.succ j) l'
theorem uk {off:Nat} {h:Option Nat}:∀ (vs:List AV) (j:Nat) (l l':List df),(zV off h vs j l).run=some l'→(vs=[]∨off+j+vs.length≤aC l)∧Row.cP (.M l) (off+j) vs=.M l'
 | [],j,l,l',h=>⟨.inl rfl,by rw[Tr.af h];rfl⟩
 | v :: vs,j,l,l',h=>by
   simp only[zV] at h;obtain ⟨l1,h1,h⟩:=Tr.bind_some h;obtain ⟨k1,k2⟩:=JK h1;rw[r9] at k1 k2;obtain ⟨k3,k4⟩:=uk vs (j+1) l1 l' h;have hl:aC l1=aC l:=by rw[← k2,ng]
   refine ⟨.inr ?_,?_⟩
   · rcases k3 with rfl | k3
     · simp only[List.length_cons,List.length_nil];omega
     · simp only[List.length_cons];omega
   · simp only[Row.cP,Row.set,k2];exact k4
def Hf (l:List df) (off:Nat) (h:Option Nat) (q:Row):Tr Row :=
 match l,q with
 | [.arr k z m],.M [.arr k' z' n]=>cond (gY k' k) (.req (eD off n 0 m) (.ok (.M [.arr k (kT z off z' n) m]))) .bad
 | l,q=>cond (Nat.ble 9 (iD q)) (match h with
    | none=>cond (Nat.ble (Nat.add off (iD q)) (aC l)) (.ok (xC l off q)) .bad
    | some _=>.bad)
   (match lJ q with
     | []=>.bad
     | v::vs=>(zV off h (v::vs) 0 l).bind fun l'=>.ok (.M l'))
theorem xD {l:List df} {off:Nat} {h:Option Nat} {q r:Row} (hr:(Hf l off h q).run=some r):off+q.len≤aC l∧jZ (.M l) off q=r:=by
 unfold Hf at hr;split at hr
 · rename_i k z m k' z' n;rw[ky] at hr;split at hr
   · rename_i hk;obtain ⟨hc,hr⟩:=Tr.aX hr;rw[jg,decide_eq_true_eq] at hc;refine ⟨by simp only[Row.len,aC,aU];omega,?_⟩;simp only[jZ];rw[if_pos hk,← Tr.af hr,rP]
   · exact (Tr.ah hr).elim
 · rename_i hne;have hA:jZ (.M l) off q=xC l off q:=by
    simp only[jZ];split
    · rename_i k z m;split
      · rename_i k' z' n;exact (hne _ _ _ _ _ _ rfl rfl).elim
      · rfl
    · rfl
   rw[hA];rw[fp] at hr;cases hb:Nat.ble 9 q.len with
   | true =>
     rw[hb,cond_true] at hr;split at hr
     · cases hc:Nat.ble (Nat.add off q.len) (aC l) with
       | true =>
         rw[hc,cond_true] at hr;rw[Nat.ble_eq] at hc;exact ⟨hc,Tr.af hr⟩
       | false=>rw[hc,cond_false] at hr;exact (Tr.ah hr).elim
     · exact (Tr.ah hr).elim
   | false =>
     rw[hb,cond_false,oP] at hr;have hl:=Row.bz q;split at hr
     · exact (Tr.ah hr).elim
     · rename_i v vs hq;obtain ⟨l1,h1,hr⟩:=Tr.bind_some hr;obtain ⟨k1,k2⟩:=uk _ _ _ _ h1;rw[hq] at hl;refine ⟨?_,?_⟩
       · rcases k1 with k1 | k1
         · simp at k1
         · omega
       · unfold xC;rw[hb,if_neg (by simp),hq,← Tr.af hr,← k2];rfl
def MS (d:Nat) (x:AV):Bool :=
 match d with
 | 0=>false
 | _+1=>match x with
   | .slc 0 _ _ _ _ _ _=>true
   | _=>false
def storeT (P:Program) (H:ab) (t:TypeId) (a:HV) (x:AV):Tr Delta :=
 match a.1 with
 | .ptr d i v off=>cond (MS d x) (match a.2 with | none=>wb (sc P H t a.1 x) | some _=>.bad)
   (cond (jX H d) .bad ((xL H d i v a.2).bind fun r=>match bH P t with
     | some n=>match x.row with
       | some q=>cond (Nat.beq (iD q) n) (match r with
         | .M l=>(Hf l off a.2 (jt d q)).bind fun r'=>.ok (.set d i (v,.row r'))
         | _=>match a.2 with | none=>wb (sc P H t a.1 x) | some _=>.bad) .bad
       | none=>.bad
     | none=>.bad))
 | _=>.bad
theorem Fa {P:Program} {H:ab} {t:TypeId} {a:HV} {x:AV} {δ:Delta} (hr:(storeT P H t a x).run=some δ):gH P H t a.1 x=some δ:=by
 unfold storeT at hr;split at hr
 · rename_i d i v off ha;cases ho:MS d x with
   | true =>
     rw[ho,cond_true] at hr;split at hr
     · rw[da,uu] at hr;exact hr
     · exact (Tr.ah hr).elim
   | false =>
     rw[ho,cond_false,gv] at hr;cases hl:aN H d with
     | true=>rw[hl,cond_true] at hr;exact (Tr.ah hr).elim
     | false =>
       rw[hl,cond_false] at hr;obtain ⟨r,h1,hr⟩:=Tr.bind_some hr;split at hr
       · rename_i n hs;split at hr
         · rename_i q hq;rw[fp] at hr;cases hb:Nat.beq q.len n with
           | false=>rw[hb,cond_false] at hr;exact (Tr.ah hr).elim
           | true =>
             rw[hb,cond_true] at hr;have hb:q.len=n:=by simpa using hb
             split at hr
             · rename_i l;obtain ⟨r',h2,hr⟩:=Tr.bind_some hr;obtain ⟨k1,k2⟩:=xD h2;rw[ft] at k1;rw[ha];unfold gH;dsimp only;rw[hl,if_neg (by simp),lB h1,hs,hq];dsimp only;rw[if_pos ⟨hb,by show off+n≤aC l;omega⟩];have:∀ (d':Nat) (j w o sz len:Nat) (cap:Option Nat),d=d'+1→x≠.slc 0 j w o sz len cap:=by
                rintro d' j w o sz len cap rfl rfl;simp[MS] at ho
               rw[← Tr.af hr,← k2];split
               · exact absurd rfl (this _ _ _ _ _ _ _ rfl)
               · rfl
             · split at hr
               · rw[da,uu] at hr;exact hr
               · exact (Tr.ah hr).elim
         · exact (Tr.ah hr).elim
       · exact (Tr.ah hr).elim
 · exact (Tr.ah hr).elim

def hOr (h:Option Nat) (off:Nat):Nat :=
 match h with
 | none=>off
 | some h=>h
def og (P:Program) (t:TypeId) (a:HV) (f:Nat):Tr HV :=
 match P.underlying t with
 | some (.struct fs)=>match fs[f]? with
   | some g=>match bH P g.type with
     | some (_+1)=>match a.1 with
       | .ptr d i v off=>.ok (.ptr d i v (EI off a.2 g.offset),yJ a.2 g.offset)
       | .ptrT s r off=>.ok (.ptrT s r (EI off a.2 g.offset),yJ a.2 g.offset)
       | _=>.bad
     | _=>.bad
   | none=>.bad
 | _=>.bad
theorem uS {P:Program} {t:TypeId} {a b:HV} {f:Nat} (hr:(og P t a f).run=some b):ja P t a.1 f=some b.1:=by
 unfold og at hr;unfold ja;split at hr
 · rename_i fs hu;rw[hu];dsimp only;split at hr
   · rename_i g hg;rw[hg];dsimp only;split at hr
     · rename_i n hs;rw[hs];dsimp only;split at hr
       · rename_i d i v off ha;rw[ha,← Tr.af hr];simp only[l7,r9]
       · rename_i s r off ha;rw[ha,← Tr.af hr];simp only[l7,r9]
       · exact (Tr.ah hr).elim
     · exact (Tr.ah hr).elim
   · exact (Tr.ah hr).elim
 · exact (Tr.ah hr).elim
def isLit (x:HV):Bool :=
 match x.2 with
 | some _=>true
 | none=>false
def GZ (off:Nat) (ic:Bool) (i:Int) (z:Nat):Nat:=cond ic (Nat.add off (Nat.mul i.toNat z)) (aq off i z)
theorem r8 (off:Nat) (ic:Bool) (i:Int) (z:Nat):GZ off ic i z=off+i.toNat*z:=by
 cases ic with
 | true=>rfl
 | false=>exact bG _ _ _
def C4 (h:Option Nat) (off:Nat) (ic:Bool) (i:Int) (z:Nat):Option Nat :=
 cond ic (yJ h (Nat.mul i.toNat z)) (some (hOr h off))
def Mk (P:Program) (t:TypeId) (a:HV) (ic:Bool) (i:Int):Tr HV :=
 match P.underlying t with
 | some (.array n e)=>match bH P e with
   | some z=>match a.1 with
     | .ptr d j v off=>.req (cj i n) (.ok (.ptr d j v (GZ off ic i z),C4 a.2 off ic i z))
     | .ptrT s r off=>.req (cj i n) (.ok (.ptrT s r (GZ off ic i z),C4 a.2 off ic i z))
     | _=>.bad
   | none=>.bad
 | some (.slice e)=>match bH P e with
   | some z=>match a.1 with
     | .slc d j v off sz len cap=>cond (Nat.beq z sz) (.req (cj i len) (.ok (.ptr d j v (GZ off ic i z),match cap with
       | some _=>C4 none off ic i z
       | none=>some off))) .bad
     | .slcT s r sz len _=>cond (Nat.beq z sz) (.req (cj i len) (.ok (.ptrT s r (GZ 0 ic i z),C4 none 0 ic i z))) .bad
     | _=>.bad
   | none=>.bad
 | _=>.bad
def Ra (P:Program) (t:TypeId) (x:AV) (ic:Bool) (i:Int):Tr AV :=
 cond ic (wb (qw P t x i)) (match P.underlying t with
  | some (.array n e)=>match x with
    | .agg r=>match bH P e with
      | some z=>.req (cj i n) (zH P e r (aq 0 i z) (some 0))
      | none=>.bad
    | _=>.bad
  | _=>.bad)
theorem Mq {P:Program} {t:TypeId} {x v:AV} {ic:Bool} {i:Int} (hr:(Ra P t x ic i).run=some v):qw P t x i=some v:=by
 unfold Ra at hr;cases ic with
 | true=>rw[cond_true,da] at hr;exact hr
 | false =>
   rw[cond_false] at hr;split at hr
   · rename_i n e hu;split at hr
     · split at hr
       · rename_i z hs;obtain ⟨hc,hr⟩:=Tr.aX hr;rw[qu,decide_eq_true_eq] at hc;have h:=tY hr;rw[bG,Nat.zero_add] at h;unfold qw;rw[hu];dsimp only;rw[hs];dsimp only;rw[if_pos hc,h]
       · exact (Tr.ah hr).elim
     · exact (Tr.ah hr).elim
   · exact (Tr.ah hr).elim
theorem IU {P:Program} {t:TypeId} {a b:HV} {ic:Bool} {i:Int} (hr:(Mk P t a ic i).run=some b):jh P t a.1 i=some b.1:=by
 unfold Mk at hr;unfold jh;split at hr
 · rename_i n e hu;split at hr
   · rename_i z hs;split at hr
     · rename_i d j v off ha;obtain ⟨hc,hr⟩:=Tr.aX hr;rw[qu,decide_eq_true_eq] at hc;rw[hu,ha];dsimp only;rw[hs];dsimp only;rw[if_pos hc,← Tr.af hr];simp only[l7,r8]
     · rename_i s r off ha;obtain ⟨hc,hr⟩:=Tr.aX hr;rw[qu,decide_eq_true_eq] at hc;rw[hu,ha];dsimp only;rw[hs];dsimp only;rw[if_pos hc,← Tr.af hr];simp only[l7,r8]
     · exact (Tr.ah hr).elim
   · exact (Tr.ah hr).elim
 · rename_i e hu;split at hr
   · rename_i z hs;split at hr
     · rename_i d j v off sz len cap ha;cases hb:Nat.beq z sz with
       | false=>rw[hb,cond_false] at hr;exact (Tr.ah hr).elim
       | true =>
         rw[hb,cond_true] at hr;have hb:z=sz:=by simpa using hb
         subst hb;obtain ⟨hc,hr⟩:=Tr.aX hr;rw[qu,decide_eq_true_eq] at hc;rw[hu,ha];dsimp only;rw[if_pos ⟨hc.1,hc.2,hs⟩,← Tr.af hr];simp only[r8]
     · rename_i s r sz len full ha;cases hb:Nat.beq z sz with
       | false=>rw[hb,cond_false] at hr;exact (Tr.ah hr).elim
       | true =>
         rw[hb,cond_true] at hr;have hb:z=sz:=by simpa using hb
         subst hb;obtain ⟨hc,hr⟩:=Tr.aX hr;rw[qu,decide_eq_true_eq] at hc;rw[hu,ha];dsimp only;rw[if_pos ⟨hc.1,hc.2,hs⟩,← Tr.af hr];simp only[r8,Nat.zero_add]
     · exact (Tr.ah hr).elim
   · exact (Tr.ah hr).elim
 · exact (Tr.ah hr).elim

end
end Go.Eng
