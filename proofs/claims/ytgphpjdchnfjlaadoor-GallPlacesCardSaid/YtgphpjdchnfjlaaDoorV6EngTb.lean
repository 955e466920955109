/- The engine as a tree: frames with hints, rows, loads, stores, addresses. -/
import Derived.Test.YtgphpjdchnfjlaaDoorV6EngTa
set_option linter.unusedVariables false
set_option linter.unusedSimpArgs false
namespace Go.Eng
noncomputable section

abbrev HV:=AV×Option Nat
abbrev aH:=List (Nat×HV)
def strip (f:aH):aC:=List.rec (motive:=fun _=>aC) [] (fun p _ ih=>(p.1,p.2.1)::ih) f
theorem cO (x:Nat) (v:HV) (r:aH):strip ((x,v)::r)=(x,v.1)::strip r:=rfl
def lD (f:aH) (y:Nat):HV:=List.rec (motive:=fun _=>HV) (AV.undef,none) (fun p _ ih=>Bool.rec ih p.2 (Nat.beq p.1 y)) f
theorem fe:∀ (f:aH) (y:Nat),(lD f y).1=bH (strip f) y
 | [],y=>rfl
 | (x,v)::r,y=>by
   have e:lD ((x,v)::r) y=Bool.rec (lD r y) v (Nat.beq x y):=rfl;rw[e,cO,bH];cases Nat.beq x y with
   | true=>rfl
   | false=>exact fe r y
def x8 (f:aH) (y:Nat) (u:HV):aH:=List.rec (motive:=fun _=>aH) [(y,u)] (fun p r ih=>Bool.rec (motive:=fun _=>aH) (p::ih) (Bool.rec (motive:=fun _=>aH) ((y,u)::p::r) ((y,u)::r) (Nat.beq p.1 y)) (Nat.ble y p.1)) f
theorem x9:∀ (f:aH) (y:Nat) (u:HV),strip (x8 f y u)=uz (strip f) y u.1
 | [],y,u=>rfl
 | (x,v)::r,y,u=>by
   have e:x8 ((x,v)::r) y u=Bool.rec (motive:=fun _=>aH) ((x,v)::x8 r y u) (Bool.rec (motive:=fun _=>aH) ((y,u)::(x,v)::r) ((y,u)::r) (Nat.beq x y)) (Nat.ble y x):=rfl;rw[e,cO,uz,← x9 r y u];cases Nat.ble y x with
   | false=>rfl
   | true=>cases Nat.beq x y<;>rfl
def gp (f:aH) (m:Nat):aH:=List.rec (motive:=fun _=>aH) [] (fun p _ ih=>Bool.rec (motive:=fun _=>aH) (p::ih) ih (Nat.beq (Nat.land (Nat.shiftRight m p.1) 1) 1)) f
theorem eQ:∀ (f:aH) (m:Nat),strip (gp f m)=bN (strip f) m
 | [],m=>rfl
 | (x,v)::r,m=>by
   have e:gp ((x,v)::r) m=Bool.rec (motive:=fun _=>aH) ((x,v)::gp r m) (gp r m) (Nat.beq (Nat.land (Nat.shiftRight m x) 1) 1):=rfl;have e2:bN ((x,v.1)::strip r) m=Bool.rec (motive:=fun _=>aC) ((x,v.1)::bN (strip r) m) (bN (strip r) m) (Nat.beq (Nat.land (Nat.shiftRight m x) 1) 1):=rfl;rw[e,cO,e2,← eQ r m];cases Nat.beq (Nat.land (Nat.shiftRight m x) 1) 1<;>rfl
def RA (v:Value):Option Nat :=
 match v with
 | .int _ _=>some 1
 | .bool _=>some 1
 | _=>none
def b8 (fr:aH) (x:Operand):HV:=Operand.rec (motive:=fun _=>HV) (fun t=>lD fr t) (fun v=>(kK v,RA v)) (fun _=>(.undef,none)) (fun f=>(.fn (.func f) [] [],none)) x
theorem bf (fr:aH) (x:Operand):(b8 fr x).1=bU (strip fr) x:=by
 cases x with
 | tmp t=>exact fe fr t
 | _=>rfl
def yO (fr:aH) (l:List Operand):List AV:=qW (fun x=>(b8 fr x).1) l
theorem tr (fr:aH):∀ l,yO fr l=lj (strip fr) l
 | []=>rfl
 | x::l=>by
   have e:yO fr (x::l)=(b8 fr x).1::yO fr l:=rfl;rw[e,tr fr l,bf];rfl
def qJ (nt:Nat) (fr:aH) (dst:Option Tmp) (v:HV):aH:=Option.rec (motive:=fun _=>aH) fr (fun d=>Bool.rec (motive:=fun _=>aH) fr (x8 fr d v) (Nat.ble (Nat.succ d) nt)) dst
theorem my (nt:Nat) (fr:aH) (dst:Option Tmp) (v:HV):strip (qJ nt fr dst v)=iF nt (strip fr) dst v.1:=by
 rw[← GR];cases dst with
 | none=>rfl
 | some d =>
   have e:qJ nt fr (some d) v=Bool.rec (motive:=fun _=>aH) fr (x8 fr d v) (Nat.ble (Nat.succ d) nt):=rfl;have e2:GQ nt (strip fr) (some d) v.1=Bool.rec (motive:=fun _=>aC) (strip fr) (vl (strip fr) d v.1) (Nat.ble (Nat.succ d) nt):=rfl;rw[e,e2,xQ,← x9];cases Nat.ble (Nat.succ d) nt<;>rfl

def qu:List dj→Nat→Option AV
 | [],_=>none
 | .one v::r,j=>match j with
   | 0=>some v
   | j+1=>qu r j
 | .arr k z n::r,j=>cond (Nat.blt j n) (some (.int k (z j))) (qu r (Nat.sub j n))
theorem Cb {a b:Nat} (h:Nat.blt a b=true):a<b:=by rwa [Nat.blt_eq] at h
theorem JZ {a b:Nat} (h:Nat.blt a b=false):¬ a<b:=fun e=>by
 have:Nat.blt a b=true:=by rw[Nat.blt_eq];exact e
 rw[h] at this;cases this
theorem sw:∀ (l:List dj) (j:Nat) (v:AV),qu l j=some v→j<aA l∧getM l j=v
 | [],_,_,h=>by simp[qu] at h
 | .one u::r,0,v,h=>by
   simp only[qu,Option.some.injEq] at h;exact ⟨by simp only[aA,aT];omega,h⟩
 | .one u::r,j+1,v,h=>by
   have:=sw r j v (by simpa[qu] using h);exact ⟨by simp only[aA,aT];omega,this.2⟩
 | .arr k z n::r,j,v,h=>by
   simp only[qu] at h;simp only[aA,aT,getM];cases hb:Nat.blt j n with
   | true =>
     rw[hb,cond_true,Option.some.injEq] at h;have:=Cb hb;exact ⟨by omega,by rw[if_pos this];exact h⟩
   | false =>
     rw[hb,cond_false] at h;have hn:=JZ hb;have:=sw r (j-n) v h;exact ⟨by omega,by rw[if_neg hn];exact this.2⟩
def Hc:List dj→Nat→Nat→Nat→Tr AV
 | [],_,_,_=>.bad
 | .one _::r,pos,h,off=>match h with
   | 0=>.bad
   | h+1=>Hc r (Nat.succ pos) h off
 | .arr k z n::r,pos,h,off=>cond (Nat.blt h n) (.req (eD off 1 pos n) (.ok (.int k (z (cq off pos))))) (Hc r (Nat.add pos n) (Nat.sub h n) off)
theorem xi:∀ (l:List dj) (pos h off:Nat) (v:AV),(Hc l pos h off).run=some v→pos≤off∧off-pos<aA l∧getM l (off-pos)=v
 | [],_,_,_,_,h=>(Tr.ah h).elim
 | .one _::r,pos,0,off,v,h=>(Tr.ah h).elim
 | .one u::r,pos,h'+1,off,v,h=>by
   obtain ⟨h1,h2,h3⟩:=xi r (pos+1) h' off v h;refine ⟨by omega,by simp only[aA,aT];omega,?_⟩;rw[show off-pos=(off-(pos+1))+1 by omega];exact h3
 | .arr k z n::r,pos,h',off,v,h=>by
   simp only[Hc] at h;cases hb:Nat.blt h' n with
   | true =>
     rw[hb,cond_true] at h;obtain ⟨hc,h⟩:=Tr.aU h;rw[jQ,decide_eq_true_eq] at hc;have h:=Tr.ae h;refine ⟨hc.1,by simp only[aA,aT];omega,?_⟩;simp only[getM];rw[if_pos wO,← h,dD]
   | false =>
     rw[hb,cond_false] at h;obtain ⟨h1,h2,h3⟩:=xi r (pos+n) (h'-n) off v h;refine ⟨by omega,by simp only[aA,aT];omega,?_⟩;simp only[getM];rw[if_neg wO,← h3];congr 1;omega
def Dh (r:Row) (off:Nat) (h:Option Nat):Tr AV :=
 match r with
 | .F f n=>.req (cK off n) (.ok (f off))
 | .M l=>match l with
   | [.arr k z n]=>.req (cK off n) (.ok (.int k (z off)))
   | l=>match h with
     | none=>vG (qu l off)
     | some h=>Hc l 0 h off
 | .I k l=>match h with
   | none=>vG (jF (.I k l) off)
   | some _=>.req (cK off (Gh l)) (.ok (.int k (aI l off)))
 | .G l=>match h with
   | none=>vG (jF (.G l) off)
   | some _=>.bad
theorem za {r:Row} {off:Nat} {v:AV} (h:jF r off=some v):off<r.len∧r.get off=v:=by
 rw[tH] at h;split at h
 · rename_i h0;exact ⟨h0,Option.some.inj h⟩
 · simp at h
theorem yW {r:Row} {off:Nat} {h:Option Nat} {v:AV} (hr:(Dh r off h).run=some v):off<r.len∧r.get off=v:=by
 unfold Dh at hr;split at hr
 · obtain ⟨hc,hr⟩:=Tr.aU hr;rw[ik,decide_eq_true_eq] at hc;exact ⟨hc,Tr.ae hr⟩
 · rename_i l;split at hr
   · rename_i k z n;obtain ⟨hc,hr⟩:=Tr.aU hr;rw[ik,decide_eq_true_eq] at hc;refine ⟨by simp only[Row.len,aA,aT];omega,?_⟩;simp only[Row.get,getM];rw[if_pos hc];exact Tr.ae hr
   · split at hr
     · rw[dg] at hr;exact sw _ _ _ hr
     · have:=xi _ _ _ _ _ hr;rw[Nat.sub_zero] at this;exact this.2
 · split at hr
   · rw[dg] at hr;exact za hr
   · obtain ⟨hc,hr⟩:=Tr.aU hr;rw[ik,decide_eq_true_eq,ru] at hc;refine ⟨hc,?_⟩;rw[← Tr.ae hr,fq];rfl
 · split at hr
   · rw[dg] at hr;exact za hr
   · exact (Tr.ah hr).elim
def Ek (off:Nat) (h:Option Nat) (j:Nat):Nat :=
 match h with
 | none=>Nat.add off j
 | some _=>match j with
   | 0=>off
   | j+1=>au off (Nat.succ j)
theorem rF (off:Nat) (h:Option Nat) (j:Nat):Ek off h j=off+j:=by
 unfold Ek;split
 · rfl
 · split
   · rfl
   · rw[aM]
def yb (h:Option Nat) (j:Nat):Option Nat :=
 match h with
 | none=>none
 | some h=>some (Nat.add h j)
def Di (r:Row) (off:Nat) (h:Option Nat):Nat→Nat→Tr (List AV)
 | _,0=>.ok []
 | j,n+1=>(Dh r (Ek off h j) (yb h j)).bind fun v=>(Di r off h (Nat.succ j) n).bind fun l=>.ok (v::l)
theorem yX {r:Row} {off:Nat} {h:Option Nat}:∀ (n j:Nat) (l:List AV),(Di r off h j n).run=some l→l=dH r.get (off+j) n∧(n=0∨off+j+n≤r.len)
 | 0,j,l,hr=>⟨(Tr.ae hr).symm,.inl rfl⟩
 | n+1,j,l,hr=>by
   simp only[Di] at hr;obtain ⟨v,h1,hr⟩:=Tr.bind_some hr;obtain ⟨m,h2,hr⟩:=Tr.bind_some hr;have hr:=Tr.ae hr;obtain ⟨k1,k2⟩:=yW h1;obtain ⟨k3,k4⟩:=yX n (j+1) m h2;rw[rF] at k1 k2;refine ⟨?_,.inr wO⟩;rw[← hr,dH,k2,k3,show off+(j+1)=off+j+1 by omega]
def Ha:List dj→Nat→Nat→Nat→Nat→Tr AV
 | [],_,_,_,_=>.bad
 | .one _::r,pos,h,off,n=>match h with
   | 0=>.bad
   | h+1=>Ha r (Nat.succ pos) h off n
 | .arr k z m::r,pos,h,off,n=>cond (Nat.blt h m) (.req (eD off n pos m) (.ok (.agg (.M [.arr k (rJ z (cq off pos)) n])))) (Ha r (Nat.add pos m) (Nat.sub h m) off n)
theorem xh:∀ (l:List dj) (pos h off n:Nat) (v:AV),0<n→(Ha l pos h off n).run=some v→pos≤off∧off-pos+n≤aA l∧∃ k z,lu l (off-pos) n=some (k,z)∧v=.agg (.M [.arr k z n])
 | [],_,_,_,_,_,_,h=>(Tr.ah h).elim
 | .one _::r,pos,0,off,n,v,_,h=>(Tr.ah h).elim
 | .one u::r,pos,h'+1,off,n,v,hn,h=>by
   obtain ⟨h1,h2,k,z,h3,h4⟩:=xh r (pos+1) h' off n v hn h;refine ⟨by omega,by simp only[aA,aT];omega,k,z,?_,h4⟩;rw[show off-pos=(off-(pos+1))+1 by omega];exact h3
 | .arr k z m::r,pos,h',off,n,v,hn,h=>by
   simp only[Ha] at h;cases hb:Nat.blt h' m with
   | true =>
     rw[hb,cond_true] at h;obtain ⟨hc,h⟩:=Tr.aU h;rw[jQ,decide_eq_true_eq] at hc;have h:=Tr.ae h;refine ⟨hc.1,by simp only[aA,aT];omega,k,fun j=>z (off-pos+j),?_,?_⟩
     · simp only[lu];rw[if_pos wO]
     · rw[← h,mG,dD]
   | false =>
     rw[hb,cond_false] at h;obtain ⟨h1,h2,k',z',h3,h4⟩:=xh r (pos+m) (h'-m) off n v hn h;refine ⟨by omega,by simp only[aA,aT];omega,k',z',?_,h4⟩;simp only[lu];rw[if_neg wO,if_pos wO,← h3];congr 1;omega
def G9:List dj→Nat→Nat→Option Row
 | [],_,_=>none
 | .one _::r,o+1,n=>G9 r o n
 | .one _::_,0,_=>none
 | .arr k z m::r,o,n=>cond (Nat.ble (Nat.add o n) m) (some (.M [.arr k (cond (Nat.beq o 0) z (rJ z o)) n])) (cond (Nat.ble m o) (G9 r (Nat.sub o m) n) none)
theorem xg:∀ (l:List dj) (o n:Nat) (q:Row),G9 l o n=some q→∃ k z,lu l o n=some (k,z)∧q=.M [.arr k z n]
 | [],_,_,_,h=>by cases h
 | .one u::r,o+1,n,q,h=>xg r o n q h
 | .one _::_,0,_,_,h=>by cases h
 | .arr k z m::r,o,n,q,h=>by
   simp only[G9] at h;cases hb:Nat.ble (Nat.add o n) m with
   | true =>
     rw[hb,cond_true] at h;have hle:o+n≤m:=Nat.le_of_ble_eq_true hb;simp only[Option.some.injEq] at h;refine ⟨k,fun j=>z (o+j),by simp only[lu];rw[if_pos hle],?_⟩;rw[← h];cases ho:Nat.beq o 0 with
     | true =>
       have:=Nat.eq_of_beq_eq_true ho;subst this;simp only[cond_true,Nat.zero_add]
     | false=>rw[cond_false,mG]
   | false =>
     rw[hb,cond_false] at h;cases hm:Nat.ble m o with
     | true =>
       rw[hm,cond_true] at h;have hle:m≤o:=Nat.le_of_ble_eq_true hm;have hnl:¬ (o+n≤m):=fun hc=>by
        have:Nat.ble (Nat.add o n) m=true:=by rw[Nat.ble_eq];exact hc
        rw[hb] at this;cases this
       obtain ⟨k',z',h1,h2⟩:=xg r (o-m) n q h;exact ⟨k',z',by simp only[lu];rw[if_neg hnl,if_pos hle];exact h1,h2⟩
     | false=>rw[hm,cond_false] at h;cases h
def yY (P:Program) (t:TypeId) (r:Row) (off:Nat) (h:Option Nat):Tr AV :=
 match fc P t with
 | some false=>Dh r off h
 | some true=>match bD P t with
   | some 0=>.bad
   | some (n+1)=>match r with
     | .M l=>cond (Nat.ble (Nat.succ n) 8) ((Di (.M l) off h 0 (Nat.succ n)).bind fun vs=>.ok (.agg (Row.ofList vs)))
       (match h with
       | none=>cond (Nat.ble (Nat.add off (Nat.succ n)) (aA l)) (cond (Nat.beq (aA l) (Nat.succ n)) (.ok (.agg ((Row.M l).cut off (Nat.succ n)))) (match G9 l off (Nat.succ n) with
         | some q=>.ok (.agg q)
         | none=>.ok (.agg ((Row.M l).cut off (Nat.succ n))))) .bad
       | some h=>cond (Nat.beq (aA l) (Nat.succ n)) .bad (Ha l 0 h off (Nat.succ n)))
     | .F f m=>.req (fp (au off (Nat.succ n)) m) (.ok (.agg ((Row.F f m).cut off (Nat.succ n))))
     | .I k l=>match h with
       | none=>vG (w9 P t (.I k l) off)
       | some _=>.bad
     | .G l=>match h with
       | none=>vG (w9 P t (.G l) off)
       | some _=>.bad
   | none=>.bad
 | none=>.bad
theorem tF       {P : Program} {t:TypeId} {r:Row} {off:Nat} {h:Option Nat} {v:AV} (hr:(yY P t r off h).run=some v):jE P t r off=some v:=by
 unfold yY at hr;split at hr
 · rename_i ha;obtain ⟨h1,h2⟩:=yW hr;unfold jE;rw[ha];dsimp only;rw[if_pos h1,h2]
 · rename_i ha;split at hr
   · exact (Tr.ah hr).elim
   · rename_i n hs;split at hr
     · rename_i l;unfold jE;rw[ha,hs];dsimp only;cases hb:Nat.ble (Nat.succ n) 8 with
       | true =>
         rw[hb,cond_true] at hr;obtain ⟨vs,h1,hr⟩:=Tr.bind_some hr;have hr:=Tr.ae hr;obtain ⟨k1,k2⟩:=yX _ _ _ h1;rw[if_pos wO,← hr,k1];simp only[Row.cut];rw[show Nat.ble (n+1) 8=true from hb,if_pos rfl,Nat.add_zero];rfl
       | false =>
         rw[hb,cond_false] at hr;split at hr
         · cases hc : Nat.ble (Nat.add off (Nat.succ n)) (aA l) with
           | true =>
             rw[hc,cond_true] at hr;rw[Nat.ble_eq] at hc;rw[if_pos (show off+(n+1)≤(Row.M l).len from hc)];cases hq:Nat.beq (aA l) (Nat.succ n) with
             | true=>rw[hq,cond_true] at hr;rw[← Tr.ae hr]
             | false =>
               rw[hq,cond_false] at hr;split at hr
               · rename_i q hseg;obtain ⟨k,z,h3,h4⟩:=xg _ _ _ _ hseg;simp only[Row.cut];rw[show Nat.ble (n+1) 8=false from hb,if_neg (by simp),show Nat.beq (aA l) (n+1)=false from hq,Bool.and_false,if_neg (by simp)];have : Row.sub (.M l) off (n+1)=.M [.arr k z (n+1)]:=by
                  match l,h3,hq with
                  | [],h3,_=>simp[lu] at h3
                  | [.arr k' z' m],h3,hq =>
                    simp only[lu] at h3;split at h3
                    · simp only[nP] at h3;obtain ⟨rfl,rfl⟩:=h3;rfl
                    · split at h3<;>simp at h3
                  | .one u::r,h3,hq =>
                    simp only[Row.sub];rw[show Nat.beq (aA (.one u::r)) (n+1)=false from hq,Bool.and_false,h3];rfl
                  | .arr k' z' m::s::r,h3,hq =>
                    simp only[Row.sub];rw[show Nat.beq (aA (.arr k' z' m::s::r)) (n+1)=false from hq,Bool.and_false,h3];rfl
                 rw[this,← Tr.ae hr,h4]
               · rw[← Tr.ae hr]
           | false=>rw[hc,cond_false] at hr;exact (Tr.ah hr).elim
         · rename_i h;cases hc:Nat.beq (aA l) (Nat.succ n) with
           | true=>rw[hc,cond_true] at hr;exact (Tr.ah hr).elim
           | false =>
             rw[hc,cond_false] at hr;obtain ⟨h1,h2,k,z,h3,h4⟩:=xh _ _ _ _ _ _ (Nat.succ_pos n) hr;rw[Nat.sub_zero] at h2 h3;rw[if_pos (show off+(n+1)≤(Row.M l).len from h2)];simp only[Row.cut];rw[show Nat.ble (n+1) 8=false from hb,if_neg (by simp),show Nat.beq (aA l) (n+1)=false from hc,Bool.and_false,if_neg (by simp)];have : Row.sub (.M l) off (n+1)=.M [.arr k z (n+1)]:=by
              match l,h3,hc with
              | [],h3,_=>simp[lu] at h3
              | [.arr k' z' m],h3,hc =>
                simp only[lu] at h3;split at h3
                · simp only[nP] at h3;obtain ⟨rfl,rfl⟩:=h3;rfl
                · split at h3<;>simp at h3
              | .one u::r,h3,hc =>
                simp only[Row.sub];rw[show Nat.beq (aA (.one u::r)) (n+1)=false from hc,Bool.and_false,h3];rfl
              | .arr k' z' m::s::r,h3,hc =>
                simp only[Row.sub];rw[show Nat.beq (aA (.arr k' z' m::s::r)) (n+1)=false from hc,Bool.and_false,h3];rfl
             rw[this,h4]
     · rename_i f m;obtain ⟨hc,hr⟩:=Tr.aU hr;rw[kV,decide_eq_true_eq,aM] at hc;unfold jE;rw[ha,hs];dsimp only;rw[if_pos (show off+(n+1)≤(Row.F f m).len from hc),← Tr.ae hr]
     · split at hr
       · rw[dg,vK] at hr;exact hr
       · exact (Tr.ah hr).elim
     · split at hr
       · rw[dg,vK] at hr;exact hr
       · exact (Tr.ah hr).elim
   · exact (Tr.ah hr).elim
 · exact (Tr.ah hr).elim

def xe (H:ab) (d i v:Nat) (h:Option Nat):Tr Row :=
 match h with
 | none=>vG (Cv H d i v)
 | some _=>match nj H d i with
   | (ver,.row r)=>.req (cg ver v) (.ok r)
   | _=>.bad
theorem lq {H:ab} {d i v:Nat} {h:Option Nat} {r:Row} (hr:(xe H d i v h).run=some r):da H d i v=some r:=by
 unfold xe at hr;split at hr
 · rw[dg,ya] at hr;exact hr
 · rw[oU] at hr;split at hr
   · rename_i ver q hg;obtain ⟨hc,hr2⟩:=Tr.aU hr;rw[ft,decide_eq_true_eq] at hc;subst hc;unfold da;rw[hg];simp only[Nat.beq_refl,if_true];rw[Tr.ae hr2]
   · exact (Tr.ah hr).elim
def loadT (P:Program) (H:ab) (t:TypeId) (a:HV):Tr AV :=
 match a.1 with
 | .ptr d i v off=>(xe H d i v a.2).bind fun r=>(yY P t r off a.2).bind fun x=>.ok (mH d x)
 | .ptrT s r off=>(yY P t r off a.2).bind fun x=>.ok (Uz s x)
 | _=>.bad
theorem yt {P:Program} {H:ab} {t:TypeId} {a:HV} {v:AV} (hr:(loadT P H t a).run=some v):o6 P H t a.1=some v:=by
 unfold loadT at hr;unfold o6;split at hr
 · rename_i d i ver off ha;obtain ⟨r,h1,hr⟩:=Tr.bind_some hr;obtain ⟨x,h2,hr⟩:=Tr.bind_some hr;rw[ha];dsimp only;rw[lq h1];dsimp only;rw[tF h2,← Tr.ae hr];rfl
 · rename_i s r off ha;obtain ⟨x,h2,hr⟩:=Tr.bind_some hr;rw[ha];dsimp only;rw[tF h2,← Tr.ae hr];rfl
 · exact (Tr.ah hr).elim

def qO:List dj→Nat→AV→Option (List dj)
 | [],_,_=>none
 | .one u::r,j,v=>match j with
   | 0=>some (.one v::r)
   | j+1=>match qO r j v with
     | some r'=>some (.one u::r')
     | none=>none
 | .arr k z n::r,j,v=>cond (Nat.blt j n) (match v with
    | .int k' x=>cond (gQ k' k) (some (.arr k (dc z j x) n::r)) none
    | _=>none)
   (match qO r (Nat.sub j n) v with
     | some r'=>some (.arr k z n::r')
     | none=>none)
theorem tU:∀ (l:List dj) (j:Nat) (v:AV) (l':List dj),qO l j v=some l'→j<aA l∧jT l j v=l'
 | [],_,_,_,h=>by simp[qO] at h
 | .one u::r,0,v,l',h=>by
   simp only[qO,Option.some.injEq] at h;exact ⟨by simp only[aA,aT];omega,h⟩
 | .one u::r,j+1,v,l',h=>by
   simp only[qO] at h;split at h
   · rename_i r' hr;have:=tU r j v r' hr;simp only[Option.some.injEq] at h;exact ⟨by simp only[aA,aT];omega,by simp only[jT];rw[this.2];exact h⟩
   · simp at h
 | .arr k z n::r,j,v,l',h=>by
   simp only[qO] at h;cases hb:Nat.blt j n with
   | true =>
     rw[hb,cond_true] at h;have hj:=Cb hb;split at h
     · rename_i k' x;rw[ki] at h;split at h
       · rename_i hk;simp only[Option.some.injEq] at h;refine ⟨by simp only[aA,aT];omega,?_⟩;simp only[jT];rw[if_pos hj,if_pos hk,← h,rO]
       · simp at h
     · simp at h
   | false =>
     rw[hb,cond_false] at h;have hj:=JZ hb;split at h
     · rename_i r' hr;have:=tU r (j-n) v r' hr;simp only[Option.some.injEq] at h;exact ⟨by simp only[aA,aT];omega,by simp only[jT];rw[if_neg hj,this.2];exact h⟩
     · simp at h
def Ev:List dj→Nat→Nat→Nat→AV→Tr (List dj)
 | [],_,_,_,_=>.bad
 | .one u::r,pos,h,off,v=>match h with
   | 0=>.bad
   | h+1=>(Ev r (Nat.succ pos) h off v).bind fun r'=>.ok (.one u::r')
 | .arr k z n::r,pos,h,off,v=>cond (Nat.blt h n) (match v with
    | .int k' x=>cond (gQ k' k) (.req (eD off 1 pos n) (.ok (.arr k (dc z (cq off pos) x) n::r))) .bad
    | _=>.bad)
   ((Ev r (Nat.add pos n) (Nat.sub h n) off v).bind fun r'=>.ok (.arr k z n::r'))
theorem xj:∀ (l:List dj) (pos h off:Nat) (v:AV) (l':List dj),(Ev l pos h off v).run=some l'→pos≤off∧off-pos<aA l∧jT l (off-pos) v=l'
 | [],_,_,_,_,_,h=>(Tr.ah h).elim
 | .one _::r,pos,0,off,v,l',h=>(Tr.ah h).elim
 | .one u::r,pos,h'+1,off,v,l',h=>by
   simp only[Ev] at h;obtain ⟨r',hr,h⟩:=Tr.bind_some h;obtain ⟨h1,h2,h3⟩:=xj r (pos+1) h' off v r' hr;refine ⟨by omega,by simp only[aA,aT];omega,?_⟩;rw[show off-pos=(off-(pos+1))+1 by omega,← Tr.ae h,← h3];rfl
 | .arr k z n::r,pos,h',off,v,l',h=>by
   simp only[Ev] at h;cases hb:Nat.blt h' n with
   | true =>
     rw[hb,cond_true] at h;split at h
     · rename_i k' x;rw[ki] at h;split at h
       · rename_i hk;obtain ⟨hc,h⟩:=Tr.aU h;rw[jQ,decide_eq_true_eq] at hc;refine ⟨hc.1,by simp only[aA,aT];omega,?_⟩;simp only[jT];rw[if_pos wO,if_pos hk,← Tr.ae h,rO,dD]
       · exact (Tr.ah h).elim
     · exact (Tr.ah h).elim
   | false =>
     rw[hb,cond_false] at h;obtain ⟨r',hr,h⟩:=Tr.bind_some h;obtain ⟨h1,h2,h3⟩:=xj r (pos+n) (h'-n) off v r' hr;refine ⟨by omega,by simp only[aA,aT];omega,?_⟩;simp only[jT];rw[if_neg wO,← Tr.ae h,← h3,show off-pos-n=off-(pos+n) by omega]
def MM (l:List dj) (off:Nat) (h:Option Nat) (v:AV):Tr (List dj) :=
 match l with
 | [.arr k z n]=>match v with
   | .int k' x=>cond (gQ k' k) (.req (cK off n) (.ok [.arr k (dc z off x) n])) .bad
   | _=>.bad
 | l=>match h with
   | none=>vG (qO l off v)
   | some h=>Ev l 0 h off v
theorem Ju {l l':List dj} {off:Nat} {h:Option Nat} {v:AV} (hr:(MM l off h v).run=some l'):off<aA l∧jT l off v=l':=by
 unfold MM at hr;split at hr
 · rename_i k z n;split at hr
   · rename_i k' x;rw[ki] at hr;split at hr
     · rename_i hk;obtain ⟨hc,hr⟩:=Tr.aU hr;rw[ik,decide_eq_true_eq] at hc;refine ⟨by simp only[aA,aT];omega,?_⟩;simp only[jT];rw[if_pos hc,if_pos hk,← Tr.ae hr,rO]
     · exact (Tr.ah hr).elim
   · exact (Tr.ah hr).elim
 · split at hr
   · rw[dg] at hr;exact tU _ _ _ _ hr
   · have:=xj _ _ _ _ _ _ hr;rw[Nat.sub_zero] at this;exact this.2
def zk (off:Nat) (h:Option Nat):List AV→Nat→List dj→Tr (List dj)
 | [],_,l=>.ok l
 | v::vs,j,l=>(MM l (Ek off h j) (yb h j) v).bind fun l'=>zk off h vs (Nat.succ j) l'
theorem tT {off:Nat} {h:Option Nat}:∀ (vs:List AV) (j:Nat) (l l':List dj),(zk off h vs j l).run=some l'→(vs=[]∨off+j+vs.length≤aA l)∧Row.cN (.M l) (off+j) vs=.M l'
 | [],j,l,l',h=>⟨.inl rfl,by rw[Tr.ae h];rfl⟩
 | v :: vs,j,l,l',h=>by
   simp only[zk] at h;obtain ⟨l1,h1,h⟩:=Tr.bind_some h;obtain ⟨k1,k2⟩:=Ju h1;rw[rF] at k1 k2;obtain ⟨k3,k4⟩:=tT vs (j+1) l1 l' h;have hl:aA l1=aA l:=by rw[← k2,mR]
   refine ⟨.inr ?_,?_⟩
   · rcases k3 with rfl | k3
     · simp only[List.length_cons,List.length_nil];omega
     · simp only[List.length_cons];omega
   · simp only[Row.cN,Row.set,k2];exact k4
def GS (l:List dj) (off:Nat) (h:Option Nat) (q:Row):Tr Row :=
 match l,q with
 | [.arr k z m],.M [.arr k' z' n]=>cond (gQ k' k) (.req (eD off n 0 m) (.ok (.M [.arr k (oE z off z' n) m]))) .bad
 | l,q=>cond (Nat.ble 9 (iw q)) (match h with
    | none=>cond (Nat.ble (Nat.add off (iw q)) (aA l)) (.ok (wZ l off q)) .bad
    | some _=>.bad)
   (match ly q with
     | []=>.bad
     | v::vs=>(zk off h (v::vs) 0 l).bind fun l'=>.ok (.M l'))
theorem w6 {l:List dj} {off:Nat} {h:Option Nat} {q r:Row} (hr:(GS l off h q).run=some r):off+q.len≤aA l∧jS (.M l) off q=r:=by
 unfold GS at hr;split at hr
 · rename_i k z m k' z' n;rw[ki] at hr;split at hr
   · rename_i hk;obtain ⟨hc,hr⟩:=Tr.aU hr;rw[jQ,decide_eq_true_eq] at hc;refine ⟨by simp only[Row.len,aA,aT];omega,?_⟩;simp only[jS];rw[if_pos hk,← Tr.ae hr,v7]
   · exact (Tr.ah hr).elim
 · rename_i hne;have hA:jS (.M l) off q=wZ l off q:=by
    simp only[jS];split
    · rename_i k z m;split
      · rename_i k' z' n;exact (hne _ _ _ _ _ _ rfl rfl).elim
      · rfl
    · rfl
   rw[hA];rw[fi] at hr;cases hb:Nat.ble 9 q.len with
   | true =>
     rw[hb,cond_true] at hr;split at hr
     · cases hc:Nat.ble (Nat.add off q.len) (aA l) with
       | true =>
         rw[hc,cond_true] at hr;rw[Nat.ble_eq] at hc;exact ⟨hc,Tr.ae hr⟩
       | false=>rw[hc,cond_false] at hr;exact (Tr.ah hr).elim
     · exact (Tr.ah hr).elim
   | false =>
     rw[hb,cond_false,oh] at hr;have hl:=Row.br q;split at hr
     · exact (Tr.ah hr).elim
     · rename_i v vs hq;obtain ⟨l1,h1,hr⟩:=Tr.bind_some hr;obtain ⟨k1,k2⟩:=tT _ _ _ _ h1;rw[hq] at hl;refine ⟨?_,?_⟩
       · rcases k1 with k1 | k1
         · simp at k1
         · omega
       · unfold wZ;rw[hb,if_neg (by simp),hq,← Tr.ae hr,← k2];rfl
def Mw (d:Nat) (x:AV):Bool :=
 match d with
 | 0=>false
 | _+1=>match x with
   | .slc 0 _ _ _ _ _ _=>true
   | _=>false
def storeT (P:Program) (H:ab) (t:TypeId) (a:HV) (x:AV):Tr Delta :=
 match a.1 with
 | .ptr d i v off=>cond (Mw d x) (match a.2 with | none=>vG (rL P H t a.1 x) | some _=>.bad)
   (cond (jP H d) .bad ((xe H d i v a.2).bind fun r=>match bD P t with
     | some n=>match x.row with
       | some q=>cond (Nat.beq (iw q) n) (match r with
         | .M l=>(GS l off a.2 (jq d q)).bind fun r'=>.ok (.set d i (v,.row r'))
         | _=>match a.2 with | none=>vG (rL P H t a.1 x) | some _=>.bad) .bad
       | none=>.bad
     | none=>.bad))
 | _=>.bad
theorem ED {P:Program} {H:ab} {t:TypeId} {a:HV} {x:AV} {δ:Delta} (hr:(storeT P H t a x).run=some δ):gy P H t a.1 x=some δ:=by
 unfold storeT at hr;split at hr
 · rename_i d i v off ha;cases ho:Mw d x with
   | true =>
     rw[ho,cond_true] at hr;split at hr
     · rw[dg,tY] at hr;exact hr
     · exact (Tr.ah hr).elim
   | false =>
     rw[ho,cond_false,gq] at hr;cases hl:aK H d with
     | true=>rw[hl,cond_true] at hr;exact (Tr.ah hr).elim
     | false =>
       rw[hl,cond_false] at hr;obtain ⟨r,h1,hr⟩:=Tr.bind_some hr;split at hr
       · rename_i n hs;split at hr
         · rename_i q hq;rw[fi] at hr;cases hb:Nat.beq q.len n with
           | false=>rw[hb,cond_false] at hr;exact (Tr.ah hr).elim
           | true =>
             rw[hb,cond_true] at hr;have hb:q.len=n:=by simpa using hb
             split at hr
             · rename_i l;obtain ⟨r',h2,hr⟩:=Tr.bind_some hr;obtain ⟨k1,k2⟩:=w6 h2;rw[fj] at k1;rw[ha];unfold gy;dsimp only;rw[hl,if_neg (by simp),lq h1,hs,hq];dsimp only;rw[if_pos ⟨hb,by show off+n≤aA l;omega⟩];have:∀ (d':Nat) (j w o sz len:Nat) (cap:Option Nat),d=d'+1→x≠.slc 0 j w o sz len cap:=by
                rintro d' j w o sz len cap rfl rfl;simp[Mw] at ho
               rw[← Tr.ae hr,← k2];split
               · exact absurd rfl (this _ _ _ _ _ _ _ rfl)
               · rfl
             · split at hr
               · rw[dg,tY] at hr;exact hr
               · exact (Tr.ah hr).elim
         · exact (Tr.ah hr).elim
       · exact (Tr.ah hr).elim
 · exact (Tr.ah hr).elim

def hOr (h:Option Nat) (off:Nat):Nat :=
 match h with
 | none=>off
 | some h=>h
def nB (P:Program) (t:TypeId) (a:HV) (f:Nat):Tr HV :=
 match P.underlying t with
 | some (.struct fs)=>match fs[f]? with
   | some g=>match bD P g.type with
     | some (_+1)=>match a.1 with
       | .ptr d i v off=>.ok (.ptr d i v (Ek off a.2 g.offset),yb a.2 g.offset)
       | .ptrT s r off=>.ok (.ptrT s r (Ek off a.2 g.offset),yb a.2 g.offset)
       | _=>.bad
     | _=>.bad
   | none=>.bad
 | _=>.bad
theorem uA {P:Program} {t:TypeId} {a b:HV} {f:Nat} (hr:(nB P t a f).run=some b):iS P t a.1 f=some b.1:=by
 unfold nB at hr;unfold iS;split at hr
 · rename_i fs hu;rw[hu];dsimp only;split at hr
   · rename_i g hg;rw[hg];dsimp only;split at hr
     · rename_i n hs;rw[hs];dsimp only;split at hr
       · rename_i d i v off ha;rw[ha,← Tr.ae hr];simp only[lO,rF]
       · rename_i s r off ha;rw[ha,← Tr.ae hr];simp only[lO,rF]
       · exact (Tr.ah hr).elim
     · exact (Tr.ah hr).elim
   · exact (Tr.ah hr).elim
 · exact (Tr.ah hr).elim
def isLit (x:HV):Bool :=
 match x.2 with
 | some _=>true
 | none=>false
def GC (off:Nat) (ic:Bool) (i:Int) (z:Nat):Nat:=cond ic (Nat.add off (Nat.mul i.toNat z)) (aw off i z)
theorem rE (off:Nat) (ic:Bool) (i:Int) (z:Nat):GC off ic i z=off+i.toNat*z:=by
 cases ic with
 | true=>rfl
 | false=>exact bJ _ _ _
def CB (h:Option Nat) (off:Nat) (ic:Bool) (i:Int) (z:Nat):Option Nat :=
 cond ic (yb h (Nat.mul i.toNat z)) (some (hOr h off))
def L2 (P:Program) (t:TypeId) (a:HV) (ic:Bool) (i:Int):Tr HV :=
 match P.underlying t with
 | some (.array n e)=>match bD P e with
   | some z=>match a.1 with
     | .ptr d j v off=>.req (c6 i n) (.ok (.ptr d j v (GC off ic i z),CB a.2 off ic i z))
     | .ptrT s r off=>.req (c6 i n) (.ok (.ptrT s r (GC off ic i z),CB a.2 off ic i z))
     | _=>.bad
   | none=>.bad
 | some (.slice e)=>match bD P e with
   | some z=>match a.1 with
     | .slc d j v off sz len cap=>cond (Nat.beq z sz) (.req (c6 i len) (.ok (.ptr d j v (GC off ic i z),match cap with
       | some _=>CB none off ic i z
       | none=>some off))) .bad
     | .slcT s r sz len _=>cond (Nat.beq z sz) (.req (c6 i len) (.ok (.ptrT s r (GC 0 ic i z),CB none 0 ic i z))) .bad
     | _=>.bad
   | none=>.bad
 | _=>.bad
def QF (P:Program) (t:TypeId) (x:AV) (ic:Bool) (i:Int):Tr AV :=
 cond ic (vG (pV P t x i)) (match P.underlying t with
  | some (.array n e)=>match x with
    | .agg r=>match bD P e with
      | some z=>.req (c6 i n) (yY P e r (aw 0 i z) (some 0))
      | none=>.bad
    | _=>.bad
  | _=>.bad)
theorem L8 {P:Program} {t:TypeId} {x v:AV} {ic:Bool} {i:Int} (hr:(QF P t x ic i).run=some v):pV P t x i=some v:=by
 unfold QF at hr;cases ic with
 | true=>rw[cond_true,dg] at hr;exact hr
 | false =>
   rw[cond_false] at hr;split at hr
   · rename_i n e hu;split at hr
     · split at hr
       · rename_i z hs;obtain ⟨hc,hr⟩:=Tr.aU hr;rw[pU,decide_eq_true_eq] at hc;have h:=tF hr;rw[bJ,Nat.zero_add] at h;unfold pV;rw[hu];dsimp only;rw[hs];dsimp only;rw[if_pos hc,h]
       · exact (Tr.ah hr).elim
     · exact (Tr.ah hr).elim
   · exact (Tr.ah hr).elim
theorem Iy {P:Program} {t:TypeId} {a b:HV} {ic:Bool} {i:Int} (hr:(L2 P t a ic i).run=some b):iZ P t a.1 i=some b.1:=by
 unfold L2 at hr;unfold iZ;split at hr
 · rename_i n e hu;split at hr
   · rename_i z hs;split at hr
     · rename_i d j v off ha;obtain ⟨hc,hr⟩:=Tr.aU hr;rw[pU,decide_eq_true_eq] at hc;rw[hu,ha];dsimp only;rw[hs];dsimp only;rw[if_pos hc,← Tr.ae hr];simp only[lO,rE]
     · rename_i s r off ha;obtain ⟨hc,hr⟩:=Tr.aU hr;rw[pU,decide_eq_true_eq] at hc;rw[hu,ha];dsimp only;rw[hs];dsimp only;rw[if_pos hc,← Tr.ae hr];simp only[lO,rE]
     · exact (Tr.ah hr).elim
   · exact (Tr.ah hr).elim
 · rename_i e hu;split at hr
   · rename_i z hs;split at hr
     · rename_i d j v off sz len cap ha;cases hb:Nat.beq z sz with
       | false=>rw[hb,cond_false] at hr;exact (Tr.ah hr).elim
       | true =>
         rw[hb,cond_true] at hr;have hb:z=sz:=by simpa using hb
         subst hb;obtain ⟨hc,hr⟩:=Tr.aU hr;rw[pU,decide_eq_true_eq] at hc;rw[hu,ha];dsimp only;rw[if_pos ⟨hc.1,hc.2,hs⟩,← Tr.ae hr];simp only[rE]
     · rename_i s r sz len full ha;cases hb:Nat.beq z sz with
       | false=>rw[hb,cond_false] at hr;exact (Tr.ah hr).elim
       | true =>
         rw[hb,cond_true] at hr;have hb:z=sz:=by simpa using hb
         subst hb;obtain ⟨hc,hr⟩:=Tr.aU hr;rw[pU,decide_eq_true_eq] at hc;rw[hu,ha];dsimp only;rw[if_pos ⟨hc.1,hc.2,hs⟩,← Tr.ae hr];simp only[rE,Nat.zero_add]
     · exact (Tr.ah hr).elim
   · exact (Tr.ah hr).elim
 · exact (Tr.ah hr).elim

end
end Go.Eng
