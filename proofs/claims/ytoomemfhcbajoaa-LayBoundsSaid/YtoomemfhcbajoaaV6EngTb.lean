/- The engine as a tree: frames with hints, rows, loads, stores, addresses. -/
import Derived.Test.YtoomemfhcbajoaaV6EngOrax2
set_option linter.unusedVariables false
set_option linter.unusedSimpArgs false
namespace Go.Eng
noncomputable section

abbrev HV:=AV×Option Nat
abbrev aN:=List (Nat×HV)
def strip (f:aN):aq:=List.rec (motive:=fun _=>aq) [] (fun p _ ih=>(p.1,p.2.1)::ih) f
theorem dc (x:Nat) (v:HV) (r:aN):strip ((x,v)::r)=(x,v.1)::strip r:=rfl
def lU (f:aN) (y:Nat):HV:=List.rec (motive:=fun _=>HV) (AV.undef,none) (fun p _ ih=>Bool.rec ih p.2 (Nat.beq p.1 y)) f
theorem fD:∀ (f:aN) (y:Nat),(lU f y).1=bt (strip f) y
 | [],y=>rfl
 | (x,v)::r,y=>by
   have e:lU ((x,v)::r) y=Bool.rec (lU r y) v (Nat.beq x y):=rfl
   rw[e,dc,bt]
   cases Nat.beq x y with
   | true=>rfl
   | false=>exact fD r y
def yU (f:aN) (y:Nat) (u:HV):aN:=List.rec (motive:=fun _=>aN) [(y,u)] (fun p r ih=>Bool.rec (motive:=fun _=>aN) (p::ih) (Bool.rec (motive:=fun _=>aN) ((y,u)::p::r) ((y,u)::r) (Nat.beq p.1 y)) (Nat.ble y p.1)) f
theorem yV:∀ (f:aN) (y:Nat) (u:HV),strip (yU f y u)=uP (strip f) y u.1
 | [],y,u=>rfl
 | (x,v)::r,y,u=>by
   have e:yU ((x,v)::r) y u=Bool.rec (motive:=fun _=>aN) ((x,v)::yU r y u) (Bool.rec (motive:=fun _=>aN) ((y,u)::(x,v)::r) ((y,u)::r) (Nat.beq x y)) (Nat.ble y x):=rfl
   rw[e,dc,uP,← yV r y u]
   cases Nat.ble y x with
   | false=>rfl
   | true=>cases Nat.beq x y<;>rfl
def gY (f:aN) (m:Nat):aN:=List.rec (motive:=fun _=>aN) [] (fun p _ ih=>Bool.rec (motive:=fun _=>aN) (p::ih) ih (Nat.beq (Nat.land (Nat.shiftRight m p.1) 1) 1)) f
theorem ff:∀ (f:aN) (m:Nat),strip (gY f m)=bP (strip f) m
 | [],m=>rfl
 | (x,v)::r,m=>by
   have e:gY ((x,v)::r) m=Bool.rec (motive:=fun _=>aN) ((x,v)::gY r m) (gY r m) (Nat.beq (Nat.land (Nat.shiftRight m x) 1) 1):=rfl
   have e2:bP ((x,v.1)::strip r) m=Bool.rec (motive:=fun _=>aq) ((x,v.1)::bP (strip r) m) (bP (strip r) m) (Nat.beq (Nat.land (Nat.shiftRight m x) 1) 1):=rfl
   rw[e,dc,e2,← ff r m]
   cases Nat.beq (Nat.land (Nat.shiftRight m x) 1) 1<;>rfl
def Qa (v:Value):Option Nat :=
 match v with
 | .int _ _=>some 1
 | .bool _=>some 1
 | _=>none
def bZ (fr:aN) (x:Operand):HV:=Operand.rec (motive:=fun _=>HV) (fun t=>lU fr t) (fun v=>(kW v,Qa v)) (fun _=>(.undef,none)) (fun f=>(.fn (.func f) [] [],none)) x
theorem aU (fr:aN) (x:Operand):(bZ fr x).1=bL (strip fr) x:=by
 cases x with
 | tmp t=>exact fD fr t
 | _=>rfl
def zU (fr:aN) (l:List Operand):List AV:=oc (fun x=>(bZ fr x).1) l
theorem tM (fr:aN):∀ l,zU fr l=jW (strip fr) l
 | []=>rfl
 | x::l=>by
   have e:zU fr (x::l)=(bZ fr x).1::zU fr l:=rfl
   rw[e,tM fr l,aU];rfl
def rA (nt:Nat) (fr:aN) (dst:Option Tmp) (v:HV):aN:=Option.rec (motive:=fun _=>aN) fr (fun d=>Bool.rec (motive:=fun _=>aN) fr (yU fr d v) (Nat.ble (Nat.succ d) nt)) dst
theorem mK (nt:Nat) (fr:aN) (dst:Option Tmp) (v:HV):strip (rA nt fr dst v)=dC nt (strip fr) dst v.1:=by
 rw[← pH]
 cases dst with
 | none=>rfl
 | some d =>
   have e:rA nt fr (some d) v=Bool.rec (motive:=fun _=>aN) fr (yU fr d v) (Nat.ble (Nat.succ d) nt):=rfl
   have e2:rC nt (strip fr) (some d) v.1=Bool.rec (motive:=fun _=>aq) (strip fr) (vJ (strip fr) d v.1) (Nat.ble (Nat.succ d) nt):=rfl
   rw[e,e2,yD,← yV]
   cases Nat.ble (Nat.succ d) nt<;>rfl

def rf:List ah→Nat→Option AV
 | [],_=>none
 | .one v::r,j=>match j with
   | 0=>some v
   | j+1=>rf r j
 | .arr k z n::r,j=>cond (Nat.blt j n) (some (.int k (z j))) (rf r (Nat.sub j n))
theorem B5 {a b:Nat} (h:Nat.blt a b=true):a<b:=by rwa [Nat.blt_eq] at h
theorem Je {a b:Nat} (h:Nat.blt a b=false):¬ a<b:=fun e=>by
 have:Nat.blt a b=true:=by rw[Nat.blt_eq];exact e
 rw[h] at this;cases this
theorem sY:∀ (l:List ah) (j:Nat) (v:AV),rf l j=some v→j<az l∧getM l j=v
 | [],_,_,h=>by simp[rf] at h
 | .one u::r,0,v,h=>by
   simp only[rf,Option.some.injEq] at h
   exact ⟨by simp only[az,aQ];omega,h⟩
 | .one u::r,j+1,v,h=>by
   have:=sY r j v (by simpa[rf] using h)
   exact ⟨by simp only[az,aQ];omega,this.2⟩
 | .arr k z n::r,j,v,h=>by
   simp only[rf] at h
   simp only[az,aQ,getM]
   cases hb:Nat.blt j n with
   | true =>
     rw[hb,cond_true,Option.some.injEq] at h
     have:=B5 hb
     exact ⟨by omega,by rw[if_pos this];exact h⟩
   | false =>
     rw[hb,cond_false] at h
     have hn:=Je hb
     have:=sY r (j-n) v h
     exact ⟨by omega,by rw[if_neg hn];exact this.2⟩
def GS:List ah→Nat→Nat→Nat→Tr AV
 | [],_,_,_=>.bad
 | .one _::r,pos,h,off=>match h with
   | 0=>.bad
   | h+1=>GS r (Nat.succ pos) h off
 | .arr k z n::r,pos,h,off=>cond (Nat.blt h n) (.req (gq off 1 pos n) (.ok (.int k (z (ur off pos))))) (GS r (Nat.add pos n) (Nat.sub h n) off)
theorem xX:∀ (l:List ah) (pos h off:Nat) (v:AV),(GS l pos h off).run=some v→pos≤off∧off-pos<az l∧getM l (off-pos)=v
 | [],_,_,_,_,h=>(Tr.ae h).elim
 | .one _::r,pos,0,off,v,h=>(Tr.ae h).elim
 | .one u::r,pos,h'+1,off,v,h=>by
   obtain ⟨h1,h2,h3⟩:=xX r (pos+1) h' off v h
   refine ⟨by omega,by simp only[az,aQ];omega,?_⟩
   rw[show off-pos=(off-(pos+1))+1 by omega]
   exact h3
 | .arr k z n::r,pos,h',off,v,h=>by
   simp only[GS] at h
   cases hb:Nat.blt h' n with
   | true =>
     rw[hb,cond_true] at h
     obtain ⟨hc,h⟩:=Tr.aR h
     rw[g5,decide_eq_true_eq] at hc
     have h:=Tr.ab h
     refine ⟨hc.1,by simp only[az,aQ];omega,?_⟩
     simp only[getM]
     rw[if_pos (by omega),← h,lK]
   | false =>
     rw[hb,cond_false] at h
     obtain ⟨h1,h2,h3⟩:=xX r (pos+n) (h'-n) off v h
     refine ⟨by omega,by simp only[az,aQ];omega,?_⟩
     simp only[getM]
     rw[if_neg (by omega),← h3]
     congr 1;omega
def CY (r:Row) (off:Nat) (h:Option Nat):Tr AV :=
 match r with
 | .F f n=>.req (cr off n) (.ok (f off))
 | .M l=>match l with
   | [.arr k z n]=>.req (cr off n) (.ok (.int k (z off)))
   | l=>match h with
     | none=>wh (rf l off)
     | some h=>GS l 0 h off
 | .I k l=>match h with
   | none=>wh (jM (.I k l) off)
   | some _=>.req (cr off (KO l)) (.ok (.int k (ay l off)))
 | .G l=>match h with
   | none=>wh (jM (.G l) off)
   | some _=>.bad
theorem Ag {r:Row} {off:Nat} {v:AV} (h:jM r off=some v):off<r.len∧r.get off=v:=by
 rw[tY] at h
 split at h
 · rename_i h0;exact ⟨h0,Option.some.inj h⟩
 · simp at h
theorem Ab {r:Row} {off:Nat} {h:Option Nat} {v:AV} (hr:(CY r off h).run=some v):off<r.len∧r.get off=v:=by
 unfold CY at hr
 split at hr
 · obtain ⟨hc,hr⟩:=Tr.aR hr
   rw[gG,decide_eq_true_eq] at hc
   exact ⟨hc,Tr.ab hr⟩
 · rename_i l
   split at hr
   · rename_i k z n
     obtain ⟨hc,hr⟩:=Tr.aR hr
     rw[gG,decide_eq_true_eq] at hc
     refine ⟨by simp only[Row.len,az,aQ];omega,?_⟩
     simp only[Row.get,getM]
     rw[if_pos hc];exact Tr.ab hr
   · split at hr
     · rw[cZ] at hr;exact sY _ _ _ hr
     · have:=xX _ _ _ _ _ hr
       rw[Nat.sub_zero] at this
       exact this.2
 · split at hr
   · rw[cZ] at hr;exact Ag hr
   · obtain ⟨hc,hr⟩:=Tr.aR hr
     rw[gG,decide_eq_true_eq,H8] at hc
     refine ⟨hc,?_⟩
     rw[← Tr.ab hr,CC];rfl
 · split at hr
   · rw[cZ] at hr;exact Ag hr
   · exact (Tr.ae hr).elim
def Eb (off:Nat) (h:Option Nat) (j:Nat):Nat :=
 match h with
 | none=>Nat.add off j
 | some _=>match j with
   | 0=>off
   | j+1=>bO off (Nat.succ j)
theorem sd (off:Nat) (h:Option Nat) (j:Nat):Eb off h j=off+j:=by
 unfold Eb
 split
 · rfl
 · split
   · rfl
   · rw[bH]
def yY (h:Option Nat) (j:Nat):Option Nat :=
 match h with
 | none=>none
 | some h=>some (Nat.add h j)
def CZ (r:Row) (off:Nat) (h:Option Nat):Nat→Nat→Tr (List AV)
 | _,0=>.ok []
 | j,n+1=>(CY r (Eb off h j) (yY h j)).bind fun v=>(CZ r off h (Nat.succ j) n).bind fun l=>.ok (v::l)
theorem Ac {r:Row} {off:Nat} {h:Option Nat}:∀ (n j:Nat) (l:List AV),(CZ r off h j n).run=some l→l=dw r.get (off+j) n∧(n=0∨off+j+n≤r.len)
 | 0,j,l,hr=>⟨(Tr.ab hr).symm,.inl rfl⟩
 | n+1,j,l,hr=>by
   simp only[CZ] at hr
   obtain ⟨v,h1,hr⟩:=Tr.bind_some hr
   obtain ⟨m,h2,hr⟩:=Tr.bind_some hr
   have hr:=Tr.ab hr
   obtain ⟨k1,k2⟩:=Ab h1
   obtain ⟨k3,k4⟩:=Ac n (j+1) m h2
   rw[sd] at k1 k2
   refine ⟨?_,.inr (by omega)⟩
   rw[← hr,dw,k2,k3,show off+(j+1)=off+j+1 by omega]
def GR:List ah→Nat→Nat→Nat→Nat→Tr AV
 | [],_,_,_,_=>.bad
 | .one _::r,pos,h,off,n=>match h with
   | 0=>.bad
   | h+1=>GR r (Nat.succ pos) h off n
 | .arr k z m::r,pos,h,off,n=>cond (Nat.blt h m) (.req (gq off n pos m) (.ok (.agg (.M [.arr k (dD z (ur off pos)) n])))) (GR r (Nat.add pos m) (Nat.sub h m) off n)
theorem xW:∀ (l:List ah) (pos h off n:Nat) (v:AV),0<n→(GR l pos h off n).run=some v→pos≤off∧off-pos+n≤az l∧∃ k z,lJ l (off-pos) n=some (k,z)∧v=.agg (.M [.arr k z n])
 | [],_,_,_,_,_,_,h=>(Tr.ae h).elim
 | .one _::r,pos,0,off,n,v,_,h=>(Tr.ae h).elim
 | .one u::r,pos,h'+1,off,n,v,hn,h=>by
   obtain ⟨h1,h2,k,z,h3,h4⟩:=xW r (pos+1) h' off n v hn h
   refine ⟨by omega,by simp only[az,aQ];omega,k,z,?_,h4⟩
   rw[show off-pos=(off-(pos+1))+1 by omega]
   exact h3
 | .arr k z m::r,pos,h',off,n,v,hn,h=>by
   simp only[GR] at h
   cases hb:Nat.blt h' m with
   | true =>
     rw[hb,cond_true] at h
     obtain ⟨hc,h⟩:=Tr.aR h
     rw[g5,decide_eq_true_eq] at hc
     have h:=Tr.ab h
     refine ⟨hc.1,by simp only[az,aQ];omega,k,fun j=>z (off-pos+j),?_,?_⟩
     · simp only[lJ];rw[if_pos (by omega)]
     · rw[← h,mQ,lK]
   | false =>
     rw[hb,cond_false] at h
     obtain ⟨h1,h2,k',z',h3,h4⟩:=xW r (pos+m) (h'-m) off n v hn h
     refine ⟨by omega,by simp only[az,aQ];omega,k',z',?_,h4⟩
     simp only[lJ]
     rw[if_neg (by omega),if_pos (by omega),← h3]
     congr 1;omega
def GQ:List ah→Nat→Nat→Option Row
 | [],_,_=>none
 | .one _::r,o+1,n=>GQ r o n
 | .one _::_,0,_=>none
 | .arr k z m::r,o,n=>cond (Nat.ble (Nat.add o n) m) (some (.M [.arr k (cond (Nat.beq o 0) z (dD z o)) n])) (cond (Nat.ble m o) (GQ r (Nat.sub o m) n) none)
theorem xV:∀ (l:List ah) (o n:Nat) (q:Row),GQ l o n=some q→∃ k z,lJ l o n=some (k,z)∧q=.M [.arr k z n]
 | [],_,_,_,h=>by cases h
 | .one u::r,o+1,n,q,h=>xV r o n q h
 | .one _::_,0,_,_,h=>by cases h
 | .arr k z m::r,o,n,q,h=>by
   simp only[GQ] at h
   cases hb:Nat.ble (Nat.add o n) m with
   | true =>
     rw[hb,cond_true] at h
     have hle:o+n≤m:=Nat.le_of_ble_eq_true hb
     simp only[Option.some.injEq] at h
     refine ⟨k,fun j=>z (o+j),by simp only[lJ];rw[if_pos hle],?_⟩
     rw[← h]
     cases ho:Nat.beq o 0 with
     | true =>
       have:=Nat.eq_of_beq_eq_true ho
       subst this
       simp only[cond_true,Nat.zero_add]
     | false=>rw[cond_false,mQ]
   | false =>
     rw[hb,cond_false] at h
     cases hm:Nat.ble m o with
     | true =>
       rw[hm,cond_true] at h
       have hle:m≤o:=Nat.le_of_ble_eq_true hm
       have hnl:¬ (o+n≤m):=fun hc=>by
        have:Nat.ble (Nat.add o n) m=true:=by rw[Nat.ble_eq];exact hc
        rw[hb] at this;cases this
       obtain ⟨k',z',h1,h2⟩:=xV r (o-m) n q h
       exact ⟨k',z',by simp only[lJ];rw[if_neg hnl,if_pos hle];exact h1,h2⟩
     | false=>rw[hm,cond_false] at h;cases h
def Ad (P:Program) (t:TypeId) (r:Row) (off:Nat) (h:Option Nat):Tr AV :=
 match fB P t with
 | some false=>CY r off h
 | some true=>match bk P t with
   | some 0=>.bad
   | some (n+1)=>match r with
     | .M l=>cond (Nat.ble (Nat.succ n) 8) ((CZ (.M l) off h 0 (Nat.succ n)).bind fun vs=>.ok (.agg (Row.ofList vs)))
       (match h with
       | none=>cond (Nat.ble (Nat.add off (Nat.succ n)) (az l)) (cond (Nat.beq (az l) (Nat.succ n)) (.ok (.agg ((Row.M l).cut off (Nat.succ n)))) (match GQ l off (Nat.succ n) with
         | some q=>.ok (.agg q)
         | none=>.ok (.agg ((Row.M l).cut off (Nat.succ n))))) .bad
       | some h=>cond (Nat.beq (az l) (Nat.succ n)) .bad (GR l 0 h off (Nat.succ n)))
     | .F f m=>.req (gM (bO off (Nat.succ n)) m) (.ok (.agg ((Row.F f m).cut off (Nat.succ n))))
     | .I k l=>match h with
       | none=>wh (qI P t (.I k l) off)
       | some _=>.bad
     | .G l=>match h with
       | none=>wh (qI P t (.G l) off)
       | some _=>.bad
   | none=>.bad
 | none=>.bad
theorem tW       {P : Program} {t:TypeId} {r:Row} {off:Nat} {h:Option Nat} {v:AV} (hr:(Ad P t r off h).run=some v):iL P t r off=some v:=by
 unfold Ad at hr
 split at hr
 · rename_i ha
   obtain ⟨h1,h2⟩:=Ab hr
   unfold iL
   rw[ha]
   dsimp only
   rw[if_pos h1,h2]
 · rename_i ha
   split at hr
   · exact (Tr.ae hr).elim
   · rename_i n hs
     split at hr
     · rename_i l
       unfold iL
       rw[ha,hs]
       dsimp only
       cases hb:Nat.ble (Nat.succ n) 8 with
       | true =>
         rw[hb,cond_true] at hr
         obtain ⟨vs,h1,hr⟩:=Tr.bind_some hr
         have hr:=Tr.ab hr
         obtain ⟨k1,k2⟩:=Ac _ _ _ h1
         rw[if_pos (by omega),← hr,k1]
         simp only[Row.cut]
         rw[show Nat.ble (n+1) 8=true from hb,if_pos rfl,Nat.add_zero]
         rfl
       | false =>
         rw[hb,cond_false] at hr
         split at hr
         · cases hc : Nat.ble (Nat.add off (Nat.succ n)) (az l) with
           | true =>
             rw[hc,cond_true] at hr
             rw[Nat.ble_eq] at hc
             rw[if_pos (show off+(n+1)≤(Row.M l).len from hc)]
             cases hq:Nat.beq (az l) (Nat.succ n) with
             | true=>rw[hq,cond_true] at hr;rw[← Tr.ab hr]
             | false =>
               rw[hq,cond_false] at hr
               split at hr
               · rename_i q hseg
                 obtain ⟨k,z,h3,h4⟩:=xV _ _ _ _ hseg
                 simp only[Row.cut]
                 rw[show Nat.ble (n+1) 8=false from hb,if_neg (by simp),show Nat.beq (az l) (n+1)=false from hq,Bool.and_false,if_neg (by simp)]
                 have : Row.sub (.M l) off (n+1)=.M [.arr k z (n+1)]:=by
                  match l,h3,hq with
                  | [],h3,_=>simp[lJ] at h3
                  | [.arr k' z' m],h3,hq =>
                    simp only[lJ] at h3
                    split at h3
                    · simp only[nP] at h3
                      obtain ⟨rfl,rfl⟩:=h3
                      rfl
                    · split at h3<;>simp at h3
                  | .one u::r,h3,hq =>
                    simp only[Row.sub]
                    rw[show Nat.beq (az (.one u::r)) (n+1)=false from hq,Bool.and_false,h3]
                    rfl
                  | .arr k' z' m::s::r,h3,hq =>
                    simp only[Row.sub]
                    rw[show Nat.beq (az (.arr k' z' m::s::r)) (n+1)=false from hq,Bool.and_false,h3]
                    rfl
                 rw[this,← Tr.ab hr,h4]
               · rw[← Tr.ab hr]
           | false=>rw[hc,cond_false] at hr;exact (Tr.ae hr).elim
         · rename_i h
           cases hc:Nat.beq (az l) (Nat.succ n) with
           | true=>rw[hc,cond_true] at hr;exact (Tr.ae hr).elim
           | false =>
             rw[hc,cond_false] at hr
             obtain ⟨h1,h2,k,z,h3,h4⟩:=xW _ _ _ _ _ _ (Nat.succ_pos n) hr
             rw[Nat.sub_zero] at h2 h3
             rw[if_pos (show off+(n+1)≤(Row.M l).len from h2)]
             simp only[Row.cut]
             rw[show Nat.ble (n+1) 8=false from hb,if_neg (by simp),show Nat.beq (az l) (n+1)=false from hc,Bool.and_false,if_neg (by simp)]
             have : Row.sub (.M l) off (n+1)=.M [.arr k z (n+1)]:=by
              match l,h3,hc with
              | [],h3,_=>simp[lJ] at h3
              | [.arr k' z' m],h3,hc =>
                simp only[lJ] at h3
                split at h3
                · simp only[nP] at h3
                  obtain ⟨rfl,rfl⟩:=h3
                  rfl
                · split at h3<;>simp at h3
              | .one u::r,h3,hc =>
                simp only[Row.sub]
                rw[show Nat.beq (az (.one u::r)) (n+1)=false from hc,Bool.and_false,h3]
                rfl
              | .arr k' z' m::s::r,h3,hc =>
                simp only[Row.sub]
                rw[show Nat.beq (az (.arr k' z' m::s::r)) (n+1)=false from hc,Bool.and_false,h3]
                rfl
             rw[this,h4]
     · rename_i f m
       obtain ⟨hc,hr⟩:=Tr.aR hr
       rw[lr,decide_eq_true_eq,bH] at hc
       unfold iL
       rw[ha,hs]
       dsimp only
       rw[if_pos (show off+(n+1)≤(Row.F f m).len from hc),← Tr.ab hr]
     · split at hr
       · rw[cZ,qJ] at hr;exact hr
       · exact (Tr.ae hr).elim
     · split at hr
       · rw[cZ,qJ] at hr;exact hr
       · exact (Tr.ae hr).elim
   · exact (Tr.ae hr).elim
 · exact (Tr.ae hr).elim

def xT (H:aa) (d i v:Nat) (h:Option Nat):Tr Row :=
 match h with
 | none=>wh (yW H d i v)
 | some _=>match eW H d i with
   | (ver,.row r)=>.req (b9 ver v) (.ok r)
   | _=>.bad
theorem lH {H:aa} {d i v:Nat} {h:Option Nat} {r:Row} (hr:(xT H d i v h).run=some r):dH H d i v=some r:=by
 unfold xT at hr
 split at hr
 · rw[cZ,s4] at hr;exact hr
 · rw[iw] at hr
   split at hr
   · rename_i ver q hg
     obtain ⟨hc,hr2⟩:=Tr.aR hr
     rw[gy,decide_eq_true_eq] at hc
     subst hc
     unfold dH
     rw[hg]
     simp only[Nat.beq_refl,if_true]
     rw[Tr.ab hr2]
   · exact (Tr.ae hr).elim
def loadT (P:Program) (H:aa) (t:TypeId) (a:HV):Tr AV :=
 match a.1 with
 | .ptr d i v off=>(xT H d i v a.2).bind fun r=>(Ad P t r off a.2).bind fun x=>.ok (fM d x)
 | .ptrT s r off=>(Ad P t r off a.2).bind fun x=>.ok (Rt s x)
 | _=>.bad
theorem zt {P:Program} {H:aa} {t:TypeId} {a:HV} {v:AV} (hr:(loadT P H t a).run=some v):mD P H t a.1=some v:=by
 unfold loadT at hr
 unfold mD
 split at hr
 · rename_i d i ver off ha
   obtain ⟨r,h1,hr⟩:=Tr.bind_some hr
   obtain ⟨x,h2,hr⟩:=Tr.bind_some hr
   rw[ha]
   dsimp only
   rw[lH h1]
   dsimp only
   rw[tW h2,← Tr.ab hr];rfl
 · rename_i s r off ha
   obtain ⟨x,h2,hr⟩:=Tr.bind_some hr
   rw[ha]
   dsimp only
   rw[tW h2,← Tr.ab hr];rfl
 · exact (Tr.ae hr).elim

def rK:List ah→Nat→AV→Option (List ah)
 | [],_,_=>none
 | .one u::r,j,v=>match j with
   | 0=>some (.one v::r)
   | j+1=>match rK r j v with
     | some r'=>some (.one u::r')
     | none=>none
 | .arr k z n::r,j,v=>cond (Nat.blt j n) (match v with
    | .int k' x=>cond (gQ k' k) (some (.arr k (fX z j x) n::r)) none
    | _=>none)
   (match rK r (Nat.sub j n) v with
     | some r'=>some (.arr k z n::r')
     | none=>none)
theorem uh:∀ (l:List ah) (j:Nat) (v:AV) (l':List ah),rK l j v=some l'→j<az l∧jZ l j v=l'
 | [],_,_,_,h=>by simp[rK] at h
 | .one u::r,0,v,l',h=>by
   simp only[rK,Option.some.injEq] at h
   exact ⟨by simp only[az,aQ];omega,h⟩
 | .one u::r,j+1,v,l',h=>by
   simp only[rK] at h
   split at h
   · rename_i r' hr
     have:=uh r j v r' hr
     simp only[Option.some.injEq] at h
     exact ⟨by simp only[az,aQ];omega,by simp only[jZ];rw[this.2];exact h⟩
   · simp at h
 | .arr k z n::r,j,v,l',h=>by
   simp only[rK] at h
   cases hb:Nat.blt j n with
   | true =>
     rw[hb,cond_true] at h
     have hj:=B5 hb
     split at h
     · rename_i k' x
       rw[kx] at h
       split at h
       · rename_i hk
         simp only[Option.some.injEq] at h
         refine ⟨by simp only[az,aQ];omega,?_⟩
         simp only[jZ]
         rw[if_pos hj,if_pos hk,← h,ig]
       · simp at h
     · simp at h
   | false =>
     rw[hb,cond_false] at h
     have hj:=Je hb
     split at h
     · rename_i r' hr
       have:=uh r (j-n) v r' hr
       simp only[Option.some.injEq] at h
       exact ⟨by simp only[az,aQ];omega,by simp only[jZ];rw[if_neg hj,this.2];exact h⟩
     · simp at h
def Er:List ah→Nat→Nat→Nat→AV→Tr (List ah)
 | [],_,_,_,_=>.bad
 | .one u::r,pos,h,off,v=>match h with
   | 0=>.bad
   | h+1=>(Er r (Nat.succ pos) h off v).bind fun r'=>.ok (.one u::r')
 | .arr k z n::r,pos,h,off,v=>cond (Nat.blt h n) (match v with
    | .int k' x=>cond (gQ k' k) (.req (gq off 1 pos n) (.ok (.arr k (fX z (ur off pos) x) n::r))) .bad
    | _=>.bad)
   ((Er r (Nat.add pos n) (Nat.sub h n) off v).bind fun r'=>.ok (.arr k z n::r'))
theorem xY:∀ (l:List ah) (pos h off:Nat) (v:AV) (l':List ah),(Er l pos h off v).run=some l'→pos≤off∧off-pos<az l∧jZ l (off-pos) v=l'
 | [],_,_,_,_,_,h=>(Tr.ae h).elim
 | .one _::r,pos,0,off,v,l',h=>(Tr.ae h).elim
 | .one u::r,pos,h'+1,off,v,l',h=>by
   simp only[Er] at h
   obtain ⟨r',hr,h⟩:=Tr.bind_some h
   obtain ⟨h1,h2,h3⟩:=xY r (pos+1) h' off v r' hr
   refine ⟨by omega,by simp only[az,aQ];omega,?_⟩
   rw[show off-pos=(off-(pos+1))+1 by omega,← Tr.ab h,← h3]
   rfl
 | .arr k z n::r,pos,h',off,v,l',h=>by
   simp only[Er] at h
   cases hb:Nat.blt h' n with
   | true =>
     rw[hb,cond_true] at h
     split at h
     · rename_i k' x
       rw[kx] at h
       split at h
       · rename_i hk
         obtain ⟨hc,h⟩:=Tr.aR h
         rw[g5,decide_eq_true_eq] at hc
         refine ⟨hc.1,by simp only[az,aQ];omega,?_⟩
         simp only[jZ]
         rw[if_pos (by omega),if_pos hk,← Tr.ab h,ig,lK]
       · exact (Tr.ae h).elim
     · exact (Tr.ae h).elim
   | false =>
     rw[hb,cond_false] at h
     obtain ⟨r',hr,h⟩:=Tr.bind_some h
     obtain ⟨h1,h2,h3⟩:=xY r (pos+n) (h'-n) off v r' hr
     refine ⟨by omega,by simp only[az,aQ];omega,?_⟩
     simp only[jZ]
     rw[if_neg (by omega),← Tr.ab h,← h3,show off-pos-n=off-(pos+n) by omega]
def Lk (l:List ah) (off:Nat) (h:Option Nat) (v:AV):Tr (List ah) :=
 match l with
 | [.arr k z n]=>match v with
   | .int k' x=>cond (gQ k' k) (.req (cr off n) (.ok [.arr k (fX z off x) n])) .bad
   | _=>.bad
 | l=>match h with
   | none=>wh (rK l off v)
   | some h=>Er l 0 h off v
theorem IQ {l l':List ah} {off:Nat} {h:Option Nat} {v:AV} (hr:(Lk l off h v).run=some l'):off<az l∧jZ l off v=l':=by
 unfold Lk at hr
 split at hr
 · rename_i k z n
   split at hr
   · rename_i k' x
     rw[kx] at hr
     split at hr
     · rename_i hk
       obtain ⟨hc,hr⟩:=Tr.aR hr
       rw[gG,decide_eq_true_eq] at hc
       refine ⟨by simp only[az,aQ];omega,?_⟩
       simp only[jZ]
       rw[if_pos hc,if_pos hk,← Tr.ab hr,ig]
     · exact (Tr.ae hr).elim
   · exact (Tr.ae hr).elim
 · split at hr
   · rw[cZ] at hr;exact uh _ _ _ _ hr
   · have:=xY _ _ _ _ _ _ hr
     rw[Nat.sub_zero] at this
     exact this.2
def An (off:Nat) (h:Option Nat):List AV→Nat→List ah→Tr (List ah)
 | [],_,l=>.ok l
 | v::vs,j,l=>(Lk l (Eb off h j) (yY h j) v).bind fun l'=>An off h vs (Nat.succ j) l'
theorem ug {off:Nat} {h:Option Nat}:∀ (vs:List AV) (j:Nat) (l l':List ah),(An off h vs j l).run=some l'→(vs=[]∨off+j+vs.length≤az l)∧Row.cH (.M l) (off+j) vs=.M l'
 | [],j,l,l',h=>⟨.inl rfl,by rw[Tr.ab h];rfl⟩
 | v :: vs,j,l,l',h=>by
   simp only[An] at h
   obtain ⟨l1,h1,h⟩:=Tr.bind_some h
   obtain ⟨k1,k2⟩:=IQ h1
   rw[sd] at k1 k2
   obtain ⟨k3,k4⟩:=ug vs (j+1) l1 l' h
   have hl:az l1=az l:=by rw[← k2,m6]
   refine ⟨.inr ?_,?_⟩
   · rcases k3 with rfl | k3
     · simp only[List.length_cons,List.length_nil];omega
     · simp only[List.length_cons];omega
   · simp only[Row.cH,Row.set,k2]
     exact k4
def GC (l:List ah) (off:Nat) (h:Option Nat) (q:Row):Tr Row :=
 match l,q with
 | [.arr k z m],.M [.arr k' z' n]=>cond (gQ k' k) (.req (gq off n 0 m) (.ok (.M [.arr k (eG z off z' n) m]))) .bad
 | l,q=>cond (Nat.ble 9 (iM q)) (match h with
    | none=>cond (Nat.ble (Nat.add off (iM q)) (az l)) (.ok (xL l off q)) .bad
    | some _=>.bad)
   (match lO q with
     | []=>.bad
     | v::vs=>(An off h (v::vs) 0 l).bind fun l'=>.ok (.M l'))
theorem xM {l:List ah} {off:Nat} {h:Option Nat} {q r:Row} (hr:(GC l off h q).run=some r):off+q.len≤az l∧jX (.M l) off q=r:=by
 unfold GC at hr
 split at hr
 · rename_i k z m k' z' n
   rw[kx] at hr
   split at hr
   · rename_i hk
     obtain ⟨hc,hr⟩:=Tr.aR hr
     rw[g5,decide_eq_true_eq] at hc
     refine ⟨by simp only[Row.len,az,aQ];omega,?_⟩
     simp only[jX]
     rw[if_pos hk,← Tr.ab hr,HG]
   · exact (Tr.ae hr).elim
 · rename_i hne
   have hA:jX (.M l) off q=xL l off q:=by
    simp only[jX]
    split
    · rename_i k z m
      split
      · rename_i k' z' n
        exact (hne _ _ _ _ _ _ rfl rfl).elim
      · rfl
    · rfl
   rw[hA]
   rw[fH] at hr
   cases hb:Nat.ble 9 q.len with
   | true =>
     rw[hb,cond_true] at hr
     split at hr
     · cases hc:Nat.ble (Nat.add off q.len) (az l) with
       | true =>
         rw[hc,cond_true] at hr
         rw[Nat.ble_eq] at hc
         exact ⟨hc,Tr.ab hr⟩
       | false=>rw[hc,cond_false] at hr;exact (Tr.ae hr).elim
     · exact (Tr.ae hr).elim
   | false =>
     rw[hb,cond_false,oz] at hr
     have hl:=Row.bh q
     split at hr
     · exact (Tr.ae hr).elim
     · rename_i v vs hq
       obtain ⟨l1,h1,hr⟩:=Tr.bind_some hr
       obtain ⟨k1,k2⟩:=ug _ _ _ _ h1
       rw[hq] at hl
       refine ⟨?_,?_⟩
       · rcases k1 with k1 | k1
         · simp at k1
         · omega
       · unfold xL
         rw[hb,if_neg (by simp),hq,← Tr.ab hr,← k2];rfl
def K5 (d:Nat) (x:AV):Bool :=
 match d with
 | 0=>false
 | _+1=>match x with
   | .slc 0 _ _ _ _ _ _=>true
   | _=>false
def storeT (P:Program) (H:aa) (t:TypeId) (a:HV) (x:AV):Tr Delta :=
 match a.1 with
 | .ptr d i v off=>cond (K5 d x) (match a.2 with | none=>wh (pM P H t a.1 x) | some _=>.bad)
   (cond (fQ H d) .bad ((xT H d i v a.2).bind fun r=>match bk P t with
     | some n=>match x.row with
       | some q=>cond (Nat.beq (iM q) n) (match r with
         | .M l=>(GC l off a.2 (kI d q)).bind fun r'=>.ok (.set d i (v,.row r'))
         | _=>match a.2 with | none=>wh (pM P H t a.1 x) | some _=>.bad) .bad
       | none=>.bad
     | none=>.bad))
 | _=>.bad
theorem Ey {P:Program} {H:aa} {t:TypeId} {a:HV} {x:AV} {δ:Delta} (hr:(storeT P H t a x).run=some δ):gJ P H t a.1 x=some δ:=by
 unfold storeT at hr
 split at hr
 · rename_i d i v off ha
   cases ho:K5 d x with
   | true =>
     rw[ho,cond_true] at hr
     split at hr
     · rw[cZ,ow] at hr;exact hr
     · exact (Tr.ae hr).elim
   | false =>
     rw[ho,cond_false,eC] at hr
     cases hl:aw H d with
     | true=>rw[hl,cond_true] at hr;exact (Tr.ae hr).elim
     | false =>
       rw[hl,cond_false] at hr
       obtain ⟨r,h1,hr⟩:=Tr.bind_some hr
       split at hr
       · rename_i n hs
         split at hr
         · rename_i q hq
           rw[fH] at hr
           cases hb:Nat.beq q.len n with
           | false=>rw[hb,cond_false] at hr;exact (Tr.ae hr).elim
           | true =>
             rw[hb,cond_true] at hr
             have hb:q.len=n:=by simpa using hb
             split at hr
             · rename_i l
               obtain ⟨r',h2,hr⟩:=Tr.bind_some hr
               obtain ⟨k1,k2⟩:=xM h2
               rw[fI] at k1
               rw[ha]
               unfold gJ
               dsimp only
               rw[hl,if_neg (by simp),lH h1,hs,hq]
               dsimp only
               rw[if_pos ⟨hb,by show off+n≤az l;omega⟩]
               have:∀ (d':Nat) (j w o sz len:Nat) (cap:Option Nat),d=d'+1→x≠.slc 0 j w o sz len cap:=by
                rintro d' j w o sz len cap rfl rfl
                simp[K5] at ho
               rw[← Tr.ab hr,← k2]
               split
               · exact absurd rfl (this _ _ _ _ _ _ _ rfl)
               · rfl
             · split at hr
               · rw[cZ,ow] at hr;exact hr
               · exact (Tr.ae hr).elim
         · exact (Tr.ae hr).elim
       · exact (Tr.ae hr).elim
 · exact (Tr.ae hr).elim

def hOr (h:Option Nat) (off:Nat):Nat :=
 match h with
 | none=>off
 | some h=>h
def nT (P:Program) (t:TypeId) (a:HV) (f:Nat):Tr HV :=
 match P.underlying t with
 | some (.struct fs)=>match fs[f]? with
   | some g=>match bk P g.type with
     | some (_+1)=>match a.1 with
       | .ptr d i v off=>.ok (.ptr d i v (Eb off a.2 g.offset),yY a.2 g.offset)
       | .ptrT s r off=>.ok (.ptrT s r (Eb off a.2 g.offset),yY a.2 g.offset)
       | _=>.bad
     | _=>.bad
   | none=>.bad
 | _=>.bad
theorem uQ {P:Program} {t:TypeId} {a b:HV} {f:Nat} (hr:(nT P t a f).run=some b):gU P t a.1 f=some b.1:=by
 unfold nT at hr
 unfold gU
 split at hr
 · rename_i fs hu
   rw[hu]
   dsimp only
   split at hr
   · rename_i g hg
     rw[hg]
     dsimp only
     split at hr
     · rename_i n hs
       rw[hs]
       dsimp only
       split at hr
       · rename_i d i v off ha
         rw[ha,← Tr.ab hr];simp only[kN,sd]
       · rename_i s r off ha
         rw[ha,← Tr.ab hr];simp only[kN,sd]
       · exact (Tr.ae hr).elim
     · exact (Tr.ae hr).elim
   · exact (Tr.ae hr).elim
 · exact (Tr.ae hr).elim
def isLit (x:HV):Bool :=
 match x.2 with
 | some _=>true
 | none=>false
def Gt (off:Nat) (ic:Bool) (i:Int) (z:Nat):Nat:=cond ic (Nat.add off (Nat.mul i.toNat z)) (au off i z)
theorem sc (off:Nat) (ic:Bool) (i:Int) (z:Nat):Gt off ic i z=off+i.toNat*z:=by
 cases ic with
 | true=>rfl
 | false=>exact ln _ _ _
def Cm (h:Option Nat) (off:Nat) (ic:Bool) (i:Int) (z:Nat):Option Nat :=
 cond ic (yY h (Nat.mul i.toNat z)) (some (hOr h off))
def KB (P:Program) (t:TypeId) (a:HV) (ic:Bool) (i:Int):Tr HV :=
 match P.underlying t with
 | some (.array n e)=>match bk P e with
   | some z=>match a.1 with
     | .ptr d j v off=>.req (cE i n) (.ok (.ptr d j v (Gt off ic i z),Cm a.2 off ic i z))
     | .ptrT s r off=>.req (cE i n) (.ok (.ptrT s r (Gt off ic i z),Cm a.2 off ic i z))
     | _=>.bad
   | none=>.bad
 | some (.slice e)=>match bk P e with
   | some z=>match a.1 with
     | .slc d j v off sz len cap=>cond (Nat.beq z sz) (.req (cE i len) (.ok (.ptr d j v (Gt off ic i z),match cap with
       | some _=>Cm none off ic i z
       | none=>some off))) .bad
     | .slcT s r sz len _=>cond (Nat.beq z sz) (.req (cE i len) (.ok (.ptrT s r (Gt 0 ic i z),Cm none 0 ic i z))) .bad
     | _=>.bad
   | none=>.bad
 | _=>.bad
def Pd (P:Program) (t:TypeId) (x:AV) (ic:Bool) (i:Int):Tr AV :=
 cond ic (wh (qq P t x i)) (match P.underlying t with
  | some (.array n e)=>match x with
    | .agg r=>match bk P e with
      | some z=>.req (cE i n) (Ad P e r (au 0 i z) (some 0))
      | none=>.bad
    | _=>.bad
  | _=>.bad)
theorem KH {P:Program} {t:TypeId} {x v:AV} {ic:Bool} {i:Int} (hr:(Pd P t x ic i).run=some v):qq P t x i=some v:=by
 unfold Pd at hr
 cases ic with
 | true=>rw[cond_true,cZ] at hr;exact hr
 | false =>
   rw[cond_false] at hr
   split at hr
   · rename_i n e hu
     split at hr
     · split at hr
       · rename_i z hs
         obtain ⟨hc,hr⟩:=Tr.aR hr
         rw[qp,decide_eq_true_eq] at hc
         have h:=tW hr
         rw[ln,Nat.zero_add] at h
         unfold qq
         rw[hu]
         dsimp only
         rw[hs]
         dsimp only
         rw[if_pos hc,h]
       · exact (Tr.ae hr).elim
     · exact (Tr.ae hr).elim
   · exact (Tr.ae hr).elim
theorem HY {P:Program} {t:TypeId} {a b:HV} {ic:Bool} {i:Int} (hr:(KB P t a ic i).run=some b):fS P t a.1 i=some b.1:=by
 unfold KB at hr
 unfold fS
 split at hr
 · rename_i n e hu
   split at hr
   · rename_i z hs
     split at hr
     · rename_i d j v off ha
       obtain ⟨hc,hr⟩:=Tr.aR hr
       rw[qp,decide_eq_true_eq] at hc
       rw[hu,ha]
       dsimp only
       rw[hs]
       dsimp only
       rw[if_pos hc,← Tr.ab hr]
       simp only[kN,sc]
     · rename_i s r off ha
       obtain ⟨hc,hr⟩:=Tr.aR hr
       rw[qp,decide_eq_true_eq] at hc
       rw[hu,ha]
       dsimp only
       rw[hs]
       dsimp only
       rw[if_pos hc,← Tr.ab hr]
       simp only[kN,sc]
     · exact (Tr.ae hr).elim
   · exact (Tr.ae hr).elim
 · rename_i e hu
   split at hr
   · rename_i z hs
     split at hr
     · rename_i d j v off sz len cap ha
       cases hb:Nat.beq z sz with
       | false=>rw[hb,cond_false] at hr;exact (Tr.ae hr).elim
       | true =>
         rw[hb,cond_true] at hr
         have hb:z=sz:=by simpa using hb
         subst hb
         obtain ⟨hc,hr⟩:=Tr.aR hr
         rw[qp,decide_eq_true_eq] at hc
         rw[hu,ha]
         dsimp only
         rw[if_pos ⟨hc.1,hc.2,hs⟩,← Tr.ab hr]
         simp only[sc]
     · rename_i s r sz len full ha
       cases hb:Nat.beq z sz with
       | false=>rw[hb,cond_false] at hr;exact (Tr.ae hr).elim
       | true =>
         rw[hb,cond_true] at hr
         have hb:z=sz:=by simpa using hb
         subst hb
         obtain ⟨hc,hr⟩:=Tr.aR hr
         rw[qp,decide_eq_true_eq] at hc
         rw[hu,ha]
         dsimp only
         rw[if_pos ⟨hc.1,hc.2,hs⟩,← Tr.ab hr]
         simp only[sc,Nat.zero_add]
     · exact (Tr.ae hr).elim
   · exact (Tr.ae hr).elim
 · exact (Tr.ae hr).elim

end
end Go.Eng
