/- The engine as a tree: frames with hints, rows, loads, stores, addresses. -/
import Derived.Test.YtoomemfhcbajoaaV7EngOrax2
set_option linter.unusedVariables false
set_option linter.unusedSimpArgs false
namespace Go.Eng
noncomputable section

abbrev HV:=AV×Option Nat
abbrev aN:=List (Nat×HV)
def strip (f:aN):ao:=List.rec (motive:=fun _=>ao) [] (fun p _ ih=>(p.1,p.2.1)::ih) f
theorem c6 (x:Nat) (v:HV) (r:aN):strip ((x,v)::r)=(x,v.1)::strip r:=rfl
def lK (f:aN) (y:Nat):HV:=List.rec (motive:=fun _=>HV) (AV.undef,none) (fun p _ ih=>Bool.rec ih p.2 (Nat.beq p.1 y)) f
theorem fv:∀ (f:aN) (y:Nat),(lK f y).1=br (strip f) y
 | [],y=>rfl
 | (x,v)::r,y=>by
   have e:lK ((x,v)::r) y=Bool.rec (lK r y) v (Nat.beq x y):=rfl
   rw[e,c6,br]
   cases Nat.beq x y with
   | true=>rfl
   | false=>exact fv r y
def yD (f:aN) (y:Nat) (u:HV):aN:=List.rec (motive:=fun _=>aN) [(y,u)] (fun p r ih=>Bool.rec (motive:=fun _=>aN) (p::ih) (Bool.rec (motive:=fun _=>aN) ((y,u)::p::r) ((y,u)::r) (Nat.beq p.1 y)) (Nat.ble y p.1)) f
theorem yE:∀ (f:aN) (y:Nat) (u:HV),strip (yD f y u)=uy (strip f) y u.1
 | [],y,u=>rfl
 | (x,v)::r,y,u=>by
   have e:yD ((x,v)::r) y u=Bool.rec (motive:=fun _=>aN) ((x,v)::yD r y u) (Bool.rec (motive:=fun _=>aN) ((y,u)::(x,v)::r) ((y,u)::r) (Nat.beq x y)) (Nat.ble y x):=rfl
   rw[e,c6,uy,← yE r y u]
   cases Nat.ble y x with
   | false=>rfl
   | true=>cases Nat.beq x y<;>rfl
def gN (f:aN) (m:Nat):aN:=List.rec (motive:=fun _=>aN) [] (fun p _ ih=>Bool.rec (motive:=fun _=>aN) (p::ih) ih (Nat.beq (Nat.land (Nat.shiftRight m p.1) 1) 1)) f
theorem eX:∀ (f:aN) (m:Nat),strip (gN f m)=bL (strip f) m
 | [],m=>rfl
 | (x,v)::r,m=>by
   have e:gN ((x,v)::r) m=Bool.rec (motive:=fun _=>aN) ((x,v)::gN r m) (gN r m) (Nat.beq (Nat.land (Nat.shiftRight m x) 1) 1):=rfl
   have e2:bL ((x,v.1)::strip r) m=Bool.rec (motive:=fun _=>ao) ((x,v.1)::bL (strip r) m) (bL (strip r) m) (Nat.beq (Nat.land (Nat.shiftRight m x) 1) 1):=rfl
   rw[e,c6,e2,← eX r m]
   cases Nat.beq (Nat.land (Nat.shiftRight m x) 1) 1<;>rfl
def O8 (v:Value):Option Nat :=
 match v with
 | .int _ _=>some 1
 | .bool _=>some 1
 | _=>none
def bW (fr:aN) (x:Operand):HV:=Operand.rec (motive:=fun _=>HV) (fun t=>lK fr t) (fun v=>(kO v,O8 v)) (fun _=>(.undef,none)) (fun f=>(.fn (.func f) [] [],none)) x
theorem aS (fr:aN) (x:Operand):(bW fr x).1=bI (strip fr) x:=by
 cases x with
 | tmp t=>exact fv fr t
 | _=>rfl
def zx (fr:aN) (l:List Operand):List AV:=n5 (fun x=>(bW fr x).1) l
theorem tz (fr:aN):∀ l,zx fr l=jP (strip fr) l
 | []=>rfl
 | x::l=>by
   have e:zx fr (x::l)=(bW fr x).1::zx fr l:=rfl
   rw[e,tz fr l,aS];rfl
def ri (nt:Nat) (fr:aN) (dst:Option Tmp) (v:HV):aN:=Option.rec (motive:=fun _=>aN) fr (fun d=>Bool.rec (motive:=fun _=>aN) fr (yD fr d v) (Nat.ble (Nat.succ d) nt)) dst
theorem mC (nt:Nat) (fr:aN) (dst:Option Tmp) (v:HV):strip (ri nt fr dst v)=dy nt (strip fr) dst v.1:=by
 rw[← py]
 cases dst with
 | none=>rfl
 | some d =>
   have e:ri nt fr (some d) v=Bool.rec (motive:=fun _=>aN) fr (yD fr d v) (Nat.ble (Nat.succ d) nt):=rfl
   have e2:rj nt (strip fr) (some d) v.1=Bool.rec (motive:=fun _=>ao) (strip fr) (vr (strip fr) d v.1) (Nat.ble (Nat.succ d) nt):=rfl
   rw[e,e2,ym,← yE]
   cases Nat.ble (Nat.succ d) nt<;>rfl

def qT:List ah→Nat→Option AV
 | [],_=>none
 | .one v::r,j=>match j with
   | 0=>some v
   | j+1=>qT r j
 | .arr k z n::r,j=>cond (Nat.blt j n) (some (.int k (z j))) (qT r (Nat.sub j n))
theorem BI {a b:Nat} (h:Nat.blt a b=true):a<b:=by rwa [Nat.blt_eq] at h
theorem IH {a b:Nat} (h:Nat.blt a b=false):¬ a<b:=fun e=>by
 have:Nat.blt a b=true:=by rw[Nat.blt_eq];exact e
 rw[h] at this;cases this
theorem sM:∀ (l:List ah) (j:Nat) (v:AV),qT l j=some v→j<ay l∧getM l j=v
 | [],_,_,h=>by simp[qT] at h
 | .one u::r,0,v,h=>by
   simp only[qT,Option.some.injEq] at h
   exact ⟨by simp only[ay,aO];omega,h⟩
 | .one u::r,j+1,v,h=>by
   have:=sM r j v (by simpa[qT] using h)
   exact ⟨by simp only[ay,aO];omega,this.2⟩
 | .arr k z n::r,j,v,h=>by
   simp only[qT] at h
   simp only[ay,aO,getM]
   cases hb:Nat.blt j n with
   | true =>
     rw[hb,cond_true,Option.some.injEq] at h
     have:=BI hb
     exact ⟨by omega,by rw[if_pos this];exact h⟩
   | false =>
     rw[hb,cond_false] at h
     have hn:=IH hb
     have:=sM r (j-n) v h
     exact ⟨by omega,by rw[if_neg hn];exact this.2⟩
def Gl:List ah→Nat→Nat→Nat→Tr AV
 | [],_,_,_=>.bad
 | .one _::r,pos,h,off=>match h with
   | 0=>.bad
   | h+1=>Gl r (Nat.succ pos) h off
 | .arr k z n::r,pos,h,off=>cond (Nat.blt h n) (.req (gF off 1 pos n) (.ok (.int k (z (tZ off pos))))) (Gl r (Nat.add pos n) (Nat.sub h n) off)
theorem xI:∀ (l:List ah) (pos h off:Nat) (v:AV),(Gl l pos h off).run=some v→pos≤off∧off-pos<ay l∧getM l (off-pos)=v
 | [],_,_,_,_,h=>(Tr.ae h).elim
 | .one _::r,pos,0,off,v,h=>(Tr.ae h).elim
 | .one u::r,pos,h'+1,off,v,h=>by
   obtain ⟨h1,h2,h3⟩:=xI r (pos+1) h' off v h
   refine ⟨by omega,by simp only[ay,aO];omega,?_⟩
   rw[show off-pos=(off-(pos+1))+1 by omega]
   exact h3
 | .arr k z n::r,pos,h',off,v,h=>by
   simp only[Gl] at h
   cases hb:Nat.blt h' n with
   | true =>
     rw[hb,cond_true] at h
     obtain ⟨hc,h⟩:=Tr.aP h
     rw[gQ,decide_eq_true_eq] at hc
     have h:=Tr.ab h
     refine ⟨hc.1,by simp only[ay,aO];omega,?_⟩
     simp only[getM]
     rw[if_pos (by omega),← h,lA]
   | false =>
     rw[hb,cond_false] at h
     obtain ⟨h1,h2,h3⟩:=xI r (pos+n) (h'-n) off v h
     refine ⟨by omega,by simp only[ay,aO];omega,?_⟩
     simp only[getM]
     rw[if_neg (by omega),← h3]
     congr 1;omega
def CG (r:Row) (off:Nat) (h:Option Nat):Tr AV :=
 match r with
 | .F f n=>.req (cw off n) (.ok (f off))
 | .M l=>match l with
   | [.arr k z n]=>.req (cw off n) (.ok (.int k (z off)))
   | l=>match h with
     | none=>vU (qT l off)
     | some h=>Gl l 0 h off
 | .I k l=>match h with
   | none=>vU (jH (.I k l) off)
   | some _=>.req (cw off (Kd l)) (.ok (.int k (aA l off)))
 | .G l=>match h with
   | none=>vU (jH (.G l) off)
   | some _=>.bad
theorem zS {r:Row} {off:Nat} {v:AV} (h:jH r off=some v):off<r.len∧r.get off=v:=by
 rw[tI] at h
 split at h
 · rename_i h0;exact ⟨h0,Option.some.inj h⟩
 · simp at h
theorem zM {r:Row} {off:Nat} {h:Option Nat} {v:AV} (hr:(CG r off h).run=some v):off<r.len∧r.get off=v:=by
 unfold CG at hr
 split at hr
 · obtain ⟨hc,hr⟩:=Tr.aP hr
   rw[gw,decide_eq_true_eq] at hc
   exact ⟨hc,Tr.ab hr⟩
 · rename_i l
   split at hr
   · rename_i k z n
     obtain ⟨hc,hr⟩:=Tr.aP hr
     rw[gw,decide_eq_true_eq] at hc
     refine ⟨by simp only[Row.len,ay,aO];omega,?_⟩
     simp only[Row.get,getM]
     rw[if_pos hc];exact Tr.ab hr
   · split at hr
     · rw[cU] at hr;exact sM _ _ _ hr
     · have:=xI _ _ _ _ _ hr
       rw[Nat.sub_zero] at this
       exact this.2
 · split at hr
   · rw[cU] at hr;exact zS hr
   · obtain ⟨hc,hr⟩:=Tr.aP hr
     rw[gw,decide_eq_true_eq,Hu] at hc
     refine ⟨hc,?_⟩
     rw[← Tr.ab hr,Cj];rfl
 · split at hr
   · rw[cU] at hr;exact zS hr
   · exact (Tr.ae hr).elim
def DQ (off:Nat) (h:Option Nat) (j:Nat):Nat :=
 match h with
 | none=>Nat.add off j
 | some _=>match j with
   | 0=>off
   | j+1=>b9 off (Nat.succ j)
theorem rZ (off:Nat) (h:Option Nat) (j:Nat):DQ off h j=off+j:=by
 unfold DQ
 split
 · rfl
 · split
   · rfl
   · rw[bJ]
def yH (h:Option Nat) (j:Nat):Option Nat :=
 match h with
 | none=>none
 | some h=>some (Nat.add h j)
def CH (r:Row) (off:Nat) (h:Option Nat):Nat→Nat→Tr (List AV)
 | _,0=>.ok []
 | j,n+1=>(CG r (DQ off h j) (yH h j)).bind fun v=>(CH r off h (Nat.succ j) n).bind fun l=>.ok (v::l)
theorem zN {r:Row} {off:Nat} {h:Option Nat}:∀ (n j:Nat) (l:List AV),(CH r off h j n).run=some l→l=dq r.get (off+j) n∧(n=0∨off+j+n≤r.len)
 | 0,j,l,hr=>⟨(Tr.ab hr).symm,.inl rfl⟩
 | n+1,j,l,hr=>by
   simp only[CH] at hr
   obtain ⟨v,h1,hr⟩:=Tr.bind_some hr
   obtain ⟨m,h2,hr⟩:=Tr.bind_some hr
   have hr:=Tr.ab hr
   obtain ⟨k1,k2⟩:=zM h1
   obtain ⟨k3,k4⟩:=zN n (j+1) m h2
   rw[rZ] at k1 k2
   refine ⟨?_,.inr (by omega)⟩
   rw[← hr,dq,k2,k3,show off+(j+1)=off+j+1 by omega]
def Gk:List ah→Nat→Nat→Nat→Nat→Tr AV
 | [],_,_,_,_=>.bad
 | .one _::r,pos,h,off,n=>match h with
   | 0=>.bad
   | h+1=>Gk r (Nat.succ pos) h off n
 | .arr k z m::r,pos,h,off,n=>cond (Nat.blt h m) (.req (gF off n pos m) (.ok (.agg (.M [.arr k (dW z (tZ off pos)) n])))) (Gk r (Nat.add pos m) (Nat.sub h m) off n)
theorem xH:∀ (l:List ah) (pos h off n:Nat) (v:AV),0<n→(Gk l pos h off n).run=some v→pos≤off∧off-pos+n≤ay l∧∃ k z,lz l (off-pos) n=some (k,z)∧v=.agg (.M [.arr k z n])
 | [],_,_,_,_,_,_,h=>(Tr.ae h).elim
 | .one _::r,pos,0,off,n,v,_,h=>(Tr.ae h).elim
 | .one u::r,pos,h'+1,off,n,v,hn,h=>by
   obtain ⟨h1,h2,k,z,h3,h4⟩:=xH r (pos+1) h' off n v hn h
   refine ⟨by omega,by simp only[ay,aO];omega,k,z,?_,h4⟩
   rw[show off-pos=(off-(pos+1))+1 by omega]
   exact h3
 | .arr k z m::r,pos,h',off,n,v,hn,h=>by
   simp only[Gk] at h
   cases hb:Nat.blt h' m with
   | true =>
     rw[hb,cond_true] at h
     obtain ⟨hc,h⟩:=Tr.aP h
     rw[gQ,decide_eq_true_eq] at hc
     have h:=Tr.ab h
     refine ⟨hc.1,by simp only[ay,aO];omega,k,fun j=>z (off-pos+j),?_,?_⟩
     · simp only[lz];rw[if_pos (by omega)]
     · rw[← h,mI,lA]
   | false =>
     rw[hb,cond_false] at h
     obtain ⟨h1,h2,k',z',h3,h4⟩:=xH r (pos+m) (h'-m) off n v hn h
     refine ⟨by omega,by simp only[ay,aO];omega,k',z',?_,h4⟩
     simp only[lz]
     rw[if_neg (by omega),if_pos (by omega),← h3]
     congr 1;omega
def Gj:List ah→Nat→Nat→Option Row
 | [],_,_=>none
 | .one _::r,o+1,n=>Gj r o n
 | .one _::_,0,_=>none
 | .arr k z m::r,o,n=>cond (Nat.ble (Nat.add o n) m) (some (.M [.arr k (cond (Nat.beq o 0) z (dW z o)) n])) (cond (Nat.ble m o) (Gj r (Nat.sub o m) n) none)
theorem xG:∀ (l:List ah) (o n:Nat) (q:Row),Gj l o n=some q→∃ k z,lz l o n=some (k,z)∧q=.M [.arr k z n]
 | [],_,_,_,h=>by cases h
 | .one u::r,o+1,n,q,h=>xG r o n q h
 | .one _::_,0,_,_,h=>by cases h
 | .arr k z m::r,o,n,q,h=>by
   simp only[Gj] at h
   cases hb:Nat.ble (Nat.add o n) m with
   | true =>
     rw[hb,cond_true] at h
     have hle:o+n≤m:=Nat.le_of_ble_eq_true hb
     simp only[Option.some.injEq] at h
     refine ⟨k,fun j=>z (o+j),by simp only[lz];rw[if_pos hle],?_⟩
     rw[← h]
     cases ho:Nat.beq o 0 with
     | true =>
       have:=Nat.eq_of_beq_eq_true ho
       subst this
       simp only[cond_true,Nat.zero_add]
     | false=>rw[cond_false,mI]
   | false =>
     rw[hb,cond_false] at h
     cases hm:Nat.ble m o with
     | true =>
       rw[hm,cond_true] at h
       have hle:m≤o:=Nat.le_of_ble_eq_true hm
       have hnl:¬ (o+n≤m):=fun hc=>by
        have:Nat.ble (Nat.add o n) m=true:=by rw[Nat.ble_eq];exact hc
        rw[hb] at this;cases this
       obtain ⟨k',z',h1,h2⟩:=xG r (o-m) n q h
       exact ⟨k',z',by simp only[lz];rw[if_neg hnl,if_pos hle];exact h1,h2⟩
     | false=>rw[hm,cond_false] at h;cases h
def zO (P:Program) (t:TypeId) (r:Row) (off:Nat) (h:Option Nat):Tr AV :=
 match fq P t with
 | some false=>CG r off h
 | some true=>match bk P t with
   | some 0=>.bad
   | some (n+1)=>match r with
     | .M l=>cond (Nat.ble (Nat.succ n) 8) ((CH (.M l) off h 0 (Nat.succ n)).bind fun vs=>.ok (.agg (Row.ofList vs)))
       (match h with
       | none=>cond (Nat.ble (Nat.add off (Nat.succ n)) (ay l)) (cond (Nat.beq (ay l) (Nat.succ n)) (.ok (.agg ((Row.M l).cut off (Nat.succ n)))) (match Gj l off (Nat.succ n) with
         | some q=>.ok (.agg q)
         | none=>.ok (.agg ((Row.M l).cut off (Nat.succ n))))) .bad
       | some h=>cond (Nat.beq (ay l) (Nat.succ n)) .bad (Gk l 0 h off (Nat.succ n)))
     | .F f m=>.req (iO (b9 off (Nat.succ n)) m) (.ok (.agg ((Row.F f m).cut off (Nat.succ n))))
     | .I k l=>match h with
       | none=>vU (qy P t (.I k l) off)
       | some _=>.bad
     | .G l=>match h with
       | none=>vU (qy P t (.G l) off)
       | some _=>.bad
   | none=>.bad
 | none=>.bad
theorem tH       {P : Program} {t:TypeId} {r:Row} {off:Nat} {h:Option Nat} {v:AV} (hr:(zO P t r off h).run=some v):iI P t r off=some v:=by
 unfold zO at hr
 split at hr
 · rename_i ha
   obtain ⟨h1,h2⟩:=zM hr
   unfold iI
   rw[ha]
   dsimp only
   rw[if_pos h1,h2]
 · rename_i ha
   split at hr
   · exact (Tr.ae hr).elim
   · rename_i n hs
     split at hr
     · rename_i l
       unfold iI
       rw[ha,hs]
       dsimp only
       cases hb:Nat.ble (Nat.succ n) 8 with
       | true =>
         rw[hb,cond_true] at hr
         obtain ⟨vs,h1,hr⟩:=Tr.bind_some hr
         have hr:=Tr.ab hr
         obtain ⟨k1,k2⟩:=zN _ _ _ h1
         rw[if_pos (by omega),← hr,k1]
         simp only[Row.cut]
         rw[show Nat.ble (n+1) 8=true from hb,if_pos rfl,Nat.add_zero]
         rfl
       | false =>
         rw[hb,cond_false] at hr
         split at hr
         · cases hc : Nat.ble (Nat.add off (Nat.succ n)) (ay l) with
           | true =>
             rw[hc,cond_true] at hr
             rw[Nat.ble_eq] at hc
             rw[if_pos (show off+(n+1)≤(Row.M l).len from hc)]
             cases hq:Nat.beq (ay l) (Nat.succ n) with
             | true=>rw[hq,cond_true] at hr;rw[← Tr.ab hr]
             | false =>
               rw[hq,cond_false] at hr
               split at hr
               · rename_i q hseg
                 obtain ⟨k,z,h3,h4⟩:=xG _ _ _ _ hseg
                 simp only[Row.cut]
                 rw[show Nat.ble (n+1) 8=false from hb,if_neg (by simp),show Nat.beq (ay l) (n+1)=false from hq,Bool.and_false,if_neg (by simp)]
                 have : Row.sub (.M l) off (n+1)=.M [.arr k z (n+1)]:=by
                  match l,h3,hq with
                  | [],h3,_=>simp[lz] at h3
                  | [.arr k' z' m],h3,hq =>
                    simp only[lz] at h3
                    split at h3
                    · simp only[nP] at h3
                      obtain ⟨rfl,rfl⟩:=h3
                      rfl
                    · split at h3<;>simp at h3
                  | .one u::r,h3,hq =>
                    simp only[Row.sub]
                    rw[show Nat.beq (ay (.one u::r)) (n+1)=false from hq,Bool.and_false,h3]
                    rfl
                  | .arr k' z' m::s::r,h3,hq =>
                    simp only[Row.sub]
                    rw[show Nat.beq (ay (.arr k' z' m::s::r)) (n+1)=false from hq,Bool.and_false,h3]
                    rfl
                 rw[this,← Tr.ab hr,h4]
               · rw[← Tr.ab hr]
           | false=>rw[hc,cond_false] at hr;exact (Tr.ae hr).elim
         · rename_i h
           cases hc:Nat.beq (ay l) (Nat.succ n) with
           | true=>rw[hc,cond_true] at hr;exact (Tr.ae hr).elim
           | false =>
             rw[hc,cond_false] at hr
             obtain ⟨h1,h2,k,z,h3,h4⟩:=xH _ _ _ _ _ _ (Nat.succ_pos n) hr
             rw[Nat.sub_zero] at h2 h3
             rw[if_pos (show off+(n+1)≤(Row.M l).len from h2)]
             simp only[Row.cut]
             rw[show Nat.ble (n+1) 8=false from hb,if_neg (by simp),show Nat.beq (ay l) (n+1)=false from hc,Bool.and_false,if_neg (by simp)]
             have : Row.sub (.M l) off (n+1)=.M [.arr k z (n+1)]:=by
              match l,h3,hc with
              | [],h3,_=>simp[lz] at h3
              | [.arr k' z' m],h3,hc =>
                simp only[lz] at h3
                split at h3
                · simp only[nP] at h3
                  obtain ⟨rfl,rfl⟩:=h3
                  rfl
                · split at h3<;>simp at h3
              | .one u::r,h3,hc =>
                simp only[Row.sub]
                rw[show Nat.beq (ay (.one u::r)) (n+1)=false from hc,Bool.and_false,h3]
                rfl
              | .arr k' z' m::s::r,h3,hc =>
                simp only[Row.sub]
                rw[show Nat.beq (ay (.arr k' z' m::s::r)) (n+1)=false from hc,Bool.and_false,h3]
                rfl
             rw[this,h4]
     · rename_i f m
       obtain ⟨hc,hr⟩:=Tr.aP hr
       rw[ld,decide_eq_true_eq,bJ] at hc
       unfold iI
       rw[ha,hs]
       dsimp only
       rw[if_pos (show off+(n+1)≤(Row.F f m).len from hc),← Tr.ab hr]
     · split at hr
       · rw[cU,qz] at hr;exact hr
       · exact (Tr.ae hr).elim
     · split at hr
       · rw[cU,qz] at hr;exact hr
       · exact (Tr.ae hr).elim
   · exact (Tr.ae hr).elim
 · exact (Tr.ae hr).elim

def xE (H:aa) (d i v:Nat) (h:Option Nat):Tr Row :=
 match h with
 | none=>vU (yF H d i v)
 | some _=>match eQ H d i with
   | (ver,.row r)=>.req (cL ver v) (.ok r)
   | _=>.bad
theorem lx {H:aa} {d i v:Nat} {h:Option Nat} {r:Row} (hr:(xE H d i v h).run=some r):dI H d i v=some r:=by
 unfold xE at hr
 split at hr
 · rw[cU,sO] at hr;exact hr
 · rw[ij] at hr
   split at hr
   · rename_i ver q hg
     obtain ⟨hc,hr2⟩:=Tr.aP hr
     rw[gm,decide_eq_true_eq] at hc
     subst hc
     unfold dI
     rw[hg]
     simp only[Nat.beq_refl,if_true]
     rw[Tr.ab hr2]
   · exact (Tr.ae hr).elim
def loadT (P:Program) (H:aa) (t:TypeId) (a:HV):Tr AV :=
 match a.1 with
 | .ptr d i v off=>(xE H d i v a.2).bind fun r=>(zO P t r off a.2).bind fun x=>.ok (fE d x)
 | .ptrT s r off=>(zO P t r off a.2).bind fun x=>.ok (Qj s x)
 | _=>.bad
theorem za {P:Program} {H:aa} {t:TypeId} {a:HV} {v:AV} (hr:(loadT P H t a).run=some v):ml P H t a.1=some v:=by
 unfold loadT at hr
 unfold ml
 split at hr
 · rename_i d i ver off ha
   obtain ⟨r,h1,hr⟩:=Tr.bind_some hr
   obtain ⟨x,h2,hr⟩:=Tr.bind_some hr
   rw[ha]
   dsimp only
   rw[lx h1]
   dsimp only
   rw[tH h2,← Tr.ab hr];rfl
 · rename_i s r off ha
   obtain ⟨x,h2,hr⟩:=Tr.bind_some hr
   rw[ha]
   dsimp only
   rw[tH h2,← Tr.ab hr];rfl
 · exact (Tr.ae hr).elim

def rv:List ah→Nat→AV→Option (List ah)
 | [],_,_=>none
 | .one u::r,j,v=>match j with
   | 0=>some (.one v::r)
   | j+1=>match rv r j v with
     | some r'=>some (.one u::r')
     | none=>none
 | .arr k z n::r,j,v=>cond (Nat.blt j n) (match v with
    | .int k' x=>cond (gG k' k) (some (.arr k (fO z j x) n::r)) none
    | _=>none)
   (match rv r (Nat.sub j n) v with
     | some r'=>some (.arr k z n::r')
     | none=>none)
theorem tS:∀ (l:List ah) (j:Nat) (v:AV) (l':List ah),rv l j v=some l'→j<ay l∧jS l j v=l'
 | [],_,_,_,h=>by simp[rv] at h
 | .one u::r,0,v,l',h=>by
   simp only[rv,Option.some.injEq] at h
   exact ⟨by simp only[ay,aO];omega,h⟩
 | .one u::r,j+1,v,l',h=>by
   simp only[rv] at h
   split at h
   · rename_i r' hr
     have:=tS r j v r' hr
     simp only[Option.some.injEq] at h
     exact ⟨by simp only[ay,aO];omega,by simp only[jS];rw[this.2];exact h⟩
   · simp at h
 | .arr k z n::r,j,v,l',h=>by
   simp only[rv] at h
   cases hb:Nat.blt j n with
   | true =>
     rw[hb,cond_true] at h
     have hj:=BI hb
     split at h
     · rename_i k' x
       rw[kh] at h
       split at h
       · rename_i hk
         simp only[Option.some.injEq] at h
         refine ⟨by simp only[ay,aO];omega,?_⟩
         simp only[jS]
         rw[if_pos hj,if_pos hk,← h,hJ]
       · simp at h
     · simp at h
   | false =>
     rw[hb,cond_false] at h
     have hj:=IH hb
     split at h
     · rename_i r' hr
       have:=tS r (j-n) v r' hr
       simp only[Option.some.injEq] at h
       exact ⟨by simp only[ay,aO];omega,by simp only[jS];rw[if_neg hj,this.2];exact h⟩
     · simp at h
def D5:List ah→Nat→Nat→Nat→AV→Tr (List ah)
 | [],_,_,_,_=>.bad
 | .one u::r,pos,h,off,v=>match h with
   | 0=>.bad
   | h+1=>(D5 r (Nat.succ pos) h off v).bind fun r'=>.ok (.one u::r')
 | .arr k z n::r,pos,h,off,v=>cond (Nat.blt h n) (match v with
    | .int k' x=>cond (gG k' k) (.req (gF off 1 pos n) (.ok (.arr k (fO z (tZ off pos) x) n::r))) .bad
    | _=>.bad)
   ((D5 r (Nat.add pos n) (Nat.sub h n) off v).bind fun r'=>.ok (.arr k z n::r'))
theorem xJ:∀ (l:List ah) (pos h off:Nat) (v:AV) (l':List ah),(D5 l pos h off v).run=some l'→pos≤off∧off-pos<ay l∧jS l (off-pos) v=l'
 | [],_,_,_,_,_,h=>(Tr.ae h).elim
 | .one _::r,pos,0,off,v,l',h=>(Tr.ae h).elim
 | .one u::r,pos,h'+1,off,v,l',h=>by
   simp only[D5] at h
   obtain ⟨r',hr,h⟩:=Tr.bind_some h
   obtain ⟨h1,h2,h3⟩:=xJ r (pos+1) h' off v r' hr
   refine ⟨by omega,by simp only[ay,aO];omega,?_⟩
   rw[show off-pos=(off-(pos+1))+1 by omega,← Tr.ab h,← h3]
   rfl
 | .arr k z n::r,pos,h',off,v,l',h=>by
   simp only[D5] at h
   cases hb:Nat.blt h' n with
   | true =>
     rw[hb,cond_true] at h
     split at h
     · rename_i k' x
       rw[kh] at h
       split at h
       · rename_i hk
         obtain ⟨hc,h⟩:=Tr.aP h
         rw[gQ,decide_eq_true_eq] at hc
         refine ⟨hc.1,by simp only[ay,aO];omega,?_⟩
         simp only[jS]
         rw[if_pos (by omega),if_pos hk,← Tr.ab h,hJ,lA]
       · exact (Tr.ae h).elim
     · exact (Tr.ae h).elim
   | false =>
     rw[hb,cond_false] at h
     obtain ⟨r',hr,h⟩:=Tr.bind_some h
     obtain ⟨h1,h2,h3⟩:=xJ r (pos+n) (h'-n) off v r' hr
     refine ⟨by omega,by simp only[ay,aO];omega,?_⟩
     simp only[jS]
     rw[if_neg (by omega),← Tr.ab h,← h3,show off-pos-n=off-(pos+n) by omega]
def KI (l:List ah) (off:Nat) (h:Option Nat) (v:AV):Tr (List ah) :=
 match l with
 | [.arr k z n]=>match v with
   | .int k' x=>cond (gG k' k) (.req (cw off n) (.ok [.arr k (fO z off x) n])) .bad
   | _=>.bad
 | l=>match h with
   | none=>vU (rv l off v)
   | some h=>D5 l 0 h off v
theorem Ij {l l':List ah} {off:Nat} {h:Option Nat} {v:AV} (hr:(KI l off h v).run=some l'):off<ay l∧jS l off v=l':=by
 unfold KI at hr
 split at hr
 · rename_i k z n
   split at hr
   · rename_i k' x
     rw[kh] at hr
     split at hr
     · rename_i hk
       obtain ⟨hc,hr⟩:=Tr.aP hr
       rw[gw,decide_eq_true_eq] at hc
       refine ⟨by simp only[ay,aO];omega,?_⟩
       simp only[jS]
       rw[if_pos hc,if_pos hk,← Tr.ab hr,hJ]
     · exact (Tr.ae hr).elim
   · exact (Tr.ae hr).elim
 · split at hr
   · rw[cU] at hr;exact tS _ _ _ _ hr
   · have:=xJ _ _ _ _ _ _ hr
     rw[Nat.sub_zero] at this
     exact this.2
def zZ (off:Nat) (h:Option Nat):List AV→Nat→List ah→Tr (List ah)
 | [],_,l=>.ok l
 | v::vs,j,l=>(KI l (DQ off h j) (yH h j) v).bind fun l'=>zZ off h vs (Nat.succ j) l'
theorem tR {off:Nat} {h:Option Nat}:∀ (vs:List AV) (j:Nat) (l l':List ah),(zZ off h vs j l).run=some l'→(vs=[]∨off+j+vs.length≤ay l)∧Row.cD (.M l) (off+j) vs=.M l'
 | [],j,l,l',h=>⟨.inl rfl,by rw[Tr.ab h];rfl⟩
 | v :: vs,j,l,l',h=>by
   simp only[zZ] at h
   obtain ⟨l1,h1,h⟩:=Tr.bind_some h
   obtain ⟨k1,k2⟩:=Ij h1
   rw[rZ] at k1 k2
   obtain ⟨k3,k4⟩:=tR vs (j+1) l1 l' h
   have hl:ay l1=ay l:=by rw[← k2,mW]
   refine ⟨.inr ?_,?_⟩
   · rcases k3 with rfl | k3
     · simp only[List.length_cons,List.length_nil];omega
     · simp only[List.length_cons];omega
   · simp only[Row.cD,Row.set,k2]
     exact k4
def F6 (l:List ah) (off:Nat) (h:Option Nat) (q:Row):Tr Row :=
 match l,q with
 | [.arr k z m],.M [.arr k' z' n]=>cond (gG k' k) (.req (gF off n 0 m) (.ok (.M [.arr k (eC z off z' n) m]))) .bad
 | l,q=>cond (Nat.ble 9 (iJ q)) (match h with
    | none=>cond (Nat.ble (Nat.add off (iJ q)) (ay l)) (.ok (xx l off q)) .bad
    | some _=>.bad)
   (match lD q with
     | []=>.bad
     | v::vs=>(zZ off h (v::vs) 0 l).bind fun l'=>.ok (.M l'))
theorem xy {l:List ah} {off:Nat} {h:Option Nat} {q r:Row} (hr:(F6 l off h q).run=some r):off+q.len≤ay l∧jQ (.M l) off q=r:=by
 unfold F6 at hr
 split at hr
 · rename_i k z m k' z' n
   rw[kh] at hr
   split at hr
   · rename_i hk
     obtain ⟨hc,hr⟩:=Tr.aP hr
     rw[gQ,decide_eq_true_eq] at hc
     refine ⟨by simp only[Row.len,ay,aO];omega,?_⟩
     simp only[jQ]
     rw[if_pos hk,← Tr.ab hr,G6]
   · exact (Tr.ae hr).elim
 · rename_i hne
   have hA:jQ (.M l) off q=xx l off q:=by
    simp only[jQ]
    split
    · rename_i k z m
      split
      · rename_i k' z' n
        exact (hne _ _ _ _ _ _ rfl rfl).elim
      · rfl
    · rfl
   rw[hA]
   rw[fz] at hr
   cases hb:Nat.ble 9 q.len with
   | true =>
     rw[hb,cond_true] at hr
     split at hr
     · cases hc:Nat.ble (Nat.add off q.len) (ay l) with
       | true =>
         rw[hc,cond_true] at hr
         rw[Nat.ble_eq] at hc
         exact ⟨hc,Tr.ab hr⟩
       | false=>rw[hc,cond_false] at hr;exact (Tr.ae hr).elim
     · exact (Tr.ae hr).elim
   | false =>
     rw[hb,cond_false,om] at hr
     have hl:=Row.bj q
     split at hr
     · exact (Tr.ae hr).elim
     · rename_i v vs hq
       obtain ⟨l1,h1,hr⟩:=Tr.bind_some hr
       obtain ⟨k1,k2⟩:=tR _ _ _ _ h1
       rw[hq] at hl
       refine ⟨?_,?_⟩
       · rcases k1 with k1 | k1
         · simp at k1
         · omega
       · unfold xx
         rw[hb,if_neg (by simp),hq,← Tr.ab hr,← k2];rfl
def Ks (d:Nat) (x:AV):Bool :=
 match d with
 | 0=>false
 | _+1=>match x with
   | .slc 0 _ _ _ _ _ _=>true
   | _=>false
def storeT (P:Program) (H:aa) (t:TypeId) (a:HV) (x:AV):Tr Delta :=
 match a.1 with
 | .ptr d i v off=>cond (Ks d x) (match a.2 with | none=>vU (pD P H t a.1 x) | some _=>.bad)
   (cond (fH H d) .bad ((xE H d i v a.2).bind fun r=>match bk P t with
     | some n=>match x.row with
       | some q=>cond (Nat.beq (iJ q) n) (match r with
         | .M l=>(F6 l off a.2 (lI d q)).bind fun r'=>.ok (.set d i (v,.row r'))
         | _=>match a.2 with | none=>vU (pD P H t a.1 x) | some _=>.bad) .bad
       | none=>.bad
     | none=>.bad))
 | _=>.bad
theorem Eb {P:Program} {H:aa} {t:TypeId} {a:HV} {x:AV} {δ:Delta} (hr:(storeT P H t a x).run=some δ):gz P H t a.1 x=some δ:=by
 unfold storeT at hr
 split at hr
 · rename_i d i v off ha
   cases ho:Ks d x with
   | true =>
     rw[ho,cond_true] at hr
     split at hr
     · rw[cU,oj] at hr;exact hr
     · exact (Tr.ae hr).elim
   | false =>
     rw[ho,cond_false,ep] at hr
     cases hl:av H d with
     | true=>rw[hl,cond_true] at hr;exact (Tr.ae hr).elim
     | false =>
       rw[hl,cond_false] at hr
       obtain ⟨r,h1,hr⟩:=Tr.bind_some hr
       split at hr
       · rename_i n hs
         split at hr
         · rename_i q hq
           rw[fz] at hr
           cases hb:Nat.beq q.len n with
           | false=>rw[hb,cond_false] at hr;exact (Tr.ae hr).elim
           | true =>
             rw[hb,cond_true] at hr
             have hb:q.len=n:=by simpa using hb
             split at hr
             · rename_i l
               obtain ⟨r',h2,hr⟩:=Tr.bind_some hr
               obtain ⟨k1,k2⟩:=xy h2
               rw[fA] at k1
               rw[ha]
               unfold gz
               dsimp only
               rw[hl,if_neg (by simp),lx h1,hs,hq]
               dsimp only
               rw[if_pos ⟨hb,by show off+n≤ay l;omega⟩]
               have:∀ (d':Nat) (j w o sz len:Nat) (cap:Option Nat),d=d'+1→x≠.slc 0 j w o sz len cap:=by
                rintro d' j w o sz len cap rfl rfl
                simp[Ks] at ho
               rw[← Tr.ab hr,← k2]
               split
               · exact absurd rfl (this _ _ _ _ _ _ _ rfl)
               · rfl
             · split at hr
               · rw[cU,oj] at hr;exact hr
               · exact (Tr.ae hr).elim
         · exact (Tr.ae hr).elim
       · exact (Tr.ae hr).elim
 · exact (Tr.ae hr).elim

def hOr (h:Option Nat) (off:Nat):Nat :=
 match h with
 | none=>off
 | some h=>h
def nK (P:Program) (t:TypeId) (a:HV) (f:Nat):Tr HV :=
 match P.underlying t with
 | some (.struct fs)=>match fs[f]? with
   | some g=>match bk P g.type with
     | some (_+1)=>match a.1 with
       | .ptr d i v off=>.ok (.ptr d i v (DQ off a.2 g.offset),yH a.2 g.offset)
       | .ptrT s r off=>.ok (.ptrT s r (DQ off a.2 g.offset),yH a.2 g.offset)
       | _=>.bad
     | _=>.bad
   | none=>.bad
 | _=>.bad
theorem uz {P:Program} {t:TypeId} {a b:HV} {f:Nat} (hr:(nK P t a f).run=some b):gM P t a.1 f=some b.1:=by
 unfold nK at hr
 unfold gM
 split at hr
 · rename_i fs hu
   rw[hu]
   dsimp only
   split at hr
   · rename_i g hg
     rw[hg]
     dsimp only
     split at hr
     · rename_i n hs
       rw[hs]
       dsimp only
       split at hr
       · rename_i d i v off ha
         rw[ha,← Tr.ab hr];simp only[kG,rZ]
       · rename_i s r off ha
         rw[ha,← Tr.ab hr];simp only[kG,rZ]
       · exact (Tr.ae hr).elim
     · exact (Tr.ae hr).elim
   · exact (Tr.ae hr).elim
 · exact (Tr.ae hr).elim
def isLit (x:HV):Bool :=
 match x.2 with
 | some _=>true
 | none=>false
def FX (off:Nat) (ic:Bool) (i:Int) (z:Nat):Nat:=cond ic (Nat.add off (Nat.mul i.toNat z)) (au off i z)
theorem rY (off:Nat) (ic:Bool) (i:Int) (z:Nat):FX off ic i z=off+i.toNat*z:=by
 cases ic with
 | true=>rfl
 | false=>exact kY _ _ _
def B4 (h:Option Nat) (off:Nat) (ic:Bool) (i:Int) (z:Nat):Option Nat :=
 cond ic (yH h (Nat.mul i.toNat z)) (some (hOr h off))
def J1 (P:Program) (t:TypeId) (a:HV) (ic:Bool) (i:Int):Tr HV :=
 match P.underlying t with
 | some (.array n e)=>match bk P e with
   | some z=>match a.1 with
     | .ptr d j v off=>.req (cN i n) (.ok (.ptr d j v (FX off ic i z),B4 a.2 off ic i z))
     | .ptrT s r off=>.req (cN i n) (.ok (.ptrT s r (FX off ic i z),B4 a.2 off ic i z))
     | _=>.bad
   | none=>.bad
 | some (.slice e)=>match bk P e with
   | some z=>match a.1 with
     | .slc d j v off sz len cap=>cond (Nat.beq z sz) (.req (cN i len) (.ok (.ptr d j v (FX off ic i z),match cap with
       | some _=>B4 none off ic i z
       | none=>some off))) .bad
     | .slcT s r sz len _=>cond (Nat.beq z sz) (.req (cN i len) (.ok (.ptrT s r (FX 0 ic i z),B4 none 0 ic i z))) .bad
     | _=>.bad
   | none=>.bad
 | _=>.bad
def Oe (P:Program) (t:TypeId) (x:AV) (ic:Bool) (i:Int):Tr AV :=
 cond ic (vU (qh P t x i)) (match P.underlying t with
  | some (.array n e)=>match x with
    | .agg r=>match bk P e with
      | some z=>.req (cN i n) (zO P e r (au 0 i z) (some 0))
      | none=>.bad
    | _=>.bad
  | _=>.bad)
theorem J7 {P:Program} {t:TypeId} {x v:AV} {ic:Bool} {i:Int} (hr:(Oe P t x ic i).run=some v):qh P t x i=some v:=by
 unfold Oe at hr
 cases ic with
 | true=>rw[cond_true,cU] at hr;exact hr
 | false =>
   rw[cond_false] at hr
   split at hr
   · rename_i n e hu
     split at hr
     · split at hr
       · rename_i z hs
         obtain ⟨hc,hr⟩:=Tr.aP hr
         rw[qg,decide_eq_true_eq] at hc
         have h:=tH hr
         rw[kY,Nat.zero_add] at h
         unfold qh
         rw[hu]
         dsimp only
         rw[hs]
         dsimp only
         rw[if_pos hc,h]
       · exact (Tr.ae hr).elim
     · exact (Tr.ae hr).elim
   · exact (Tr.ae hr).elim
theorem Hn {P:Program} {t:TypeId} {a b:HV} {ic:Bool} {i:Int} (hr:(J1 P t a ic i).run=some b):fJ P t a.1 i=some b.1:=by
 unfold J1 at hr
 unfold fJ
 split at hr
 · rename_i n e hu
   split at hr
   · rename_i z hs
     split at hr
     · rename_i d j v off ha
       obtain ⟨hc,hr⟩:=Tr.aP hr
       rw[qg,decide_eq_true_eq] at hc
       rw[hu,ha]
       dsimp only
       rw[hs]
       dsimp only
       rw[if_pos hc,← Tr.ab hr]
       simp only[kG,rY]
     · rename_i s r off ha
       obtain ⟨hc,hr⟩:=Tr.aP hr
       rw[qg,decide_eq_true_eq] at hc
       rw[hu,ha]
       dsimp only
       rw[hs]
       dsimp only
       rw[if_pos hc,← Tr.ab hr]
       simp only[kG,rY]
     · exact (Tr.ae hr).elim
   · exact (Tr.ae hr).elim
 · rename_i e hu
   split at hr
   · rename_i z hs
     split at hr
     · rename_i d j v off sz len cap ha
       cases hb:Nat.beq z sz with
       | false=>rw[hb,cond_false] at hr;exact (Tr.ae hr).elim
       | true =>
         rw[hb,cond_true] at hr
         have hb:z=sz:=by simpa using hb
         subst hb
         obtain ⟨hc,hr⟩:=Tr.aP hr
         rw[qg,decide_eq_true_eq] at hc
         rw[hu,ha]
         dsimp only
         rw[if_pos ⟨hc.1,hc.2,hs⟩,← Tr.ab hr]
         simp only[rY]
     · rename_i s r sz len full ha
       cases hb:Nat.beq z sz with
       | false=>rw[hb,cond_false] at hr;exact (Tr.ae hr).elim
       | true =>
         rw[hb,cond_true] at hr
         have hb:z=sz:=by simpa using hb
         subst hb
         obtain ⟨hc,hr⟩:=Tr.aP hr
         rw[qg,decide_eq_true_eq] at hc
         rw[hu,ha]
         dsimp only
         rw[if_pos ⟨hc.1,hc.2,hs⟩,← Tr.ab hr]
         simp only[rY,Nat.zero_add]
     · exact (Tr.ae hr).elim
   · exact (Tr.ae hr).elim
 · exact (Tr.ae hr).elim

end
end Go.Eng
