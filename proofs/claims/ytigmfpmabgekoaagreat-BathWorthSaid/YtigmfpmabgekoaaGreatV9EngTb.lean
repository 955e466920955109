/- The engine as a tree: frames with hints, rows, loads, stores, addresses. -/
import Derived.Test.YtigmfpmabgekoaaGreatV9EngOrax2
set_option linter.unusedVariables false
set_option linter.unusedSimpArgs false
namespace Go.Eng
noncomputable section

abbrev HV:=AV×Option Nat
abbrev aT:=List (Nat×HV)
def strip (f:aT):av:=List.rec (motive:=fun _=>av) [] (fun p _ ih=>(p.1,p.2.1)::ih) f
theorem dm (x:Nat) (v:HV) (r:aT):strip ((x,v)::r)=(x,v.1)::strip r:=rfl
def lU (f:aT) (y:Nat):HV:=List.rec (motive:=fun _=>HV) (AV.undef,none) (fun p _ ih=>Bool.rec ih p.2 (Nat.beq p.1 y)) f
theorem fB:∀ (f:aT) (y:Nat),(lU f y).1=bw (strip f) y
 | [],y=>rfl
 | (x,v)::r,y=>by
   have e:lU ((x,v)::r) y=Bool.rec (lU r y) v (Nat.beq x y):=rfl
   rw[e,dm,bw]
   cases Nat.beq x y with
   | true=>rfl
   | false=>exact fB r y
def yQ (f:aT) (y:Nat) (u:HV):aT:=List.rec (motive:=fun _=>aT) [(y,u)] (fun p r ih=>Bool.rec (motive:=fun _=>aT) (p::ih) (Bool.rec (motive:=fun _=>aT) ((y,u)::p::r) ((y,u)::r) (Nat.beq p.1 y)) (Nat.ble y p.1)) f
theorem yR:∀ (f:aT) (y:Nat) (u:HV),strip (yQ f y u)=uW (strip f) y u.1
 | [],y,u=>rfl
 | (x,v)::r,y,u=>by
   have e:yQ ((x,v)::r) y u=Bool.rec (motive:=fun _=>aT) ((x,v)::yQ r y u) (Bool.rec (motive:=fun _=>aT) ((y,u)::(x,v)::r) ((y,u)::r) (Nat.beq x y)) (Nat.ble y x):=rfl
   rw[e,dm,uW,← yR r y u]
   cases Nat.ble y x with
   | false=>rfl
   | true=>cases Nat.beq x y<;>rfl
def gM (f:aT) (m:Nat):aT:=List.rec (motive:=fun _=>aT) [] (fun p _ ih=>Bool.rec (motive:=fun _=>aT) (p::ih) ih (Nat.beq (Nat.land (Nat.shiftRight m p.1) 1) 1)) f
theorem fg:∀ (f:aT) (m:Nat),strip (gM f m)=bV (strip f) m
 | [],m=>rfl
 | (x,v)::r,m=>by
   have e:gM ((x,v)::r) m=Bool.rec (motive:=fun _=>aT) ((x,v)::gM r m) (gM r m) (Nat.beq (Nat.land (Nat.shiftRight m x) 1) 1):=rfl
   have e2:bV ((x,v.1)::strip r) m=Bool.rec (motive:=fun _=>av) ((x,v.1)::bV (strip r) m) (bV (strip r) m) (Nat.beq (Nat.land (Nat.shiftRight m x) 1) 1):=rfl
   rw[e,dm,e2,← fg r m]
   cases Nat.beq (Nat.land (Nat.shiftRight m x) 1) 1<;>rfl
def PQ (v:Value):Option Nat :=
 match v with
 | .int _ _=>some 1
 | .bool _=>some 1
 | _=>none
def cw (fr:aT) (x:Operand):HV:=Operand.rec (motive:=fun _=>HV) (fun t=>lU fr t) (fun v=>(la v,PQ v)) (fun _=>(.undef,none)) (fun f=>(.fn (.func f) [] [],none)) x
theorem aZ (fr:aT) (x:Operand):(cw fr x).1=bO (strip fr) x:=by
 cases x with
 | tmp t=>exact fB fr t
 | _=>rfl
def zM (fr:aT) (l:List Operand):List AV:=ot (fun x=>(cw fr x).1) l
theorem uc (fr:aT):∀ l,zM fr l=j6 (strip fr) l
 | []=>rfl
 | x::l=>by
   have e:zM fr (x::l)=(cw fr x).1::zM fr l:=rfl
   rw[e,uc fr l,aZ];rfl
def rP (nt:Nat) (fr:aT) (dst:Option Tmp) (v:HV):aT:=Option.rec (motive:=fun _=>aT) fr (fun d=>Bool.rec (motive:=fun _=>aT) fr (yQ fr d v) (Nat.ble (Nat.succ d) nt)) dst
theorem mR (nt:Nat) (fr:aT) (dst:Option Tmp) (v:HV):strip (rP nt fr dst v)=dz nt (strip fr) dst v.1:=by
 rw[← pV]
 cases dst with
 | none=>rfl
 | some d =>
   have e:rP nt fr (some d) v=Bool.rec (motive:=fun _=>aT) fr (yQ fr d v) (Nat.ble (Nat.succ d) nt):=rfl
   have e2:rQ nt (strip fr) (some d) v.1=Bool.rec (motive:=fun _=>av) (strip fr) (vM (strip fr) d v.1) (Nat.ble (Nat.succ d) nt):=rfl
   rw[e,e2,yB,← yR]
   cases Nat.ble (Nat.succ d) nt<;>rfl

def rz:List aM→Nat→Option AV
 | [],_=>none
 | .one v::r,j=>match j with
   | 0=>some v
   | j+1=>rz r j
 | .arr k z n::r,j=>cond (Nat.blt j n) (some (.int k (z j))) (rz r (Nat.sub j n))
theorem BM {a b:Nat} (h:Nat.blt a b=true):a<b:=by rwa [Nat.blt_eq] at h
theorem IL {a b:Nat} (h:Nat.blt a b=false):¬ a<b:=fun e=>by
 have:Nat.blt a b=true:=by rw[Nat.blt_eq];exact e
 rw[h] at this;cases this
theorem tu:∀ (l:List aM) (j:Nat) (v:AV),rz l j=some v→j<aD l∧getM l j=v
 | [],_,_,h=>by simp[rz] at h
 | .one u::r,0,v,h=>by
   simp only[rz,Option.some.injEq] at h
   exact ⟨by simp only[aD,aN];omega,h⟩
 | .one u::r,j+1,v,h=>by
   have:=tu r j v (by simpa[rz] using h)
   exact ⟨by simp only[aD,aN];omega,this.2⟩
 | .arr k z n::r,j,v,h=>by
   simp only[rz] at h
   simp only[aD,aN,getM]
   cases hb:Nat.blt j n with
   | true =>
     rw[hb,cond_true,Option.some.injEq] at h
     have:=BM hb
     exact ⟨by omega,by rw[if_pos this];exact h⟩
   | false =>
     rw[hb,cond_false] at h
     have hn:=IL hb
     have:=tu r (j-n) v h
     exact ⟨by omega,by rw[if_neg hn];exact this.2⟩
def Ga:List aM→Nat→Nat→Nat→Tr AV
 | [],_,_,_=>.bad
 | .one _::r,pos,h,off=>match h with
   | 0=>.bad
   | h+1=>Ga r (Nat.succ pos) h off
 | .arr k z n::r,pos,h,off=>cond (Nat.blt h n) (.req (rF off 1 pos n) (.ok (.int k (z (eD off pos))))) (Ga r (Nat.add pos n) (Nat.sub h n) off)
theorem xV:∀ (l:List aM) (pos h off:Nat) (v:AV),(Ga l pos h off).run=some v→pos≤off∧off-pos<aD l∧getM l (off-pos)=v
 | [],_,_,_,_,h=>(Tr.ae h).elim
 | .one _::r,pos,0,off,v,h=>(Tr.ae h).elim
 | .one u::r,pos,h'+1,off,v,h=>by
   obtain ⟨h1,h2,h3⟩:=xV r (pos+1) h' off v h
   refine ⟨by omega,by simp only[aD,aN];omega,?_⟩
   rw[show off-pos=(off-(pos+1))+1 by omega]
   exact h3
 | .arr k z n::r,pos,h',off,v,h=>by
   simp only[Ga] at h
   cases hb:Nat.blt h' n with
   | true =>
     rw[hb,cond_true] at h
     obtain ⟨hc,h⟩:=Tr.aR h
     rw[jV,decide_eq_true_eq] at hc
     have h:=Tr.ab h
     refine ⟨hc.1,by simp only[aD,aN];omega,?_⟩
     simp only[getM]
     rw[if_pos (by omega),← h,jO]
   | false =>
     rw[hb,cond_false] at h
     obtain ⟨h1,h2,h3⟩:=xV r (pos+n) (h'-n) off v h
     refine ⟨by omega,by simp only[aD,aN];omega,?_⟩
     simp only[getM]
     rw[if_neg (by omega),← h3]
     congr 1;omega
def CF (r:Row) (off:Nat) (h:Option Nat):Tr AV :=
 match r with
 | .F f n=>.req (bB off n) (.ok (f off))
 | .M l=>match l with
   | [.arr k z n]=>.req (bB off n) (.ok (.int k (z off)))
   | l=>match h with
     | none=>wu (rz l off)
     | some h=>Ga l 0 h off
 | .I k l=>match h with
   | none=>wu (jM (.I k l) off)
   | some _=>.req (bB off (Kg l)) (.ok (.int k (bn l off)))
 | .G l=>match h with
   | none=>wu (jM (.G l) off)
   | some _=>.bad
theorem Ab {r:Row} {off:Nat} {v:AV} (h:jM r off=some v):off<r.len∧r.get off=v:=by
 rw[um] at h
 split at h
 · rename_i h0;exact ⟨h0,Option.some.inj h⟩
 · simp at h
theorem zZ {r:Row} {off:Nat} {h:Option Nat} {v:AV} (hr:(CF r off h).run=some v):off<r.len∧r.get off=v:=by
 unfold CF at hr
 split at hr
 · obtain ⟨hc,hr⟩:=Tr.aR hr
   rw[iw,decide_eq_true_eq] at hc
   exact ⟨hc,Tr.ab hr⟩
 · rename_i l
   split at hr
   · rename_i k z n
     obtain ⟨hc,hr⟩:=Tr.aR hr
     rw[iw,decide_eq_true_eq] at hc
     refine ⟨by simp only[Row.len,aD,aN];omega,?_⟩
     simp only[Row.get,getM]
     rw[if_pos hc];exact Tr.ab hr
   · split at hr
     · rw[db] at hr;exact tu _ _ _ hr
     · have:=xV _ _ _ _ _ hr
       rw[Nat.sub_zero] at this
       exact this.2
 · split at hr
   · rw[db] at hr;exact Ab hr
   · obtain ⟨hc,hr⟩:=Tr.aR hr
     rw[iw,decide_eq_true_eq,Hk] at hc
     refine ⟨hc,?_⟩
     rw[← Tr.ab hr,g5];rfl
 · split at hr
   · rw[db] at hr;exact Ab hr
   · exact (Tr.ae hr).elim
def DR (off:Nat) (h:Option Nat) (j:Nat):Nat :=
 match h with
 | none=>Nat.add off j
 | some _=>match j with
   | 0=>off
   | j+1=>ak off (Nat.succ j)
theorem su (off:Nat) (h:Option Nat) (j:Nat):DR off h j=off+j:=by
 unfold DR
 split
 · rfl
 · split
   · rfl
   · rw[a7]
def yV (h:Option Nat) (j:Nat):Option Nat :=
 match h with
 | none=>none
 | some h=>some (Nat.add h j)
def CG (r:Row) (off:Nat) (h:Option Nat):Nat→Nat→Tr (List AV)
 | _,0=>.ok []
 | j,n+1=>(CF r (DR off h j) (yV h j)).bind fun v=>(CG r off h (Nat.succ j) n).bind fun l=>.ok (v::l)
theorem z6 {r:Row} {off:Nat} {h:Option Nat}:∀ (n j:Nat) (l:List AV),(CG r off h j n).run=some l→l=dD r.get (off+j) n∧(n=0∨off+j+n≤r.len)
 | 0,j,l,hr=>⟨(Tr.ab hr).symm,.inl rfl⟩
 | n+1,j,l,hr=>by
   simp only[CG] at hr
   obtain ⟨v,h1,hr⟩:=Tr.bind_some hr
   obtain ⟨m,h2,hr⟩:=Tr.bind_some hr
   have hr:=Tr.ab hr
   obtain ⟨k1,k2⟩:=zZ h1
   obtain ⟨k3,k4⟩:=z6 n (j+1) m h2
   rw[su] at k1 k2
   refine ⟨?_,.inr (by omega)⟩
   rw[← hr,dD,k2,k3,show off+(j+1)=off+j+1 by omega]
def F9:List aM→Nat→Nat→Nat→Nat→Tr AV
 | [],_,_,_,_=>.bad
 | .one _::r,pos,h,off,n=>match h with
   | 0=>.bad
   | h+1=>F9 r (Nat.succ pos) h off n
 | .arr k z m::r,pos,h,off,n=>cond (Nat.blt h m) (.req (rF off n pos m) (.ok (.agg (.M [.arr k (nQ z (eD off pos)) n])))) (F9 r (Nat.add pos m) (Nat.sub h m) off n)
theorem xU:∀ (l:List aM) (pos h off n:Nat) (v:AV),0<n→(F9 l pos h off n).run=some v→pos≤off∧off-pos+n≤aD l∧∃ k z,lH l (off-pos) n=some (k,z)∧v=.agg (.M [.arr k z n])
 | [],_,_,_,_,_,_,h=>(Tr.ae h).elim
 | .one _::r,pos,0,off,n,v,_,h=>(Tr.ae h).elim
 | .one u::r,pos,h'+1,off,n,v,hn,h=>by
   obtain ⟨h1,h2,k,z,h3,h4⟩:=xU r (pos+1) h' off n v hn h
   refine ⟨by omega,by simp only[aD,aN];omega,k,z,?_,h4⟩
   rw[show off-pos=(off-(pos+1))+1 by omega]
   exact h3
 | .arr k z m::r,pos,h',off,n,v,hn,h=>by
   simp only[F9] at h
   cases hb:Nat.blt h' m with
   | true =>
     rw[hb,cond_true] at h
     obtain ⟨hc,h⟩:=Tr.aR h
     rw[jV,decide_eq_true_eq] at hc
     have h:=Tr.ab h
     refine ⟨hc.1,by simp only[aD,aN];omega,k,fun j=>z (off-pos+j),?_,?_⟩
     · simp only[lH];rw[if_pos (by omega)]
     · rw[← h,jq,jO]
   | false =>
     rw[hb,cond_false] at h
     obtain ⟨h1,h2,k',z',h3,h4⟩:=xU r (pos+m) (h'-m) off n v hn h
     refine ⟨by omega,by simp only[aD,aN];omega,k',z',?_,h4⟩
     simp only[lH]
     rw[if_neg (by omega),if_pos (by omega),← h3]
     congr 1;omega
def F8:List aM→Nat→Nat→Option Row
 | [],_,_=>none
 | .one _::r,o+1,n=>F8 r o n
 | .one _::_,0,_=>none
 | .arr k z m::r,o,n=>cond (Nat.ble (Nat.add o n) m) (some (.M [.arr k (cond (Nat.beq o 0) z (nQ z o)) n])) (cond (Nat.ble m o) (F8 r (Nat.sub o m) n) none)
theorem xT:∀ (l:List aM) (o n:Nat) (q:Row),F8 l o n=some q→∃ k z,lH l o n=some (k,z)∧q=.M [.arr k z n]
 | [],_,_,_,h=>by cases h
 | .one u::r,o+1,n,q,h=>xT r o n q h
 | .one _::_,0,_,_,h=>by cases h
 | .arr k z m::r,o,n,q,h=>by
   simp only[F8] at h
   cases hb:Nat.ble (Nat.add o n) m with
   | true =>
     rw[hb,cond_true] at h
     have hle:o+n≤m:=Nat.le_of_ble_eq_true hb
     simp only[Option.some.injEq] at h
     refine ⟨k,fun j=>z (o+j),by simp only[lH];rw[if_pos hle],?_⟩
     rw[← h]
     cases ho:Nat.beq o 0 with
     | true =>
       have:=Nat.eq_of_beq_eq_true ho
       subst this
       simp only[cond_true,Nat.zero_add]
     | false=>rw[cond_false,jq]
   | false =>
     rw[hb,cond_false] at h
     cases hm:Nat.ble m o with
     | true =>
       rw[hm,cond_true] at h
       have hle:m≤o:=Nat.le_of_ble_eq_true hm
       have hnl:¬ (o+n≤m):=fun hc=>by
        have:Nat.ble (Nat.add o n) m=true:=by rw[Nat.ble_eq];exact hc
        rw[hb] at this;cases this
       obtain ⟨k',z',h1,h2⟩:=xT r (o-m) n q h
       exact ⟨k',z',by simp only[lH];rw[if_neg hnl,if_pos hle];exact h1,h2⟩
     | false=>rw[hm,cond_false] at h;cases h
def z7 (P:Program) (t:TypeId) (r:Row) (off:Nat) (h:Option Nat):Tr AV :=
 match fA P t with
 | some false=>CF r off h
 | some true=>match br P t with
   | some 0=>.bad
   | some (n+1)=>match r with
     | .M l=>cond (Nat.ble (Nat.succ n) 8) ((CG (.M l) off h 0 (Nat.succ n)).bind fun vs=>.ok (.agg (Row.ofList vs)))
       (match h with
       | none=>cond (Nat.ble (Nat.add off (Nat.succ n)) (aD l)) (cond (Nat.beq (aD l) (Nat.succ n)) (.ok (.agg ((Row.M l).cut off (Nat.succ n)))) (match F8 l off (Nat.succ n) with
         | some q=>.ok (.agg q)
         | none=>.ok (.agg ((Row.M l).cut off (Nat.succ n))))) .bad
       | some h=>cond (Nat.beq (aD l) (Nat.succ n)) .bad (F9 l 0 h off (Nat.succ n)))
     | .F f m=>.req (ju (ak off (Nat.succ n)) m) (.ok (.agg ((Row.F f m).cut off (Nat.succ n))))
     | .I k l=>match h with
       | none=>wu (qW P t (.I k l) off)
       | some _=>.bad
     | .G l=>match h with
       | none=>wu (qW P t (.G l) off)
       | some _=>.bad
   | none=>.bad
 | none=>.bad
theorem uk       {P : Program} {t:TypeId} {r:Row} {off:Nat} {h:Option Nat} {v:AV} (hr:(z7 P t r off h).run=some v):iB P t r off=some v:=by
 unfold z7 at hr
 split at hr
 · rename_i ha
   obtain ⟨h1,h2⟩:=zZ hr
   unfold iB
   rw[ha]
   dsimp only
   rw[if_pos h1,h2]
 · rename_i ha
   split at hr
   · exact (Tr.ae hr).elim
   · rename_i n hs
     split at hr
     · rename_i l
       unfold iB
       rw[ha,hs]
       dsimp only
       cases hb:Nat.ble (Nat.succ n) 8 with
       | true =>
         rw[hb,cond_true] at hr
         obtain ⟨vs,h1,hr⟩:=Tr.bind_some hr
         have hr:=Tr.ab hr
         obtain ⟨k1,k2⟩:=z6 _ _ _ h1
         rw[if_pos (by omega),← hr,k1]
         simp only[Row.cut]
         rw[show Nat.ble (n+1) 8=true from hb,if_pos rfl,Nat.add_zero]
         rfl
       | false =>
         rw[hb,cond_false] at hr
         split at hr
         · cases hc : Nat.ble (Nat.add off (Nat.succ n)) (aD l) with
           | true =>
             rw[hc,cond_true] at hr
             rw[Nat.ble_eq] at hc
             rw[if_pos (show off+(n+1)≤(Row.M l).len from hc)]
             cases hq:Nat.beq (aD l) (Nat.succ n) with
             | true=>rw[hq,cond_true] at hr;rw[← Tr.ab hr]
             | false =>
               rw[hq,cond_false] at hr
               split at hr
               · rename_i q hseg
                 obtain ⟨k,z,h3,h4⟩:=xT _ _ _ _ hseg
                 simp only[Row.cut]
                 rw[show Nat.ble (n+1) 8=false from hb,if_neg (by simp),show Nat.beq (aD l) (n+1)=false from hq,Bool.and_false,if_neg (by simp)]
                 have : Row.sub (.M l) off (n+1)=.M [.arr k z (n+1)]:=by
                  match l,h3,hq with
                  | [],h3,_=>simp[lH] at h3
                  | [.arr k' z' m],h3,hq =>
                    simp only[lH] at h3
                    split at h3
                    · simp only[nP] at h3
                      obtain ⟨rfl,rfl⟩:=h3
                      rfl
                    · split at h3<;>simp at h3
                  | .one u::r,h3,hq =>
                    simp only[Row.sub]
                    rw[show Nat.beq (aD (.one u::r)) (n+1)=false from hq,Bool.and_false,h3]
                    rfl
                  | .arr k' z' m::s::r,h3,hq =>
                    simp only[Row.sub]
                    rw[show Nat.beq (aD (.arr k' z' m::s::r)) (n+1)=false from hq,Bool.and_false,h3]
                    rfl
                 rw[this,← Tr.ab hr,h4]
               · rw[← Tr.ab hr]
           | false=>rw[hc,cond_false] at hr;exact (Tr.ae hr).elim
         · rename_i h
           cases hc:Nat.beq (aD l) (Nat.succ n) with
           | true=>rw[hc,cond_true] at hr;exact (Tr.ae hr).elim
           | false =>
             rw[hc,cond_false] at hr
             obtain ⟨h1,h2,k,z,h3,h4⟩:=xU _ _ _ _ _ _ (Nat.succ_pos n) hr
             rw[Nat.sub_zero] at h2 h3
             rw[if_pos (show off+(n+1)≤(Row.M l).len from h2)]
             simp only[Row.cut]
             rw[show Nat.ble (n+1) 8=false from hb,if_neg (by simp),show Nat.beq (aD l) (n+1)=false from hc,Bool.and_false,if_neg (by simp)]
             have : Row.sub (.M l) off (n+1)=.M [.arr k z (n+1)]:=by
              match l,h3,hc with
              | [],h3,_=>simp[lH] at h3
              | [.arr k' z' m],h3,hc =>
                simp only[lH] at h3
                split at h3
                · simp only[nP] at h3
                  obtain ⟨rfl,rfl⟩:=h3
                  rfl
                · split at h3<;>simp at h3
              | .one u::r,h3,hc =>
                simp only[Row.sub]
                rw[show Nat.beq (aD (.one u::r)) (n+1)=false from hc,Bool.and_false,h3]
                rfl
              | .arr k' z' m::s::r,h3,hc =>
                simp only[Row.sub]
                rw[show Nat.beq (aD (.arr k' z' m::s::r)) (n+1)=false from hc,Bool.and_false,h3]
                rfl
             rw[this,h4]
     · rename_i f m
       obtain ⟨hc,hr⟩:=Tr.aR hr
       rw[lu,decide_eq_true_eq,a7] at hc
       unfold iB
       rw[ha,hs]
       dsimp only
       rw[if_pos (show off+(n+1)≤(Row.F f m).len from hc),← Tr.ab hr]
     · split at hr
       · rw[db,qX] at hr;exact hr
       · exact (Tr.ae hr).elim
     · split at hr
       · rw[db,qX] at hr;exact hr
       · exact (Tr.ae hr).elim
   · exact (Tr.ae hr).elim
 · exact (Tr.ae hr).elim

def xR (H:aa) (d i v:Nat) (h:Option Nat):Tr Row :=
 match h with
 | none=>wu (yS H d i v)
 | some _=>match eW H d i with
   | (ver,.row r)=>.req (dS ver v) (.ok r)
   | _=>.bad
theorem lF {H:aa} {d i v:Nat} {h:Option Nat} {r:Row} (hr:(xR H d i v h).run=some r):dp H d i v=some r:=by
 unfold xR at hr
 split at hr
 · rw[db,tw] at hr;exact hr
 · rw[ia] at hr
   split at hr
   · rename_i ver q hg
     obtain ⟨hc,hr2⟩:=Tr.aR hr
     rw[gK,decide_eq_true_eq] at hc
     subst hc
     unfold dp
     rw[hg]
     simp only[Nat.beq_refl,if_true]
     rw[Tr.ab hr2]
   · exact (Tr.ae hr).elim
def loadT (P:Program) (H:aa) (t:TypeId) (a:HV):Tr AV :=
 match a.1 with
 | .ptr d i v off=>(xR H d i v a.2).bind fun r=>(z7 P t r off a.2).bind fun x=>.ok (gC d x)
 | .ptrT s r off=>(z7 P t r off a.2).bind fun x=>.ok (Q6 s x)
 | _=>.bad
theorem zm {P:Program} {H:aa} {t:TypeId} {a:HV} {v:AV} (hr:(loadT P H t a).run=some v):mJ P H t a.1=some v:=by
 unfold loadT at hr
 unfold mJ
 split at hr
 · rename_i d i ver off ha
   obtain ⟨r,h1,hr⟩:=Tr.bind_some hr
   obtain ⟨x,h2,hr⟩:=Tr.bind_some hr
   rw[ha]
   dsimp only
   rw[lF h1]
   dsimp only
   rw[uk h2,← Tr.ab hr];rfl
 · rename_i s r off ha
   obtain ⟨x,h2,hr⟩:=Tr.bind_some hr
   rw[ha]
   dsimp only
   rw[uk h2,← Tr.ab hr];rfl
 · exact (Tr.ae hr).elim

def rW:List aM→Nat→AV→Option (List aM)
 | [],_,_=>none
 | .one u::r,j,v=>match j with
   | 0=>some (.one v::r)
   | j+1=>match rW r j v with
     | some r'=>some (.one u::r')
     | none=>none
 | .arr k z n::r,j,v=>cond (Nat.blt j n) (match v with
    | .int k' x=>cond (gE k' k) (some (.arr k (fz z j x) n::r)) none
    | _=>none)
   (match rW r (Nat.sub j n) v with
     | some r'=>some (.arr k z n::r')
     | none=>none)
theorem uw:∀ (l:List aM) (j:Nat) (v:AV) (l':List aM),rW l j v=some l'→j<aD l∧j9 l j v=l'
 | [],_,_,_,h=>by simp[rW] at h
 | .one u::r,0,v,l',h=>by
   simp only[rW,Option.some.injEq] at h
   exact ⟨by simp only[aD,aN];omega,h⟩
 | .one u::r,j+1,v,l',h=>by
   simp only[rW] at h
   split at h
   · rename_i r' hr
     have:=uw r j v r' hr
     simp only[Option.some.injEq] at h
     exact ⟨by simp only[aD,aN];omega,by simp only[j9];rw[this.2];exact h⟩
   · simp at h
 | .arr k z n::r,j,v,l',h=>by
   simp only[rW] at h
   cases hb:Nat.blt j n with
   | true =>
     rw[hb,cond_true] at h
     have hj:=BM hb
     split at h
     · rename_i k' x
       rw[kH] at h
       split at h
       · rename_i hk
         simp only[Option.some.injEq] at h
         refine ⟨by simp only[aD,aN];omega,?_⟩
         simp only[j9]
         rw[if_pos hj,if_pos hk,← h,lM]
       · simp at h
     · simp at h
   | false =>
     rw[hb,cond_false] at h
     have hj:=IL hb
     split at h
     · rename_i r' hr
       have:=uw r (j-n) v r' hr
       simp only[Option.some.injEq] at h
       exact ⟨by simp only[aD,aN];omega,by simp only[j9];rw[if_neg hj,this.2];exact h⟩
     · simp at h
def D4:List aM→Nat→Nat→Nat→AV→Tr (List aM)
 | [],_,_,_,_=>.bad
 | .one u::r,pos,h,off,v=>match h with
   | 0=>.bad
   | h+1=>(D4 r (Nat.succ pos) h off v).bind fun r'=>.ok (.one u::r')
 | .arr k z n::r,pos,h,off,v=>cond (Nat.blt h n) (match v with
    | .int k' x=>cond (gE k' k) (.req (rF off 1 pos n) (.ok (.arr k (fz z (eD off pos) x) n::r))) .bad
    | _=>.bad)
   ((D4 r (Nat.add pos n) (Nat.sub h n) off v).bind fun r'=>.ok (.arr k z n::r'))
theorem xW:∀ (l:List aM) (pos h off:Nat) (v:AV) (l':List aM),(D4 l pos h off v).run=some l'→pos≤off∧off-pos<aD l∧j9 l (off-pos) v=l'
 | [],_,_,_,_,_,h=>(Tr.ae h).elim
 | .one _::r,pos,0,off,v,l',h=>(Tr.ae h).elim
 | .one u::r,pos,h'+1,off,v,l',h=>by
   simp only[D4] at h
   obtain ⟨r',hr,h⟩:=Tr.bind_some h
   obtain ⟨h1,h2,h3⟩:=xW r (pos+1) h' off v r' hr
   refine ⟨by omega,by simp only[aD,aN];omega,?_⟩
   rw[show off-pos=(off-(pos+1))+1 by omega,← Tr.ab h,← h3]
   rfl
 | .arr k z n::r,pos,h',off,v,l',h=>by
   simp only[D4] at h
   cases hb:Nat.blt h' n with
   | true =>
     rw[hb,cond_true] at h
     split at h
     · rename_i k' x
       rw[kH] at h
       split at h
       · rename_i hk
         obtain ⟨hc,h⟩:=Tr.aR h
         rw[jV,decide_eq_true_eq] at hc
         refine ⟨hc.1,by simp only[aD,aN];omega,?_⟩
         simp only[j9]
         rw[if_pos (by omega),if_pos hk,← Tr.ab h,lM,jO]
       · exact (Tr.ae h).elim
     · exact (Tr.ae h).elim
   | false =>
     rw[hb,cond_false] at h
     obtain ⟨r',hr,h⟩:=Tr.bind_some h
     obtain ⟨h1,h2,h3⟩:=xW r (pos+n) (h'-n) off v r' hr
     refine ⟨by omega,by simp only[aD,aN];omega,?_⟩
     simp only[j9]
     rw[if_neg (by omega),← Tr.ab h,← h3,show off-pos-n=off-(pos+n) by omega]
def KH (l:List aM) (off:Nat) (h:Option Nat) (v:AV):Tr (List aM) :=
 match l with
 | [.arr k z n]=>match v with
   | .int k' x=>cond (gE k' k) (.req (bB off n) (.ok [.arr k (fz z off x) n])) .bad
   | _=>.bad
 | l=>match h with
   | none=>wu (rW l off v)
   | some h=>D4 l 0 h off v
theorem Ip {l l':List aM} {off:Nat} {h:Option Nat} {v:AV} (hr:(KH l off h v).run=some l'):off<aD l∧j9 l off v=l':=by
 unfold KH at hr
 split at hr
 · rename_i k z n
   split at hr
   · rename_i k' x
     rw[kH] at hr
     split at hr
     · rename_i hk
       obtain ⟨hc,hr⟩:=Tr.aR hr
       rw[iw,decide_eq_true_eq] at hc
       refine ⟨by simp only[aD,aN];omega,?_⟩
       simp only[j9]
       rw[if_pos hc,if_pos hk,← Tr.ab hr,lM]
     · exact (Tr.ae hr).elim
   · exact (Tr.ae hr).elim
 · split at hr
   · rw[db] at hr;exact uw _ _ _ _ hr
   · have:=xW _ _ _ _ _ _ hr
     rw[Nat.sub_zero] at this
     exact this.2
def Ai (off:Nat) (h:Option Nat):List AV→Nat→List aM→Tr (List aM)
 | [],_,l=>.ok l
 | v::vs,j,l=>(KH l (DR off h j) (yV h j) v).bind fun l'=>Ai off h vs (Nat.succ j) l'
theorem uv {off:Nat} {h:Option Nat}:∀ (vs:List AV) (j:Nat) (l l':List aM),(Ai off h vs j l).run=some l'→(vs=[]∨off+j+vs.length≤aD l)∧Row.cN (.M l) (off+j) vs=.M l'
 | [],j,l,l',h=>⟨.inl rfl,by rw[Tr.ab h];rfl⟩
 | v :: vs,j,l,l',h=>by
   simp only[Ai] at h
   obtain ⟨l1,h1,h⟩:=Tr.bind_some h
   obtain ⟨k1,k2⟩:=Ip h1
   rw[su] at k1 k2
   obtain ⟨k3,k4⟩:=uv vs (j+1) l1 l' h
   have hl:aD l1=aD l:=by rw[← k2,nh]
   refine ⟨.inr ?_,?_⟩
   · rcases k3 with rfl | k3
     · simp only[List.length_cons,List.length_nil];omega
     · simp only[List.length_cons];omega
   · simp only[Row.cN,Row.set,k2]
     exact k4
def FY (l:List aM) (off:Nat) (h:Option Nat) (q:Row):Tr Row :=
 match l,q with
 | [.arr k z m],.M [.arr k' z' n]=>cond (gE k' k) (.req (rF off n 0 m) (.ok (.M [.arr k (ff z off z' n) m]))) .bad
 | l,q=>cond (Nat.ble 9 (iC q)) (match h with
    | none=>cond (Nat.ble (Nat.add off (iC q)) (aD l)) (.ok (xL l off q)) .bad
    | some _=>.bad)
   (match lK q with
     | []=>.bad
     | v::vs=>(Ai off h (v::vs) 0 l).bind fun l'=>.ok (.M l'))
theorem xM {l:List aM} {off:Nat} {h:Option Nat} {q r:Row} (hr:(FY l off h q).run=some r):off+q.len≤aD l∧j7 (.M l) off q=r:=by
 unfold FY at hr
 split at hr
 · rename_i k z m k' z' n
   rw[kH] at hr
   split at hr
   · rename_i hk
     obtain ⟨hc,hr⟩:=Tr.aR hr
     rw[jV,decide_eq_true_eq] at hc
     refine ⟨by simp only[Row.len,aD,aN];omega,?_⟩
     simp only[j7]
     rw[if_pos hk,← Tr.ab hr,pd]
   · exact (Tr.ae hr).elim
 · rename_i hne
   have hA:j7 (.M l) off q=xL l off q:=by
    simp only[j7]
    split
    · rename_i k z m
      split
      · rename_i k' z' n
        exact (hne _ _ _ _ _ _ rfl rfl).elim
      · rfl
    · rfl
   rw[hA]
   rw[fE] at hr
   cases hb:Nat.ble 9 q.len with
   | true =>
     rw[hb,cond_true] at hr
     split at hr
     · cases hc:Nat.ble (Nat.add off q.len) (aD l) with
       | true =>
         rw[hc,cond_true] at hr
         rw[Nat.ble_eq] at hc
         exact ⟨hc,Tr.ab hr⟩
       | false=>rw[hc,cond_false] at hr;exact (Tr.ae hr).elim
     · exact (Tr.ae hr).elim
   | false =>
     rw[hb,cond_false,oL] at hr
     have hl:=Row.bp q
     split at hr
     · exact (Tr.ae hr).elim
     · rename_i v vs hq
       obtain ⟨l1,h1,hr⟩:=Tr.bind_some hr
       obtain ⟨k1,k2⟩:=uv _ _ _ _ h1
       rw[hq] at hl
       refine ⟨?_,?_⟩
       · rcases k1 with k1 | k1
         · simp at k1
         · omega
       · unfold xL
         rw[hb,if_neg (by simp),hq,← Tr.ab hr,← k2];rfl
def Kx (d:Nat) (x:AV):Bool :=
 match d with
 | 0=>false
 | _+1=>match x with
   | .slc 0 _ _ _ _ _ _=>true
   | _=>false
def storeT (P:Program) (H:aa) (t:TypeId) (a:HV) (x:AV):Tr Delta :=
 match a.1 with
 | .ptr d i v off=>cond (Kx d x) (match a.2 with | none=>wu (qa P H t a.1 x) | some _=>.bad)
   (cond (fO H d) .bad ((xR H d i v a.2).bind fun r=>match br P t with
     | some n=>match x.row with
       | some q=>cond (Nat.beq (iC q) n) (match r with
         | .M l=>(FY l off a.2 (jG d q)).bind fun r'=>.ok (.set d i (v,.row r'))
         | _=>match a.2 with | none=>wu (qa P H t a.1 x) | some _=>.bad) .bad
       | none=>.bad
     | none=>.bad))
 | _=>.bad
theorem Eb {P:Program} {H:aa} {t:TypeId} {a:HV} {x:AV} {δ:Delta} (hr:(storeT P H t a x).run=some δ):gy P H t a.1 x=some δ:=by
 unfold storeT at hr
 split at hr
 · rename_i d i v off ha
   cases ho:Kx d x with
   | true =>
     rw[ho,cond_true] at hr
     split at hr
     · rw[db,oK] at hr;exact hr
     · exact (Tr.ae hr).elim
   | false =>
     rw[ho,cond_false,eE] at hr
     cases hl:az H d with
     | true=>rw[hl,cond_true] at hr;exact (Tr.ae hr).elim
     | false =>
       rw[hl,cond_false] at hr
       obtain ⟨r,h1,hr⟩:=Tr.bind_some hr
       split at hr
       · rename_i n hs
         split at hr
         · rename_i q hq
           rw[fE] at hr
           cases hb:Nat.beq q.len n with
           | false=>rw[hb,cond_false] at hr;exact (Tr.ae hr).elim
           | true =>
             rw[hb,cond_true] at hr
             have hb:q.len=n:=by simpa using hb
             split at hr
             · rename_i l
               obtain ⟨r',h2,hr⟩:=Tr.bind_some hr
               obtain ⟨k1,k2⟩:=xM h2
               rw[fH] at k1
               rw[ha]
               unfold gy
               dsimp only
               rw[hl,if_neg (by simp),lF h1,hs,hq]
               dsimp only
               rw[if_pos ⟨hb,by show off+n≤aD l;omega⟩]
               have:∀ (d':Nat) (j w o sz len:Nat) (cap:Option Nat),d=d'+1→x≠.slc 0 j w o sz len cap:=by
                rintro d' j w o sz len cap rfl rfl
                simp[Kx] at ho
               rw[← Tr.ab hr,← k2]
               split
               · exact absurd rfl (this _ _ _ _ _ _ _ rfl)
               · rfl
             · split at hr
               · rw[db,oK] at hr;exact hr
               · exact (Tr.ae hr).elim
         · exact (Tr.ae hr).elim
       · exact (Tr.ae hr).elim
 · exact (Tr.ae hr).elim

def hOr (h:Option Nat) (off:Nat):Nat :=
 match h with
 | none=>off
 | some h=>h
def ob (P:Program) (t:TypeId) (a:HV) (f:Nat):Tr HV :=
 match P.underlying t with
 | some (.struct fs)=>match fs[f]? with
   | some g=>match br P g.type with
     | some (_+1)=>match a.1 with
       | .ptr d i v off=>.ok (.ptr d i v (DR off a.2 g.offset),yV a.2 g.offset)
       | .ptrT s r off=>.ok (.ptrT s r (DR off a.2 g.offset),yV a.2 g.offset)
       | _=>.bad
     | _=>.bad
   | none=>.bad
 | _=>.bad
theorem uX {P:Program} {t:TypeId} {a b:HV} {f:Nat} (hr:(ob P t a f).run=some b):gL P t a.1 f=some b.1:=by
 unfold ob at hr
 unfold gL
 split at hr
 · rename_i fs hu
   rw[hu]
   dsimp only
   split at hr
   · rename_i g hg
     rw[hg]
     dsimp only
     split at hr
     · rename_i n hs
       rw[hs]
       dsimp only
       split at hr
       · rename_i d i v off ha
         rw[ha,← Tr.ab hr];simp only[kT,su]
       · rename_i s r off ha
         rw[ha,← Tr.ab hr];simp only[kT,su]
       · exact (Tr.ae hr).elim
     · exact (Tr.ae hr).elim
   · exact (Tr.ae hr).elim
 · exact (Tr.ae hr).elim
def isLit (x:HV):Bool :=
 match x.2 with
 | some _=>true
 | none=>false
def FO (off:Nat) (ic:Bool) (i:Int) (z:Nat):Nat:=cond ic (Nat.add off (Nat.mul i.toNat z)) (aw off i z)
theorem ss (off:Nat) (ic:Bool) (i:Int) (z:Nat):FO off ic i z=off+i.toNat*z:=by
 cases ic with
 | true=>rfl
 | false=>exact bA _ _ _
def Cb (h:Option Nat) (off:Nat) (ic:Bool) (i:Int) (z:Nat):Option Nat :=
 cond ic (yV h (Nat.mul i.toNat z)) (some (hOr h off))
def J5 (P:Program) (t:TypeId) (a:HV) (ic:Bool) (i:Int):Tr HV :=
 match P.underlying t with
 | some (.array n e)=>match br P e with
   | some z=>match a.1 with
     | .ptr d j v off=>.req (cU i n) (.ok (.ptr d j v (FO off ic i z),Cb a.2 off ic i z))
     | .ptrT s r off=>.req (cU i n) (.ok (.ptrT s r (FO off ic i z),Cb a.2 off ic i z))
     | _=>.bad
   | none=>.bad
 | some (.slice e)=>match br P e with
   | some z=>match a.1 with
     | .slc d j v off sz len cap=>cond (Nat.beq z sz) (.req (cU i len) (.ok (.ptr d j v (FO off ic i z),match cap with
       | some _=>Cb none off ic i z
       | none=>some off))) .bad
     | .slcT s r sz len _=>cond (Nat.beq z sz) (.req (cU i len) (.ok (.ptrT s r (FO 0 ic i z),Cb none 0 ic i z))) .bad
     | _=>.bad
   | none=>.bad
 | _=>.bad
def OK (P:Program) (t:TypeId) (x:AV) (ic:Bool) (i:Int):Tr AV :=
 cond ic (wu (qI P t x i)) (match P.underlying t with
  | some (.array n e)=>match x with
    | .agg r=>match br P e with
      | some z=>.req (cU i n) (z7 P e r (aw 0 i z) (some 0))
      | none=>.bad
    | _=>.bad
  | _=>.bad)
theorem Kc {P:Program} {t:TypeId} {x v:AV} {ic:Bool} {i:Int} (hr:(OK P t x ic i).run=some v):qI P t x i=some v:=by
 unfold OK at hr
 cases ic with
 | true=>rw[cond_true,db] at hr;exact hr
 | false =>
   rw[cond_false] at hr
   split at hr
   · rename_i n e hu
     split at hr
     · split at hr
       · rename_i z hs
         obtain ⟨hc,hr⟩:=Tr.aR hr
         rw[qH,decide_eq_true_eq] at hc
         have h:=uk hr
         rw[bA,Nat.zero_add] at h
         unfold qI
         rw[hu]
         dsimp only
         rw[hs]
         dsimp only
         rw[if_pos hc,h]
       · exact (Tr.ae hr).elim
     · exact (Tr.ae hr).elim
   · exact (Tr.ae hr).elim
theorem Hg {P:Program} {t:TypeId} {a b:HV} {ic:Bool} {i:Int} (hr:(J5 P t a ic i).run=some b):fQ P t a.1 i=some b.1:=by
 unfold J5 at hr
 unfold fQ
 split at hr
 · rename_i n e hu
   split at hr
   · rename_i z hs
     split at hr
     · rename_i d j v off ha
       obtain ⟨hc,hr⟩:=Tr.aR hr
       rw[qH,decide_eq_true_eq] at hc
       rw[hu,ha]
       dsimp only
       rw[hs]
       dsimp only
       rw[if_pos hc,← Tr.ab hr]
       simp only[kT,ss]
     · rename_i s r off ha
       obtain ⟨hc,hr⟩:=Tr.aR hr
       rw[qH,decide_eq_true_eq] at hc
       rw[hu,ha]
       dsimp only
       rw[hs]
       dsimp only
       rw[if_pos hc,← Tr.ab hr]
       simp only[kT,ss]
     · exact (Tr.ae hr).elim
   · exact (Tr.ae hr).elim
 · rename_i e hu
   split at hr
   · rename_i z hs
     split at hr
     · rename_i d j v off sz len cap ha
       cases hb:Nat.beq z sz with
       | false=>rw[hb,cond_false] at hr;exact (Tr.ae hr).elim
       | true =>
         rw[hb,cond_true] at hr
         have hb:z=sz:=by simpa using hb
         subst hb
         obtain ⟨hc,hr⟩:=Tr.aR hr
         rw[qH,decide_eq_true_eq] at hc
         rw[hu,ha]
         dsimp only
         rw[if_pos ⟨hc.1,hc.2,hs⟩,← Tr.ab hr]
         simp only[ss]
     · rename_i s r sz len full ha
       cases hb:Nat.beq z sz with
       | false=>rw[hb,cond_false] at hr;exact (Tr.ae hr).elim
       | true =>
         rw[hb,cond_true] at hr
         have hb:z=sz:=by simpa using hb
         subst hb
         obtain ⟨hc,hr⟩:=Tr.aR hr
         rw[qH,decide_eq_true_eq] at hc
         rw[hu,ha]
         dsimp only
         rw[if_pos ⟨hc.1,hc.2,hs⟩,← Tr.ab hr]
         simp only[ss,Nat.zero_add]
     · exact (Tr.ae hr).elim
   · exact (Tr.ae hr).elim
 · exact (Tr.ae hr).elim

end
end Go.Eng
