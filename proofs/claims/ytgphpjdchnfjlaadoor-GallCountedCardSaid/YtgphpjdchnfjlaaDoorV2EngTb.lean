/- The engine as a tree: frames with hints, rows, loads, stores, addresses. -/
import Derived.Test.YtgphpjdchnfjlaaDoorV2EngOrax2
set_option linter.unusedVariables false
set_option linter.unusedSimpArgs false
namespace Go.Eng
noncomputable section

abbrev HV:=AV×Option Nat
abbrev aI:=List (Nat×HV)
def strip (f:aI):az:=List.rec (motive:=fun _=>az) [] (fun p _ ih=>(p.1,p.2.1)::ih) f
theorem cW (x:Nat) (v:HV) (r:aI):strip ((x,v)::r)=(x,v.1)::strip r:=rfl
def lk (f:aI) (y:Nat):HV:=List.rec (motive:=fun _=>HV) (AV.undef,none) (fun p _ ih=>Bool.rec ih p.2 (Nat.beq p.1 y)) f
theorem eR:∀ (f:aI) (y:Nat),(lk f y).1=bB (strip f) y
 | [],y=>rfl
 | (x,v)::r,y=>by
   have e:lk ((x,v)::r) y=Bool.rec (lk r y) v (Nat.beq x y):=rfl
   rw[e,cW,bB]
   cases Nat.beq x y with
   | true=>rfl
   | false=>exact eR r y
def xF (f:aI) (y:Nat) (u:HV):aI:=List.rec (motive:=fun _=>aI) [(y,u)] (fun p r ih=>Bool.rec (motive:=fun _=>aI) (p::ih) (Bool.rec (motive:=fun _=>aI) ((y,u)::p::r) ((y,u)::r) (Nat.beq p.1 y)) (Nat.ble y p.1)) f
theorem xG:∀ (f:aI) (y:Nat) (u:HV),strip (xF f y u)=tW (strip f) y u.1
 | [],y,u=>rfl
 | (x,v)::r,y,u=>by
   have e:xF ((x,v)::r) y u=Bool.rec (motive:=fun _=>aI) ((x,v)::xF r y u) (Bool.rec (motive:=fun _=>aI) ((y,u)::(x,v)::r) ((y,u)::r) (Nat.beq x y)) (Nat.ble y x):=rfl
   rw[e,cW,tW,← xG r y u]
   cases Nat.ble y x with
   | false=>rfl
   | true=>cases Nat.beq x y<;>rfl
def gv (f:aI) (m:Nat):aI:=List.rec (motive:=fun _=>aI) [] (fun p _ ih=>Bool.rec (motive:=fun _=>aI) (p::ih) ih (Nat.beq (Nat.land (Nat.shiftRight m p.1) 1) 1)) f
theorem eD:∀ (f:aI) (m:Nat),strip (gv f m)=bJ (strip f) m
 | [],m=>rfl
 | (x,v)::r,m=>by
   have e:gv ((x,v)::r) m=Bool.rec (motive:=fun _=>aI) ((x,v)::gv r m) (gv r m) (Nat.beq (Nat.land (Nat.shiftRight m x) 1) 1):=rfl
   have e2:bJ ((x,v.1)::strip r) m=Bool.rec (motive:=fun _=>az) ((x,v.1)::bJ (strip r) m) (bJ (strip r) m) (Nat.beq (Nat.land (Nat.shiftRight m x) 1) 1):=rfl
   rw[e,cW,e2,← eD r m]
   cases Nat.beq (Nat.land (Nat.shiftRight m x) 1) 1<;>rfl
def Pq (v:Value):Option Nat :=
 match v with
 | .int _ _=>some 1
 | .bool _=>some 1
 | _=>none
def bU (fr:aI) (x:Operand):HV:=Operand.rec (motive:=fun _=>HV) (fun t=>lk fr t) (fun v=>(kB v,Pq v)) (fun _=>(.undef,none)) (fun f=>(.fn (.func f) [] [],none)) x
theorem aU (fr:aI) (x:Operand):(bU fr x).1=bG (strip fr) x:=by
 cases x with
 | tmp t=>exact eR fr t
 | _=>rfl
def ym (fr:aI) (l:List Operand):List AV:=nC (fun x=>(bU fr x).1) l
theorem sV (fr:aI):∀ l,ym fr l=jL (strip fr) l
 | []=>rfl
 | x::l=>by
   have e:ym fr (x::l)=(bU fr x).1::ym fr l:=rfl
   rw[e,sV fr l,aU];rfl
def qy (nt:Nat) (fr:aI) (dst:Option Tmp) (v:HV):aI:=Option.rec (motive:=fun _=>aI) fr (fun d=>Bool.rec (motive:=fun _=>aI) fr (xF fr d v) (Nat.ble (Nat.succ d) nt)) dst
theorem mf (nt:Nat) (fr:aI) (dst:Option Tmp) (v:HV):strip (qy nt fr dst v)=iq nt (strip fr) dst v.1:=by
 rw[← oW]
 cases dst with
 | none=>rfl
 | some d =>
   have e:qy nt fr (some d) v=Bool.rec (motive:=fun _=>aI) fr (xF fr d v) (Nat.ble (Nat.succ d) nt):=rfl
   have e2:qz nt (strip fr) (some d) v.1=Bool.rec (motive:=fun _=>az) (strip fr) (uP (strip fr) d v.1) (Nat.ble (Nat.succ d) nt):=rfl
   rw[e,e2,xr,← xG]
   cases Nat.ble (Nat.succ d) nt<;>rfl

def qk:List an→Nat→Option AV
 | [],_=>none
 | .one v::r,j=>match j with
   | 0=>some v
   | j+1=>qk r j
 | .arr k z n::r,j=>cond (Nat.blt j n) (some (.int k (z j))) (qk r (Nat.sub j n))
theorem Bj {a b:Nat} (h:Nat.blt a b=true):a<b:=by rwa [Nat.blt_eq] at h
theorem IB {a b:Nat} (h:Nat.blt a b=false):¬ a<b:=fun e=>by
 have:Nat.blt a b=true:=by rw[Nat.blt_eq];exact e
 rw[h] at this;cases this
theorem sg:∀ (l:List an) (j:Nat) (v:AV),qk l j=some v→j<ay l∧getM l j=v
 | [],_,_,h=>by simp[qk] at h
 | .one u::r,0,v,h=>by
   simp only[qk,Option.some.injEq] at h
   exact ⟨by simp only[ay,aG];omega,h⟩
 | .one u::r,j+1,v,h=>by
   have:=sg r j v (by simpa[qk] using h)
   exact ⟨by simp only[ay,aG];omega,this.2⟩
 | .arr k z n::r,j,v,h=>by
   simp only[qk] at h
   simp only[ay,aG,getM]
   cases hb:Nat.blt j n with
   | true =>
     rw[hb,cond_true,Option.some.injEq] at h
     have:=Bj hb
     exact ⟨by omega,by rw[if_pos this];exact h⟩
   | false =>
     rw[hb,cond_false] at h
     have hn:=IB hb
     have:=sg r (j-n) v h
     exact ⟨by omega,by rw[if_neg hn];exact this.2⟩
def FU:List an→Nat→Nat→Nat→Tr AV
 | [],_,_,_=>.bad
 | .one _::r,pos,h,off=>match h with
   | 0=>.bad
   | h+1=>FU r (Nat.succ pos) h off
 | .arr k z n::r,pos,h,off=>cond (Nat.blt h n) (.req (fC off 1 pos n) (.ok (.int k (z (dD off pos))))) (FU r (Nat.add pos n) (Nat.sub h n) off)
theorem wJ:∀ (l:List an) (pos h off:Nat) (v:AV),(FU l pos h off).run=some v→pos≤off∧off-pos<ay l∧getM l (off-pos)=v
 | [],_,_,_,_,h=>(Tr.ag h).elim
 | .one _::r,pos,0,off,v,h=>(Tr.ag h).elim
 | .one u::r,pos,h'+1,off,v,h=>by
   obtain ⟨h1,h2,h3⟩:=wJ r (pos+1) h' off v h
   refine ⟨by omega,by simp only[ay,aG];omega,?_⟩
   rw[show off-pos=(off-(pos+1))+1 by omega]
   exact h3
 | .arr k z n::r,pos,h',off,v,h=>by
   simp only[FU] at h
   cases hb:Nat.blt h' n with
   | true =>
     rw[hb,cond_true] at h
     obtain ⟨hc,h⟩:=Tr.aL h
     rw[jJ,decide_eq_true_eq] at hc
     have h:=Tr.ae h
     refine ⟨hc.1,by simp only[ay,aG];omega,?_⟩
     simp only[getM]
     rw[if_pos (by omega),← h,gf]
   | false =>
     rw[hb,cond_false] at h
     obtain ⟨h1,h2,h3⟩:=wJ r (pos+n) (h'-n) off v h
     refine ⟨by omega,by simp only[ay,aG];omega,?_⟩
     simp only[getM]
     rw[if_neg (by omega),← h3]
     congr 1;omega
def Cl (r:Row) (off:Nat) (h:Option Nat):Tr AV :=
 match r with
 | .F f n=>.req (cZ off n) (.ok (f off))
 | .M l=>match l with
   | [.arr k z n]=>.req (cZ off n) (.ok (.int k (z off)))
   | l=>match h with
     | none=>vm (qk l off)
     | some h=>FU l 0 h off
 | .I k l=>match h with
   | none=>vm (jz (.I k l) off)
   | some _=>.req (cZ off (G9 l)) (.ok (.int k (aS l off)))
 | .G l=>match h with
   | none=>vm (jz (.G l) off)
   | some _=>.bad
theorem yB {r:Row} {off:Nat} {v:AV} (h:jz r off=some v):off<r.len∧r.get off=v:=by
 rw[tb] at h
 split at h
 · rename_i h0;exact ⟨h0,Option.some.inj h⟩
 · simp at h
theorem yw {r:Row} {off:Nat} {h:Option Nat} {v:AV} (hr:(Cl r off h).run=some v):off<r.len∧r.get off=v:=by
 unfold Cl at hr
 split at hr
 · obtain ⟨hc,hr⟩:=Tr.aL hr
   rw[ij,decide_eq_true_eq] at hc
   exact ⟨hc,Tr.ae hr⟩
 · rename_i l
   split at hr
   · rename_i k z n
     obtain ⟨hc,hr⟩:=Tr.aL hr
     rw[ij,decide_eq_true_eq] at hc
     refine ⟨by simp only[Row.len,ay,aG];omega,?_⟩
     simp only[Row.get,getM]
     rw[if_pos hc];exact Tr.ae hr
   · split at hr
     · rw[cN] at hr;exact sg _ _ _ hr
     · have:=wJ _ _ _ _ _ hr
       rw[Nat.sub_zero] at this
       exact this.2
 · split at hr
   · rw[cN] at hr;exact yB hr
   · obtain ⟨hc,hr⟩:=Tr.aL hr
     rw[ij,decide_eq_true_eq,BS] at hc
     refine ⟨hc,?_⟩
     rw[← Tr.ae hr,gK];rfl
 · split at hr
   · rw[cN] at hr;exact yB hr
   · exact (Tr.ag hr).elim
def Dk (off:Nat) (h:Option Nat) (j:Nat):Nat :=
 match h with
 | none=>Nat.add off j
 | some _=>match j with
   | 0=>off
   | j+1=>av off (Nat.succ j)
theorem rp (off:Nat) (h:Option Nat) (j:Nat):Dk off h j=off+j:=by
 unfold Dk
 split
 · rfl
 · split
   · rfl
   · rw[aH]
def xI (h:Option Nat) (j:Nat):Option Nat :=
 match h with
 | none=>none
 | some h=>some (Nat.add h j)
def Cm (r:Row) (off:Nat) (h:Option Nat):Nat→Nat→Tr (List AV)
 | _,0=>.ok []
 | j,n+1=>(Cl r (Dk off h j) (xI h j)).bind fun v=>(Cm r off h (Nat.succ j) n).bind fun l=>.ok (v::l)
theorem yx {r:Row} {off:Nat} {h:Option Nat}:∀ (n j:Nat) (l:List AV),(Cm r off h j n).run=some l→l=dk r.get (off+j) n∧(n=0∨off+j+n≤r.len)
 | 0,j,l,hr=>⟨(Tr.ae hr).symm,.inl rfl⟩
 | n+1,j,l,hr=>by
   simp only[Cm] at hr
   obtain ⟨v,h1,hr⟩:=Tr.bind_some hr
   obtain ⟨m,h2,hr⟩:=Tr.bind_some hr
   have hr:=Tr.ae hr
   obtain ⟨k1,k2⟩:=yw h1
   obtain ⟨k3,k4⟩:=yx n (j+1) m h2
   rw[rp] at k1 k2
   refine ⟨?_,.inr (by omega)⟩
   rw[← hr,dk,k2,k3,show off+(j+1)=off+j+1 by omega]
def FT:List an→Nat→Nat→Nat→Nat→Tr AV
 | [],_,_,_,_=>.bad
 | .one _::r,pos,h,off,n=>match h with
   | 0=>.bad
   | h+1=>FT r (Nat.succ pos) h off n
 | .arr k z m::r,pos,h,off,n=>cond (Nat.blt h m) (.req (fC off n pos m) (.ok (.agg (.M [.arr k (rv z (dD off pos)) n])))) (FT r (Nat.add pos m) (Nat.sub h m) off n)
theorem wI:∀ (l:List an) (pos h off n:Nat) (v:AV),0<n→(FT l pos h off n).run=some v→pos≤off∧off-pos+n≤ay l∧∃ k z,kX l (off-pos) n=some (k,z)∧v=.agg (.M [.arr k z n])
 | [],_,_,_,_,_,_,h=>(Tr.ag h).elim
 | .one _::r,pos,0,off,n,v,_,h=>(Tr.ag h).elim
 | .one u::r,pos,h'+1,off,n,v,hn,h=>by
   obtain ⟨h1,h2,k,z,h3,h4⟩:=wI r (pos+1) h' off n v hn h
   refine ⟨by omega,by simp only[ay,aG];omega,k,z,?_,h4⟩
   rw[show off-pos=(off-(pos+1))+1 by omega]
   exact h3
 | .arr k z m::r,pos,h',off,n,v,hn,h=>by
   simp only[FT] at h
   cases hb:Nat.blt h' m with
   | true =>
     rw[hb,cond_true] at h
     obtain ⟨hc,h⟩:=Tr.aL h
     rw[jJ,decide_eq_true_eq] at hc
     have h:=Tr.ae h
     refine ⟨hc.1,by simp only[ay,aG];omega,k,fun j=>z (off-pos+j),?_,?_⟩
     · simp only[kX];rw[if_pos (by omega)]
     · rw[← h,mr,gf]
   | false =>
     rw[hb,cond_false] at h
     obtain ⟨h1,h2,k',z',h3,h4⟩:=wI r (pos+m) (h'-m) off n v hn h
     refine ⟨by omega,by simp only[ay,aG];omega,k',z',?_,h4⟩
     simp only[kX]
     rw[if_neg (by omega),if_pos (by omega),← h3]
     congr 1;omega
def FR:List an→Nat→Nat→Option Row
 | [],_,_=>none
 | .one _::r,o+1,n=>FR r o n
 | .one _::_,0,_=>none
 | .arr k z m::r,o,n=>cond (Nat.ble (Nat.add o n) m) (some (.M [.arr k (cond (Nat.beq o 0) z (rv z o)) n])) (cond (Nat.ble m o) (FR r (Nat.sub o m) n) none)
theorem wH:∀ (l:List an) (o n:Nat) (q:Row),FR l o n=some q→∃ k z,kX l o n=some (k,z)∧q=.M [.arr k z n]
 | [],_,_,_,h=>by cases h
 | .one u::r,o+1,n,q,h=>wH r o n q h
 | .one _::_,0,_,_,h=>by cases h
 | .arr k z m::r,o,n,q,h=>by
   simp only[FR] at h
   cases hb:Nat.ble (Nat.add o n) m with
   | true =>
     rw[hb,cond_true] at h
     have hle:o+n≤m:=Nat.le_of_ble_eq_true hb
     simp only[Option.some.injEq] at h
     refine ⟨k,fun j=>z (o+j),by simp only[kX];rw[if_pos hle],?_⟩
     rw[← h]
     cases ho:Nat.beq o 0 with
     | true =>
       have:=Nat.eq_of_beq_eq_true ho
       subst this
       simp only[cond_true,Nat.zero_add]
     | false=>rw[cond_false,mr]
   | false =>
     rw[hb,cond_false] at h
     cases hm:Nat.ble m o with
     | true =>
       rw[hm,cond_true] at h
       have hle:m≤o:=Nat.le_of_ble_eq_true hm
       have hnl:¬ (o+n≤m):=fun hc=>by
        have:Nat.ble (Nat.add o n) m=true:=by rw[Nat.ble_eq];exact hc
        rw[hb] at this;cases this
       obtain ⟨k',z',h1,h2⟩:=wH r (o-m) n q h
       exact ⟨k',z',by simp only[kX];rw[if_neg hnl,if_pos hle];exact h1,h2⟩
     | false=>rw[hm,cond_false] at h;cases h
def yy (P:Program) (t:TypeId) (r:Row) (off:Nat) (h:Option Nat):Tr AV :=
 match eQ P t with
 | some false=>Cl r off h
 | some true=>match bn P t with
   | some 0=>.bad
   | some (n+1)=>match r with
     | .M l=>cond (Nat.ble (Nat.succ n) 8) ((Cm (.M l) off h 0 (Nat.succ n)).bind fun vs=>.ok (.agg (Row.ofList vs)))
       (match h with
       | none=>cond (Nat.ble (Nat.add off (Nat.succ n)) (ay l)) (cond (Nat.beq (ay l) (Nat.succ n)) (.ok (.agg ((Row.M l).cut off (Nat.succ n)))) (match FR l off (Nat.succ n) with
         | some q=>.ok (.agg q)
         | none=>.ok (.agg ((Row.M l).cut off (Nat.succ n))))) .bad
       | some h=>cond (Nat.beq (ay l) (Nat.succ n)) .bad (FT l 0 h off (Nat.succ n)))
     | .F f m=>.req (gm (av off (Nat.succ n)) m) (.ok (.agg ((Row.F f m).cut off (Nat.succ n))))
     | .I k l=>match h with
       | none=>vm (pV P t (.I k l) off)
       | some _=>.bad
     | .G l=>match h with
       | none=>vm (pV P t (.G l) off)
       | some _=>.bad
   | none=>.bad
 | none=>.bad
theorem ta       {P : Program} {t:TypeId} {r:Row} {off:Nat} {h:Option Nat} {v:AV} (hr:(yy P t r off h).run=some v):iw P t r off=some v:=by
 unfold yy at hr
 split at hr
 · rename_i ha
   obtain ⟨h1,h2⟩:=yw hr
   unfold iw
   rw[ha]
   dsimp only
   rw[if_pos h1,h2]
 · rename_i ha
   split at hr
   · exact (Tr.ag hr).elim
   · rename_i n hs
     split at hr
     · rename_i l
       unfold iw
       rw[ha,hs]
       dsimp only
       cases hb:Nat.ble (Nat.succ n) 8 with
       | true =>
         rw[hb,cond_true] at hr
         obtain ⟨vs,h1,hr⟩:=Tr.bind_some hr
         have hr:=Tr.ae hr
         obtain ⟨k1,k2⟩:=yx _ _ _ h1
         rw[if_pos (by omega),← hr,k1]
         simp only[Row.cut]
         rw[show Nat.ble (n+1) 8=true from hb,if_pos rfl,Nat.add_zero]
         rfl
       | false =>
         rw[hb,cond_false] at hr
         split at hr
         · cases hc : Nat.ble (Nat.add off (Nat.succ n)) (ay l) with
           | true =>
             rw[hc,cond_true] at hr
             rw[Nat.ble_eq] at hc
             rw[if_pos (show off+(n+1)≤(Row.M l).len from hc)]
             cases hq:Nat.beq (ay l) (Nat.succ n) with
             | true=>rw[hq,cond_true] at hr;rw[← Tr.ae hr]
             | false =>
               rw[hq,cond_false] at hr
               split at hr
               · rename_i q hseg
                 obtain ⟨k,z,h3,h4⟩:=wH _ _ _ _ hseg
                 simp only[Row.cut]
                 rw[show Nat.ble (n+1) 8=false from hb,if_neg (by simp),show Nat.beq (ay l) (n+1)=false from hq,Bool.and_false,if_neg (by simp)]
                 have : Row.sub (.M l) off (n+1)=.M [.arr k z (n+1)]:=by
                  match l,h3,hq with
                  | [],h3,_=>simp[kX] at h3
                  | [.arr k' z' m],h3,hq =>
                    simp only[kX] at h3
                    split at h3
                    · simp only[nP] at h3
                      obtain ⟨rfl,rfl⟩:=h3
                      rfl
                    · split at h3<;>simp at h3
                  | .one u::r,h3,hq =>
                    simp only[Row.sub]
                    rw[show Nat.beq (ay (.one u::r)) (n+1)=false from hq,Bool.and_false,h3]
                    rfl
                  | .arr k' z' m::s::r,h3,hq =>
                    simp only[Row.sub]
                    rw[show Nat.beq (ay (.arr k' z' m::s::r)) (n+1)=false from hq,Bool.and_false,h3]
                    rfl
                 rw[this,← Tr.ae hr,h4]
               · rw[← Tr.ae hr]
           | false=>rw[hc,cond_false] at hr;exact (Tr.ag hr).elim
         · rename_i h
           cases hc:Nat.beq (ay l) (Nat.succ n) with
           | true=>rw[hc,cond_true] at hr;exact (Tr.ag hr).elim
           | false =>
             rw[hc,cond_false] at hr
             obtain ⟨h1,h2,k,z,h3,h4⟩:=wI _ _ _ _ _ _ (Nat.succ_pos n) hr
             rw[Nat.sub_zero] at h2 h3
             rw[if_pos (show off+(n+1)≤(Row.M l).len from h2)]
             simp only[Row.cut]
             rw[show Nat.ble (n+1) 8=false from hb,if_neg (by simp),show Nat.beq (ay l) (n+1)=false from hc,Bool.and_false,if_neg (by simp)]
             have : Row.sub (.M l) off (n+1)=.M [.arr k z (n+1)]:=by
              match l,h3,hc with
              | [],h3,_=>simp[kX] at h3
              | [.arr k' z' m],h3,hc =>
                simp only[kX] at h3
                split at h3
                · simp only[nP] at h3
                  obtain ⟨rfl,rfl⟩:=h3
                  rfl
                · split at h3<;>simp at h3
              | .one u::r,h3,hc =>
                simp only[Row.sub]
                rw[show Nat.beq (ay (.one u::r)) (n+1)=false from hc,Bool.and_false,h3]
                rfl
              | .arr k' z' m::s::r,h3,hc =>
                simp only[Row.sub]
                rw[show Nat.beq (ay (.arr k' z' m::s::r)) (n+1)=false from hc,Bool.and_false,h3]
                rfl
             rw[this,h4]
     · rename_i f m
       obtain ⟨hc,hr⟩:=Tr.aL hr
       rw[kM,decide_eq_true_eq,aH] at hc
       unfold iw
       rw[ha,hs]
       dsimp only
       rw[if_pos (show off+(n+1)≤(Row.F f m).len from hc),← Tr.ae hr]
     · split at hr
       · rw[cN,pW] at hr;exact hr
       · exact (Tr.ag hr).elim
     · split at hr
       · rw[cN,pW] at hr;exact hr
       · exact (Tr.ag hr).elim
   · exact (Tr.ag hr).elim
 · exact (Tr.ag hr).elim

def wG (H:aa) (d i v:Nat) (h:Option Nat):Tr Row :=
 match h with
 | none=>vm (xH H d i v)
 | some _=>match eg H d i with
   | (ver,.row r)=>.req (cG ver v) (.ok r)
   | _=>.bad
theorem kW {H:aa} {d i v:Nat} {h:Option Nat} {r:Row} (hr:(wG H d i v h).run=some r):cK H d i v=some r:=by
 unfold wG at hr
 split at hr
 · rw[cN,si] at hr;exact hr
 · rw[gP] at hr
   split at hr
   · rename_i ver q hg
     obtain ⟨hc,hr2⟩:=Tr.aL hr
     rw[fO,decide_eq_true_eq] at hc
     subst hc
     unfold cK
     rw[hg]
     simp only[Nat.beq_refl,if_true]
     rw[Tr.ae hr2]
   · exact (Tr.ag hr).elim
def loadT (P:Program) (H:aa) (t:TypeId) (a:HV):Tr AV :=
 match a.1 with
 | .ptr d i v off=>(wG H d i v a.2).bind fun r=>(yy P t r off a.2).bind fun x=>.ok (lu d x)
 | .ptrT s r off=>(yy P t r off a.2).bind fun x=>.ok (QN s x)
 | _=>.bad
theorem xY {P:Program} {H:aa} {t:TypeId} {a:HV} {v:AV} (hr:(loadT P H t a).run=some v):lY P H t a.1=some v:=by
 unfold loadT at hr
 unfold lY
 split at hr
 · rename_i d i ver off ha
   obtain ⟨r,h1,hr⟩:=Tr.bind_some hr
   obtain ⟨x,h2,hr⟩:=Tr.bind_some hr
   rw[ha]
   dsimp only
   rw[kW h1]
   dsimp only
   rw[ta h2,← Tr.ae hr];rfl
 · rename_i s r off ha
   obtain ⟨x,h2,hr⟩:=Tr.bind_some hr
   rw[ha]
   dsimp only
   rw[ta h2,← Tr.ae hr];rfl
 · exact (Tr.ag hr).elim

def qG:List an→Nat→AV→Option (List an)
 | [],_,_=>none
 | .one u::r,j,v=>match j with
   | 0=>some (.one v::r)
   | j+1=>match qG r j v with
     | some r'=>some (.one u::r')
     | none=>none
 | .arr k z n::r,j,v=>cond (Nat.blt j n) (match v with
    | .int k' x=>cond (gQ k' k) (some (.arr k (eW z j x) n::r)) none
    | _=>none)
   (match qG r (Nat.sub j n) v with
     | some r'=>some (.arr k z n::r')
     | none=>none)
theorem tn:∀ (l:List an) (j:Nat) (v:AV) (l':List an),qG l j v=some l'→j<ay l∧jN l j v=l'
 | [],_,_,_,h=>by simp[qG] at h
 | .one u::r,0,v,l',h=>by
   simp only[qG,Option.some.injEq] at h
   exact ⟨by simp only[ay,aG];omega,h⟩
 | .one u::r,j+1,v,l',h=>by
   simp only[qG] at h
   split at h
   · rename_i r' hr
     have:=tn r j v r' hr
     simp only[Option.some.injEq] at h
     exact ⟨by simp only[ay,aG];omega,by simp only[jN];rw[this.2];exact h⟩
   · simp at h
 | .arr k z n::r,j,v,l',h=>by
   simp only[qG] at h
   cases hb:Nat.blt j n with
   | true =>
     rw[hb,cond_true] at h
     have hj:=Bj hb
     split at h
     · rename_i k' x
       rw[j8] at h
       split at h
       · rename_i hk
         simp only[Option.some.injEq] at h
         refine ⟨by simp only[ay,aG];omega,?_⟩
         simp only[jN]
         rw[if_pos hj,if_pos hk,← h,rA]
       · simp at h
     · simp at h
   | false =>
     rw[hb,cond_false] at h
     have hj:=IB hb
     split at h
     · rename_i r' hr
       have:=tn r (j-n) v r' hr
       simp only[Option.some.injEq] at h
       exact ⟨by simp only[ay,aG];omega,by simp only[jN];rw[if_neg hj,this.2];exact h⟩
     · simp at h
def Dz:List an→Nat→Nat→Nat→AV→Tr (List an)
 | [],_,_,_,_=>.bad
 | .one u::r,pos,h,off,v=>match h with
   | 0=>.bad
   | h+1=>(Dz r (Nat.succ pos) h off v).bind fun r'=>.ok (.one u::r')
 | .arr k z n::r,pos,h,off,v=>cond (Nat.blt h n) (match v with
    | .int k' x=>cond (gQ k' k) (.req (fC off 1 pos n) (.ok (.arr k (eW z (dD off pos) x) n::r))) .bad
    | _=>.bad)
   ((Dz r (Nat.add pos n) (Nat.sub h n) off v).bind fun r'=>.ok (.arr k z n::r'))
theorem wK:∀ (l:List an) (pos h off:Nat) (v:AV) (l':List an),(Dz l pos h off v).run=some l'→pos≤off∧off-pos<ay l∧jN l (off-pos) v=l'
 | [],_,_,_,_,_,h=>(Tr.ag h).elim
 | .one _::r,pos,0,off,v,l',h=>(Tr.ag h).elim
 | .one u::r,pos,h'+1,off,v,l',h=>by
   simp only[Dz] at h
   obtain ⟨r',hr,h⟩:=Tr.bind_some h
   obtain ⟨h1,h2,h3⟩:=wK r (pos+1) h' off v r' hr
   refine ⟨by omega,by simp only[ay,aG];omega,?_⟩
   rw[show off-pos=(off-(pos+1))+1 by omega,← Tr.ae h,← h3]
   rfl
 | .arr k z n::r,pos,h',off,v,l',h=>by
   simp only[Dz] at h
   cases hb:Nat.blt h' n with
   | true =>
     rw[hb,cond_true] at h
     split at h
     · rename_i k' x
       rw[j8] at h
       split at h
       · rename_i hk
         obtain ⟨hc,h⟩:=Tr.aL h
         rw[jJ,decide_eq_true_eq] at hc
         refine ⟨hc.1,by simp only[ay,aG];omega,?_⟩
         simp only[jN]
         rw[if_pos (by omega),if_pos hk,← Tr.ae h,rA,gf]
       · exact (Tr.ag h).elim
     · exact (Tr.ag h).elim
   | false =>
     rw[hb,cond_false] at h
     obtain ⟨r',hr,h⟩:=Tr.bind_some h
     obtain ⟨h1,h2,h3⟩:=wK r (pos+n) (h'-n) off v r' hr
     refine ⟨by omega,by simp only[ay,aG];omega,?_⟩
     simp only[jN]
     rw[if_neg (by omega),← Tr.ae h,← h3,show off-pos-n=off-(pos+n) by omega]
def Lg (l:List an) (off:Nat) (h:Option Nat) (v:AV):Tr (List an) :=
 match l with
 | [.arr k z n]=>match v with
   | .int k' x=>cond (gQ k' k) (.req (cZ off n) (.ok [.arr k (eW z off x) n])) .bad
   | _=>.bad
 | l=>match h with
   | none=>vm (qG l off v)
   | some h=>Dz l 0 h off v
theorem H3 {l l':List an} {off:Nat} {h:Option Nat} {v:AV} (hr:(Lg l off h v).run=some l'):off<ay l∧jN l off v=l':=by
 unfold Lg at hr
 split at hr
 · rename_i k z n
   split at hr
   · rename_i k' x
     rw[j8] at hr
     split at hr
     · rename_i hk
       obtain ⟨hc,hr⟩:=Tr.aL hr
       rw[ij,decide_eq_true_eq] at hc
       refine ⟨by simp only[ay,aG];omega,?_⟩
       simp only[jN]
       rw[if_pos hc,if_pos hk,← Tr.ae hr,rA]
     · exact (Tr.ag hr).elim
   · exact (Tr.ag hr).elim
 · split at hr
   · rw[cN] at hr;exact tn _ _ _ _ hr
   · have:=wK _ _ _ _ _ _ hr
     rw[Nat.sub_zero] at this
     exact this.2
def yH (off:Nat) (h:Option Nat):List AV→Nat→List an→Tr (List an)
 | [],_,l=>.ok l
 | v::vs,j,l=>(Lg l (Dk off h j) (xI h j) v).bind fun l'=>yH off h vs (Nat.succ j) l'
theorem tm {off:Nat} {h:Option Nat}:∀ (vs:List AV) (j:Nat) (l l':List an),(yH off h vs j l).run=some l'→(vs=[]∨off+j+vs.length≤ay l)∧Row.cw (.M l) (off+j) vs=.M l'
 | [],j,l,l',h=>⟨.inl rfl,by rw[Tr.ae h];rfl⟩
 | v :: vs,j,l,l',h=>by
   simp only[yH] at h
   obtain ⟨l1,h1,h⟩:=Tr.bind_some h
   obtain ⟨k1,k2⟩:=H3 h1
   rw[rp] at k1 k2
   obtain ⟨k3,k4⟩:=tm vs (j+1) l1 l' h
   have hl:ay l1=ay l:=by rw[← k2,mI]
   refine ⟨.inr ?_,?_⟩
   · rcases k3 with rfl | k3
     · simp only[List.length_cons,List.length_nil];omega
     · simp only[List.length_cons];omega
   · simp only[Row.cw,Row.set,k2]
     exact k4
def FD (l:List an) (off:Nat) (h:Option Nat) (q:Row):Tr Row :=
 match l,q with
 | [.arr k z m],.M [.arr k' z' n]=>cond (gQ k' k) (.req (fC off n 0 m) (.ok (.M [.arr k (oo z off z' n) m]))) .bad
 | l,q=>cond (Nat.ble 9 (iy q)) (match h with
    | none=>cond (Nat.ble (Nat.add off (iy q)) (ay l)) (.ok (wz l off q)) .bad
    | some _=>.bad)
   (match ld q with
     | []=>.bad
     | v::vs=>(yH off h (v::vs) 0 l).bind fun l'=>.ok (.M l'))
theorem wA {l:List an} {off:Nat} {h:Option Nat} {q r:Row} (hr:(FD l off h q).run=some r):off+q.len≤ay l∧jM (.M l) off q=r:=by
 unfold FD at hr
 split at hr
 · rename_i k z m k' z' n
   rw[j8] at hr
   split at hr
   · rename_i hk
     obtain ⟨hc,hr⟩:=Tr.aL hr
     rw[jJ,decide_eq_true_eq] at hc
     refine ⟨by simp only[Row.len,ay,aG];omega,?_⟩
     simp only[jM]
     rw[if_pos hk,← Tr.ae hr,vM]
   · exact (Tr.ag hr).elim
 · rename_i hne
   have hA:jM (.M l) off q=wz l off q:=by
    simp only[jM]
    split
    · rename_i k z m
      split
      · rename_i k' z' n
        exact (hne _ _ _ _ _ _ rfl rfl).elim
      · rfl
    · rfl
   rw[hA]
   rw[eV] at hr
   cases hb:Nat.ble 9 q.len with
   | true =>
     rw[hb,cond_true] at hr
     split at hr
     · cases hc:Nat.ble (Nat.add off q.len) (ay l) with
       | true =>
         rw[hc,cond_true] at hr
         rw[Nat.ble_eq] at hc
         exact ⟨hc,Tr.ae hr⟩
       | false=>rw[hc,cond_false] at hr;exact (Tr.ag hr).elim
     · exact (Tr.ag hr).elim
   | false =>
     rw[hb,cond_false,nX] at hr
     have hl:=Row.bh q
     split at hr
     · exact (Tr.ag hr).elim
     · rename_i v vs hq
       obtain ⟨l1,h1,hr⟩:=Tr.bind_some hr
       obtain ⟨k1,k2⟩:=tm _ _ _ _ h1
       rw[hq] at hl
       refine ⟨?_,?_⟩
       · rcases k1 with k1 | k1
         · simp at k1
         · omega
       · unfold wz
         rw[hb,if_neg (by simp),hq,← Tr.ae hr,← k2];rfl
def K2 (d:Nat) (x:AV):Bool :=
 match d with
 | 0=>false
 | _+1=>match x with
   | .slc 0 _ _ _ _ _ _=>true
   | _=>false
def storeT (P:Program) (H:aa) (t:TypeId) (a:HV) (x:AV):Tr Delta :=
 match a.1 with
 | .ptr d i v off=>cond (K2 d x) (match a.2 with | none=>vm (o7 P H t a.1 x) | some _=>.bad)
   (cond (ff H d) .bad ((wG H d i v a.2).bind fun r=>match bn P t with
     | some n=>match x.row with
       | some q=>cond (Nat.beq (iy q) n) (match r with
         | .M l=>(FD l off a.2 (jn d q)).bind fun r'=>.ok (.set d i (v,.row r'))
         | _=>match a.2 with | none=>vm (o7 P H t a.1 x) | some _=>.bad) .bad
       | none=>.bad
     | none=>.bad))
 | _=>.bad
theorem DG {P:Program} {H:aa} {t:TypeId} {a:HV} {x:AV} {δ:Delta} (hr:(storeT P H t a x).run=some δ):gd P H t a.1 x=some δ:=by
 unfold storeT at hr
 split at hr
 · rename_i d i v off ha
   cases ho:K2 d x with
   | true =>
     rw[ho,cond_true] at hr
     split at hr
     · rw[cN,nU] at hr;exact hr
     · exact (Tr.ag hr).elim
   | false =>
     rw[ho,cond_false,dK] at hr
     cases hl:aE H d with
     | true=>rw[hl,cond_true] at hr;exact (Tr.ag hr).elim
     | false =>
       rw[hl,cond_false] at hr
       obtain ⟨r,h1,hr⟩:=Tr.bind_some hr
       split at hr
       · rename_i n hs
         split at hr
         · rename_i q hq
           rw[eV] at hr
           cases hb:Nat.beq q.len n with
           | false=>rw[hb,cond_false] at hr;exact (Tr.ag hr).elim
           | true =>
             rw[hb,cond_true] at hr
             have hb:q.len=n:=by simpa using hb
             split at hr
             · rename_i l
               obtain ⟨r',h2,hr⟩:=Tr.bind_some hr
               obtain ⟨k1,k2⟩:=wA h2
               rw[eY] at k1
               rw[ha]
               unfold gd
               dsimp only
               rw[hl,if_neg (by simp),kW h1,hs,hq]
               dsimp only
               rw[if_pos ⟨hb,by show off+n≤ay l;omega⟩]
               have:∀ (d':Nat) (j w o sz len:Nat) (cap:Option Nat),d=d'+1→x≠.slc 0 j w o sz len cap:=by
                rintro d' j w o sz len cap rfl rfl
                simp[K2] at ho
               rw[← Tr.ae hr,← k2]
               split
               · exact absurd rfl (this _ _ _ _ _ _ _ rfl)
               · rfl
             · split at hr
               · rw[cN,nU] at hr;exact hr
               · exact (Tr.ag hr).elim
         · exact (Tr.ag hr).elim
       · exact (Tr.ag hr).elim
 · exact (Tr.ag hr).elim

def hOr (h:Option Nat) (off:Nat):Nat :=
 match h with
 | none=>off
 | some h=>h
def nk (P:Program) (t:TypeId) (a:HV) (f:Nat):Tr HV :=
 match P.underlying t with
 | some (.struct fs)=>match fs[f]? with
   | some g=>match bn P g.type with
     | some (_+1)=>match a.1 with
       | .ptr d i v off=>.ok (.ptr d i v (Dk off a.2 g.offset),xI a.2 g.offset)
       | .ptrT s r off=>.ok (.ptrT s r (Dk off a.2 g.offset),xI a.2 g.offset)
       | _=>.bad
     | _=>.bad
   | none=>.bad
 | _=>.bad
theorem tY {P:Program} {t:TypeId} {a b:HV} {f:Nat} (hr:(nk P t a f).run=some b):gu P t a.1 f=some b.1:=by
 unfold nk at hr
 unfold gu
 split at hr
 · rename_i fs hu
   rw[hu]
   dsimp only
   split at hr
   · rename_i g hg
     rw[hg]
     dsimp only
     split at hr
     · rename_i n hs
       rw[hs]
       dsimp only
       split at hr
       · rename_i d i v off ha
         rw[ha,← Tr.ae hr];simp only[kr,rp]
       · rename_i s r off ha
         rw[ha,← Tr.ae hr];simp only[kr,rp]
       · exact (Tr.ag hr).elim
     · exact (Tr.ag hr).elim
   · exact (Tr.ag hr).elim
 · exact (Tr.ag hr).elim
def isLit (x:HV):Bool :=
 match x.2 with
 | some _=>true
 | none=>false
def Ft (off:Nat) (ic:Bool) (i:Int) (z:Nat):Nat:=cond ic (Nat.add off (Nat.mul i.toNat z)) (aC off i z)
theorem rn (off:Nat) (ic:Bool) (i:Int) (z:Nat):Ft off ic i z=off+i.toNat*z:=by
 cases ic with
 | true=>rfl
 | false=>exact bY _ _ _
def BJ (h:Option Nat) (off:Nat) (ic:Bool) (i:Int) (z:Nat):Option Nat :=
 cond ic (xI h (Nat.mul i.toNat z)) (some (hOr h off))
def Kx (P:Program) (t:TypeId) (a:HV) (ic:Bool) (i:Int):Tr HV :=
 match P.underlying t with
 | some (.array n e)=>match bn P e with
   | some z=>match a.1 with
     | .ptr d j v off=>.req (dj i n) (.ok (.ptr d j v (Ft off ic i z),BJ a.2 off ic i z))
     | .ptrT s r off=>.req (dj i n) (.ok (.ptrT s r (Ft off ic i z),BJ a.2 off ic i z))
     | _=>.bad
   | none=>.bad
 | some (.slice e)=>match bn P e with
   | some z=>match a.1 with
     | .slc d j v off sz len cap=>cond (Nat.beq z sz) (.req (dj i len) (.ok (.ptr d j v (Ft off ic i z),match cap with
       | some _=>BJ none off ic i z
       | none=>some off))) .bad
     | .slcT s r sz len _=>cond (Nat.beq z sz) (.req (dj i len) (.ok (.ptrT s r (Ft 0 ic i z),BJ none 0 ic i z))) .bad
     | _=>.bad
   | none=>.bad
 | _=>.bad
def Ox (P:Program) (t:TypeId) (x:AV) (ic:Bool) (i:Int):Tr AV :=
 cond ic (vm (pI P t x i)) (match P.underlying t with
  | some (.array n e)=>match x with
    | .agg r=>match bn P e with
      | some z=>.req (dj i n) (yy P e r (aC 0 i z) (some 0))
      | none=>.bad
    | _=>.bad
  | _=>.bad)
theorem KE {P:Program} {t:TypeId} {x v:AV} {ic:Bool} {i:Int} (hr:(Ox P t x ic i).run=some v):pI P t x i=some v:=by
 unfold Ox at hr
 cases ic with
 | true=>rw[cond_true,cN] at hr;exact hr
 | false =>
   rw[cond_false] at hr
   split at hr
   · rename_i n e hu
     split at hr
     · split at hr
       · rename_i z hs
         obtain ⟨hc,hr⟩:=Tr.aL hr
         rw[pH,decide_eq_true_eq] at hc
         have h:=ta hr
         rw[bY,Nat.zero_add] at h
         unfold pI
         rw[hu]
         dsimp only
         rw[hs]
         dsimp only
         rw[if_pos hc,h]
       · exact (Tr.ag hr).elim
     · exact (Tr.ag hr).elim
   · exact (Tr.ag hr).elim
theorem G4 {P:Program} {t:TypeId} {a b:HV} {ic:Bool} {i:Int} (hr:(Kx P t a ic i).run=some b):fi P t a.1 i=some b.1:=by
 unfold Kx at hr
 unfold fi
 split at hr
 · rename_i n e hu
   split at hr
   · rename_i z hs
     split at hr
     · rename_i d j v off ha
       obtain ⟨hc,hr⟩:=Tr.aL hr
       rw[pH,decide_eq_true_eq] at hc
       rw[hu,ha]
       dsimp only
       rw[hs]
       dsimp only
       rw[if_pos hc,← Tr.ae hr]
       simp only[kr,rn]
     · rename_i s r off ha
       obtain ⟨hc,hr⟩:=Tr.aL hr
       rw[pH,decide_eq_true_eq] at hc
       rw[hu,ha]
       dsimp only
       rw[hs]
       dsimp only
       rw[if_pos hc,← Tr.ae hr]
       simp only[kr,rn]
     · exact (Tr.ag hr).elim
   · exact (Tr.ag hr).elim
 · rename_i e hu
   split at hr
   · rename_i z hs
     split at hr
     · rename_i d j v off sz len cap ha
       cases hb:Nat.beq z sz with
       | false=>rw[hb,cond_false] at hr;exact (Tr.ag hr).elim
       | true =>
         rw[hb,cond_true] at hr
         have hb:z=sz:=by simpa using hb
         subst hb
         obtain ⟨hc,hr⟩:=Tr.aL hr
         rw[pH,decide_eq_true_eq] at hc
         rw[hu,ha]
         dsimp only
         rw[if_pos ⟨hc.1,hc.2,hs⟩,← Tr.ae hr]
         simp only[rn]
     · rename_i s r sz len full ha
       cases hb:Nat.beq z sz with
       | false=>rw[hb,cond_false] at hr;exact (Tr.ag hr).elim
       | true =>
         rw[hb,cond_true] at hr
         have hb:z=sz:=by simpa using hb
         subst hb
         obtain ⟨hc,hr⟩:=Tr.aL hr
         rw[pH,decide_eq_true_eq] at hc
         rw[hu,ha]
         dsimp only
         rw[if_pos ⟨hc.1,hc.2,hs⟩,← Tr.ae hr]
         simp only[rn,Nat.zero_add]
     · exact (Tr.ag hr).elim
   · exact (Tr.ag hr).elim
 · exact (Tr.ag hr).elim

end
end Go.Eng
