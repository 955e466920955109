/- The engine as a tree: frames with hints, rows, loads, stores, addresses. -/
import Derived.Test.YtoomemfhcbajoaaV3EngOrax2
set_option linter.unusedVariables false
set_option linter.unusedSimpArgs false
namespace Go.Eng
noncomputable section

abbrev HV:=AV×Option Nat
abbrev aI:=List (Nat×HV)
def strip (f:aI):ao:=List.rec (motive:=fun _=>ao) [] (fun p _ ih=>(p.1,p.2.1)::ih) f
theorem c6 (x:Nat) (v:HV) (r:aI):strip ((x,v)::r)=(x,v.1)::strip r:=rfl
def lC (f:aI) (y:Nat):HV:=List.rec (motive:=fun _=>HV) (AV.undef,none) (fun p _ ih=>Bool.rec ih p.2 (Nat.beq p.1 y)) f
theorem fh:∀ (f:aI) (y:Nat),(lC f y).1=bo (strip f) y
 | [],y=>rfl
 | (x,v)::r,y=>by
   have e:lC ((x,v)::r) y=Bool.rec (lC r y) v (Nat.beq x y):=rfl
   rw[e,c6,bo]
   cases Nat.beq x y with
   | true=>rfl
   | false=>exact fh r y
def x8 (f:aI) (y:Nat) (u:HV):aI:=List.rec (motive:=fun _=>aI) [(y,u)] (fun p r ih=>Bool.rec (motive:=fun _=>aI) (p::ih) (Bool.rec (motive:=fun _=>aI) ((y,u)::p::r) ((y,u)::r) (Nat.beq p.1 y)) (Nat.ble y p.1)) f
theorem x9:∀ (f:aI) (y:Nat) (u:HV),strip (x8 f y u)=tV (strip f) y u.1
 | [],y,u=>rfl
 | (x,v)::r,y,u=>by
   have e:x8 ((x,v)::r) y u=Bool.rec (motive:=fun _=>aI) ((x,v)::x8 r y u) (Bool.rec (motive:=fun _=>aI) ((y,u)::(x,v)::r) ((y,u)::r) (Nat.beq x y)) (Nat.ble y x):=rfl
   rw[e,c6,tV,← x9 r y u]
   cases Nat.ble y x with
   | false=>rfl
   | true=>cases Nat.beq x y<;>rfl
def gB (f:aI) (m:Nat):aI:=List.rec (motive:=fun _=>aI) [] (fun p _ ih=>Bool.rec (motive:=fun _=>aI) (p::ih) ih (Nat.beq (Nat.land (Nat.shiftRight m p.1) 1) 1)) f
theorem eQ:∀ (f:aI) (m:Nat),strip (gB f m)=bM (strip f) m
 | [],m=>rfl
 | (x,v)::r,m=>by
   have e:gB ((x,v)::r) m=Bool.rec (motive:=fun _=>aI) ((x,v)::gB r m) (gB r m) (Nat.beq (Nat.land (Nat.shiftRight m x) 1) 1):=rfl
   have e2:bM ((x,v.1)::strip r) m=Bool.rec (motive:=fun _=>ao) ((x,v.1)::bM (strip r) m) (bM (strip r) m) (Nat.beq (Nat.land (Nat.shiftRight m x) 1) 1):=rfl
   rw[e,c6,e2,← eQ r m]
   cases Nat.beq (Nat.land (Nat.shiftRight m x) 1) 1<;>rfl
def Oc (v:Value):Option Nat :=
 match v with
 | .int _ _=>some 1
 | .bool _=>some 1
 | _=>none
def bW (fr:aI) (x:Operand):HV:=Operand.rec (motive:=fun _=>HV) (fun t=>lC fr t) (fun v=>(kF v,Oc v)) (fun _=>(.undef,none)) (fun f=>(.fn (.func f) [] [],none)) x
theorem aT (fr:aI) (x:Operand):(bW fr x).1=bI (strip fr) x:=by
 cases x with
 | tmp t=>exact fh fr t
 | _=>rfl
def yX (fr:aI) (l:List Operand):List AV:=nE (fun x=>(bW fr x).1) l
theorem sY (fr:aI):∀ l,yX fr l=jG (strip fr) l
 | []=>rfl
 | x::l=>by
   have e:yX fr (x::l)=(bW fr x).1::yX fr l:=rfl
   rw[e,sY fr l,aT];rfl
def qY (nt:Nat) (fr:aI) (dst:Option Tmp) (v:HV):aI:=Option.rec (motive:=fun _=>aI) fr (fun d=>Bool.rec (motive:=fun _=>aI) fr (x8 fr d v) (Nat.ble (Nat.succ d) nt)) dst
theorem mh (nt:Nat) (fr:aI) (dst:Option Tmp) (v:HV):strip (qY nt fr dst v)=dp nt (strip fr) dst v.1:=by
 rw[← pd]
 cases dst with
 | none=>rfl
 | some d =>
   have e:qY nt fr (some d) v=Bool.rec (motive:=fun _=>aI) fr (x8 fr d v) (Nat.ble (Nat.succ d) nt):=rfl
   have e2:qZ nt (strip fr) (some d) v.1=Bool.rec (motive:=fun _=>ao) (strip fr) (uQ (strip fr) d v.1) (Nat.ble (Nat.succ d) nt):=rfl
   rw[e,e2,xM,← x9]
   cases Nat.ble (Nat.succ d) nt<;>rfl

def qL:List ah→Nat→Option AV
 | [],_=>none
 | .one v::r,j=>match j with
   | 0=>some v
   | j+1=>qL r j
 | .arr k z n::r,j=>cond (Nat.blt j n) (some (.int k (z j))) (qL r (Nat.sub j n))
theorem Bf {a b:Nat} (h:Nat.blt a b=true):a<b:=by rwa [Nat.blt_eq] at h
theorem HX {a b:Nat} (h:Nat.blt a b=false):¬ a<b:=fun e=>by
 have:Nat.blt a b=true:=by rw[Nat.blt_eq];exact e
 rw[h] at this;cases this
theorem sn:∀ (l:List ah) (j:Nat) (v:AV),qL l j=some v→j<aw l∧getM l j=v
 | [],_,_,h=>by simp[qL] at h
 | .one u::r,0,v,h=>by
   simp only[qL,Option.some.injEq] at h
   exact ⟨by simp only[aw,aM];omega,h⟩
 | .one u::r,j+1,v,h=>by
   have:=sn r j v (by simpa[qL] using h)
   exact ⟨by simp only[aw,aM];omega,this.2⟩
 | .arr k z n::r,j,v,h=>by
   simp only[qL] at h
   simp only[aw,aM,getM]
   cases hb:Nat.blt j n with
   | true =>
     rw[hb,cond_true,Option.some.injEq] at h
     have:=Bf hb
     exact ⟨by omega,by rw[if_pos this];exact h⟩
   | false =>
     rw[hb,cond_false] at h
     have hn:=HX hb
     have:=sn r (j-n) v h
     exact ⟨by omega,by rw[if_neg hn];exact this.2⟩
def FN:List ah→Nat→Nat→Nat→Tr AV
 | [],_,_,_=>.bad
 | .one _::r,pos,h,off=>match h with
   | 0=>.bad
   | h+1=>FN r (Nat.succ pos) h off
 | .arr k z n::r,pos,h,off=>cond (Nat.blt h n) (.req (fW off 1 pos n) (.ok (.int k (z (tB off pos))))) (FN r (Nat.add pos n) (Nat.sub h n) off)
theorem xf:∀ (l:List ah) (pos h off:Nat) (v:AV),(FN l pos h off).run=some v→pos≤off∧off-pos<aw l∧getM l (off-pos)=v
 | [],_,_,_,_,h=>(Tr.ae h).elim
 | .one _::r,pos,0,off,v,h=>(Tr.ae h).elim
 | .one u::r,pos,h'+1,off,v,h=>by
   obtain ⟨h1,h2,h3⟩:=xf r (pos+1) h' off v h
   refine ⟨by omega,by simp only[aw,aM];omega,?_⟩
   rw[show off-pos=(off-(pos+1))+1 by omega]
   exact h3
 | .arr k z n::r,pos,h',off,v,h=>by
   simp only[FN] at h
   cases hb:Nat.blt h' n with
   | true =>
     rw[hb,cond_true] at h
     obtain ⟨hc,h⟩:=Tr.aP h
     rw[gF,decide_eq_true_eq] at hc
     have h:=Tr.ab h
     refine ⟨hc.1,by simp only[aw,aM];omega,?_⟩
     simp only[getM]
     rw[if_pos (by omega),← h,ll]
   | false =>
     rw[hb,cond_false] at h
     obtain ⟨h1,h2,h3⟩:=xf r (pos+n) (h'-n) off v h
     refine ⟨by omega,by simp only[aw,aM];omega,?_⟩
     simp only[getM]
     rw[if_neg (by omega),← h3]
     congr 1;omega
def B9 (r:Row) (off:Nat) (h:Option Nat):Tr AV :=
 match r with
 | .F f n=>.req (cJ off n) (.ok (f off))
 | .M l=>match l with
   | [.arr k z n]=>.req (cJ off n) (.ok (.int k (z off)))
   | l=>match h with
     | none=>vr (qL l off)
     | some h=>FN l 0 h off
 | .I k l=>match h with
   | none=>vr (jv (.I k l) off)
   | some _=>.req (cJ off (Jy l)) (.ok (.int k (aA l off)))
 | .G l=>match h with
   | none=>vr (jv (.G l) off)
   | some _=>.bad
theorem zm {r:Row} {off:Nat} {v:AV} (h:jv r off=some v):off<r.len∧r.get off=v:=by
 rw[ta] at h
 split at h
 · rename_i h0;exact ⟨h0,Option.some.inj h⟩
 · simp at h
theorem zh {r:Row} {off:Nat} {h:Option Nat} {v:AV} (hr:(B9 r off h).run=some v):off<r.len∧r.get off=v:=by
 unfold B9 at hr
 split at hr
 · obtain ⟨hc,hr⟩:=Tr.aP hr
   rw[gm,decide_eq_true_eq] at hc
   exact ⟨hc,Tr.ab hr⟩
 · rename_i l
   split at hr
   · rename_i k z n
     obtain ⟨hc,hr⟩:=Tr.aP hr
     rw[gm,decide_eq_true_eq] at hc
     refine ⟨by simp only[Row.len,aw,aM];omega,?_⟩
     simp only[Row.get,getM]
     rw[if_pos hc];exact Tr.ab hr
   · split at hr
     · rw[cQ] at hr;exact sn _ _ _ hr
     · have:=xf _ _ _ _ _ hr
       rw[Nat.sub_zero] at this
       exact this.2
 · split at hr
   · rw[cQ] at hr;exact zm hr
   · obtain ⟨hc,hr⟩:=Tr.aP hr
     rw[gm,decide_eq_true_eq,GS] at hc
     refine ⟨hc,?_⟩
     rw[← Tr.ab hr,BI];rfl
 · split at hr
   · rw[cQ] at hr;exact zm hr
   · exact (Tr.ae hr).elim
def Di (off:Nat) (h:Option Nat) (j:Nat):Nat :=
 match h with
 | none=>Nat.add off j
 | some _=>match j with
   | 0=>off
   | j+1=>bY off (Nat.succ j)
theorem rG (off:Nat) (h:Option Nat) (j:Nat):Di off h j=off+j:=by
 unfold Di
 split
 · rfl
 · split
   · rfl
   · rw[bH]
def yd (h:Option Nat) (j:Nat):Option Nat :=
 match h with
 | none=>none
 | some h=>some (Nat.add h j)
def Ca (r:Row) (off:Nat) (h:Option Nat):Nat→Nat→Tr (List AV)
 | _,0=>.ok []
 | j,n+1=>(B9 r (Di off h j) (yd h j)).bind fun v=>(Ca r off h (Nat.succ j) n).bind fun l=>.ok (v::l)
theorem zi {r:Row} {off:Nat} {h:Option Nat}:∀ (n j:Nat) (l:List AV),(Ca r off h j n).run=some l→l=di r.get (off+j) n∧(n=0∨off+j+n≤r.len)
 | 0,j,l,hr=>⟨(Tr.ab hr).symm,.inl rfl⟩
 | n+1,j,l,hr=>by
   simp only[Ca] at hr
   obtain ⟨v,h1,hr⟩:=Tr.bind_some hr
   obtain ⟨m,h2,hr⟩:=Tr.bind_some hr
   have hr:=Tr.ab hr
   obtain ⟨k1,k2⟩:=zh h1
   obtain ⟨k3,k4⟩:=zi n (j+1) m h2
   rw[rG] at k1 k2
   refine ⟨?_,.inr (by omega)⟩
   rw[← hr,di,k2,k3,show off+(j+1)=off+j+1 by omega]
def FM:List ah→Nat→Nat→Nat→Nat→Tr AV
 | [],_,_,_,_=>.bad
 | .one _::r,pos,h,off,n=>match h with
   | 0=>.bad
   | h+1=>FM r (Nat.succ pos) h off n
 | .arr k z m::r,pos,h,off,n=>cond (Nat.blt h m) (.req (fW off n pos m) (.ok (.agg (.M [.arr k (dE z (tB off pos)) n])))) (FM r (Nat.add pos m) (Nat.sub h m) off n)
theorem xe:∀ (l:List ah) (pos h off n:Nat) (v:AV),0<n→(FM l pos h off n).run=some v→pos≤off∧off-pos+n≤aw l∧∃ k z,lj l (off-pos) n=some (k,z)∧v=.agg (.M [.arr k z n])
 | [],_,_,_,_,_,_,h=>(Tr.ae h).elim
 | .one _::r,pos,0,off,n,v,_,h=>(Tr.ae h).elim
 | .one u::r,pos,h'+1,off,n,v,hn,h=>by
   obtain ⟨h1,h2,k,z,h3,h4⟩:=xe r (pos+1) h' off n v hn h
   refine ⟨by omega,by simp only[aw,aM];omega,k,z,?_,h4⟩
   rw[show off-pos=(off-(pos+1))+1 by omega]
   exact h3
 | .arr k z m::r,pos,h',off,n,v,hn,h=>by
   simp only[FM] at h
   cases hb:Nat.blt h' m with
   | true =>
     rw[hb,cond_true] at h
     obtain ⟨hc,h⟩:=Tr.aP h
     rw[gF,decide_eq_true_eq] at hc
     have h:=Tr.ab h
     refine ⟨hc.1,by simp only[aw,aM];omega,k,fun j=>z (off-pos+j),?_,?_⟩
     · simp only[lj];rw[if_pos (by omega)]
     · rw[← h,mr,ll]
   | false =>
     rw[hb,cond_false] at h
     obtain ⟨h1,h2,k',z',h3,h4⟩:=xe r (pos+m) (h'-m) off n v hn h
     refine ⟨by omega,by simp only[aw,aM];omega,k',z',?_,h4⟩
     simp only[lj]
     rw[if_neg (by omega),if_pos (by omega),← h3]
     congr 1;omega
def FL:List ah→Nat→Nat→Option Row
 | [],_,_=>none
 | .one _::r,o+1,n=>FL r o n
 | .one _::_,0,_=>none
 | .arr k z m::r,o,n=>cond (Nat.ble (Nat.add o n) m) (some (.M [.arr k (cond (Nat.beq o 0) z (dE z o)) n])) (cond (Nat.ble m o) (FL r (Nat.sub o m) n) none)
theorem w9:∀ (l:List ah) (o n:Nat) (q:Row),FL l o n=some q→∃ k z,lj l o n=some (k,z)∧q=.M [.arr k z n]
 | [],_,_,_,h=>by cases h
 | .one u::r,o+1,n,q,h=>w9 r o n q h
 | .one _::_,0,_,_,h=>by cases h
 | .arr k z m::r,o,n,q,h=>by
   simp only[FL] at h
   cases hb:Nat.ble (Nat.add o n) m with
   | true =>
     rw[hb,cond_true] at h
     have hle:o+n≤m:=Nat.le_of_ble_eq_true hb
     simp only[Option.some.injEq] at h
     refine ⟨k,fun j=>z (o+j),by simp only[lj];rw[if_pos hle],?_⟩
     rw[← h]
     cases ho:Nat.beq o 0 with
     | true =>
       have:=Nat.eq_of_beq_eq_true ho
       subst this
       simp only[cond_true,Nat.zero_add]
     | false=>rw[cond_false,mr]
   | false =>
     rw[hb,cond_false] at h
     cases hm:Nat.ble m o with
     | true =>
       rw[hm,cond_true] at h
       have hle:m≤o:=Nat.le_of_ble_eq_true hm
       have hnl:¬ (o+n≤m):=fun hc=>by
        have:Nat.ble (Nat.add o n) m=true:=by rw[Nat.ble_eq];exact hc
        rw[hb] at this;cases this
       obtain ⟨k',z',h1,h2⟩:=w9 r (o-m) n q h
       exact ⟨k',z',by simp only[lj];rw[if_neg hnl,if_pos hle];exact h1,h2⟩
     | false=>rw[hm,cond_false] at h;cases h
def zj (P:Program) (t:TypeId) (r:Row) (off:Nat) (h:Option Nat):Tr AV :=
 match ff P t with
 | some false=>B9 r off h
 | some true=>match bh P t with
   | some 0=>.bad
   | some (n+1)=>match r with
     | .M l=>cond (Nat.ble (Nat.succ n) 8) ((Ca (.M l) off h 0 (Nat.succ n)).bind fun vs=>.ok (.agg (Row.ofList vs)))
       (match h with
       | none=>cond (Nat.ble (Nat.add off (Nat.succ n)) (aw l)) (cond (Nat.beq (aw l) (Nat.succ n)) (.ok (.agg ((Row.M l).cut off (Nat.succ n)))) (match FL l off (Nat.succ n) with
         | some q=>.ok (.agg q)
         | none=>.ok (.agg ((Row.M l).cut off (Nat.succ n))))) .bad
       | some h=>cond (Nat.beq (aw l) (Nat.succ n)) .bad (FM l 0 h off (Nat.succ n)))
     | .F f m=>.req (ik (bY off (Nat.succ n)) m) (.ok (.agg ((Row.F f m).cut off (Nat.succ n))))
     | .I k l=>match h with
       | none=>vr (qn P t (.I k l) off)
       | some _=>.bad
     | .G l=>match h with
       | none=>vr (qn P t (.G l) off)
       | some _=>.bad
   | none=>.bad
 | none=>.bad
theorem s9       {P : Program} {t:TypeId} {r:Row} {off:Nat} {h:Option Nat} {v:AV} (hr:(zj P t r off h).run=some v):ir P t r off=some v:=by
 unfold zj at hr
 split at hr
 · rename_i ha
   obtain ⟨h1,h2⟩:=zh hr
   unfold ir
   rw[ha]
   dsimp only
   rw[if_pos h1,h2]
 · rename_i ha
   split at hr
   · exact (Tr.ae hr).elim
   · rename_i n hs
     split at hr
     · rename_i l
       unfold ir
       rw[ha,hs]
       dsimp only
       cases hb:Nat.ble (Nat.succ n) 8 with
       | true =>
         rw[hb,cond_true] at hr
         obtain ⟨vs,h1,hr⟩:=Tr.bind_some hr
         have hr:=Tr.ab hr
         obtain ⟨k1,k2⟩:=zi _ _ _ h1
         rw[if_pos (by omega),← hr,k1]
         simp only[Row.cut]
         rw[show Nat.ble (n+1) 8=true from hb,if_pos rfl,Nat.add_zero]
         rfl
       | false =>
         rw[hb,cond_false] at hr
         split at hr
         · cases hc : Nat.ble (Nat.add off (Nat.succ n)) (aw l) with
           | true =>
             rw[hc,cond_true] at hr
             rw[Nat.ble_eq] at hc
             rw[if_pos (show off+(n+1)≤(Row.M l).len from hc)]
             cases hq:Nat.beq (aw l) (Nat.succ n) with
             | true=>rw[hq,cond_true] at hr;rw[← Tr.ab hr]
             | false =>
               rw[hq,cond_false] at hr
               split at hr
               · rename_i q hseg
                 obtain ⟨k,z,h3,h4⟩:=w9 _ _ _ _ hseg
                 simp only[Row.cut]
                 rw[show Nat.ble (n+1) 8=false from hb,if_neg (by simp),show Nat.beq (aw l) (n+1)=false from hq,Bool.and_false,if_neg (by simp)]
                 have : Row.sub (.M l) off (n+1)=.M [.arr k z (n+1)]:=by
                  match l,h3,hq with
                  | [],h3,_=>simp[lj] at h3
                  | [.arr k' z' m],h3,hq =>
                    simp only[lj] at h3
                    split at h3
                    · simp only[nP] at h3
                      obtain ⟨rfl,rfl⟩:=h3
                      rfl
                    · split at h3<;>simp at h3
                  | .one u::r,h3,hq =>
                    simp only[Row.sub]
                    rw[show Nat.beq (aw (.one u::r)) (n+1)=false from hq,Bool.and_false,h3]
                    rfl
                  | .arr k' z' m::s::r,h3,hq =>
                    simp only[Row.sub]
                    rw[show Nat.beq (aw (.arr k' z' m::s::r)) (n+1)=false from hq,Bool.and_false,h3]
                    rfl
                 rw[this,← Tr.ab hr,h4]
               · rw[← Tr.ab hr]
           | false=>rw[hc,cond_false] at hr;exact (Tr.ae hr).elim
         · rename_i h
           cases hc:Nat.beq (aw l) (Nat.succ n) with
           | true=>rw[hc,cond_true] at hr;exact (Tr.ae hr).elim
           | false =>
             rw[hc,cond_false] at hr
             obtain ⟨h1,h2,k,z,h3,h4⟩:=xe _ _ _ _ _ _ (Nat.succ_pos n) hr
             rw[Nat.sub_zero] at h2 h3
             rw[if_pos (show off+(n+1)≤(Row.M l).len from h2)]
             simp only[Row.cut]
             rw[show Nat.ble (n+1) 8=false from hb,if_neg (by simp),show Nat.beq (aw l) (n+1)=false from hc,Bool.and_false,if_neg (by simp)]
             have : Row.sub (.M l) off (n+1)=.M [.arr k z (n+1)]:=by
              match l,h3,hc with
              | [],h3,_=>simp[lj] at h3
              | [.arr k' z' m],h3,hc =>
                simp only[lj] at h3
                split at h3
                · simp only[nP] at h3
                  obtain ⟨rfl,rfl⟩:=h3
                  rfl
                · split at h3<;>simp at h3
              | .one u::r,h3,hc =>
                simp only[Row.sub]
                rw[show Nat.beq (aw (.one u::r)) (n+1)=false from hc,Bool.and_false,h3]
                rfl
              | .arr k' z' m::s::r,h3,hc =>
                simp only[Row.sub]
                rw[show Nat.beq (aw (.arr k' z' m::s::r)) (n+1)=false from hc,Bool.and_false,h3]
                rfl
             rw[this,h4]
     · rename_i f m
       obtain ⟨hc,hr⟩:=Tr.aP hr
       rw[kS,decide_eq_true_eq,bH] at hc
       unfold ir
       rw[ha,hs]
       dsimp only
       rw[if_pos (show off+(n+1)≤(Row.F f m).len from hc),← Tr.ab hr]
     · split at hr
       · rw[cQ,qo] at hr;exact hr
       · exact (Tr.ae hr).elim
     · split at hr
       · rw[cQ,qo] at hr;exact hr
       · exact (Tr.ae hr).elim
   · exact (Tr.ae hr).elim
 · exact (Tr.ae hr).elim

def w7 (H:aa) (d i v:Nat) (h:Option Nat):Tr Row :=
 match h with
 | none=>vr (ya H d i v)
 | some _=>match eI H d i with
   | (ver,.row r)=>.req (cu ver v) (.ok r)
   | _=>.bad
theorem lg {H:aa} {d i v:Nat} {h:Option Nat} {r:Row} (hr:(w7 H d i v h).run=some r):dy H d i v=some r:=by
 unfold w7 at hr
 split at hr
 · rw[cQ,sq] at hr;exact hr
 · rw[gY] at hr
   split at hr
   · rename_i ver q hg
     obtain ⟨hc,hr2⟩:=Tr.aP hr
     rw[gb,decide_eq_true_eq] at hc
     subst hc
     unfold dy
     rw[hg]
     simp only[Nat.beq_refl,if_true]
     rw[Tr.ab hr2]
   · exact (Tr.ae hr).elim
def loadT (P:Program) (H:aa) (t:TypeId) (a:HV):Tr AV :=
 match a.1 with
 | .ptr d i v off=>(w7 H d i v a.2).bind fun r=>(zj P t r off a.2).bind fun x=>.ok (fz d x)
 | .ptrT s r off=>(zj P t r off a.2).bind fun x=>.ok (Pt s x)
 | _=>.bad
theorem yB {P:Program} {H:aa} {t:TypeId} {a:HV} {v:AV} (hr:(loadT P H t a).run=some v):ma P H t a.1=some v:=by
 unfold loadT at hr
 unfold ma
 split at hr
 · rename_i d i ver off ha
   obtain ⟨r,h1,hr⟩:=Tr.bind_some hr
   obtain ⟨x,h2,hr⟩:=Tr.bind_some hr
   rw[ha]
   dsimp only
   rw[lg h1]
   dsimp only
   rw[s9 h2,← Tr.ab hr];rfl
 · rename_i s r off ha
   obtain ⟨x,h2,hr⟩:=Tr.bind_some hr
   rw[ha]
   dsimp only
   rw[s9 h2,← Tr.ab hr];rfl
 · exact (Tr.ae hr).elim

def rf:List ah→Nat→AV→Option (List ah)
 | [],_,_=>none
 | .one u::r,j,v=>match j with
   | 0=>some (.one v::r)
   | j+1=>match rf r j v with
     | some r'=>some (.one u::r')
     | none=>none
 | .arr k z n::r,j,v=>cond (Nat.blt j n) (match v with
    | .int k' x=>cond (gw k' k) (some (.arr k (fH z j x) n::r)) none
    | _=>none)
   (match rf r (Nat.sub j n) v with
     | some r'=>some (.arr k z n::r')
     | none=>none)
theorem tr:∀ (l:List ah) (j:Nat) (v:AV) (l':List ah),rf l j v=some l'→j<aw l∧jJ l j v=l'
 | [],_,_,_,h=>by simp[rf] at h
 | .one u::r,0,v,l',h=>by
   simp only[rf,Option.some.injEq] at h
   exact ⟨by simp only[aw,aM];omega,h⟩
 | .one u::r,j+1,v,l',h=>by
   simp only[rf] at h
   split at h
   · rename_i r' hr
     have:=tr r j v r' hr
     simp only[Option.some.injEq] at h
     exact ⟨by simp only[aw,aM];omega,by simp only[jJ];rw[this.2];exact h⟩
   · simp at h
 | .arr k z n::r,j,v,l',h=>by
   simp only[rf] at h
   cases hb:Nat.blt j n with
   | true =>
     rw[hb,cond_true] at h
     have hj:=Bf hb
     split at h
     · rename_i k' x
       rw[j8] at h
       split at h
       · rename_i hk
         simp only[Option.some.injEq] at h
         refine ⟨by simp only[aw,aM];omega,?_⟩
         simp only[jJ]
         rw[if_pos hj,if_pos hk,← h,mT]
       · simp at h
     · simp at h
   | false =>
     rw[hb,cond_false] at h
     have hj:=HX hb
     split at h
     · rename_i r' hr
       have:=tr r (j-n) v r' hr
       simp only[Option.some.injEq] at h
       exact ⟨by simp only[aw,aM];omega,by simp only[jJ];rw[if_neg hj,this.2];exact h⟩
     · simp at h
def Dy:List ah→Nat→Nat→Nat→AV→Tr (List ah)
 | [],_,_,_,_=>.bad
 | .one u::r,pos,h,off,v=>match h with
   | 0=>.bad
   | h+1=>(Dy r (Nat.succ pos) h off v).bind fun r'=>.ok (.one u::r')
 | .arr k z n::r,pos,h,off,v=>cond (Nat.blt h n) (match v with
    | .int k' x=>cond (gw k' k) (.req (fW off 1 pos n) (.ok (.arr k (fH z (tB off pos) x) n::r))) .bad
    | _=>.bad)
   ((Dy r (Nat.add pos n) (Nat.sub h n) off v).bind fun r'=>.ok (.arr k z n::r'))
theorem xg:∀ (l:List ah) (pos h off:Nat) (v:AV) (l':List ah),(Dy l pos h off v).run=some l'→pos≤off∧off-pos<aw l∧jJ l (off-pos) v=l'
 | [],_,_,_,_,_,h=>(Tr.ae h).elim
 | .one _::r,pos,0,off,v,l',h=>(Tr.ae h).elim
 | .one u::r,pos,h'+1,off,v,l',h=>by
   simp only[Dy] at h
   obtain ⟨r',hr,h⟩:=Tr.bind_some h
   obtain ⟨h1,h2,h3⟩:=xg r (pos+1) h' off v r' hr
   refine ⟨by omega,by simp only[aw,aM];omega,?_⟩
   rw[show off-pos=(off-(pos+1))+1 by omega,← Tr.ab h,← h3]
   rfl
 | .arr k z n::r,pos,h',off,v,l',h=>by
   simp only[Dy] at h
   cases hb:Nat.blt h' n with
   | true =>
     rw[hb,cond_true] at h
     split at h
     · rename_i k' x
       rw[j8] at h
       split at h
       · rename_i hk
         obtain ⟨hc,h⟩:=Tr.aP h
         rw[gF,decide_eq_true_eq] at hc
         refine ⟨hc.1,by simp only[aw,aM];omega,?_⟩
         simp only[jJ]
         rw[if_pos (by omega),if_pos hk,← Tr.ab h,mT,ll]
       · exact (Tr.ae h).elim
     · exact (Tr.ae h).elim
   | false =>
     rw[hb,cond_false] at h
     obtain ⟨r',hr,h⟩:=Tr.bind_some h
     obtain ⟨h1,h2,h3⟩:=xg r (pos+n) (h'-n) off v r' hr
     refine ⟨by omega,by simp only[aw,aM];omega,?_⟩
     simp only[jJ]
     rw[if_neg (by omega),← Tr.ab h,← h3,show off-pos-n=off-(pos+n) by omega]
def JW (l:List ah) (off:Nat) (h:Option Nat) (v:AV):Tr (List ah) :=
 match l with
 | [.arr k z n]=>match v with
   | .int k' x=>cond (gw k' k) (.req (cJ off n) (.ok [.arr k (fH z off x) n])) .bad
   | _=>.bad
 | l=>match h with
   | none=>vr (rf l off v)
   | some h=>Dy l 0 h off v
theorem Hy {l l':List ah} {off:Nat} {h:Option Nat} {v:AV} (hr:(JW l off h v).run=some l'):off<aw l∧jJ l off v=l':=by
 unfold JW at hr
 split at hr
 · rename_i k z n
   split at hr
   · rename_i k' x
     rw[j8] at hr
     split at hr
     · rename_i hk
       obtain ⟨hc,hr⟩:=Tr.aP hr
       rw[gm,decide_eq_true_eq] at hc
       refine ⟨by simp only[aw,aM];omega,?_⟩
       simp only[jJ]
       rw[if_pos hc,if_pos hk,← Tr.ab hr,mT]
     · exact (Tr.ae hr).elim
   · exact (Tr.ae hr).elim
 · split at hr
   · rw[cQ] at hr;exact tr _ _ _ _ hr
   · have:=xg _ _ _ _ _ _ hr
     rw[Nat.sub_zero] at this
     exact this.2
def zw (off:Nat) (h:Option Nat):List AV→Nat→List ah→Tr (List ah)
 | [],_,l=>.ok l
 | v::vs,j,l=>(JW l (Di off h j) (yd h j) v).bind fun l'=>zw off h vs (Nat.succ j) l'
theorem tp {off:Nat} {h:Option Nat}:∀ (vs:List AV) (j:Nat) (l l':List ah),(zw off h vs j l).run=some l'→(vs=[]∨off+j+vs.length≤aw l)∧Row.cC (.M l) (off+j) vs=.M l'
 | [],j,l,l',h=>⟨.inl rfl,by rw[Tr.ab h];rfl⟩
 | v :: vs,j,l,l',h=>by
   simp only[zw] at h
   obtain ⟨l1,h1,h⟩:=Tr.bind_some h
   obtain ⟨k1,k2⟩:=Hy h1
   rw[rG] at k1 k2
   obtain ⟨k3,k4⟩:=tp vs (j+1) l1 l' h
   have hl:aw l1=aw l:=by rw[← k2,mI]
   refine ⟨.inr ?_,?_⟩
   · rcases k3 with rfl | k3
     · simp only[List.length_cons,List.length_nil];omega
     · simp only[List.length_cons];omega
   · simp only[Row.cC,Row.set,k2]
     exact k4
def Fz (l:List ah) (off:Nat) (h:Option Nat) (q:Row):Tr Row :=
 match l,q with
 | [.arr k z m],.M [.arr k' z' n]=>cond (gw k' k) (.req (fW off n 0 m) (.ok (.M [.arr k (dR z off z' n) m]))) .bad
 | l,q=>cond (Nat.ble 9 (iu q)) (match h with
    | none=>cond (Nat.ble (Nat.add off (iu q)) (aw l)) (.ok (wV l off q)) .bad
    | some _=>.bad)
   (match lr q with
     | []=>.bad
     | v::vs=>(zw off h (v::vs) 0 l).bind fun l'=>.ok (.M l'))
theorem wW {l:List ah} {off:Nat} {h:Option Nat} {q r:Row} (hr:(Fz l off h q).run=some r):off+q.len≤aw l∧jH (.M l) off q=r:=by
 unfold Fz at hr
 split at hr
 · rename_i k z m k' z' n
   rw[j8] at hr
   split at hr
   · rename_i hk
     obtain ⟨hc,hr⟩:=Tr.aP hr
     rw[gF,decide_eq_true_eq] at hc
     refine ⟨by simp only[Row.len,aw,aM];omega,?_⟩
     simp only[jH]
     rw[if_pos hk,← Tr.ab hr,Gr]
   · exact (Tr.ae hr).elim
 · rename_i hne
   have hA:jH (.M l) off q=wV l off q:=by
    simp only[jH]
    split
    · rename_i k z m
      split
      · rename_i k' z' n
        exact (hne _ _ _ _ _ _ rfl rfl).elim
      · rfl
    · rfl
   rw[hA]
   rw[fm] at hr
   cases hb:Nat.ble 9 q.len with
   | true =>
     rw[hb,cond_true] at hr
     split at hr
     · cases hc:Nat.ble (Nat.add off q.len) (aw l) with
       | true =>
         rw[hc,cond_true] at hr
         rw[Nat.ble_eq] at hc
         exact ⟨hc,Tr.ab hr⟩
       | false=>rw[hc,cond_false] at hr;exact (Tr.ae hr).elim
     · exact (Tr.ae hr).elim
   | false =>
     rw[hb,cond_false,nT] at hr
     have hl:=Row.bg q
     split at hr
     · exact (Tr.ae hr).elim
     · rename_i v vs hq
       obtain ⟨l1,h1,hr⟩:=Tr.bind_some hr
       obtain ⟨k1,k2⟩:=tp _ _ _ _ h1
       rw[hq] at hl
       refine ⟨?_,?_⟩
       · rcases k1 with k1 | k1
         · simp at k1
         · omega
       · unfold wV
         rw[hb,if_neg (by simp),hq,← Tr.ab hr,← k2];rfl
def JN (d:Nat) (x:AV):Bool :=
 match d with
 | 0=>false
 | _+1=>match x with
   | .slc 0 _ _ _ _ _ _=>true
   | _=>false
def storeT (P:Program) (H:aa) (t:TypeId) (a:HV) (x:AV):Tr Delta :=
 match a.1 with
 | .ptr d i v off=>cond (JN d x) (match a.2 with | none=>vr (pj P H t a.1 x) | some _=>.bad)
   (cond (fA H d) .bad ((w7 H d i v a.2).bind fun r=>match bh P t with
     | some n=>match x.row with
       | some q=>cond (Nat.beq (iu q) n) (match r with
         | .M l=>(Fz l off a.2 (kn d q)).bind fun r'=>.ok (.set d i (v,.row r'))
         | _=>match a.2 with | none=>vr (pj P H t a.1 x) | some _=>.bad) .bad
       | none=>.bad
     | none=>.bad))
 | _=>.bad
theorem DF {P:Program} {H:aa} {t:TypeId} {a:HV} {x:AV} {δ:Delta} (hr:(storeT P H t a x).run=some δ):gq P H t a.1 x=some δ:=by
 unfold storeT at hr
 split at hr
 · rename_i d i v off ha
   cases ho:JN d x with
   | true =>
     rw[ho,cond_true] at hr
     split at hr
     · rw[cQ,nS] at hr;exact hr
     · exact (Tr.ae hr).elim
   | false =>
     rw[ho,cond_false,dX] at hr
     cases hl:au H d with
     | true=>rw[hl,cond_true] at hr;exact (Tr.ae hr).elim
     | false =>
       rw[hl,cond_false] at hr
       obtain ⟨r,h1,hr⟩:=Tr.bind_some hr
       split at hr
       · rename_i n hs
         split at hr
         · rename_i q hq
           rw[fm] at hr
           cases hb:Nat.beq q.len n with
           | false=>rw[hb,cond_false] at hr;exact (Tr.ae hr).elim
           | true =>
             rw[hb,cond_true] at hr
             have hb:q.len=n:=by simpa using hb
             split at hr
             · rename_i l
               obtain ⟨r',h2,hr⟩:=Tr.bind_some hr
               obtain ⟨k1,k2⟩:=wW h2
               rw[fq] at k1
               rw[ha]
               unfold gq
               dsimp only
               rw[hl,if_neg (by simp),lg h1,hs,hq]
               dsimp only
               rw[if_pos ⟨hb,by show off+n≤aw l;omega⟩]
               have:∀ (d':Nat) (j w o sz len:Nat) (cap:Option Nat),d=d'+1→x≠.slc 0 j w o sz len cap:=by
                rintro d' j w o sz len cap rfl rfl
                simp[JN] at ho
               rw[← Tr.ab hr,← k2]
               split
               · exact absurd rfl (this _ _ _ _ _ _ _ rfl)
               · rfl
             · split at hr
               · rw[cQ,nS] at hr;exact hr
               · exact (Tr.ae hr).elim
         · exact (Tr.ae hr).elim
       · exact (Tr.ae hr).elim
 · exact (Tr.ae hr).elim

def hOr (h:Option Nat) (off:Nat):Nat :=
 match h with
 | none=>off
 | some h=>h
def nq (P:Program) (t:TypeId) (a:HV) (f:Nat):Tr HV :=
 match P.underlying t with
 | some (.struct fs)=>match fs[f]? with
   | some g=>match bh P g.type with
     | some (_+1)=>match a.1 with
       | .ptr d i v off=>.ok (.ptr d i v (Di off a.2 g.offset),yd a.2 g.offset)
       | .ptrT s r off=>.ok (.ptrT s r (Di off a.2 g.offset),yd a.2 g.offset)
       | _=>.bad
     | _=>.bad
   | none=>.bad
 | _=>.bad
theorem tW {P:Program} {t:TypeId} {a b:HV} {f:Nat} (hr:(nq P t a f).run=some b):gA P t a.1 f=some b.1:=by
 unfold nq at hr
 unfold gA
 split at hr
 · rename_i fs hu
   rw[hu]
   dsimp only
   split at hr
   · rename_i g hg
     rw[hg]
     dsimp only
     split at hr
     · rename_i n hs
       rw[hs]
       dsimp only
       split at hr
       · rename_i d i v off ha
         rw[ha,← Tr.ab hr];simp only[ky,rG]
       · rename_i s r off ha
         rw[ha,← Tr.ab hr];simp only[ky,rG]
       · exact (Tr.ae hr).elim
     · exact (Tr.ae hr).elim
   · exact (Tr.ae hr).elim
 · exact (Tr.ae hr).elim
def isLit (x:HV):Bool :=
 match x.2 with
 | some _=>true
 | none=>false
def Fo (off:Nat) (ic:Bool) (i:Int) (z:Nat):Nat:=cond ic (Nat.add off (Nat.mul i.toNat z)) (ar off i z)
theorem rF (off:Nat) (ic:Bool) (i:Int) (z:Nat):Fo off ic i z=off+i.toNat*z:=by
 cases ic with
 | true=>rfl
 | false=>exact kQ _ _ _
def Bv (h:Option Nat) (off:Nat) (ic:Bool) (i:Int) (z:Nat):Option Nat :=
 cond ic (yd h (Nat.mul i.toNat z)) (some (hOr h off))
def Jl (P:Program) (t:TypeId) (a:HV) (ic:Bool) (i:Int):Tr HV :=
 match P.underlying t with
 | some (.array n e)=>match bh P e with
   | some z=>match a.1 with
     | .ptr d j v off=>.req (cS i n) (.ok (.ptr d j v (Fo off ic i z),Bv a.2 off ic i z))
     | .ptrT s r off=>.req (cS i n) (.ok (.ptrT s r (Fo off ic i z),Bv a.2 off ic i z))
     | _=>.bad
   | none=>.bad
 | some (.slice e)=>match bh P e with
   | some z=>match a.1 with
     | .slc d j v off sz len cap=>cond (Nat.beq z sz) (.req (cS i len) (.ok (.ptr d j v (Fo off ic i z),match cap with
       | some _=>Bv none off ic i z
       | none=>some off))) .bad
     | .slcT s r sz len _=>cond (Nat.beq z sz) (.req (cS i len) (.ok (.ptrT s r (Fo 0 ic i z),Bv none 0 ic i z))) .bad
     | _=>.bad
   | none=>.bad
 | _=>.bad
def Nm (P:Program) (t:TypeId) (x:AV) (ic:Bool) (i:Int):Tr AV :=
 cond ic (vr (qa P t x i)) (match P.underlying t with
  | some (.array n e)=>match x with
    | .agg r=>match bh P e with
      | some z=>.req (cS i n) (zj P e r (ar 0 i z) (some 0))
      | none=>.bad
    | _=>.bad
  | _=>.bad)
theorem Jr {P:Program} {t:TypeId} {x v:AV} {ic:Bool} {i:Int} (hr:(Nm P t x ic i).run=some v):qa P t x i=some v:=by
 unfold Nm at hr
 cases ic with
 | true=>rw[cond_true,cQ] at hr;exact hr
 | false =>
   rw[cond_false] at hr
   split at hr
   · rename_i n e hu
     split at hr
     · split at hr
       · rename_i z hs
         obtain ⟨hc,hr⟩:=Tr.aP hr
         rw[p9,decide_eq_true_eq] at hc
         have h:=s9 hr
         rw[kQ,Nat.zero_add] at h
         unfold qa
         rw[hu]
         dsimp only
         rw[hs]
         dsimp only
         rw[if_pos hc,h]
       · exact (Tr.ae hr).elim
     · exact (Tr.ae hr).elim
   · exact (Tr.ae hr).elim
theorem GJ {P:Program} {t:TypeId} {a b:HV} {ic:Bool} {i:Int} (hr:(Jl P t a ic i).run=some b):fC P t a.1 i=some b.1:=by
 unfold Jl at hr
 unfold fC
 split at hr
 · rename_i n e hu
   split at hr
   · rename_i z hs
     split at hr
     · rename_i d j v off ha
       obtain ⟨hc,hr⟩:=Tr.aP hr
       rw[p9,decide_eq_true_eq] at hc
       rw[hu,ha]
       dsimp only
       rw[hs]
       dsimp only
       rw[if_pos hc,← Tr.ab hr]
       simp only[ky,rF]
     · rename_i s r off ha
       obtain ⟨hc,hr⟩:=Tr.aP hr
       rw[p9,decide_eq_true_eq] at hc
       rw[hu,ha]
       dsimp only
       rw[hs]
       dsimp only
       rw[if_pos hc,← Tr.ab hr]
       simp only[ky,rF]
     · exact (Tr.ae hr).elim
   · exact (Tr.ae hr).elim
 · rename_i e hu
   split at hr
   · rename_i z hs
     split at hr
     · rename_i d j v off sz len cap ha
       cases hb:Nat.beq z sz with
       | false=>rw[hb,cond_false] at hr;exact (Tr.ae hr).elim
       | true =>
         rw[hb,cond_true] at hr
         have hb:z=sz:=by simpa using hb
         subst hb
         obtain ⟨hc,hr⟩:=Tr.aP hr
         rw[p9,decide_eq_true_eq] at hc
         rw[hu,ha]
         dsimp only
         rw[if_pos ⟨hc.1,hc.2,hs⟩,← Tr.ab hr]
         simp only[rF]
     · rename_i s r sz len full ha
       cases hb:Nat.beq z sz with
       | false=>rw[hb,cond_false] at hr;exact (Tr.ae hr).elim
       | true =>
         rw[hb,cond_true] at hr
         have hb:z=sz:=by simpa using hb
         subst hb
         obtain ⟨hc,hr⟩:=Tr.aP hr
         rw[p9,decide_eq_true_eq] at hc
         rw[hu,ha]
         dsimp only
         rw[if_pos ⟨hc.1,hc.2,hs⟩,← Tr.ab hr]
         simp only[rF,Nat.zero_add]
     · exact (Tr.ae hr).elim
   · exact (Tr.ae hr).elim
 · exact (Tr.ae hr).elim

end
end Go.Eng
