/- The engine as a tree: frames with hints, rows, loads, stores, addresses. -/
import Derived.Test.YtgphpjdchnfjlaaDoorV1EngOrax3
set_option linter.unusedVariables false
set_option linter.unusedSimpArgs false
namespace Go.Eng
noncomputable section

abbrev HV:=AV×Option Nat
abbrev aA:=List (Nat×HV)
def strip (f:aA):aq:=List.rec (motive:=fun _=>aq) [] (fun p _ ih=>(p.1,p.2.1)::ih) f
theorem bF (x:Nat) (v:HV) (r:aA):strip ((x,v)::r)=(x,v.1)::strip r:=rfl
def iL (f:aA) (y:Nat):HV:=List.rec (motive:=fun _=>HV) (AV.undef,none) (fun p _ ih=>Bool.rec ih p.2 (Nat.beq p.1 y)) f
theorem df:∀ (f:aA) (y:Nat),(iL f y).1=aO (strip f) y
 | [],y=>rfl
 | (x,v)::r,y=>by
   have e:iL ((x,v)::r) y=Bool.rec (iL r y) v (Nat.beq x y):=rfl
   rw[e,bF,aO]
   cases Nat.beq x y with
   | true=>rfl
   | false=>exact df r y
def sU (f:aA) (y:Nat) (u:HV):aA:=List.rec (motive:=fun _=>aA) [(y,u)] (fun p r ih=>Bool.rec (motive:=fun _=>aA) (p::ih) (Bool.rec (motive:=fun _=>aA) ((y,u)::p::r) ((y,u)::r) (Nat.beq p.1 y)) (Nat.ble y p.1)) f
theorem sV:∀ (f:aA) (y:Nat) (u:HV),strip (sU f y u)=qg (strip f) y u.1
 | [],y,u=>rfl
 | (x,v)::r,y,u=>by
   have e:sU ((x,v)::r) y u=Bool.rec (motive:=fun _=>aA) ((x,v)::sU r y u) (Bool.rec (motive:=fun _=>aA) ((y,u)::(x,v)::r) ((y,u)::r) (Nat.beq x y)) (Nat.ble y x):=rfl
   rw[e,bF,qg,← sV r y u]
   cases Nat.ble y x with
   | false=>rfl
   | true=>cases Nat.beq x y<;>rfl
def eh (f:aA) (m:Nat):aA:=List.rec (motive:=fun _=>aA) [] (fun p _ ih=>Bool.rec (motive:=fun _=>aA) (p::ih) ih (Nat.beq (Nat.land (Nat.shiftRight m p.1) 1) 1)) f
theorem cY:∀ (f:aA) (m:Nat),strip (eh f m)=aT (strip f) m
 | [],m=>rfl
 | (x,v)::r,m=>by
   have e:eh ((x,v)::r) m=Bool.rec (motive:=fun _=>aA) ((x,v)::eh r m) (eh r m) (Nat.beq (Nat.land (Nat.shiftRight m x) 1) 1):=rfl
   have e2:aT ((x,v.1)::strip r) m=Bool.rec (motive:=fun _=>aq) ((x,v.1)::aT (strip r) m) (aT (strip r) m) (Nat.beq (Nat.land (Nat.shiftRight m x) 1) 1):=rfl
   rw[e,bF,e2,← cY r m]
   cases Nat.beq (Nat.land (Nat.shiftRight m x) 1) 1<;>rfl
def Hx (v:Value):Option Nat :=
 match v with
 | .int _ _=>some 1
 | .bool _=>some 1
 | _=>none
def a6 (fr:aA) (x:Operand):HV:=Operand.rec (motive:=fun _=>HV) (fun t=>iL fr t) (fun v=>(hJ v,Hx v)) (fun _=>(.undef,none)) (fun f=>(.fn (.func f) [] [],none)) x
theorem aB (fr:aA) (x:Operand):(a6 fr x).1=aR (strip fr) x:=by
 cases x with
 | tmp t=>exact df fr t
 | _=>rfl
def tG (fr:aA) (l:List Operand):List AV:=ku (fun x=>(a6 fr x).1) l
theorem pr (fr:aA):∀ l,tG fr l=gp (strip fr) l
 | []=>rfl
 | x::l=>by
   have e:tG fr (x::l)=(a6 fr x).1::tG fr l:=rfl
   rw[e,pr fr l,aB];rfl
def ni (nt:Nat) (fr:aA) (dst:Option Tmp) (v:HV):aA:=Option.rec (motive:=fun _=>aA) fr (fun d=>Bool.rec (motive:=fun _=>aA) fr (sU fr d v) (Nat.ble (Nat.succ d) nt)) dst
theorem jx (nt:Nat) (fr:aA) (dst:Option Tmp) (v:HV):strip (ni nt fr dst v)=eV nt (strip fr) dst v.1:=by
 rw[← lH]
 cases dst with
 | none=>rfl
 | some d =>
   have e:ni nt fr (some d) v=Bool.rec (motive:=fun _=>aA) fr (sU fr d v) (Nat.ble (Nat.succ d) nt):=rfl
   have e2:nj nt (strip fr) (some d) v.1=Bool.rec (motive:=fun _=>aq) (strip fr) (qO (strip fr) d v.1) (Nat.ble (Nat.succ d) nt):=rfl
   rw[e,e2,sJ,← sV]
   cases Nat.ble (Nat.succ d) nt<;>rfl

def m0:List bL→Nat→Option AV
 | [],_=>none
 | .one v::r,j=>match j with
   | 0=>some v
   | j+1=>m0 r j
 | .arr k z n::r,j=>cond (Nat.blt j n) (some (.int k (z j))) (m0 r (Nat.sub j n))
theorem wB {a b:Nat} (h:Nat.blt a b=true):a<b:=by rwa [Nat.blt_eq] at h
theorem CJ {a b:Nat} (h:Nat.blt a b=false):¬ a<b:=fun e=>by
 have:Nat.blt a b=true:=by rw[Nat.blt_eq];exact e
 rw[h] at this;cases this
theorem oK:∀ (l:List bL) (j:Nat) (v:AV),m0 l j=some v→j<ai l∧getM l j=v
 | [],_,_,h=>by simp[m0] at h
 | .one u::r,0,v,h=>by
   simp only[m0,Option.some.injEq] at h
   exact ⟨by simp only[ai,ar];omega,h⟩
 | .one u::r,j+1,v,h=>by
   have:=oK r j v (by simpa[m0] using h)
   exact ⟨by simp only[ai,ar];omega,this.2⟩
 | .arr k z n::r,j,v,h=>by
   simp only[m0] at h
   simp only[ai,ar,getM]
   cases hb:Nat.blt j n with
   | true =>
     rw[hb,cond_true,Option.some.injEq] at h
     have:=wB hb
     exact ⟨by omega,by rw[if_pos this];exact h⟩
   | false =>
     rw[hb,cond_false] at h
     have hn:=CJ hb
     have:=oK r (j-n) v h
     exact ⟨by omega,by rw[if_neg hn];exact this.2⟩
def AF:List bL→Nat→Nat→Nat→Tr AV
 | [],_,_,_=>.bad
 | .one _::r,pos,h,off=>match h with
   | 0=>.bad
   | h+1=>AF r (Nat.succ pos) h off
 | .arr k z n::r,pos,h,off=>cond (Nat.blt h n) (.req (vm off 1 pos n) (.ok (.int k (z (mQ off pos))))) (AF r (Nat.add pos n) (Nat.sub h n) off)
theorem sf:∀ (l:List bL) (pos h off:Nat) (v:AV),(AF l pos h off).run=some v→pos≤off∧off-pos<ai l∧getM l (off-pos)=v
 | [],_,_,_,_,h=>(Tr.ad h).elim
 | .one _::r,pos,0,off,v,h=>(Tr.ad h).elim
 | .one u::r,pos,h'+1,off,v,h=>by
   obtain ⟨h1,h2,h3⟩:=sf r (pos+1) h' off v h
   refine ⟨by omega,by simp only[ai,ar];omega,?_⟩
   rw[show off-pos=(off-(pos+1))+1 by omega]
   exact h3
 | .arr k z n::r,pos,h',off,v,h=>by
   simp only[AF] at h
   cases hb:Nat.blt h' n with
   | true =>
     rw[hb,cond_true] at h
     obtain ⟨hc,h⟩:=Tr.au h
     rw[gl,decide_eq_true_eq] at hc
     have h:=Tr.ab h
     refine ⟨hc.1,by simp only[ai,ar];omega,?_⟩
     simp only[getM]
     rw[if_pos (by omega),← h,jR]
   | false =>
     rw[hb,cond_false] at h
     obtain ⟨h1,h2,h3⟩:=sf r (pos+n) (h'-n) off v h
     refine ⟨by omega,by simp only[ai,ar];omega,?_⟩
     simp only[getM]
     rw[if_neg (by omega),← h3]
     congr 1;omega
def xt (r:Row) (off:Nat) (h:Option Nat):Tr AV :=
 match r with
 | .F f n=>.req (sq off n) (.ok (f off))
 | .M l=>match l with
   | [.arr k z n]=>.req (sq off n) (.ok (.int k (z off)))
   | l=>match h with
     | none=>ri (m0 l off)
     | some h=>AF l 0 h off
 | .I k l=>match h with
   | none=>ri (gb (.I k l) off)
   | some _=>.req (sq off (Ej l)) (.ok (.int k (bx l off)))
 | .G l=>match h with
   | none=>ri (gb (.G l) off)
   | some _=>.bad
theorem tY {r:Row} {off:Nat} {v:AV} (h:gb r off=some v):off<r.len∧r.get off=v:=by
 rw[pB] at h
 split at h
 · rename_i h0;exact ⟨h0,Option.some.inj h⟩
 · simp at h
theorem tR {r:Row} {off:Nat} {h:Option Nat} {v:AV} (hr:(xt r off h).run=some v):off<r.len∧r.get off=v:=by
 unfold xt at hr
 split at hr
 · obtain ⟨hc,hr⟩:=Tr.au hr
   rw[eU,decide_eq_true_eq] at hc
   exact ⟨hc,Tr.ab hr⟩
 · rename_i l
   split at hr
   · rename_i k z n
     obtain ⟨hc,hr⟩:=Tr.au hr
     rw[eU,decide_eq_true_eq] at hc
     refine ⟨by simp only[Row.len,ai,ar];omega,?_⟩
     simp only[Row.get,getM]
     rw[if_pos hc];exact Tr.ab hr
   · split at hr
     · rw[bz] at hr;exact oK _ _ _ hr
     · have:=sf _ _ _ _ _ hr
       rw[Nat.sub_zero] at this
       exact this.2
 · split at hr
   · rw[bz] at hr;exact tY hr
   · obtain ⟨hc,hr⟩:=Tr.au hr
     rw[eU,decide_eq_true_eq,BG] at hc
     refine ⟨hc,?_⟩
     rw[← Tr.ab hr,iu];rfl
 · split at hr
   · rw[bz] at hr;exact tY hr
   · exact (Tr.ad hr).elim
def ym (off:Nat) (h:Option Nat) (j:Nat):Nat :=
 match h with
 | none=>Nat.add off j
 | some _=>match j with
   | 0=>off
   | j+1=>dM off (Nat.succ j)
theorem nT (off:Nat) (h:Option Nat) (j:Nat):ym off h j=off+j:=by
 unfold ym
 split
 · rfl
 · split
   · rfl
   · rw[bc]
def sX (h:Option Nat) (j:Nat):Option Nat :=
 match h with
 | none=>none
 | some h=>some (Nat.add h j)
def xu (r:Row) (off:Nat) (h:Option Nat):Nat→Nat→Tr (List AV)
 | _,0=>.ok []
 | j,n+1=>(xt r (ym off h j) (sX h j)).bind fun v=>(xu r off h (Nat.succ j) n).bind fun l=>.ok (v::l)
theorem tT {r:Row} {off:Nat} {h:Option Nat}:∀ (n j:Nat) (l:List AV),(xu r off h j n).run=some l→l=bQ r.get (off+j) n∧(n=0∨off+j+n≤r.len)
 | 0,j,l,hr=>⟨(Tr.ab hr).symm,.inl rfl⟩
 | n+1,j,l,hr=>by
   simp only[xu] at hr
   obtain ⟨v,h1,hr⟩:=Tr.bind_some hr
   obtain ⟨m,h2,hr⟩:=Tr.bind_some hr
   have hr:=Tr.ab hr
   obtain ⟨k1,k2⟩:=tR h1
   obtain ⟨k3,k4⟩:=tT n (j+1) m h2
   rw[nT] at k1 k2
   refine ⟨?_,.inr (by omega)⟩
   rw[← hr,bQ,k2,k3,show off+(j+1)=off+j+1 by omega]
def AE:List bL→Nat→Nat→Nat→Nat→Tr AV
 | [],_,_,_,_=>.bad
 | .one _::r,pos,h,off,n=>match h with
   | 0=>.bad
   | h+1=>AE r (Nat.succ pos) h off n
 | .arr k z m::r,pos,h,off,n=>cond (Nat.blt h m) (.req (vm off n pos m) (.ok (.agg (.M [.arr k (AI z (mQ off pos)) n])))) (AE r (Nat.add pos m) (Nat.sub h m) off n)
theorem se:∀ (l:List bL) (pos h off n:Nat) (v:AV),0<n→(AE l pos h off n).run=some v→pos≤off∧off-pos+n≤ai l∧∃ k z,iE l (off-pos) n=some (k,z)∧v=.agg (.M [.arr k z n])
 | [],_,_,_,_,_,_,h=>(Tr.ad h).elim
 | .one _::r,pos,0,off,n,v,_,h=>(Tr.ad h).elim
 | .one u::r,pos,h'+1,off,n,v,hn,h=>by
   obtain ⟨h1,h2,k,z,h3,h4⟩:=se r (pos+1) h' off n v hn h
   refine ⟨by omega,by simp only[ai,ar];omega,k,z,?_,h4⟩
   rw[show off-pos=(off-(pos+1))+1 by omega]
   exact h3
 | .arr k z m::r,pos,h',off,n,v,hn,h=>by
   simp only[AE] at h
   cases hb:Nat.blt h' m with
   | true =>
     rw[hb,cond_true] at h
     obtain ⟨hc,h⟩:=Tr.au h
     rw[gl,decide_eq_true_eq] at hc
     have h:=Tr.ab h
     refine ⟨hc.1,by simp only[ai,ar];omega,k,fun j=>z (off-pos+j),?_,?_⟩
     · simp only[iE];rw[if_pos (by omega)]
     · rw[← h,jC,jR]
   | false =>
     rw[hb,cond_false] at h
     obtain ⟨h1,h2,k',z',h3,h4⟩:=se r (pos+m) (h'-m) off n v hn h
     refine ⟨by omega,by simp only[ai,ar];omega,k',z',?_,h4⟩
     simp only[iE]
     rw[if_neg (by omega),if_pos (by omega),← h3]
     congr 1;omega
def AD:List bL→Nat→Nat→Option Row
 | [],_,_=>none
 | .one _::r,o+1,n=>AD r o n
 | .one _::_,0,_=>none
 | .arr k z m::r,o,n=>cond (Nat.ble (Nat.add o n) m) (some (.M [.arr k (cond (Nat.beq o 0) z (AI z o)) n])) (cond (Nat.ble m o) (AD r (Nat.sub o m) n) none)
theorem sd:∀ (l:List bL) (o n:Nat) (q:Row),AD l o n=some q→∃ k z,iE l o n=some (k,z)∧q=.M [.arr k z n]
 | [],_,_,_,h=>by cases h
 | .one u::r,o+1,n,q,h=>sd r o n q h
 | .one _::_,0,_,_,h=>by cases h
 | .arr k z m::r,o,n,q,h=>by
   simp only[AD] at h
   cases hb:Nat.ble (Nat.add o n) m with
   | true =>
     rw[hb,cond_true] at h
     have hle:o+n≤m:=Nat.le_of_ble_eq_true hb
     simp only[Option.some.injEq] at h
     refine ⟨k,fun j=>z (o+j),by simp only[iE];rw[if_pos hle],?_⟩
     rw[← h]
     cases ho:Nat.beq o 0 with
     | true =>
       have:=Nat.eq_of_beq_eq_true ho
       subst this
       simp only[cond_true,Nat.zero_add]
     | false=>rw[cond_false,jC]
   | false =>
     rw[hb,cond_false] at h
     cases hm:Nat.ble m o with
     | true =>
       rw[hm,cond_true] at h
       have hle:m≤o:=Nat.le_of_ble_eq_true hm
       have hnl:¬ (o+n≤m):=fun hc=>by
        have:Nat.ble (Nat.add o n) m=true:=by rw[Nat.ble_eq];exact hc
        rw[hb] at this;cases this
       obtain ⟨k',z',h1,h2⟩:=sd r (o-m) n q h
       exact ⟨k',z',by simp only[iE];rw[if_neg hnl,if_pos hle];exact h1,h2⟩
     | false=>rw[hm,cond_false] at h;cases h
def tU (P:Program) (t:TypeId) (r:Row) (off:Nat) (h:Option Nat):Tr AV :=
 match dc P t with
 | some false=>xt r off h
 | some true=>match aI P t with
   | some 0=>.bad
   | some (n+1)=>match r with
     | .M l=>cond (Nat.ble (Nat.succ n) 8) ((xu (.M l) off h 0 (Nat.succ n)).bind fun vs=>.ok (.agg (Row.ofList vs)))
       (match h with
       | none=>cond (Nat.ble (Nat.add off (Nat.succ n)) (ai l)) (cond (Nat.beq (ai l) (Nat.succ n)) (.ok (.agg ((Row.M l).cut off (Nat.succ n)))) (match AD l off (Nat.succ n) with
         | some q=>.ok (.agg q)
         | none=>.ok (.agg ((Row.M l).cut off (Nat.succ n))))) .bad
       | some h=>cond (Nat.beq (ai l) (Nat.succ n)) .bad (AE l 0 h off (Nat.succ n)))
     | .F f m=>.req (tg (dM off (Nat.succ n)) m) (.ok (.agg ((Row.F f m).cut off (Nat.succ n))))
     | .I k l=>match h with
       | none=>ri (mK P t (.I k l) off)
       | some _=>.bad
     | .G l=>match h with
       | none=>ri (mK P t (.G l) off)
       | some _=>.bad
   | none=>.bad
 | none=>.bad
theorem pA       {P : Program} {t:TypeId} {r:Row} {off:Nat} {h:Option Nat} {v:AV} (hr:(tU P t r off h).run=some v):eX P t r off=some v:=by
 unfold tU at hr
 split at hr
 · rename_i ha
   obtain ⟨h1,h2⟩:=tR hr
   unfold eX
   rw[ha]
   dsimp only
   rw[if_pos h1,h2]
 · rename_i ha
   split at hr
   · exact (Tr.ad hr).elim
   · rename_i n hs
     split at hr
     · rename_i l
       unfold eX
       rw[ha,hs]
       dsimp only
       cases hb:Nat.ble (Nat.succ n) 8 with
       | true =>
         rw[hb,cond_true] at hr
         obtain ⟨vs,h1,hr⟩:=Tr.bind_some hr
         have hr:=Tr.ab hr
         obtain ⟨k1,k2⟩:=tT _ _ _ h1
         rw[if_pos (by omega),← hr,k1]
         simp only[Row.cut]
         rw[show Nat.ble (n+1) 8=true from hb,if_pos rfl,Nat.add_zero]
         rfl
       | false =>
         rw[hb,cond_false] at hr
         split at hr
         · cases hc : Nat.ble (Nat.add off (Nat.succ n)) (ai l) with
           | true =>
             rw[hc,cond_true] at hr
             rw[Nat.ble_eq] at hc
             rw[if_pos (show off+(n+1)≤(Row.M l).len from hc)]
             cases hq:Nat.beq (ai l) (Nat.succ n) with
             | true=>rw[hq,cond_true] at hr;rw[← Tr.ab hr]
             | false =>
               rw[hq,cond_false] at hr
               split at hr
               · rename_i q hseg
                 obtain ⟨k,z,h3,h4⟩:=sd _ _ _ _ hseg
                 simp only[Row.cut]
                 rw[show Nat.ble (n+1) 8=false from hb,if_neg (by simp),show Nat.beq (ai l) (n+1)=false from hq,Bool.and_false,if_neg (by simp)]
                 have : Row.sub (.M l) off (n+1)=.M [.arr k z (n+1)]:=by
                  match l,h3,hq with
                  | [],h3,_=>simp[iE] at h3
                  | [.arr k' z' m],h3,hq =>
                    simp only[iE] at h3
                    split at h3
                    · simp only[nP] at h3
                      obtain ⟨rfl,rfl⟩:=h3
                      rfl
                    · split at h3<;>simp at h3
                  | .one u::r,h3,hq =>
                    simp only[Row.sub]
                    rw[show Nat.beq (ai (.one u::r)) (n+1)=false from hq,Bool.and_false,h3]
                    rfl
                  | .arr k' z' m::s::r,h3,hq =>
                    simp only[Row.sub]
                    rw[show Nat.beq (ai (.arr k' z' m::s::r)) (n+1)=false from hq,Bool.and_false,h3]
                    rfl
                 rw[this,← Tr.ab hr,h4]
               · rw[← Tr.ab hr]
           | false=>rw[hc,cond_false] at hr;exact (Tr.ad hr).elim
         · rename_i h
           cases hc:Nat.beq (ai l) (Nat.succ n) with
           | true=>rw[hc,cond_true] at hr;exact (Tr.ad hr).elim
           | false =>
             rw[hc,cond_false] at hr
             obtain ⟨h1,h2,k,z,h3,h4⟩:=se _ _ _ _ _ _ (Nat.succ_pos n) hr
             rw[Nat.sub_zero] at h2 h3
             rw[if_pos (show off+(n+1)≤(Row.M l).len from h2)]
             simp only[Row.cut]
             rw[show Nat.ble (n+1) 8=false from hb,if_neg (by simp),show Nat.beq (ai l) (n+1)=false from hc,Bool.and_false,if_neg (by simp)]
             have : Row.sub (.M l) off (n+1)=.M [.arr k z (n+1)]:=by
              match l,h3,hc with
              | [],h3,_=>simp[iE] at h3
              | [.arr k' z' m],h3,hc =>
                simp only[iE] at h3
                split at h3
                · simp only[nP] at h3
                  obtain ⟨rfl,rfl⟩:=h3
                  rfl
                · split at h3<;>simp at h3
              | .one u::r,h3,hc =>
                simp only[Row.sub]
                rw[show Nat.beq (ai (.one u::r)) (n+1)=false from hc,Bool.and_false,h3]
                rfl
              | .arr k' z' m::s::r,h3,hc =>
                simp only[Row.sub]
                rw[show Nat.beq (ai (.arr k' z' m::s::r)) (n+1)=false from hc,Bool.and_false,h3]
                rfl
             rw[this,h4]
     · rename_i f m
       obtain ⟨hc,hr⟩:=Tr.au hr
       rw[iq,decide_eq_true_eq,bc] at hc
       unfold eX
       rw[ha,hs]
       dsimp only
       rw[if_pos (show off+(n+1)≤(Row.F f m).len from hc),← Tr.ab hr]
     · split at hr
       · rw[bz,mL] at hr;exact hr
       · exact (Tr.ad hr).elim
     · split at hr
       · rw[bz,mL] at hr;exact hr
       · exact (Tr.ad hr).elim
   · exact (Tr.ad hr).elim
 · exact (Tr.ad hr).elim

def sc (H:aa) (d i v:Nat) (h:Option Nat):Tr Row :=
 match h with
 | none=>ri (sW H d i v)
 | some _=>match cN H d i with
   | (ver,.row r)=>.req (qf ver v) (.ok r)
   | _=>.bad
theorem iD {H:aa} {d i v:Nat} {h:Option Nat} {r:Row} (hr:(sc H d i v h).run=some r):bJ H d i v=some r:=by
 unfold sc at hr
 split at hr
 · rw[bz,oM] at hr;exact hr
 · rw[eI] at hr
   split at hr
   · rename_i ver q hg
     obtain ⟨hc,hr2⟩:=Tr.au hr
     rw[dP,decide_eq_true_eq] at hc
     subst hc
     unfold bJ
     rw[hg]
     simp only[Nat.beq_refl,if_true]
     rw[Tr.ab hr2]
   · exact (Tr.ad hr).elim
def loadT (P:Program) (H:aa) (t:TypeId) (a:HV):Tr AV :=
 match a.1 with
 | .ptr d i v off=>(sc H d i v a.2).bind fun r=>(tU P t r off a.2).bind fun x=>.ok (iS d x)
 | .ptrT s r off=>(tU P t r off a.2).bind fun x=>.ok (IF s x)
 | _=>.bad
theorem tj {P:Program} {H:aa} {t:TypeId} {a:HV} {v:AV} (hr:(loadT P H t a).run=some v):jm P H t a.1=some v:=by
 unfold loadT at hr
 unfold jm
 split at hr
 · rename_i d i ver off ha
   obtain ⟨r,h1,hr⟩:=Tr.bind_some hr
   obtain ⟨x,h2,hr⟩:=Tr.bind_some hr
   rw[ha]
   dsimp only
   rw[iD h1]
   dsimp only
   rw[pA h2,← Tr.ab hr];rfl
 · rename_i s r off ha
   obtain ⟨x,h2,hr⟩:=Tr.bind_some hr
   rw[ha]
   dsimp only
   rw[pA h2,← Tr.ab hr];rfl
 · exact (Tr.ad hr).elim

def nr:List bL→Nat→AV→Option (List bL)
 | [],_,_=>none
 | .one u::r,j,v=>match j with
   | 0=>some (.one v::r)
   | j+1=>match nr r j v with
     | some r'=>some (.one u::r')
     | none=>none
 | .arr k z n::r,j,v=>cond (Nat.blt j n) (match v with
    | .int k' x=>cond (eJ k' k) (some (.arr k (CF z j x) n::r)) none
    | _=>none)
   (match nr r (Nat.sub j n) v with
     | some r'=>some (.arr k z n::r')
     | none=>none)
theorem pL:∀ (l:List bL) (j:Nat) (v:AV) (l':List bL),nr l j v=some l'→j<ai l∧gr l j v=l'
 | [],_,_,_,h=>by simp[nr] at h
 | .one u::r,0,v,l',h=>by
   simp only[nr,Option.some.injEq] at h
   exact ⟨by simp only[ai,ar];omega,h⟩
 | .one u::r,j+1,v,l',h=>by
   simp only[nr] at h
   split at h
   · rename_i r' hr
     have:=pL r j v r' hr
     simp only[Option.some.injEq] at h
     exact ⟨by simp only[ai,ar];omega,by simp only[gr];rw[this.2];exact h⟩
   · simp at h
 | .arr k z n::r,j,v,l',h=>by
   simp only[nr] at h
   cases hb:Nat.blt j n with
   | true =>
     rw[hb,cond_true] at h
     have hj:=wB hb
     split at h
     · rename_i k' x
       rw[gK] at h
       split at h
       · rename_i hk
         simp only[Option.some.injEq] at h
         refine ⟨by simp only[ai,ar];omega,?_⟩
         simp only[gr]
         rw[if_pos hj,if_pos hk,← h,sk]
       · simp at h
     · simp at h
   | false =>
     rw[hb,cond_false] at h
     have hj:=CJ hb
     split at h
     · rename_i r' hr
       have:=pL r (j-n) v r' hr
       simp only[Option.some.injEq] at h
       exact ⟨by simp only[ai,ar];omega,by simp only[gr];rw[if_neg hj,this.2];exact h⟩
     · simp at h
def yD:List bL→Nat→Nat→Nat→AV→Tr (List bL)
 | [],_,_,_,_=>.bad
 | .one u::r,pos,h,off,v=>match h with
   | 0=>.bad
   | h+1=>(yD r (Nat.succ pos) h off v).bind fun r'=>.ok (.one u::r')
 | .arr k z n::r,pos,h,off,v=>cond (Nat.blt h n) (match v with
    | .int k' x=>cond (eJ k' k) (.req (vm off 1 pos n) (.ok (.arr k (CF z (mQ off pos) x) n::r))) .bad
    | _=>.bad)
   ((yD r (Nat.add pos n) (Nat.sub h n) off v).bind fun r'=>.ok (.arr k z n::r'))
theorem sg:∀ (l:List bL) (pos h off:Nat) (v:AV) (l':List bL),(yD l pos h off v).run=some l'→pos≤off∧off-pos<ai l∧gr l (off-pos) v=l'
 | [],_,_,_,_,_,h=>(Tr.ad h).elim
 | .one _::r,pos,0,off,v,l',h=>(Tr.ad h).elim
 | .one u::r,pos,h'+1,off,v,l',h=>by
   simp only[yD] at h
   obtain ⟨r',hr,h⟩:=Tr.bind_some h
   obtain ⟨h1,h2,h3⟩:=sg r (pos+1) h' off v r' hr
   refine ⟨by omega,by simp only[ai,ar];omega,?_⟩
   rw[show off-pos=(off-(pos+1))+1 by omega,← Tr.ab h,← h3]
   rfl
 | .arr k z n::r,pos,h',off,v,l',h=>by
   simp only[yD] at h
   cases hb:Nat.blt h' n with
   | true =>
     rw[hb,cond_true] at h
     split at h
     · rename_i k' x
       rw[gK] at h
       split at h
       · rename_i hk
         obtain ⟨hc,h⟩:=Tr.au h
         rw[gl,decide_eq_true_eq] at hc
         refine ⟨hc.1,by simp only[ai,ar];omega,?_⟩
         simp only[gr]
         rw[if_pos (by omega),if_pos hk,← Tr.ab h,sk,jR]
       · exact (Tr.ad h).elim
     · exact (Tr.ad h).elim
   | false =>
     rw[hb,cond_false] at h
     obtain ⟨r',hr,h⟩:=Tr.bind_some h
     obtain ⟨h1,h2,h3⟩:=sg r (pos+n) (h'-n) off v r' hr
     refine ⟨by omega,by simp only[ai,ar];omega,?_⟩
     simp only[gr]
     rw[if_neg (by omega),← Tr.ab h,← h3,show off-pos-n=off-(pos+n) by omega]
def EP (l:List bL) (off:Nat) (h:Option Nat) (v:AV):Tr (List bL) :=
 match l with
 | [.arr k z n]=>match v with
   | .int k' x=>cond (eJ k' k) (.req (sq off n) (.ok [.arr k (CF z off x) n])) .bad
   | _=>.bad
 | l=>match h with
   | none=>ri (nr l off v)
   | some h=>yD l 0 h off v
theorem Cp {l l':List bL} {off:Nat} {h:Option Nat} {v:AV} (hr:(EP l off h v).run=some l'):off<ai l∧gr l off v=l':=by
 unfold EP at hr
 split at hr
 · rename_i k z n
   split at hr
   · rename_i k' x
     rw[gK] at hr
     split at hr
     · rename_i hk
       obtain ⟨hc,hr⟩:=Tr.au hr
       rw[eU,decide_eq_true_eq] at hc
       refine ⟨by simp only[ai,ar];omega,?_⟩
       simp only[gr]
       rw[if_pos hc,if_pos hk,← Tr.ab hr,sk]
     · exact (Tr.ad hr).elim
   · exact (Tr.ad hr).elim
 · split at hr
   · rw[bz] at hr;exact pL _ _ _ _ hr
   · have:=sg _ _ _ _ _ _ hr
     rw[Nat.sub_zero] at this
     exact this.2
def uf (off:Nat) (h:Option Nat):List AV→Nat→List bL→Tr (List bL)
 | [],_,l=>.ok l
 | v::vs,j,l=>(EP l (ym off h j) (sX h j) v).bind fun l'=>uf off h vs (Nat.succ j) l'
theorem pK {off:Nat} {h:Option Nat}:∀ (vs:List AV) (j:Nat) (l l':List bL),(uf off h vs j l).run=some l'→(vs=[]∨off+j+vs.length≤ai l)∧Row.bm (.M l) (off+j) vs=.M l'
 | [],j,l,l',h=>⟨.inl rfl,by rw[Tr.ab h];rfl⟩
 | v :: vs,j,l,l',h=>by
   simp only[uf] at h
   obtain ⟨l1,h1,h⟩:=Tr.bind_some h
   obtain ⟨k1,k2⟩:=Cp h1
   rw[nT] at k1 k2
   obtain ⟨k3,k4⟩:=pK vs (j+1) l1 l' h
   have hl:ai l1=ai l:=by rw[← k2,jJ]
   refine ⟨.inr ?_,?_⟩
   · rcases k3 with rfl | k3
     · simp only[List.length_cons,List.length_nil];omega
     · simp only[List.length_cons];omega
   · simp only[Row.bm,Row.set,k2]
     exact k4
def Aq (l:List bL) (off:Nat) (h:Option Nat) (q:Row):Tr Row :=
 match l,q with
 | [.arr k z m],.M [.arr k' z' n]=>cond (eJ k' k) (.req (vm off n 0 m) (.ok (.M [.arr k (DU z off z' n) m]))) .bad
 | l,q=>cond (Nat.ble 9 (eY q)) (match h with
    | none=>cond (Nat.ble (Nat.add off (eY q)) (ai l)) (.ok (r6 l off q)) .bad
    | some _=>.bad)
   (match iH q with
     | []=>.bad
     | v::vs=>(uf off h (v::vs) 0 l).bind fun l'=>.ok (.M l'))
theorem r7 {l:List bL} {off:Nat} {h:Option Nat} {q r:Row} (hr:(Aq l off h q).run=some r):off+q.len≤ai l∧gq (.M l) off q=r:=by
 unfold Aq at hr
 split at hr
 · rename_i k z m k' z' n
   rw[gK] at hr
   split at hr
   · rename_i hk
     obtain ⟨hc,hr⟩:=Tr.au hr
     rw[gl,decide_eq_true_eq] at hc
     refine ⟨by simp only[Row.len,ai,ar];omega,?_⟩
     simp only[gq]
     rw[if_pos hk,← Tr.ab hr,Bi]
   · exact (Tr.ad hr).elim
 · rename_i hne
   have hA:gq (.M l) off q=r6 l off q:=by
    simp only[gq]
    split
    · rename_i k z m
      split
      · rename_i k' z' n
        exact (hne _ _ _ _ _ _ rfl rfl).elim
      · rfl
    · rfl
   rw[hA]
   rw[dj] at hr
   cases hb:Nat.ble 9 q.len with
   | true =>
     rw[hb,cond_true] at hr
     split at hr
     · cases hc:Nat.ble (Nat.add off q.len) (ai l) with
       | true =>
         rw[hc,cond_true] at hr
         rw[Nat.ble_eq] at hc
         exact ⟨hc,Tr.ab hr⟩
       | false=>rw[hc,cond_false] at hr;exact (Tr.ad hr).elim
     · exact (Tr.ad hr).elim
   | false =>
     rw[hb,cond_false,kL] at hr
     have hl:=Row.aG q
     split at hr
     · exact (Tr.ad hr).elim
     · rename_i v vs hq
       obtain ⟨l1,h1,hr⟩:=Tr.bind_some hr
       obtain ⟨k1,k2⟩:=pK _ _ _ _ h1
       rw[hq] at hl
       refine ⟨?_,?_⟩
       · rcases k1 with k1 | k1
         · simp at k1
         · omega
       · unfold r6
         rw[hb,if_neg (by simp),hq,← Tr.ab hr,← k2];rfl
def EC (d:Nat) (x:AV):Bool :=
 match d with
 | 0=>false
 | _+1=>match x with
   | .slc 0 _ _ _ _ _ _=>true
   | _=>false
def storeT (P:Program) (H:aa) (t:TypeId) (a:HV) (x:AV):Tr Delta :=
 match a.1 with
 | .ptr d i v off=>cond (EC d x) (match a.2 with | none=>ri (lO P H t a.1 x) | some _=>.bad)
   (cond (dw H d) .bad ((sc H d i v a.2).bind fun r=>match aI P t with
     | some n=>match x.row with
       | some q=>cond (Nat.beq (eY q) n) (match r with
         | .M l=>(Aq l off a.2 (fP d q)).bind fun r'=>.ok (.set d i (v,.row r'))
         | _=>match a.2 with | none=>ri (lO P H t a.1 x) | some _=>.bad) .bad
       | none=>.bad
     | none=>.bad))
 | _=>.bad
theorem yI {P:Program} {H:aa} {t:TypeId} {a:HV} {x:AV} {δ:Delta} (hr:(storeT P H t a x).run=some δ):dY P H t a.1 x=some δ:=by
 unfold storeT at hr
 split at hr
 · rename_i d i v off ha
   cases ho:EC d x with
   | true =>
     rw[ho,cond_true] at hr
     split at hr
     · rw[bz,kK] at hr;exact hr
     · exact (Tr.ad hr).elim
   | false =>
     rw[ho,cond_false,ct] at hr
     cases hl:an H d with
     | true=>rw[hl,cond_true] at hr;exact (Tr.ad hr).elim
     | false =>
       rw[hl,cond_false] at hr
       obtain ⟨r,h1,hr⟩:=Tr.bind_some hr
       split at hr
       · rename_i n hs
         split at hr
         · rename_i q hq
           rw[dj] at hr
           cases hb:Nat.beq q.len n with
           | false=>rw[hb,cond_false] at hr;exact (Tr.ad hr).elim
           | true =>
             rw[hb,cond_true] at hr
             have hb:q.len=n:=by simpa using hb
             split at hr
             · rename_i l
               obtain ⟨r',h2,hr⟩:=Tr.bind_some hr
               obtain ⟨k1,k2⟩:=r7 h2
               rw[dm] at k1
               rw[ha]
               unfold dY
               dsimp only
               rw[hl,if_neg (by simp),iD h1,hs,hq]
               dsimp only
               rw[if_pos ⟨hb,by show off+n≤ai l;omega⟩]
               have:∀ (d':Nat) (j w o sz len:Nat) (cap:Option Nat),d=d'+1→x≠.slc 0 j w o sz len cap:=by
                rintro d' j w o sz len cap rfl rfl
                simp[EC] at ho
               rw[← Tr.ab hr,← k2]
               split
               · exact absurd rfl (this _ _ _ _ _ _ _ rfl)
               · rfl
             · split at hr
               · rw[bz,kK] at hr;exact hr
               · exact (Tr.ad hr).elim
         · exact (Tr.ad hr).elim
       · exact (Tr.ad hr).elim
 · exact (Tr.ad hr).elim

def hOr (h:Option Nat) (off:Nat):Nat :=
 match h with
 | none=>off
 | some h=>h
def kd (P:Program) (t:TypeId) (a:HV) (f:Nat):Tr HV :=
 match P.underlying t with
 | some (.struct fs)=>match fs[f]? with
   | some g=>match aI P g.type with
     | some (_+1)=>match a.1 with
       | .ptr d i v off=>.ok (.ptr d i v (ym off a.2 g.offset),sX a.2 g.offset)
       | .ptrT s r off=>.ok (.ptrT s r (ym off a.2 g.offset),sX a.2 g.offset)
       | _=>.bad
     | _=>.bad
   | none=>.bad
 | _=>.bad
theorem qh {P:Program} {t:TypeId} {a b:HV} {f:Nat} (hr:(kd P t a f).run=some b):eg P t a.1 f=some b.1:=by
 unfold kd at hr
 unfold eg
 split at hr
 · rename_i fs hu
   rw[hu]
   dsimp only
   split at hr
   · rename_i g hg
     rw[hg]
     dsimp only
     split at hr
     · rename_i n hs
       rw[hs]
       dsimp only
       split at hr
       · rename_i d i v off ha
         rw[ha,← Tr.ab hr];simp only[gW,nT]
       · rename_i s r off ha
         rw[ha,← Tr.ab hr];simp only[gW,nT]
       · exact (Tr.ad hr).elim
     · exact (Tr.ad hr).elim
   · exact (Tr.ad hr).elim
 · exact (Tr.ad hr).elim
def isLit (x:HV):Bool :=
 match x.2 with
 | some _=>true
 | none=>false
def Ah (off:Nat) (ic:Bool) (i:Int) (z:Nat):Nat:=cond ic (Nat.add off (Nat.mul i.toNat z)) (oS off i z)
theorem nS (off:Nat) (ic:Bool) (i:Int) (z:Nat):Ah off ic i z=off+i.toNat*z:=by
 cases ic with
 | true=>rfl
 | false=>exact mq _ _ _
def wT (h:Option Nat) (off:Nat) (ic:Bool) (i:Int) (z:Nat):Option Nat :=
 cond ic (sX h (Nat.mul i.toNat z)) (some (hOr h off))
def Eb (P:Program) (t:TypeId) (a:HV) (ic:Bool) (i:Int):Tr HV :=
 match P.underlying t with
 | some (.array n e)=>match aI P e with
   | some z=>match a.1 with
     | .ptr d j v off=>.req (yO i n) (.ok (.ptr d j v (Ah off ic i z),wT a.2 off ic i z))
     | .ptrT s r off=>.req (yO i n) (.ok (.ptrT s r (Ah off ic i z),wT a.2 off ic i z))
     | _=>.bad
   | none=>.bad
 | some (.slice e)=>match aI P e with
   | some z=>match a.1 with
     | .slc d j v off sz len cap=>cond (Nat.beq z sz) (.req (yO i len) (.ok (.ptr d j v (Ah off ic i z),match cap with
       | some _=>wT none off ic i z
       | none=>some off))) .bad
     | .slcT s r sz len _=>cond (Nat.beq z sz) (.req (yO i len) (.ok (.ptrT s r (Ah 0 ic i z),wT none 0 ic i z))) .bad
     | _=>.bad
   | none=>.bad
 | _=>.bad
def GN (P:Program) (t:TypeId) (x:AV) (ic:Bool) (i:Int):Tr AV :=
 cond ic (ri (mw P t x i)) (match P.underlying t with
  | some (.array n e)=>match x with
    | .agg r=>match aI P e with
      | some z=>.req (yO i n) (tU P e r (oS 0 i z) (some 0))
      | none=>.bad
    | _=>.bad
  | _=>.bad)
theorem Eg {P:Program} {t:TypeId} {x v:AV} {ic:Bool} {i:Int} (hr:(GN P t x ic i).run=some v):mw P t x i=some v:=by
 unfold GN at hr
 cases ic with
 | true=>rw[cond_true,bz] at hr;exact hr
 | false =>
   rw[cond_false] at hr
   split at hr
   · rename_i n e hu
     split at hr
     · split at hr
       · rename_i z hs
         obtain ⟨hc,hr⟩:=Tr.au hr
         rw[mr,decide_eq_true_eq] at hc
         have h:=pA hr
         rw[mq,Nat.zero_add] at h
         unfold mw
         rw[hu]
         dsimp only
         rw[hs]
         dsimp only
         rw[if_pos hc,h]
       · exact (Tr.ad hr).elim
     · exact (Tr.ad hr).elim
   · exact (Tr.ad hr).elim
theorem BC {P:Program} {t:TypeId} {a b:HV} {ic:Bool} {i:Int} (hr:(Eb P t a ic i).run=some b):dy P t a.1 i=some b.1:=by
 unfold Eb at hr
 unfold dy
 split at hr
 · rename_i n e hu
   split at hr
   · rename_i z hs
     split at hr
     · rename_i d j v off ha
       obtain ⟨hc,hr⟩:=Tr.au hr
       rw[mr,decide_eq_true_eq] at hc
       rw[hu,ha]
       dsimp only
       rw[hs]
       dsimp only
       rw[if_pos hc,← Tr.ab hr]
       simp only[gW,nS]
     · rename_i s r off ha
       obtain ⟨hc,hr⟩:=Tr.au hr
       rw[mr,decide_eq_true_eq] at hc
       rw[hu,ha]
       dsimp only
       rw[hs]
       dsimp only
       rw[if_pos hc,← Tr.ab hr]
       simp only[gW,nS]
     · exact (Tr.ad hr).elim
   · exact (Tr.ad hr).elim
 · rename_i e hu
   split at hr
   · rename_i z hs
     split at hr
     · rename_i d j v off sz len cap ha
       cases hb:Nat.beq z sz with
       | false=>rw[hb,cond_false] at hr;exact (Tr.ad hr).elim
       | true =>
         rw[hb,cond_true] at hr
         have hb:z=sz:=by simpa using hb
         subst hb
         obtain ⟨hc,hr⟩:=Tr.au hr
         rw[mr,decide_eq_true_eq] at hc
         rw[hu,ha]
         dsimp only
         rw[if_pos ⟨hc.1,hc.2,hs⟩,← Tr.ab hr]
         simp only[nS]
     · rename_i s r sz len full ha
       cases hb:Nat.beq z sz with
       | false=>rw[hb,cond_false] at hr;exact (Tr.ad hr).elim
       | true =>
         rw[hb,cond_true] at hr
         have hb:z=sz:=by simpa using hb
         subst hb
         obtain ⟨hc,hr⟩:=Tr.au hr
         rw[mr,decide_eq_true_eq] at hc
         rw[hu,ha]
         dsimp only
         rw[if_pos ⟨hc.1,hc.2,hs⟩,← Tr.ab hr]
         simp only[nS,Nat.zero_add]
     · exact (Tr.ad hr).elim
   · exact (Tr.ad hr).elim
 · exact (Tr.ad hr).elim

end
end Go.Eng
