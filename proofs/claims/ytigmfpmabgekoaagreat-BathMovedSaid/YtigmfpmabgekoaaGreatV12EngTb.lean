/- The engine as a tree: frames with hints, rows, loads, stores, addresses. -/
import Derived.Test.YtigmfpmabgekoaaGreatV12EngOrax2
set_option linter.unusedVariables false
set_option linter.unusedSimpArgs false
namespace Go.Eng
noncomputable section

abbrev HV:=AV×Option Nat
abbrev aT:=List (Nat×HV)
def strip (f:aT):ay:=List.rec (motive:=fun _=>ay) [] (fun p _ ih=>(p.1,p.2.1)::ih) f
theorem da (x:Nat) (v:HV) (r:aT):strip ((x,v)::r)=(x,v.1)::strip r:=rfl
def l9 (f:aT) (y:Nat):HV:=List.rec (motive:=fun _=>HV) (AV.undef,none) (fun p _ ih=>Bool.rec ih p.2 (Nat.beq p.1 y)) f
theorem fy:∀ (f:aT) (y:Nat),(l9 f y).1=br (strip f) y
 | [],y=>rfl
 | (x,v)::r,y=>by
   have e:l9 ((x,v)::r) y=Bool.rec (l9 r y) v (Nat.beq x y):=rfl
   rw[e,da,br]
   cases Nat.beq x y with
   | true=>rfl
   | false=>exact fy r y
def yM (f:aT) (y:Nat) (u:HV):aT:=List.rec (motive:=fun _=>aT) [(y,u)] (fun p r ih=>Bool.rec (motive:=fun _=>aT) (p::ih) (Bool.rec (motive:=fun _=>aT) ((y,u)::p::r) ((y,u)::r) (Nat.beq p.1 y)) (Nat.ble y p.1)) f
theorem yN:∀ (f:aT) (y:Nat) (u:HV),strip (yM f y u)=uQ (strip f) y u.1
 | [],y,u=>rfl
 | (x,v)::r,y,u=>by
   have e:yM ((x,v)::r) y u=Bool.rec (motive:=fun _=>aT) ((x,v)::yM r y u) (Bool.rec (motive:=fun _=>aT) ((y,u)::(x,v)::r) ((y,u)::r) (Nat.beq x y)) (Nat.ble y x):=rfl
   rw[e,da,uQ,← yN r y u]
   cases Nat.ble y x with
   | false=>rfl
   | true=>cases Nat.beq x y<;>rfl
def gS (f:aT) (m:Nat):aT:=List.rec (motive:=fun _=>aT) [] (fun p _ ih=>Bool.rec (motive:=fun _=>aT) (p::ih) ih (Nat.beq (Nat.land (Nat.shiftRight m p.1) 1) 1)) f
theorem fg:∀ (f:aT) (m:Nat),strip (gS f m)=bO (strip f) m
 | [],m=>rfl
 | (x,v)::r,m=>by
   have e:gS ((x,v)::r) m=Bool.rec (motive:=fun _=>aT) ((x,v)::gS r m) (gS r m) (Nat.beq (Nat.land (Nat.shiftRight m x) 1) 1):=rfl
   have e2:bO ((x,v.1)::strip r) m=Bool.rec (motive:=fun _=>ay) ((x,v.1)::bO (strip r) m) (bO (strip r) m) (Nat.beq (Nat.land (Nat.shiftRight m x) 1) 1):=rfl
   rw[e,da,e2,← fg r m]
   cases Nat.beq (Nat.land (Nat.shiftRight m x) 1) 1<;>rfl
def P9 (v:Value):Option Nat :=
 match v with
 | .int _ _=>some 1
 | .bool _=>some 1
 | _=>none
def bY (fr:aT) (x:Operand):HV:=Operand.rec (motive:=fun _=>HV) (fun t=>l9 fr t) (fun v=>(lq v,P9 v)) (fun _=>(.undef,none)) (fun f=>(.fn (.func f) [] [],none)) x
theorem aY (fr:aT) (x:Operand):(bY fr x).1=bJ (strip fr) x:=by
 cases x with
 | tmp t=>exact fy fr t
 | _=>rfl
def zJ (fr:aT) (l:List Operand):List AV:=oB (fun x=>(bY fr x).1) l
theorem ua (fr:aT):∀ l,zJ fr l=kj (strip fr) l
 | []=>rfl
 | x::l=>by
   have e:zJ fr (x::l)=(bY fr x).1::zJ fr l:=rfl
   rw[e,ua fr l,aY];rfl
def rK (nt:Nat) (fr:aT) (dst:Option Tmp) (v:HV):aT:=Option.rec (motive:=fun _=>aT) fr (fun d=>Bool.rec (motive:=fun _=>aT) fr (yM fr d v) (Nat.ble (Nat.succ d) nt)) dst
theorem na (nt:Nat) (fr:aT) (dst:Option Tmp) (v:HV):strip (rK nt fr dst v)=dp nt (strip fr) dst v.1:=by
 rw[← pS]
 cases dst with
 | none=>rfl
 | some d =>
   have e:rK nt fr (some d) v=Bool.rec (motive:=fun _=>aT) fr (yM fr d v) (Nat.ble (Nat.succ d) nt):=rfl
   have e2:rL nt (strip fr) (some d) v.1=Bool.rec (motive:=fun _=>ay) (strip fr) (vF (strip fr) d v.1) (Nat.ble (Nat.succ d) nt):=rfl
   rw[e,e2,yz,← yN]
   cases Nat.ble (Nat.succ d) nt<;>rfl

def rr:List aL→Nat→Option AV
 | [],_=>none
 | .one v::r,j=>match j with
   | 0=>some v
   | j+1=>rr r j
 | .arr k z n::r,j=>cond (Nat.blt j n) (some (.int k (z j))) (rr r (Nat.sub j n))
theorem BQ {a b:Nat} (h:Nat.blt a b=true):a<b:=by rwa [Nat.blt_eq] at h
theorem I2 {a b:Nat} (h:Nat.blt a b=false):¬ a<b:=fun e=>by
 have:Nat.blt a b=true:=by rw[Nat.blt_eq];exact e
 rw[h] at this;cases this
theorem tv:∀ (l:List aL) (j:Nat) (v:AV),rr l j=some v→j<aE l∧getM l j=v
 | [],_,_,h=>by simp[rr] at h
 | .one u::r,0,v,h=>by
   simp only[rr,Option.some.injEq] at h
   exact ⟨by simp only[aE,aM];omega,h⟩
 | .one u::r,j+1,v,h=>by
   have:=tv r j v (by simpa[rr] using h)
   exact ⟨by simp only[aE,aM];omega,this.2⟩
 | .arr k z n::r,j,v,h=>by
   simp only[rr] at h
   simp only[aE,aM,getM]
   cases hb:Nat.blt j n with
   | true =>
     rw[hb,cond_true,Option.some.injEq] at h
     have:=BQ hb
     exact ⟨by omega,by rw[if_pos this];exact h⟩
   | false =>
     rw[hb,cond_false] at h
     have hn:=I2 hb
     have:=tv r (j-n) v h
     exact ⟨by omega,by rw[if_neg hn];exact this.2⟩
def Gt:List aL→Nat→Nat→Nat→Tr AV
 | [],_,_,_=>.bad
 | .one _::r,pos,h,off=>match h with
   | 0=>.bad
   | h+1=>Gt r (Nat.succ pos) h off
 | .arr k z n::r,pos,h,off=>cond (Nat.blt h n) (.req (la off 1 pos n) (.ok (.int k (z (dg off pos))))) (Gt r (Nat.add pos n) (Nat.sub h n) off)
theorem xW:∀ (l:List aL) (pos h off:Nat) (v:AV),(Gt l pos h off).run=some v→pos≤off∧off-pos<aE l∧getM l (off-pos)=v
 | [],_,_,_,_,h=>(Tr.ae h).elim
 | .one _::r,pos,0,off,v,h=>(Tr.ae h).elim
 | .one u::r,pos,h'+1,off,v,h=>by
   obtain ⟨h1,h2,h3⟩:=xW r (pos+1) h' off v h
   refine ⟨by omega,by simp only[aE,aM];omega,?_⟩
   rw[show off-pos=(off-(pos+1))+1 by omega]
   exact h3
 | .arr k z n::r,pos,h',off,v,h=>by
   simp only[Gt] at h
   cases hb:Nat.blt h' n with
   | true =>
     rw[hb,cond_true] at h
     obtain ⟨hc,h⟩:=Tr.aQ h
     rw[kf,decide_eq_true_eq] at hc
     have h:=Tr.ab h
     refine ⟨hc.1,by simp only[aE,aM];omega,?_⟩
     simp only[getM]
     rw[if_pos (by omega),← h,gF]
   | false =>
     rw[hb,cond_false] at h
     obtain ⟨h1,h2,h3⟩:=xW r (pos+n) (h'-n) off v h
     refine ⟨by omega,by simp only[aE,aM];omega,?_⟩
     simp only[getM]
     rw[if_neg (by omega),← h3]
     congr 1;omega
def CH (r:Row) (off:Nat) (h:Option Nat):Tr AV :=
 match r with
 | .F f n=>.req (bx off n) (.ok (f off))
 | .M l=>match l with
   | [.arr k z n]=>.req (bx off n) (.ok (.int k (z off)))
   | l=>match h with
     | none=>wc (rr l off)
     | some h=>Gt l 0 h off
 | .I k l=>match h with
   | none=>wc (jX (.I k l) off)
   | some _=>.req (bx off (Ku l)) (.ok (.int k (aB l off)))
 | .G l=>match h with
   | none=>wc (jX (.G l) off)
   | some _=>.bad
theorem z8 {r:Row} {off:Nat} {v:AV} (h:jX r off=some v):off<r.len∧r.get off=v:=by
 rw[ui] at h
 split at h
 · rename_i h0;exact ⟨h0,Option.some.inj h⟩
 · simp at h
theorem zX {r:Row} {off:Nat} {h:Option Nat} {v:AV} (hr:(CH r off h).run=some v):off<r.len∧r.get off=v:=by
 unfold CH at hr
 split at hr
 · obtain ⟨hc,hr⟩:=Tr.aQ hr
   rw[iI,decide_eq_true_eq] at hc
   exact ⟨hc,Tr.ab hr⟩
 · rename_i l
   split at hr
   · rename_i k z n
     obtain ⟨hc,hr⟩:=Tr.aQ hr
     rw[iI,decide_eq_true_eq] at hc
     refine ⟨by simp only[Row.len,aE,aM];omega,?_⟩
     simp only[Row.get,getM]
     rw[if_pos hc];exact Tr.ab hr
   · split at hr
     · rw[cW] at hr;exact tv _ _ _ hr
     · have:=xW _ _ _ _ _ hr
       rw[Nat.sub_zero] at this
       exact this.2
 · split at hr
   · rw[cW] at hr;exact z8 hr
   · obtain ⟨hc,hr⟩:=Tr.aQ hr
     rw[iI,decide_eq_true_eq,Hw] at hc
     refine ⟨hc,?_⟩
     rw[← Tr.ab hr,fI];rfl
 · split at hr
   · rw[cW] at hr;exact z8 hr
   · exact (Tr.ae hr).elim
def DV (off:Nat) (h:Option Nat) (j:Nat):Nat :=
 match h with
 | none=>Nat.add off j
 | some _=>match j with
   | 0=>off
   | j+1=>ah off (Nat.succ j)
theorem sv (off:Nat) (h:Option Nat) (j:Nat):DV off h j=off+j:=by
 unfold DV
 split
 · rfl
 · split
   · rfl
   · rw[aU]
def yR (h:Option Nat) (j:Nat):Option Nat :=
 match h with
 | none=>none
 | some h=>some (Nat.add h j)
def CI (r:Row) (off:Nat) (h:Option Nat):Nat→Nat→Tr (List AV)
 | _,0=>.ok []
 | j,n+1=>(CH r (DV off h j) (yR h j)).bind fun v=>(CI r off h (Nat.succ j) n).bind fun l=>.ok (v::l)
theorem zY {r:Row} {off:Nat} {h:Option Nat}:∀ (n j:Nat) (l:List AV),(CI r off h j n).run=some l→l=dy r.get (off+j) n∧(n=0∨off+j+n≤r.len)
 | 0,j,l,hr=>⟨(Tr.ab hr).symm,.inl rfl⟩
 | n+1,j,l,hr=>by
   simp only[CI] at hr
   obtain ⟨v,h1,hr⟩:=Tr.bind_some hr
   obtain ⟨m,h2,hr⟩:=Tr.bind_some hr
   have hr:=Tr.ab hr
   obtain ⟨k1,k2⟩:=zX h1
   obtain ⟨k3,k4⟩:=zY n (j+1) m h2
   rw[sv] at k1 k2
   refine ⟨?_,.inr (by omega)⟩
   rw[← hr,dy,k2,k3,show off+(j+1)=off+j+1 by omega]
def Gs:List aL→Nat→Nat→Nat→Nat→Tr AV
 | [],_,_,_,_=>.bad
 | .one _::r,pos,h,off,n=>match h with
   | 0=>.bad
   | h+1=>Gs r (Nat.succ pos) h off n
 | .arr k z m::r,pos,h,off,n=>cond (Nat.blt h m) (.req (la off n pos m) (.ok (.agg (.M [.arr k (fE z (dg off pos)) n])))) (Gs r (Nat.add pos m) (Nat.sub h m) off n)
theorem xV:∀ (l:List aL) (pos h off n:Nat) (v:AV),0<n→(Gs l pos h off n).run=some v→pos≤off∧off-pos+n≤aE l∧∃ k z,lU l (off-pos) n=some (k,z)∧v=.agg (.M [.arr k z n])
 | [],_,_,_,_,_,_,h=>(Tr.ae h).elim
 | .one _::r,pos,0,off,n,v,_,h=>(Tr.ae h).elim
 | .one u::r,pos,h'+1,off,n,v,hn,h=>by
   obtain ⟨h1,h2,k,z,h3,h4⟩:=xV r (pos+1) h' off n v hn h
   refine ⟨by omega,by simp only[aE,aM];omega,k,z,?_,h4⟩
   rw[show off-pos=(off-(pos+1))+1 by omega]
   exact h3
 | .arr k z m::r,pos,h',off,n,v,hn,h=>by
   simp only[Gs] at h
   cases hb:Nat.blt h' m with
   | true =>
     rw[hb,cond_true] at h
     obtain ⟨hc,h⟩:=Tr.aQ h
     rw[kf,decide_eq_true_eq] at hc
     have h:=Tr.ab h
     refine ⟨hc.1,by simp only[aE,aM];omega,k,fun j=>z (off-pos+j),?_,?_⟩
     · simp only[lU];rw[if_pos (by omega)]
     · rw[← h,jE,gF]
   | false =>
     rw[hb,cond_false] at h
     obtain ⟨h1,h2,k',z',h3,h4⟩:=xV r (pos+m) (h'-m) off n v hn h
     refine ⟨by omega,by simp only[aE,aM];omega,k',z',?_,h4⟩
     simp only[lU]
     rw[if_neg (by omega),if_pos (by omega),← h3]
     congr 1;omega
def Gr:List aL→Nat→Nat→Option Row
 | [],_,_=>none
 | .one _::r,o+1,n=>Gr r o n
 | .one _::_,0,_=>none
 | .arr k z m::r,o,n=>cond (Nat.ble (Nat.add o n) m) (some (.M [.arr k (cond (Nat.beq o 0) z (fE z o)) n])) (cond (Nat.ble m o) (Gr r (Nat.sub o m) n) none)
theorem xU:∀ (l:List aL) (o n:Nat) (q:Row),Gr l o n=some q→∃ k z,lU l o n=some (k,z)∧q=.M [.arr k z n]
 | [],_,_,_,h=>by cases h
 | .one u::r,o+1,n,q,h=>xU r o n q h
 | .one _::_,0,_,_,h=>by cases h
 | .arr k z m::r,o,n,q,h=>by
   simp only[Gr] at h
   cases hb:Nat.ble (Nat.add o n) m with
   | true =>
     rw[hb,cond_true] at h
     have hle:o+n≤m:=Nat.le_of_ble_eq_true hb
     simp only[Option.some.injEq] at h
     refine ⟨k,fun j=>z (o+j),by simp only[lU];rw[if_pos hle],?_⟩
     rw[← h]
     cases ho:Nat.beq o 0 with
     | true =>
       have:=Nat.eq_of_beq_eq_true ho
       subst this
       simp only[cond_true,Nat.zero_add]
     | false=>rw[cond_false,jE]
   | false =>
     rw[hb,cond_false] at h
     cases hm:Nat.ble m o with
     | true =>
       rw[hm,cond_true] at h
       have hle:m≤o:=Nat.le_of_ble_eq_true hm
       have hnl:¬ (o+n≤m):=fun hc=>by
        have:Nat.ble (Nat.add o n) m=true:=by rw[Nat.ble_eq];exact hc
        rw[hb] at this;cases this
       obtain ⟨k',z',h1,h2⟩:=xU r (o-m) n q h
       exact ⟨k',z',by simp only[lU];rw[if_neg hnl,if_pos hle];exact h1,h2⟩
     | false=>rw[hm,cond_false] at h;cases h
def zZ (P:Program) (t:TypeId) (r:Row) (off:Nat) (h:Option Nat):Tr AV :=
 match fx P t with
 | some false=>CH r off h
 | some true=>match bo P t with
   | some 0=>.bad
   | some (n+1)=>match r with
     | .M l=>cond (Nat.ble (Nat.succ n) 8) ((CI (.M l) off h 0 (Nat.succ n)).bind fun vs=>.ok (.agg (Row.ofList vs)))
       (match h with
       | none=>cond (Nat.ble (Nat.add off (Nat.succ n)) (aE l)) (cond (Nat.beq (aE l) (Nat.succ n)) (.ok (.agg ((Row.M l).cut off (Nat.succ n)))) (match Gr l off (Nat.succ n) with
         | some q=>.ok (.agg q)
         | none=>.ok (.agg ((Row.M l).cut off (Nat.succ n))))) .bad
       | some h=>cond (Nat.beq (aE l) (Nat.succ n)) .bad (Gs l 0 h off (Nat.succ n)))
     | .F f m=>.req (fA (ah off (Nat.succ n)) m) (.ok (.agg ((Row.F f m).cut off (Nat.succ n))))
     | .I k l=>match h with
       | none=>wc (qT P t (.I k l) off)
       | some _=>.bad
     | .G l=>match h with
       | none=>wc (qT P t (.G l) off)
       | some _=>.bad
   | none=>.bad
 | none=>.bad
theorem uh       {P : Program} {t:TypeId} {r:Row} {off:Nat} {h:Option Nat} {v:AV} (hr:(zZ P t r off h).run=some v):iL P t r off=some v:=by
 unfold zZ at hr
 split at hr
 · rename_i ha
   obtain ⟨h1,h2⟩:=zX hr
   unfold iL
   rw[ha]
   dsimp only
   rw[if_pos h1,h2]
 · rename_i ha
   split at hr
   · exact (Tr.ae hr).elim
   · rename_i n hs
     split at hr
     · rename_i l
       unfold iL
       rw[ha,hs]
       dsimp only
       cases hb:Nat.ble (Nat.succ n) 8 with
       | true =>
         rw[hb,cond_true] at hr
         obtain ⟨vs,h1,hr⟩:=Tr.bind_some hr
         have hr:=Tr.ab hr
         obtain ⟨k1,k2⟩:=zY _ _ _ h1
         rw[if_pos (by omega),← hr,k1]
         simp only[Row.cut]
         rw[show Nat.ble (n+1) 8=true from hb,if_pos rfl,Nat.add_zero]
         rfl
       | false =>
         rw[hb,cond_false] at hr
         split at hr
         · cases hc : Nat.ble (Nat.add off (Nat.succ n)) (aE l) with
           | true =>
             rw[hc,cond_true] at hr
             rw[Nat.ble_eq] at hc
             rw[if_pos (show off+(n+1)≤(Row.M l).len from hc)]
             cases hq:Nat.beq (aE l) (Nat.succ n) with
             | true=>rw[hq,cond_true] at hr;rw[← Tr.ab hr]
             | false =>
               rw[hq,cond_false] at hr
               split at hr
               · rename_i q hseg
                 obtain ⟨k,z,h3,h4⟩:=xU _ _ _ _ hseg
                 simp only[Row.cut]
                 rw[show Nat.ble (n+1) 8=false from hb,if_neg (by simp),show Nat.beq (aE l) (n+1)=false from hq,Bool.and_false,if_neg (by simp)]
                 have : Row.sub (.M l) off (n+1)=.M [.arr k z (n+1)]:=by
                  match l,h3,hq with
                  | [],h3,_=>simp[lU] at h3
                  | [.arr k' z' m],h3,hq =>
                    simp only[lU] at h3
                    split at h3
                    · simp only[nP] at h3
                      obtain ⟨rfl,rfl⟩:=h3
                      rfl
                    · split at h3<;>simp at h3
                  | .one u::r,h3,hq =>
                    simp only[Row.sub]
                    rw[show Nat.beq (aE (.one u::r)) (n+1)=false from hq,Bool.and_false,h3]
                    rfl
                  | .arr k' z' m::s::r,h3,hq =>
                    simp only[Row.sub]
                    rw[show Nat.beq (aE (.arr k' z' m::s::r)) (n+1)=false from hq,Bool.and_false,h3]
                    rfl
                 rw[this,← Tr.ab hr,h4]
               · rw[← Tr.ab hr]
           | false=>rw[hc,cond_false] at hr;exact (Tr.ae hr).elim
         · rename_i h
           cases hc:Nat.beq (aE l) (Nat.succ n) with
           | true=>rw[hc,cond_true] at hr;exact (Tr.ae hr).elim
           | false =>
             rw[hc,cond_false] at hr
             obtain ⟨h1,h2,k,z,h3,h4⟩:=xV _ _ _ _ _ _ (Nat.succ_pos n) hr
             rw[Nat.sub_zero] at h2 h3
             rw[if_pos (show off+(n+1)≤(Row.M l).len from h2)]
             simp only[Row.cut]
             rw[show Nat.ble (n+1) 8=false from hb,if_neg (by simp),show Nat.beq (aE l) (n+1)=false from hc,Bool.and_false,if_neg (by simp)]
             have : Row.sub (.M l) off (n+1)=.M [.arr k z (n+1)]:=by
              match l,h3,hc with
              | [],h3,_=>simp[lU] at h3
              | [.arr k' z' m],h3,hc =>
                simp only[lU] at h3
                split at h3
                · simp only[nP] at h3
                  obtain ⟨rfl,rfl⟩:=h3
                  rfl
                · split at h3<;>simp at h3
              | .one u::r,h3,hc =>
                simp only[Row.sub]
                rw[show Nat.beq (aE (.one u::r)) (n+1)=false from hc,Bool.and_false,h3]
                rfl
              | .arr k' z' m::s::r,h3,hc =>
                simp only[Row.sub]
                rw[show Nat.beq (aE (.arr k' z' m::s::r)) (n+1)=false from hc,Bool.and_false,h3]
                rfl
             rw[this,h4]
     · rename_i f m
       obtain ⟨hc,hr⟩:=Tr.aQ hr
       rw[lJ,decide_eq_true_eq,aU] at hc
       unfold iL
       rw[ha,hs]
       dsimp only
       rw[if_pos (show off+(n+1)≤(Row.F f m).len from hc),← Tr.ab hr]
     · split at hr
       · rw[cW,qU] at hr;exact hr
       · exact (Tr.ae hr).elim
     · split at hr
       · rw[cW,qU] at hr;exact hr
       · exact (Tr.ae hr).elim
   · exact (Tr.ae hr).elim
 · exact (Tr.ae hr).elim

def xS (H:aa) (d i v:Nat) (h:Option Nat):Tr Row :=
 match h with
 | none=>wc (yO H d i v)
 | some _=>match eX H d i with
   | (ver,.row r)=>.req (cM ver v) (.ok r)
   | _=>.bad
theorem lS {H:aa} {d i v:Nat} {h:Option Nat} {r:Row} (hr:(xS H d i v h).run=some r):dc H d i v=some r:=by
 unfold xS at hr
 split at hr
 · rw[cW,tx] at hr;exact hr
 · rw[im] at hr
   split at hr
   · rename_i ver q hg
     obtain ⟨hc,hr2⟩:=Tr.aQ hr
     rw[gq,decide_eq_true_eq] at hc
     subst hc
     unfold dc
     rw[hg]
     simp only[Nat.beq_refl,if_true]
     rw[Tr.ab hr2]
   · exact (Tr.ae hr).elim
def loadT (P:Program) (H:aa) (t:TypeId) (a:HV):Tr AV :=
 match a.1 with
 | .ptr d i v off=>(xS H d i v a.2).bind fun r=>(zZ P t r off a.2).bind fun x=>.ok (gL d x)
 | .ptrT s r off=>(zZ P t r off a.2).bind fun x=>.ok (Rr s x)
 | _=>.bad
theorem zj {P:Program} {H:aa} {t:TypeId} {a:HV} {v:AV} (hr:(loadT P H t a).run=some v):mZ P H t a.1=some v:=by
 unfold loadT at hr
 unfold mZ
 split at hr
 · rename_i d i ver off ha
   obtain ⟨r,h1,hr⟩:=Tr.bind_some hr
   obtain ⟨x,h2,hr⟩:=Tr.bind_some hr
   rw[ha]
   dsimp only
   rw[lS h1]
   dsimp only
   rw[uh h2,← Tr.ab hr];rfl
 · rename_i s r off ha
   obtain ⟨x,h2,hr⟩:=Tr.bind_some hr
   rw[ha]
   dsimp only
   rw[uh h2,← Tr.ab hr];rfl
 · exact (Tr.ae hr).elim

def rR:List aL→Nat→AV→Option (List aL)
 | [],_,_=>none
 | .one u::r,j,v=>match j with
   | 0=>some (.one v::r)
   | j+1=>match rR r j v with
     | some r'=>some (.one u::r')
     | none=>none
 | .arr k z n::r,j,v=>cond (Nat.blt j n) (match v with
    | .int k' x=>cond (gN k' k) (some (.arr k (iw z j x) n::r)) none
    | _=>none)
   (match rR r (Nat.sub j n) v with
     | some r'=>some (.arr k z n::r')
     | none=>none)
theorem ur:∀ (l:List aL) (j:Nat) (v:AV) (l':List aL),rR l j v=some l'→j<aE l∧kr l j v=l'
 | [],_,_,_,h=>by simp[rR] at h
 | .one u::r,0,v,l',h=>by
   simp only[rR,Option.some.injEq] at h
   exact ⟨by simp only[aE,aM];omega,h⟩
 | .one u::r,j+1,v,l',h=>by
   simp only[rR] at h
   split at h
   · rename_i r' hr
     have:=ur r j v r' hr
     simp only[Option.some.injEq] at h
     exact ⟨by simp only[aE,aM];omega,by simp only[kr];rw[this.2];exact h⟩
   · simp at h
 | .arr k z n::r,j,v,l',h=>by
   simp only[rR] at h
   cases hb:Nat.blt j n with
   | true =>
     rw[hb,cond_true] at h
     have hj:=BQ hb
     split at h
     · rename_i k' x
       rw[kP] at h
       split at h
       · rename_i hk
         simp only[Option.some.injEq] at h
         refine ⟨by simp only[aE,aM];omega,?_⟩
         simp only[kr]
         rw[if_pos hj,if_pos hk,← h,j5]
       · simp at h
     · simp at h
   | false =>
     rw[hb,cond_false] at h
     have hj:=I2 hb
     split at h
     · rename_i r' hr
       have:=ur r (j-n) v r' hr
       simp only[Option.some.injEq] at h
       exact ⟨by simp only[aE,aM];omega,by simp only[kr];rw[if_neg hj,this.2];exact h⟩
     · simp at h
def D7:List aL→Nat→Nat→Nat→AV→Tr (List aL)
 | [],_,_,_,_=>.bad
 | .one u::r,pos,h,off,v=>match h with
   | 0=>.bad
   | h+1=>(D7 r (Nat.succ pos) h off v).bind fun r'=>.ok (.one u::r')
 | .arr k z n::r,pos,h,off,v=>cond (Nat.blt h n) (match v with
    | .int k' x=>cond (gN k' k) (.req (la off 1 pos n) (.ok (.arr k (iw z (dg off pos) x) n::r))) .bad
    | _=>.bad)
   ((D7 r (Nat.add pos n) (Nat.sub h n) off v).bind fun r'=>.ok (.arr k z n::r'))
theorem xX:∀ (l:List aL) (pos h off:Nat) (v:AV) (l':List aL),(D7 l pos h off v).run=some l'→pos≤off∧off-pos<aE l∧kr l (off-pos) v=l'
 | [],_,_,_,_,_,h=>(Tr.ae h).elim
 | .one _::r,pos,0,off,v,l',h=>(Tr.ae h).elim
 | .one u::r,pos,h'+1,off,v,l',h=>by
   simp only[D7] at h
   obtain ⟨r',hr,h⟩:=Tr.bind_some h
   obtain ⟨h1,h2,h3⟩:=xX r (pos+1) h' off v r' hr
   refine ⟨by omega,by simp only[aE,aM];omega,?_⟩
   rw[show off-pos=(off-(pos+1))+1 by omega,← Tr.ab h,← h3]
   rfl
 | .arr k z n::r,pos,h',off,v,l',h=>by
   simp only[D7] at h
   cases hb:Nat.blt h' n with
   | true =>
     rw[hb,cond_true] at h
     split at h
     · rename_i k' x
       rw[kP] at h
       split at h
       · rename_i hk
         obtain ⟨hc,h⟩:=Tr.aQ h
         rw[kf,decide_eq_true_eq] at hc
         refine ⟨hc.1,by simp only[aE,aM];omega,?_⟩
         simp only[kr]
         rw[if_pos (by omega),if_pos hk,← Tr.ab h,j5,gF]
       · exact (Tr.ae h).elim
     · exact (Tr.ae h).elim
   | false =>
     rw[hb,cond_false] at h
     obtain ⟨r',hr,h⟩:=Tr.bind_some h
     obtain ⟨h1,h2,h3⟩:=xX r (pos+n) (h'-n) off v r' hr
     refine ⟨by omega,by simp only[aE,aM];omega,?_⟩
     simp only[kr]
     rw[if_neg (by omega),← Tr.ab h,← h3,show off-pos-n=off-(pos+n) by omega]
def KZ (l:List aL) (off:Nat) (h:Option Nat) (v:AV):Tr (List aL) :=
 match l with
 | [.arr k z n]=>match v with
   | .int k' x=>cond (gN k' k) (.req (bx off n) (.ok [.arr k (iw z off x) n])) .bad
   | _=>.bad
 | l=>match h with
   | none=>wc (rR l off v)
   | some h=>D7 l 0 h off v
theorem IB {l l':List aL} {off:Nat} {h:Option Nat} {v:AV} (hr:(KZ l off h v).run=some l'):off<aE l∧kr l off v=l':=by
 unfold KZ at hr
 split at hr
 · rename_i k z n
   split at hr
   · rename_i k' x
     rw[kP] at hr
     split at hr
     · rename_i hk
       obtain ⟨hc,hr⟩:=Tr.aQ hr
       rw[iI,decide_eq_true_eq] at hc
       refine ⟨by simp only[aE,aM];omega,?_⟩
       simp only[kr]
       rw[if_pos hc,if_pos hk,← Tr.ab hr,j5]
     · exact (Tr.ae hr).elim
   · exact (Tr.ae hr).elim
 · split at hr
   · rw[cW] at hr;exact ur _ _ _ _ hr
   · have:=xX _ _ _ _ _ _ hr
     rw[Nat.sub_zero] at this
     exact this.2
def Ag (off:Nat) (h:Option Nat):List AV→Nat→List aL→Tr (List aL)
 | [],_,l=>.ok l
 | v::vs,j,l=>(KZ l (DV off h j) (yR h j) v).bind fun l'=>Ag off h vs (Nat.succ j) l'
theorem uq {off:Nat} {h:Option Nat}:∀ (vs:List AV) (j:Nat) (l l':List aL),(Ag off h vs j l).run=some l'→(vs=[]∨off+j+vs.length≤aE l)∧Row.cG (.M l) (off+j) vs=.M l'
 | [],j,l,l',h=>⟨.inl rfl,by rw[Tr.ab h];rfl⟩
 | v :: vs,j,l,l',h=>by
   simp only[Ag] at h
   obtain ⟨l1,h1,h⟩:=Tr.bind_some h
   obtain ⟨k1,k2⟩:=IB h1
   rw[sv] at k1 k2
   obtain ⟨k3,k4⟩:=uq vs (j+1) l1 l' h
   have hl:aE l1=aE l:=by rw[← k2,nw]
   refine ⟨.inr ?_,?_⟩
   · rcases k3 with rfl | k3
     · simp only[List.length_cons,List.length_nil];omega
     · simp only[List.length_cons];omega
   · simp only[Row.cG,Row.set,k2]
     exact k4
def Gb (l:List aL) (off:Nat) (h:Option Nat) (q:Row):Tr Row :=
 match l,q with
 | [.arr k z m],.M [.arr k' z' n]=>cond (gN k' k) (.req (la off n 0 m) (.ok (.M [.arr k (fK z off z' n) m]))) .bad
 | l,q=>cond (Nat.ble 9 (iM q)) (match h with
    | none=>cond (Nat.ble (Nat.add off (iM q)) (aE l)) (.ok (xK l off q)) .bad
    | some _=>.bad)
   (match lX q with
     | []=>.bad
     | v::vs=>(Ag off h (v::vs) 0 l).bind fun l'=>.ok (.M l'))
theorem xL {l:List aL} {off:Nat} {h:Option Nat} {q r:Row} (hr:(Gb l off h q).run=some r):off+q.len≤aE l∧kn (.M l) off q=r:=by
 unfold Gb at hr
 split at hr
 · rename_i k z m k' z' n
   rw[kP] at hr
   split at hr
   · rename_i hk
     obtain ⟨hc,hr⟩:=Tr.aQ hr
     rw[kf,decide_eq_true_eq] at hc
     refine ⟨by simp only[Row.len,aE,aM];omega,?_⟩
     simp only[kn]
     rw[if_pos hk,← Tr.ab hr,jR]
   · exact (Tr.ae hr).elim
 · rename_i hne
   have hA:kn (.M l) off q=xK l off q:=by
    simp only[kn]
    split
    · rename_i k z m
      split
      · rename_i k' z' n
        exact (hne _ _ _ _ _ _ rfl rfl).elim
      · rfl
    · rfl
   rw[hA]
   rw[fC] at hr
   cases hb:Nat.ble 9 q.len with
   | true =>
     rw[hb,cond_true] at hr
     split at hr
     · cases hc:Nat.ble (Nat.add off q.len) (aE l) with
       | true =>
         rw[hc,cond_true] at hr
         rw[Nat.ble_eq] at hc
         exact ⟨hc,Tr.ab hr⟩
       | false=>rw[hc,cond_false] at hr;exact (Tr.ae hr).elim
     · exact (Tr.ae hr).elim
   | false =>
     rw[hb,cond_false,oR] at hr
     have hl:=Row.bn q
     split at hr
     · exact (Tr.ae hr).elim
     · rename_i v vs hq
       obtain ⟨l1,h1,hr⟩:=Tr.bind_some hr
       obtain ⟨k1,k2⟩:=uq _ _ _ _ h1
       rw[hq] at hl
       refine ⟨?_,?_⟩
       · rcases k1 with k1 | k1
         · simp at k1
         · omega
       · unfold xK
         rw[hb,if_neg (by simp),hq,← Tr.ab hr,← k2];rfl
def KO (d:Nat) (x:AV):Bool :=
 match d with
 | 0=>false
 | _+1=>match x with
   | .slc 0 _ _ _ _ _ _=>true
   | _=>false
def storeT (P:Program) (H:aa) (t:TypeId) (a:HV) (x:AV):Tr Delta :=
 match a.1 with
 | .ptr d i v off=>cond (KO d x) (match a.2 with | none=>wc (p6 P H t a.1 x) | some _=>.bad)
   (cond (fL H d) .bad ((xS H d i v a.2).bind fun r=>match bo P t with
     | some n=>match x.row with
       | some q=>cond (Nat.beq (iM q) n) (match r with
         | .M l=>(Gb l off a.2 (jH d q)).bind fun r'=>.ok (.set d i (v,.row r'))
         | _=>match a.2 with | none=>wc (p6 P H t a.1 x) | some _=>.bad) .bad
       | none=>.bad
     | none=>.bad))
 | _=>.bad
theorem Ef {P:Program} {H:aa} {t:TypeId} {a:HV} {x:AV} {δ:Delta} (hr:(storeT P H t a x).run=some δ):gD P H t a.1 x=some δ:=by
 unfold storeT at hr
 split at hr
 · rename_i d i v off ha
   cases ho:KO d x with
   | true =>
     rw[ho,cond_true] at hr
     split at hr
     · rw[cW,oQ] at hr;exact hr
     · exact (Tr.ae hr).elim
   | false =>
     rw[ho,cond_false,ev] at hr
     cases hl:aA H d with
     | true=>rw[hl,cond_true] at hr;exact (Tr.ae hr).elim
     | false =>
       rw[hl,cond_false] at hr
       obtain ⟨r,h1,hr⟩:=Tr.bind_some hr
       split at hr
       · rename_i n hs
         split at hr
         · rename_i q hq
           rw[fC] at hr
           cases hb:Nat.beq q.len n with
           | false=>rw[hb,cond_false] at hr;exact (Tr.ae hr).elim
           | true =>
             rw[hb,cond_true] at hr
             have hb:q.len=n:=by simpa using hb
             split at hr
             · rename_i l
               obtain ⟨r',h2,hr⟩:=Tr.bind_some hr
               obtain ⟨k1,k2⟩:=xL h2
               rw[fF] at k1
               rw[ha]
               unfold gD
               dsimp only
               rw[hl,if_neg (by simp),lS h1,hs,hq]
               dsimp only
               rw[if_pos ⟨hb,by show off+n≤aE l;omega⟩]
               have:∀ (d':Nat) (j w o sz len:Nat) (cap:Option Nat),d=d'+1→x≠.slc 0 j w o sz len cap:=by
                rintro d' j w o sz len cap rfl rfl
                simp[KO] at ho
               rw[← Tr.ab hr,← k2]
               split
               · exact absurd rfl (this _ _ _ _ _ _ _ rfl)
               · rfl
             · split at hr
               · rw[cW,oQ] at hr;exact hr
               · exact (Tr.ae hr).elim
         · exact (Tr.ae hr).elim
       · exact (Tr.ae hr).elim
 · exact (Tr.ae hr).elim

def hOr (h:Option Nat) (off:Nat):Nat :=
 match h with
 | none=>off
 | some h=>h
def oi (P:Program) (t:TypeId) (a:HV) (f:Nat):Tr HV :=
 match P.underlying t with
 | some (.struct fs)=>match fs[f]? with
   | some g=>match bo P g.type with
     | some (_+1)=>match a.1 with
       | .ptr d i v off=>.ok (.ptr d i v (DV off a.2 g.offset),yR a.2 g.offset)
       | .ptrT s r off=>.ok (.ptrT s r (DV off a.2 g.offset),yR a.2 g.offset)
       | _=>.bad
     | _=>.bad
   | none=>.bad
 | _=>.bad
theorem uR {P:Program} {t:TypeId} {a b:HV} {f:Nat} (hr:(oi P t a f).run=some b):gR P t a.1 f=some b.1:=by
 unfold oi at hr
 unfold gR
 split at hr
 · rename_i fs hu
   rw[hu]
   dsimp only
   split at hr
   · rename_i g hg
     rw[hg]
     dsimp only
     split at hr
     · rename_i n hs
       rw[hs]
       dsimp only
       split at hr
       · rename_i d i v off ha
         rw[ha,← Tr.ab hr];simp only[lf,sv]
       · rename_i s r off ha
         rw[ha,← Tr.ab hr];simp only[lf,sv]
       · exact (Tr.ae hr).elim
     · exact (Tr.ae hr).elim
   · exact (Tr.ae hr).elim
 · exact (Tr.ae hr).elim
def isLit (x:HV):Bool :=
 match x.2 with
 | some _=>true
 | none=>false
def F2 (off:Nat) (ic:Bool) (i:Int) (z:Nat):Nat:=cond ic (Nat.add off (Nat.mul i.toNat z)) (au off i z)
theorem su (off:Nat) (ic:Bool) (i:Int) (z:Nat):F2 off ic i z=off+i.toNat*z:=by
 cases ic with
 | true=>rfl
 | false=>exact bB _ _ _
def Cg (h:Option Nat) (off:Nat) (ic:Bool) (i:Int) (z:Nat):Option Nat :=
 cond ic (yR h (Nat.mul i.toNat z)) (some (hOr h off))
def Kl (P:Program) (t:TypeId) (a:HV) (ic:Bool) (i:Int):Tr HV :=
 match P.underlying t with
 | some (.array n e)=>match bo P e with
   | some z=>match a.1 with
     | .ptr d j v off=>.req (dR i n) (.ok (.ptr d j v (F2 off ic i z),Cg a.2 off ic i z))
     | .ptrT s r off=>.req (dR i n) (.ok (.ptrT s r (F2 off ic i z),Cg a.2 off ic i z))
     | _=>.bad
   | none=>.bad
 | some (.slice e)=>match bo P e with
   | some z=>match a.1 with
     | .slc d j v off sz len cap=>cond (Nat.beq z sz) (.req (dR i len) (.ok (.ptr d j v (F2 off ic i z),match cap with
       | some _=>Cg none off ic i z
       | none=>some off))) .bad
     | .slcT s r sz len _=>cond (Nat.beq z sz) (.req (dR i len) (.ok (.ptrT s r (F2 0 ic i z),Cg none 0 ic i z))) .bad
     | _=>.bad
   | none=>.bad
 | _=>.bad
def OZ (P:Program) (t:TypeId) (x:AV) (ic:Bool) (i:Int):Tr AV :=
 cond ic (wc (qC P t x i)) (match P.underlying t with
  | some (.array n e)=>match x with
    | .agg r=>match bo P e with
      | some z=>.req (dR i n) (zZ P e r (au 0 i z) (some 0))
      | none=>.bad
    | _=>.bad
  | _=>.bad)
theorem Kr {P:Program} {t:TypeId} {x v:AV} {ic:Bool} {i:Int} (hr:(OZ P t x ic i).run=some v):qC P t x i=some v:=by
 unfold OZ at hr
 cases ic with
 | true=>rw[cond_true,cW] at hr;exact hr
 | false =>
   rw[cond_false] at hr
   split at hr
   · rename_i n e hu
     split at hr
     · split at hr
       · rename_i z hs
         obtain ⟨hc,hr⟩:=Tr.aQ hr
         rw[qB,decide_eq_true_eq] at hc
         have h:=uh hr
         rw[bB,Nat.zero_add] at h
         unfold qC
         rw[hu]
         dsimp only
         rw[hs]
         dsimp only
         rw[if_pos hc,h]
       · exact (Tr.ae hr).elim
     · exact (Tr.ae hr).elim
   · exact (Tr.ae hr).elim
theorem Hs {P:Program} {t:TypeId} {a b:HV} {ic:Bool} {i:Int} (hr:(Kl P t a ic i).run=some b):fO P t a.1 i=some b.1:=by
 unfold Kl at hr
 unfold fO
 split at hr
 · rename_i n e hu
   split at hr
   · rename_i z hs
     split at hr
     · rename_i d j v off ha
       obtain ⟨hc,hr⟩:=Tr.aQ hr
       rw[qB,decide_eq_true_eq] at hc
       rw[hu,ha]
       dsimp only
       rw[hs]
       dsimp only
       rw[if_pos hc,← Tr.ab hr]
       simp only[lf,su]
     · rename_i s r off ha
       obtain ⟨hc,hr⟩:=Tr.aQ hr
       rw[qB,decide_eq_true_eq] at hc
       rw[hu,ha]
       dsimp only
       rw[hs]
       dsimp only
       rw[if_pos hc,← Tr.ab hr]
       simp only[lf,su]
     · exact (Tr.ae hr).elim
   · exact (Tr.ae hr).elim
 · rename_i e hu
   split at hr
   · rename_i z hs
     split at hr
     · rename_i d j v off sz len cap ha
       cases hb:Nat.beq z sz with
       | false=>rw[hb,cond_false] at hr;exact (Tr.ae hr).elim
       | true =>
         rw[hb,cond_true] at hr
         have hb:z=sz:=by simpa using hb
         subst hb
         obtain ⟨hc,hr⟩:=Tr.aQ hr
         rw[qB,decide_eq_true_eq] at hc
         rw[hu,ha]
         dsimp only
         rw[if_pos ⟨hc.1,hc.2,hs⟩,← Tr.ab hr]
         simp only[su]
     · rename_i s r sz len full ha
       cases hb:Nat.beq z sz with
       | false=>rw[hb,cond_false] at hr;exact (Tr.ae hr).elim
       | true =>
         rw[hb,cond_true] at hr
         have hb:z=sz:=by simpa using hb
         subst hb
         obtain ⟨hc,hr⟩:=Tr.aQ hr
         rw[qB,decide_eq_true_eq] at hc
         rw[hu,ha]
         dsimp only
         rw[if_pos ⟨hc.1,hc.2,hs⟩,← Tr.ab hr]
         simp only[su,Nat.zero_add]
     · exact (Tr.ae hr).elim
   · exact (Tr.ae hr).elim
 · exact (Tr.ae hr).elim

end
end Go.Eng
