/- The engine as a tree: frames with hints, rows, loads, stores, addresses. -/
import Derived.Test.YtgphpjdchnfjlaaDoorV4EngOrax2
set_option linter.unusedVariables false
set_option linter.unusedSimpArgs false
namespace Go.Eng
noncomputable section

abbrev HV:=AV×Option Nat
abbrev aN:=List (Nat×HV)
def strip (f:aN):au:=List.rec (motive:=fun _=>au) [] (fun p _ ih=>(p.1,p.2.1)::ih) f
theorem cX (x:Nat) (v:HV) (r:aN):strip ((x,v)::r)=(x,v.1)::strip r:=rfl
def kS (f:aN) (y:Nat):HV:=List.rec (motive:=fun _=>HV) (AV.undef,none) (fun p _ ih=>Bool.rec ih p.2 (Nat.beq p.1 y)) f
theorem eP:∀ (f:aN) (y:Nat),(kS f y).1=bA (strip f) y
 | [],y=>rfl
 | (x,v)::r,y=>by
   have e:kS ((x,v)::r) y=Bool.rec (kS r y) v (Nat.beq x y):=rfl
   rw[e,cX,bA]
   cases Nat.beq x y with
   | true=>rfl
   | false=>exact eP r y
def wL (f:aN) (y:Nat) (u:HV):aN:=List.rec (motive:=fun _=>aN) [(y,u)] (fun p r ih=>Bool.rec (motive:=fun _=>aN) (p::ih) (Bool.rec (motive:=fun _=>aN) ((y,u)::p::r) ((y,u)::r) (Nat.beq p.1 y)) (Nat.ble y p.1)) f
theorem wM:∀ (f:aN) (y:Nat) (u:HV),strip (wL f y u)=sW (strip f) y u.1
 | [],y,u=>rfl
 | (x,v)::r,y,u=>by
   have e:wL ((x,v)::r) y u=Bool.rec (motive:=fun _=>aN) ((x,v)::wL r y u) (Bool.rec (motive:=fun _=>aN) ((y,u)::(x,v)::r) ((y,u)::r) (Nat.beq x y)) (Nat.ble y x):=rfl
   rw[e,cX,sW,← wM r y u]
   cases Nat.ble y x with
   | false=>rfl
   | true=>cases Nat.beq x y<;>rfl
def fZ (f:aN) (m:Nat):aN:=List.rec (motive:=fun _=>aN) [] (fun p _ ih=>Bool.rec (motive:=fun _=>aN) (p::ih) ih (Nat.beq (Nat.land (Nat.shiftRight m p.1) 1) 1)) f
theorem ey:∀ (f:aN) (m:Nat),strip (fZ f m)=bJ (strip f) m
 | [],m=>rfl
 | (x,v)::r,m=>by
   have e:fZ ((x,v)::r) m=Bool.rec (motive:=fun _=>aN) ((x,v)::fZ r m) (fZ r m) (Nat.beq (Nat.land (Nat.shiftRight m x) 1) 1):=rfl
   have e2:bJ ((x,v.1)::strip r) m=Bool.rec (motive:=fun _=>au) ((x,v.1)::bJ (strip r) m) (bJ (strip r) m) (Nat.beq (Nat.land (Nat.shiftRight m x) 1) 1):=rfl
   rw[e,cX,e2,← ey r m]
   cases Nat.beq (Nat.land (Nat.shiftRight m x) 1) 1<;>rfl
def N8 (v:Value):Option Nat :=
 match v with
 | .int _ _=>some 1
 | .bool _=>some 1
 | _=>none
def bR (fr:aN) (x:Operand):HV:=Operand.rec (motive:=fun _=>HV) (fun t=>kS fr t) (fun v=>(ka v,N8 v)) (fun _=>(.undef,none)) (fun f=>(.fn (.func f) [] [],none)) x
theorem aU (fr:aN) (x:Operand):(bR fr x).1=bD (strip fr) x:=by
 cases x with
 | tmp t=>exact eP fr t
 | _=>rfl
def xu (fr:aN) (l:List Operand):List AV:=m4 (fun x=>(bR fr x).1) l
theorem r9 (fr:aN):∀ l,xu fr l=jr (strip fr) l
 | []=>rfl
 | x::l=>by
   have e:xu fr (x::l)=(bR fr x).1::xu fr l:=rfl
   rw[e,r9 fr l,aU];rfl
def pZ (nt:Nat) (fr:aN) (dst:Option Tmp) (v:HV):aN:=Option.rec (motive:=fun _=>aN) fr (fun d=>Bool.rec (motive:=fun _=>aN) fr (wL fr d v) (Nat.ble (Nat.succ d) nt)) dst
theorem lO (nt:Nat) (fr:aN) (dst:Option Tmp) (v:HV):strip (pZ nt fr dst v)=gQ nt (strip fr) dst v.1:=by
 rw[← oz]
 cases dst with
 | none=>rfl
 | some d =>
   have e:pZ nt fr (some d) v=Bool.rec (motive:=fun _=>aN) fr (wL fr d v) (Nat.ble (Nat.succ d) nt):=rfl
   have e2:p6 nt (strip fr) (some d) v.1=Bool.rec (motive:=fun _=>au) (strip fr) (tM (strip fr) d v.1) (Nat.ble (Nat.succ d) nt):=rfl
   rw[e,e2,wu,← wM]
   cases Nat.ble (Nat.succ d) nt<;>rfl

def pN:List aq→Nat→Option AV
 | [],_=>none
 | .one v::r,j=>match j with
   | 0=>some v
   | j+1=>pN r j
 | .arr k z n::r,j=>cond (Nat.blt j n) (some (.int k (z j))) (pN r (Nat.sub j n))
theorem Al {a b:Nat} (h:Nat.blt a b=true):a<b:=by rwa [Nat.blt_eq] at h
theorem Hf {a b:Nat} (h:Nat.blt a b=false):¬ a<b:=fun e=>by
 have:Nat.blt a b=true:=by rw[Nat.blt_eq];exact e
 rw[h] at this;cases this
theorem rz:∀ (l:List aq) (j:Nat) (v:AV),pN l j=some v→j<av l∧getM l j=v
 | [],_,_,h=>by simp[pN] at h
 | .one u::r,0,v,h=>by
   simp only[pN,Option.some.injEq] at h
   exact ⟨by simp only[av,aH];omega,h⟩
 | .one u::r,j+1,v,h=>by
   have:=rz r j v (by simpa[pN] using h)
   exact ⟨by simp only[av,aH];omega,this.2⟩
 | .arr k z n::r,j,v,h=>by
   simp only[pN] at h
   simp only[av,aH,getM]
   cases hb:Nat.blt j n with
   | true =>
     rw[hb,cond_true,Option.some.injEq] at h
     have:=Al hb
     exact ⟨by omega,by rw[if_pos this];exact h⟩
   | false =>
     rw[hb,cond_false] at h
     have hn:=Hf hb
     have:=rz r (j-n) v h
     exact ⟨by omega,by rw[if_neg hn];exact this.2⟩
def EJ:List aq→Nat→Nat→Nat→Tr AV
 | [],_,_,_=>.bad
 | .one _::r,pos,h,off=>match h with
   | 0=>.bad
   | h+1=>EJ r (Nat.succ pos) h off
 | .arr k z n::r,pos,h,off=>cond (Nat.blt h n) (.req (mS off 1 pos n) (.ok (.int k (z (ff off pos))))) (EJ r (Nat.add pos n) (Nat.sub h n) off)
theorem vN:∀ (l:List aq) (pos h off:Nat) (v:AV),(EJ l pos h off).run=some v→pos≤off∧off-pos<av l∧getM l (off-pos)=v
 | [],_,_,_,_,h=>(Tr.af h).elim
 | .one _::r,pos,0,off,v,h=>(Tr.af h).elim
 | .one u::r,pos,h'+1,off,v,h=>by
   obtain ⟨h1,h2,h3⟩:=vN r (pos+1) h' off v h
   refine ⟨by omega,by simp only[av,aH];omega,?_⟩
   rw[show off-pos=(off-(pos+1))+1 by omega]
   exact h3
 | .arr k z n::r,pos,h',off,v,h=>by
   simp only[EJ] at h
   cases hb:Nat.blt h' n with
   | true =>
     rw[hb,cond_true] at h
     obtain ⟨hc,h⟩:=Tr.aK h
     rw[jo,decide_eq_true_eq] at hc
     have h:=Tr.ab h
     refine ⟨hc.1,by simp only[av,aH];omega,?_⟩
     simp only[getM]
     rw[if_pos (by omega),← h,dT]
   | false =>
     rw[hb,cond_false] at h
     obtain ⟨h1,h2,h3⟩:=vN r (pos+n) (h'-n) off v h
     refine ⟨by omega,by simp only[av,aH];omega,?_⟩
     simp only[getM]
     rw[if_neg (by omega),← h3]
     congr 1;omega
def Bg (r:Row) (off:Nat) (h:Option Nat):Tr AV :=
 match r with
 | .F f n=>.req (cI off n) (.ok (f off))
 | .M l=>match l with
   | [.arr k z n]=>.req (cI off n) (.ok (.int k (z off)))
   | l=>match h with
     | none=>uo (pN l off)
     | some h=>EJ l 0 h off
 | .I k l=>match h with
   | none=>uo (jh (.I k l) off)
   | some _=>.req (cI off (zw l)) (.ok (.int k (aX l off)))
 | .G l=>match h with
   | none=>uo (jh (.G l) off)
   | some _=>.bad
theorem xK {r:Row} {off:Nat} {v:AV} (h:jh r off=some v):off<r.len∧r.get off=v:=by
 rw[sh] at h
 split at h
 · rename_i h0;exact ⟨h0,Option.some.inj h⟩
 · simp at h
theorem xF {r:Row} {off:Nat} {h:Option Nat} {v:AV} (hr:(Bg r off h).run=some v):off<r.len∧r.get off=v:=by
 unfold Bg at hr
 split at hr
 · obtain ⟨hc,hr⟩:=Tr.aK hr
   rw[gO,decide_eq_true_eq] at hc
   exact ⟨hc,Tr.ab hr⟩
 · rename_i l
   split at hr
   · rename_i k z n
     obtain ⟨hc,hr⟩:=Tr.aK hr
     rw[gO,decide_eq_true_eq] at hc
     refine ⟨by simp only[Row.len,av,aH];omega,?_⟩
     simp only[Row.get,getM]
     rw[if_pos hc];exact Tr.ab hr
   · split at hr
     · rw[cJ] at hr;exact rz _ _ _ hr
     · have:=vN _ _ _ _ _ hr
       rw[Nat.sub_zero] at this
       exact this.2
 · split at hr
   · rw[cJ] at hr;exact xK hr
   · obtain ⟨hc,hr⟩:=Tr.aK hr
     rw[gO,decide_eq_true_eq,F5] at hc
     refine ⟨hc,?_⟩
     rw[← Tr.ab hr,gp];rfl
 · split at hr
   · rw[cJ] at hr;exact xK hr
   · exact (Tr.af hr).elim
def Cj (off:Nat) (h:Option Nat) (j:Nat):Nat :=
 match h with
 | none=>Nat.add off j
 | some _=>match j with
   | 0=>off
   | j+1=>aF off (Nat.succ j)
theorem qB (off:Nat) (h:Option Nat) (j:Nat):Cj off h j=off+j:=by
 unfold Cj
 split
 · rfl
 · split
   · rfl
   · rw[a6]
def wO (h:Option Nat) (j:Nat):Option Nat :=
 match h with
 | none=>none
 | some h=>some (Nat.add h j)
def Bh (r:Row) (off:Nat) (h:Option Nat):Nat→Nat→Tr (List AV)
 | _,0=>.ok []
 | j,n+1=>(Bg r (Cj off h j) (wO h j)).bind fun v=>(Bh r off h (Nat.succ j) n).bind fun l=>.ok (v::l)
theorem xG {r:Row} {off:Nat} {h:Option Nat}:∀ (n j:Nat) (l:List AV),(Bh r off h j n).run=some l→l=di r.get (off+j) n∧(n=0∨off+j+n≤r.len)
 | 0,j,l,hr=>⟨(Tr.ab hr).symm,.inl rfl⟩
 | n+1,j,l,hr=>by
   simp only[Bh] at hr
   obtain ⟨v,h1,hr⟩:=Tr.bind_some hr
   obtain ⟨m,h2,hr⟩:=Tr.bind_some hr
   have hr:=Tr.ab hr
   obtain ⟨k1,k2⟩:=xF h1
   obtain ⟨k3,k4⟩:=xG n (j+1) m h2
   rw[qB] at k1 k2
   refine ⟨?_,.inr (by omega)⟩
   rw[← hr,di,k2,k3,show off+(j+1)=off+j+1 by omega]
def EI:List aq→Nat→Nat→Nat→Nat→Tr AV
 | [],_,_,_,_=>.bad
 | .one _::r,pos,h,off,n=>match h with
   | 0=>.bad
   | h+1=>EI r (Nat.succ pos) h off n
 | .arr k z m::r,pos,h,off,n=>cond (Nat.blt h m) (.req (mS off n pos m) (.ok (.agg (.M [.arr k (xU z (ff off pos)) n])))) (EI r (Nat.add pos m) (Nat.sub h m) off n)
theorem vM:∀ (l:List aq) (pos h off n:Nat) (v:AV),0<n→(EI l pos h off n).run=some v→pos≤off∧off-pos+n≤av l∧∃ k z,kJ l (off-pos) n=some (k,z)∧v=.agg (.M [.arr k z n])
 | [],_,_,_,_,_,_,h=>(Tr.af h).elim
 | .one _::r,pos,0,off,n,v,_,h=>(Tr.af h).elim
 | .one u::r,pos,h'+1,off,n,v,hn,h=>by
   obtain ⟨h1,h2,k,z,h3,h4⟩:=vM r (pos+1) h' off n v hn h
   refine ⟨by omega,by simp only[av,aH];omega,k,z,?_,h4⟩
   rw[show off-pos=(off-(pos+1))+1 by omega]
   exact h3
 | .arr k z m::r,pos,h',off,n,v,hn,h=>by
   simp only[EI] at h
   cases hb:Nat.blt h' m with
   | true =>
     rw[hb,cond_true] at h
     obtain ⟨hc,h⟩:=Tr.aK h
     rw[jo,decide_eq_true_eq] at hc
     have h:=Tr.ab h
     refine ⟨hc.1,by simp only[av,aH];omega,k,fun j=>z (off-pos+j),?_,?_⟩
     · simp only[kJ];rw[if_pos (by omega)]
     · rw[← h,lU,dT]
   | false =>
     rw[hb,cond_false] at h
     obtain ⟨h1,h2,k',z',h3,h4⟩:=vM r (pos+m) (h'-m) off n v hn h
     refine ⟨by omega,by simp only[av,aH];omega,k',z',?_,h4⟩
     simp only[kJ]
     rw[if_neg (by omega),if_pos (by omega),← h3]
     congr 1;omega
def EH:List aq→Nat→Nat→Option Row
 | [],_,_=>none
 | .one _::r,o+1,n=>EH r o n
 | .one _::_,0,_=>none
 | .arr k z m::r,o,n=>cond (Nat.ble (Nat.add o n) m) (some (.M [.arr k (cond (Nat.beq o 0) z (xU z o)) n])) (cond (Nat.ble m o) (EH r (Nat.sub o m) n) none)
theorem vL:∀ (l:List aq) (o n:Nat) (q:Row),EH l o n=some q→∃ k z,kJ l o n=some (k,z)∧q=.M [.arr k z n]
 | [],_,_,_,h=>by cases h
 | .one u::r,o+1,n,q,h=>vL r o n q h
 | .one _::_,0,_,_,h=>by cases h
 | .arr k z m::r,o,n,q,h=>by
   simp only[EH] at h
   cases hb:Nat.ble (Nat.add o n) m with
   | true =>
     rw[hb,cond_true] at h
     have hle:o+n≤m:=Nat.le_of_ble_eq_true hb
     simp only[Option.some.injEq] at h
     refine ⟨k,fun j=>z (o+j),by simp only[kJ];rw[if_pos hle],?_⟩
     rw[← h]
     cases ho:Nat.beq o 0 with
     | true =>
       have:=Nat.eq_of_beq_eq_true ho
       subst this
       simp only[cond_true,Nat.zero_add]
     | false=>rw[cond_false,lU]
   | false =>
     rw[hb,cond_false] at h
     cases hm:Nat.ble m o with
     | true =>
       rw[hm,cond_true] at h
       have hle:m≤o:=Nat.le_of_ble_eq_true hm
       have hnl:¬ (o+n≤m):=fun hc=>by
        have:Nat.ble (Nat.add o n) m=true:=by rw[Nat.ble_eq];exact hc
        rw[hb] at this;cases this
       obtain ⟨k',z',h1,h2⟩:=vL r (o-m) n q h
       exact ⟨k',z',by simp only[kJ];rw[if_neg hnl,if_pos hle];exact h1,h2⟩
     | false=>rw[hm,cond_false] at h;cases h
def xH (P:Program) (t:TypeId) (r:Row) (off:Nat) (h:Option Nat):Tr AV :=
 match eN P t with
 | some false=>Bg r off h
 | some true=>match bn P t with
   | some 0=>.bad
   | some (n+1)=>match r with
     | .M l=>cond (Nat.ble (Nat.succ n) 8) ((Bh (.M l) off h 0 (Nat.succ n)).bind fun vs=>.ok (.agg (Row.ofList vs)))
       (match h with
       | none=>cond (Nat.ble (Nat.add off (Nat.succ n)) (av l)) (cond (Nat.beq (av l) (Nat.succ n)) (.ok (.agg ((Row.M l).cut off (Nat.succ n)))) (match EH l off (Nat.succ n) with
         | some q=>.ok (.agg q)
         | none=>.ok (.agg ((Row.M l).cut off (Nat.succ n))))) .bad
       | some h=>cond (Nat.beq (av l) (Nat.succ n)) .bad (EI l 0 h off (Nat.succ n)))
     | .F f m=>.req (iV (aF off (Nat.succ n)) m) (.ok (.agg ((Row.F f m).cut off (Nat.succ n))))
     | .I k l=>match h with
       | none=>uo (px P t (.I k l) off)
       | some _=>.bad
     | .G l=>match h with
       | none=>uo (px P t (.G l) off)
       | some _=>.bad
   | none=>.bad
 | none=>.bad
theorem sg       {P : Program} {t:TypeId} {r:Row} {off:Nat} {h:Option Nat} {v:AV} (hr:(xH P t r off h).run=some v):gS P t r off=some v:=by
 unfold xH at hr
 split at hr
 · rename_i ha
   obtain ⟨h1,h2⟩:=xF hr
   unfold gS
   rw[ha]
   dsimp only
   rw[if_pos h1,h2]
 · rename_i ha
   split at hr
   · exact (Tr.af hr).elim
   · rename_i n hs
     split at hr
     · rename_i l
       unfold gS
       rw[ha,hs]
       dsimp only
       cases hb:Nat.ble (Nat.succ n) 8 with
       | true =>
         rw[hb,cond_true] at hr
         obtain ⟨vs,h1,hr⟩:=Tr.bind_some hr
         have hr:=Tr.ab hr
         obtain ⟨k1,k2⟩:=xG _ _ _ h1
         rw[if_pos (by omega),← hr,k1]
         simp only[Row.cut]
         rw[show Nat.ble (n+1) 8=true from hb,if_pos rfl,Nat.add_zero]
         rfl
       | false =>
         rw[hb,cond_false] at hr
         split at hr
         · cases hc : Nat.ble (Nat.add off (Nat.succ n)) (av l) with
           | true =>
             rw[hc,cond_true] at hr
             rw[Nat.ble_eq] at hc
             rw[if_pos (show off+(n+1)≤(Row.M l).len from hc)]
             cases hq:Nat.beq (av l) (Nat.succ n) with
             | true=>rw[hq,cond_true] at hr;rw[← Tr.ab hr]
             | false =>
               rw[hq,cond_false] at hr
               split at hr
               · rename_i q hseg
                 obtain ⟨k,z,h3,h4⟩:=vL _ _ _ _ hseg
                 simp only[Row.cut]
                 rw[show Nat.ble (n+1) 8=false from hb,if_neg (by simp),show Nat.beq (av l) (n+1)=false from hq,Bool.and_false,if_neg (by simp)]
                 have : Row.sub (.M l) off (n+1)=.M [.arr k z (n+1)]:=by
                  match l,h3,hq with
                  | [],h3,_=>simp[kJ] at h3
                  | [.arr k' z' m],h3,hq =>
                    simp only[kJ] at h3
                    split at h3
                    · simp only[nP] at h3
                      obtain ⟨rfl,rfl⟩:=h3
                      rfl
                    · split at h3<;>simp at h3
                  | .one u::r,h3,hq =>
                    simp only[Row.sub]
                    rw[show Nat.beq (av (.one u::r)) (n+1)=false from hq,Bool.and_false,h3]
                    rfl
                  | .arr k' z' m::s::r,h3,hq =>
                    simp only[Row.sub]
                    rw[show Nat.beq (av (.arr k' z' m::s::r)) (n+1)=false from hq,Bool.and_false,h3]
                    rfl
                 rw[this,← Tr.ab hr,h4]
               · rw[← Tr.ab hr]
           | false=>rw[hc,cond_false] at hr;exact (Tr.af hr).elim
         · rename_i h
           cases hc:Nat.beq (av l) (Nat.succ n) with
           | true=>rw[hc,cond_true] at hr;exact (Tr.af hr).elim
           | false =>
             rw[hc,cond_false] at hr
             obtain ⟨h1,h2,k,z,h3,h4⟩:=vM _ _ _ _ _ _ (Nat.succ_pos n) hr
             rw[Nat.sub_zero] at h2 h3
             rw[if_pos (show off+(n+1)≤(Row.M l).len from h2)]
             simp only[Row.cut]
             rw[show Nat.ble (n+1) 8=false from hb,if_neg (by simp),show Nat.beq (av l) (n+1)=false from hc,Bool.and_false,if_neg (by simp)]
             have : Row.sub (.M l) off (n+1)=.M [.arr k z (n+1)]:=by
              match l,h3,hc with
              | [],h3,_=>simp[kJ] at h3
              | [.arr k' z' m],h3,hc =>
                simp only[kJ] at h3
                split at h3
                · simp only[nP] at h3
                  obtain ⟨rfl,rfl⟩:=h3
                  rfl
                · split at h3<;>simp at h3
              | .one u::r,h3,hc =>
                simp only[Row.sub]
                rw[show Nat.beq (av (.one u::r)) (n+1)=false from hc,Bool.and_false,h3]
                rfl
              | .arr k' z' m::s::r,h3,hc =>
                simp only[Row.sub]
                rw[show Nat.beq (av (.arr k' z' m::s::r)) (n+1)=false from hc,Bool.and_false,h3]
                rfl
             rw[this,h4]
     · rename_i f m
       obtain ⟨hc,hr⟩:=Tr.aK hr
       rw[kr,decide_eq_true_eq,a6] at hc
       unfold gS
       rw[ha,hs]
       dsimp only
       rw[if_pos (show off+(n+1)≤(Row.F f m).len from hc),← Tr.ab hr]
     · split at hr
       · rw[cJ,py] at hr;exact hr
       · exact (Tr.af hr).elim
     · split at hr
       · rw[cJ,py] at hr;exact hr
       · exact (Tr.af hr).elim
   · exact (Tr.af hr).elim
 · exact (Tr.af hr).elim

def vK (H:aa) (d i v:Nat) (h:Option Nat):Tr Row :=
 match h with
 | none=>uo (wN H d i v)
 | some _=>match dZ H d i with
   | (ver,.row r)=>.req (eO ver v) (.ok r)
   | _=>.bad
theorem kH {H:aa} {d i v:Nat} {h:Option Nat} {r:Row} (hr:(vK H d i v h).run=some r):cE H d i v=some r:=by
 unfold vK at hr
 split at hr
 · rw[cJ,rB] at hr;exact hr
 · rw[gx] at hr
   split at hr
   · rename_i ver q hg
     obtain ⟨hc,hr2⟩:=Tr.aK hr
     rw[fC,decide_eq_true_eq] at hc
     subst hc
     unfold cE
     rw[hg]
     simp only[Nat.beq_refl,if_true]
     rw[Tr.ab hr2]
   · exact (Tr.af hr).elim
def loadT (P:Program) (H:aa) (t:TypeId) (a:HV):Tr AV :=
 match a.1 with
 | .ptr d i v off=>(vK H d i v a.2).bind fun r=>(xH P t r off a.2).bind fun x=>.ok (kO d x)
 | .ptrT s r off=>(xH P t r off a.2).bind fun x=>.ok (Px s x)
 | _=>.bad
theorem w8 {P:Program} {H:aa} {t:TypeId} {a:HV} {v:AV} (hr:(loadT P H t a).run=some v):lF P H t a.1=some v:=by
 unfold loadT at hr
 unfold lF
 split at hr
 · rename_i d i ver off ha
   obtain ⟨r,h1,hr⟩:=Tr.bind_some hr
   obtain ⟨x,h2,hr⟩:=Tr.bind_some hr
   rw[ha]
   dsimp only
   rw[kH h1]
   dsimp only
   rw[sg h2,← Tr.ab hr];rfl
 · rename_i s r off ha
   obtain ⟨x,h2,hr⟩:=Tr.bind_some hr
   rw[ha]
   dsimp only
   rw[sg h2,← Tr.ab hr];rfl
 · exact (Tr.af hr).elim

def qc:List aq→Nat→AV→Option (List aq)
 | [],_,_=>none
 | .one u::r,j,v=>match j with
   | 0=>some (.one v::r)
   | j+1=>match qc r j v with
     | some r'=>some (.one u::r')
     | none=>none
 | .arr k z n::r,j,v=>cond (Nat.blt j n) (match v with
    | .int k' x=>cond (gy k' k) (some (.arr k (ju z j x) n::r)) none
    | _=>none)
   (match qc r (Nat.sub j n) v with
     | some r'=>some (.arr k z n::r')
     | none=>none)
theorem sr:∀ (l:List aq) (j:Nat) (v:AV) (l':List aq),qc l j v=some l'→j<av l∧jt l j v=l'
 | [],_,_,_,h=>by simp[qc] at h
 | .one u::r,0,v,l',h=>by
   simp only[qc,Option.some.injEq] at h
   exact ⟨by simp only[av,aH];omega,h⟩
 | .one u::r,j+1,v,l',h=>by
   simp only[qc] at h
   split at h
   · rename_i r' hr
     have:=sr r j v r' hr
     simp only[Option.some.injEq] at h
     exact ⟨by simp only[av,aH];omega,by simp only[jt];rw[this.2];exact h⟩
   · simp at h
 | .arr k z n::r,j,v,l',h=>by
   simp only[qc] at h
   cases hb:Nat.blt j n with
   | true =>
     rw[hb,cond_true] at h
     have hj:=Al hb
     split at h
     · rename_i k' x
       rw[jO] at h
       split at h
       · rename_i hk
         simp only[Option.some.injEq] at h
         refine ⟨by simp only[av,aH];omega,?_⟩
         simp only[jt]
         rw[if_pos hj,if_pos hk,← h,qJ]
       · simp at h
     · simp at h
   | false =>
     rw[hb,cond_false] at h
     have hj:=Hf hb
     split at h
     · rename_i r' hr
       have:=sr r (j-n) v r' hr
       simp only[Option.some.injEq] at h
       exact ⟨by simp only[av,aH];omega,by simp only[jt];rw[if_neg hj,this.2];exact h⟩
     · simp at h
def Cy:List aq→Nat→Nat→Nat→AV→Tr (List aq)
 | [],_,_,_,_=>.bad
 | .one u::r,pos,h,off,v=>match h with
   | 0=>.bad
   | h+1=>(Cy r (Nat.succ pos) h off v).bind fun r'=>.ok (.one u::r')
 | .arr k z n::r,pos,h,off,v=>cond (Nat.blt h n) (match v with
    | .int k' x=>cond (gy k' k) (.req (mS off 1 pos n) (.ok (.arr k (ju z (ff off pos) x) n::r))) .bad
    | _=>.bad)
   ((Cy r (Nat.add pos n) (Nat.sub h n) off v).bind fun r'=>.ok (.arr k z n::r'))
theorem vO:∀ (l:List aq) (pos h off:Nat) (v:AV) (l':List aq),(Cy l pos h off v).run=some l'→pos≤off∧off-pos<av l∧jt l (off-pos) v=l'
 | [],_,_,_,_,_,h=>(Tr.af h).elim
 | .one _::r,pos,0,off,v,l',h=>(Tr.af h).elim
 | .one u::r,pos,h'+1,off,v,l',h=>by
   simp only[Cy] at h
   obtain ⟨r',hr,h⟩:=Tr.bind_some h
   obtain ⟨h1,h2,h3⟩:=vO r (pos+1) h' off v r' hr
   refine ⟨by omega,by simp only[av,aH];omega,?_⟩
   rw[show off-pos=(off-(pos+1))+1 by omega,← Tr.ab h,← h3]
   rfl
 | .arr k z n::r,pos,h',off,v,l',h=>by
   simp only[Cy] at h
   cases hb:Nat.blt h' n with
   | true =>
     rw[hb,cond_true] at h
     split at h
     · rename_i k' x
       rw[jO] at h
       split at h
       · rename_i hk
         obtain ⟨hc,h⟩:=Tr.aK h
         rw[jo,decide_eq_true_eq] at hc
         refine ⟨hc.1,by simp only[av,aH];omega,?_⟩
         simp only[jt]
         rw[if_pos (by omega),if_pos hk,← Tr.ab h,qJ,dT]
       · exact (Tr.af h).elim
     · exact (Tr.af h).elim
   | false =>
     rw[hb,cond_false] at h
     obtain ⟨r',hr,h⟩:=Tr.bind_some h
     obtain ⟨h1,h2,h3⟩:=vO r (pos+n) (h'-n) off v r' hr
     refine ⟨by omega,by simp only[av,aH];omega,?_⟩
     simp only[jt]
     rw[if_neg (by omega),← Tr.ab h,← h3,show off-pos-n=off-(pos+n) by omega]
def JR (l:List aq) (off:Nat) (h:Option Nat) (v:AV):Tr (List aq) :=
 match l with
 | [.arr k z n]=>match v with
   | .int k' x=>cond (gy k' k) (.req (cI off n) (.ok [.arr k (ju z off x) n])) .bad
   | _=>.bad
 | l=>match h with
   | none=>uo (qc l off v)
   | some h=>Cy l 0 h off v
theorem GN {l l':List aq} {off:Nat} {h:Option Nat} {v:AV} (hr:(JR l off h v).run=some l'):off<av l∧jt l off v=l':=by
 unfold JR at hr
 split at hr
 · rename_i k z n
   split at hr
   · rename_i k' x
     rw[jO] at hr
     split at hr
     · rename_i hk
       obtain ⟨hc,hr⟩:=Tr.aK hr
       rw[gO,decide_eq_true_eq] at hc
       refine ⟨by simp only[av,aH];omega,?_⟩
       simp only[jt]
       rw[if_pos hc,if_pos hk,← Tr.ab hr,qJ]
     · exact (Tr.af hr).elim
   · exact (Tr.af hr).elim
 · split at hr
   · rw[cJ] at hr;exact sr _ _ _ _ hr
   · have:=vO _ _ _ _ _ _ hr
     rw[Nat.sub_zero] at this
     exact this.2
def xS (off:Nat) (h:Option Nat):List AV→Nat→List aq→Tr (List aq)
 | [],_,l=>.ok l
 | v::vs,j,l=>(JR l (Cj off h j) (wO h j) v).bind fun l'=>xS off h vs (Nat.succ j) l'
theorem sq {off:Nat} {h:Option Nat}:∀ (vs:List AV) (j:Nat) (l l':List aq),(xS off h vs j l).run=some l'→(vs=[]∨off+j+vs.length≤av l)∧Row.cn (.M l) (off+j) vs=.M l'
 | [],j,l,l',h=>⟨.inl rfl,by rw[Tr.ab h];rfl⟩
 | v :: vs,j,l,l',h=>by
   simp only[xS] at h
   obtain ⟨l1,h1,h⟩:=Tr.bind_some h
   obtain ⟨k1,k2⟩:=GN h1
   rw[qB] at k1 k2
   obtain ⟨k3,k4⟩:=sq vs (j+1) l1 l' h
   have hl:av l1=av l:=by rw[← k2,ma]
   refine ⟨.inr ?_,?_⟩
   · rcases k3 with rfl | k3
     · simp only[List.length_cons,List.length_nil];omega
     · simp only[List.length_cons];omega
   · simp only[Row.cn,Row.set,k2]
     exact k4
def Et (l:List aq) (off:Nat) (h:Option Nat) (q:Row):Tr Row :=
 match l,q with
 | [.arr k z m],.M [.arr k' z' n]=>cond (gy k' k) (.req (mS off n 0 m) (.ok (.M [.arr k (IP z off z' n) m]))) .bad
 | l,q=>cond (Nat.ble 9 (gT q)) (match h with
    | none=>cond (Nat.ble (Nat.add off (gT q)) (av l)) (.ok (vE l off q)) .bad
    | some _=>.bad)
   (match kM q with
     | []=>.bad
     | v::vs=>(xS off h (v::vs) 0 l).bind fun l'=>.ok (.M l'))
theorem vF {l:List aq} {off:Nat} {h:Option Nat} {q r:Row} (hr:(Et l off h q).run=some r):off+q.len≤av l∧js (.M l) off q=r:=by
 unfold Et at hr
 split at hr
 · rename_i k z m k' z' n
   rw[jO] at hr
   split at hr
   · rename_i hk
     obtain ⟨hc,hr⟩:=Tr.aK hr
     rw[jo,decide_eq_true_eq] at hc
     refine ⟨by simp only[Row.len,av,aH];omega,?_⟩
     simp only[js]
     rw[if_pos hk,← Tr.ab hr,FH]
   · exact (Tr.af hr).elim
 · rename_i hne
   have hA:js (.M l) off q=vE l off q:=by
    simp only[js]
    split
    · rename_i k z m
      split
      · rename_i k' z' n
        exact (hne _ _ _ _ _ _ rfl rfl).elim
      · rfl
    · rfl
   rw[hA]
   rw[eT] at hr
   cases hb:Nat.ble 9 q.len with
   | true =>
     rw[hb,cond_true] at hr
     split at hr
     · cases hc:Nat.ble (Nat.add off q.len) (av l) with
       | true =>
         rw[hc,cond_true] at hr
         rw[Nat.ble_eq] at hc
         exact ⟨hc,Tr.ab hr⟩
       | false=>rw[hc,cond_false] at hr;exact (Tr.af hr).elim
     · exact (Tr.af hr).elim
   | false =>
     rw[hb,cond_false,nm] at hr
     have hl:=Row.bh q
     split at hr
     · exact (Tr.af hr).elim
     · rename_i v vs hq
       obtain ⟨l1,h1,hr⟩:=Tr.bind_some hr
       obtain ⟨k1,k2⟩:=sq _ _ _ _ h1
       rw[hq] at hl
       refine ⟨?_,?_⟩
       · rcases k1 with k1 | k1
         · simp at k1
         · omega
       · unfold vE
         rw[hb,if_neg (by simp),hq,← Tr.ab hr,← k2];rfl
def JD (d:Nat) (x:AV):Bool :=
 match d with
 | 0=>false
 | _+1=>match x with
   | .slc 0 _ _ _ _ _ _=>true
   | _=>false
def storeT (P:Program) (H:aa) (t:TypeId) (a:HV) (x:AV):Tr Delta :=
 match a.1 with
 | .ptr d i v off=>cond (JD d x) (match a.2 with | none=>uo (oF P H t a.1 x) | some _=>.bad)
   (cond (eY H d) .bad ((vK H d i v a.2).bind fun r=>match bn P t with
     | some n=>match x.row with
       | some q=>cond (Nat.beq (gT q) n) (match r with
         | .M l=>(Et l off a.2 (iS d q)).bind fun r'=>.ok (.set d i (v,.row r'))
         | _=>match a.2 with | none=>uo (oF P H t a.1 x) | some _=>.bad) .bad
       | none=>.bad
     | none=>.bad))
 | _=>.bad
theorem CF {P:Program} {H:aa} {t:TypeId} {a:HV} {x:AV} {δ:Delta} (hr:(storeT P H t a x).run=some δ):fR P H t a.1 x=some δ:=by
 unfold storeT at hr
 split at hr
 · rename_i d i v off ha
   cases ho:JD d x with
   | true =>
     rw[ho,cond_true] at hr
     split at hr
     · rw[cJ,nk] at hr;exact hr
     · exact (Tr.af hr).elim
   | false =>
     rw[ho,cond_false,dN] at hr
     cases hl:aD H d with
     | true=>rw[hl,cond_true] at hr;exact (Tr.af hr).elim
     | false =>
       rw[hl,cond_false] at hr
       obtain ⟨r,h1,hr⟩:=Tr.bind_some hr
       split at hr
       · rename_i n hs
         split at hr
         · rename_i q hq
           rw[eT] at hr
           cases hb:Nat.beq q.len n with
           | false=>rw[hb,cond_false] at hr;exact (Tr.af hr).elim
           | true =>
             rw[hb,cond_true] at hr
             have hb:q.len=n:=by simpa using hb
             split at hr
             · rename_i l
               obtain ⟨r',h2,hr⟩:=Tr.bind_some hr
               obtain ⟨k1,k2⟩:=vF h2
               rw[eU] at k1
               rw[ha]
               unfold fR
               dsimp only
               rw[hl,if_neg (by simp),kH h1,hs,hq]
               dsimp only
               rw[if_pos ⟨hb,by show off+n≤av l;omega⟩]
               have:∀ (d':Nat) (j w o sz len:Nat) (cap:Option Nat),d=d'+1→x≠.slc 0 j w o sz len cap:=by
                rintro d' j w o sz len cap rfl rfl
                simp[JD] at ho
               rw[← Tr.ab hr,← k2]
               split
               · exact absurd rfl (this _ _ _ _ _ _ _ rfl)
               · rfl
             · split at hr
               · rw[cJ,nk] at hr;exact hr
               · exact (Tr.af hr).elim
         · exact (Tr.af hr).elim
       · exact (Tr.af hr).elim
 · exact (Tr.af hr).elim

def hOr (h:Option Nat) (off:Nat):Nat :=
 match h with
 | none=>off
 | some h=>h
def mN (P:Program) (t:TypeId) (a:HV) (f:Nat):Tr HV :=
 match P.underlying t with
 | some (.struct fs)=>match fs[f]? with
   | some g=>match bn P g.type with
     | some (_+1)=>match a.1 with
       | .ptr d i v off=>.ok (.ptr d i v (Cj off a.2 g.offset),wO a.2 g.offset)
       | .ptrT s r off=>.ok (.ptrT s r (Cj off a.2 g.offset),wO a.2 g.offset)
       | _=>.bad
     | _=>.bad
   | none=>.bad
 | _=>.bad
theorem sY {P:Program} {t:TypeId} {a b:HV} {f:Nat} (hr:(mN P t a f).run=some b):fY P t a.1 f=some b.1:=by
 unfold mN at hr
 unfold fY
 split at hr
 · rename_i fs hu
   rw[hu]
   dsimp only
   split at hr
   · rename_i g hg
     rw[hg]
     dsimp only
     split at hr
     · rename_i n hs
       rw[hs]
       dsimp only
       split at hr
       · rename_i d i v off ha
         rw[ha,← Tr.ab hr];simp only[j5,qB]
       · rename_i s r off ha
         rw[ha,← Tr.ab hr];simp only[j5,qB]
       · exact (Tr.af hr).elim
     · exact (Tr.af hr).elim
   · exact (Tr.af hr).elim
 · exact (Tr.af hr).elim
def isLit (x:HV):Bool :=
 match x.2 with
 | some _=>true
 | none=>false
def Ee (off:Nat) (ic:Bool) (i:Int) (z:Nat):Nat:=cond ic (Nat.add off (Nat.mul i.toNat z)) (aM off i z)
theorem qA (off:Nat) (ic:Bool) (i:Int) (z:Nat):Ee off ic i z=off+i.toNat*z:=by
 cases ic with
 | true=>rfl
 | false=>exact cG _ _ _
def AJ (h:Option Nat) (off:Nat) (ic:Bool) (i:Int) (z:Nat):Option Nat :=
 cond ic (wO h (Nat.mul i.toNat z)) (some (hOr h off))
def Jc (P:Program) (t:TypeId) (a:HV) (ic:Bool) (i:Int):Tr HV :=
 match P.underlying t with
 | some (.array n e)=>match bn P e with
   | some z=>match a.1 with
     | .ptr d j v off=>.req (c7 i n) (.ok (.ptr d j v (Ee off ic i z),AJ a.2 off ic i z))
     | .ptrT s r off=>.req (c7 i n) (.ok (.ptrT s r (Ee off ic i z),AJ a.2 off ic i z))
     | _=>.bad
   | none=>.bad
 | some (.slice e)=>match bn P e with
   | some z=>match a.1 with
     | .slc d j v off sz len cap=>cond (Nat.beq z sz) (.req (c7 i len) (.ok (.ptr d j v (Ee off ic i z),match cap with
       | some _=>AJ none off ic i z
       | none=>some off))) .bad
     | .slcT s r sz len _=>cond (Nat.beq z sz) (.req (c7 i len) (.ok (.ptrT s r (Ee 0 ic i z),AJ none 0 ic i z))) .bad
     | _=>.bad
   | none=>.bad
 | _=>.bad
def Na (P:Program) (t:TypeId) (x:AV) (ic:Bool) (i:Int):Tr AV :=
 cond ic (uo (pd P t x i)) (match P.underlying t with
  | some (.array n e)=>match x with
    | .agg r=>match bn P e with
      | some z=>.req (c7 i n) (xH P e r (aM 0 i z) (some 0))
      | none=>.bad
    | _=>.bad
  | _=>.bad)
theorem Jj {P:Program} {t:TypeId} {x v:AV} {ic:Bool} {i:Int} (hr:(Na P t x ic i).run=some v):pd P t x i=some v:=by
 unfold Na at hr
 cases ic with
 | true=>rw[cond_true,cJ] at hr;exact hr
 | false =>
   rw[cond_false] at hr
   split at hr
   · rename_i n e hu
     split at hr
     · split at hr
       · rename_i z hs
         obtain ⟨hc,hr⟩:=Tr.aK hr
         rw[pc,decide_eq_true_eq] at hc
         have h:=sg hr
         rw[cG,Nat.zero_add] at h
         unfold pd
         rw[hu]
         dsimp only
         rw[hs]
         dsimp only
         rw[if_pos hc,h]
       · exact (Tr.af hr).elim
     · exact (Tr.af hr).elim
   · exact (Tr.af hr).elim
theorem F1 {P:Program} {t:TypeId} {a b:HV} {ic:Bool} {i:Int} (hr:(Jc P t a ic i).run=some b):fa P t a.1 i=some b.1:=by
 unfold Jc at hr
 unfold fa
 split at hr
 · rename_i n e hu
   split at hr
   · rename_i z hs
     split at hr
     · rename_i d j v off ha
       obtain ⟨hc,hr⟩:=Tr.aK hr
       rw[pc,decide_eq_true_eq] at hc
       rw[hu,ha]
       dsimp only
       rw[hs]
       dsimp only
       rw[if_pos hc,← Tr.ab hr]
       simp only[j5,qA]
     · rename_i s r off ha
       obtain ⟨hc,hr⟩:=Tr.aK hr
       rw[pc,decide_eq_true_eq] at hc
       rw[hu,ha]
       dsimp only
       rw[hs]
       dsimp only
       rw[if_pos hc,← Tr.ab hr]
       simp only[j5,qA]
     · exact (Tr.af hr).elim
   · exact (Tr.af hr).elim
 · rename_i e hu
   split at hr
   · rename_i z hs
     split at hr
     · rename_i d j v off sz len cap ha
       cases hb:Nat.beq z sz with
       | false=>rw[hb,cond_false] at hr;exact (Tr.af hr).elim
       | true =>
         rw[hb,cond_true] at hr
         have hb:z=sz:=by simpa using hb
         subst hb
         obtain ⟨hc,hr⟩:=Tr.aK hr
         rw[pc,decide_eq_true_eq] at hc
         rw[hu,ha]
         dsimp only
         rw[if_pos ⟨hc.1,hc.2,hs⟩,← Tr.ab hr]
         simp only[qA]
     · rename_i s r sz len full ha
       cases hb:Nat.beq z sz with
       | false=>rw[hb,cond_false] at hr;exact (Tr.af hr).elim
       | true =>
         rw[hb,cond_true] at hr
         have hb:z=sz:=by simpa using hb
         subst hb
         obtain ⟨hc,hr⟩:=Tr.aK hr
         rw[pc,decide_eq_true_eq] at hc
         rw[hu,ha]
         dsimp only
         rw[if_pos ⟨hc.1,hc.2,hs⟩,← Tr.ab hr]
         simp only[qA,Nat.zero_add]
     · exact (Tr.af hr).elim
   · exact (Tr.af hr).elim
 · exact (Tr.af hr).elim

end
end Go.Eng
