/- The engine as a tree: frames with hints, rows, loads, stores, addresses. -/
import Derived.Test.YtgphpjdchnfjlaaDoorV3EngOrax2
set_option linter.unusedVariables false
set_option linter.unusedSimpArgs false
namespace Go.Eng
noncomputable section

abbrev HV:=AV×Option Nat
abbrev aK:=List (Nat×HV)
def strip (f:aK):az:=List.rec (motive:=fun _=>az) [] (fun p _ ih=>(p.1,p.2.1)::ih) f
theorem cP (x:Nat) (v:HV) (r:aK):strip ((x,v)::r)=(x,v.1)::strip r:=rfl
def kH (f:aK) (y:Nat):HV:=List.rec (motive:=fun _=>HV) (AV.undef,none) (fun p _ ih=>Bool.rec ih p.2 (Nat.beq p.1 y)) f
theorem eA:∀ (f:aK) (y:Nat),(kH f y).1=bx (strip f) y
 | [],y=>rfl
 | (x,v)::r,y=>by
   have e:kH ((x,v)::r) y=Bool.rec (kH r y) v (Nat.beq x y):=rfl
   rw[e,cP,bx]
   cases Nat.beq x y with
   | true=>rfl
   | false=>exact eA r y
def wQ (f:aK) (y:Nat) (u:HV):aK:=List.rec (motive:=fun _=>aK) [(y,u)] (fun p r ih=>Bool.rec (motive:=fun _=>aK) (p::ih) (Bool.rec (motive:=fun _=>aK) ((y,u)::p::r) ((y,u)::r) (Nat.beq p.1 y)) (Nat.ble y p.1)) f
theorem wR:∀ (f:aK) (y:Nat) (u:HV),strip (wQ f y u)=sX (strip f) y u.1
 | [],y,u=>rfl
 | (x,v)::r,y,u=>by
   have e:wQ ((x,v)::r) y u=Bool.rec (motive:=fun _=>aK) ((x,v)::wQ r y u) (Bool.rec (motive:=fun _=>aK) ((y,u)::(x,v)::r) ((y,u)::r) (Nat.beq x y)) (Nat.ble y x):=rfl
   rw[e,cP,sX,← wR r y u]
   cases Nat.ble y x with
   | false=>rfl
   | true=>cases Nat.beq x y<;>rfl
def fM (f:aK) (m:Nat):aK:=List.rec (motive:=fun _=>aK) [] (fun p _ ih=>Bool.rec (motive:=fun _=>aK) (p::ih) ih (Nat.beq (Nat.land (Nat.shiftRight m p.1) 1) 1)) f
theorem dZ:∀ (f:aK) (m:Nat),strip (fM f m)=bH (strip f) m
 | [],m=>rfl
 | (x,v)::r,m=>by
   have e:fM ((x,v)::r) m=Bool.rec (motive:=fun _=>aK) ((x,v)::fM r m) (fM r m) (Nat.beq (Nat.land (Nat.shiftRight m x) 1) 1):=rfl
   have e2:bH ((x,v.1)::strip r) m=Bool.rec (motive:=fun _=>az) ((x,v.1)::bH (strip r) m) (bH (strip r) m) (Nat.beq (Nat.land (Nat.shiftRight m x) 1) 1):=rfl
   rw[e,cP,e2,← dZ r m]
   cases Nat.beq (Nat.land (Nat.shiftRight m x) 1) 1<;>rfl
def Nw (v:Value):Option Nat :=
 match v with
 | .int _ _=>some 1
 | .bool _=>some 1
 | _=>none
def bT (fr:aK) (x:Operand):HV:=Operand.rec (motive:=fun _=>HV) (fun t=>kH fr t) (fun v=>(j0 v,Nw v)) (fun _=>(.undef,none)) (fun f=>(.fn (.func f) [] [],none)) x
theorem aQ (fr:aK) (x:Operand):(bT fr x).1=bE (strip fr) x:=by
 cases x with
 | tmp t=>exact eA fr t
 | _=>rfl
def xy (fr:aK) (l:List Operand):List AV:=mZ (fun x=>(bT fr x).1) l
theorem sb (fr:aK):∀ l,xy fr l=jk (strip fr) l
 | []=>rfl
 | x::l=>by
   have e:xy fr (x::l)=(bT fr x).1::xy fr l:=rfl
   rw[e,sb fr l,aQ];rfl
def pU (nt:Nat) (fr:aK) (dst:Option Tmp) (v:HV):aK:=Option.rec (motive:=fun _=>aK) fr (fun d=>Bool.rec (motive:=fun _=>aK) fr (wQ fr d v) (Nat.ble (Nat.succ d) nt)) dst
theorem lK (nt:Nat) (fr:aK) (dst:Option Tmp) (v:HV):strip (pU nt fr dst v)=gF nt (strip fr) dst v.1:=by
 rw[← om]
 cases dst with
 | none=>rfl
 | some d =>
   have e:pU nt fr (some d) v=Bool.rec (motive:=fun _=>aK) fr (wQ fr d v) (Nat.ble (Nat.succ d) nt):=rfl
   have e2:pV nt (strip fr) (some d) v.1=Bool.rec (motive:=fun _=>az) (strip fr) (tU (strip fr) d v.1) (Nat.ble (Nat.succ d) nt):=rfl
   rw[e,e2,wz,← wR]
   cases Nat.ble (Nat.succ d) nt<;>rfl

def pI:List aw→Nat→Option AV
 | [],_=>none
 | .one v::r,j=>match j with
   | 0=>some v
   | j+1=>pI r j
 | .arr k z n::r,j=>cond (Nat.blt j n) (some (.int k (z j))) (pI r (Nat.sub j n))
theorem Av {a b:Nat} (h:Nat.blt a b=true):a<b:=by rwa [Nat.blt_eq] at h
theorem G3 {a b:Nat} (h:Nat.blt a b=false):¬ a<b:=fun e=>by
 have:Nat.blt a b=true:=by rw[Nat.blt_eq];exact e
 rw[h] at this;cases this
theorem rv:∀ (l:List aw) (j:Nat) (v:AV),pI l j=some v→j<au l∧getM l j=v
 | [],_,_,h=>by simp[pI] at h
 | .one u::r,0,v,h=>by
   simp only[pI,Option.some.injEq] at h
   exact ⟨by simp only[au,aF];omega,h⟩
 | .one u::r,j+1,v,h=>by
   have:=rv r j v (by simpa[pI] using h)
   exact ⟨by simp only[au,aF];omega,this.2⟩
 | .arr k z n::r,j,v,h=>by
   simp only[pI] at h
   simp only[au,aF,getM]
   cases hb:Nat.blt j n with
   | true =>
     rw[hb,cond_true,Option.some.injEq] at h
     have:=Av hb
     exact ⟨by omega,by rw[if_pos this];exact h⟩
   | false =>
     rw[hb,cond_false] at h
     have hn:=G3 hb
     have:=rv r (j-n) v h
     exact ⟨by omega,by rw[if_neg hn];exact this.2⟩
def EH:List aw→Nat→Nat→Nat→Tr AV
 | [],_,_,_=>.bad
 | .one _::r,pos,h,off=>match h with
   | 0=>.bad
   | h+1=>EH r (Nat.succ pos) h off
 | .arr k z n::r,pos,h,off=>cond (Nat.blt h n) (.req (nv off 1 pos n) (.ok (.int k (z (fG off pos))))) (EH r (Nat.add pos n) (Nat.sub h n) off)
theorem vQ:∀ (l:List aw) (pos h off:Nat) (v:AV),(EH l pos h off).run=some v→pos≤off∧off-pos<au l∧getM l (off-pos)=v
 | [],_,_,_,_,h=>(Tr.ae h).elim
 | .one _::r,pos,0,off,v,h=>(Tr.ae h).elim
 | .one u::r,pos,h'+1,off,v,h=>by
   obtain ⟨h1,h2,h3⟩:=vQ r (pos+1) h' off v h
   refine ⟨by omega,by simp only[au,aF];omega,?_⟩
   rw[show off-pos=(off-(pos+1))+1 by omega]
   exact h3
 | .arr k z n::r,pos,h',off,v,h=>by
   simp only[EH] at h
   cases hb:Nat.blt h' n with
   | true =>
     rw[hb,cond_true] at h
     obtain ⟨hc,h⟩:=Tr.aH h
     rw[iA,decide_eq_true_eq] at hc
     have h:=Tr.ab h
     refine ⟨hc.1,by simp only[au,aF];omega,?_⟩
     simp only[getM]
     rw[if_pos (by omega),← h,eI]
   | false =>
     rw[hb,cond_false] at h
     obtain ⟨h1,h2,h3⟩:=vQ r (pos+n) (h'-n) off v h
     refine ⟨by omega,by simp only[au,aF];omega,?_⟩
     simp only[getM]
     rw[if_neg (by omega),← h3]
     congr 1;omega
def Bw (r:Row) (off:Nat) (h:Option Nat):Tr AV :=
 match r with
 | .F f n=>.req (cW off n) (.ok (f off))
 | .M l=>match l with
   | [.arr k z n]=>.req (cW off n) (.ok (.int k (z off)))
   | l=>match h with
     | none=>uv (pI l off)
     | some h=>EH l 0 h off
 | .I k l=>match h with
   | none=>uv (jb (.I k l) off)
   | some _=>.req (cW off (D3 l)) (.ok (.int k (bC l off)))
 | .G l=>match h with
   | none=>uv (jb (.G l) off)
   | some _=>.bad
theorem xN {r:Row} {off:Nat} {v:AV} (h:jb r off=some v):off<r.len∧r.get off=v:=by
 rw[sj] at h
 split at h
 · rename_i h0;exact ⟨h0,Option.some.inj h⟩
 · simp at h
theorem xI {r:Row} {off:Nat} {h:Option Nat} {v:AV} (hr:(Bw r off h).run=some v):off<r.len∧r.get off=v:=by
 unfold Bw at hr
 split at hr
 · obtain ⟨hc,hr⟩:=Tr.aH hr
   rw[gz,decide_eq_true_eq] at hc
   exact ⟨hc,Tr.ab hr⟩
 · rename_i l
   split at hr
   · rename_i k z n
     obtain ⟨hc,hr⟩:=Tr.aH hr
     rw[gz,decide_eq_true_eq] at hc
     refine ⟨by simp only[Row.len,au,aF];omega,?_⟩
     simp only[Row.get,getM]
     rw[if_pos hc];exact Tr.ab hr
   · split at hr
     · rw[cA] at hr;exact rv _ _ _ hr
     · have:=vQ _ _ _ _ _ hr
       rw[Nat.sub_zero] at this
       exact this.2
 · split at hr
   · rw[cA] at hr;exact xN hr
   · obtain ⟨hc,hr⟩:=Tr.aH hr
     rw[gz,decide_eq_true_eq,A5] at hc
     refine ⟨hc,?_⟩
     rw[← Tr.ab hr,ga];rfl
 · split at hr
   · rw[cA] at hr;exact xN hr
   · exact (Tr.ae hr).elim
def Cs (off:Nat) (h:Option Nat) (j:Nat):Nat :=
 match h with
 | none=>Nat.add off j
 | some _=>match j with
   | 0=>off
   | j+1=>aG off (Nat.succ j)
theorem qA (off:Nat) (h:Option Nat) (j:Nat):Cs off h j=off+j:=by
 unfold Cs
 split
 · rfl
 · split
   · rfl
   · rw[aJ]
def wT (h:Option Nat) (j:Nat):Option Nat :=
 match h with
 | none=>none
 | some h=>some (Nat.add h j)
def Bx (r:Row) (off:Nat) (h:Option Nat):Nat→Nat→Tr (List AV)
 | _,0=>.ok []
 | j,n+1=>(Bw r (Cs off h j) (wT h j)).bind fun v=>(Bx r off h (Nat.succ j) n).bind fun l=>.ok (v::l)
theorem xJ {r:Row} {off:Nat} {h:Option Nat}:∀ (n j:Nat) (l:List AV),(Bx r off h j n).run=some l→l=c9 r.get (off+j) n∧(n=0∨off+j+n≤r.len)
 | 0,j,l,hr=>⟨(Tr.ab hr).symm,.inl rfl⟩
 | n+1,j,l,hr=>by
   simp only[Bx] at hr
   obtain ⟨v,h1,hr⟩:=Tr.bind_some hr
   obtain ⟨m,h2,hr⟩:=Tr.bind_some hr
   have hr:=Tr.ab hr
   obtain ⟨k1,k2⟩:=xI h1
   obtain ⟨k3,k4⟩:=xJ n (j+1) m h2
   rw[qA] at k1 k2
   refine ⟨?_,.inr (by omega)⟩
   rw[← hr,c9,k2,k3,show off+(j+1)=off+j+1 by omega]
def EG:List aw→Nat→Nat→Nat→Nat→Tr AV
 | [],_,_,_,_=>.bad
 | .one _::r,pos,h,off,n=>match h with
   | 0=>.bad
   | h+1=>EG r (Nat.succ pos) h off n
 | .arr k z m::r,pos,h,off,n=>cond (Nat.blt h m) (.req (nv off n pos m) (.ok (.agg (.M [.arr k (yN z (fG off pos)) n])))) (EG r (Nat.add pos m) (Nat.sub h m) off n)
theorem vP:∀ (l:List aw) (pos h off n:Nat) (v:AV),0<n→(EG l pos h off n).run=some v→pos≤off∧off-pos+n≤au l∧∃ k z,kA l (off-pos) n=some (k,z)∧v=.agg (.M [.arr k z n])
 | [],_,_,_,_,_,_,h=>(Tr.ae h).elim
 | .one _::r,pos,0,off,n,v,_,h=>(Tr.ae h).elim
 | .one u::r,pos,h'+1,off,n,v,hn,h=>by
   obtain ⟨h1,h2,k,z,h3,h4⟩:=vP r (pos+1) h' off n v hn h
   refine ⟨by omega,by simp only[au,aF];omega,k,z,?_,h4⟩
   rw[show off-pos=(off-(pos+1))+1 by omega]
   exact h3
 | .arr k z m::r,pos,h',off,n,v,hn,h=>by
   simp only[EG] at h
   cases hb:Nat.blt h' m with
   | true =>
     rw[hb,cond_true] at h
     obtain ⟨hc,h⟩:=Tr.aH h
     rw[iA,decide_eq_true_eq] at hc
     have h:=Tr.ab h
     refine ⟨hc.1,by simp only[au,aF];omega,k,fun j=>z (off-pos+j),?_,?_⟩
     · simp only[kA];rw[if_pos (by omega)]
     · rw[← h,lR,eI]
   | false =>
     rw[hb,cond_false] at h
     obtain ⟨h1,h2,k',z',h3,h4⟩:=vP r (pos+m) (h'-m) off n v hn h
     refine ⟨by omega,by simp only[au,aF];omega,k',z',?_,h4⟩
     simp only[kA]
     rw[if_neg (by omega),if_pos (by omega),← h3]
     congr 1;omega
def EF:List aw→Nat→Nat→Option Row
 | [],_,_=>none
 | .one _::r,o+1,n=>EF r o n
 | .one _::_,0,_=>none
 | .arr k z m::r,o,n=>cond (Nat.ble (Nat.add o n) m) (some (.M [.arr k (cond (Nat.beq o 0) z (yN z o)) n])) (cond (Nat.ble m o) (EF r (Nat.sub o m) n) none)
theorem vO:∀ (l:List aw) (o n:Nat) (q:Row),EF l o n=some q→∃ k z,kA l o n=some (k,z)∧q=.M [.arr k z n]
 | [],_,_,_,h=>by cases h
 | .one u::r,o+1,n,q,h=>vO r o n q h
 | .one _::_,0,_,_,h=>by cases h
 | .arr k z m::r,o,n,q,h=>by
   simp only[EF] at h
   cases hb:Nat.ble (Nat.add o n) m with
   | true =>
     rw[hb,cond_true] at h
     have hle:o+n≤m:=Nat.le_of_ble_eq_true hb
     simp only[Option.some.injEq] at h
     refine ⟨k,fun j=>z (o+j),by simp only[kA];rw[if_pos hle],?_⟩
     rw[← h]
     cases ho:Nat.beq o 0 with
     | true =>
       have:=Nat.eq_of_beq_eq_true ho
       subst this
       simp only[cond_true,Nat.zero_add]
     | false=>rw[cond_false,lR]
   | false =>
     rw[hb,cond_false] at h
     cases hm:Nat.ble m o with
     | true =>
       rw[hm,cond_true] at h
       have hle:m≤o:=Nat.le_of_ble_eq_true hm
       have hnl:¬ (o+n≤m):=fun hc=>by
        have:Nat.ble (Nat.add o n) m=true:=by rw[Nat.ble_eq];exact hc
        rw[hb] at this;cases this
       obtain ⟨k',z',h1,h2⟩:=vO r (o-m) n q h
       exact ⟨k',z',by simp only[kA];rw[if_neg hnl,if_pos hle];exact h1,h2⟩
     | false=>rw[hm,cond_false] at h;cases h
def xK (P:Program) (t:TypeId) (r:Row) (off:Nat) (h:Option Nat):Tr AV :=
 match ey P t with
 | some false=>Bw r off h
 | some true=>match bg P t with
   | some 0=>.bad
   | some (n+1)=>match r with
     | .M l=>cond (Nat.ble (Nat.succ n) 8) ((Bx (.M l) off h 0 (Nat.succ n)).bind fun vs=>.ok (.agg (Row.ofList vs)))
       (match h with
       | none=>cond (Nat.ble (Nat.add off (Nat.succ n)) (au l)) (cond (Nat.beq (au l) (Nat.succ n)) (.ok (.agg ((Row.M l).cut off (Nat.succ n)))) (match EF l off (Nat.succ n) with
         | some q=>.ok (.agg q)
         | none=>.ok (.agg ((Row.M l).cut off (Nat.succ n))))) .bad
       | some h=>cond (Nat.beq (au l) (Nat.succ n)) .bad (EG l 0 h off (Nat.succ n)))
     | .F f m=>.req (jS (aG off (Nat.succ n)) m) (.ok (.agg ((Row.F f m).cut off (Nat.succ n))))
     | .I k l=>match h with
       | none=>uv (po P t (.I k l) off)
       | some _=>.bad
     | .G l=>match h with
       | none=>uv (po P t (.G l) off)
       | some _=>.bad
   | none=>.bad
 | none=>.bad
theorem si       {P : Program} {t:TypeId} {r:Row} {off:Nat} {h:Option Nat} {v:AV} (hr:(xK P t r off h).run=some v):gK P t r off=some v:=by
 unfold xK at hr
 split at hr
 · rename_i ha
   obtain ⟨h1,h2⟩:=xI hr
   unfold gK
   rw[ha]
   dsimp only
   rw[if_pos h1,h2]
 · rename_i ha
   split at hr
   · exact (Tr.ae hr).elim
   · rename_i n hs
     split at hr
     · rename_i l
       unfold gK
       rw[ha,hs]
       dsimp only
       cases hb:Nat.ble (Nat.succ n) 8 with
       | true =>
         rw[hb,cond_true] at hr
         obtain ⟨vs,h1,hr⟩:=Tr.bind_some hr
         have hr:=Tr.ab hr
         obtain ⟨k1,k2⟩:=xJ _ _ _ h1
         rw[if_pos (by omega),← hr,k1]
         simp only[Row.cut]
         rw[show Nat.ble (n+1) 8=true from hb,if_pos rfl,Nat.add_zero]
         rfl
       | false =>
         rw[hb,cond_false] at hr
         split at hr
         · cases hc : Nat.ble (Nat.add off (Nat.succ n)) (au l) with
           | true =>
             rw[hc,cond_true] at hr
             rw[Nat.ble_eq] at hc
             rw[if_pos (show off+(n+1)≤(Row.M l).len from hc)]
             cases hq:Nat.beq (au l) (Nat.succ n) with
             | true=>rw[hq,cond_true] at hr;rw[← Tr.ab hr]
             | false =>
               rw[hq,cond_false] at hr
               split at hr
               · rename_i q hseg
                 obtain ⟨k,z,h3,h4⟩:=vO _ _ _ _ hseg
                 simp only[Row.cut]
                 rw[show Nat.ble (n+1) 8=false from hb,if_neg (by simp),show Nat.beq (au l) (n+1)=false from hq,Bool.and_false,if_neg (by simp)]
                 have : Row.sub (.M l) off (n+1)=.M [.arr k z (n+1)]:=by
                  match l,h3,hq with
                  | [],h3,_=>simp[kA] at h3
                  | [.arr k' z' m],h3,hq =>
                    simp only[kA] at h3
                    split at h3
                    · simp only[nP] at h3
                      obtain ⟨rfl,rfl⟩:=h3
                      rfl
                    · split at h3<;>simp at h3
                  | .one u::r,h3,hq =>
                    simp only[Row.sub]
                    rw[show Nat.beq (au (.one u::r)) (n+1)=false from hq,Bool.and_false,h3]
                    rfl
                  | .arr k' z' m::s::r,h3,hq =>
                    simp only[Row.sub]
                    rw[show Nat.beq (au (.arr k' z' m::s::r)) (n+1)=false from hq,Bool.and_false,h3]
                    rfl
                 rw[this,← Tr.ab hr,h4]
               · rw[← Tr.ab hr]
           | false=>rw[hc,cond_false] at hr;exact (Tr.ae hr).elim
         · rename_i h
           cases hc:Nat.beq (au l) (Nat.succ n) with
           | true=>rw[hc,cond_true] at hr;exact (Tr.ae hr).elim
           | false =>
             rw[hc,cond_false] at hr
             obtain ⟨h1,h2,k,z,h3,h4⟩:=vP _ _ _ _ _ _ (Nat.succ_pos n) hr
             rw[Nat.sub_zero] at h2 h3
             rw[if_pos (show off+(n+1)≤(Row.M l).len from h2)]
             simp only[Row.cut]
             rw[show Nat.ble (n+1) 8=false from hb,if_neg (by simp),show Nat.beq (au l) (n+1)=false from hc,Bool.and_false,if_neg (by simp)]
             have : Row.sub (.M l) off (n+1)=.M [.arr k z (n+1)]:=by
              match l,h3,hc with
              | [],h3,_=>simp[kA] at h3
              | [.arr k' z' m],h3,hc =>
                simp only[kA] at h3
                split at h3
                · simp only[nP] at h3
                  obtain ⟨rfl,rfl⟩:=h3
                  rfl
                · split at h3<;>simp at h3
              | .one u::r,h3,hc =>
                simp only[Row.sub]
                rw[show Nat.beq (au (.one u::r)) (n+1)=false from hc,Bool.and_false,h3]
                rfl
              | .arr k' z' m::s::r,h3,hc =>
                simp only[Row.sub]
                rw[show Nat.beq (au (.arr k' z' m::s::r)) (n+1)=false from hc,Bool.and_false,h3]
                rfl
             rw[this,h4]
     · rename_i f m
       obtain ⟨hc,hr⟩:=Tr.aH hr
       rw[iD,decide_eq_true_eq,aJ] at hc
       unfold gK
       rw[ha,hs]
       dsimp only
       rw[if_pos (show off+(n+1)≤(Row.F f m).len from hc),← Tr.ab hr]
     · split at hr
       · rw[cA,pq] at hr;exact hr
       · exact (Tr.ae hr).elim
     · split at hr
       · rw[cA,pq] at hr;exact hr
       · exact (Tr.ae hr).elim
   · exact (Tr.ae hr).elim
 · exact (Tr.ae hr).elim

def vN (H:aa) (d i v:Nat) (h:Option Nat):Tr Row :=
 match h with
 | none=>uv (wS H d i v)
 | some _=>match dS H d i with
   | (ver,.row r)=>.req (fX ver v) (.ok r)
   | _=>.bad
theorem kz {H:aa} {d i v:Nat} {h:Option Nat} {r:Row} (hr:(vN H d i v h).run=some r):cG H d i v=some r:=by
 unfold vN at hr
 split at hr
 · rw[cA,rz] at hr;exact hr
 · rw[gk] at hr
   split at hr
   · rename_i ver q hg
     obtain ⟨hc,hr2⟩:=Tr.aH hr
     rw[eK,decide_eq_true_eq] at hc
     subst hc
     unfold cG
     rw[hg]
     simp only[Nat.beq_refl,if_true]
     rw[Tr.ab hr2]
   · exact (Tr.ae hr).elim
def loadT (P:Program) (H:aa) (t:TypeId) (a:HV):Tr AV :=
 match a.1 with
 | .ptr d i v off=>(vN H d i v a.2).bind fun r=>(xK P t r off a.2).bind fun x=>.ok (kO d x)
 | .ptrT s r off=>(xK P t r off a.2).bind fun x=>.ok (OK s x)
 | _=>.bad
theorem xe {P:Program} {H:aa} {t:TypeId} {a:HV} {v:AV} (hr:(loadT P H t a).run=some v):lz P H t a.1=some v:=by
 unfold loadT at hr
 unfold lz
 split at hr
 · rename_i d i ver off ha
   obtain ⟨r,h1,hr⟩:=Tr.bind_some hr
   obtain ⟨x,h2,hr⟩:=Tr.bind_some hr
   rw[ha]
   dsimp only
   rw[kz h1]
   dsimp only
   rw[si h2,← Tr.ab hr];rfl
 · rename_i s r off ha
   obtain ⟨x,h2,hr⟩:=Tr.bind_some hr
   rw[ha]
   dsimp only
   rw[si h2,← Tr.ab hr];rfl
 · exact (Tr.ae hr).elim

def p7:List aw→Nat→AV→Option (List aw)
 | [],_,_=>none
 | .one u::r,j,v=>match j with
   | 0=>some (.one v::r)
   | j+1=>match p7 r j v with
     | some r'=>some (.one u::r')
     | none=>none
 | .arr k z n::r,j,v=>cond (Nat.blt j n) (match v with
    | .int k' x=>cond (gm k' k) (some (.arr k (gH z j x) n::r)) none
    | _=>none)
   (match p7 r (Nat.sub j n) v with
     | some r'=>some (.arr k z n::r')
     | none=>none)
theorem su:∀ (l:List aw) (j:Nat) (v:AV) (l':List aw),p7 l j v=some l'→j<au l∧jm l j v=l'
 | [],_,_,_,h=>by simp[p7] at h
 | .one u::r,0,v,l',h=>by
   simp only[p7,Option.some.injEq] at h
   exact ⟨by simp only[au,aF];omega,h⟩
 | .one u::r,j+1,v,l',h=>by
   simp only[p7] at h
   split at h
   · rename_i r' hr
     have:=su r j v r' hr
     simp only[Option.some.injEq] at h
     exact ⟨by simp only[au,aF];omega,by simp only[jm];rw[this.2];exact h⟩
   · simp at h
 | .arr k z n::r,j,v,l',h=>by
   simp only[p7] at h
   cases hb:Nat.blt j n with
   | true =>
     rw[hb,cond_true] at h
     have hj:=Av hb
     split at h
     · rename_i k' x
       rw[jG] at h
       split at h
       · rename_i hk
         simp only[Option.some.injEq] at h
         refine ⟨by simp only[au,aF];omega,?_⟩
         simp only[jm]
         rw[if_pos hj,if_pos hk,← h,qE]
       · simp at h
     · simp at h
   | false =>
     rw[hb,cond_false] at h
     have hj:=G3 hb
     split at h
     · rename_i r' hr
       have:=su r (j-n) v r' hr
       simp only[Option.some.injEq] at h
       exact ⟨by simp only[au,aF];omega,by simp only[jm];rw[if_neg hj,this.2];exact h⟩
     · simp at h
def CG:List aw→Nat→Nat→Nat→AV→Tr (List aw)
 | [],_,_,_,_=>.bad
 | .one u::r,pos,h,off,v=>match h with
   | 0=>.bad
   | h+1=>(CG r (Nat.succ pos) h off v).bind fun r'=>.ok (.one u::r')
 | .arr k z n::r,pos,h,off,v=>cond (Nat.blt h n) (match v with
    | .int k' x=>cond (gm k' k) (.req (nv off 1 pos n) (.ok (.arr k (gH z (fG off pos) x) n::r))) .bad
    | _=>.bad)
   ((CG r (Nat.add pos n) (Nat.sub h n) off v).bind fun r'=>.ok (.arr k z n::r'))
theorem vR:∀ (l:List aw) (pos h off:Nat) (v:AV) (l':List aw),(CG l pos h off v).run=some l'→pos≤off∧off-pos<au l∧jm l (off-pos) v=l'
 | [],_,_,_,_,_,h=>(Tr.ae h).elim
 | .one _::r,pos,0,off,v,l',h=>(Tr.ae h).elim
 | .one u::r,pos,h'+1,off,v,l',h=>by
   simp only[CG] at h
   obtain ⟨r',hr,h⟩:=Tr.bind_some h
   obtain ⟨h1,h2,h3⟩:=vR r (pos+1) h' off v r' hr
   refine ⟨by omega,by simp only[au,aF];omega,?_⟩
   rw[show off-pos=(off-(pos+1))+1 by omega,← Tr.ab h,← h3]
   rfl
 | .arr k z n::r,pos,h',off,v,l',h=>by
   simp only[CG] at h
   cases hb:Nat.blt h' n with
   | true =>
     rw[hb,cond_true] at h
     split at h
     · rename_i k' x
       rw[jG] at h
       split at h
       · rename_i hk
         obtain ⟨hc,h⟩:=Tr.aH h
         rw[iA,decide_eq_true_eq] at hc
         refine ⟨hc.1,by simp only[au,aF];omega,?_⟩
         simp only[jm]
         rw[if_pos (by omega),if_pos hk,← Tr.ab h,qE,eI]
       · exact (Tr.ae h).elim
     · exact (Tr.ae h).elim
   | false =>
     rw[hb,cond_false] at h
     obtain ⟨r',hr,h⟩:=Tr.bind_some h
     obtain ⟨h1,h2,h3⟩:=vR r (pos+n) (h'-n) off v r' hr
     refine ⟨by omega,by simp only[au,aF];omega,?_⟩
     simp only[jm]
     rw[if_neg (by omega),← Tr.ab h,← h3,show off-pos-n=off-(pos+n) by omega]
def JG (l:List aw) (off:Nat) (h:Option Nat) (v:AV):Tr (List aw) :=
 match l with
 | [.arr k z n]=>match v with
   | .int k' x=>cond (gm k' k) (.req (cW off n) (.ok [.arr k (gH z off x) n])) .bad
   | _=>.bad
 | l=>match h with
   | none=>uv (p7 l off v)
   | some h=>CG l 0 h off v
theorem GC {l l':List aw} {off:Nat} {h:Option Nat} {v:AV} (hr:(JG l off h v).run=some l'):off<au l∧jm l off v=l':=by
 unfold JG at hr
 split at hr
 · rename_i k z n
   split at hr
   · rename_i k' x
     rw[jG] at hr
     split at hr
     · rename_i hk
       obtain ⟨hc,hr⟩:=Tr.aH hr
       rw[gz,decide_eq_true_eq] at hc
       refine ⟨by simp only[au,aF];omega,?_⟩
       simp only[jm]
       rw[if_pos hc,if_pos hk,← Tr.ab hr,qE]
     · exact (Tr.ae hr).elim
   · exact (Tr.ae hr).elim
 · split at hr
   · rw[cA] at hr;exact su _ _ _ _ hr
   · have:=vR _ _ _ _ _ _ hr
     rw[Nat.sub_zero] at this
     exact this.2
def xT (off:Nat) (h:Option Nat):List AV→Nat→List aw→Tr (List aw)
 | [],_,l=>.ok l
 | v::vs,j,l=>(JG l (Cs off h j) (wT h j) v).bind fun l'=>xT off h vs (Nat.succ j) l'
theorem ss {off:Nat} {h:Option Nat}:∀ (vs:List AV) (j:Nat) (l l':List aw),(xT off h vs j l).run=some l'→(vs=[]∨off+j+vs.length≤au l)∧Row.cj (.M l) (off+j) vs=.M l'
 | [],j,l,l',h=>⟨.inl rfl,by rw[Tr.ab h];rfl⟩
 | v :: vs,j,l,l',h=>by
   simp only[xT] at h
   obtain ⟨l1,h1,h⟩:=Tr.bind_some h
   obtain ⟨k1,k2⟩:=GC h1
   rw[qA] at k1 k2
   obtain ⟨k3,k4⟩:=ss vs (j+1) l1 l' h
   have hl:au l1=au l:=by rw[← k2,l9]
   refine ⟨.inr ?_,?_⟩
   · rcases k3 with rfl | k3
     · simp only[List.length_cons,List.length_nil];omega
     · simp only[List.length_cons];omega
   · simp only[Row.cj,Row.set,k2]
     exact k4
def Eu (l:List aw) (off:Nat) (h:Option Nat) (q:Row):Tr Row :=
 match l,q with
 | [.arr k z m],.M [.arr k' z' n]=>cond (gm k' k) (.req (nv off n 0 m) (.ok (.M [.arr k (uT z off z' n) m]))) .bad
 | l,q=>cond (Nat.ble 9 (gL q)) (match h with
    | none=>cond (Nat.ble (Nat.add off (gL q)) (au l)) (.ok (vE l off q)) .bad
    | some _=>.bad)
   (match kD q with
     | []=>.bad
     | v::vs=>(xT off h (v::vs) 0 l).bind fun l'=>.ok (.M l'))
theorem vF {l:List aw} {off:Nat} {h:Option Nat} {q r:Row} (hr:(Eu l off h q).run=some r):off+q.len≤au l∧jl (.M l) off q=r:=by
 unfold Eu at hr
 split at hr
 · rename_i k z m k' z' n
   rw[jG] at hr
   split at hr
   · rename_i hk
     obtain ⟨hc,hr⟩:=Tr.aH hr
     rw[iA,decide_eq_true_eq] at hc
     refine ⟨by simp only[Row.len,au,aF];omega,?_⟩
     simp only[jl]
     rw[if_pos hk,← Tr.ab hr,AD]
   · exact (Tr.ae hr).elim
 · rename_i hne
   have hA:jl (.M l) off q=vE l off q:=by
    simp only[jl]
    split
    · rename_i k z m
      split
      · rename_i k' z' n
        exact (hne _ _ _ _ _ _ rfl rfl).elim
      · rfl
    · rfl
   rw[hA]
   rw[eE] at hr
   cases hb:Nat.ble 9 q.len with
   | true =>
     rw[hb,cond_true] at hr
     split at hr
     · cases hc:Nat.ble (Nat.add off q.len) (au l) with
       | true =>
         rw[hc,cond_true] at hr
         rw[Nat.ble_eq] at hc
         exact ⟨hc,Tr.ab hr⟩
       | false=>rw[hc,cond_false] at hr;exact (Tr.ae hr).elim
     · exact (Tr.ae hr).elim
   | false =>
     rw[hb,cond_false,nk] at hr
     have hl:=Row.a6 q
     split at hr
     · exact (Tr.ae hr).elim
     · rename_i v vs hq
       obtain ⟨l1,h1,hr⟩:=Tr.bind_some hr
       obtain ⟨k1,k2⟩:=ss _ _ _ _ h1
       rw[hq] at hl
       refine ⟨?_,?_⟩
       · rcases k1 with k1 | k1
         · simp at k1
         · omega
       · unfold vE
         rw[hb,if_neg (by simp),hq,← Tr.ab hr,← k2];rfl
def Jr (d:Nat) (x:AV):Bool :=
 match d with
 | 0=>false
 | _+1=>match x with
   | .slc 0 _ _ _ _ _ _=>true
   | _=>false
def storeT (P:Program) (H:aa) (t:TypeId) (a:HV) (x:AV):Tr Delta :=
 match a.1 with
 | .ptr d i v off=>cond (Jr d x) (match a.2 with | none=>uv (oz P H t a.1 x) | some _=>.bad)
   (cond (eM H d) .bad ((vN H d i v a.2).bind fun r=>match bg P t with
     | some n=>match x.row with
       | some q=>cond (Nat.beq (gL q) n) (match r with
         | .M l=>(Eu l off a.2 (iP d q)).bind fun r'=>.ok (.set d i (v,.row r'))
         | _=>match a.2 with | none=>uv (oz P H t a.1 x) | some _=>.bad) .bad
       | none=>.bad
     | none=>.bad))
 | _=>.bad
theorem CO {P:Program} {H:aa} {t:TypeId} {a:HV} {x:AV} {δ:Delta} (hr:(storeT P H t a x).run=some δ):fC P H t a.1 x=some δ:=by
 unfold storeT at hr
 split at hr
 · rename_i d i v off ha
   cases ho:Jr d x with
   | true =>
     rw[ho,cond_true] at hr
     split at hr
     · rw[cA,nj] at hr;exact hr
     · exact (Tr.ae hr).elim
   | false =>
     rw[ho,cond_false,dA] at hr
     cases hl:aC H d with
     | true=>rw[hl,cond_true] at hr;exact (Tr.ae hr).elim
     | false =>
       rw[hl,cond_false] at hr
       obtain ⟨r,h1,hr⟩:=Tr.bind_some hr
       split at hr
       · rename_i n hs
         split at hr
         · rename_i q hq
           rw[eE] at hr
           cases hb:Nat.beq q.len n with
           | false=>rw[hb,cond_false] at hr;exact (Tr.ae hr).elim
           | true =>
             rw[hb,cond_true] at hr
             have hb:q.len=n:=by simpa using hb
             split at hr
             · rename_i l
               obtain ⟨r',h2,hr⟩:=Tr.bind_some hr
               obtain ⟨k1,k2⟩:=vF h2
               rw[eF] at k1
               rw[ha]
               unfold fC
               dsimp only
               rw[hl,if_neg (by simp),kz h1,hs,hq]
               dsimp only
               rw[if_pos ⟨hb,by show off+n≤au l;omega⟩]
               have:∀ (d':Nat) (j w o sz len:Nat) (cap:Option Nat),d=d'+1→x≠.slc 0 j w o sz len cap:=by
                rintro d' j w o sz len cap rfl rfl
                simp[Jr] at ho
               rw[← Tr.ab hr,← k2]
               split
               · exact absurd rfl (this _ _ _ _ _ _ _ rfl)
               · rfl
             · split at hr
               · rw[cA,nj] at hr;exact hr
               · exact (Tr.ae hr).elim
         · exact (Tr.ae hr).elim
       · exact (Tr.ae hr).elim
 · exact (Tr.ae hr).elim

def hOr (h:Option Nat) (off:Nat):Nat :=
 match h with
 | none=>off
 | some h=>h
def mO (P:Program) (t:TypeId) (a:HV) (f:Nat):Tr HV :=
 match P.underlying t with
 | some (.struct fs)=>match fs[f]? with
   | some g=>match bg P g.type with
     | some (_+1)=>match a.1 with
       | .ptr d i v off=>.ok (.ptr d i v (Cs off a.2 g.offset),wT a.2 g.offset)
       | .ptrT s r off=>.ok (.ptrT s r (Cs off a.2 g.offset),wT a.2 g.offset)
       | _=>.bad
     | _=>.bad
   | none=>.bad
 | _=>.bad
theorem sY {P:Program} {t:TypeId} {a b:HV} {f:Nat} (hr:(mO P t a f).run=some b):fL P t a.1 f=some b.1:=by
 unfold mO at hr
 unfold fL
 split at hr
 · rename_i fs hu
   rw[hu]
   dsimp only
   split at hr
   · rename_i g hg
     rw[hg]
     dsimp only
     split at hr
     · rename_i n hs
       rw[hs]
       dsimp only
       split at hr
       · rename_i d i v off ha
         rw[ha,← Tr.ab hr];simp only[jU,qA]
       · rename_i s r off ha
         rw[ha,← Tr.ab hr];simp only[jU,qA]
       · exact (Tr.ae hr).elim
     · exact (Tr.ae hr).elim
   · exact (Tr.ae hr).elim
 · exact (Tr.ae hr).elim
def isLit (x:HV):Bool :=
 match x.2 with
 | some _=>true
 | none=>false
def Ek (off:Nat) (ic:Bool) (i:Int) (z:Nat):Nat:=cond ic (Nat.add off (Nat.mul i.toNat z)) (aE off i z)
theorem qz (off:Nat) (ic:Bool) (i:Int) (z:Nat):Ek off ic i z=off+i.toNat*z:=by
 cases ic with
 | true=>rfl
 | false=>exact bO _ _ _
def AW (h:Option Nat) (off:Nat) (ic:Bool) (i:Int) (z:Nat):Option Nat :=
 cond ic (wT h (Nat.mul i.toNat z)) (some (hOr h off))
def I0 (P:Program) (t:TypeId) (a:HV) (ic:Bool) (i:Int):Tr HV :=
 match P.underlying t with
 | some (.array n e)=>match bg P e with
   | some z=>match a.1 with
     | .ptr d j v off=>.req (dk i n) (.ok (.ptr d j v (Ek off ic i z),AW a.2 off ic i z))
     | .ptrT s r off=>.req (dk i n) (.ok (.ptrT s r (Ek off ic i z),AW a.2 off ic i z))
     | _=>.bad
   | none=>.bad
 | some (.slice e)=>match bg P e with
   | some z=>match a.1 with
     | .slc d j v off sz len cap=>cond (Nat.beq z sz) (.req (dk i len) (.ok (.ptr d j v (Ek off ic i z),match cap with
       | some _=>AW none off ic i z
       | none=>some off))) .bad
     | .slcT s r sz len _=>cond (Nat.beq z sz) (.req (dk i len) (.ok (.ptrT s r (Ek 0 ic i z),AW none 0 ic i z))) .bad
     | _=>.bad
   | none=>.bad
 | _=>.bad
def Mv (P:Program) (t:TypeId) (x:AV) (ic:Bool) (i:Int):Tr AV :=
 cond ic (uv (o8 P t x i)) (match P.underlying t with
  | some (.array n e)=>match x with
    | .agg r=>match bg P e with
      | some z=>.req (dk i n) (xK P e r (aE 0 i z) (some 0))
      | none=>.bad
    | _=>.bad
  | _=>.bad)
theorem I6 {P:Program} {t:TypeId} {x v:AV} {ic:Bool} {i:Int} (hr:(Mv P t x ic i).run=some v):o8 P t x i=some v:=by
 unfold Mv at hr
 cases ic with
 | true=>rw[cond_true,cA] at hr;exact hr
 | false =>
   rw[cond_false] at hr
   split at hr
   · rename_i n e hu
     split at hr
     · split at hr
       · rename_i z hs
         obtain ⟨hc,hr⟩:=Tr.aH hr
         rw[o7,decide_eq_true_eq] at hc
         have h:=si hr
         rw[bO,Nat.zero_add] at h
         unfold o8
         rw[hu]
         dsimp only
         rw[hs]
         dsimp only
         rw[if_pos hc,h]
       · exact (Tr.ae hr).elim
     · exact (Tr.ae hr).elim
   · exact (Tr.ae hr).elim
theorem FV {P:Program} {t:TypeId} {a b:HV} {ic:Bool} {i:Int} (hr:(I0 P t a ic i).run=some b):eO P t a.1 i=some b.1:=by
 unfold I0 at hr
 unfold eO
 split at hr
 · rename_i n e hu
   split at hr
   · rename_i z hs
     split at hr
     · rename_i d j v off ha
       obtain ⟨hc,hr⟩:=Tr.aH hr
       rw[o7,decide_eq_true_eq] at hc
       rw[hu,ha]
       dsimp only
       rw[hs]
       dsimp only
       rw[if_pos hc,← Tr.ab hr]
       simp only[jU,qz]
     · rename_i s r off ha
       obtain ⟨hc,hr⟩:=Tr.aH hr
       rw[o7,decide_eq_true_eq] at hc
       rw[hu,ha]
       dsimp only
       rw[hs]
       dsimp only
       rw[if_pos hc,← Tr.ab hr]
       simp only[jU,qz]
     · exact (Tr.ae hr).elim
   · exact (Tr.ae hr).elim
 · rename_i e hu
   split at hr
   · rename_i z hs
     split at hr
     · rename_i d j v off sz len cap ha
       cases hb:Nat.beq z sz with
       | false=>rw[hb,cond_false] at hr;exact (Tr.ae hr).elim
       | true =>
         rw[hb,cond_true] at hr
         have hb:z=sz:=by simpa using hb
         subst hb
         obtain ⟨hc,hr⟩:=Tr.aH hr
         rw[o7,decide_eq_true_eq] at hc
         rw[hu,ha]
         dsimp only
         rw[if_pos ⟨hc.1,hc.2,hs⟩,← Tr.ab hr]
         simp only[qz]
     · rename_i s r sz len full ha
       cases hb:Nat.beq z sz with
       | false=>rw[hb,cond_false] at hr;exact (Tr.ae hr).elim
       | true =>
         rw[hb,cond_true] at hr
         have hb:z=sz:=by simpa using hb
         subst hb
         obtain ⟨hc,hr⟩:=Tr.aH hr
         rw[o7,decide_eq_true_eq] at hc
         rw[hu,ha]
         dsimp only
         rw[if_pos ⟨hc.1,hc.2,hs⟩,← Tr.ab hr]
         simp only[qz,Nat.zero_add]
     · exact (Tr.ae hr).elim
   · exact (Tr.ae hr).elim
 · exact (Tr.ae hr).elim

end
end Go.Eng
