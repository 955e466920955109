/- The engine as a tree: frames with hints, rows, loads, stores, addresses. -/
import Derived.Test.YtjmjkhpfipglcaaV7EngTa
namespace Go.Eng
set_option linter.unusedVariables false
set_option linter.unusedSimpArgs false
noncomputable section

abbrev HV:=AV×Option Nat
abbrev a8:=List (Nat×HV)
def strip (f:a8):aO:=List.rec (motive:=fun _=>aO) [] (fun p _ ih=>(p.1,p.2.1)::ih) f
theorem dK (x:Nat) (v:HV) (r:a8):strip ((x,v)::r)=(x,v.1)::strip r:=rfl
def pK (f:a8) (y:Nat):HV:=List.rec (motive:=fun _=>HV) (AV.undef,none) (fun p _ ih=>Bool.rec ih p.2 (Nat.beq p.1 y)) f
theorem jU:∀ (f:a8) (y:Nat),(pK f y).1=cD (strip f) y
 | [],y=>rfl
 | (x,v)::r,y=>by
   have e:pK ((x,v)::r) y=Bool.rec (pK r y) v (Nat.beq x y):=rfl
   rw[e,dK,cD]
   cases Nat.beq x y with
   | true=>rfl
   | false=>exact jU r y
def wm (f:a8) (y:Nat) (u:HV):a8:=List.rec (motive:=fun _=>a8) [(y,u)] (fun p r ih=>Bool.rec (motive:=fun _=>a8) (p::ih) (Bool.rec (motive:=fun _=>a8) ((y,u)::p::r) ((y,u)::r) (Nat.beq p.1 y)) (Nat.ble y p.1)) f
theorem wo:∀ (f:a8) (y:Nat) (u:HV),strip (wm f y u)=sS (strip f) y u.1
 | [],y,u=>rfl
 | (x,v)::r,y,u=>by
   have e:wm ((x,v)::r) y u=Bool.rec (motive:=fun _=>a8) ((x,v)::wm r y u) (Bool.rec (motive:=fun _=>a8) ((y,u)::(x,v)::r) ((y,u)::r) (Nat.beq x y)) (Nat.ble y x):=rfl
   rw[e,dK,sS,← wo r y u]
   cases Nat.ble y x with
   | false=>rfl
   | true=>cases Nat.beq x y<;>rfl
def lC (f:a8) (m:Nat):a8:=List.rec (motive:=fun _=>a8) [] (fun p _ ih=>Bool.rec (motive:=fun _=>a8) (p::ih) ih (Nat.beq (Nat.land (Nat.shiftRight m p.1) 1) 1)) f
theorem jW:∀ (f:a8) (m:Nat),strip (lC f m)=dB (strip f) m
 | [],m=>rfl
 | (x,v)::r,m=>by
   have e:lC ((x,v)::r) m=Bool.rec (motive:=fun _=>a8) ((x,v)::lC r m) (lC r m) (Nat.beq (Nat.land (Nat.shiftRight m x) 1) 1):=rfl
   have e2:dB ((x,v.1)::strip r) m=Bool.rec (motive:=fun _=>aO) ((x,v.1)::dB (strip r) m) (dB (strip r) m) (Nat.beq (Nat.land (Nat.shiftRight m x) 1) 1):=rfl
   rw[e,dK,e2,← jW r m]
   cases Nat.beq (Nat.land (Nat.shiftRight m x) 1) 1<;>rfl
def NJ (v:Value):Option Nat :=
 match v with
 | .int _ _=>some 1
 | .bool _=>some 1
 | _=>none
def cI (fr:a8) (x:Operand):HV:=Operand.rec (motive:=fun _=>HV) (fun t=>pK fr t) (fun v=>(ki v,NJ v)) (fun _=>(.undef,none)) (fun f=>(.fn (.func f) [] [],none)) x
theorem ba (fr:a8) (x:Operand):(cI fr x).1=cq (strip fr) x:=by
 cases x with
 | tmp t=>exact jU fr t
 | _=>rfl
def xa (fr:a8) (l:List Operand):List AV:=qk (fun x=>(cI fr x).1) l
theorem sa (fr:a8):∀ l,xa fr l=kF (strip fr) l
 | []=>rfl
 | x::l=>by
   have e:xa fr (x::l)=(cI fr x).1::xa fr l:=rfl
   rw[e,sa fr l,ba];rfl
def xg (nt:Nat) (fr:a8) (dst:Option Tmp) (v:HV):a8:=Option.rec (motive:=fun _=>a8) fr (fun d=>Bool.rec (motive:=fun _=>a8) fr (wm fr d v) (Nat.ble (Nat.succ d) nt)) dst
theorem se (nt:Nat) (fr:a8) (dst:Option Tmp) (v:HV):strip (xg nt fr dst v)=mq nt (strip fr) dst v.1:=by
 rw[← CS]
 cases dst with
 | none=>rfl
 | some d =>
   have e:xg nt fr (some d) v=Bool.rec (motive:=fun _=>a8) fr (wm fr d v) (Nat.ble (Nat.succ d) nt):=rfl
   have e2:CR nt (strip fr) (some d) v.1=Bool.rec (motive:=fun _=>aO) (strip fr) (tG (strip fr) d v.1) (Nat.ble (Nat.succ d) nt):=rfl
   rw[e,e2,vY,← wo]
   cases Nat.ble (Nat.succ d) nt<;>rfl

def pJ:List aC→Nat→Option AV
 | [],_=>none
 | .one v::r,j=>match j with
   | 0=>some v
   | j+1=>pJ r j
 | .arr k z n::r,j=>cond (Nat.blt j n) (some (.int k (z j))) (pJ r (Nat.sub j n))
theorem BR {a b:Nat} (h:Nat.blt a b=true):a<b:=by rwa [Nat.blt_eq] at h
theorem F2 {a b:Nat} (h:Nat.blt a b=false):¬ a<b:=fun e=>by
 have:Nat.blt a b=true:=by rw[Nat.blt_eq];exact e
 rw[h] at this;cases this
theorem rz:∀ (l:List aC) (j:Nat) (v:AV),pJ l j=some v→j<aM l∧getM l j=v
 | [],_,_,h=>by simp[pJ] at h
 | .one u::r,0,v,h=>by
   simp only[pJ,Option.some.injEq] at h
   exact ⟨by simp only[aM,aT];omega,h⟩
 | .one u::r,j+1,v,h=>by
   have:=rz r j v (by simpa[pJ] using h)
   exact ⟨by simp only[aM,aT];omega,this.2⟩
 | .arr k z n::r,j,v,h=>by
   simp only[pJ] at h
   simp only[aM,aT,getM]
   cases hb:Nat.blt j n with
   | true =>
     rw[hb,cond_true,Option.some.injEq] at h
     have:=BR hb
     exact ⟨by omega,by rw[if_pos this];exact h⟩
   | false =>
     rw[hb,cond_false] at h
     have hn:=F2 hb
     have:=rz r (j-n) v h
     exact ⟨by omega,by rw[if_neg hn];exact this.2⟩
def C9:List aC→Nat→Nat→Nat→Tr AV
 | [],_,_,_=>.bad
 | .one _::r,pos,h,off=>match h with
   | 0=>.bad
   | h+1=>C9 r (Nat.succ pos) h off
 | .arr k z n::r,pos,h,off=>cond (Nat.blt h n) (.req (kO off 1 pos n) (.ok (.int k (z (fM off pos))))) (C9 r (Nat.add pos n) (Nat.sub h n) off)
theorem vm:∀ (l:List aC) (pos h off:Nat) (v:AV),(C9 l pos h off).run=some v→pos≤off∧off-pos<aM l∧getM l (off-pos)=v
 | [],_,_,_,_,h=>(Tr.ag h).elim
 | .one _::r,pos,0,off,v,h=>(Tr.ag h).elim
 | .one u::r,pos,h'+1,off,v,h=>by
   obtain ⟨h1,h2,h3⟩:=vm r (pos+1) h' off v h
   refine ⟨by omega,by simp only[aM,aT];omega,?_⟩
   rw[show off-pos=(off-(pos+1))+1 by omega]
   exact h3
 | .arr k z n::r,pos,h',off,v,h=>by
   simp only[C9] at h
   cases hb:Nat.blt h' n with
   | true =>
     rw[hb,cond_true] at h
     obtain ⟨hc,h⟩:=Tr.aZ h
     rw[fH,decide_eq_true_eq] at hc
     have h:=Tr.ab h
     refine ⟨hc.1,by simp only[aM,aT];omega,?_⟩
     simp only[getM]
     rw[if_pos (by omega),← h,fh]
   | false =>
     rw[hb,cond_false] at h
     obtain ⟨h1,h2,h3⟩:=vm r (pos+n) (h'-n) off v h
     refine ⟨by omega,by simp only[aM,aT];omega,?_⟩
     simp only[getM]
     rw[if_neg (by omega),← h3]
     congr 1;omega
def z9 (r:Row) (off:Nat) (h:Option Nat):Tr AV :=
 match r with
 | .F f n=>.req (bt off n) (.ok (f off))
 | .M l=>match l with
   | [.arr k z n]=>.req (bt off n) (.ok (.int k (z off)))
   | l=>match h with
     | none=>uW (pJ l off)
     | some h=>C9 l 0 h off
 | .I k l=>match h with
   | none=>uW (jr (.I k l) off)
   | some _=>.req (bt off (A7 l)) (.ok (.int k (bE l off)))
 | .G l=>match h with
   | none=>uW (jr (.G l) off)
   | some _=>.bad
theorem xt {r:Row} {off:Nat} {v:AV} (h:jr r off=some v):off<r.len∧r.get off=v:=by
 rw[si] at h
 split at h
 · rename_i h0;exact ⟨h0,Option.some.inj h⟩
 · simp at h
theorem xi {r:Row} {off:Nat} {h:Option Nat} {v:AV} (hr:(z9 r off h).run=some v):off<r.len∧r.get off=v:=by
 unfold z9 at hr
 split at hr
 · obtain ⟨hc,hr⟩:=Tr.aZ hr
   rw[dJ,decide_eq_true_eq] at hc
   exact ⟨hc,Tr.ab hr⟩
 · rename_i l
   split at hr
   · rename_i k z n
     obtain ⟨hc,hr⟩:=Tr.aZ hr
     rw[dJ,decide_eq_true_eq] at hc
     refine ⟨by simp only[Row.len,aM,aT];omega,?_⟩
     simp only[Row.get,getM]
     rw[if_pos hc];exact Tr.ab hr
   · split at hr
     · rw[dw] at hr;exact rz _ _ _ hr
     · have:=vm _ _ _ _ _ hr
       rw[Nat.sub_zero] at this
       exact this.2
 · split at hr
   · rw[dw] at hr;exact xt hr
   · obtain ⟨hc,hr⟩:=Tr.aZ hr
     rw[dJ,decide_eq_true_eq,zL] at hc
     refine ⟨hc,?_⟩
     rw[← Tr.ab hr,EF];rfl
 · split at hr
   · rw[dw] at hr;exact xt hr
   · exact (Tr.ag hr).elim
def Bc (off:Nat) (h:Option Nat) (j:Nat):Nat :=
 match h with
 | none=>Nat.add off j
 | some _=>match j with
   | 0=>off
   | j+1=>au off (Nat.succ j)
theorem qC (off:Nat) (h:Option Nat) (j:Nat):Bc off h j=off+j:=by
 unfold Bc
 split
 · rfl
 · split
   · rfl
   · rw[bP]
def wx (h:Option Nat) (j:Nat):Option Nat :=
 match h with
 | none=>none
 | some h=>some (Nat.add h j)
def Aa (r:Row) (off:Nat) (h:Option Nat):Nat→Nat→Tr (List AV)
 | _,0=>.ok []
 | j,n+1=>(z9 r (Bc off h j) (wx h j)).bind fun v=>(Aa r off h (Nat.succ j) n).bind fun l=>.ok (v::l)
theorem xj {r:Row} {off:Nat} {h:Option Nat}:∀ (n j:Nat) (l:List AV),(Aa r off h j n).run=some l→l=dI r.get (off+j) n∧(n=0∨off+j+n≤r.len)
 | 0,j,l,hr=>⟨(Tr.ab hr).symm,.inl rfl⟩
 | n+1,j,l,hr=>by
   simp only[Aa] at hr
   obtain ⟨v,h1,hr⟩:=Tr.bind_some hr
   obtain ⟨m,h2,hr⟩:=Tr.bind_some hr
   have hr:=Tr.ab hr
   obtain ⟨k1,k2⟩:=xi h1
   obtain ⟨k3,k4⟩:=xj n (j+1) m h2
   rw[qC] at k1 k2
   refine ⟨?_,.inr (by omega)⟩
   rw[← hr,dI,k2,k3,show off+(j+1)=off+j+1 by omega]
def C8:List aC→Nat→Nat→Nat→Nat→Tr AV
 | [],_,_,_,_=>.bad
 | .one _::r,pos,h,off,n=>match h with
   | 0=>.bad
   | h+1=>C8 r (Nat.succ pos) h off n
 | .arr k z m::r,pos,h,off,n=>cond (Nat.blt h m) (.req (kO off n pos m) (.ok (.agg (.M [.arr k (nv z (fM off pos)) n])))) (C8 r (Nat.add pos m) (Nat.sub h m) off n)
theorem vl:∀ (l:List aC) (pos h off n:Nat) (v:AV),0<n→(C8 l pos h off n).run=some v→pos≤off∧off-pos+n≤aM l∧∃ k z,oH l (off-pos) n=some (k,z)∧v=.agg (.M [.arr k z n])
 | [],_,_,_,_,_,_,h=>(Tr.ag h).elim
 | .one _::r,pos,0,off,n,v,_,h=>(Tr.ag h).elim
 | .one u::r,pos,h'+1,off,n,v,hn,h=>by
   obtain ⟨h1,h2,k,z,h3,h4⟩:=vl r (pos+1) h' off n v hn h
   refine ⟨by omega,by simp only[aM,aT];omega,k,z,?_,h4⟩
   rw[show off-pos=(off-(pos+1))+1 by omega]
   exact h3
 | .arr k z m::r,pos,h',off,n,v,hn,h=>by
   simp only[C8] at h
   cases hb:Nat.blt h' m with
   | true =>
     rw[hb,cond_true] at h
     obtain ⟨hc,h⟩:=Tr.aZ h
     rw[fH,decide_eq_true_eq] at hc
     have h:=Tr.ab h
     refine ⟨hc.1,by simp only[aM,aT];omega,k,fun j=>z (off-pos+j),?_,?_⟩
     · simp only[oH];rw[if_pos (by omega)]
     · rw[← h,jF,fh]
   | false =>
     rw[hb,cond_false] at h
     obtain ⟨h1,h2,k',z',h3,h4⟩:=vl r (pos+m) (h'-m) off n v hn h
     refine ⟨by omega,by simp only[aM,aT];omega,k',z',?_,h4⟩
     simp only[oH]
     rw[if_neg (by omega),if_pos (by omega),← h3]
     congr 1;omega
def Ab (P:Program) (t:TypeId) (r:Row) (off:Nat) (h:Option Nat):Tr AV :=
 match fv P t with
 | some false=>z9 r off h
 | some true=>match bR P t with
   | some 0=>.bad
   | some (n+1)=>match r with
     | .M l=>cond (Nat.ble (Nat.succ n) 8) ((Aa (.M l) off h 0 (Nat.succ n)).bind fun vs=>.ok (.agg (Row.ofList vs)))
       (match h with
       | none=>cond (Nat.ble (Nat.add off (Nat.succ n)) (aM l)) (.ok (.agg ((Row.M l).cut off (Nat.succ n)))) .bad
       | some h=>cond (Nat.beq (aM l) (Nat.succ n)) .bad (C8 l 0 h off (Nat.succ n)))
     | .F f m=>.req (cB (au off (Nat.succ n)) m) (.ok (.agg ((Row.F f m).cut off (Nat.succ n))))
     | .I k l=>match h with
       | none=>uW (vg P t (.I k l) off)
       | some _=>.bad
     | .G l=>match h with
       | none=>uW (vg P t (.G l) off)
       | some _=>.bad
   | none=>.bad
 | none=>.bad
theorem xk {P:Program} {t:TypeId} {r:Row} {off:Nat} {h:Option Nat} {v:AV} (hr:(Ab P t r off h).run=some v):jq P t r off=some v:=by
 unfold Ab at hr
 split at hr
 · rename_i ha
   obtain ⟨h1,h2⟩:=xi hr
   unfold jq
   rw[ha]
   dsimp only
   rw[if_pos h1,h2]
 · rename_i ha
   split at hr
   · exact (Tr.ag hr).elim
   · rename_i n hs
     split at hr
     · rename_i l
       unfold jq
       rw[ha,hs]
       dsimp only
       cases hb:Nat.ble (Nat.succ n) 8 with
       | true =>
         rw[hb,cond_true] at hr
         obtain ⟨vs,h1,hr⟩:=Tr.bind_some hr
         have hr:=Tr.ab hr
         obtain ⟨k1,k2⟩:=xj _ _ _ h1
         rw[if_pos (by omega),← hr,k1]
         simp only[Row.cut]
         rw[show Nat.ble (n+1) 8=true from hb,if_pos rfl,Nat.add_zero]
         rfl
       | false =>
         rw[hb,cond_false] at hr
         split at hr
         · cases hc:Nat.ble (Nat.add off (Nat.succ n)) (aM l) with
           | true =>
             rw[hc,cond_true] at hr
             rw[Nat.ble_eq] at hc
             rw[if_pos (show off+(n+1)≤(Row.M l).len from hc),← Tr.ab hr]
           | false=>rw[hc,cond_false] at hr;exact (Tr.ag hr).elim
         · rename_i h
           cases hc:Nat.beq (aM l) (Nat.succ n) with
           | true=>rw[hc,cond_true] at hr;exact (Tr.ag hr).elim
           | false =>
             rw[hc,cond_false] at hr
             obtain ⟨h1,h2,k,z,h3,h4⟩:=vl _ _ _ _ _ _ (Nat.succ_pos n) hr
             rw[Nat.sub_zero] at h2 h3
             rw[if_pos (show off+(n+1)≤(Row.M l).len from h2)]
             simp only[Row.cut]
             rw[show Nat.ble (n+1) 8=false from hb,if_neg (by simp)]
             have : Row.sub (.M l) off (n+1)=.M [.arr k z (n+1)]:=by
              match l,h3,hc with
              | [],h3,_=>simp[oH] at h3
              | [.arr k' z' m],h3,hc =>
                simp only[oH] at h3
                split at h3
                · simp only[nP] at h3
                  obtain ⟨rfl,rfl⟩:=h3
                  rfl
                · split at h3<;>simp at h3
              | .one u::r,h3,hc =>
                simp only[Row.sub]
                rw[show Nat.beq (aM (.one u::r)) (n+1)=false from hc,Bool.and_false,h3]
                rfl
              | .arr k' z' m::s::r,h3,hc =>
                simp only[Row.sub]
                rw[show Nat.beq (aM (.arr k' z' m::s::r)) (n+1)=false from hc,Bool.and_false,h3]
                rfl
             rw[this,h4]
     · rename_i f m
       obtain ⟨hc,hr⟩:=Tr.aZ hr
       rw[eB,decide_eq_true_eq,bP] at hc
       unfold jq
       rw[ha,hs]
       dsimp only
       rw[if_pos (show off+(n+1)≤(Row.F f m).len from hc),← Tr.ab hr]
     · split at hr
       · rw[dw,ub] at hr;exact hr
       · exact (Tr.ag hr).elim
     · split at hr
       · rw[dw,ub] at hr;exact hr
       · exact (Tr.ag hr).elim
   · exact (Tr.ag hr).elim
 · exact (Tr.ag hr).elim

def vk (H:ae) (d i v:Nat) (h:Option Nat):Tr Row :=
 match h with
 | none=>uW (zB H d i v)
 | some _=>match mB H d i with
   | (ver,.row r)=>.req (dH ver v) (.ok r)
   | _=>.bad
theorem kH {H:ae} {d i v:Nat} {h:Option Nat} {r:Row} (hr:(vk H d i v h).run=some r):eJ H d i v=some r:=by
 unfold vk at hr
 split at hr
 · rw[dw,wq] at hr;exact hr
 · rw[oa] at hr
   split at hr
   · rename_i ver q hg
     obtain ⟨hc,hr2⟩:=Tr.aZ hr
     rw[cu,decide_eq_true_eq] at hc
     subst hc
     unfold eJ
     rw[hg]
     simp only[Nat.beq_refl,if_true]
     rw[Tr.ab hr2]
   · exact (Tr.ag hr).elim
def loadT (P:Program) (H:ae) (t:TypeId) (a:HV):Tr AV :=
 match a.1 with
 | .ptr d i v off=>(vk H d i v a.2).bind fun r=>(Ab P t r off a.2).bind fun x=>.ok (xU d x)
 | .ptrT s r off=>(Ab P t r off a.2).bind fun x=>.ok (Pt s x)
 | _=>.bad
theorem wL {P:Program} {H:ae} {t:TypeId} {a:HV} {v:AV} (hr:(loadT P H t a).run=some v):oo P H t a.1=some v:=by
 unfold loadT at hr
 unfold oo
 split at hr
 · rename_i d i ver off ha
   obtain ⟨r,h1,hr⟩:=Tr.bind_some hr
   obtain ⟨x,h2,hr⟩:=Tr.bind_some hr
   rw[ha]
   dsimp only
   rw[kH h1]
   dsimp only
   rw[xk h2,← Tr.ab hr];rfl
 · rename_i s r off ha
   obtain ⟨x,h2,hr⟩:=Tr.bind_some hr
   rw[ha]
   dsimp only
   rw[xk h2,← Tr.ab hr];rfl
 · exact (Tr.ag hr).elim

def p8:List aC→Nat→AV→Option (List aC)
 | [],_,_=>none
 | .one u::r,j,v=>match j with
   | 0=>some (.one v::r)
   | j+1=>match p8 r j v with
     | some r'=>some (.one u::r')
     | none=>none
 | .arr k z n::r,j,v=>cond (Nat.blt j n) (match v with
    | .int k' x=>cond (gX k' k) (some (.arr k (fO z j x) n::r)) none
    | _=>none)
   (match p8 r (Nat.sub j n) v with
     | some r'=>some (.arr k z n::r')
     | none=>none)
theorem sr:∀ (l:List aC) (j:Nat) (v:AV) (l':List aC),p8 l j v=some l'→j<aM l∧jE l j v=l'
 | [],_,_,_,h=>by simp[p8] at h
 | .one u::r,0,v,l',h=>by
   simp only[p8,Option.some.injEq] at h
   exact ⟨by simp only[aM,aT];omega,h⟩
 | .one u::r,j+1,v,l',h=>by
   simp only[p8] at h
   split at h
   · rename_i r' hr
     have:=sr r j v r' hr
     simp only[Option.some.injEq] at h
     exact ⟨by simp only[aM,aT];omega,by simp only[jE];rw[this.2];exact h⟩
   · simp at h
 | .arr k z n::r,j,v,l',h=>by
   simp only[p8] at h
   cases hb:Nat.blt j n with
   | true =>
     rw[hb,cond_true] at h
     have hj:=BR hb
     split at h
     · rename_i k' x
       rw[jY] at h
       split at h
       · rename_i hk
         simp only[Option.some.injEq] at h
         refine ⟨by simp only[aM,aT];omega,?_⟩
         simp only[jE]
         rw[if_pos hj,if_pos hk,← h,eF]
       · simp at h
     · simp at h
   | false =>
     rw[hb,cond_false] at h
     have hj:=F2 hb
     split at h
     · rename_i r' hr
       have:=sr r (j-n) v r' hr
       simp only[Option.some.injEq] at h
       exact ⟨by simp only[aM,aT];omega,by simp only[jE];rw[if_neg hj,this.2];exact h⟩
     · simp at h
def Bj:List aC→Nat→Nat→Nat→AV→Tr (List aC)
 | [],_,_,_,_=>.bad
 | .one u::r,pos,h,off,v=>match h with
   | 0=>.bad
   | h+1=>(Bj r (Nat.succ pos) h off v).bind fun r'=>.ok (.one u::r')
 | .arr k z n::r,pos,h,off,v=>cond (Nat.blt h n) (match v with
    | .int k' x=>cond (gX k' k) (.req (kO off 1 pos n) (.ok (.arr k (fO z (fM off pos) x) n::r))) .bad
    | _=>.bad)
   ((Bj r (Nat.add pos n) (Nat.sub h n) off v).bind fun r'=>.ok (.arr k z n::r'))
theorem vn:∀ (l:List aC) (pos h off:Nat) (v:AV) (l':List aC),(Bj l pos h off v).run=some l'→pos≤off∧off-pos<aM l∧jE l (off-pos) v=l'
 | [],_,_,_,_,_,h=>(Tr.ag h).elim
 | .one _::r,pos,0,off,v,l',h=>(Tr.ag h).elim
 | .one u::r,pos,h'+1,off,v,l',h=>by
   simp only[Bj] at h
   obtain ⟨r',hr,h⟩:=Tr.bind_some h
   obtain ⟨h1,h2,h3⟩:=vn r (pos+1) h' off v r' hr
   refine ⟨by omega,by simp only[aM,aT];omega,?_⟩
   rw[show off-pos=(off-(pos+1))+1 by omega,← Tr.ab h,← h3]
   rfl
 | .arr k z n::r,pos,h',off,v,l',h=>by
   simp only[Bj] at h
   cases hb:Nat.blt h' n with
   | true =>
     rw[hb,cond_true] at h
     split at h
     · rename_i k' x
       rw[jY] at h
       split at h
       · rename_i hk
         obtain ⟨hc,h⟩:=Tr.aZ h
         rw[fH,decide_eq_true_eq] at hc
         refine ⟨hc.1,by simp only[aM,aT];omega,?_⟩
         simp only[jE]
         rw[if_pos (by omega),if_pos hk,← Tr.ab h,eF,fh]
       · exact (Tr.ag h).elim
     · exact (Tr.ag h).elim
   | false =>
     rw[hb,cond_false] at h
     obtain ⟨r',hr,h⟩:=Tr.bind_some h
     obtain ⟨h1,h2,h3⟩:=vn r (pos+n) (h'-n) off v r' hr
     refine ⟨by omega,by simp only[aM,aT];omega,?_⟩
     simp only[jE]
     rw[if_neg (by omega),← Tr.ab h,← h3,show off-pos-n=off-(pos+n) by omega]
def HZ (l:List aC) (off:Nat) (h:Option Nat) (v:AV):Tr (List aC) :=
 match l with
 | [.arr k z n]=>match v with
   | .int k' x=>cond (gX k' k) (.req (bt off n) (.ok [.arr k (fO z off x) n])) .bad
   | _=>.bad
 | l=>match h with
   | none=>uW (p8 l off v)
   | some h=>Bj l 0 h off v
theorem Fz {l l':List aC} {off:Nat} {h:Option Nat} {v:AV} (hr:(HZ l off h v).run=some l'):off<aM l∧jE l off v=l':=by
 unfold HZ at hr
 split at hr
 · rename_i k z n
   split at hr
   · rename_i k' x
     rw[jY] at hr
     split at hr
     · rename_i hk
       obtain ⟨hc,hr⟩:=Tr.aZ hr
       rw[dJ,decide_eq_true_eq] at hc
       refine ⟨by simp only[aM,aT];omega,?_⟩
       simp only[jE]
       rw[if_pos hc,if_pos hk,← Tr.ab hr,eF]
     · exact (Tr.ag hr).elim
   · exact (Tr.ag hr).elim
 · split at hr
   · rw[dw] at hr;exact sr _ _ _ _ hr
   · have:=vn _ _ _ _ _ _ hr
     rw[Nat.sub_zero] at this
     exact this.2
def xy (off:Nat) (h:Option Nat):List AV→Nat→List aC→Tr (List aC)
 | [],_,l=>.ok l
 | v::vs,j,l=>(HZ l (Bc off h j) (wx h j) v).bind fun l'=>xy off h vs (Nat.succ j) l'
theorem sq {off:Nat} {h:Option Nat}:∀ (vs:List AV) (j:Nat) (l l':List aC),(xy off h vs j l).run=some l'→(vs=[]∨off+j+vs.length≤aM l)∧Row.cR (.M l) (off+j) vs=.M l'
 | [],j,l,l',h=>⟨.inl rfl,by rw[Tr.ab h];rfl⟩
 | v :: vs,j,l,l',h=>by
   simp only[xy] at h
   obtain ⟨l1,h1,h⟩:=Tr.bind_some h
   obtain ⟨k1,k2⟩:=Fz h1
   rw[qC] at k1 k2
   obtain ⟨k3,k4⟩:=sq vs (j+1) l1 l' h
   have hl:aM l1=aM l:=by rw[← k2,l6]
   refine ⟨.inr ?_,?_⟩
   · rcases k3 with rfl | k3
     · simp only[List.length_cons,List.length_nil];omega
     · simp only[List.length_cons];omega
   · simp only[Row.cR,Row.set,k2]
     exact k4
def CT (l:List aC) (off:Nat) (h:Option Nat) (q:Row):Tr Row :=
 match l,q with
 | [.arr k z m],.M [.arr k' z' n]=>cond (gX k' k) (.req (kO off n 0 m) (.ok (.M [.arr k (uy z off z' n) m]))) .bad
 | l,q=>cond (Nat.ble 9 (iu q)) (match h with
    | none=>cond (Nat.ble (Nat.add off (iu q)) (aM l)) (.ok (u9 l off q)) .bad
    | some _=>.bad)
   (match kJ q with
     | []=>.bad
     | v::vs=>(xy off h (v::vs) 0 l).bind fun l'=>.ok (.M l'))
theorem vc {l:List aC} {off:Nat} {h:Option Nat} {q r:Row} (hr:(CT l off h q).run=some r):off+q.len≤aM l∧jD (.M l) off q=r:=by
 unfold CT at hr
 split at hr
 · rename_i k z m k' z' n
   rw[jY] at hr
   split at hr
   · rename_i hk
     obtain ⟨hc,hr⟩:=Tr.aZ hr
     rw[fH,decide_eq_true_eq] at hc
     refine ⟨by simp only[Row.len,aM,aT];omega,?_⟩
     simp only[jD]
     rw[if_pos hk,← Tr.ab hr,zc]
   · exact (Tr.ag hr).elim
 · rename_i hne
   have hA:jD (.M l) off q=u9 l off q:=by
    simp only[jD]
    split
    · rename_i k z m
      split
      · rename_i k' z' n
        exact (hne _ _ _ _ _ _ rfl rfl).elim
      · rfl
    · rfl
   rw[hA]
   rw[fz] at hr
   cases hb:Nat.ble 9 q.len with
   | true =>
     rw[hb,cond_true] at hr
     split at hr
     · cases hc:Nat.ble (Nat.add off q.len) (aM l) with
       | true =>
         rw[hc,cond_true] at hr
         rw[Nat.ble_eq] at hc
         exact ⟨hc,Tr.ab hr⟩
       | false=>rw[hc,cond_false] at hr;exact (Tr.ag hr).elim
     · exact (Tr.ag hr).elim
   | false =>
     rw[hb,cond_false,np] at hr
     have hl:=Row.bC q
     split at hr
     · exact (Tr.ag hr).elim
     · rename_i v vs hq
       obtain ⟨l1,h1,hr⟩:=Tr.bind_some hr
       obtain ⟨k1,k2⟩:=sq _ _ _ _ h1
       rw[hq] at hl
       refine ⟨?_,?_⟩
       · rcases k1 with k1 | k1
         · simp at k1
         · omega
       · unfold u9
         rw[hb,if_neg (by simp),hq,← Tr.ab hr,← k2];rfl
def HJ (d:Nat) (x:AV):Bool :=
 match d with
 | 0=>false
 | _+1=>match x with
   | .slc 0 _ _ _ _ _ _=>true
   | _=>false
def storeT (P:Program) (H:ae) (t:TypeId) (a:HV) (x:AV):Tr Delta :=
 match a.1 with
 | .ptr d i v off=>cond (HJ d x) (match a.2 with | none=>uW (qE P H t a.1 x) | some _=>.bad)
   (cond (jB H d) .bad ((vk H d i v a.2).bind fun r=>match bR P t with
     | some n=>match x.row with
       | some q=>cond (Nat.beq (iu q) n) (match r with
         | .M l=>(CT l off a.2 (mz d q)).bind fun r'=>.ok (.set d i (v,.row r'))
         | _=>match a.2 with | none=>uW (qE P H t a.1 x) | some _=>.bad) .bad
       | none=>.bad
     | none=>.bad))
 | _=>.bad
theorem Bo {P:Program} {H:ae} {t:TypeId} {a:HV} {x:AV} {δ:Delta} (hr:(storeT P H t a x).run=some δ):gE P H t a.1 x=some δ:=by
 unfold storeT at hr
 split at hr
 · rename_i d i v off ha
   cases ho:HJ d x with
   | true =>
     rw[ho,cond_true] at hr
     split at hr
     · rw[dw,sw] at hr;exact hr
     · exact (Tr.ag hr).elim
   | false =>
     rw[ho,cond_false,gA] at hr
     cases hl:aY H d with
     | true=>rw[hl,cond_true] at hr;exact (Tr.ag hr).elim
     | false =>
       rw[hl,cond_false] at hr
       obtain ⟨r,h1,hr⟩:=Tr.bind_some hr
       split at hr
       · rename_i n hs
         split at hr
         · rename_i q hq
           rw[fz] at hr
           cases hb:Nat.beq q.len n with
           | false=>rw[hb,cond_false] at hr;exact (Tr.ag hr).elim
           | true =>
             rw[hb,cond_true] at hr
             have hb:q.len=n:=by simpa using hb
             split at hr
             · rename_i l
               obtain ⟨r',h2,hr⟩:=Tr.bind_some hr
               obtain ⟨k1,k2⟩:=vc h2
               rw[fB] at k1
               rw[ha]
               unfold gE
               dsimp only
               rw[hl,if_neg (by simp),kH h1,hs,hq]
               dsimp only
               rw[if_pos ⟨hb,by show off+n≤aM l;omega⟩]
               have:∀ (d':Nat) (j w o sz len:Nat) (cap:Option Nat),d=d'+1→x≠.slc 0 j w o sz len cap:=by
                rintro d' j w o sz len cap rfl rfl
                simp[HJ] at ho
               rw[← Tr.ab hr,← k2]
               split
               · exact absurd rfl (this _ _ _ _ _ _ _ rfl)
               · rfl
             · split at hr
               · rw[dw,sw] at hr;exact hr
               · exact (Tr.ag hr).elim
         · exact (Tr.ag hr).elim
       · exact (Tr.ag hr).elim
 · exact (Tr.ag hr).elim

def hOr (h:Option Nat) (off:Nat):Nat :=
 match h with
 | none=>off
 | some h=>h
def mS (P:Program) (t:TypeId) (a:HV) (f:Nat):Tr HV :=
 match P.underlying t with
 | some (.struct fs)=>match fs[f]? with
   | some g=>match bR P g.type with
     | some (_+1)=>match a.1 with
       | .ptr d i v off=>.ok (.ptr d i v (Bc off a.2 g.offset),wx a.2 g.offset)
       | .ptrT s r off=>.ok (.ptrT s r (Bc off a.2 g.offset),wx a.2 g.offset)
       | _=>.bad
     | _=>.bad
   | none=>.bad
 | _=>.bad
theorem sU {P:Program} {t:TypeId} {a b:HV} {f:Nat} (hr:(mS P t a f).run=some b):iM P t a.1 f=some b.1:=by
 unfold mS at hr
 unfold iM
 split at hr
 · rename_i fs hu
   rw[hu]
   dsimp only
   split at hr
   · rename_i g hg
     rw[hg]
     dsimp only
     split at hr
     · rename_i n hs
       rw[hs]
       dsimp only
       split at hr
       · rename_i d i v off ha
         rw[ha,← Tr.ab hr];simp only[kU,qC]
       · rename_i s r off ha
         rw[ha,← Tr.ab hr];simp only[kU,qC]
       · exact (Tr.ag hr).elim
     · exact (Tr.ag hr).elim
   · exact (Tr.ag hr).elim
 · exact (Tr.ag hr).elim
def isLit (x:HV):Bool :=
 match x.2 with
 | some _=>true
 | none=>false
def CM (off:Nat) (ic:Bool) (i:Int) (z:Nat):Nat:=cond ic (Nat.add off (Nat.mul i.toNat z)) (al off i z)
theorem qB (off:Nat) (ic:Bool) (i:Int) (z:Nat):CM off ic i z=off+i.toNat*z:=by
 cases ic with
 | true=>rfl
 | false=>exact bT _ _ _
def zD (h:Option Nat) (off:Nat) (ic:Bool) (i:Int) (z:Nat):Option Nat :=
 cond ic (wx h (Nat.mul i.toNat z)) (some (hOr h off))
def Hl (P:Program) (t:TypeId) (a:HV) (ic:Bool) (i:Int):Tr HV :=
 match P.underlying t with
 | some (.array n e)=>match bR P e with
   | some z=>match a.1 with
     | .ptr d j v off=>.req (br i n) (.ok (.ptr d j v (CM off ic i z),zD a.2 off ic i z))
     | .ptrT s r off=>.req (br i n) (.ok (.ptrT s r (CM off ic i z),zD a.2 off ic i z))
     | _=>.bad
   | none=>.bad
 | some (.slice e)=>match bR P e with
   | some z=>match a.1 with
     | .slc d j v off sz len cap=>cond (Nat.beq z sz) (.req (br i len) (.ok (.ptr d j v (CM off ic i z),match cap with
       | some _=>zD none off ic i z
       | none=>some off))) .bad
     | .slcT s r sz len _=>cond (Nat.beq z sz) (.req (br i len) (.ok (.ptrT s r (CM 0 ic i z),zD none 0 ic i z))) .bad
     | _=>.bad
   | none=>.bad
 | _=>.bad
theorem Eu {P:Program} {t:TypeId} {a b:HV} {ic:Bool} {i:Int} (hr:(Hl P t a ic i).run=some b):iQ P t a.1 i=some b.1:=by
 unfold Hl at hr
 unfold iQ
 split at hr
 · rename_i n e hu
   split at hr
   · rename_i z hs
     split at hr
     · rename_i d j v off ha
       obtain ⟨hc,hr⟩:=Tr.aZ hr
       rw[dW,decide_eq_true_eq] at hc
       rw[hu,ha]
       dsimp only
       rw[hs]
       dsimp only
       rw[if_pos hc,← Tr.ab hr]
       simp only[kU,qB]
     · rename_i s r off ha
       obtain ⟨hc,hr⟩:=Tr.aZ hr
       rw[dW,decide_eq_true_eq] at hc
       rw[hu,ha]
       dsimp only
       rw[hs]
       dsimp only
       rw[if_pos hc,← Tr.ab hr]
       simp only[kU,qB]
     · exact (Tr.ag hr).elim
   · exact (Tr.ag hr).elim
 · rename_i e hu
   split at hr
   · rename_i z hs
     split at hr
     · rename_i d j v off sz len cap ha
       cases hb:Nat.beq z sz with
       | false=>rw[hb,cond_false] at hr;exact (Tr.ag hr).elim
       | true =>
         rw[hb,cond_true] at hr
         have hb:z=sz:=by simpa using hb
         subst hb
         obtain ⟨hc,hr⟩:=Tr.aZ hr
         rw[dW,decide_eq_true_eq] at hc
         rw[hu,ha]
         dsimp only
         rw[if_pos ⟨hc.1,hc.2,hs⟩,← Tr.ab hr]
         simp only[qB]
     · rename_i s r sz len full ha
       cases hb:Nat.beq z sz with
       | false=>rw[hb,cond_false] at hr;exact (Tr.ag hr).elim
       | true =>
         rw[hb,cond_true] at hr
         have hb:z=sz:=by simpa using hb
         subst hb
         obtain ⟨hc,hr⟩:=Tr.aZ hr
         rw[dW,decide_eq_true_eq] at hc
         rw[hu,ha]
         dsimp only
         rw[if_pos ⟨hc.1,hc.2,hs⟩,← Tr.ab hr]
         simp only[qB,Nat.zero_add]
     · exact (Tr.ag hr).elim
   · exact (Tr.ag hr).elim
 · exact (Tr.ag hr).elim

end
end Go.Eng
