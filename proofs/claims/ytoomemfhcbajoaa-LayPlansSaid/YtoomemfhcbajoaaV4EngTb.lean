/- The engine as a tree: frames with hints, rows, loads, stores, addresses. -/
import Derived.Test.YtoomemfhcbajoaaV4EngOrax2
set_option linter.unusedVariables false
set_option linter.unusedSimpArgs false
namespace Go.Eng
noncomputable section

abbrev HV:=AV×Option Nat
abbrev aO:=List (Nat×HV)
def strip (f:aO):ar:=List.rec (motive:=fun _=>ar) [] (fun p _ ih=>(p.1,p.2.1)::ih) f
theorem dc (x:Nat) (v:HV) (r:aO):strip ((x,v)::r)=(x,v.1)::strip r:=rfl
def lI (f:aO) (y:Nat):HV:=List.rec (motive:=fun _=>HV) (AV.undef,none) (fun p _ ih=>Bool.rec ih p.2 (Nat.beq p.1 y)) f
theorem fB:∀ (f:aO) (y:Nat),(lI f y).1=br (strip f) y
 | [],y=>rfl
 | (x,v)::r,y=>by
   have e:lI ((x,v)::r) y=Bool.rec (lI r y) v (Nat.beq x y):=rfl
   rw[e,dc,br]
   cases Nat.beq x y with
   | true=>rfl
   | false=>exact fB r y
def yL (f:aO) (y:Nat) (u:HV):aO:=List.rec (motive:=fun _=>aO) [(y,u)] (fun p r ih=>Bool.rec (motive:=fun _=>aO) (p::ih) (Bool.rec (motive:=fun _=>aO) ((y,u)::p::r) ((y,u)::r) (Nat.beq p.1 y)) (Nat.ble y p.1)) f
theorem yM:∀ (f:aO) (y:Nat) (u:HV),strip (yL f y u)=uC (strip f) y u.1
 | [],y,u=>rfl
 | (x,v)::r,y,u=>by
   have e:yL ((x,v)::r) y u=Bool.rec (motive:=fun _=>aO) ((x,v)::yL r y u) (Bool.rec (motive:=fun _=>aO) ((y,u)::(x,v)::r) ((y,u)::r) (Nat.beq x y)) (Nat.ble y x):=rfl
   rw[e,dc,uC,← yM r y u]
   cases Nat.ble y x with
   | false=>rfl
   | true=>cases Nat.beq x y<;>rfl
def gT (f:aO) (m:Nat):aO:=List.rec (motive:=fun _=>aO) [] (fun p _ ih=>Bool.rec (motive:=fun _=>aO) (p::ih) ih (Nat.beq (Nat.land (Nat.shiftRight m p.1) 1) 1)) f
theorem fb:∀ (f:aO) (m:Nat),strip (gT f m)=bO (strip f) m
 | [],m=>rfl
 | (x,v)::r,m=>by
   have e:gT ((x,v)::r) m=Bool.rec (motive:=fun _=>aO) ((x,v)::gT r m) (gT r m) (Nat.beq (Nat.land (Nat.shiftRight m x) 1) 1):=rfl
   have e2:bO ((x,v.1)::strip r) m=Bool.rec (motive:=fun _=>ar) ((x,v.1)::bO (strip r) m) (bO (strip r) m) (Nat.beq (Nat.land (Nat.shiftRight m x) 1) 1):=rfl
   rw[e,dc,e2,← fb r m]
   cases Nat.beq (Nat.land (Nat.shiftRight m x) 1) 1<;>rfl
def Pt (v:Value):Option Nat :=
 match v with
 | .int _ _=>some 1
 | .bool _=>some 1
 | _=>none
def b7 (fr:aO) (x:Operand):HV:=Operand.rec (motive:=fun _=>HV) (fun t=>lI fr t) (fun v=>(kO v,Pt v)) (fun _=>(.undef,none)) (fun f=>(.fn (.func f) [] [],none)) x
theorem aV (fr:aO) (x:Operand):(b7 fr x).1=bL (strip fr) x:=by
 cases x with
 | tmp t=>exact fB fr t
 | _=>rfl
def zK (fr:aO) (l:List Operand):List AV:=nY (fun x=>(b7 fr x).1) l
theorem tB (fr:aO):∀ l,zK fr l=jS (strip fr) l
 | []=>rfl
 | x::l=>by
   have e:zK fr (x::l)=(b7 fr x).1::zK fr l:=rfl
   rw[e,tB fr l,aV];rfl
def ri (nt:Nat) (fr:aO) (dst:Option Tmp) (v:HV):aO:=Option.rec (motive:=fun _=>aO) fr (fun d=>Bool.rec (motive:=fun _=>aO) fr (yL fr d v) (Nat.ble (Nat.succ d) nt)) dst
theorem mD (nt:Nat) (fr:aO) (dst:Option Tmp) (v:HV):strip (ri nt fr dst v)=dF nt (strip fr) dst v.1:=by
 rw[← pt]
 cases dst with
 | none=>rfl
 | some d =>
   have e:ri nt fr (some d) v=Bool.rec (motive:=fun _=>aO) fr (yL fr d v) (Nat.ble (Nat.succ d) nt):=rfl
   have e2:rj nt (strip fr) (some d) v.1=Bool.rec (motive:=fun _=>ar) (strip fr) (vu (strip fr) d v.1) (Nat.ble (Nat.succ d) nt):=rfl
   rw[e,e2,yt,← yM]
   cases Nat.ble (Nat.succ d) nt<;>rfl

def qT:List ah→Nat→Option AV
 | [],_=>none
 | .one v::r,j=>match j with
   | 0=>some v
   | j+1=>qT r j
 | .arr k z n::r,j=>cond (Nat.blt j n) (some (.int k (z j))) (qT r (Nat.sub j n))
theorem BS {a b:Nat} (h:Nat.blt a b=true):a<b:=by rwa [Nat.blt_eq] at h
theorem IP {a b:Nat} (h:Nat.blt a b=false):¬ a<b:=fun e=>by
 have:Nat.blt a b=true:=by rw[Nat.blt_eq];exact e
 rw[h] at this;cases this
theorem sM:∀ (l:List ah) (j:Nat) (v:AV),qT l j=some v→j<aA l∧getM l j=v
 | [],_,_,h=>by simp[qT] at h
 | .one u::r,0,v,h=>by
   simp only[qT,Option.some.injEq] at h
   exact ⟨by simp only[aA,aR];omega,h⟩
 | .one u::r,j+1,v,h=>by
   have:=sM r j v (by simpa[qT] using h)
   exact ⟨by simp only[aA,aR];omega,this.2⟩
 | .arr k z n::r,j,v,h=>by
   simp only[qT] at h
   simp only[aA,aR,getM]
   cases hb:Nat.blt j n with
   | true =>
     rw[hb,cond_true,Option.some.injEq] at h
     have:=BS hb
     exact ⟨by omega,by rw[if_pos this];exact h⟩
   | false =>
     rw[hb,cond_false] at h
     have hn:=IP hb
     have:=sM r (j-n) v h
     exact ⟨by omega,by rw[if_neg hn];exact this.2⟩
def Gx:List ah→Nat→Nat→Nat→Tr AV
 | [],_,_,_=>.bad
 | .one _::r,pos,h,off=>match h with
   | 0=>.bad
   | h+1=>Gx r (Nat.succ pos) h off
 | .arr k z n::r,pos,h,off=>cond (Nat.blt h n) (.req (ga off 1 pos n) (.ok (.int k (z (ub off pos))))) (Gx r (Nat.add pos n) (Nat.sub h n) off)
theorem xL:∀ (l:List ah) (pos h off:Nat) (v:AV),(Gx l pos h off).run=some v→pos≤off∧off-pos<aA l∧getM l (off-pos)=v
 | [],_,_,_,_,h=>(Tr.ae h).elim
 | .one _::r,pos,0,off,v,h=>(Tr.ae h).elim
 | .one u::r,pos,h'+1,off,v,h=>by
   obtain ⟨h1,h2,h3⟩:=xL r (pos+1) h' off v h
   refine ⟨by omega,by simp only[aA,aR];omega,?_⟩
   rw[show off-pos=(off-(pos+1))+1 by omega]
   exact h3
 | .arr k z n::r,pos,h',off,v,h=>by
   simp only[Gx] at h
   cases hb:Nat.blt h' n with
   | true =>
     rw[hb,cond_true] at h
     obtain ⟨hc,h⟩:=Tr.aS h
     rw[gV,decide_eq_true_eq] at hc
     have h:=Tr.ab h
     refine ⟨hc.1,by simp only[aA,aR];omega,?_⟩
     simp only[getM]
     rw[if_pos (by omega),← h,ly]
   | false =>
     rw[hb,cond_false] at h
     obtain ⟨h1,h2,h3⟩:=xL r (pos+n) (h'-n) off v h
     refine ⟨by omega,by simp only[aA,aR];omega,?_⟩
     simp only[getM]
     rw[if_neg (by omega),← h3]
     congr 1;omega
def CO (r:Row) (off:Nat) (h:Option Nat):Tr AV :=
 match r with
 | .F f n=>.req (bV off n) (.ok (f off))
 | .M l=>match l with
   | [.arr k z n]=>.req (bV off n) (.ok (.int k (z off)))
   | l=>match h with
     | none=>vV (qT l off)
     | some h=>Gx l 0 h off
 | .I k l=>match h with
   | none=>vV (jL (.I k l) off)
   | some _=>.req (bV off (Kr l)) (.ok (.int k (au l off)))
 | .G l=>match h with
   | none=>vV (jL (.G l) off)
   | some _=>.bad
theorem z7 {r:Row} {off:Nat} {v:AV} (h:jL r off=some v):off<r.len∧r.get off=v:=by
 rw[tK] at h
 split at h
 · rename_i h0;exact ⟨h0,Option.some.inj h⟩
 · simp at h
theorem zZ {r:Row} {off:Nat} {h:Option Nat} {v:AV} (hr:(CO r off h).run=some v):off<r.len∧r.get off=v:=by
 unfold CO at hr
 split at hr
 · obtain ⟨hc,hr⟩:=Tr.aS hr
   rw[gz,decide_eq_true_eq] at hc
   exact ⟨hc,Tr.ab hr⟩
 · rename_i l
   split at hr
   · rename_i k z n
     obtain ⟨hc,hr⟩:=Tr.aS hr
     rw[gz,decide_eq_true_eq] at hc
     refine ⟨by simp only[Row.len,aA,aR];omega,?_⟩
     simp only[Row.get,getM]
     rw[if_pos hc];exact Tr.ab hr
   · split at hr
     · rw[c6] at hr;exact sM _ _ _ hr
     · have:=xL _ _ _ _ _ hr
       rw[Nat.sub_zero] at this
       exact this.2
 · split at hr
   · rw[c6] at hr;exact z7 hr
   · obtain ⟨hc,hr⟩:=Tr.aS hr
     rw[gz,decide_eq_true_eq,HI] at hc
     refine ⟨hc,?_⟩
     rw[← Tr.ab hr,Cs];rfl
 · split at hr
   · rw[c6] at hr;exact z7 hr
   · exact (Tr.ae hr).elim
def DZ (off:Nat) (h:Option Nat) (j:Nat):Nat :=
 match h with
 | none=>Nat.add off j
 | some _=>match j with
   | 0=>off
   | j+1=>bN off (Nat.succ j)
theorem r4 (off:Nat) (h:Option Nat) (j:Nat):DZ off h j=off+j:=by
 unfold DZ
 split
 · rfl
 · split
   · rfl
   · rw[bF]
def yP (h:Option Nat) (j:Nat):Option Nat :=
 match h with
 | none=>none
 | some h=>some (Nat.add h j)
def CP (r:Row) (off:Nat) (h:Option Nat):Nat→Nat→Tr (List AV)
 | _,0=>.ok []
 | j,n+1=>(CO r (DZ off h j) (yP h j)).bind fun v=>(CP r off h (Nat.succ j) n).bind fun l=>.ok (v::l)
theorem z3 {r:Row} {off:Nat} {h:Option Nat}:∀ (n j:Nat) (l:List AV),(CP r off h j n).run=some l→l=dy r.get (off+j) n∧(n=0∨off+j+n≤r.len)
 | 0,j,l,hr=>⟨(Tr.ab hr).symm,.inl rfl⟩
 | n+1,j,l,hr=>by
   simp only[CP] at hr
   obtain ⟨v,h1,hr⟩:=Tr.bind_some hr
   obtain ⟨m,h2,hr⟩:=Tr.bind_some hr
   have hr:=Tr.ab hr
   obtain ⟨k1,k2⟩:=zZ h1
   obtain ⟨k3,k4⟩:=z3 n (j+1) m h2
   rw[r4] at k1 k2
   refine ⟨?_,.inr (by omega)⟩
   rw[← hr,dy,k2,k3,show off+(j+1)=off+j+1 by omega]
def Gw:List ah→Nat→Nat→Nat→Nat→Tr AV
 | [],_,_,_,_=>.bad
 | .one _::r,pos,h,off,n=>match h with
   | 0=>.bad
   | h+1=>Gw r (Nat.succ pos) h off n
 | .arr k z m::r,pos,h,off,n=>cond (Nat.blt h m) (.req (ga off n pos m) (.ok (.agg (.M [.arr k (dC z (ub off pos)) n])))) (Gw r (Nat.add pos m) (Nat.sub h m) off n)
theorem xK:∀ (l:List ah) (pos h off n:Nat) (v:AV),0<n→(Gw l pos h off n).run=some v→pos≤off∧off-pos+n≤aA l∧∃ k z,lx l (off-pos) n=some (k,z)∧v=.agg (.M [.arr k z n])
 | [],_,_,_,_,_,_,h=>(Tr.ae h).elim
 | .one _::r,pos,0,off,n,v,_,h=>(Tr.ae h).elim
 | .one u::r,pos,h'+1,off,n,v,hn,h=>by
   obtain ⟨h1,h2,k,z,h3,h4⟩:=xK r (pos+1) h' off n v hn h
   refine ⟨by omega,by simp only[aA,aR];omega,k,z,?_,h4⟩
   rw[show off-pos=(off-(pos+1))+1 by omega]
   exact h3
 | .arr k z m::r,pos,h',off,n,v,hn,h=>by
   simp only[Gw] at h
   cases hb:Nat.blt h' m with
   | true =>
     rw[hb,cond_true] at h
     obtain ⟨hc,h⟩:=Tr.aS h
     rw[gV,decide_eq_true_eq] at hc
     have h:=Tr.ab h
     refine ⟨hc.1,by simp only[aA,aR];omega,k,fun j=>z (off-pos+j),?_,?_⟩
     · simp only[lx];rw[if_pos (by omega)]
     · rw[← h,mJ,ly]
   | false =>
     rw[hb,cond_false] at h
     obtain ⟨h1,h2,k',z',h3,h4⟩:=xK r (pos+m) (h'-m) off n v hn h
     refine ⟨by omega,by simp only[aA,aR];omega,k',z',?_,h4⟩
     simp only[lx]
     rw[if_neg (by omega),if_pos (by omega),← h3]
     congr 1;omega
def Gv:List ah→Nat→Nat→Option Row
 | [],_,_=>none
 | .one _::r,o+1,n=>Gv r o n
 | .one _::_,0,_=>none
 | .arr k z m::r,o,n=>cond (Nat.ble (Nat.add o n) m) (some (.M [.arr k (cond (Nat.beq o 0) z (dC z o)) n])) (cond (Nat.ble m o) (Gv r (Nat.sub o m) n) none)
theorem xJ:∀ (l:List ah) (o n:Nat) (q:Row),Gv l o n=some q→∃ k z,lx l o n=some (k,z)∧q=.M [.arr k z n]
 | [],_,_,_,h=>by cases h
 | .one u::r,o+1,n,q,h=>xJ r o n q h
 | .one _::_,0,_,_,h=>by cases h
 | .arr k z m::r,o,n,q,h=>by
   simp only[Gv] at h
   cases hb:Nat.ble (Nat.add o n) m with
   | true =>
     rw[hb,cond_true] at h
     have hle:o+n≤m:=Nat.le_of_ble_eq_true hb
     simp only[Option.some.injEq] at h
     refine ⟨k,fun j=>z (o+j),by simp only[lx];rw[if_pos hle],?_⟩
     rw[← h]
     cases ho:Nat.beq o 0 with
     | true =>
       have:=Nat.eq_of_beq_eq_true ho
       subst this
       simp only[cond_true,Nat.zero_add]
     | false=>rw[cond_false,mJ]
   | false =>
     rw[hb,cond_false] at h
     cases hm:Nat.ble m o with
     | true =>
       rw[hm,cond_true] at h
       have hle:m≤o:=Nat.le_of_ble_eq_true hm
       have hnl:¬ (o+n≤m):=fun hc=>by
        have:Nat.ble (Nat.add o n) m=true:=by rw[Nat.ble_eq];exact hc
        rw[hb] at this;cases this
       obtain ⟨k',z',h1,h2⟩:=xJ r (o-m) n q h
       exact ⟨k',z',by simp only[lx];rw[if_neg hnl,if_pos hle];exact h1,h2⟩
     | false=>rw[hm,cond_false] at h;cases h
def z4 (P:Program) (t:TypeId) (r:Row) (off:Nat) (h:Option Nat):Tr AV :=
 match fz P t with
 | some false=>CO r off h
 | some true=>match bn P t with
   | some 0=>.bad
   | some (n+1)=>match r with
     | .M l=>cond (Nat.ble (Nat.succ n) 8) ((CP (.M l) off h 0 (Nat.succ n)).bind fun vs=>.ok (.agg (Row.ofList vs)))
       (match h with
       | none=>cond (Nat.ble (Nat.add off (Nat.succ n)) (aA l)) (cond (Nat.beq (aA l) (Nat.succ n)) (.ok (.agg ((Row.M l).cut off (Nat.succ n)))) (match Gv l off (Nat.succ n) with
         | some q=>.ok (.agg q)
         | none=>.ok (.agg ((Row.M l).cut off (Nat.succ n))))) .bad
       | some h=>cond (Nat.beq (aA l) (Nat.succ n)) .bad (Gw l 0 h off (Nat.succ n)))
     | .F f m=>.req (gH (bN off (Nat.succ n)) m) (.ok (.agg ((Row.F f m).cut off (Nat.succ n))))
     | .I k l=>match h with
       | none=>vV (qx P t (.I k l) off)
       | some _=>.bad
     | .G l=>match h with
       | none=>vV (qx P t (.G l) off)
       | some _=>.bad
   | none=>.bad
 | none=>.bad
theorem tJ       {P : Program} {t:TypeId} {r:Row} {off:Nat} {h:Option Nat} {v:AV} (hr:(z4 P t r off h).run=some v):iI P t r off=some v:=by
 unfold z4 at hr
 split at hr
 · rename_i ha
   obtain ⟨h1,h2⟩:=zZ hr
   unfold iI
   rw[ha]
   dsimp only
   rw[if_pos h1,h2]
 · rename_i ha
   split at hr
   · exact (Tr.ae hr).elim
   · rename_i n hs
     split at hr
     · rename_i l
       unfold iI
       rw[ha,hs]
       dsimp only
       cases hb:Nat.ble (Nat.succ n) 8 with
       | true =>
         rw[hb,cond_true] at hr
         obtain ⟨vs,h1,hr⟩:=Tr.bind_some hr
         have hr:=Tr.ab hr
         obtain ⟨k1,k2⟩:=z3 _ _ _ h1
         rw[if_pos (by omega),← hr,k1]
         simp only[Row.cut]
         rw[show Nat.ble (n+1) 8=true from hb,if_pos rfl,Nat.add_zero]
         rfl
       | false =>
         rw[hb,cond_false] at hr
         split at hr
         · cases hc : Nat.ble (Nat.add off (Nat.succ n)) (aA l) with
           | true =>
             rw[hc,cond_true] at hr
             rw[Nat.ble_eq] at hc
             rw[if_pos (show off+(n+1)≤(Row.M l).len from hc)]
             cases hq:Nat.beq (aA l) (Nat.succ n) with
             | true=>rw[hq,cond_true] at hr;rw[← Tr.ab hr]
             | false =>
               rw[hq,cond_false] at hr
               split at hr
               · rename_i q hseg
                 obtain ⟨k,z,h3,h4⟩:=xJ _ _ _ _ hseg
                 simp only[Row.cut]
                 rw[show Nat.ble (n+1) 8=false from hb,if_neg (by simp),show Nat.beq (aA l) (n+1)=false from hq,Bool.and_false,if_neg (by simp)]
                 have : Row.sub (.M l) off (n+1)=.M [.arr k z (n+1)]:=by
                  match l,h3,hq with
                  | [],h3,_=>simp[lx] at h3
                  | [.arr k' z' m],h3,hq =>
                    simp only[lx] at h3
                    split at h3
                    · simp only[nP] at h3
                      obtain ⟨rfl,rfl⟩:=h3
                      rfl
                    · split at h3<;>simp at h3
                  | .one u::r,h3,hq =>
                    simp only[Row.sub]
                    rw[show Nat.beq (aA (.one u::r)) (n+1)=false from hq,Bool.and_false,h3]
                    rfl
                  | .arr k' z' m::s::r,h3,hq =>
                    simp only[Row.sub]
                    rw[show Nat.beq (aA (.arr k' z' m::s::r)) (n+1)=false from hq,Bool.and_false,h3]
                    rfl
                 rw[this,← Tr.ab hr,h4]
               · rw[← Tr.ab hr]
           | false=>rw[hc,cond_false] at hr;exact (Tr.ae hr).elim
         · rename_i h
           cases hc:Nat.beq (aA l) (Nat.succ n) with
           | true=>rw[hc,cond_true] at hr;exact (Tr.ae hr).elim
           | false =>
             rw[hc,cond_false] at hr
             obtain ⟨h1,h2,k,z,h3,h4⟩:=xK _ _ _ _ _ _ (Nat.succ_pos n) hr
             rw[Nat.sub_zero] at h2 h3
             rw[if_pos (show off+(n+1)≤(Row.M l).len from h2)]
             simp only[Row.cut]
             rw[show Nat.ble (n+1) 8=false from hb,if_neg (by simp),show Nat.beq (aA l) (n+1)=false from hc,Bool.and_false,if_neg (by simp)]
             have : Row.sub (.M l) off (n+1)=.M [.arr k z (n+1)]:=by
              match l,h3,hc with
              | [],h3,_=>simp[lx] at h3
              | [.arr k' z' m],h3,hc =>
                simp only[lx] at h3
                split at h3
                · simp only[nP] at h3
                  obtain ⟨rfl,rfl⟩:=h3
                  rfl
                · split at h3<;>simp at h3
              | .one u::r,h3,hc =>
                simp only[Row.sub]
                rw[show Nat.beq (aA (.one u::r)) (n+1)=false from hc,Bool.and_false,h3]
                rfl
              | .arr k' z' m::s::r,h3,hc =>
                simp only[Row.sub]
                rw[show Nat.beq (aA (.arr k' z' m::s::r)) (n+1)=false from hc,Bool.and_false,h3]
                rfl
             rw[this,h4]
     · rename_i f m
       obtain ⟨hc,hr⟩:=Tr.aS hr
       rw[kZ,decide_eq_true_eq,bF] at hc
       unfold iI
       rw[ha,hs]
       dsimp only
       rw[if_pos (show off+(n+1)≤(Row.F f m).len from hc),← Tr.ab hr]
     · split at hr
       · rw[c6,qy] at hr;exact hr
       · exact (Tr.ae hr).elim
     · split at hr
       · rw[c6,qy] at hr;exact hr
       · exact (Tr.ae hr).elim
   · exact (Tr.ae hr).elim
 · exact (Tr.ae hr).elim

def xH (H:aa) (d i v:Nat) (h:Option Nat):Tr Row :=
 match h with
 | none=>vV (yN H d i v)
 | some _=>match eT H d i with
   | (ver,.row r)=>.req (b6 ver v) (.ok r)
   | _=>.bad
theorem lr {H:aa} {d i v:Nat} {h:Option Nat} {r:Row} (hr:(xH H d i v h).run=some r):dN H d i v=some r:=by
 unfold xH at hr
 split at hr
 · rw[c6,sO] at hr;exact hr
 · rw[iq] at hr
   split at hr
   · rename_i ver q hg
     obtain ⟨hc,hr2⟩:=Tr.aS hr
     rw[gr,decide_eq_true_eq] at hc
     subst hc
     unfold dN
     rw[hg]
     simp only[Nat.beq_refl,if_true]
     rw[Tr.ab hr2]
   · exact (Tr.ae hr).elim
def loadT (P:Program) (H:aa) (t:TypeId) (a:HV):Tr AV :=
 match a.1 with
 | .ptr d i v off=>(xH H d i v a.2).bind fun r=>(z4 P t r off a.2).bind fun x=>.ok (fJ d x)
 | .ptrT s r off=>(z4 P t r off a.2).bind fun x=>.ok (QQ s x)
 | _=>.bad
theorem zk {P:Program} {H:aa} {t:TypeId} {a:HV} {v:AV} (hr:(loadT P H t a).run=some v):mq P H t a.1=some v:=by
 unfold loadT at hr
 unfold mq
 split at hr
 · rename_i d i ver off ha
   obtain ⟨r,h1,hr⟩:=Tr.bind_some hr
   obtain ⟨x,h2,hr⟩:=Tr.bind_some hr
   rw[ha]
   dsimp only
   rw[lr h1]
   dsimp only
   rw[tJ h2,← Tr.ab hr];rfl
 · rename_i s r off ha
   obtain ⟨x,h2,hr⟩:=Tr.bind_some hr
   rw[ha]
   dsimp only
   rw[tJ h2,← Tr.ab hr];rfl
 · exact (Tr.ae hr).elim

def rv:List ah→Nat→AV→Option (List ah)
 | [],_,_=>none
 | .one u::r,j,v=>match j with
   | 0=>some (.one v::r)
   | j+1=>match rv r j v with
     | some r'=>some (.one u::r')
     | none=>none
 | .arr k z n::r,j,v=>cond (Nat.blt j n) (match v with
    | .int k' x=>cond (gM k' k) (some (.arr k (fT z j x) n::r)) none
    | _=>none)
   (match rv r (Nat.sub j n) v with
     | some r'=>some (.arr k z n::r')
     | none=>none)
theorem tU:∀ (l:List ah) (j:Nat) (v:AV) (l':List ah),rv l j v=some l'→j<aA l∧jV l j v=l'
 | [],_,_,_,h=>by simp[rv] at h
 | .one u::r,0,v,l',h=>by
   simp only[rv,Option.some.injEq] at h
   exact ⟨by simp only[aA,aR];omega,h⟩
 | .one u::r,j+1,v,l',h=>by
   simp only[rv] at h
   split at h
   · rename_i r' hr
     have:=tU r j v r' hr
     simp only[Option.some.injEq] at h
     exact ⟨by simp only[aA,aR];omega,by simp only[jV];rw[this.2];exact h⟩
   · simp at h
 | .arr k z n::r,j,v,l',h=>by
   simp only[rv] at h
   cases hb:Nat.blt j n with
   | true =>
     rw[hb,cond_true] at h
     have hj:=BS hb
     split at h
     · rename_i k' x
       rw[kj] at h
       split at h
       · rename_i hk
         simp only[Option.some.injEq] at h
         refine ⟨by simp only[aA,aR];omega,?_⟩
         simp only[jV]
         rw[if_pos hj,if_pos hk,← h,ib]
       · simp at h
     · simp at h
   | false =>
     rw[hb,cond_false] at h
     have hj:=IP hb
     split at h
     · rename_i r' hr
       have:=tU r (j-n) v r' hr
       simp only[Option.some.injEq] at h
       exact ⟨by simp only[aA,aR];omega,by simp only[jV];rw[if_neg hj,this.2];exact h⟩
     · simp at h
def Ee:List ah→Nat→Nat→Nat→AV→Tr (List ah)
 | [],_,_,_,_=>.bad
 | .one u::r,pos,h,off,v=>match h with
   | 0=>.bad
   | h+1=>(Ee r (Nat.succ pos) h off v).bind fun r'=>.ok (.one u::r')
 | .arr k z n::r,pos,h,off,v=>cond (Nat.blt h n) (match v with
    | .int k' x=>cond (gM k' k) (.req (ga off 1 pos n) (.ok (.arr k (fT z (ub off pos) x) n::r))) .bad
    | _=>.bad)
   ((Ee r (Nat.add pos n) (Nat.sub h n) off v).bind fun r'=>.ok (.arr k z n::r'))
theorem xM:∀ (l:List ah) (pos h off:Nat) (v:AV) (l':List ah),(Ee l pos h off v).run=some l'→pos≤off∧off-pos<aA l∧jV l (off-pos) v=l'
 | [],_,_,_,_,_,h=>(Tr.ae h).elim
 | .one _::r,pos,0,off,v,l',h=>(Tr.ae h).elim
 | .one u::r,pos,h'+1,off,v,l',h=>by
   simp only[Ee] at h
   obtain ⟨r',hr,h⟩:=Tr.bind_some h
   obtain ⟨h1,h2,h3⟩:=xM r (pos+1) h' off v r' hr
   refine ⟨by omega,by simp only[aA,aR];omega,?_⟩
   rw[show off-pos=(off-(pos+1))+1 by omega,← Tr.ab h,← h3]
   rfl
 | .arr k z n::r,pos,h',off,v,l',h=>by
   simp only[Ee] at h
   cases hb:Nat.blt h' n with
   | true =>
     rw[hb,cond_true] at h
     split at h
     · rename_i k' x
       rw[kj] at h
       split at h
       · rename_i hk
         obtain ⟨hc,h⟩:=Tr.aS h
         rw[gV,decide_eq_true_eq] at hc
         refine ⟨hc.1,by simp only[aA,aR];omega,?_⟩
         simp only[jV]
         rw[if_pos (by omega),if_pos hk,← Tr.ab h,ib,ly]
       · exact (Tr.ae h).elim
     · exact (Tr.ae h).elim
   | false =>
     rw[hb,cond_false] at h
     obtain ⟨r',hr,h⟩:=Tr.bind_some h
     obtain ⟨h1,h2,h3⟩:=xM r (pos+n) (h'-n) off v r' hr
     refine ⟨by omega,by simp only[aA,aR];omega,?_⟩
     simp only[jV]
     rw[if_neg (by omega),← Tr.ab h,← h3,show off-pos-n=off-(pos+n) by omega]
def KX (l:List ah) (off:Nat) (h:Option Nat) (v:AV):Tr (List ah) :=
 match l with
 | [.arr k z n]=>match v with
   | .int k' x=>cond (gM k' k) (.req (bV off n) (.ok [.arr k (fT z off x) n])) .bad
   | _=>.bad
 | l=>match h with
   | none=>vV (rv l off v)
   | some h=>Ee l 0 h off v
theorem Iu {l l':List ah} {off:Nat} {h:Option Nat} {v:AV} (hr:(KX l off h v).run=some l'):off<aA l∧jV l off v=l':=by
 unfold KX at hr
 split at hr
 · rename_i k z n
   split at hr
   · rename_i k' x
     rw[kj] at hr
     split at hr
     · rename_i hk
       obtain ⟨hc,hr⟩:=Tr.aS hr
       rw[gz,decide_eq_true_eq] at hc
       refine ⟨by simp only[aA,aR];omega,?_⟩
       simp only[jV]
       rw[if_pos hc,if_pos hk,← Tr.ab hr,ib]
     · exact (Tr.ae hr).elim
   · exact (Tr.ae hr).elim
 · split at hr
   · rw[c6] at hr;exact tU _ _ _ _ hr
   · have:=xM _ _ _ _ _ _ hr
     rw[Nat.sub_zero] at this
     exact this.2
def Ae (off:Nat) (h:Option Nat):List AV→Nat→List ah→Tr (List ah)
 | [],_,l=>.ok l
 | v::vs,j,l=>(KX l (DZ off h j) (yP h j) v).bind fun l'=>Ae off h vs (Nat.succ j) l'
theorem tT {off:Nat} {h:Option Nat}:∀ (vs:List AV) (j:Nat) (l l':List ah),(Ae off h vs j l).run=some l'→(vs=[]∨off+j+vs.length≤aA l)∧Row.cI (.M l) (off+j) vs=.M l'
 | [],j,l,l',h=>⟨.inl rfl,by rw[Tr.ab h];rfl⟩
 | v :: vs,j,l,l',h=>by
   simp only[Ae] at h
   obtain ⟨l1,h1,h⟩:=Tr.bind_some h
   obtain ⟨k1,k2⟩:=Iu h1
   rw[r4] at k1 k2
   obtain ⟨k3,k4⟩:=tT vs (j+1) l1 l' h
   have hl:aA l1=aA l:=by rw[← k2,mW]
   refine ⟨.inr ?_,?_⟩
   · rcases k3 with rfl | k3
     · simp only[List.length_cons,List.length_nil];omega
     · simp only[List.length_cons];omega
   · simp only[Row.cI,Row.set,k2]
     exact k4
def Gh (l:List ah) (off:Nat) (h:Option Nat) (q:Row):Tr Row :=
 match l,q with
 | [.arr k z m],.M [.arr k' z' n]=>cond (gM k' k) (.req (ga off n 0 m) (.ok (.M [.arr k (dT z off z' n) m]))) .bad
 | l,q=>cond (Nat.ble 9 (iJ q)) (match h with
    | none=>cond (Nat.ble (Nat.add off (iJ q)) (aA l)) (.ok (xB l off q)) .bad
    | some _=>.bad)
   (match lB q with
     | []=>.bad
     | v::vs=>(Ae off h (v::vs) 0 l).bind fun l'=>.ok (.M l'))
theorem xC {l:List ah} {off:Nat} {h:Option Nat} {q r:Row} (hr:(Gh l off h q).run=some r):off+q.len≤aA l∧jT (.M l) off q=r:=by
 unfold Gh at hr
 split at hr
 · rename_i k z m k' z' n
   rw[kj] at hr
   split at hr
   · rename_i hk
     obtain ⟨hc,hr⟩:=Tr.aS hr
     rw[gV,decide_eq_true_eq] at hc
     refine ⟨by simp only[Row.len,aA,aR];omega,?_⟩
     simp only[jT]
     rw[if_pos hk,← Tr.ab hr,Hc]
   · exact (Tr.ae hr).elim
 · rename_i hne
   have hA:jT (.M l) off q=xB l off q:=by
    simp only[jT]
    split
    · rename_i k z m
      split
      · rename_i k' z' n
        exact (hne _ _ _ _ _ _ rfl rfl).elim
      · rfl
    · rfl
   rw[hA]
   rw[fE] at hr
   cases hb:Nat.ble 9 q.len with
   | true =>
     rw[hb,cond_true] at hr
     split at hr
     · cases hc:Nat.ble (Nat.add off q.len) (aA l) with
       | true =>
         rw[hc,cond_true] at hr
         rw[Nat.ble_eq] at hc
         exact ⟨hc,Tr.ab hr⟩
       | false=>rw[hc,cond_false] at hr;exact (Tr.ae hr).elim
     · exact (Tr.ae hr).elim
   | false =>
     rw[hb,cond_false,oh] at hr
     have hl:=Row.bm q
     split at hr
     · exact (Tr.ae hr).elim
     · rename_i v vs hq
       obtain ⟨l1,h1,hr⟩:=Tr.bind_some hr
       obtain ⟨k1,k2⟩:=tT _ _ _ _ h1
       rw[hq] at hl
       refine ⟨?_,?_⟩
       · rcases k1 with k1 | k1
         · simp at k1
         · omega
       · unfold xB
         rw[hb,if_neg (by simp),hq,← Tr.ab hr,← k2];rfl
def KG (d:Nat) (x:AV):Bool :=
 match d with
 | 0=>false
 | _+1=>match x with
   | .slc 0 _ _ _ _ _ _=>true
   | _=>false
def storeT (P:Program) (H:aa) (t:TypeId) (a:HV) (x:AV):Tr Delta :=
 match a.1 with
 | .ptr d i v off=>cond (KG d x) (match a.2 with | none=>vV (pA P H t a.1 x) | some _=>.bad)
   (cond (fL H d) .bad ((xH H d i v a.2).bind fun r=>match bn P t with
     | some n=>match x.row with
       | some q=>cond (Nat.beq (iJ q) n) (match r with
         | .M l=>(Gh l off a.2 (lG d q)).bind fun r'=>.ok (.set d i (v,.row r'))
         | _=>match a.2 with | none=>vV (pA P H t a.1 x) | some _=>.bad) .bad
       | none=>.bad
     | none=>.bad))
 | _=>.bad
theorem Ek {P:Program} {H:aa} {t:TypeId} {a:HV} {x:AV} {δ:Delta} (hr:(storeT P H t a x).run=some δ):gE P H t a.1 x=some δ:=by
 unfold storeT at hr
 split at hr
 · rename_i d i v off ha
   cases ho:KG d x with
   | true =>
     rw[ho,cond_true] at hr
     split at hr
     · rw[c6,og] at hr;exact hr
     · exact (Tr.ae hr).elim
   | false =>
     rw[ho,cond_false,eE] at hr
     cases hl:aw H d with
     | true=>rw[hl,cond_true] at hr;exact (Tr.ae hr).elim
     | false =>
       rw[hl,cond_false] at hr
       obtain ⟨r,h1,hr⟩:=Tr.bind_some hr
       split at hr
       · rename_i n hs
         split at hr
         · rename_i q hq
           rw[fE] at hr
           cases hb:Nat.beq q.len n with
           | false=>rw[hb,cond_false] at hr;exact (Tr.ae hr).elim
           | true =>
             rw[hb,cond_true] at hr
             have hb:q.len=n:=by simpa using hb
             split at hr
             · rename_i l
               obtain ⟨r',h2,hr⟩:=Tr.bind_some hr
               obtain ⟨k1,k2⟩:=xC h2
               rw[fF] at k1
               rw[ha]
               unfold gE
               dsimp only
               rw[hl,if_neg (by simp),lr h1,hs,hq]
               dsimp only
               rw[if_pos ⟨hb,by show off+n≤aA l;omega⟩]
               have:∀ (d':Nat) (j w o sz len:Nat) (cap:Option Nat),d=d'+1→x≠.slc 0 j w o sz len cap:=by
                rintro d' j w o sz len cap rfl rfl
                simp[KG] at ho
               rw[← Tr.ab hr,← k2]
               split
               · exact absurd rfl (this _ _ _ _ _ _ _ rfl)
               · rfl
             · split at hr
               · rw[c6,og] at hr;exact hr
               · exact (Tr.ae hr).elim
         · exact (Tr.ae hr).elim
       · exact (Tr.ae hr).elim
 · exact (Tr.ae hr).elim

def hOr (h:Option Nat) (off:Nat):Nat :=
 match h with
 | none=>off
 | some h=>h
def nK (P:Program) (t:TypeId) (a:HV) (f:Nat):Tr HV :=
 match P.underlying t with
 | some (.struct fs)=>match fs[f]? with
   | some g=>match bn P g.type with
     | some (_+1)=>match a.1 with
       | .ptr d i v off=>.ok (.ptr d i v (DZ off a.2 g.offset),yP a.2 g.offset)
       | .ptrT s r off=>.ok (.ptrT s r (DZ off a.2 g.offset),yP a.2 g.offset)
       | _=>.bad
     | _=>.bad
   | none=>.bad
 | _=>.bad
theorem uD {P:Program} {t:TypeId} {a b:HV} {f:Nat} (hr:(nK P t a f).run=some b):gS P t a.1 f=some b.1:=by
 unfold nK at hr
 unfold gS
 split at hr
 · rename_i fs hu
   rw[hu]
   dsimp only
   split at hr
   · rename_i g hg
     rw[hg]
     dsimp only
     split at hr
     · rename_i n hs
       rw[hs]
       dsimp only
       split at hr
       · rename_i d i v off ha
         rw[ha,← Tr.ab hr];simp only[kH,r4]
       · rename_i s r off ha
         rw[ha,← Tr.ab hr];simp only[kH,r4]
       · exact (Tr.ae hr).elim
     · exact (Tr.ae hr).elim
   · exact (Tr.ae hr).elim
 · exact (Tr.ae hr).elim
def isLit (x:HV):Bool :=
 match x.2 with
 | some _=>true
 | none=>false
def F8 (off:Nat) (ic:Bool) (i:Int) (z:Nat):Nat:=cond ic (Nat.add off (Nat.mul i.toNat z)) (an off i z)
theorem rZ (off:Nat) (ic:Bool) (i:Int) (z:Nat):F8 off ic i z=off+i.toNat*z:=by
 cases ic with
 | true=>rfl
 | false=>exact kX _ _ _
def Cd (h:Option Nat) (off:Nat) (ic:Bool) (i:Int) (z:Nat):Option Nat :=
 cond ic (yP h (Nat.mul i.toNat z)) (some (hOr h off))
def Kd (P:Program) (t:TypeId) (a:HV) (ic:Bool) (i:Int):Tr HV :=
 match P.underlying t with
 | some (.array n e)=>match bn P e with
   | some z=>match a.1 with
     | .ptr d j v off=>.req (b8 i n) (.ok (.ptr d j v (F8 off ic i z),Cd a.2 off ic i z))
     | .ptrT s r off=>.req (b8 i n) (.ok (.ptrT s r (F8 off ic i z),Cd a.2 off ic i z))
     | _=>.bad
   | none=>.bad
 | some (.slice e)=>match bn P e with
   | some z=>match a.1 with
     | .slc d j v off sz len cap=>cond (Nat.beq z sz) (.req (b8 i len) (.ok (.ptr d j v (F8 off ic i z),match cap with
       | some _=>Cd none off ic i z
       | none=>some off))) .bad
     | .slcT s r sz len _=>cond (Nat.beq z sz) (.req (b8 i len) (.ok (.ptrT s r (F8 0 ic i z),Cd none 0 ic i z))) .bad
     | _=>.bad
   | none=>.bad
 | _=>.bad
def OC (P:Program) (t:TypeId) (x:AV) (ic:Bool) (i:Int):Tr AV :=
 cond ic (vV (qi P t x i)) (match P.underlying t with
  | some (.array n e)=>match x with
    | .agg r=>match bn P e with
      | some z=>.req (b8 i n) (z4 P e r (an 0 i z) (some 0))
      | none=>.bad
    | _=>.bad
  | _=>.bad)
theorem Kk {P:Program} {t:TypeId} {x v:AV} {ic:Bool} {i:Int} (hr:(OC P t x ic i).run=some v):qi P t x i=some v:=by
 unfold OC at hr
 cases ic with
 | true=>rw[cond_true,c6] at hr;exact hr
 | false =>
   rw[cond_false] at hr
   split at hr
   · rename_i n e hu
     split at hr
     · split at hr
       · rename_i z hs
         obtain ⟨hc,hr⟩:=Tr.aS hr
         rw[qh,decide_eq_true_eq] at hc
         have h:=tJ hr
         rw[kX,Nat.zero_add] at h
         unfold qi
         rw[hu]
         dsimp only
         rw[hs]
         dsimp only
         rw[if_pos hc,h]
       · exact (Tr.ae hr).elim
     · exact (Tr.ae hr).elim
   · exact (Tr.ae hr).elim
theorem Hu {P:Program} {t:TypeId} {a b:HV} {ic:Bool} {i:Int} (hr:(Kd P t a ic i).run=some b):fO P t a.1 i=some b.1:=by
 unfold Kd at hr
 unfold fO
 split at hr
 · rename_i n e hu
   split at hr
   · rename_i z hs
     split at hr
     · rename_i d j v off ha
       obtain ⟨hc,hr⟩:=Tr.aS hr
       rw[qh,decide_eq_true_eq] at hc
       rw[hu,ha]
       dsimp only
       rw[hs]
       dsimp only
       rw[if_pos hc,← Tr.ab hr]
       simp only[kH,rZ]
     · rename_i s r off ha
       obtain ⟨hc,hr⟩:=Tr.aS hr
       rw[qh,decide_eq_true_eq] at hc
       rw[hu,ha]
       dsimp only
       rw[hs]
       dsimp only
       rw[if_pos hc,← Tr.ab hr]
       simp only[kH,rZ]
     · exact (Tr.ae hr).elim
   · exact (Tr.ae hr).elim
 · rename_i e hu
   split at hr
   · rename_i z hs
     split at hr
     · rename_i d j v off sz len cap ha
       cases hb:Nat.beq z sz with
       | false=>rw[hb,cond_false] at hr;exact (Tr.ae hr).elim
       | true =>
         rw[hb,cond_true] at hr
         have hb:z=sz:=by simpa using hb
         subst hb
         obtain ⟨hc,hr⟩:=Tr.aS hr
         rw[qh,decide_eq_true_eq] at hc
         rw[hu,ha]
         dsimp only
         rw[if_pos ⟨hc.1,hc.2,hs⟩,← Tr.ab hr]
         simp only[rZ]
     · rename_i s r sz len full ha
       cases hb:Nat.beq z sz with
       | false=>rw[hb,cond_false] at hr;exact (Tr.ae hr).elim
       | true =>
         rw[hb,cond_true] at hr
         have hb:z=sz:=by simpa using hb
         subst hb
         obtain ⟨hc,hr⟩:=Tr.aS hr
         rw[qh,decide_eq_true_eq] at hc
         rw[hu,ha]
         dsimp only
         rw[if_pos ⟨hc.1,hc.2,hs⟩,← Tr.ab hr]
         simp only[rZ,Nat.zero_add]
     · exact (Tr.ae hr).elim
   · exact (Tr.ae hr).elim
 · exact (Tr.ae hr).elim

end
end Go.Eng
