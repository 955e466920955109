/- The engine as a tree: frames with hints, rows, loads, stores, addresses. -/
import Derived.Test.YtigmfpmabgekoaaGreatV6EngOrax2
set_option linter.unusedVariables false
set_option linter.unusedSimpArgs false
namespace Go.Eng
noncomputable section

abbrev HV:=AV×Option Nat
abbrev aK:=List (Nat×HV)
def strip (f:aK):au:=List.rec (motive:=fun _=>au) [] (fun p _ ih=>(p.1,p.2.1)::ih) f
theorem cW (x:Nat) (v:HV) (r:aK):strip ((x,v)::r)=(x,v.1)::strip r:=rfl
def kX (f:aK) (y:Nat):HV:=List.rec (motive:=fun _=>HV) (AV.undef,none) (fun p _ ih=>Bool.rec ih p.2 (Nat.beq p.1 y)) f
theorem eV:∀ (f:aK) (y:Nat),(kX f y).1=bh (strip f) y
 | [],y=>rfl
 | (x,v)::r,y=>by
   have e:kX ((x,v)::r) y=Bool.rec (kX r y) v (Nat.beq x y):=rfl
   rw[e,cW,bh]
   cases Nat.beq x y with
   | true=>rfl
   | false=>exact eV r y
def xj (f:aK) (y:Nat) (u:HV):aK:=List.rec (motive:=fun _=>aK) [(y,u)] (fun p r ih=>Bool.rec (motive:=fun _=>aK) (p::ih) (Bool.rec (motive:=fun _=>aK) ((y,u)::p::r) ((y,u)::r) (Nat.beq p.1 y)) (Nat.ble y p.1)) f
theorem xk:∀ (f:aK) (y:Nat) (u:HV),strip (xj f y u)=tB (strip f) y u.1
 | [],y,u=>rfl
 | (x,v)::r,y,u=>by
   have e:xj ((x,v)::r) y u=Bool.rec (motive:=fun _=>aK) ((x,v)::xj r y u) (Bool.rec (motive:=fun _=>aK) ((y,u)::(x,v)::r) ((y,u)::r) (Nat.beq x y)) (Nat.ble y x):=rfl
   rw[e,cW,tB,← xk r y u]
   cases Nat.ble y x with
   | false=>rfl
   | true=>cases Nat.beq x y<;>rfl
def gf (f:aK) (m:Nat):aK:=List.rec (motive:=fun _=>aK) [] (fun p _ ih=>Bool.rec (motive:=fun _=>aK) (p::ih) ih (Nat.beq (Nat.land (Nat.shiftRight m p.1) 1) 1)) f
theorem eE:∀ (f:aK) (m:Nat),strip (gf f m)=bF (strip f) m
 | [],m=>rfl
 | (x,v)::r,m=>by
   have e:gf ((x,v)::r) m=Bool.rec (motive:=fun _=>aK) ((x,v)::gf r m) (gf r m) (Nat.beq (Nat.land (Nat.shiftRight m x) 1) 1):=rfl
   have e2:bF ((x,v.1)::strip r) m=Bool.rec (motive:=fun _=>au) ((x,v.1)::bF (strip r) m) (bF (strip r) m) (Nat.beq (Nat.land (Nat.shiftRight m x) 1) 1):=rfl
   rw[e,cW,e2,← eE r m]
   cases Nat.beq (Nat.land (Nat.shiftRight m x) 1) 1<;>rfl
def MT (v:Value):Option Nat :=
 match v with
 | .int _ _=>some 1
 | .bool _=>some 1
 | _=>none
def bP (fr:aK) (x:Operand):HV:=Operand.rec (motive:=fun _=>HV) (fun t=>kX fr t) (fun v=>(ki v,MT v)) (fun _=>(.undef,none)) (fun f=>(.fn (.func f) [] [],none)) x
theorem aQ (fr:aK) (x:Operand):(bP fr x).1=bB (strip fr) x:=by
 cases x with
 | tmp t=>exact eV fr t
 | _=>rfl
def yc (fr:aK) (l:List Operand):List AV:=ni (fun x=>(bP fr x).1) l
theorem sL (fr:aK):∀ l,yc fr l=jr (strip fr) l
 | []=>rfl
 | x::l=>by
   have e:yc fr (x::l)=(bP fr x).1::yc fr l:=rfl
   rw[e,sL fr l,aQ];rfl
def qC (nt:Nat) (fr:aK) (dst:Option Tmp) (v:HV):aK:=Option.rec (motive:=fun _=>aK) fr (fun d=>Bool.rec (motive:=fun _=>aK) fr (xj fr d v) (Nat.ble (Nat.succ d) nt)) dst
theorem lY (nt:Nat) (fr:aK) (dst:Option Tmp) (v:HV):strip (qC nt fr dst v)=c9 nt (strip fr) dst v.1:=by
 rw[← oO]
 cases dst with
 | none=>rfl
 | some d =>
   have e:qC nt fr (some d) v=Bool.rec (motive:=fun _=>aK) fr (xj fr d v) (Nat.ble (Nat.succ d) nt):=rfl
   have e2:qD nt (strip fr) (some d) v.1=Bool.rec (motive:=fun _=>au) (strip fr) (uj (strip fr) d v.1) (Nat.ble (Nat.succ d) nt):=rfl
   rw[e,e2,wT,← xk]
   cases Nat.ble (Nat.succ d) nt<;>rfl

def qm:List aW→Nat→Option AV
 | [],_=>none
 | .one v::r,j=>match j with
   | 0=>some v
   | j+1=>qm r j
 | .arr k z n::r,j=>cond (Nat.blt j n) (some (.int k (z j))) (qm r (Nat.sub j n))
theorem Am {a b:Nat} (h:Nat.blt a b=true):a<b:=by rwa [Nat.blt_eq] at h
theorem G0 {a b:Nat} (h:Nat.blt a b=false):¬ a<b:=fun e=>by
 have:Nat.blt a b=true:=by rw[Nat.blt_eq];exact e
 rw[h] at this;cases this
theorem sf:∀ (l:List aW) (j:Nat) (v:AV),qm l j=some v→j<ay l∧getM l j=v
 | [],_,_,h=>by simp[qm] at h
 | .one u::r,0,v,h=>by
   simp only[qm,Option.some.injEq] at h
   exact ⟨by simp only[ay,aG];omega,h⟩
 | .one u::r,j+1,v,h=>by
   have:=sf r j v (by simpa[qm] using h)
   exact ⟨by simp only[ay,aG];omega,this.2⟩
 | .arr k z n::r,j,v,h=>by
   simp only[qm] at h
   simp only[ay,aG,getM]
   cases hb:Nat.blt j n with
   | true =>
     rw[hb,cond_true,Option.some.injEq] at h
     have:=Am hb
     exact ⟨by omega,by rw[if_pos this];exact h⟩
   | false =>
     rw[hb,cond_false] at h
     have hn:=G0 hb
     have:=sf r (j-n) v h
     exact ⟨by omega,by rw[if_neg hn];exact this.2⟩
def Ep:List aW→Nat→Nat→Nat→Tr AV
 | [],_,_,_=>.bad
 | .one _::r,pos,h,off=>match h with
   | 0=>.bad
   | h+1=>Ep r (Nat.succ pos) h off
 | .arr k z n::r,pos,h,off=>cond (Nat.blt h n) (.req (qu off 1 pos n) (.ok (.int k (z (p8 off pos))))) (Ep r (Nat.add pos n) (Nat.sub h n) off)
theorem wh:∀ (l:List aW) (pos h off:Nat) (v:AV),(Ep l pos h off).run=some v→pos≤off∧off-pos<ay l∧getM l (off-pos)=v
 | [],_,_,_,_,h=>(Tr.ae h).elim
 | .one _::r,pos,0,off,v,h=>(Tr.ae h).elim
 | .one u::r,pos,h'+1,off,v,h=>by
   obtain ⟨h1,h2,h3⟩:=wh r (pos+1) h' off v h
   refine ⟨by omega,by simp only[ay,aG];omega,?_⟩
   rw[show off-pos=(off-(pos+1))+1 by omega]
   exact h3
 | .arr k z n::r,pos,h',off,v,h=>by
   simp only[Ep] at h
   cases hb:Nat.blt h' n with
   | true =>
     rw[hb,cond_true] at h
     obtain ⟨hc,h⟩:=Tr.aI h
     rw[jk,decide_eq_true_eq] at hc
     have h:=Tr.ab h
     refine ⟨hc.1,by simp only[ay,aG];omega,?_⟩
     simp only[getM]
     rw[if_pos (by omega),← h,kN]
   | false =>
     rw[hb,cond_false] at h
     obtain ⟨h1,h2,h3⟩:=wh r (pos+n) (h'-n) off v h
     refine ⟨by omega,by simp only[ay,aG];omega,?_⟩
     simp only[getM]
     rw[if_neg (by omega),← h3]
     congr 1;omega
def A3 (r:Row) (off:Nat) (h:Option Nat):Tr AV :=
 match r with
 | .F f n=>.req (bX off n) (.ok (f off))
 | .M l=>match l with
   | [.arr k z n]=>.req (bX off n) (.ok (.int k (z off)))
   | l=>match h with
     | none=>uN (qm l off)
     | some h=>Ep l 0 h off
 | .I k l=>match h with
   | none=>uN (jd (.I k l) off)
   | some _=>.req (bX off (Il l)) (.ok (.int k (aL l off)))
 | .G l=>match h with
   | none=>uN (jd (.G l) off)
   | some _=>.bad
theorem yv {r:Row} {off:Nat} {v:AV} (h:jd r off=some v):off<r.len∧r.get off=v:=by
 rw[sW] at h
 split at h
 · rename_i h0;exact ⟨h0,Option.some.inj h⟩
 · simp at h
theorem yp {r:Row} {off:Nat} {h:Option Nat} {v:AV} (hr:(A3 r off h).run=some v):off<r.len∧r.get off=v:=by
 unfold A3 at hr
 split at hr
 · obtain ⟨hc,hr⟩:=Tr.aI hr
   rw[gQ,decide_eq_true_eq] at hc
   exact ⟨hc,Tr.ab hr⟩
 · rename_i l
   split at hr
   · rename_i k z n
     obtain ⟨hc,hr⟩:=Tr.aI hr
     rw[gQ,decide_eq_true_eq] at hc
     refine ⟨by simp only[Row.len,ay,aG];omega,?_⟩
     simp only[Row.get,getM]
     rw[if_pos hc];exact Tr.ab hr
   · split at hr
     · rw[cN] at hr;exact sf _ _ _ hr
     · have:=wh _ _ _ _ _ hr
       rw[Nat.sub_zero] at this
       exact this.2
 · split at hr
   · rw[cN] at hr;exact yv hr
   · obtain ⟨hc,hr⟩:=Tr.aI hr
     rw[gQ,decide_eq_true_eq,FH] at hc
     refine ⟨hc,?_⟩
     rw[← Tr.ab hr,gx];rfl
 · split at hr
   · rw[cN] at hr;exact yv hr
   · exact (Tr.ae hr).elim
def Cc (off:Nat) (h:Option Nat) (j:Nat):Nat :=
 match h with
 | none=>Nat.add off j
 | some _=>match j with
   | 0=>off
   | j+1=>aq off (Nat.succ j)
theorem rj (off:Nat) (h:Option Nat) (j:Nat):Cc off h j=off+j:=by
 unfold Cc
 split
 · rfl
 · split
   · rfl
   · rw[ba]
def xo (h:Option Nat) (j:Nat):Option Nat :=
 match h with
 | none=>none
 | some h=>some (Nat.add h j)
def A4 (r:Row) (off:Nat) (h:Option Nat):Nat→Nat→Tr (List AV)
 | _,0=>.ok []
 | j,n+1=>(A3 r (Cc off h j) (xo h j)).bind fun v=>(A4 r off h (Nat.succ j) n).bind fun l=>.ok (v::l)
theorem yq {r:Row} {off:Nat} {h:Option Nat}:∀ (n j:Nat) (l:List AV),(A4 r off h j n).run=some l→l=dg r.get (off+j) n∧(n=0∨off+j+n≤r.len)
 | 0,j,l,hr=>⟨(Tr.ab hr).symm,.inl rfl⟩
 | n+1,j,l,hr=>by
   simp only[A4] at hr
   obtain ⟨v,h1,hr⟩:=Tr.bind_some hr
   obtain ⟨m,h2,hr⟩:=Tr.bind_some hr
   have hr:=Tr.ab hr
   obtain ⟨k1,k2⟩:=yp h1
   obtain ⟨k3,k4⟩:=yq n (j+1) m h2
   rw[rj] at k1 k2
   refine ⟨?_,.inr (by omega)⟩
   rw[← hr,dg,k2,k3,show off+(j+1)=off+j+1 by omega]
def Eo:List aW→Nat→Nat→Nat→Nat→Tr AV
 | [],_,_,_,_=>.bad
 | .one _::r,pos,h,off,n=>match h with
   | 0=>.bad
   | h+1=>Eo r (Nat.succ pos) h off n
 | .arr k z m::r,pos,h,off,n=>cond (Nat.blt h m) (.req (qu off n pos m) (.ok (.agg (.M [.arr k (qL z (p8 off pos)) n])))) (Eo r (Nat.add pos m) (Nat.sub h m) off n)
theorem wg:∀ (l:List aW) (pos h off n:Nat) (v:AV),0<n→(Eo l pos h off n).run=some v→pos≤off∧off-pos+n≤ay l∧∃ k z,kM l (off-pos) n=some (k,z)∧v=.agg (.M [.arr k z n])
 | [],_,_,_,_,_,_,h=>(Tr.ae h).elim
 | .one _::r,pos,0,off,n,v,_,h=>(Tr.ae h).elim
 | .one u::r,pos,h'+1,off,n,v,hn,h=>by
   obtain ⟨h1,h2,k,z,h3,h4⟩:=wg r (pos+1) h' off n v hn h
   refine ⟨by omega,by simp only[ay,aG];omega,k,z,?_,h4⟩
   rw[show off-pos=(off-(pos+1))+1 by omega]
   exact h3
 | .arr k z m::r,pos,h',off,n,v,hn,h=>by
   simp only[Eo] at h
   cases hb:Nat.blt h' m with
   | true =>
     rw[hb,cond_true] at h
     obtain ⟨hc,h⟩:=Tr.aI h
     rw[jk,decide_eq_true_eq] at hc
     have h:=Tr.ab h
     refine ⟨hc.1,by simp only[ay,aG];omega,k,fun j=>z (off-pos+j),?_,?_⟩
     · simp only[kM];rw[if_pos (by omega)]
     · rw[← h,jx,kN]
   | false =>
     rw[hb,cond_false] at h
     obtain ⟨h1,h2,k',z',h3,h4⟩:=wg r (pos+m) (h'-m) off n v hn h
     refine ⟨by omega,by simp only[ay,aG];omega,k',z',?_,h4⟩
     simp only[kM]
     rw[if_neg (by omega),if_pos (by omega),← h3]
     congr 1;omega
def En:List aW→Nat→Nat→Option Row
 | [],_,_=>none
 | .one _::r,o+1,n=>En r o n
 | .one _::_,0,_=>none
 | .arr k z m::r,o,n=>cond (Nat.ble (Nat.add o n) m) (some (.M [.arr k (cond (Nat.beq o 0) z (qL z o)) n])) (cond (Nat.ble m o) (En r (Nat.sub o m) n) none)
theorem we:∀ (l:List aW) (o n:Nat) (q:Row),En l o n=some q→∃ k z,kM l o n=some (k,z)∧q=.M [.arr k z n]
 | [],_,_,_,h=>by cases h
 | .one u::r,o+1,n,q,h=>we r o n q h
 | .one _::_,0,_,_,h=>by cases h
 | .arr k z m::r,o,n,q,h=>by
   simp only[En] at h
   cases hb:Nat.ble (Nat.add o n) m with
   | true =>
     rw[hb,cond_true] at h
     have hle:o+n≤m:=Nat.le_of_ble_eq_true hb
     simp only[Option.some.injEq] at h
     refine ⟨k,fun j=>z (o+j),by simp only[kM];rw[if_pos hle],?_⟩
     rw[← h]
     cases ho:Nat.beq o 0 with
     | true =>
       have:=Nat.eq_of_beq_eq_true ho
       subst this
       simp only[cond_true,Nat.zero_add]
     | false=>rw[cond_false,jx]
   | false =>
     rw[hb,cond_false] at h
     cases hm:Nat.ble m o with
     | true =>
       rw[hm,cond_true] at h
       have hle:m≤o:=Nat.le_of_ble_eq_true hm
       have hnl:¬ (o+n≤m):=fun hc=>by
        have:Nat.ble (Nat.add o n) m=true:=by rw[Nat.ble_eq];exact hc
        rw[hb] at this;cases this
       obtain ⟨k',z',h1,h2⟩:=we r (o-m) n q h
       exact ⟨k',z',by simp only[kM];rw[if_neg hnl,if_pos hle];exact h1,h2⟩
     | false=>rw[hm,cond_false] at h;cases h
def yr (P:Program) (t:TypeId) (r:Row) (off:Nat) (h:Option Nat):Tr AV :=
 match eS P t with
 | some false=>A3 r off h
 | some true=>match bf P t with
   | some 0=>.bad
   | some (n+1)=>match r with
     | .M l=>cond (Nat.ble (Nat.succ n) 8) ((A4 (.M l) off h 0 (Nat.succ n)).bind fun vs=>.ok (.agg (Row.ofList vs)))
       (match h with
       | none=>cond (Nat.ble (Nat.add off (Nat.succ n)) (ay l)) (cond (Nat.beq (ay l) (Nat.succ n)) (.ok (.agg ((Row.M l).cut off (Nat.succ n)))) (match En l off (Nat.succ n) with
         | some q=>.ok (.agg q)
         | none=>.ok (.agg ((Row.M l).cut off (Nat.succ n))))) .bad
       | some h=>cond (Nat.beq (ay l) (Nat.succ n)) .bad (Eo l 0 h off (Nat.succ n)))
     | .F f m=>.req (gi (aq off (Nat.succ n)) m) (.ok (.agg ((Row.F f m).cut off (Nat.succ n))))
     | .I k l=>match h with
       | none=>uN (pV P t (.I k l) off)
       | some _=>.bad
     | .G l=>match h with
       | none=>uN (pV P t (.G l) off)
       | some _=>.bad
   | none=>.bad
 | none=>.bad
theorem sV       {P : Program} {t:TypeId} {r:Row} {off:Nat} {h:Option Nat} {v:AV} (hr:(yr P t r off h).run=some v):gU P t r off=some v:=by
 unfold yr at hr
 split at hr
 · rename_i ha
   obtain ⟨h1,h2⟩:=yp hr
   unfold gU
   rw[ha]
   dsimp only
   rw[if_pos h1,h2]
 · rename_i ha
   split at hr
   · exact (Tr.ae hr).elim
   · rename_i n hs
     split at hr
     · rename_i l
       unfold gU
       rw[ha,hs]
       dsimp only
       cases hb:Nat.ble (Nat.succ n) 8 with
       | true =>
         rw[hb,cond_true] at hr
         obtain ⟨vs,h1,hr⟩:=Tr.bind_some hr
         have hr:=Tr.ab hr
         obtain ⟨k1,k2⟩:=yq _ _ _ h1
         rw[if_pos (by omega),← hr,k1]
         simp only[Row.cut]
         rw[show Nat.ble (n+1) 8=true from hb,if_pos rfl,Nat.add_zero]
         rfl
       | false =>
         rw[hb,cond_false] at hr
         split at hr
         · cases hc : Nat.ble (Nat.add off (Nat.succ n)) (ay l) with
           | true =>
             rw[hc,cond_true] at hr
             rw[Nat.ble_eq] at hc
             rw[if_pos (show off+(n+1)≤(Row.M l).len from hc)]
             cases hq:Nat.beq (ay l) (Nat.succ n) with
             | true=>rw[hq,cond_true] at hr;rw[← Tr.ab hr]
             | false =>
               rw[hq,cond_false] at hr
               split at hr
               · rename_i q hseg
                 obtain ⟨k,z,h3,h4⟩:=we _ _ _ _ hseg
                 simp only[Row.cut]
                 rw[show Nat.ble (n+1) 8=false from hb,if_neg (by simp),show Nat.beq (ay l) (n+1)=false from hq,Bool.and_false,if_neg (by simp)]
                 have : Row.sub (.M l) off (n+1)=.M [.arr k z (n+1)]:=by
                  match l,h3,hq with
                  | [],h3,_=>simp[kM] at h3
                  | [.arr k' z' m],h3,hq =>
                    simp only[kM] at h3
                    split at h3
                    · simp only[nP] at h3
                      obtain ⟨rfl,rfl⟩:=h3
                      rfl
                    · split at h3<;>simp at h3
                  | .one u::r,h3,hq =>
                    simp only[Row.sub]
                    rw[show Nat.beq (ay (.one u::r)) (n+1)=false from hq,Bool.and_false,h3]
                    rfl
                  | .arr k' z' m::s::r,h3,hq =>
                    simp only[Row.sub]
                    rw[show Nat.beq (ay (.arr k' z' m::s::r)) (n+1)=false from hq,Bool.and_false,h3]
                    rfl
                 rw[this,← Tr.ab hr,h4]
               · rw[← Tr.ab hr]
           | false=>rw[hc,cond_false] at hr;exact (Tr.ae hr).elim
         · rename_i h
           cases hc:Nat.beq (ay l) (Nat.succ n) with
           | true=>rw[hc,cond_true] at hr;exact (Tr.ae hr).elim
           | false =>
             rw[hc,cond_false] at hr
             obtain ⟨h1,h2,k,z,h3,h4⟩:=wg _ _ _ _ _ _ (Nat.succ_pos n) hr
             rw[Nat.sub_zero] at h2 h3
             rw[if_pos (show off+(n+1)≤(Row.M l).len from h2)]
             simp only[Row.cut]
             rw[show Nat.ble (n+1) 8=false from hb,if_neg (by simp),show Nat.beq (ay l) (n+1)=false from hc,Bool.and_false,if_neg (by simp)]
             have : Row.sub (.M l) off (n+1)=.M [.arr k z (n+1)]:=by
              match l,h3,hc with
              | [],h3,_=>simp[kM] at h3
              | [.arr k' z' m],h3,hc =>
                simp only[kM] at h3
                split at h3
                · simp only[nP] at h3
                  obtain ⟨rfl,rfl⟩:=h3
                  rfl
                · split at h3<;>simp at h3
              | .one u::r,h3,hc =>
                simp only[Row.sub]
                rw[show Nat.beq (ay (.one u::r)) (n+1)=false from hc,Bool.and_false,h3]
                rfl
              | .arr k' z' m::s::r,h3,hc =>
                simp only[Row.sub]
                rw[show Nat.beq (ay (.arr k' z' m::s::r)) (n+1)=false from hc,Bool.and_false,h3]
                rfl
             rw[this,h4]
     · rename_i f m
       obtain ⟨hc,hr⟩:=Tr.aI hr
       rw[kB,decide_eq_true_eq,ba] at hc
       unfold gU
       rw[ha,hs]
       dsimp only
       rw[if_pos (show off+(n+1)≤(Row.F f m).len from hc),← Tr.ab hr]
     · split at hr
       · rw[cN,pW] at hr;exact hr
       · exact (Tr.ae hr).elim
     · split at hr
       · rw[cN,pW] at hr;exact hr
       · exact (Tr.ae hr).elim
   · exact (Tr.ae hr).elim
 · exact (Tr.ae hr).elim

def wb (H:aa) (d i v:Nat) (h:Option Nat):Tr Row :=
 match h with
 | none=>uN (xl H d i v)
 | some _=>match er H d i with
   | (ver,.row r)=>.req (dJ ver v) (.ok r)
   | _=>.bad
theorem kJ {H:aa} {d i v:Nat} {h:Option Nat} {r:Row} (hr:(wb H d i v h).run=some r):cX H d i v=some r:=by
 unfold wb at hr
 split at hr
 · rw[cN,sh] at hr;exact hr
 · rw[gD] at hr
   split at hr
   · rename_i ver q hg
     obtain ⟨hc,hr2⟩:=Tr.aI hr
     rw[gb,decide_eq_true_eq] at hc
     subst hc
     unfold cX
     rw[hg]
     simp only[Nat.beq_refl,if_true]
     rw[Tr.ab hr2]
   · exact (Tr.ae hr).elim
def loadT (P:Program) (H:aa) (t:TypeId) (a:HV):Tr AV :=
 match a.1 with
 | .ptr d i v off=>(wb H d i v a.2).bind fun r=>(yr P t r off a.2).bind fun x=>.ok (fW d x)
 | .ptrT s r off=>(yr P t r off a.2).bind fun x=>.ok (NT s x)
 | _=>.bad
theorem xJ {P:Program} {H:aa} {t:TypeId} {a:HV} {v:AV} (hr:(loadT P H t a).run=some v):lS P H t a.1=some v:=by
 unfold loadT at hr
 unfold lS
 split at hr
 · rename_i d i ver off ha
   obtain ⟨r,h1,hr⟩:=Tr.bind_some hr
   obtain ⟨x,h2,hr⟩:=Tr.bind_some hr
   rw[ha]
   dsimp only
   rw[kJ h1]
   dsimp only
   rw[sV h2,← Tr.ab hr];rfl
 · rename_i s r off ha
   obtain ⟨x,h2,hr⟩:=Tr.bind_some hr
   rw[ha]
   dsimp only
   rw[sV h2,← Tr.ab hr];rfl
 · exact (Tr.ae hr).elim

def qJ:List aW→Nat→AV→Option (List aW)
 | [],_,_=>none
 | .one u::r,j,v=>match j with
   | 0=>some (.one v::r)
   | j+1=>match qJ r j v with
     | some r'=>some (.one u::r')
     | none=>none
 | .arr k z n::r,j,v=>cond (Nat.blt j n) (match v with
    | .int k' x=>cond (fY k' k) (some (.arr k (fS z j x) n::r)) none
    | _=>none)
   (match qJ r (Nat.sub j n) v with
     | some r'=>some (.arr k z n::r')
     | none=>none)
theorem s5:∀ (l:List aW) (j:Nat) (v:AV) (l':List aW),qJ l j v=some l'→j<ay l∧jv l j v=l'
 | [],_,_,_,h=>by simp[qJ] at h
 | .one u::r,0,v,l',h=>by
   simp only[qJ,Option.some.injEq] at h
   exact ⟨by simp only[ay,aG];omega,h⟩
 | .one u::r,j+1,v,l',h=>by
   simp only[qJ] at h
   split at h
   · rename_i r' hr
     have:=s5 r j v r' hr
     simp only[Option.some.injEq] at h
     exact ⟨by simp only[ay,aG];omega,by simp only[jv];rw[this.2];exact h⟩
   · simp at h
 | .arr k z n::r,j,v,l',h=>by
   simp only[qJ] at h
   cases hb:Nat.blt j n with
   | true =>
     rw[hb,cond_true] at h
     have hj:=Am hb
     split at h
     · rename_i k' x
       rw[jS] at h
       split at h
       · rename_i hk
         simp only[Option.some.injEq] at h
         refine ⟨by simp only[ay,aG];omega,?_⟩
         simp only[jv]
         rw[if_pos hj,if_pos hk,← h,kS]
       · simp at h
     · simp at h
   | false =>
     rw[hb,cond_false] at h
     have hj:=G0 hb
     split at h
     · rename_i r' hr
       have:=s5 r (j-n) v r' hr
       simp only[Option.some.injEq] at h
       exact ⟨by simp only[ay,aG];omega,by simp only[jv];rw[if_neg hj,this.2];exact h⟩
     · simp at h
def Co:List aW→Nat→Nat→Nat→AV→Tr (List aW)
 | [],_,_,_,_=>.bad
 | .one u::r,pos,h,off,v=>match h with
   | 0=>.bad
   | h+1=>(Co r (Nat.succ pos) h off v).bind fun r'=>.ok (.one u::r')
 | .arr k z n::r,pos,h,off,v=>cond (Nat.blt h n) (match v with
    | .int k' x=>cond (fY k' k) (.req (qu off 1 pos n) (.ok (.arr k (fS z (p8 off pos) x) n::r))) .bad
    | _=>.bad)
   ((Co r (Nat.add pos n) (Nat.sub h n) off v).bind fun r'=>.ok (.arr k z n::r'))
theorem wi:∀ (l:List aW) (pos h off:Nat) (v:AV) (l':List aW),(Co l pos h off v).run=some l'→pos≤off∧off-pos<ay l∧jv l (off-pos) v=l'
 | [],_,_,_,_,_,h=>(Tr.ae h).elim
 | .one _::r,pos,0,off,v,l',h=>(Tr.ae h).elim
 | .one u::r,pos,h'+1,off,v,l',h=>by
   simp only[Co] at h
   obtain ⟨r',hr,h⟩:=Tr.bind_some h
   obtain ⟨h1,h2,h3⟩:=wi r (pos+1) h' off v r' hr
   refine ⟨by omega,by simp only[ay,aG];omega,?_⟩
   rw[show off-pos=(off-(pos+1))+1 by omega,← Tr.ab h,← h3]
   rfl
 | .arr k z n::r,pos,h',off,v,l',h=>by
   simp only[Co] at h
   cases hb:Nat.blt h' n with
   | true =>
     rw[hb,cond_true] at h
     split at h
     · rename_i k' x
       rw[jS] at h
       split at h
       · rename_i hk
         obtain ⟨hc,h⟩:=Tr.aI h
         rw[jk,decide_eq_true_eq] at hc
         refine ⟨hc.1,by simp only[ay,aG];omega,?_⟩
         simp only[jv]
         rw[if_pos (by omega),if_pos hk,← Tr.ab h,kS,kN]
       · exact (Tr.ae h).elim
     · exact (Tr.ae h).elim
   | false =>
     rw[hb,cond_false] at h
     obtain ⟨r',hr,h⟩:=Tr.bind_some h
     obtain ⟨h1,h2,h3⟩:=wi r (pos+n) (h'-n) off v r' hr
     refine ⟨by omega,by simp only[ay,aG];omega,?_⟩
     simp only[jv]
     rw[if_neg (by omega),← Tr.ab h,← h3,show off-pos-n=off-(pos+n) by omega]
def IS (l:List aW) (off:Nat) (h:Option Nat) (v:AV):Tr (List aW) :=
 match l with
 | [.arr k z n]=>match v with
   | .int k' x=>cond (fY k' k) (.req (bX off n) (.ok [.arr k (fS z off x) n])) .bad
   | _=>.bad
 | l=>match h with
   | none=>uN (qJ l off v)
   | some h=>Co l 0 h off v
theorem GD {l l':List aW} {off:Nat} {h:Option Nat} {v:AV} (hr:(IS l off h v).run=some l'):off<ay l∧jv l off v=l':=by
 unfold IS at hr
 split at hr
 · rename_i k z n
   split at hr
   · rename_i k' x
     rw[jS] at hr
     split at hr
     · rename_i hk
       obtain ⟨hc,hr⟩:=Tr.aI hr
       rw[gQ,decide_eq_true_eq] at hc
       refine ⟨by simp only[ay,aG];omega,?_⟩
       simp only[jv]
       rw[if_pos hc,if_pos hk,← Tr.ab hr,kS]
     · exact (Tr.ae hr).elim
   · exact (Tr.ae hr).elim
 · split at hr
   · rw[cN] at hr;exact s5 _ _ _ _ hr
   · have:=wi _ _ _ _ _ _ hr
     rw[Nat.sub_zero] at this
     exact this.2
def yC (off:Nat) (h:Option Nat):List AV→Nat→List aW→Tr (List aW)
 | [],_,l=>.ok l
 | v::vs,j,l=>(IS l (Cc off h j) (xo h j) v).bind fun l'=>yC off h vs (Nat.succ j) l'
theorem s4 {off:Nat} {h:Option Nat}:∀ (vs:List AV) (j:Nat) (l l':List aW),(yC off h vs j l).run=some l'→(vs=[]∨off+j+vs.length≤ay l)∧Row.cr (.M l) (off+j) vs=.M l'
 | [],j,l,l',h=>⟨.inl rfl,by rw[Tr.ab h];rfl⟩
 | v :: vs,j,l,l',h=>by
   simp only[yC] at h
   obtain ⟨l1,h1,h⟩:=Tr.bind_some h
   obtain ⟨k1,k2⟩:=GD h1
   rw[rj] at k1 k2
   obtain ⟨k3,k4⟩:=s4 vs (j+1) l1 l' h
   have hl:ay l1=ay l:=by rw[← k2,mh]
   refine ⟨.inr ?_,?_⟩
   · rcases k3 with rfl | k3
     · simp only[List.length_cons,List.length_nil];omega
     · simp only[List.length_cons];omega
   · simp only[Row.cr,Row.set,k2]
     exact k4
def Eb (l:List aW) (off:Nat) (h:Option Nat) (q:Row):Tr Row :=
 match l,q with
 | [.arr k z m],.M [.arr k' z' n]=>cond (fY k' k) (.req (qu off n 0 m) (.ok (.M [.arr k (gN z off z' n) m]))) .bad
 | l,q=>cond (Nat.ble 9 (gV q)) (match h with
    | none=>cond (Nat.ble (Nat.add off (gV q)) (ay l)) (.ok (vX l off q)) .bad
    | some _=>.bad)
   (match kQ q with
     | []=>.bad
     | v::vs=>(yC off h (v::vs) 0 l).bind fun l'=>.ok (.M l'))
theorem vY {l:List aW} {off:Nat} {h:Option Nat} {q r:Row} (hr:(Eb l off h q).run=some r):off+q.len≤ay l∧jt (.M l) off q=r:=by
 unfold Eb at hr
 split at hr
 · rename_i k z m k' z' n
   rw[jS] at hr
   split at hr
   · rename_i hk
     obtain ⟨hc,hr⟩:=Tr.aI hr
     rw[jk,decide_eq_true_eq] at hc
     refine ⟨by simp only[Row.len,ay,aG];omega,?_⟩
     simp only[jt]
     rw[if_pos hk,← Tr.ab hr,nZ]
   · exact (Tr.ae hr).elim
 · rename_i hne
   have hA:jt (.M l) off q=vX l off q:=by
    simp only[jt]
    split
    · rename_i k z m
      split
      · rename_i k' z' n
        exact (hne _ _ _ _ _ _ rfl rfl).elim
      · rfl
    · rfl
   rw[hA]
   rw[eY] at hr
   cases hb:Nat.ble 9 q.len with
   | true =>
     rw[hb,cond_true] at hr
     split at hr
     · cases hc:Nat.ble (Nat.add off q.len) (ay l) with
       | true =>
         rw[hc,cond_true] at hr
         rw[Nat.ble_eq] at hc
         exact ⟨hc,Tr.ab hr⟩
       | false=>rw[hc,cond_false] at hr;exact (Tr.ae hr).elim
     · exact (Tr.ae hr).elim
   | false =>
     rw[hb,cond_false,nD] at hr
     have hl:=Row.bc q
     split at hr
     · exact (Tr.ae hr).elim
     · rename_i v vs hq
       obtain ⟨l1,h1,hr⟩:=Tr.bind_some hr
       obtain ⟨k1,k2⟩:=s4 _ _ _ _ h1
       rw[hq] at hl
       refine ⟨?_,?_⟩
       · rcases k1 with k1 | k1
         · simp at k1
         · omega
       · unfold vX
         rw[hb,if_neg (by simp),hq,← Tr.ab hr,← k2];rfl
def IF (d:Nat) (x:AV):Bool :=
 match d with
 | 0=>false
 | _+1=>match x with
   | .slc 0 _ _ _ _ _ _=>true
   | _=>false
def storeT (P:Program) (H:aa) (t:TypeId) (a:HV) (x:AV):Tr Delta :=
 match a.1 with
 | .ptr d i v off=>cond (IF d x) (match a.2 with | none=>uN (oW P H t a.1 x) | some _=>.bad)
   (cond (ff H d) .bad ((wb H d i v a.2).bind fun r=>match bf P t with
     | some n=>match x.row with
       | some q=>cond (Nat.beq (gV q) n) (match r with
         | .M l=>(Eb l off a.2 (iY d q)).bind fun r'=>.ok (.set d i (v,.row r'))
         | _=>match a.2 with | none=>uN (oW P H t a.1 x) | some _=>.bad) .bad
       | none=>.bad
     | none=>.bad))
 | _=>.bad
theorem Cv {P:Program} {H:aa} {t:TypeId} {a:HV} {x:AV} {δ:Delta} (hr:(storeT P H t a x).run=some δ):fQ P H t a.1 x=some δ:=by
 unfold storeT at hr
 split at hr
 · rename_i d i v off ha
   cases ho:IF d x with
   | true =>
     rw[ho,cond_true] at hr
     split at hr
     · rw[cN,nC] at hr;exact hr
     · exact (Tr.ae hr).elim
   | false =>
     rw[ho,cond_false,dL] at hr
     cases hl:aw H d with
     | true=>rw[hl,cond_true] at hr;exact (Tr.ae hr).elim
     | false =>
       rw[hl,cond_false] at hr
       obtain ⟨r,h1,hr⟩:=Tr.bind_some hr
       split at hr
       · rename_i n hs
         split at hr
         · rename_i q hq
           rw[eY] at hr
           cases hb:Nat.beq q.len n with
           | false=>rw[hb,cond_false] at hr;exact (Tr.ae hr).elim
           | true =>
             rw[hb,cond_true] at hr
             have hb:q.len=n:=by simpa using hb
             split at hr
             · rename_i l
               obtain ⟨r',h2,hr⟩:=Tr.bind_some hr
               obtain ⟨k1,k2⟩:=vY h2
               rw[fa] at k1
               rw[ha]
               unfold fQ
               dsimp only
               rw[hl,if_neg (by simp),kJ h1,hs,hq]
               dsimp only
               rw[if_pos ⟨hb,by show off+n≤ay l;omega⟩]
               have:∀ (d':Nat) (j w o sz len:Nat) (cap:Option Nat),d=d'+1→x≠.slc 0 j w o sz len cap:=by
                rintro d' j w o sz len cap rfl rfl
                simp[IF] at ho
               rw[← Tr.ab hr,← k2]
               split
               · exact absurd rfl (this _ _ _ _ _ _ _ rfl)
               · rfl
             · split at hr
               · rw[cN,nC] at hr;exact hr
               · exact (Tr.ae hr).elim
         · exact (Tr.ae hr).elim
       · exact (Tr.ae hr).elim
 · exact (Tr.ae hr).elim

def hOr (h:Option Nat) (off:Nat):Nat :=
 match h with
 | none=>off
 | some h=>h
def m5 (P:Program) (t:TypeId) (a:HV) (f:Nat):Tr HV :=
 match P.underlying t with
 | some (.struct fs)=>match fs[f]? with
   | some g=>match bf P g.type with
     | some (_+1)=>match a.1 with
       | .ptr d i v off=>.ok (.ptr d i v (Cc off a.2 g.offset),xo a.2 g.offset)
       | .ptrT s r off=>.ok (.ptrT s r (Cc off a.2 g.offset),xo a.2 g.offset)
       | _=>.bad
     | _=>.bad
   | none=>.bad
 | _=>.bad
theorem tC {P:Program} {t:TypeId} {a b:HV} {f:Nat} (hr:(m5 P t a f).run=some b):gd P t a.1 f=some b.1:=by
 unfold m5 at hr
 unfold gd
 split at hr
 · rename_i fs hu
   rw[hu]
   dsimp only
   split at hr
   · rename_i g hg
     rw[hg]
     dsimp only
     split at hr
     · rename_i n hs
       rw[hs]
       dsimp only
       split at hr
       · rename_i d i v off ha
         rw[ha,← Tr.ab hr];simp only[ka,rj]
       · rename_i s r off ha
         rw[ha,← Tr.ab hr];simp only[ka,rj]
       · exact (Tr.ae hr).elim
     · exact (Tr.ae hr).elim
   · exact (Tr.ae hr).elim
 · exact (Tr.ae hr).elim
def isLit (x:HV):Bool :=
 match x.2 with
 | some _=>true
 | none=>false
def D0 (off:Nat) (ic:Bool) (i:Int) (z:Nat):Nat:=cond ic (Nat.add off (Nat.mul i.toNat z)) (aD off i z)
theorem ri (off:Nat) (ic:Bool) (i:Int) (z:Nat):D0 off ic i z=off+i.toNat*z:=by
 cases ic with
 | true=>rfl
 | false=>exact bS _ _ _
def AF (h:Option Nat) (off:Nat) (ic:Bool) (i:Int) (z:Nat):Option Nat :=
 cond ic (xo h (Nat.mul i.toNat z)) (some (hOr h off))
def Ia (P:Program) (t:TypeId) (a:HV) (ic:Bool) (i:Int):Tr HV :=
 match P.underlying t with
 | some (.array n e)=>match bf P e with
   | some z=>match a.1 with
     | .ptr d j v off=>.req (dY i n) (.ok (.ptr d j v (D0 off ic i z),AF a.2 off ic i z))
     | .ptrT s r off=>.req (dY i n) (.ok (.ptrT s r (D0 off ic i z),AF a.2 off ic i z))
     | _=>.bad
   | none=>.bad
 | some (.slice e)=>match bf P e with
   | some z=>match a.1 with
     | .slc d j v off sz len cap=>cond (Nat.beq z sz) (.req (dY i len) (.ok (.ptr d j v (D0 off ic i z),match cap with
       | some _=>AF none off ic i z
       | none=>some off))) .bad
     | .slcT s r sz len _=>cond (Nat.beq z sz) (.req (dY i len) (.ok (.ptrT s r (D0 0 ic i z),AF none 0 ic i z))) .bad
     | _=>.bad
   | none=>.bad
 | _=>.bad
def LN (P:Program) (t:TypeId) (x:AV) (ic:Bool) (i:Int):Tr AV :=
 cond ic (uN (pH P t x i)) (match P.underlying t with
  | some (.array n e)=>match x with
    | .agg r=>match bf P e with
      | some z=>.req (dY i n) (yr P e r (aD 0 i z) (some 0))
      | none=>.bad
    | _=>.bad
  | _=>.bad)
theorem Ii {P:Program} {t:TypeId} {x v:AV} {ic:Bool} {i:Int} (hr:(LN P t x ic i).run=some v):pH P t x i=some v:=by
 unfold LN at hr
 cases ic with
 | true=>rw[cond_true,cN] at hr;exact hr
 | false =>
   rw[cond_false] at hr
   split at hr
   · rename_i n e hu
     split at hr
     · split at hr
       · rename_i z hs
         obtain ⟨hc,hr⟩:=Tr.aI hr
         rw[pG,decide_eq_true_eq] at hc
         have h:=sV hr
         rw[bS,Nat.zero_add] at h
         unfold pH
         rw[hu]
         dsimp only
         rw[hs]
         dsimp only
         rw[if_pos hc,h]
       · exact (Tr.ae hr).elim
     · exact (Tr.ae hr).elim
   · exact (Tr.ae hr).elim
theorem FD {P:Program} {t:TypeId} {a b:HV} {ic:Bool} {i:Int} (hr:(Ia P t a ic i).run=some b):fh P t a.1 i=some b.1:=by
 unfold Ia at hr
 unfold fh
 split at hr
 · rename_i n e hu
   split at hr
   · rename_i z hs
     split at hr
     · rename_i d j v off ha
       obtain ⟨hc,hr⟩:=Tr.aI hr
       rw[pG,decide_eq_true_eq] at hc
       rw[hu,ha]
       dsimp only
       rw[hs]
       dsimp only
       rw[if_pos hc,← Tr.ab hr]
       simp only[ka,ri]
     · rename_i s r off ha
       obtain ⟨hc,hr⟩:=Tr.aI hr
       rw[pG,decide_eq_true_eq] at hc
       rw[hu,ha]
       dsimp only
       rw[hs]
       dsimp only
       rw[if_pos hc,← Tr.ab hr]
       simp only[ka,ri]
     · exact (Tr.ae hr).elim
   · exact (Tr.ae hr).elim
 · rename_i e hu
   split at hr
   · rename_i z hs
     split at hr
     · rename_i d j v off sz len cap ha
       cases hb:Nat.beq z sz with
       | false=>rw[hb,cond_false] at hr;exact (Tr.ae hr).elim
       | true =>
         rw[hb,cond_true] at hr
         have hb:z=sz:=by simpa using hb
         subst hb
         obtain ⟨hc,hr⟩:=Tr.aI hr
         rw[pG,decide_eq_true_eq] at hc
         rw[hu,ha]
         dsimp only
         rw[if_pos ⟨hc.1,hc.2,hs⟩,← Tr.ab hr]
         simp only[ri]
     · rename_i s r sz len full ha
       cases hb:Nat.beq z sz with
       | false=>rw[hb,cond_false] at hr;exact (Tr.ae hr).elim
       | true =>
         rw[hb,cond_true] at hr
         have hb:z=sz:=by simpa using hb
         subst hb
         obtain ⟨hc,hr⟩:=Tr.aI hr
         rw[pG,decide_eq_true_eq] at hc
         rw[hu,ha]
         dsimp only
         rw[if_pos ⟨hc.1,hc.2,hs⟩,← Tr.ab hr]
         simp only[ri,Nat.zero_add]
     · exact (Tr.ae hr).elim
   · exact (Tr.ae hr).elim
 · exact (Tr.ae hr).elim

end
end Go.Eng
