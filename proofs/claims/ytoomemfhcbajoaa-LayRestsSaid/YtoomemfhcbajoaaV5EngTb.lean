/- The engine as a tree: frames with hints, rows, loads, stores, addresses. -/
import Derived.Test.YtoomemfhcbajoaaV5EngOrax2
set_option linter.unusedVariables false
set_option linter.unusedSimpArgs false
namespace Go.Eng
noncomputable section

abbrev HV:=AV×Option Nat
abbrev aE:=List (Nat×HV)
def strip (f:aE):ar:=List.rec (motive:=fun _=>ar) [] (fun p _ ih=>(p.1,p.2.1)::ih) f
theorem c6 (x:Nat) (v:HV) (r:aE):strip ((x,v)::r)=(x,v.1)::strip r:=rfl
def lx (f:aE) (y:Nat):HV:=List.rec (motive:=fun _=>HV) (AV.undef,none) (fun p _ ih=>Bool.rec ih p.2 (Nat.beq p.1 y)) f
theorem fc:∀ (f:aE) (y:Nat),(lx f y).1=bo (strip f) y
 | [],y=>rfl
 | (x,v)::r,y=>by
   have e:lx ((x,v)::r) y=Bool.rec (lx r y) v (Nat.beq x y):=rfl
   rw[e,c6,bo]
   cases Nat.beq x y with
   | true=>rfl
   | false=>exact fc r y
def xX (f:aE) (y:Nat) (u:HV):aE:=List.rec (motive:=fun _=>aE) [(y,u)] (fun p r ih=>Bool.rec (motive:=fun _=>aE) (p::ih) (Bool.rec (motive:=fun _=>aE) ((y,u)::p::r) ((y,u)::r) (Nat.beq p.1 y)) (Nat.ble y p.1)) f
theorem xY:∀ (f:aE) (y:Nat) (u:HV),strip (xX f y u)=tL (strip f) y u.1
 | [],y,u=>rfl
 | (x,v)::r,y,u=>by
   have e:xX ((x,v)::r) y u=Bool.rec (motive:=fun _=>aE) ((x,v)::xX r y u) (Bool.rec (motive:=fun _=>aE) ((y,u)::(x,v)::r) ((y,u)::r) (Nat.beq x y)) (Nat.ble y x):=rfl
   rw[e,c6,tL,← xY r y u]
   cases Nat.ble y x with
   | false=>rfl
   | true=>cases Nat.beq x y<;>rfl
def gE (f:aE) (m:Nat):aE:=List.rec (motive:=fun _=>aE) [] (fun p _ ih=>Bool.rec (motive:=fun _=>aE) (p::ih) ih (Nat.beq (Nat.land (Nat.shiftRight m p.1) 1) 1)) f
theorem eM:∀ (f:aE) (m:Nat),strip (gE f m)=bJ (strip f) m
 | [],m=>rfl
 | (x,v)::r,m=>by
   have e:gE ((x,v)::r) m=Bool.rec (motive:=fun _=>aE) ((x,v)::gE r m) (gE r m) (Nat.beq (Nat.land (Nat.shiftRight m x) 1) 1):=rfl
   have e2:bJ ((x,v.1)::strip r) m=Bool.rec (motive:=fun _=>ar) ((x,v.1)::bJ (strip r) m) (bJ (strip r) m) (Nat.beq (Nat.land (Nat.shiftRight m x) 1) 1):=rfl
   rw[e,c6,e2,← eM r m]
   cases Nat.beq (Nat.land (Nat.shiftRight m x) 1) 1<;>rfl
def NO (v:Value):Option Nat :=
 match v with
 | .int _ _=>some 1
 | .bool _=>some 1
 | _=>none
def bZ (fr:aE) (x:Operand):HV:=Operand.rec (motive:=fun _=>HV) (fun t=>lx fr t) (fun v=>(kD v,NO v)) (fun _=>(.undef,none)) (fun f=>(.fn (.func f) [] [],none)) x
theorem aL (fr:aE) (x:Operand):(bZ fr x).1=bH (strip fr) x:=by
 cases x with
 | tmp t=>exact fc fr t
 | _=>rfl
def yR (fr:aE) (l:List Operand):List AV:=nG (fun x=>(bZ fr x).1) l
theorem sO (fr:aE):∀ l,yR fr l=jI (strip fr) l
 | []=>rfl
 | x::l=>by
   have e:yR fr (x::l)=(bZ fr x).1::yR fr l:=rfl
   rw[e,sO fr l,aL];rfl
def qM (nt:Nat) (fr:aE) (dst:Option Tmp) (v:HV):aE:=Option.rec (motive:=fun _=>aE) fr (fun d=>Bool.rec (motive:=fun _=>aE) fr (xX fr d v) (Nat.ble (Nat.succ d) nt)) dst
theorem mc (nt:Nat) (fr:aE) (dst:Option Tmp) (v:HV):strip (qM nt fr dst v)=dr nt (strip fr) dst v.1:=by
 rw[← pb]
 cases dst with
 | none=>rfl
 | some d =>
   have e:qM nt fr (some d) v=Bool.rec (motive:=fun _=>aE) fr (xX fr d v) (Nat.ble (Nat.succ d) nt):=rfl
   have e2:qN nt (strip fr) (some d) v.1=Bool.rec (motive:=fun _=>ar) (strip fr) (uH (strip fr) d v.1) (Nat.ble (Nat.succ d) nt):=rfl
   rw[e,e2,xK,← xY]
   cases Nat.ble (Nat.succ d) nt<;>rfl

def qz:List ah→Nat→Option AV
 | [],_=>none
 | .one v::r,j=>match j with
   | 0=>some v
   | j+1=>qz r j
 | .arr k z n::r,j=>cond (Nat.blt j n) (some (.int k (z j))) (qz r (Nat.sub j n))
theorem Ba {a b:Nat} (h:Nat.blt a b=true):a<b:=by rwa [Nat.blt_eq] at h
theorem HM {a b:Nat} (h:Nat.blt a b=false):¬ a<b:=fun e=>by
 have:Nat.blt a b=true:=by rw[Nat.blt_eq];exact e
 rw[h] at this;cases this
theorem sf:∀ (l:List ah) (j:Nat) (v:AV),qz l j=some v→j<av l∧getM l j=v
 | [],_,_,h=>by simp[qz] at h
 | .one u::r,0,v,h=>by
   simp only[qz,Option.some.injEq] at h
   exact ⟨by simp only[av,aI];omega,h⟩
 | .one u::r,j+1,v,h=>by
   have:=sf r j v (by simpa[qz] using h)
   exact ⟨by simp only[av,aI];omega,this.2⟩
 | .arr k z n::r,j,v,h=>by
   simp only[qz] at h
   simp only[av,aI,getM]
   cases hb:Nat.blt j n with
   | true =>
     rw[hb,cond_true,Option.some.injEq] at h
     have:=Ba hb
     exact ⟨by omega,by rw[if_pos this];exact h⟩
   | false =>
     rw[hb,cond_false] at h
     have hn:=HM hb
     have:=sf r (j-n) v h
     exact ⟨by omega,by rw[if_neg hn];exact this.2⟩
def FC:List ah→Nat→Nat→Nat→Tr AV
 | [],_,_,_=>.bad
 | .one _::r,pos,h,off=>match h with
   | 0=>.bad
   | h+1=>FC r (Nat.succ pos) h off
 | .arr k z n::r,pos,h,off=>cond (Nat.blt h n) (.req (iB off 1 pos n) (.ok (.int k (z (th off pos))))) (FC r (Nat.add pos n) (Nat.sub h n) off)
theorem w6:∀ (l:List ah) (pos h off:Nat) (v:AV),(FC l pos h off).run=some v→pos≤off∧off-pos<av l∧getM l (off-pos)=v
 | [],_,_,_,_,h=>(Tr.ae h).elim
 | .one _::r,pos,0,off,v,h=>(Tr.ae h).elim
 | .one u::r,pos,h'+1,off,v,h=>by
   obtain ⟨h1,h2,h3⟩:=w6 r (pos+1) h' off v h
   refine ⟨by omega,by simp only[av,aI];omega,?_⟩
   rw[show off-pos=(off-(pos+1))+1 by omega]
   exact h3
 | .arr k z n::r,pos,h',off,v,h=>by
   simp only[FC] at h
   cases hb:Nat.blt h' n with
   | true =>
     rw[hb,cond_true] at h
     obtain ⟨hc,h⟩:=Tr.aH h
     rw[gG,decide_eq_true_eq] at hc
     have h:=Tr.ab h
     refine ⟨hc.1,by simp only[av,aI];omega,?_⟩
     simp only[getM]
     rw[if_pos (by omega),← h,lg]
   | false =>
     rw[hb,cond_false] at h
     obtain ⟨h1,h2,h3⟩:=w6 r (pos+n) (h'-n) off v h
     refine ⟨by omega,by simp only[av,aI];omega,?_⟩
     simp only[getM]
     rw[if_neg (by omega),← h3]
     congr 1;omega
def B4 (r:Row) (off:Nat) (h:Option Nat):Tr AV :=
 match r with
 | .F f n=>.req (c9 off n) (.ok (f off))
 | .M l=>match l with
   | [.arr k z n]=>.req (c9 off n) (.ok (.int k (z off)))
   | l=>match h with
     | none=>vi (qz l off)
     | some h=>FC l 0 h off
 | .I k l=>match h with
   | none=>vi (jA (.I k l) off)
   | some _=>.req (c9 off (Jl l)) (.ok (.int k (al l off)))
 | .G l=>match h with
   | none=>vi (jA (.G l) off)
   | some _=>.bad
theorem zh {r:Row} {off:Nat} {v:AV} (h:jA r off=some v):off<r.len∧r.get off=v:=by
 rw[sZ] at h
 split at h
 · rename_i h0;exact ⟨h0,Option.some.inj h⟩
 · simp at h
theorem zc {r:Row} {off:Nat} {h:Option Nat} {v:AV} (hr:(B4 r off h).run=some v):off<r.len∧r.get off=v:=by
 unfold B4 at hr
 split at hr
 · obtain ⟨hc,hr⟩:=Tr.aH hr
   rw[gf,decide_eq_true_eq] at hc
   exact ⟨hc,Tr.ab hr⟩
 · rename_i l
   split at hr
   · rename_i k z n
     obtain ⟨hc,hr⟩:=Tr.aH hr
     rw[gf,decide_eq_true_eq] at hc
     refine ⟨by simp only[Row.len,av,aI];omega,?_⟩
     simp only[Row.get,getM]
     rw[if_pos hc];exact Tr.ab hr
   · split at hr
     · rw[cR] at hr;exact sf _ _ _ hr
     · have:=w6 _ _ _ _ _ hr
       rw[Nat.sub_zero] at this
       exact this.2
 · split at hr
   · rw[cR] at hr;exact zh hr
   · obtain ⟨hc,hr⟩:=Tr.aH hr
     rw[gf,decide_eq_true_eq,GH] at hc
     refine ⟨hc,?_⟩
     rw[← Tr.ab hr,BF];rfl
 · split at hr
   · rw[cR] at hr;exact zh hr
   · exact (Tr.ae hr).elim
def Da (off:Nat) (h:Option Nat) (j:Nat):Nat :=
 match h with
 | none=>Nat.add off j
 | some _=>match j with
   | 0=>off
   | j+1=>bB off (Nat.succ j)
theorem rz (off:Nat) (h:Option Nat) (j:Nat):Da off h j=off+j:=by
 unfold Da
 split
 · rfl
 · split
   · rfl
   · rw[bD]
def x7 (h:Option Nat) (j:Nat):Option Nat :=
 match h with
 | none=>none
 | some h=>some (Nat.add h j)
def B5 (r:Row) (off:Nat) (h:Option Nat):Nat→Nat→Tr (List AV)
 | _,0=>.ok []
 | j,n+1=>(B4 r (Da off h j) (x7 h j)).bind fun v=>(B5 r off h (Nat.succ j) n).bind fun l=>.ok (v::l)
theorem zd {r:Row} {off:Nat} {h:Option Nat}:∀ (n j:Nat) (l:List AV),(B5 r off h j n).run=some l→l=dk r.get (off+j) n∧(n=0∨off+j+n≤r.len)
 | 0,j,l,hr=>⟨(Tr.ab hr).symm,.inl rfl⟩
 | n+1,j,l,hr=>by
   simp only[B5] at hr
   obtain ⟨v,h1,hr⟩:=Tr.bind_some hr
   obtain ⟨m,h2,hr⟩:=Tr.bind_some hr
   have hr:=Tr.ab hr
   obtain ⟨k1,k2⟩:=zc h1
   obtain ⟨k3,k4⟩:=zd n (j+1) m h2
   rw[rz] at k1 k2
   refine ⟨?_,.inr (by omega)⟩
   rw[← hr,dk,k2,k3,show off+(j+1)=off+j+1 by omega]
def FB:List ah→Nat→Nat→Nat→Nat→Tr AV
 | [],_,_,_,_=>.bad
 | .one _::r,pos,h,off,n=>match h with
   | 0=>.bad
   | h+1=>FB r (Nat.succ pos) h off n
 | .arr k z m::r,pos,h,off,n=>cond (Nat.blt h m) (.req (iB off n pos m) (.ok (.agg (.M [.arr k (bm z (th off pos)) n])))) (FB r (Nat.add pos m) (Nat.sub h m) off n)
theorem wZ:∀ (l:List ah) (pos h off n:Nat) (v:AV),0<n→(FB l pos h off n).run=some v→pos≤off∧off-pos+n≤av l∧∃ k z,lf l (off-pos) n=some (k,z)∧v=.agg (.M [.arr k z n])
 | [],_,_,_,_,_,_,h=>(Tr.ae h).elim
 | .one _::r,pos,0,off,n,v,_,h=>(Tr.ae h).elim
 | .one u::r,pos,h'+1,off,n,v,hn,h=>by
   obtain ⟨h1,h2,k,z,h3,h4⟩:=wZ r (pos+1) h' off n v hn h
   refine ⟨by omega,by simp only[av,aI];omega,k,z,?_,h4⟩
   rw[show off-pos=(off-(pos+1))+1 by omega]
   exact h3
 | .arr k z m::r,pos,h',off,n,v,hn,h=>by
   simp only[FB] at h
   cases hb:Nat.blt h' m with
   | true =>
     rw[hb,cond_true] at h
     obtain ⟨hc,h⟩:=Tr.aH h
     rw[gG,decide_eq_true_eq] at hc
     have h:=Tr.ab h
     refine ⟨hc.1,by simp only[av,aI];omega,k,fun j=>z (off-pos+j),?_,?_⟩
     · simp only[lf];rw[if_pos (by omega)]
     · rw[← h,ml,lg]
   | false =>
     rw[hb,cond_false] at h
     obtain ⟨h1,h2,k',z',h3,h4⟩:=wZ r (pos+m) (h'-m) off n v hn h
     refine ⟨by omega,by simp only[av,aI];omega,k',z',?_,h4⟩
     simp only[lf]
     rw[if_neg (by omega),if_pos (by omega),← h3]
     congr 1;omega
def FA:List ah→Nat→Nat→Option Row
 | [],_,_=>none
 | .one _::r,o+1,n=>FA r o n
 | .one _::_,0,_=>none
 | .arr k z m::r,o,n=>cond (Nat.ble (Nat.add o n) m) (some (.M [.arr k (cond (Nat.beq o 0) z (bm z o)) n])) (cond (Nat.ble m o) (FA r (Nat.sub o m) n) none)
theorem wY:∀ (l:List ah) (o n:Nat) (q:Row),FA l o n=some q→∃ k z,lf l o n=some (k,z)∧q=.M [.arr k z n]
 | [],_,_,_,h=>by cases h
 | .one u::r,o+1,n,q,h=>wY r o n q h
 | .one _::_,0,_,_,h=>by cases h
 | .arr k z m::r,o,n,q,h=>by
   simp only[FA] at h
   cases hb:Nat.ble (Nat.add o n) m with
   | true =>
     rw[hb,cond_true] at h
     have hle:o+n≤m:=Nat.le_of_ble_eq_true hb
     simp only[Option.some.injEq] at h
     refine ⟨k,fun j=>z (o+j),by simp only[lf];rw[if_pos hle],?_⟩
     rw[← h]
     cases ho:Nat.beq o 0 with
     | true =>
       have:=Nat.eq_of_beq_eq_true ho
       subst this
       simp only[cond_true,Nat.zero_add]
     | false=>rw[cond_false,ml]
   | false =>
     rw[hb,cond_false] at h
     cases hm:Nat.ble m o with
     | true =>
       rw[hm,cond_true] at h
       have hle:m≤o:=Nat.le_of_ble_eq_true hm
       have hnl:¬ (o+n≤m):=fun hc=>by
        have:Nat.ble (Nat.add o n) m=true:=by rw[Nat.ble_eq];exact hc
        rw[hb] at this;cases this
       obtain ⟨k',z',h1,h2⟩:=wY r (o-m) n q h
       exact ⟨k',z',by simp only[lf];rw[if_neg hnl,if_pos hle];exact h1,h2⟩
     | false=>rw[hm,cond_false] at h;cases h
def ze (P:Program) (t:TypeId) (r:Row) (off:Nat) (h:Option Nat):Tr AV :=
 match fa P t with
 | some false=>B4 r off h
 | some true=>match bh P t with
   | some 0=>.bad
   | some (n+1)=>match r with
     | .M l=>cond (Nat.ble (Nat.succ n) 8) ((B5 (.M l) off h 0 (Nat.succ n)).bind fun vs=>.ok (.agg (Row.ofList vs)))
       (match h with
       | none=>cond (Nat.ble (Nat.add off (Nat.succ n)) (av l)) (cond (Nat.beq (av l) (Nat.succ n)) (.ok (.agg ((Row.M l).cut off (Nat.succ n)))) (match FA l off (Nat.succ n) with
         | some q=>.ok (.agg q)
         | none=>.ok (.agg ((Row.M l).cut off (Nat.succ n))))) .bad
       | some h=>cond (Nat.beq (av l) (Nat.succ n)) .bad (FB l 0 h off (Nat.succ n)))
     | .F f m=>.req (bY (bB off (Nat.succ n)) m) (.ok (.agg ((Row.F f m).cut off (Nat.succ n))))
     | .I k l=>match h with
       | none=>vi (qc P t (.I k l) off)
       | some _=>.bad
     | .G l=>match h with
       | none=>vi (qc P t (.G l) off)
       | some _=>.bad
   | none=>.bad
 | none=>.bad
theorem sY       {P : Program} {t:TypeId} {r:Row} {off:Nat} {h:Option Nat} {v:AV} (hr:(ze P t r off h).run=some v):ir P t r off=some v:=by
 unfold ze at hr
 split at hr
 · rename_i ha
   obtain ⟨h1,h2⟩:=zc hr
   unfold ir
   rw[ha]
   dsimp only
   rw[if_pos h1,h2]
 · rename_i ha
   split at hr
   · exact (Tr.ae hr).elim
   · rename_i n hs
     split at hr
     · rename_i l
       unfold ir
       rw[ha,hs]
       dsimp only
       cases hb:Nat.ble (Nat.succ n) 8 with
       | true =>
         rw[hb,cond_true] at hr
         obtain ⟨vs,h1,hr⟩:=Tr.bind_some hr
         have hr:=Tr.ab hr
         obtain ⟨k1,k2⟩:=zd _ _ _ h1
         rw[if_pos (by omega),← hr,k1]
         simp only[Row.cut]
         rw[show Nat.ble (n+1) 8=true from hb,if_pos rfl,Nat.add_zero]
         rfl
       | false =>
         rw[hb,cond_false] at hr
         split at hr
         · cases hc : Nat.ble (Nat.add off (Nat.succ n)) (av l) with
           | true =>
             rw[hc,cond_true] at hr
             rw[Nat.ble_eq] at hc
             rw[if_pos (show off+(n+1)≤(Row.M l).len from hc)]
             cases hq:Nat.beq (av l) (Nat.succ n) with
             | true=>rw[hq,cond_true] at hr;rw[← Tr.ab hr]
             | false =>
               rw[hq,cond_false] at hr
               split at hr
               · rename_i q hseg
                 obtain ⟨k,z,h3,h4⟩:=wY _ _ _ _ hseg
                 simp only[Row.cut]
                 rw[show Nat.ble (n+1) 8=false from hb,if_neg (by simp),show Nat.beq (av l) (n+1)=false from hq,Bool.and_false,if_neg (by simp)]
                 have : Row.sub (.M l) off (n+1)=.M [.arr k z (n+1)]:=by
                  match l,h3,hq with
                  | [],h3,_=>simp[lf] at h3
                  | [.arr k' z' m],h3,hq =>
                    simp only[lf] at h3
                    split at h3
                    · simp only[nP] at h3
                      obtain ⟨rfl,rfl⟩:=h3
                      rfl
                    · split at h3<;>simp at h3
                  | .one u::r,h3,hq =>
                    simp only[Row.sub]
                    rw[show Nat.beq (av (.one u::r)) (n+1)=false from hq,Bool.and_false,h3]
                    rfl
                  | .arr k' z' m::s::r,h3,hq =>
                    simp only[Row.sub]
                    rw[show Nat.beq (av (.arr k' z' m::s::r)) (n+1)=false from hq,Bool.and_false,h3]
                    rfl
                 rw[this,← Tr.ab hr,h4]
               · rw[← Tr.ab hr]
           | false=>rw[hc,cond_false] at hr;exact (Tr.ae hr).elim
         · rename_i h
           cases hc:Nat.beq (av l) (Nat.succ n) with
           | true=>rw[hc,cond_true] at hr;exact (Tr.ae hr).elim
           | false =>
             rw[hc,cond_false] at hr
             obtain ⟨h1,h2,k,z,h3,h4⟩:=wZ _ _ _ _ _ _ (Nat.succ_pos n) hr
             rw[Nat.sub_zero] at h2 h3
             rw[if_pos (show off+(n+1)≤(Row.M l).len from h2)]
             simp only[Row.cut]
             rw[show Nat.ble (n+1) 8=false from hb,if_neg (by simp),show Nat.beq (av l) (n+1)=false from hc,Bool.and_false,if_neg (by simp)]
             have : Row.sub (.M l) off (n+1)=.M [.arr k z (n+1)]:=by
              match l,h3,hc with
              | [],h3,_=>simp[lf] at h3
              | [.arr k' z' m],h3,hc =>
                simp only[lf] at h3
                split at h3
                · simp only[nP] at h3
                  obtain ⟨rfl,rfl⟩:=h3
                  rfl
                · split at h3<;>simp at h3
              | .one u::r,h3,hc =>
                simp only[Row.sub]
                rw[show Nat.beq (av (.one u::r)) (n+1)=false from hc,Bool.and_false,h3]
                rfl
              | .arr k' z' m::s::r,h3,hc =>
                simp only[Row.sub]
                rw[show Nat.beq (av (.arr k' z' m::s::r)) (n+1)=false from hc,Bool.and_false,h3]
                rfl
             rw[this,h4]
     · rename_i f m
       obtain ⟨hc,hr⟩:=Tr.aH hr
       rw[kQ,decide_eq_true_eq,bD] at hc
       unfold ir
       rw[ha,hs]
       dsimp only
       rw[if_pos (show off+(n+1)≤(Row.F f m).len from hc),← Tr.ab hr]
     · split at hr
       · rw[cR,qd] at hr;exact hr
       · exact (Tr.ae hr).elim
     · split at hr
       · rw[cR,qd] at hr;exact hr
       · exact (Tr.ae hr).elim
   · exact (Tr.ae hr).elim
 · exact (Tr.ae hr).elim

def wU (H:aa) (d i v:Nat) (h:Option Nat):Tr Row :=
 match h with
 | none=>vi (xZ H d i v)
 | some _=>match eE H d i with
   | (ver,.row r)=>.req (bM ver v) (.ok r)
   | _=>.bad
theorem la {H:aa} {d i v:Nat} {h:Option Nat} {r:Row} (hr:(wU H d i v h).run=some r):dF H d i v=some r:=by
 unfold wU at hr
 split at hr
 · rw[cR,sh] at hr;exact hr
 · rw[g7] at hr
   split at hr
   · rename_i ver q hg
     obtain ⟨hc,hr2⟩:=Tr.aH hr
     rw[gz,decide_eq_true_eq] at hc
     subst hc
     unfold dF
     rw[hg]
     simp only[Nat.beq_refl,if_true]
     rw[Tr.ab hr2]
   · exact (Tr.ae hr).elim
def loadT (P:Program) (H:aa) (t:TypeId) (a:HV):Tr AV :=
 match a.1 with
 | .ptr d i v off=>(wU H d i v a.2).bind fun r=>(ze P t r off a.2).bind fun x=>.ok (fm d x)
 | .ptrT s r off=>(ze P t r off a.2).bind fun x=>.ok (OY s x)
 | _=>.bad
theorem yv {P:Program} {H:aa} {t:TypeId} {a:HV} {v:AV} (hr:(loadT P H t a).run=some v):l6 P H t a.1=some v:=by
 unfold loadT at hr
 unfold l6
 split at hr
 · rename_i d i ver off ha
   obtain ⟨r,h1,hr⟩:=Tr.bind_some hr
   obtain ⟨x,h2,hr⟩:=Tr.bind_some hr
   rw[ha]
   dsimp only
   rw[la h1]
   dsimp only
   rw[sY h2,← Tr.ab hr];rfl
 · rename_i s r off ha
   obtain ⟨x,h2,hr⟩:=Tr.bind_some hr
   rw[ha]
   dsimp only
   rw[sY h2,← Tr.ab hr];rfl
 · exact (Tr.ae hr).elim

def qU:List ah→Nat→AV→Option (List ah)
 | [],_,_=>none
 | .one u::r,j,v=>match j with
   | 0=>some (.one v::r)
   | j+1=>match qU r j v with
     | some r'=>some (.one u::r')
     | none=>none
 | .arr k z n::r,j,v=>cond (Nat.blt j n) (match v with
    | .int k' x=>cond (gu k' k) (some (.arr k (gm z j x) n::r)) none
    | _=>none)
   (match qU r (Nat.sub j n) v with
     | some r'=>some (.arr k z n::r')
     | none=>none)
theorem tb:∀ (l:List ah) (j:Nat) (v:AV) (l':List ah),qU l j v=some l'→j<av l∧jL l j v=l'
 | [],_,_,_,h=>by simp[qU] at h
 | .one u::r,0,v,l',h=>by
   simp only[qU,Option.some.injEq] at h
   exact ⟨by simp only[av,aI];omega,h⟩
 | .one u::r,j+1,v,l',h=>by
   simp only[qU] at h
   split at h
   · rename_i r' hr
     have:=tb r j v r' hr
     simp only[Option.some.injEq] at h
     exact ⟨by simp only[av,aI];omega,by simp only[jL];rw[this.2];exact h⟩
   · simp at h
 | .arr k z n::r,j,v,l',h=>by
   simp only[qU] at h
   cases hb:Nat.blt j n with
   | true =>
     rw[hb,cond_true] at h
     have hj:=Ba hb
     split at h
     · rename_i k' x
       rw[j5] at h
       split at h
       · rename_i hk
         simp only[Option.some.injEq] at h
         refine ⟨by simp only[av,aI];omega,?_⟩
         simp only[jL]
         rw[if_pos hj,if_pos hk,← h,mR]
       · simp at h
     · simp at h
   | false =>
     rw[hb,cond_false] at h
     have hj:=HM hb
     split at h
     · rename_i r' hr
       have:=tb r (j-n) v r' hr
       simp only[Option.some.injEq] at h
       exact ⟨by simp only[av,aI];omega,by simp only[jL];rw[if_neg hj,this.2];exact h⟩
     · simp at h
def Dp:List ah→Nat→Nat→Nat→AV→Tr (List ah)
 | [],_,_,_,_=>.bad
 | .one u::r,pos,h,off,v=>match h with
   | 0=>.bad
   | h+1=>(Dp r (Nat.succ pos) h off v).bind fun r'=>.ok (.one u::r')
 | .arr k z n::r,pos,h,off,v=>cond (Nat.blt h n) (match v with
    | .int k' x=>cond (gu k' k) (.req (iB off 1 pos n) (.ok (.arr k (gm z (th off pos) x) n::r))) .bad
    | _=>.bad)
   ((Dp r (Nat.add pos n) (Nat.sub h n) off v).bind fun r'=>.ok (.arr k z n::r'))
theorem w7:∀ (l:List ah) (pos h off:Nat) (v:AV) (l':List ah),(Dp l pos h off v).run=some l'→pos≤off∧off-pos<av l∧jL l (off-pos) v=l'
 | [],_,_,_,_,_,h=>(Tr.ae h).elim
 | .one _::r,pos,0,off,v,l',h=>(Tr.ae h).elim
 | .one u::r,pos,h'+1,off,v,l',h=>by
   simp only[Dp] at h
   obtain ⟨r',hr,h⟩:=Tr.bind_some h
   obtain ⟨h1,h2,h3⟩:=w7 r (pos+1) h' off v r' hr
   refine ⟨by omega,by simp only[av,aI];omega,?_⟩
   rw[show off-pos=(off-(pos+1))+1 by omega,← Tr.ab h,← h3]
   rfl
 | .arr k z n::r,pos,h',off,v,l',h=>by
   simp only[Dp] at h
   cases hb:Nat.blt h' n with
   | true =>
     rw[hb,cond_true] at h
     split at h
     · rename_i k' x
       rw[j5] at h
       split at h
       · rename_i hk
         obtain ⟨hc,h⟩:=Tr.aH h
         rw[gG,decide_eq_true_eq] at hc
         refine ⟨hc.1,by simp only[av,aI];omega,?_⟩
         simp only[jL]
         rw[if_pos (by omega),if_pos hk,← Tr.ab h,mR,lg]
       · exact (Tr.ae h).elim
     · exact (Tr.ae h).elim
   | false =>
     rw[hb,cond_false] at h
     obtain ⟨r',hr,h⟩:=Tr.bind_some h
     obtain ⟨h1,h2,h3⟩:=w7 r (pos+n) (h'-n) off v r' hr
     refine ⟨by omega,by simp only[av,aI];omega,?_⟩
     simp only[jL]
     rw[if_neg (by omega),← Tr.ab h,← h3,show off-pos-n=off-(pos+n) by omega]
def JM (l:List ah) (off:Nat) (h:Option Nat) (v:AV):Tr (List ah) :=
 match l with
 | [.arr k z n]=>match v with
   | .int k' x=>cond (gu k' k) (.req (c9 off n) (.ok [.arr k (gm z off x) n])) .bad
   | _=>.bad
 | l=>match h with
   | none=>vi (qU l off v)
   | some h=>Dp l 0 h off v
theorem Hn {l l':List ah} {off:Nat} {h:Option Nat} {v:AV} (hr:(JM l off h v).run=some l'):off<av l∧jL l off v=l':=by
 unfold JM at hr
 split at hr
 · rename_i k z n
   split at hr
   · rename_i k' x
     rw[j5] at hr
     split at hr
     · rename_i hk
       obtain ⟨hc,hr⟩:=Tr.aH hr
       rw[gf,decide_eq_true_eq] at hc
       refine ⟨by simp only[av,aI];omega,?_⟩
       simp only[jL]
       rw[if_pos hc,if_pos hk,← Tr.ab hr,mR]
     · exact (Tr.ae hr).elim
   · exact (Tr.ae hr).elim
 · split at hr
   · rw[cR] at hr;exact tb _ _ _ _ hr
   · have:=w7 _ _ _ _ _ _ hr
     rw[Nat.sub_zero] at this
     exact this.2
def zo (off:Nat) (h:Option Nat):List AV→Nat→List ah→Tr (List ah)
 | [],_,l=>.ok l
 | v::vs,j,l=>(JM l (Da off h j) (x7 h j) v).bind fun l'=>zo off h vs (Nat.succ j) l'
theorem ta {off:Nat} {h:Option Nat}:∀ (vs:List AV) (j:Nat) (l l':List ah),(zo off h vs j l).run=some l'→(vs=[]∨off+j+vs.length≤av l)∧Row.cE (.M l) (off+j) vs=.M l'
 | [],j,l,l',h=>⟨.inl rfl,by rw[Tr.ab h];rfl⟩
 | v :: vs,j,l,l',h=>by
   simp only[zo] at h
   obtain ⟨l1,h1,h⟩:=Tr.bind_some h
   obtain ⟨k1,k2⟩:=Hn h1
   rw[rz] at k1 k2
   obtain ⟨k3,k4⟩:=ta vs (j+1) l1 l' h
   have hl:av l1=av l:=by rw[← k2,mF]
   refine ⟨.inr ?_,?_⟩
   · rcases k3 with rfl | k3
     · simp only[List.length_cons,List.length_nil];omega
     · simp only[List.length_cons];omega
   · simp only[Row.cE,Row.set,k2]
     exact k4
def Fk (l:List ah) (off:Nat) (h:Option Nat) (q:Row):Tr Row :=
 match l,q with
 | [.arr k z m],.M [.arr k' z' n]=>cond (gu k' k) (.req (iB off n 0 m) (.ok (.M [.arr k (iO z off z' n) m]))) .bad
 | l,q=>cond (Nat.ble 9 (iu q)) (match h with
    | none=>cond (Nat.ble (Nat.add off (iu q)) (av l)) (.ok (wN l off q)) .bad
    | some _=>.bad)
   (match ll q with
     | []=>.bad
     | v::vs=>(zo off h (v::vs) 0 l).bind fun l'=>.ok (.M l'))
theorem wO {l:List ah} {off:Nat} {h:Option Nat} {q r:Row} (hr:(Fk l off h q).run=some r):off+q.len≤av l∧jJ (.M l) off q=r:=by
 unfold Fk at hr
 split at hr
 · rename_i k z m k' z' n
   rw[j5] at hr
   split at hr
   · rename_i hk
     obtain ⟨hc,hr⟩:=Tr.aH hr
     rw[gG,decide_eq_true_eq] at hc
     refine ⟨by simp only[Row.len,av,aI];omega,?_⟩
     simp only[jJ]
     rw[if_pos hk,← Tr.ab hr,Gd]
   · exact (Tr.ae hr).elim
 · rename_i hne
   have hA:jJ (.M l) off q=wN l off q:=by
    simp only[jJ]
    split
    · rename_i k z m
      split
      · rename_i k' z' n
        exact (hne _ _ _ _ _ _ rfl rfl).elim
      · rfl
    · rfl
   rw[hA]
   rw[fg] at hr
   cases hb:Nat.ble 9 q.len with
   | true =>
     rw[hb,cond_true] at hr
     split at hr
     · cases hc:Nat.ble (Nat.add off q.len) (av l) with
       | true =>
         rw[hc,cond_true] at hr
         rw[Nat.ble_eq] at hc
         exact ⟨hc,Tr.ab hr⟩
       | false=>rw[hc,cond_false] at hr;exact (Tr.ae hr).elim
     · exact (Tr.ae hr).elim
   | false =>
     rw[hb,cond_false,nX] at hr
     have hl:=Row.bf q
     split at hr
     · exact (Tr.ae hr).elim
     · rename_i v vs hq
       obtain ⟨l1,h1,hr⟩:=Tr.bind_some hr
       obtain ⟨k1,k2⟩:=ta _ _ _ _ h1
       rw[hq] at hl
       refine ⟨?_,?_⟩
       · rcases k1 with k1 | k1
         · simp at k1
         · omega
       · unfold wN
         rw[hb,if_neg (by simp),hq,← Tr.ab hr,← k2];rfl
def JA (d:Nat) (x:AV):Bool :=
 match d with
 | 0=>false
 | _+1=>match x with
   | .slc 0 _ _ _ _ _ _=>true
   | _=>false
def storeT (P:Program) (H:aa) (t:TypeId) (a:HV) (x:AV):Tr Delta :=
 match a.1 with
 | .ptr d i v off=>cond (JA d x) (match a.2 with | none=>vi (pg P H t a.1 x) | some _=>.bad)
   (cond (fo H d) .bad ((wU H d i v a.2).bind fun r=>match bh P t with
     | some n=>match x.row with
       | some q=>cond (Nat.beq (iu q) n) (match r with
         | .M l=>(Fk l off a.2 (lr d q)).bind fun r'=>.ok (.set d i (v,.row r'))
         | _=>match a.2 with | none=>vi (pg P H t a.1 x) | some _=>.bad) .bad
       | none=>.bad
     | none=>.bad))
 | _=>.bad
theorem Dw {P:Program} {H:aa} {t:TypeId} {a:HV} {x:AV} {δ:Delta} (hr:(storeT P H t a x).run=some δ):gk P H t a.1 x=some δ:=by
 unfold storeT at hr
 split at hr
 · rename_i d i v off ha
   cases ho:JA d x with
   | true =>
     rw[ho,cond_true] at hr
     split at hr
     · rw[cR,nU] at hr;exact hr
     · exact (Tr.ae hr).elim
   | false =>
     rw[ho,cond_false,dW] at hr
     cases hl:au H d with
     | true=>rw[hl,cond_true] at hr;exact (Tr.ae hr).elim
     | false =>
       rw[hl,cond_false] at hr
       obtain ⟨r,h1,hr⟩:=Tr.bind_some hr
       split at hr
       · rename_i n hs
         split at hr
         · rename_i q hq
           rw[fg] at hr
           cases hb:Nat.beq q.len n with
           | false=>rw[hb,cond_false] at hr;exact (Tr.ae hr).elim
           | true =>
             rw[hb,cond_true] at hr
             have hb:q.len=n:=by simpa using hb
             split at hr
             · rename_i l
               obtain ⟨r',h2,hr⟩:=Tr.bind_some hr
               obtain ⟨k1,k2⟩:=wO h2
               rw[fh] at k1
               rw[ha]
               unfold gk
               dsimp only
               rw[hl,if_neg (by simp),la h1,hs,hq]
               dsimp only
               rw[if_pos ⟨hb,by show off+n≤av l;omega⟩]
               have:∀ (d':Nat) (j w o sz len:Nat) (cap:Option Nat),d=d'+1→x≠.slc 0 j w o sz len cap:=by
                rintro d' j w o sz len cap rfl rfl
                simp[JA] at ho
               rw[← Tr.ab hr,← k2]
               split
               · exact absurd rfl (this _ _ _ _ _ _ _ rfl)
               · rfl
             · split at hr
               · rw[cR,nU] at hr;exact hr
               · exact (Tr.ae hr).elim
         · exact (Tr.ae hr).elim
       · exact (Tr.ae hr).elim
 · exact (Tr.ae hr).elim

def hOr (h:Option Nat) (off:Nat):Nat :=
 match h with
 | none=>off
 | some h=>h
def nv (P:Program) (t:TypeId) (a:HV) (f:Nat):Tr HV :=
 match P.underlying t with
 | some (.struct fs)=>match fs[f]? with
   | some g=>match bh P g.type with
     | some (_+1)=>match a.1 with
       | .ptr d i v off=>.ok (.ptr d i v (Da off a.2 g.offset),x7 a.2 g.offset)
       | .ptrT s r off=>.ok (.ptrT s r (Da off a.2 g.offset),x7 a.2 g.offset)
       | _=>.bad
     | _=>.bad
   | none=>.bad
 | _=>.bad
theorem tM {P:Program} {t:TypeId} {a b:HV} {f:Nat} (hr:(nv P t a f).run=some b):gA P t a.1 f=some b.1:=by
 unfold nv at hr
 unfold gA
 split at hr
 · rename_i fs hu
   rw[hu]
   dsimp only
   split at hr
   · rename_i g hg
     rw[hg]
     dsimp only
     split at hr
     · rename_i n hs
       rw[hs]
       dsimp only
       split at hr
       · rename_i d i v off ha
         rw[ha,← Tr.ab hr];simp only[ku,rz]
       · rename_i s r off ha
         rw[ha,← Tr.ab hr];simp only[ku,rz]
       · exact (Tr.ae hr).elim
     · exact (Tr.ae hr).elim
   · exact (Tr.ae hr).elim
 · exact (Tr.ae hr).elim
def isLit (x:HV):Bool :=
 match x.2 with
 | some _=>true
 | none=>false
def Fa (off:Nat) (ic:Bool) (i:Int) (z:Nat):Nat:=cond ic (Nat.add off (Nat.mul i.toNat z)) (ay off i z)
theorem ry (off:Nat) (ic:Bool) (i:Int) (z:Nat):Fa off ic i z=off+i.toNat*z:=by
 cases ic with
 | true=>rfl
 | false=>exact kO _ _ _
def Bt (h:Option Nat) (off:Nat) (ic:Bool) (i:Int) (z:Nat):Option Nat :=
 cond ic (x7 h (Nat.mul i.toNat z)) (some (hOr h off))
def I8 (P:Program) (t:TypeId) (a:HV) (ic:Bool) (i:Int):Tr HV :=
 match P.underlying t with
 | some (.array n e)=>match bh P e with
   | some z=>match a.1 with
     | .ptr d j v off=>.req (dv i n) (.ok (.ptr d j v (Fa off ic i z),Bt a.2 off ic i z))
     | .ptrT s r off=>.req (dv i n) (.ok (.ptrT s r (Fa off ic i z),Bt a.2 off ic i z))
     | _=>.bad
   | none=>.bad
 | some (.slice e)=>match bh P e with
   | some z=>match a.1 with
     | .slc d j v off sz len cap=>cond (Nat.beq z sz) (.req (dv i len) (.ok (.ptr d j v (Fa off ic i z),match cap with
       | some _=>Bt none off ic i z
       | none=>some off))) .bad
     | .slcT s r sz len _=>cond (Nat.beq z sz) (.req (dv i len) (.ok (.ptrT s r (Fa 0 ic i z),Bt none 0 ic i z))) .bad
     | _=>.bad
   | none=>.bad
 | _=>.bad
def MW (P:Program) (t:TypeId) (x:AV) (ic:Bool) (i:Int):Tr AV :=
 cond ic (vi (pT P t x i)) (match P.underlying t with
  | some (.array n e)=>match x with
    | .agg r=>match bh P e with
      | some z=>.req (dv i n) (ze P e r (ay 0 i z) (some 0))
      | none=>.bad
    | _=>.bad
  | _=>.bad)
theorem Je {P:Program} {t:TypeId} {x v:AV} {ic:Bool} {i:Int} (hr:(MW P t x ic i).run=some v):pT P t x i=some v:=by
 unfold MW at hr
 cases ic with
 | true=>rw[cond_true,cR] at hr;exact hr
 | false =>
   rw[cond_false] at hr
   split at hr
   · rename_i n e hu
     split at hr
     · split at hr
       · rename_i z hs
         obtain ⟨hc,hr⟩:=Tr.aH hr
         rw[pS,decide_eq_true_eq] at hc
         have h:=sY hr
         rw[kO,Nat.zero_add] at h
         unfold pT
         rw[hu]
         dsimp only
         rw[hs]
         dsimp only
         rw[if_pos hc,h]
       · exact (Tr.ae hr).elim
     · exact (Tr.ae hr).elim
   · exact (Tr.ae hr).elim
theorem Gw {P:Program} {t:TypeId} {a b:HV} {ic:Bool} {i:Int} (hr:(I8 P t a ic i).run=some b):fq P t a.1 i=some b.1:=by
 unfold I8 at hr
 unfold fq
 split at hr
 · rename_i n e hu
   split at hr
   · rename_i z hs
     split at hr
     · rename_i d j v off ha
       obtain ⟨hc,hr⟩:=Tr.aH hr
       rw[pS,decide_eq_true_eq] at hc
       rw[hu,ha]
       dsimp only
       rw[hs]
       dsimp only
       rw[if_pos hc,← Tr.ab hr]
       simp only[ku,ry]
     · rename_i s r off ha
       obtain ⟨hc,hr⟩:=Tr.aH hr
       rw[pS,decide_eq_true_eq] at hc
       rw[hu,ha]
       dsimp only
       rw[hs]
       dsimp only
       rw[if_pos hc,← Tr.ab hr]
       simp only[ku,ry]
     · exact (Tr.ae hr).elim
   · exact (Tr.ae hr).elim
 · rename_i e hu
   split at hr
   · rename_i z hs
     split at hr
     · rename_i d j v off sz len cap ha
       cases hb:Nat.beq z sz with
       | false=>rw[hb,cond_false] at hr;exact (Tr.ae hr).elim
       | true =>
         rw[hb,cond_true] at hr
         have hb:z=sz:=by simpa using hb
         subst hb
         obtain ⟨hc,hr⟩:=Tr.aH hr
         rw[pS,decide_eq_true_eq] at hc
         rw[hu,ha]
         dsimp only
         rw[if_pos ⟨hc.1,hc.2,hs⟩,← Tr.ab hr]
         simp only[ry]
     · rename_i s r sz len full ha
       cases hb:Nat.beq z sz with
       | false=>rw[hb,cond_false] at hr;exact (Tr.ae hr).elim
       | true =>
         rw[hb,cond_true] at hr
         have hb:z=sz:=by simpa using hb
         subst hb
         obtain ⟨hc,hr⟩:=Tr.aH hr
         rw[pS,decide_eq_true_eq] at hc
         rw[hu,ha]
         dsimp only
         rw[if_pos ⟨hc.1,hc.2,hs⟩,← Tr.ab hr]
         simp only[ry,Nat.zero_add]
     · exact (Tr.ae hr).elim
   · exact (Tr.ae hr).elim
 · exact (Tr.ae hr).elim

end
end Go.Eng
