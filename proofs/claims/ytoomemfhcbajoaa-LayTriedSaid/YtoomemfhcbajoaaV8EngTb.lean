/- The engine as a tree: frames with hints, rows, loads, stores, addresses. -/
import Derived.Test.YtoomemfhcbajoaaV8EngOrax2
set_option linter.unusedVariables false
set_option linter.unusedSimpArgs false
namespace Go.Eng
noncomputable section

abbrev HV:=AV×Option Nat
abbrev aC:=List (Nat×HV)
def strip (f:aC):aq:=List.rec (motive:=fun _=>aq) [] (fun p _ ih=>(p.1,p.2.1)::ih) f
theorem cQ (x:Nat) (v:HV) (r:aC):strip ((x,v)::r)=(x,v.1)::strip r:=rfl
def lh (f:aC) (y:Nat):HV:=List.rec (motive:=fun _=>HV) (AV.undef,none) (fun p _ ih=>Bool.rec ih p.2 (Nat.beq p.1 y)) f
theorem fe:∀ (f:aC) (y:Nat),(lh f y).1=bk (strip f) y
 | [],y=>rfl
 | (x,v)::r,y=>by
   have e:lh ((x,v)::r) y=Bool.rec (lh r y) v (Nat.beq x y):=rfl
   rw[e,cQ,bk]
   cases Nat.beq x y with
   | true=>rfl
   | false=>exact fe r y
def xH (f:aC) (y:Nat) (u:HV):aC:=List.rec (motive:=fun _=>aC) [(y,u)] (fun p r ih=>Bool.rec (motive:=fun _=>aC) (p::ih) (Bool.rec (motive:=fun _=>aC) ((y,u)::p::r) ((y,u)::r) (Nat.beq p.1 y)) (Nat.ble y p.1)) f
theorem xI:∀ (f:aC) (y:Nat) (u:HV),strip (xH f y u)=tx (strip f) y u.1
 | [],y,u=>rfl
 | (x,v)::r,y,u=>by
   have e:xH ((x,v)::r) y u=Bool.rec (motive:=fun _=>aC) ((x,v)::xH r y u) (Bool.rec (motive:=fun _=>aC) ((y,u)::(x,v)::r) ((y,u)::r) (Nat.beq x y)) (Nat.ble y x):=rfl
   rw[e,cQ,tx,← xI r y u]
   cases Nat.ble y x with
   | false=>rfl
   | true=>cases Nat.beq x y<;>rfl
def gv (f:aC) (m:Nat):aC:=List.rec (motive:=fun _=>aC) [] (fun p _ ih=>Bool.rec (motive:=fun _=>aC) (p::ih) ih (Nat.beq (Nat.land (Nat.shiftRight m p.1) 1) 1)) f
theorem eM:∀ (f:aC) (m:Nat),strip (gv f m)=bG (strip f) m
 | [],m=>rfl
 | (x,v)::r,m=>by
   have e:gv ((x,v)::r) m=Bool.rec (motive:=fun _=>aC) ((x,v)::gv r m) (gv r m) (Nat.beq (Nat.land (Nat.shiftRight m x) 1) 1):=rfl
   have e2:bG ((x,v.1)::strip r) m=Bool.rec (motive:=fun _=>aq) ((x,v.1)::bG (strip r) m) (bG (strip r) m) (Nat.beq (Nat.land (Nat.shiftRight m x) 1) 1):=rfl
   rw[e,cQ,e2,← eM r m]
   cases Nat.beq (Nat.land (Nat.shiftRight m x) 1) 1<;>rfl
def Nx (v:Value):Option Nat :=
 match v with
 | .int _ _=>some 1
 | .bool _=>some 1
 | _=>none
def bQ (fr:aC) (x:Operand):HV:=Operand.rec (motive:=fun _=>HV) (fun t=>lh fr t) (fun v=>(ku v,Nx v)) (fun _=>(.undef,none)) (fun f=>(.fn (.func f) [] [],none)) x
theorem aH (fr:aC) (x:Operand):(bQ fr x).1=bE (strip fr) x:=by
 cases x with
 | tmp t=>exact fe fr t
 | _=>rfl
def yA (fr:aC) (l:List Operand):List AV:=nv (fun x=>(bQ fr x).1) l
theorem sD (fr:aC):∀ l,yA fr l=jA (strip fr) l
 | []=>rfl
 | x::l=>by
   have e:yA fr (x::l)=(bQ fr x).1::yA fr l:=rfl
   rw[e,sD fr l,aH];rfl
def qE (nt:Nat) (fr:aC) (dst:Option Tmp) (v:HV):aC:=Option.rec (motive:=fun _=>aC) fr (fun d=>Bool.rec (motive:=fun _=>aC) fr (xH fr d v) (Nat.ble (Nat.succ d) nt)) dst
theorem lY (nt:Nat) (fr:aC) (dst:Option Tmp) (v:HV):strip (qE nt fr dst v)=di nt (strip fr) dst v.1:=by
 rw[← oW]
 cases dst with
 | none=>rfl
 | some d =>
   have e:qE nt fr (some d) v=Bool.rec (motive:=fun _=>aC) fr (xH fr d v) (Nat.ble (Nat.succ d) nt):=rfl
   have e2:qF nt (strip fr) (some d) v.1=Bool.rec (motive:=fun _=>aq) (strip fr) (uu (strip fr) d v.1) (Nat.ble (Nat.succ d) nt):=rfl
   rw[e,e2,xt,← xI]
   cases Nat.ble (Nat.succ d) nt<;>rfl

def qp:List ah→Nat→Option AV
 | [],_=>none
 | .one v::r,j=>match j with
   | 0=>some v
   | j+1=>qp r j
 | .arr k z n::r,j=>cond (Nat.blt j n) (some (.int k (z j))) (qp r (Nat.sub j n))
theorem AU {a b:Nat} (h:Nat.blt a b=true):a<b:=by rwa [Nat.blt_eq] at h
theorem HG {a b:Nat} (h:Nat.blt a b=false):¬ a<b:=fun e=>by
 have:Nat.blt a b=true:=by rw[Nat.blt_eq];exact e
 rw[h] at this;cases this
theorem r6:∀ (l:List ah) (j:Nat) (v:AV),qp l j=some v→j<au l∧getM l j=v
 | [],_,_,h=>by simp[qp] at h
 | .one u::r,0,v,h=>by
   simp only[qp,Option.some.injEq] at h
   exact ⟨by simp only[au,aE];omega,h⟩
 | .one u::r,j+1,v,h=>by
   have:=r6 r j v (by simpa[qp] using h)
   exact ⟨by simp only[au,aE];omega,this.2⟩
 | .arr k z n::r,j,v,h=>by
   simp only[qp] at h
   simp only[au,aE,getM]
   cases hb:Nat.blt j n with
   | true =>
     rw[hb,cond_true,Option.some.injEq] at h
     have:=AU hb
     exact ⟨by omega,by rw[if_pos this];exact h⟩
   | false =>
     rw[hb,cond_false] at h
     have hn:=HG hb
     have:=r6 r (j-n) v h
     exact ⟨by omega,by rw[if_neg hn];exact this.2⟩
def FB:List ah→Nat→Nat→Nat→Tr AV
 | [],_,_,_=>.bad
 | .one _::r,pos,h,off=>match h with
   | 0=>.bad
   | h+1=>FB r (Nat.succ pos) h off
 | .arr k z n::r,pos,h,off=>cond (Nat.blt h n) (.req (kH off 1 pos n) (.ok (.int k (z (s4 off pos))))) (FB r (Nat.add pos n) (Nat.sub h n) off)
theorem wL:∀ (l:List ah) (pos h off:Nat) (v:AV),(FB l pos h off).run=some v→pos≤off∧off-pos<au l∧getM l (off-pos)=v
 | [],_,_,_,_,h=>(Tr.ae h).elim
 | .one _::r,pos,0,off,v,h=>(Tr.ae h).elim
 | .one u::r,pos,h'+1,off,v,h=>by
   obtain ⟨h1,h2,h3⟩:=wL r (pos+1) h' off v h
   refine ⟨by omega,by simp only[au,aE];omega,?_⟩
   rw[show off-pos=(off-(pos+1))+1 by omega]
   exact h3
 | .arr k z n::r,pos,h',off,v,h=>by
   simp only[FB] at h
   cases hb:Nat.blt h' n with
   | true =>
     rw[hb,cond_true] at h
     obtain ⟨hc,h⟩:=Tr.aD h
     rw[gx,decide_eq_true_eq] at hc
     have h:=Tr.ab h
     refine ⟨hc.1,by simp only[au,aE];omega,?_⟩
     simp only[getM]
     rw[if_pos (by omega),← h,kV]
   | false =>
     rw[hb,cond_false] at h
     obtain ⟨h1,h2,h3⟩:=wL r (pos+n) (h'-n) off v h
     refine ⟨by omega,by simp only[au,aE];omega,?_⟩
     simp only[getM]
     rw[if_neg (by omega),← h3]
     congr 1;omega
def BX (r:Row) (off:Nat) (h:Option Nat):Tr AV :=
 match r with
 | .F f n=>.req (dg off n) (.ok (f off))
 | .M l=>match l with
   | [.arr k z n]=>.req (dg off n) (.ok (.int k (z off)))
   | l=>match h with
     | none=>uV (qp l off)
     | some h=>FB l 0 h off
 | .I k l=>match h with
   | none=>uV (jq (.I k l) off)
   | some _=>.req (dg off (Jh l)) (.ok (.int k (aK l off)))
 | .G l=>match h with
   | none=>uV (jq (.G l) off)
   | some _=>.bad
theorem yT {r:Row} {off:Nat} {v:AV} (h:jq r off=some v):off<r.len∧r.get off=v:=by
 rw[sN] at h
 split at h
 · rename_i h0;exact ⟨h0,Option.some.inj h⟩
 · simp at h
theorem yO {r:Row} {off:Nat} {h:Option Nat} {v:AV} (hr:(BX r off h).run=some v):off<r.len∧r.get off=v:=by
 unfold BX at hr
 split at hr
 · obtain ⟨hc,hr⟩:=Tr.aD hr
   rw[gd,decide_eq_true_eq] at hc
   exact ⟨hc,Tr.ab hr⟩
 · rename_i l
   split at hr
   · rename_i k z n
     obtain ⟨hc,hr⟩:=Tr.aD hr
     rw[gd,decide_eq_true_eq] at hc
     refine ⟨by simp only[Row.len,au,aE];omega,?_⟩
     simp only[Row.get,getM]
     rw[if_pos hc];exact Tr.ab hr
   · split at hr
     · rw[cH] at hr;exact r6 _ _ _ hr
     · have:=wL _ _ _ _ _ hr
       rw[Nat.sub_zero] at this
       exact this.2
 · split at hr
   · rw[cH] at hr;exact yT hr
   · obtain ⟨hc,hr⟩:=Tr.aD hr
     rw[gd,decide_eq_true_eq,GC] at hc
     refine ⟨hc,?_⟩
     rw[← Tr.ab hr,BA];rfl
 · split at hr
   · rw[cH] at hr;exact yT hr
   · exact (Tr.ae hr).elim
def Da (off:Nat) (h:Option Nat) (j:Nat):Nat :=
 match h with
 | none=>Nat.add off j
 | some _=>match j with
   | 0=>off
   | j+1=>cM off (Nat.succ j)
theorem rj (off:Nat) (h:Option Nat) (j:Nat):Da off h j=off+j:=by
 unfold Da
 split
 · rfl
 · split
   · rfl
   · rw[bK]
def xL (h:Option Nat) (j:Nat):Option Nat :=
 match h with
 | none=>none
 | some h=>some (Nat.add h j)
def BY (r:Row) (off:Nat) (h:Option Nat):Nat→Nat→Tr (List AV)
 | _,0=>.ok []
 | j,n+1=>(BX r (Da off h j) (xL h j)).bind fun v=>(BY r off h (Nat.succ j) n).bind fun l=>.ok (v::l)
theorem yP {r:Row} {off:Nat} {h:Option Nat}:∀ (n j:Nat) (l:List AV),(BY r off h j n).run=some l→l=da r.get (off+j) n∧(n=0∨off+j+n≤r.len)
 | 0,j,l,hr=>⟨(Tr.ab hr).symm,.inl rfl⟩
 | n+1,j,l,hr=>by
   simp only[BY] at hr
   obtain ⟨v,h1,hr⟩:=Tr.bind_some hr
   obtain ⟨m,h2,hr⟩:=Tr.bind_some hr
   have hr:=Tr.ab hr
   obtain ⟨k1,k2⟩:=yO h1
   obtain ⟨k3,k4⟩:=yP n (j+1) m h2
   rw[rj] at k1 k2
   refine ⟨?_,.inr (by omega)⟩
   rw[← hr,da,k2,k3,show off+(j+1)=off+j+1 by omega]
def FA:List ah→Nat→Nat→Nat→Nat→Tr AV
 | [],_,_,_,_=>.bad
 | .one _::r,pos,h,off,n=>match h with
   | 0=>.bad
   | h+1=>FA r (Nat.succ pos) h off n
 | .arr k z m::r,pos,h,off,n=>cond (Nat.blt h m) (.req (kH off n pos m) (.ok (.agg (.M [.arr k (ep z (s4 off pos)) n])))) (FA r (Nat.add pos m) (Nat.sub h m) off n)
theorem wK:∀ (l:List ah) (pos h off n:Nat) (v:AV),0<n→(FA l pos h off n).run=some v→pos≤off∧off-pos+n≤au l∧∃ k z,kU l (off-pos) n=some (k,z)∧v=.agg (.M [.arr k z n])
 | [],_,_,_,_,_,_,h=>(Tr.ae h).elim
 | .one _::r,pos,0,off,n,v,_,h=>(Tr.ae h).elim
 | .one u::r,pos,h'+1,off,n,v,hn,h=>by
   obtain ⟨h1,h2,k,z,h3,h4⟩:=wK r (pos+1) h' off n v hn h
   refine ⟨by omega,by simp only[au,aE];omega,k,z,?_,h4⟩
   rw[show off-pos=(off-(pos+1))+1 by omega]
   exact h3
 | .arr k z m::r,pos,h',off,n,v,hn,h=>by
   simp only[FA] at h
   cases hb:Nat.blt h' m with
   | true =>
     rw[hb,cond_true] at h
     obtain ⟨hc,h⟩:=Tr.aD h
     rw[gx,decide_eq_true_eq] at hc
     have h:=Tr.ab h
     refine ⟨hc.1,by simp only[au,aE];omega,k,fun j=>z (off-pos+j),?_,?_⟩
     · simp only[kU];rw[if_pos (by omega)]
     · rw[← h,l9,kV]
   | false =>
     rw[hb,cond_false] at h
     obtain ⟨h1,h2,k',z',h3,h4⟩:=wK r (pos+m) (h'-m) off n v hn h
     refine ⟨by omega,by simp only[au,aE];omega,k',z',?_,h4⟩
     simp only[kU]
     rw[if_neg (by omega),if_pos (by omega),← h3]
     congr 1;omega
def Fz:List ah→Nat→Nat→Option Row
 | [],_,_=>none
 | .one _::r,o+1,n=>Fz r o n
 | .one _::_,0,_=>none
 | .arr k z m::r,o,n=>cond (Nat.ble (Nat.add o n) m) (some (.M [.arr k (cond (Nat.beq o 0) z (ep z o)) n])) (cond (Nat.ble m o) (Fz r (Nat.sub o m) n) none)
theorem wJ:∀ (l:List ah) (o n:Nat) (q:Row),Fz l o n=some q→∃ k z,kU l o n=some (k,z)∧q=.M [.arr k z n]
 | [],_,_,_,h=>by cases h
 | .one u::r,o+1,n,q,h=>wJ r o n q h
 | .one _::_,0,_,_,h=>by cases h
 | .arr k z m::r,o,n,q,h=>by
   simp only[Fz] at h
   cases hb:Nat.ble (Nat.add o n) m with
   | true =>
     rw[hb,cond_true] at h
     have hle:o+n≤m:=Nat.le_of_ble_eq_true hb
     simp only[Option.some.injEq] at h
     refine ⟨k,fun j=>z (o+j),by simp only[kU];rw[if_pos hle],?_⟩
     rw[← h]
     cases ho:Nat.beq o 0 with
     | true =>
       have:=Nat.eq_of_beq_eq_true ho
       subst this
       simp only[cond_true,Nat.zero_add]
     | false=>rw[cond_false,l9]
   | false =>
     rw[hb,cond_false] at h
     cases hm:Nat.ble m o with
     | true =>
       rw[hm,cond_true] at h
       have hle:m≤o:=Nat.le_of_ble_eq_true hm
       have hnl:¬ (o+n≤m):=fun hc=>by
        have:Nat.ble (Nat.add o n) m=true:=by rw[Nat.ble_eq];exact hc
        rw[hb] at this;cases this
       obtain ⟨k',z',h1,h2⟩:=wJ r (o-m) n q h
       exact ⟨k',z',by simp only[kU];rw[if_neg hnl,if_pos hle];exact h1,h2⟩
     | false=>rw[hm,cond_false] at h;cases h
def yQ (P:Program) (t:TypeId) (r:Row) (off:Nat) (h:Option Nat):Tr AV :=
 match fb P t with
 | some false=>BX r off h
 | some true=>match ba P t with
   | some 0=>.bad
   | some (n+1)=>match r with
     | .M l=>cond (Nat.ble (Nat.succ n) 8) ((BY (.M l) off h 0 (Nat.succ n)).bind fun vs=>.ok (.agg (Row.ofList vs)))
       (match h with
       | none=>cond (Nat.ble (Nat.add off (Nat.succ n)) (au l)) (cond (Nat.beq (au l) (Nat.succ n)) (.ok (.agg ((Row.M l).cut off (Nat.succ n)))) (match Fz l off (Nat.succ n) with
         | some q=>.ok (.agg q)
         | none=>.ok (.agg ((Row.M l).cut off (Nat.succ n))))) .bad
       | some h=>cond (Nat.beq (au l) (Nat.succ n)) .bad (FA l 0 h off (Nat.succ n)))
     | .F f m=>.req (jz (cM off (Nat.succ n)) m) (.ok (.agg ((Row.F f m).cut off (Nat.succ n))))
     | .I k l=>match h with
       | none=>uV (pY P t (.I k l) off)
       | some _=>.bad
     | .G l=>match h with
       | none=>uV (pY P t (.G l) off)
       | some _=>.bad
   | none=>.bad
 | none=>.bad
theorem sM       {P : Program} {t:TypeId} {r:Row} {off:Nat} {h:Option Nat} {v:AV} (hr:(yQ P t r off h).run=some v):ib P t r off=some v:=by
 unfold yQ at hr
 split at hr
 · rename_i ha
   obtain ⟨h1,h2⟩:=yO hr
   unfold ib
   rw[ha]
   dsimp only
   rw[if_pos h1,h2]
 · rename_i ha
   split at hr
   · exact (Tr.ae hr).elim
   · rename_i n hs
     split at hr
     · rename_i l
       unfold ib
       rw[ha,hs]
       dsimp only
       cases hb:Nat.ble (Nat.succ n) 8 with
       | true =>
         rw[hb,cond_true] at hr
         obtain ⟨vs,h1,hr⟩:=Tr.bind_some hr
         have hr:=Tr.ab hr
         obtain ⟨k1,k2⟩:=yP _ _ _ h1
         rw[if_pos (by omega),← hr,k1]
         simp only[Row.cut]
         rw[show Nat.ble (n+1) 8=true from hb,if_pos rfl,Nat.add_zero]
         rfl
       | false =>
         rw[hb,cond_false] at hr
         split at hr
         · cases hc : Nat.ble (Nat.add off (Nat.succ n)) (au l) with
           | true =>
             rw[hc,cond_true] at hr
             rw[Nat.ble_eq] at hc
             rw[if_pos (show off+(n+1)≤(Row.M l).len from hc)]
             cases hq:Nat.beq (au l) (Nat.succ n) with
             | true=>rw[hq,cond_true] at hr;rw[← Tr.ab hr]
             | false =>
               rw[hq,cond_false] at hr
               split at hr
               · rename_i q hseg
                 obtain ⟨k,z,h3,h4⟩:=wJ _ _ _ _ hseg
                 simp only[Row.cut]
                 rw[show Nat.ble (n+1) 8=false from hb,if_neg (by simp),show Nat.beq (au l) (n+1)=false from hq,Bool.and_false,if_neg (by simp)]
                 have : Row.sub (.M l) off (n+1)=.M [.arr k z (n+1)]:=by
                  match l,h3,hq with
                  | [],h3,_=>simp[kU] at h3
                  | [.arr k' z' m],h3,hq =>
                    simp only[kU] at h3
                    split at h3
                    · simp only[nP] at h3
                      obtain ⟨rfl,rfl⟩:=h3
                      rfl
                    · split at h3<;>simp at h3
                  | .one u::r,h3,hq =>
                    simp only[Row.sub]
                    rw[show Nat.beq (au (.one u::r)) (n+1)=false from hq,Bool.and_false,h3]
                    rfl
                  | .arr k' z' m::s::r,h3,hq =>
                    simp only[Row.sub]
                    rw[show Nat.beq (au (.arr k' z' m::s::r)) (n+1)=false from hq,Bool.and_false,h3]
                    rfl
                 rw[this,← Tr.ab hr,h4]
               · rw[← Tr.ab hr]
           | false=>rw[hc,cond_false] at hr;exact (Tr.ae hr).elim
         · rename_i h
           cases hc:Nat.beq (au l) (Nat.succ n) with
           | true=>rw[hc,cond_true] at hr;exact (Tr.ae hr).elim
           | false =>
             rw[hc,cond_false] at hr
             obtain ⟨h1,h2,k,z,h3,h4⟩:=wK _ _ _ _ _ _ (Nat.succ_pos n) hr
             rw[Nat.sub_zero] at h2 h3
             rw[if_pos (show off+(n+1)≤(Row.M l).len from h2)]
             simp only[Row.cut]
             rw[show Nat.ble (n+1) 8=false from hb,if_neg (by simp),show Nat.beq (au l) (n+1)=false from hc,Bool.and_false,if_neg (by simp)]
             have : Row.sub (.M l) off (n+1)=.M [.arr k z (n+1)]:=by
              match l,h3,hc with
              | [],h3,_=>simp[kU] at h3
              | [.arr k' z' m],h3,hc =>
                simp only[kU] at h3
                split at h3
                · simp only[nP] at h3
                  obtain ⟨rfl,rfl⟩:=h3
                  rfl
                · split at h3<;>simp at h3
              | .one u::r,h3,hc =>
                simp only[Row.sub]
                rw[show Nat.beq (au (.one u::r)) (n+1)=false from hc,Bool.and_false,h3]
                rfl
              | .arr k' z' m::s::r,h3,hc =>
                simp only[Row.sub]
                rw[show Nat.beq (au (.arr k' z' m::s::r)) (n+1)=false from hc,Bool.and_false,h3]
                rfl
             rw[this,h4]
     · rename_i f m
       obtain ⟨hc,hr⟩:=Tr.aD hr
       rw[kK,decide_eq_true_eq,bK] at hc
       unfold ib
       rw[ha,hs]
       dsimp only
       rw[if_pos (show off+(n+1)≤(Row.F f m).len from hc),← Tr.ab hr]
     · split at hr
       · rw[cH,pZ] at hr;exact hr
       · exact (Tr.ae hr).elim
     · split at hr
       · rw[cH,pZ] at hr;exact hr
       · exact (Tr.ae hr).elim
   · exact (Tr.ae hr).elim
 · exact (Tr.ae hr).elim

def wI (H:aa) (d i v:Nat) (h:Option Nat):Tr Row :=
 match h with
 | none=>uV (xJ H d i v)
 | some _=>match eE H d i with
   | (ver,.row r)=>.req (cT ver v) (.ok r)
   | _=>.bad
theorem kS {H:aa} {d i v:Nat} {h:Option Nat} {r:Row} (hr:(wI H d i v h).run=some r):dx H d i v=some r:=by
 unfold wI at hr
 split at hr
 · rw[cH,r8] at hr;exact hr
 · rw[gS] at hr
   split at hr
   · rename_i ver q hg
     obtain ⟨hc,hr2⟩:=Tr.aD hr
     rw[gr,decide_eq_true_eq] at hc
     subst hc
     unfold dx
     rw[hg]
     simp only[Nat.beq_refl,if_true]
     rw[Tr.ab hr2]
   · exact (Tr.ae hr).elim
def loadT (P:Program) (H:aa) (t:TypeId) (a:HV):Tr AV :=
 match a.1 with
 | .ptr d i v off=>(wI H d i v a.2).bind fun r=>(yQ P t r off a.2).bind fun x=>.ok (fq d x)
 | .ptrT s r off=>(yQ P t r off a.2).bind fun x=>.ok (Ou s x)
 | _=>.bad
theorem yd {P:Program} {H:aa} {t:TypeId} {a:HV} {v:AV} (hr:(loadT P H t a).run=some v):lR P H t a.1=some v:=by
 unfold loadT at hr
 unfold lR
 split at hr
 · rename_i d i ver off ha
   obtain ⟨r,h1,hr⟩:=Tr.bind_some hr
   obtain ⟨x,h2,hr⟩:=Tr.bind_some hr
   rw[ha]
   dsimp only
   rw[kS h1]
   dsimp only
   rw[sM h2,← Tr.ab hr];rfl
 · rename_i s r off ha
   obtain ⟨x,h2,hr⟩:=Tr.bind_some hr
   rw[ha]
   dsimp only
   rw[sM h2,← Tr.ab hr];rfl
 · exact (Tr.ae hr).elim

def qM:List ah→Nat→AV→Option (List ah)
 | [],_,_=>none
 | .one u::r,j,v=>match j with
   | 0=>some (.one v::r)
   | j+1=>match qM r j v with
     | some r'=>some (.one u::r')
     | none=>none
 | .arr k z n::r,j,v=>cond (Nat.blt j n) (match v with
    | .int k' x=>cond (gn k' k) (some (.arr k (c7 z j x) n::r)) none
    | _=>none)
   (match qM r (Nat.sub j n) v with
     | some r'=>some (.arr k z n::r')
     | none=>none)
theorem sX:∀ (l:List ah) (j:Nat) (v:AV) (l':List ah),qM l j v=some l'→j<au l∧jD l j v=l'
 | [],_,_,_,h=>by simp[qM] at h
 | .one u::r,0,v,l',h=>by
   simp only[qM,Option.some.injEq] at h
   exact ⟨by simp only[au,aE];omega,h⟩
 | .one u::r,j+1,v,l',h=>by
   simp only[qM] at h
   split at h
   · rename_i r' hr
     have:=sX r j v r' hr
     simp only[Option.some.injEq] at h
     exact ⟨by simp only[au,aE];omega,by simp only[jD];rw[this.2];exact h⟩
   · simp at h
 | .arr k z n::r,j,v,l',h=>by
   simp only[qM] at h
   cases hb:Nat.blt j n with
   | true =>
     rw[hb,cond_true] at h
     have hj:=AU hb
     split at h
     · rename_i k' x
       rw[jV] at h
       split at h
       · rename_i hk
         simp only[Option.some.injEq] at h
         refine ⟨by simp only[au,aE];omega,?_⟩
         simp only[jD]
         rw[if_pos hj,if_pos hk,← h,kZ]
       · simp at h
     · simp at h
   | false =>
     rw[hb,cond_false] at h
     have hj:=HG hb
     split at h
     · rename_i r' hr
       have:=sX r (j-n) v r' hr
       simp only[Option.some.injEq] at h
       exact ⟨by simp only[au,aE];omega,by simp only[jD];rw[if_neg hj,this.2];exact h⟩
     · simp at h
def Dp:List ah→Nat→Nat→Nat→AV→Tr (List ah)
 | [],_,_,_,_=>.bad
 | .one u::r,pos,h,off,v=>match h with
   | 0=>.bad
   | h+1=>(Dp r (Nat.succ pos) h off v).bind fun r'=>.ok (.one u::r')
 | .arr k z n::r,pos,h,off,v=>cond (Nat.blt h n) (match v with
    | .int k' x=>cond (gn k' k) (.req (kH off 1 pos n) (.ok (.arr k (c7 z (s4 off pos) x) n::r))) .bad
    | _=>.bad)
   ((Dp r (Nat.add pos n) (Nat.sub h n) off v).bind fun r'=>.ok (.arr k z n::r'))
theorem wM:∀ (l:List ah) (pos h off:Nat) (v:AV) (l':List ah),(Dp l pos h off v).run=some l'→pos≤off∧off-pos<au l∧jD l (off-pos) v=l'
 | [],_,_,_,_,_,h=>(Tr.ae h).elim
 | .one _::r,pos,0,off,v,l',h=>(Tr.ae h).elim
 | .one u::r,pos,h'+1,off,v,l',h=>by
   simp only[Dp] at h
   obtain ⟨r',hr,h⟩:=Tr.bind_some h
   obtain ⟨h1,h2,h3⟩:=wM r (pos+1) h' off v r' hr
   refine ⟨by omega,by simp only[au,aE];omega,?_⟩
   rw[show off-pos=(off-(pos+1))+1 by omega,← Tr.ab h,← h3]
   rfl
 | .arr k z n::r,pos,h',off,v,l',h=>by
   simp only[Dp] at h
   cases hb:Nat.blt h' n with
   | true =>
     rw[hb,cond_true] at h
     split at h
     · rename_i k' x
       rw[jV] at h
       split at h
       · rename_i hk
         obtain ⟨hc,h⟩:=Tr.aD h
         rw[gx,decide_eq_true_eq] at hc
         refine ⟨hc.1,by simp only[au,aE];omega,?_⟩
         simp only[jD]
         rw[if_pos (by omega),if_pos hk,← Tr.ab h,kZ,kV]
       · exact (Tr.ae h).elim
     · exact (Tr.ae h).elim
   | false =>
     rw[hb,cond_false] at h
     obtain ⟨r',hr,h⟩:=Tr.bind_some h
     obtain ⟨h1,h2,h3⟩:=wM r (pos+n) (h'-n) off v r' hr
     refine ⟨by omega,by simp only[au,aE];omega,?_⟩
     simp only[jD]
     rw[if_neg (by omega),← Tr.ab h,← h3,show off-pos-n=off-(pos+n) by omega]
def JJ (l:List ah) (off:Nat) (h:Option Nat) (v:AV):Tr (List ah) :=
 match l with
 | [.arr k z n]=>match v with
   | .int k' x=>cond (gn k' k) (.req (dg off n) (.ok [.arr k (c7 z off x) n])) .bad
   | _=>.bad
 | l=>match h with
   | none=>uV (qM l off v)
   | some h=>Dp l 0 h off v
theorem Hi {l l':List ah} {off:Nat} {h:Option Nat} {v:AV} (hr:(JJ l off h v).run=some l'):off<au l∧jD l off v=l':=by
 unfold JJ at hr
 split at hr
 · rename_i k z n
   split at hr
   · rename_i k' x
     rw[jV] at hr
     split at hr
     · rename_i hk
       obtain ⟨hc,hr⟩:=Tr.aD hr
       rw[gd,decide_eq_true_eq] at hc
       refine ⟨by simp only[au,aE];omega,?_⟩
       simp only[jD]
       rw[if_pos hc,if_pos hk,← Tr.ab hr,kZ]
     · exact (Tr.ae hr).elim
   · exact (Tr.ae hr).elim
 · split at hr
   · rw[cH] at hr;exact sX _ _ _ _ hr
   · have:=wM _ _ _ _ _ _ hr
     rw[Nat.sub_zero] at this
     exact this.2
def y8 (off:Nat) (h:Option Nat):List AV→Nat→List ah→Tr (List ah)
 | [],_,l=>.ok l
 | v::vs,j,l=>(JJ l (Da off h j) (xL h j) v).bind fun l'=>y8 off h vs (Nat.succ j) l'
theorem sW {off:Nat} {h:Option Nat}:∀ (vs:List AV) (j:Nat) (l l':List ah),(y8 off h vs j l).run=some l'→(vs=[]∨off+j+vs.length≤au l)∧Row.b9 (.M l) (off+j) vs=.M l'
 | [],j,l,l',h=>⟨.inl rfl,by rw[Tr.ab h];rfl⟩
 | v :: vs,j,l,l',h=>by
   simp only[y8] at h
   obtain ⟨l1,h1,h⟩:=Tr.bind_some h
   obtain ⟨k1,k2⟩:=Hi h1
   rw[rj] at k1 k2
   obtain ⟨k3,k4⟩:=sW vs (j+1) l1 l' h
   have hl:au l1=au l:=by rw[← k2,mr]
   refine ⟨.inr ?_,?_⟩
   · rcases k3 with rfl | k3
     · simp only[List.length_cons,List.length_nil];omega
     · simp only[List.length_cons];omega
   · simp only[Row.b9,Row.set,k2]
     exact k4
def Fi (l:List ah) (off:Nat) (h:Option Nat) (q:Row):Tr Row :=
 match l,q with
 | [.arr k z m],.M [.arr k' z' n]=>cond (gn k' k) (.req (kH off n 0 m) (.ok (.M [.arr k (ik z off z' n) m]))) .bad
 | l,q=>cond (Nat.ble 9 (ie q)) (match h with
    | none=>cond (Nat.ble (Nat.add off (ie q)) (au l)) (.ok (wB l off q)) .bad
    | some _=>.bad)
   (match kY q with
     | []=>.bad
     | v::vs=>(y8 off h (v::vs) 0 l).bind fun l'=>.ok (.M l'))
theorem wC {l:List ah} {off:Nat} {h:Option Nat} {q r:Row} (hr:(Fi l off h q).run=some r):off+q.len≤au l∧jB (.M l) off q=r:=by
 unfold Fi at hr
 split at hr
 · rename_i k z m k' z' n
   rw[jV] at hr
   split at hr
   · rename_i hk
     obtain ⟨hc,hr⟩:=Tr.aD hr
     rw[gx,decide_eq_true_eq] at hc
     refine ⟨by simp only[Row.len,au,aE];omega,?_⟩
     simp only[jB]
     rw[if_pos hk,← Tr.ab hr,Gc]
   · exact (Tr.ae hr).elim
 · rename_i hne
   have hA:jB (.M l) off q=wB l off q:=by
    simp only[jB]
    split
    · rename_i k z m
      split
      · rename_i k' z' n
        exact (hne _ _ _ _ _ _ rfl rfl).elim
      · rfl
    · rfl
   rw[hA]
   rw[fj] at hr
   cases hb:Nat.ble 9 q.len with
   | true =>
     rw[hb,cond_true] at hr
     split at hr
     · cases hc:Nat.ble (Nat.add off q.len) (au l) with
       | true =>
         rw[hc,cond_true] at hr
         rw[Nat.ble_eq] at hc
         exact ⟨hc,Tr.ab hr⟩
       | false=>rw[hc,cond_false] at hr;exact (Tr.ae hr).elim
     · exact (Tr.ae hr).elim
   | false =>
     rw[hb,cond_false,nK] at hr
     have hl:=Row.aZ q
     split at hr
     · exact (Tr.ae hr).elim
     · rename_i v vs hq
       obtain ⟨l1,h1,hr⟩:=Tr.bind_some hr
       obtain ⟨k1,k2⟩:=sW _ _ _ _ h1
       rw[hq] at hl
       refine ⟨?_,?_⟩
       · rcases k1 with k1 | k1
         · simp at k1
         · omega
       · unfold wB
         rw[hb,if_neg (by simp),hq,← Tr.ab hr,← k2];rfl
def Jx (d:Nat) (x:AV):Bool :=
 match d with
 | 0=>false
 | _+1=>match x with
   | .slc 0 _ _ _ _ _ _=>true
   | _=>false
def storeT (P:Program) (H:aa) (t:TypeId) (a:HV) (x:AV):Tr Delta :=
 match a.1 with
 | .ptr d i v off=>cond (Jx d x) (match a.2 with | none=>uV (o6 P H t a.1 x) | some _=>.bad)
   (cond (fv H d) .bad ((wI H d i v a.2).bind fun r=>match ba P t with
     | some n=>match x.row with
       | some q=>cond (Nat.beq (ie q) n) (match r with
         | .M l=>(Fi l off a.2 (lf d q)).bind fun r'=>.ok (.set d i (v,.row r'))
         | _=>match a.2 with | none=>uV (o6 P H t a.1 x) | some _=>.bad) .bad
       | none=>.bad
     | none=>.bad))
 | _=>.bad
theorem Dv {P:Program} {H:aa} {t:TypeId} {a:HV} {x:AV} {δ:Delta} (hr:(storeT P H t a x).run=some δ):gk P H t a.1 x=some δ:=by
 unfold storeT at hr
 split at hr
 · rename_i d i v off ha
   cases ho:Jx d x with
   | true =>
     rw[ho,cond_true] at hr
     split at hr
     · rw[cH,nJ] at hr;exact hr
     · exact (Tr.ae hr).elim
   | false =>
     rw[ho,cond_false,dQ] at hr
     cases hl:ar H d with
     | true=>rw[hl,cond_true] at hr;exact (Tr.ae hr).elim
     | false =>
       rw[hl,cond_false] at hr
       obtain ⟨r,h1,hr⟩:=Tr.bind_some hr
       split at hr
       · rename_i n hs
         split at hr
         · rename_i q hq
           rw[fj] at hr
           cases hb:Nat.beq q.len n with
           | false=>rw[hb,cond_false] at hr;exact (Tr.ae hr).elim
           | true =>
             rw[hb,cond_true] at hr
             have hb:q.len=n:=by simpa using hb
             split at hr
             · rename_i l
               obtain ⟨r',h2,hr⟩:=Tr.bind_some hr
               obtain ⟨k1,k2⟩:=wC h2
               rw[fk] at k1
               rw[ha]
               unfold gk
               dsimp only
               rw[hl,if_neg (by simp),kS h1,hs,hq]
               dsimp only
               rw[if_pos ⟨hb,by show off+n≤au l;omega⟩]
               have:∀ (d':Nat) (j w o sz len:Nat) (cap:Option Nat),d=d'+1→x≠.slc 0 j w o sz len cap:=by
                rintro d' j w o sz len cap rfl rfl
                simp[Jx] at ho
               rw[← Tr.ab hr,← k2]
               split
               · exact absurd rfl (this _ _ _ _ _ _ _ rfl)
               · rfl
             · split at hr
               · rw[cH,nJ] at hr;exact hr
               · exact (Tr.ae hr).elim
         · exact (Tr.ae hr).elim
       · exact (Tr.ae hr).elim
 · exact (Tr.ae hr).elim

def hOr (h:Option Nat) (off:Nat):Nat :=
 match h with
 | none=>off
 | some h=>h
def nf (P:Program) (t:TypeId) (a:HV) (f:Nat):Tr HV :=
 match P.underlying t with
 | some (.struct fs)=>match fs[f]? with
   | some g=>match ba P g.type with
     | some (_+1)=>match a.1 with
       | .ptr d i v off=>.ok (.ptr d i v (Da off a.2 g.offset),xL a.2 g.offset)
       | .ptrT s r off=>.ok (.ptrT s r (Da off a.2 g.offset),xL a.2 g.offset)
       | _=>.bad
     | _=>.bad
   | none=>.bad
 | _=>.bad
theorem tz {P:Program} {t:TypeId} {a b:HV} {f:Nat} (hr:(nf P t a f).run=some b):gu P t a.1 f=some b.1:=by
 unfold nf at hr
 unfold gu
 split at hr
 · rename_i fs hu
   rw[hu]
   dsimp only
   split at hr
   · rename_i g hg
     rw[hg]
     dsimp only
     split at hr
     · rename_i n hs
       rw[hs]
       dsimp only
       split at hr
       · rename_i d i v off ha
         rw[ha,← Tr.ab hr];simp only[kg,rj]
       · rename_i s r off ha
         rw[ha,← Tr.ab hr];simp only[kg,rj]
       · exact (Tr.ae hr).elim
     · exact (Tr.ae hr).elim
   · exact (Tr.ae hr).elim
 · exact (Tr.ae hr).elim
def isLit (x:HV):Bool :=
 match x.2 with
 | some _=>true
 | none=>false
def EZ (off:Nat) (ic:Bool) (i:Int) (z:Nat):Nat:=cond ic (Nat.add off (Nat.mul i.toNat z)) (aA off i z)
theorem ri (off:Nat) (ic:Bool) (i:Int) (z:Nat):EZ off ic i z=off+i.toNat*z:=by
 cases ic with
 | true=>rfl
 | false=>exact kG _ _ _
def Bl (h:Option Nat) (off:Nat) (ic:Bool) (i:Int) (z:Nat):Option Nat :=
 cond ic (xL h (Nat.mul i.toNat z)) (some (hOr h off))
def I4 (P:Program) (t:TypeId) (a:HV) (ic:Bool) (i:Int):Tr HV :=
 match P.underlying t with
 | some (.array n e)=>match ba P e with
   | some z=>match a.1 with
     | .ptr d j v off=>.req (dJ i n) (.ok (.ptr d j v (EZ off ic i z),Bl a.2 off ic i z))
     | .ptrT s r off=>.req (dJ i n) (.ok (.ptrT s r (EZ off ic i z),Bl a.2 off ic i z))
     | _=>.bad
   | none=>.bad
 | some (.slice e)=>match ba P e with
   | some z=>match a.1 with
     | .slc d j v off sz len cap=>cond (Nat.beq z sz) (.req (dJ i len) (.ok (.ptr d j v (EZ off ic i z),match cap with
       | some _=>Bl none off ic i z
       | none=>some off))) .bad
     | .slcT s r sz len _=>cond (Nat.beq z sz) (.req (dJ i len) (.ok (.ptrT s r (EZ 0 ic i z),Bl none 0 ic i z))) .bad
     | _=>.bad
   | none=>.bad
 | _=>.bad
def MG (P:Program) (t:TypeId) (x:AV) (ic:Bool) (i:Int):Tr AV :=
 cond ic (uV (pL P t x i)) (match P.underlying t with
  | some (.array n e)=>match x with
    | .agg r=>match ba P e with
      | some z=>.req (dJ i n) (yQ P e r (aA 0 i z) (some 0))
      | none=>.bad
    | _=>.bad
  | _=>.bad)
theorem Ja {P:Program} {t:TypeId} {x v:AV} {ic:Bool} {i:Int} (hr:(MG P t x ic i).run=some v):pL P t x i=some v:=by
 unfold MG at hr
 cases ic with
 | true=>rw[cond_true,cH] at hr;exact hr
 | false =>
   rw[cond_false] at hr
   split at hr
   · rename_i n e hu
     split at hr
     · split at hr
       · rename_i z hs
         obtain ⟨hc,hr⟩:=Tr.aD hr
         rw[pK,decide_eq_true_eq] at hc
         have h:=sM hr
         rw[kG,Nat.zero_add] at h
         unfold pL
         rw[hu]
         dsimp only
         rw[hs]
         dsimp only
         rw[if_pos hc,h]
       · exact (Tr.ae hr).elim
     · exact (Tr.ae hr).elim
   · exact (Tr.ae hr).elim
theorem Gu {P:Program} {t:TypeId} {a b:HV} {ic:Bool} {i:Int} (hr:(I4 P t a ic i).run=some b):fy P t a.1 i=some b.1:=by
 unfold I4 at hr
 unfold fy
 split at hr
 · rename_i n e hu
   split at hr
   · rename_i z hs
     split at hr
     · rename_i d j v off ha
       obtain ⟨hc,hr⟩:=Tr.aD hr
       rw[pK,decide_eq_true_eq] at hc
       rw[hu,ha]
       dsimp only
       rw[hs]
       dsimp only
       rw[if_pos hc,← Tr.ab hr]
       simp only[kg,ri]
     · rename_i s r off ha
       obtain ⟨hc,hr⟩:=Tr.aD hr
       rw[pK,decide_eq_true_eq] at hc
       rw[hu,ha]
       dsimp only
       rw[hs]
       dsimp only
       rw[if_pos hc,← Tr.ab hr]
       simp only[kg,ri]
     · exact (Tr.ae hr).elim
   · exact (Tr.ae hr).elim
 · rename_i e hu
   split at hr
   · rename_i z hs
     split at hr
     · rename_i d j v off sz len cap ha
       cases hb:Nat.beq z sz with
       | false=>rw[hb,cond_false] at hr;exact (Tr.ae hr).elim
       | true =>
         rw[hb,cond_true] at hr
         have hb:z=sz:=by simpa using hb
         subst hb
         obtain ⟨hc,hr⟩:=Tr.aD hr
         rw[pK,decide_eq_true_eq] at hc
         rw[hu,ha]
         dsimp only
         rw[if_pos ⟨hc.1,hc.2,hs⟩,← Tr.ab hr]
         simp only[ri]
     · rename_i s r sz len full ha
       cases hb:Nat.beq z sz with
       | false=>rw[hb,cond_false] at hr;exact (Tr.ae hr).elim
       | true =>
         rw[hb,cond_true] at hr
         have hb:z=sz:=by simpa using hb
         subst hb
         obtain ⟨hc,hr⟩:=Tr.aD hr
         rw[pK,decide_eq_true_eq] at hc
         rw[hu,ha]
         dsimp only
         rw[if_pos ⟨hc.1,hc.2,hs⟩,← Tr.ab hr]
         simp only[ri,Nat.zero_add]
     · exact (Tr.ae hr).elim
   · exact (Tr.ae hr).elim
 · exact (Tr.ae hr).elim

end
end Go.Eng
