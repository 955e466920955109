/- The engine as a tree: frames with hints, rows, loads, stores, addresses. -/
import Derived.Test.YtigmfpmabgekoaaGreatV11EngOrax2
set_option linter.unusedVariables false
set_option linter.unusedSimpArgs false
namespace Go.Eng
noncomputable section

abbrev HV:=AV×Option Nat
abbrev aM:=List (Nat×HV)
def strip (f:aM):av:=List.rec (motive:=fun _=>av) [] (fun p _ ih=>(p.1,p.2.1)::ih) f
theorem dg (x:Nat) (v:HV) (r:aM):strip ((x,v)::r)=(x,v.1)::strip r:=rfl
def lW (f:aM) (y:Nat):HV:=List.rec (motive:=fun _=>HV) (AV.undef,none) (fun p _ ih=>Bool.rec ih p.2 (Nat.beq p.1 y)) f
theorem fv:∀ (f:aM) (y:Nat),(lW f y).1=br (strip f) y
 | [],y=>rfl
 | (x,v)::r,y=>by
   have e:lW ((x,v)::r) y=Bool.rec (lW r y) v (Nat.beq x y):=rfl
   rw[e,dg,br]
   cases Nat.beq x y with
   | true=>rfl
   | false=>exact fv r y
def yu (f:aM) (y:Nat) (u:HV):aM:=List.rec (motive:=fun _=>aM) [(y,u)] (fun p r ih=>Bool.rec (motive:=fun _=>aM) (p::ih) (Bool.rec (motive:=fun _=>aM) ((y,u)::p::r) ((y,u)::r) (Nat.beq p.1 y)) (Nat.ble y p.1)) f
theorem yv:∀ (f:aM) (y:Nat) (u:HV),strip (yu f y u)=uv (strip f) y u.1
 | [],y,u=>rfl
 | (x,v)::r,y,u=>by
   have e:yu ((x,v)::r) y u=Bool.rec (motive:=fun _=>aM) ((x,v)::yu r y u) (Bool.rec (motive:=fun _=>aM) ((y,u)::(x,v)::r) ((y,u)::r) (Nat.beq x y)) (Nat.ble y x):=rfl
   rw[e,dg,uv,← yv r y u]
   cases Nat.ble y x with
   | false=>rfl
   | true=>cases Nat.beq x y<;>rfl
def gM (f:aM) (m:Nat):aM:=List.rec (motive:=fun _=>aM) [] (fun p _ ih=>Bool.rec (motive:=fun _=>aM) (p::ih) ih (Nat.beq (Nat.land (Nat.shiftRight m p.1) 1) 1)) f
theorem fb:∀ (f:aM) (m:Nat),strip (gM f m)=bO (strip f) m
 | [],m=>rfl
 | (x,v)::r,m=>by
   have e:gM ((x,v)::r) m=Bool.rec (motive:=fun _=>aM) ((x,v)::gM r m) (gM r m) (Nat.beq (Nat.land (Nat.shiftRight m x) 1) 1):=rfl
   have e2:bO ((x,v.1)::strip r) m=Bool.rec (motive:=fun _=>av) ((x,v.1)::bO (strip r) m) (bO (strip r) m) (Nat.beq (Nat.land (Nat.shiftRight m x) 1) 1):=rfl
   rw[e,dg,e2,← fb r m]
   cases Nat.beq (Nat.land (Nat.shiftRight m x) 1) 1<;>rfl
def Pf (v:Value):Option Nat :=
 match v with
 | .int _ _=>some 1
 | .bool _=>some 1
 | _=>none
def b9 (fr:aM) (x:Operand):HV:=Operand.rec (motive:=fun _=>HV) (fun t=>lW fr t) (fun v=>(ld v,Pf v)) (fun _=>(.undef,none)) (fun f=>(.fn (.func f) [] [],none)) x
theorem aR (fr:aM) (x:Operand):(b9 fr x).1=bI (strip fr) x:=by
 cases x with
 | tmp t=>exact fv fr t
 | _=>rfl
def zp (fr:aM) (l:List Operand):List AV:=om (fun x=>(b9 fr x).1) l
theorem tG (fr:aM):∀ l,zp fr l=j8 (strip fr) l
 | []=>rfl
 | x::l=>by
   have e:zp fr (x::l)=(b9 fr x).1::zp fr l:=rfl
   rw[e,tG fr l,aR];rfl
def ru (nt:Nat) (fr:aM) (dst:Option Tmp) (v:HV):aM:=Option.rec (motive:=fun _=>aM) fr (fun d=>Bool.rec (motive:=fun _=>aM) fr (yu fr d v) (Nat.ble (Nat.succ d) nt)) dst
theorem mZ (nt:Nat) (fr:aM) (dst:Option Tmp) (v:HV):strip (ru nt fr dst v)=dw nt (strip fr) dst v.1:=by
 rw[← pG]
 cases dst with
 | none=>rfl
 | some d =>
   have e:ru nt fr (some d) v=Bool.rec (motive:=fun _=>aM) fr (yu fr d v) (Nat.ble (Nat.succ d) nt):=rfl
   have e2:rv nt (strip fr) (some d) v.1=Bool.rec (motive:=fun _=>av) (strip fr) (vf (strip fr) d v.1) (Nat.ble (Nat.succ d) nt):=rfl
   rw[e,e2,yd,← yv]
   cases Nat.ble (Nat.succ d) nt<;>rfl

def ra:List aW→Nat→Option AV
 | [],_=>none
 | .one v::r,j=>match j with
   | 0=>some v
   | j+1=>ra r j
 | .arr k z n::r,j=>cond (Nat.blt j n) (some (.int k (z j))) (ra r (Nat.sub j n))
theorem Bx {a b:Nat} (h:Nat.blt a b=true):a<b:=by rwa [Nat.blt_eq] at h
theorem Ix {a b:Nat} (h:Nat.blt a b=false):¬ a<b:=fun e=>by
 have:Nat.blt a b=true:=by rw[Nat.blt_eq];exact e
 rw[h] at this;cases this
theorem s8:∀ (l:List aW) (j:Nat) (v:AV),ra l j=some v→j<aC l∧getM l j=v
 | [],_,_,h=>by simp[ra] at h
 | .one u::r,0,v,h=>by
   simp only[ra,Option.some.injEq] at h
   exact ⟨by simp only[aC,aI];omega,h⟩
 | .one u::r,j+1,v,h=>by
   have:=s8 r j v (by simpa[ra] using h)
   exact ⟨by simp only[aC,aI];omega,this.2⟩
 | .arr k z n::r,j,v,h=>by
   simp only[ra] at h
   simp only[aC,aI,getM]
   cases hb:Nat.blt j n with
   | true =>
     rw[hb,cond_true,Option.some.injEq] at h
     have:=Bx hb
     exact ⟨by omega,by rw[if_pos this];exact h⟩
   | false =>
     rw[hb,cond_false] at h
     have hn:=Ix hb
     have:=s8 r (j-n) v h
     exact ⟨by omega,by rw[if_neg hn];exact this.2⟩
def FT:List aW→Nat→Nat→Nat→Tr AV
 | [],_,_,_=>.bad
 | .one _::r,pos,h,off=>match h with
   | 0=>.bad
   | h+1=>FT r (Nat.succ pos) h off
 | .arr k z n::r,pos,h,off=>cond (Nat.blt h n) (.req (lX off 1 pos n) (.ok (.int k (z (dk off pos))))) (FT r (Nat.add pos n) (Nat.sub h n) off)
theorem xz:∀ (l:List aW) (pos h off:Nat) (v:AV),(FT l pos h off).run=some v→pos≤off∧off-pos<aC l∧getM l (off-pos)=v
 | [],_,_,_,_,h=>(Tr.ae h).elim
 | .one _::r,pos,0,off,v,h=>(Tr.ae h).elim
 | .one u::r,pos,h'+1,off,v,h=>by
   obtain ⟨h1,h2,h3⟩:=xz r (pos+1) h' off v h
   refine ⟨by omega,by simp only[aC,aI];omega,?_⟩
   rw[show off-pos=(off-(pos+1))+1 by omega]
   exact h3
 | .arr k z n::r,pos,h',off,v,h=>by
   simp only[FT] at h
   cases hb:Nat.blt h' n with
   | true =>
     rw[hb,cond_true] at h
     obtain ⟨hc,h⟩:=Tr.aK h
     rw[jZ,decide_eq_true_eq] at hc
     have h:=Tr.ab h
     refine ⟨hc.1,by simp only[aC,aI];omega,?_⟩
     simp only[getM]
     rw[if_pos (by omega),← h,gz]
   | false =>
     rw[hb,cond_false] at h
     obtain ⟨h1,h2,h3⟩:=xz r (pos+n) (h'-n) off v h
     refine ⟨by omega,by simp only[aC,aI];omega,?_⟩
     simp only[getM]
     rw[if_neg (by omega),← h3]
     congr 1;omega
def Cj (r:Row) (off:Nat) (h:Option Nat):Tr AV :=
 match r with
 | .F f n=>.req (bA off n) (.ok (f off))
 | .M l=>match l with
   | [.arr k z n]=>.req (bA off n) (.ok (.int k (z off)))
   | l=>match h with
     | none=>vJ (ra l off)
     | some h=>FT l 0 h off
 | .I k l=>match h with
   | none=>vJ (jO (.I k l) off)
   | some _=>.req (bA off (AJ l)) (.ok (.int k (an l off)))
 | .G l=>match h with
   | none=>vJ (jO (.G l) off)
   | some _=>.bad
theorem zM {r:Row} {off:Nat} {v:AV} (h:jO r off=some v):off<r.len∧r.get off=v:=by
 rw[tO] at h
 split at h
 · rename_i h0;exact ⟨h0,Option.some.inj h⟩
 · simp at h
theorem zH {r:Row} {off:Nat} {h:Option Nat} {v:AV} (hr:(Cj r off h).run=some v):off<r.len∧r.get off=v:=by
 unfold Cj at hr
 split at hr
 · obtain ⟨hc,hr⟩:=Tr.aK hr
   rw[iC,decide_eq_true_eq] at hc
   exact ⟨hc,Tr.ab hr⟩
 · rename_i l
   split at hr
   · rename_i k z n
     obtain ⟨hc,hr⟩:=Tr.aK hr
     rw[iC,decide_eq_true_eq] at hc
     refine ⟨by simp only[Row.len,aC,aI];omega,?_⟩
     simp only[Row.get,getM]
     rw[if_pos hc];exact Tr.ab hr
   · split at hr
     · rw[c5] at hr;exact s8 _ _ _ hr
     · have:=xz _ _ _ _ _ hr
       rw[Nat.sub_zero] at this
       exact this.2
 · split at hr
   · rw[c5] at hr;exact zM hr
   · obtain ⟨hc,hr⟩:=Tr.aK hr
     rw[iC,decide_eq_true_eq,G0] at hc
     refine ⟨hc,?_⟩
     rw[← Tr.ab hr,gu];rfl
 · split at hr
   · rw[c5] at hr;exact zM hr
   · exact (Tr.ae hr).elim
def Ds (off:Nat) (h:Option Nat) (j:Nat):Nat :=
 match h with
 | none=>Nat.add off j
 | some _=>match j with
   | 0=>off
   | j+1=>af off (Nat.succ j)
theorem r7 (off:Nat) (h:Option Nat) (j:Nat):Ds off h j=off+j:=by
 unfold Ds
 split
 · rfl
 · split
   · rfl
   · rw[aQ]
def yz (h:Option Nat) (j:Nat):Option Nat :=
 match h with
 | none=>none
 | some h=>some (Nat.add h j)
def Ck (r:Row) (off:Nat) (h:Option Nat):Nat→Nat→Tr (List AV)
 | _,0=>.ok []
 | j,n+1=>(Cj r (Ds off h j) (yz h j)).bind fun v=>(Ck r off h (Nat.succ j) n).bind fun l=>.ok (v::l)
theorem zI {r:Row} {off:Nat} {h:Option Nat}:∀ (n j:Nat) (l:List AV),(Ck r off h j n).run=some l→l=dD r.get (off+j) n∧(n=0∨off+j+n≤r.len)
 | 0,j,l,hr=>⟨(Tr.ab hr).symm,.inl rfl⟩
 | n+1,j,l,hr=>by
   simp only[Ck] at hr
   obtain ⟨v,h1,hr⟩:=Tr.bind_some hr
   obtain ⟨m,h2,hr⟩:=Tr.bind_some hr
   have hr:=Tr.ab hr
   obtain ⟨k1,k2⟩:=zH h1
   obtain ⟨k3,k4⟩:=zI n (j+1) m h2
   rw[r7] at k1 k2
   refine ⟨?_,.inr (by omega)⟩
   rw[← hr,dD,k2,k3,show off+(j+1)=off+j+1 by omega]
def FR:List aW→Nat→Nat→Nat→Nat→Tr AV
 | [],_,_,_,_=>.bad
 | .one _::r,pos,h,off,n=>match h with
   | 0=>.bad
   | h+1=>FR r (Nat.succ pos) h off n
 | .arr k z m::r,pos,h,off,n=>cond (Nat.blt h m) (.req (lX off n pos m) (.ok (.agg (.M [.arr k (g7 z (dk off pos)) n])))) (FR r (Nat.add pos m) (Nat.sub h m) off n)
theorem xy:∀ (l:List aW) (pos h off n:Nat) (v:AV),0<n→(FR l pos h off n).run=some v→pos≤off∧off-pos+n≤aC l∧∃ k z,lL l (off-pos) n=some (k,z)∧v=.agg (.M [.arr k z n])
 | [],_,_,_,_,_,_,h=>(Tr.ae h).elim
 | .one _::r,pos,0,off,n,v,_,h=>(Tr.ae h).elim
 | .one u::r,pos,h'+1,off,n,v,hn,h=>by
   obtain ⟨h1,h2,k,z,h3,h4⟩:=xy r (pos+1) h' off n v hn h
   refine ⟨by omega,by simp only[aC,aI];omega,k,z,?_,h4⟩
   rw[show off-pos=(off-(pos+1))+1 by omega]
   exact h3
 | .arr k z m::r,pos,h',off,n,v,hn,h=>by
   simp only[FR] at h
   cases hb:Nat.blt h' m with
   | true =>
     rw[hb,cond_true] at h
     obtain ⟨hc,h⟩:=Tr.aK h
     rw[jZ,decide_eq_true_eq] at hc
     have h:=Tr.ab h
     refine ⟨hc.1,by simp only[aC,aI];omega,k,fun j=>z (off-pos+j),?_,?_⟩
     · simp only[lL];rw[if_pos (by omega)]
     · rw[← h,jx,gz]
   | false =>
     rw[hb,cond_false] at h
     obtain ⟨h1,h2,k',z',h3,h4⟩:=xy r (pos+m) (h'-m) off n v hn h
     refine ⟨by omega,by simp only[aC,aI];omega,k',z',?_,h4⟩
     simp only[lL]
     rw[if_neg (by omega),if_pos (by omega),← h3]
     congr 1;omega
def FQ:List aW→Nat→Nat→Option Row
 | [],_,_=>none
 | .one _::r,o+1,n=>FQ r o n
 | .one _::_,0,_=>none
 | .arr k z m::r,o,n=>cond (Nat.ble (Nat.add o n) m) (some (.M [.arr k (cond (Nat.beq o 0) z (g7 z o)) n])) (cond (Nat.ble m o) (FQ r (Nat.sub o m) n) none)
theorem xx:∀ (l:List aW) (o n:Nat) (q:Row),FQ l o n=some q→∃ k z,lL l o n=some (k,z)∧q=.M [.arr k z n]
 | [],_,_,_,h=>by cases h
 | .one u::r,o+1,n,q,h=>xx r o n q h
 | .one _::_,0,_,_,h=>by cases h
 | .arr k z m::r,o,n,q,h=>by
   simp only[FQ] at h
   cases hb:Nat.ble (Nat.add o n) m with
   | true =>
     rw[hb,cond_true] at h
     have hle:o+n≤m:=Nat.le_of_ble_eq_true hb
     simp only[Option.some.injEq] at h
     refine ⟨k,fun j=>z (o+j),by simp only[lL];rw[if_pos hle],?_⟩
     rw[← h]
     cases ho:Nat.beq o 0 with
     | true =>
       have:=Nat.eq_of_beq_eq_true ho
       subst this
       simp only[cond_true,Nat.zero_add]
     | false=>rw[cond_false,jx]
   | false =>
     rw[hb,cond_false] at h
     cases hm:Nat.ble m o with
     | true =>
       rw[hm,cond_true] at h
       have hle:m≤o:=Nat.le_of_ble_eq_true hm
       have hnl:¬ (o+n≤m):=fun hc=>by
        have:Nat.ble (Nat.add o n) m=true:=by rw[Nat.ble_eq];exact hc
        rw[hb] at this;cases this
       obtain ⟨k',z',h1,h2⟩:=xx r (o-m) n q h
       exact ⟨k',z',by simp only[lL];rw[if_neg hnl,if_pos hle];exact h1,h2⟩
     | false=>rw[hm,cond_false] at h;cases h
def zJ (P:Program) (t:TypeId) (r:Row) (off:Nat) (h:Option Nat):Tr AV :=
 match ft P t with
 | some false=>Cj r off h
 | some true=>match bm P t with
   | some 0=>.bad
   | some (n+1)=>match r with
     | .M l=>cond (Nat.ble (Nat.succ n) 8) ((Ck (.M l) off h 0 (Nat.succ n)).bind fun vs=>.ok (.agg (Row.ofList vs)))
       (match h with
       | none=>cond (Nat.ble (Nat.add off (Nat.succ n)) (aC l)) (cond (Nat.beq (aC l) (Nat.succ n)) (.ok (.agg ((Row.M l).cut off (Nat.succ n)))) (match FQ l off (Nat.succ n) with
         | some q=>.ok (.agg q)
         | none=>.ok (.agg ((Row.M l).cut off (Nat.succ n))))) .bad
       | some h=>cond (Nat.beq (aC l) (Nat.succ n)) .bad (FR l 0 h off (Nat.succ n)))
     | .F f m=>.req (dG (af off (Nat.succ n)) m) (.ok (.agg ((Row.F f m).cut off (Nat.succ n))))
     | .I k l=>match h with
       | none=>vJ (qE P t (.I k l) off)
       | some _=>.bad
     | .G l=>match h with
       | none=>vJ (qE P t (.G l) off)
       | some _=>.bad
   | none=>.bad
 | none=>.bad
theorem tN       {P : Program} {t:TypeId} {r:Row} {off:Nat} {h:Option Nat} {v:AV} (hr:(zJ P t r off h).run=some v):iG P t r off=some v:=by
 unfold zJ at hr
 split at hr
 · rename_i ha
   obtain ⟨h1,h2⟩:=zH hr
   unfold iG
   rw[ha]
   dsimp only
   rw[if_pos h1,h2]
 · rename_i ha
   split at hr
   · exact (Tr.ae hr).elim
   · rename_i n hs
     split at hr
     · rename_i l
       unfold iG
       rw[ha,hs]
       dsimp only
       cases hb:Nat.ble (Nat.succ n) 8 with
       | true =>
         rw[hb,cond_true] at hr
         obtain ⟨vs,h1,hr⟩:=Tr.bind_some hr
         have hr:=Tr.ab hr
         obtain ⟨k1,k2⟩:=zI _ _ _ h1
         rw[if_pos (by omega),← hr,k1]
         simp only[Row.cut]
         rw[show Nat.ble (n+1) 8=true from hb,if_pos rfl,Nat.add_zero]
         rfl
       | false =>
         rw[hb,cond_false] at hr
         split at hr
         · cases hc : Nat.ble (Nat.add off (Nat.succ n)) (aC l) with
           | true =>
             rw[hc,cond_true] at hr
             rw[Nat.ble_eq] at hc
             rw[if_pos (show off+(n+1)≤(Row.M l).len from hc)]
             cases hq:Nat.beq (aC l) (Nat.succ n) with
             | true=>rw[hq,cond_true] at hr;rw[← Tr.ab hr]
             | false =>
               rw[hq,cond_false] at hr
               split at hr
               · rename_i q hseg
                 obtain ⟨k,z,h3,h4⟩:=xx _ _ _ _ hseg
                 simp only[Row.cut]
                 rw[show Nat.ble (n+1) 8=false from hb,if_neg (by simp),show Nat.beq (aC l) (n+1)=false from hq,Bool.and_false,if_neg (by simp)]
                 have : Row.sub (.M l) off (n+1)=.M [.arr k z (n+1)]:=by
                  match l,h3,hq with
                  | [],h3,_=>simp[lL] at h3
                  | [.arr k' z' m],h3,hq =>
                    simp only[lL] at h3
                    split at h3
                    · simp only[nP] at h3
                      obtain ⟨rfl,rfl⟩:=h3
                      rfl
                    · split at h3<;>simp at h3
                  | .one u::r,h3,hq =>
                    simp only[Row.sub]
                    rw[show Nat.beq (aC (.one u::r)) (n+1)=false from hq,Bool.and_false,h3]
                    rfl
                  | .arr k' z' m::s::r,h3,hq =>
                    simp only[Row.sub]
                    rw[show Nat.beq (aC (.arr k' z' m::s::r)) (n+1)=false from hq,Bool.and_false,h3]
                    rfl
                 rw[this,← Tr.ab hr,h4]
               · rw[← Tr.ab hr]
           | false=>rw[hc,cond_false] at hr;exact (Tr.ae hr).elim
         · rename_i h
           cases hc:Nat.beq (aC l) (Nat.succ n) with
           | true=>rw[hc,cond_true] at hr;exact (Tr.ae hr).elim
           | false =>
             rw[hc,cond_false] at hr
             obtain ⟨h1,h2,k,z,h3,h4⟩:=xy _ _ _ _ _ _ (Nat.succ_pos n) hr
             rw[Nat.sub_zero] at h2 h3
             rw[if_pos (show off+(n+1)≤(Row.M l).len from h2)]
             simp only[Row.cut]
             rw[show Nat.ble (n+1) 8=false from hb,if_neg (by simp),show Nat.beq (aC l) (n+1)=false from hc,Bool.and_false,if_neg (by simp)]
             have : Row.sub (.M l) off (n+1)=.M [.arr k z (n+1)]:=by
              match l,h3,hc with
              | [],h3,_=>simp[lL] at h3
              | [.arr k' z' m],h3,hc =>
                simp only[lL] at h3
                split at h3
                · simp only[nP] at h3
                  obtain ⟨rfl,rfl⟩:=h3
                  rfl
                · split at h3<;>simp at h3
              | .one u::r,h3,hc =>
                simp only[Row.sub]
                rw[show Nat.beq (aC (.one u::r)) (n+1)=false from hc,Bool.and_false,h3]
                rfl
              | .arr k' z' m::s::r,h3,hc =>
                simp only[Row.sub]
                rw[show Nat.beq (aC (.arr k' z' m::s::r)) (n+1)=false from hc,Bool.and_false,h3]
                rfl
             rw[this,h4]
     · rename_i f m
       obtain ⟨hc,hr⟩:=Tr.aK hr
       rw[ly,decide_eq_true_eq,aQ] at hc
       unfold iG
       rw[ha,hs]
       dsimp only
       rw[if_pos (show off+(n+1)≤(Row.F f m).len from hc),← Tr.ab hr]
     · split at hr
       · rw[c5,qF] at hr;exact hr
       · exact (Tr.ae hr).elim
     · split at hr
       · rw[c5,qF] at hr;exact hr
       · exact (Tr.ae hr).elim
   · exact (Tr.ae hr).elim
 · exact (Tr.ae hr).elim

def xu (H:aa) (d i v:Nat) (h:Option Nat):Tr Row :=
 match h with
 | none=>vJ (yw H d i v)
 | some _=>match eR H d i with
   | (ver,.row r)=>.req (bX ver v) (.ok r)
   | _=>.bad
theorem lJ {H:aa} {d i v:Nat} {h:Option Nat} {r:Row} (hr:(xu H d i v h).run=some r):di H d i v=some r:=by
 unfold xu at hr
 split at hr
 · rw[c5,ta] at hr;exact hr
 · rw[ie] at hr
   split at hr
   · rename_i ver q hg
     obtain ⟨hc,hr2⟩:=Tr.aK hr
     rw[gi,decide_eq_true_eq] at hc
     subst hc
     unfold di
     rw[hg]
     simp only[Nat.beq_refl,if_true]
     rw[Tr.ab hr2]
   · exact (Tr.ae hr).elim
def loadT (P:Program) (H:aa) (t:TypeId) (a:HV):Tr AV :=
 match a.1 with
 | .ptr d i v off=>(xu H d i v a.2).bind fun r=>(zJ P t r off a.2).bind fun x=>.ok (gF d x)
 | .ptrT s r off=>(zJ P t r off a.2).bind fun x=>.ok (QE s x)
 | _=>.bad
theorem yU {P:Program} {H:aa} {t:TypeId} {a:HV} {v:AV} (hr:(loadT P H t a).run=some v):mQ P H t a.1=some v:=by
 unfold loadT at hr
 unfold mQ
 split at hr
 · rename_i d i ver off ha
   obtain ⟨r,h1,hr⟩:=Tr.bind_some hr
   obtain ⟨x,h2,hr⟩:=Tr.bind_some hr
   rw[ha]
   dsimp only
   rw[lJ h1]
   dsimp only
   rw[tN h2,← Tr.ab hr];rfl
 · rename_i s r off ha
   obtain ⟨x,h2,hr⟩:=Tr.bind_some hr
   rw[ha]
   dsimp only
   rw[tN h2,← Tr.ab hr];rfl
 · exact (Tr.ae hr).elim

def rD:List aW→Nat→AV→Option (List aW)
 | [],_,_=>none
 | .one u::r,j,v=>match j with
   | 0=>some (.one v::r)
   | j+1=>match rD r j v with
     | some r'=>some (.one u::r')
     | none=>none
 | .arr k z n::r,j,v=>cond (Nat.blt j n) (match v with
    | .int k' x=>cond (gH k' k) (some (.arr k (bG z j x) n::r)) none
    | _=>none)
   (match rD r (Nat.sub j n) v with
     | some r'=>some (.arr k z n::r')
     | none=>none)
theorem tU:∀ (l:List aW) (j:Nat) (v:AV) (l':List aW),rD l j v=some l'→j<aC l∧kd l j v=l'
 | [],_,_,_,h=>by simp[rD] at h
 | .one u::r,0,v,l',h=>by
   simp only[rD,Option.some.injEq] at h
   exact ⟨by simp only[aC,aI];omega,h⟩
 | .one u::r,j+1,v,l',h=>by
   simp only[rD] at h
   split at h
   · rename_i r' hr
     have:=tU r j v r' hr
     simp only[Option.some.injEq] at h
     exact ⟨by simp only[aC,aI];omega,by simp only[kd];rw[this.2];exact h⟩
   · simp at h
 | .arr k z n::r,j,v,l',h=>by
   simp only[rD] at h
   cases hb:Nat.blt j n with
   | true =>
     rw[hb,cond_true] at h
     have hj:=Bx hb
     split at h
     · rename_i k' x
       rw[kH] at h
       split at h
       · rename_i hk
         simp only[Option.some.injEq] at h
         refine ⟨by simp only[aC,aI];omega,?_⟩
         simp only[kd]
         rw[if_pos hj,if_pos hk,← h,jS]
       · simp at h
     · simp at h
   | false =>
     rw[hb,cond_false] at h
     have hj:=Ix hb
     split at h
     · rename_i r' hr
       have:=tU r (j-n) v r' hr
       simp only[Option.some.injEq] at h
       exact ⟨by simp only[aC,aI];omega,by simp only[kd];rw[if_neg hj,this.2];exact h⟩
     · simp at h
def DE:List aW→Nat→Nat→Nat→AV→Tr (List aW)
 | [],_,_,_,_=>.bad
 | .one u::r,pos,h,off,v=>match h with
   | 0=>.bad
   | h+1=>(DE r (Nat.succ pos) h off v).bind fun r'=>.ok (.one u::r')
 | .arr k z n::r,pos,h,off,v=>cond (Nat.blt h n) (match v with
    | .int k' x=>cond (gH k' k) (.req (lX off 1 pos n) (.ok (.arr k (bG z (dk off pos) x) n::r))) .bad
    | _=>.bad)
   ((DE r (Nat.add pos n) (Nat.sub h n) off v).bind fun r'=>.ok (.arr k z n::r'))
theorem xA:∀ (l:List aW) (pos h off:Nat) (v:AV) (l':List aW),(DE l pos h off v).run=some l'→pos≤off∧off-pos<aC l∧kd l (off-pos) v=l'
 | [],_,_,_,_,_,h=>(Tr.ae h).elim
 | .one _::r,pos,0,off,v,l',h=>(Tr.ae h).elim
 | .one u::r,pos,h'+1,off,v,l',h=>by
   simp only[DE] at h
   obtain ⟨r',hr,h⟩:=Tr.bind_some h
   obtain ⟨h1,h2,h3⟩:=xA r (pos+1) h' off v r' hr
   refine ⟨by omega,by simp only[aC,aI];omega,?_⟩
   rw[show off-pos=(off-(pos+1))+1 by omega,← Tr.ab h,← h3]
   rfl
 | .arr k z n::r,pos,h',off,v,l',h=>by
   simp only[DE] at h
   cases hb:Nat.blt h' n with
   | true =>
     rw[hb,cond_true] at h
     split at h
     · rename_i k' x
       rw[kH] at h
       split at h
       · rename_i hk
         obtain ⟨hc,h⟩:=Tr.aK h
         rw[jZ,decide_eq_true_eq] at hc
         refine ⟨hc.1,by simp only[aC,aI];omega,?_⟩
         simp only[kd]
         rw[if_pos (by omega),if_pos hk,← Tr.ab h,jS,gz]
       · exact (Tr.ae h).elim
     · exact (Tr.ae h).elim
   | false =>
     rw[hb,cond_false] at h
     obtain ⟨r',hr,h⟩:=Tr.bind_some h
     obtain ⟨h1,h2,h3⟩:=xA r (pos+n) (h'-n) off v r' hr
     refine ⟨by omega,by simp only[aC,aI];omega,?_⟩
     simp only[kd]
     rw[if_neg (by omega),← Tr.ab h,← h3,show off-pos-n=off-(pos+n) by omega]
def Kn (l:List aW) (off:Nat) (h:Option Nat) (v:AV):Tr (List aW) :=
 match l with
 | [.arr k z n]=>match v with
   | .int k' x=>cond (gH k' k) (.req (bA off n) (.ok [.arr k (bG z off x) n])) .bad
   | _=>.bad
 | l=>match h with
   | none=>vJ (rD l off v)
   | some h=>DE l 0 h off v
theorem H6 {l l':List aW} {off:Nat} {h:Option Nat} {v:AV} (hr:(Kn l off h v).run=some l'):off<aC l∧kd l off v=l':=by
 unfold Kn at hr
 split at hr
 · rename_i k z n
   split at hr
   · rename_i k' x
     rw[kH] at hr
     split at hr
     · rename_i hk
       obtain ⟨hc,hr⟩:=Tr.aK hr
       rw[iC,decide_eq_true_eq] at hc
       refine ⟨by simp only[aC,aI];omega,?_⟩
       simp only[kd]
       rw[if_pos hc,if_pos hk,← Tr.ab hr,jS]
     · exact (Tr.ae hr).elim
   · exact (Tr.ae hr).elim
 · split at hr
   · rw[c5] at hr;exact tU _ _ _ _ hr
   · have:=xA _ _ _ _ _ _ hr
     rw[Nat.sub_zero] at this
     exact this.2
def zT (off:Nat) (h:Option Nat):List AV→Nat→List aW→Tr (List aW)
 | [],_,l=>.ok l
 | v::vs,j,l=>(Kn l (Ds off h j) (yz h j) v).bind fun l'=>zT off h vs (Nat.succ j) l'
theorem tT {off:Nat} {h:Option Nat}:∀ (vs:List AV) (j:Nat) (l l':List aW),(zT off h vs j l).run=some l'→(vs=[]∨off+j+vs.length≤aC l)∧Row.cH (.M l) (off+j) vs=.M l'
 | [],j,l,l',h=>⟨.inl rfl,by rw[Tr.ab h];rfl⟩
 | v :: vs,j,l,l',h=>by
   simp only[zT] at h
   obtain ⟨l1,h1,h⟩:=Tr.bind_some h
   obtain ⟨k1,k2⟩:=H6 h1
   rw[r7] at k1 k2
   obtain ⟨k3,k4⟩:=tT vs (j+1) l1 l' h
   have hl:aC l1=aC l:=by rw[← k2,nk]
   refine ⟨.inr ?_,?_⟩
   · rcases k3 with rfl | k3
     · simp only[List.length_cons,List.length_nil];omega
     · simp only[List.length_cons];omega
   · simp only[Row.cH,Row.set,k2]
     exact k4
def FB (l:List aW) (off:Nat) (h:Option Nat) (q:Row):Tr Row :=
 match l,q with
 | [.arr k z m],.M [.arr k' z' n]=>cond (gH k' k) (.req (lX off n 0 m) (.ok (.M [.arr k (fH z off z' n) m]))) .bad
 | l,q=>cond (Nat.ble 9 (iH q)) (match h with
    | none=>cond (Nat.ble (Nat.add off (iH q)) (aC l)) (.ok (xl l off q)) .bad
    | some _=>.bad)
   (match lP q with
     | []=>.bad
     | v::vs=>(zT off h (v::vs) 0 l).bind fun l'=>.ok (.M l'))
theorem xm {l:List aW} {off:Nat} {h:Option Nat} {q r:Row} (hr:(FB l off h q).run=some r):off+q.len≤aC l∧j9 (.M l) off q=r:=by
 unfold FB at hr
 split at hr
 · rename_i k z m k' z' n
   rw[kH] at hr
   split at hr
   · rename_i hk
     obtain ⟨hc,hr⟩:=Tr.aK hr
     rw[jZ,decide_eq_true_eq] at hc
     refine ⟨by simp only[Row.len,aC,aI];omega,?_⟩
     simp only[j9]
     rw[if_pos hk,← Tr.ab hr,lf]
   · exact (Tr.ae hr).elim
 · rename_i hne
   have hA:j9 (.M l) off q=xl l off q:=by
    simp only[j9]
    split
    · rename_i k z m
      split
      · rename_i k' z' n
        exact (hne _ _ _ _ _ _ rfl rfl).elim
      · rfl
    · rfl
   rw[hA]
   rw[fA] at hr
   cases hb:Nat.ble 9 q.len with
   | true =>
     rw[hb,cond_true] at hr
     split at hr
     · cases hc:Nat.ble (Nat.add off q.len) (aC l) with
       | true =>
         rw[hc,cond_true] at hr
         rw[Nat.ble_eq] at hc
         exact ⟨hc,Tr.ab hr⟩
       | false=>rw[hc,cond_false] at hr;exact (Tr.ae hr).elim
     · exact (Tr.ae hr).elim
   | false =>
     rw[hb,cond_false,oH] at hr
     have hl:=Row.bk q
     split at hr
     · exact (Tr.ae hr).elim
     · rename_i v vs hq
       obtain ⟨l1,h1,hr⟩:=Tr.bind_some hr
       obtain ⟨k1,k2⟩:=tT _ _ _ _ h1
       rw[hq] at hl
       refine ⟨?_,?_⟩
       · rcases k1 with k1 | k1
         · simp at k1
         · omega
       · unfold xl
         rw[hb,if_neg (by simp),hq,← Tr.ab hr,← k2];rfl
def Kd (d:Nat) (x:AV):Bool :=
 match d with
 | 0=>false
 | _+1=>match x with
   | .slc 0 _ _ _ _ _ _=>true
   | _=>false
def storeT (P:Program) (H:aa) (t:TypeId) (a:HV) (x:AV):Tr Delta :=
 match a.1 with
 | .ptr d i v off=>cond (Kd d x) (match a.2 with | none=>vJ (pO P H t a.1 x) | some _=>.bad)
   (cond (fJ H d) .bad ((xu H d i v a.2).bind fun r=>match bm P t with
     | some n=>match x.row with
       | some q=>cond (Nat.beq (iH q) n) (match r with
         | .M l=>(FB l off a.2 (jz d q)).bind fun r'=>.ok (.set d i (v,.row r'))
         | _=>match a.2 with | none=>vJ (pO P H t a.1 x) | some _=>.bad) .bad
       | none=>.bad
     | none=>.bad))
 | _=>.bad
theorem DL {P:Program} {H:aa} {t:TypeId} {a:HV} {x:AV} {δ:Delta} (hr:(storeT P H t a x).run=some δ):gy P H t a.1 x=some δ:=by
 unfold storeT at hr
 split at hr
 · rename_i d i v off ha
   cases ho:Kd d x with
   | true =>
     rw[ho,cond_true] at hr
     split at hr
     · rw[c5,oG] at hr;exact hr
     · exact (Tr.ae hr).elim
   | false =>
     rw[ho,cond_false,ew] at hr
     cases hl:aA H d with
     | true=>rw[hl,cond_true] at hr;exact (Tr.ae hr).elim
     | false =>
       rw[hl,cond_false] at hr
       obtain ⟨r,h1,hr⟩:=Tr.bind_some hr
       split at hr
       · rename_i n hs
         split at hr
         · rename_i q hq
           rw[fA] at hr
           cases hb:Nat.beq q.len n with
           | false=>rw[hb,cond_false] at hr;exact (Tr.ae hr).elim
           | true =>
             rw[hb,cond_true] at hr
             have hb:q.len=n:=by simpa using hb
             split at hr
             · rename_i l
               obtain ⟨r',h2,hr⟩:=Tr.bind_some hr
               obtain ⟨k1,k2⟩:=xm h2
               rw[fC] at k1
               rw[ha]
               unfold gy
               dsimp only
               rw[hl,if_neg (by simp),lJ h1,hs,hq]
               dsimp only
               rw[if_pos ⟨hb,by show off+n≤aC l;omega⟩]
               have:∀ (d':Nat) (j w o sz len:Nat) (cap:Option Nat),d=d'+1→x≠.slc 0 j w o sz len cap:=by
                rintro d' j w o sz len cap rfl rfl
                simp[Kd] at ho
               rw[← Tr.ab hr,← k2]
               split
               · exact absurd rfl (this _ _ _ _ _ _ _ rfl)
               · rfl
             · split at hr
               · rw[c5,oG] at hr;exact hr
               · exact (Tr.ae hr).elim
         · exact (Tr.ae hr).elim
       · exact (Tr.ae hr).elim
 · exact (Tr.ae hr).elim

def hOr (h:Option Nat) (off:Nat):Nat :=
 match h with
 | none=>off
 | some h=>h
def oa (P:Program) (t:TypeId) (a:HV) (f:Nat):Tr HV :=
 match P.underlying t with
 | some (.struct fs)=>match fs[f]? with
   | some g=>match bm P g.type with
     | some (_+1)=>match a.1 with
       | .ptr d i v off=>.ok (.ptr d i v (Ds off a.2 g.offset),yz a.2 g.offset)
       | .ptrT s r off=>.ok (.ptrT s r (Ds off a.2 g.offset),yz a.2 g.offset)
       | _=>.bad
     | _=>.bad
   | none=>.bad
 | _=>.bad
theorem uw {P:Program} {t:TypeId} {a b:HV} {f:Nat} (hr:(oa P t a f).run=some b):gL P t a.1 f=some b.1:=by
 unfold oa at hr
 unfold gL
 split at hr
 · rename_i fs hu
   rw[hu]
   dsimp only
   split at hr
   · rename_i g hg
     rw[hg]
     dsimp only
     split at hr
     · rename_i n hs
       rw[hs]
       dsimp only
       split at hr
       · rename_i d i v off ha
         rw[ha,← Tr.ab hr];simp only[kU,r7]
       · rename_i s r off ha
         rw[ha,← Tr.ab hr];simp only[kU,r7]
       · exact (Tr.ae hr).elim
     · exact (Tr.ae hr).elim
   · exact (Tr.ae hr).elim
 · exact (Tr.ae hr).elim
def isLit (x:HV):Bool :=
 match x.2 with
 | some _=>true
 | none=>false
def Fs (off:Nat) (ic:Bool) (i:Int) (z:Nat):Nat:=cond ic (Nat.add off (Nat.mul i.toNat z)) (ar off i z)
theorem r6 (off:Nat) (ic:Bool) (i:Int) (z:Nat):Fs off ic i z=off+i.toNat*z:=by
 cases ic with
 | true=>rfl
 | false=>exact bC _ _ _
def BQ (h:Option Nat) (off:Nat) (ic:Bool) (i:Int) (z:Nat):Option Nat :=
 cond ic (yz h (Nat.mul i.toNat z)) (some (hOr h off))
def JN (P:Program) (t:TypeId) (a:HV) (ic:Bool) (i:Int):Tr HV :=
 match P.underlying t with
 | some (.array n e)=>match bm P e with
   | some z=>match a.1 with
     | .ptr d j v off=>.req (dF i n) (.ok (.ptr d j v (Fs off ic i z),BQ a.2 off ic i z))
     | .ptrT s r off=>.req (dF i n) (.ok (.ptrT s r (Fs off ic i z),BQ a.2 off ic i z))
     | _=>.bad
   | none=>.bad
 | some (.slice e)=>match bm P e with
   | some z=>match a.1 with
     | .slc d j v off sz len cap=>cond (Nat.beq z sz) (.req (dF i len) (.ok (.ptr d j v (Fs off ic i z),match cap with
       | some _=>BQ none off ic i z
       | none=>some off))) .bad
     | .slcT s r sz len _=>cond (Nat.beq z sz) (.req (dF i len) (.ok (.ptrT s r (Fs 0 ic i z),BQ none 0 ic i z))) .bad
     | _=>.bad
   | none=>.bad
 | _=>.bad
def Oc (P:Program) (t:TypeId) (x:AV) (ic:Bool) (i:Int):Tr AV :=
 cond ic (vJ (ql P t x i)) (match P.underlying t with
  | some (.array n e)=>match x with
    | .agg r=>match bm P e with
      | some z=>.req (dF i n) (zJ P e r (ar 0 i z) (some 0))
      | none=>.bad
    | _=>.bad
  | _=>.bad)
theorem JT {P:Program} {t:TypeId} {x v:AV} {ic:Bool} {i:Int} (hr:(Oc P t x ic i).run=some v):ql P t x i=some v:=by
 unfold Oc at hr
 cases ic with
 | true=>rw[cond_true,c5] at hr;exact hr
 | false =>
   rw[cond_false] at hr
   split at hr
   · rename_i n e hu
     split at hr
     · split at hr
       · rename_i z hs
         obtain ⟨hc,hr⟩:=Tr.aK hr
         rw[qk,decide_eq_true_eq] at hc
         have h:=tN hr
         rw[bC,Nat.zero_add] at h
         unfold ql
         rw[hu]
         dsimp only
         rw[hs]
         dsimp only
         rw[if_pos hc,h]
       · exact (Tr.ae hr).elim
     · exact (Tr.ae hr).elim
   · exact (Tr.ae hr).elim
theorem GW {P:Program} {t:TypeId} {a b:HV} {ic:Bool} {i:Int} (hr:(JN P t a ic i).run=some b):fL P t a.1 i=some b.1:=by
 unfold JN at hr
 unfold fL
 split at hr
 · rename_i n e hu
   split at hr
   · rename_i z hs
     split at hr
     · rename_i d j v off ha
       obtain ⟨hc,hr⟩:=Tr.aK hr
       rw[qk,decide_eq_true_eq] at hc
       rw[hu,ha]
       dsimp only
       rw[hs]
       dsimp only
       rw[if_pos hc,← Tr.ab hr]
       simp only[kU,r6]
     · rename_i s r off ha
       obtain ⟨hc,hr⟩:=Tr.aK hr
       rw[qk,decide_eq_true_eq] at hc
       rw[hu,ha]
       dsimp only
       rw[hs]
       dsimp only
       rw[if_pos hc,← Tr.ab hr]
       simp only[kU,r6]
     · exact (Tr.ae hr).elim
   · exact (Tr.ae hr).elim
 · rename_i e hu
   split at hr
   · rename_i z hs
     split at hr
     · rename_i d j v off sz len cap ha
       cases hb:Nat.beq z sz with
       | false=>rw[hb,cond_false] at hr;exact (Tr.ae hr).elim
       | true =>
         rw[hb,cond_true] at hr
         have hb:z=sz:=by simpa using hb
         subst hb
         obtain ⟨hc,hr⟩:=Tr.aK hr
         rw[qk,decide_eq_true_eq] at hc
         rw[hu,ha]
         dsimp only
         rw[if_pos ⟨hc.1,hc.2,hs⟩,← Tr.ab hr]
         simp only[r6]
     · rename_i s r sz len full ha
       cases hb:Nat.beq z sz with
       | false=>rw[hb,cond_false] at hr;exact (Tr.ae hr).elim
       | true =>
         rw[hb,cond_true] at hr
         have hb:z=sz:=by simpa using hb
         subst hb
         obtain ⟨hc,hr⟩:=Tr.aK hr
         rw[qk,decide_eq_true_eq] at hc
         rw[hu,ha]
         dsimp only
         rw[if_pos ⟨hc.1,hc.2,hs⟩,← Tr.ab hr]
         simp only[r6,Nat.zero_add]
     · exact (Tr.ae hr).elim
   · exact (Tr.ae hr).elim
 · exact (Tr.ae hr).elim

end
end Go.Eng
