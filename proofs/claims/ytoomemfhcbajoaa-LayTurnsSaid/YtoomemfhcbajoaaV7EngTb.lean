/- The engine as a tree: frames with hints, rows, loads, stores, addresses. -/
import Derived.Test.YtoomemfhcbajoaaV7EngTa
namespace Go.Eng
set_option linter.unusedVariables false
set_option linter.unusedSimpArgs false
noncomputable section

abbrev HV:=AV×Option Nat
abbrev HFrm:=List (Nat×HV)
def strip (f:HFrm):Frm:=List.rec (motive:=fun _=>Frm) [] (fun p _ ih=>(p.1,p.2.1)::ih) f
theorem strip_cons (x:Nat) (v:HV) (r:HFrm):strip ((x,v)::r)=(x,v.1)::strip r:=rfl
def hGetF (f:HFrm) (y:Nat):HV:=List.rec (motive:=fun _=>HV) (AV.undef,none) (fun p _ ih=>Bool.rec ih p.2 (Nat.beq p.1 y)) f
theorem hGetF_eq:∀ (f:HFrm) (y:Nat),(hGetF f y).1=fGet (strip f) y
 | [],y=>rfl
 | (x,v)::r,y=>by
   have e:hGetF ((x,v)::r) y=Bool.rec (hGetF r y) v (Nat.beq x y):=rfl
   rw[e,strip_cons,fGet]
   cases Nat.beq x y with
   | true=>rfl
   | false=>exact hGetF_eq r y
def hPutF (f:HFrm) (y:Nat) (u:HV):HFrm:=List.rec (motive:=fun _=>HFrm) [(y,u)] (fun p r ih=>Bool.rec (motive:=fun _=>HFrm) (p::ih) (Bool.rec (motive:=fun _=>HFrm) ((y,u)::p::r) ((y,u)::r) (Nat.beq p.1 y)) (Nat.ble y p.1)) f
theorem hPutF_eq:∀ (f:HFrm) (y:Nat) (u:HV),strip (hPutF f y u)=fPut (strip f) y u.1
 | [],y,u=>rfl
 | (x,v)::r,y,u=>by
   have e:hPutF ((x,v)::r) y u=Bool.rec (motive:=fun _=>HFrm) ((x,v)::hPutF r y u) (Bool.rec (motive:=fun _=>HFrm) ((y,u)::(x,v)::r) ((y,u)::r) (Nat.beq x y)) (Nat.ble y x):=rfl
   rw[e,strip_cons,fPut,← hPutF_eq r y u]
   cases Nat.ble y x with
   | false=>rfl
   | true=>cases Nat.beq x y<;>rfl
def hKillF (f:HFrm) (m:Nat):HFrm:=List.rec (motive:=fun _=>HFrm) [] (fun p _ ih=>Bool.rec (motive:=fun _=>HFrm) (p::ih) ih (Nat.beq (Nat.land (Nat.shiftRight m p.1) 1) 1)) f
theorem hKillF_eq:∀ (f:HFrm) (m:Nat),strip (hKillF f m)=fKill (strip f) m
 | [],m=>rfl
 | (x,v)::r,m=>by
   have e:hKillF ((x,v)::r) m=Bool.rec (motive:=fun _=>HFrm) ((x,v)::hKillF r m) (hKillF r m) (Nat.beq (Nat.land (Nat.shiftRight m x) 1) 1):=rfl
   have e2:fKill ((x,v.1)::strip r) m=Bool.rec (motive:=fun _=>Frm) ((x,v.1)::fKill (strip r) m) (fKill (strip r) m) (Nat.beq (Nat.land (Nat.shiftRight m x) 1) 1):=rfl
   rw[e,strip_cons,e2,← hKillF_eq r m]
   cases Nat.beq (Nat.land (Nat.shiftRight m x) 1) 1<;>rfl
def litH (v:Value):Option Nat :=
 match v with
 | .int _ _=>some 1
 | .bool _=>some 1
 | _=>none
def opdT (fr:HFrm) (x:Operand):HV:=Operand.rec (motive:=fun _=>HV) (fun t=>hGetF fr t) (fun v=>(constV v,litH v)) (fun _=>(.undef,none)) (fun f=>(.fn (.func f) [] [],none)) x
theorem opdT_eq (fr:HFrm) (x:Operand):(opdT fr x).1=opd (strip fr) x:=by
 cases x with
 | tmp t=>exact hGetF_eq fr t
 | _=>rfl
def opdsT (fr:HFrm) (l:List Operand):List AV:=mapX (fun x=>(opdT fr x).1) l
theorem opdsT_eq (fr:HFrm):∀ l,opdsT fr l=opds (strip fr) l
 | []=>rfl
 | x::l=>by
   have e:opdsT fr (x::l)=(opdT fr x).1::opdsT fr l:=rfl
   rw[e,opdsT_eq fr l,opdT_eq];rfl
def putOT (nt:Nat) (fr:HFrm) (dst:Option Tmp) (v:HV):HFrm:=Option.rec (motive:=fun _=>HFrm) fr (fun d=>Bool.rec (motive:=fun _=>HFrm) fr (hPutF fr d v) (Nat.ble (Nat.succ d) nt)) dst
theorem putOT_eq (nt:Nat) (fr:HFrm) (dst:Option Tmp) (v:HV):strip (putOT nt fr dst v)=putO nt (strip fr) dst v.1:=by
 rw[← putOX_eq]
 cases dst with
 | none=>rfl
 | some d =>
   have e:putOT nt fr (some d) v=Bool.rec (motive:=fun _=>HFrm) fr (hPutF fr d v) (Nat.ble (Nat.succ d) nt):=rfl
   have e2:putOX nt (strip fr) (some d) v.1=Bool.rec (motive:=fun _=>Frm) (strip fr) (fPutX (strip fr) d v.1) (Nat.ble (Nat.succ d) nt):=rfl
   rw[e,e2,fPutX_eq,← hPutF_eq]
   cases Nat.ble (Nat.succ d) nt<;>rfl

def getMX:List Seg→Nat→Option AV
 | [],_=>none
 | .one v::r,j=>match j with
   | 0=>some v
   | j+1=>getMX r j
 | .arr k z n::r,j=>cond (Nat.blt j n) (some (.int k (z j))) (getMX r (Nat.sub j n))
theorem blt_t {a b:Nat} (h:Nat.blt a b=true):a<b:=by rwa [Nat.blt_eq] at h
theorem blt_f {a b:Nat} (h:Nat.blt a b=false):¬ a<b:=fun e=>by
 have:Nat.blt a b=true:=by rw[Nat.blt_eq];exact e
 rw[h] at this;cases this
theorem getMX_ok:∀ (l:List Seg) (j:Nat) (v:AV),getMX l j=some v→j<lenM l∧getM l j=v
 | [],_,_,h=>by simp[getMX] at h
 | .one u::r,0,v,h=>by
   simp only[getMX,Option.some.injEq] at h
   exact ⟨by simp only[lenM,segLen];omega,h⟩
 | .one u::r,j+1,v,h=>by
   have:=getMX_ok r j v (by simpa[getMX] using h)
   exact ⟨by simp only[lenM,segLen];omega,this.2⟩
 | .arr k z n::r,j,v,h=>by
   simp only[getMX] at h
   simp only[lenM,segLen,getM]
   cases hb:Nat.blt j n with
   | true =>
     rw[hb,cond_true,Option.some.injEq] at h
     have:=blt_t hb
     exact ⟨by omega,by rw[if_pos this];exact h⟩
   | false =>
     rw[hb,cond_false] at h
     have hn:=blt_f hb
     have:=getMX_ok r (j-n) v h
     exact ⟨by omega,by rw[if_neg hn];exact this.2⟩
def segT:List Seg→Nat→Nat→Nat→Tr AV
 | [],_,_,_=>.bad
 | .one _::r,pos,h,off=>match h with
   | 0=>.bad
   | h+1=>segT r (Nat.succ pos) h off
 | .arr k z n::r,pos,h,off=>cond (Nat.blt h n) (.req (inO off 1 pos n) (.ok (.int k (z (subO off pos))))) (segT r (Nat.add pos n) (Nat.sub h n) off)
theorem segT_ok:∀ (l:List Seg) (pos h off:Nat) (v:AV),(segT l pos h off).run=some v→pos≤off∧off-pos<lenM l∧getM l (off-pos)=v
 | [],_,_,_,_,h=>(Tr.bad_some h).elim
 | .one _::r,pos,0,off,v,h=>(Tr.bad_some h).elim
 | .one u::r,pos,h'+1,off,v,h=>by
   obtain ⟨h1,h2,h3⟩:=segT_ok r (pos+1) h' off v h
   refine ⟨by omega,by simp only[lenM,segLen];omega,?_⟩
   rw[show off-pos=(off-(pos+1))+1 by omega]
   exact h3
 | .arr k z n::r,pos,h',off,v,h=>by
   simp only[segT] at h
   cases hb:Nat.blt h' n with
   | true =>
     rw[hb,cond_true] at h
     obtain ⟨hc,h⟩:=Tr.req_some h
     rw[inO_eq,decide_eq_true_eq] at hc
     have h:=Tr.ok_some h
     refine ⟨hc.1,by simp only[lenM,segLen];omega,?_⟩
     simp only[getM]
     rw[if_pos (by omega),← h,subO_eq]
   | false =>
     rw[hb,cond_false] at h
     obtain ⟨h1,h2,h3⟩:=segT_ok r (pos+n) (h'-n) off v h
     refine ⟨by omega,by simp only[lenM,segLen];omega,?_⟩
     simp only[getM]
     rw[if_neg (by omega),← h3]
     congr 1;omega
def read1 (r:Row) (off:Nat) (h:Option Nat):Tr AV :=
 match r with
 | .F f n=>.req (ltN off n) (.ok (f off))
 | .M l=>match l with
   | [.arr k z n]=>.req (ltN off n) (.ok (.int k (z off)))
   | l=>match h with
     | none=>ofO (getMX l off)
     | some h=>segT l 0 h off
 | .I k l=>match h with
   | none=>ofO (rgetO (.I k l) off)
   | some _=>.req (ltN off (lenL l)) (.ok (.int k (lstO l off)))
 | .G l=>match h with
   | none=>ofO (rgetO (.G l) off)
   | some _=>.bad
theorem rgetO_ok {r:Row} {off:Nat} {v:AV} (h:rgetO r off=some v):off<r.len∧r.get off=v:=by
 rw[rgetO_eq] at h
 split at h
 · rename_i h0;exact ⟨h0,Option.some.inj h⟩
 · simp at h
theorem read1_ok {r:Row} {off:Nat} {h:Option Nat} {v:AV} (hr:(read1 r off h).run=some v):off<r.len∧r.get off=v:=by
 unfold read1 at hr
 split at hr
 · obtain ⟨hc,hr⟩:=Tr.req_some hr
   rw[ltN_eq,decide_eq_true_eq] at hc
   exact ⟨hc,Tr.ok_some hr⟩
 · rename_i l
   split at hr
   · rename_i k z n
     obtain ⟨hc,hr⟩:=Tr.req_some hr
     rw[ltN_eq,decide_eq_true_eq] at hc
     refine ⟨by simp only[Row.len,lenM,segLen];omega,?_⟩
     simp only[Row.get,getM]
     rw[if_pos hc];exact Tr.ok_some hr
   · split at hr
     · rw[ofO_run] at hr;exact getMX_ok _ _ _ hr
     · have:=segT_ok _ _ _ _ _ hr
       rw[Nat.sub_zero] at this
       exact this.2
 · split at hr
   · rw[ofO_run] at hr;exact rgetO_ok hr
   · obtain ⟨hc,hr⟩:=Tr.req_some hr
     rw[ltN_eq,decide_eq_true_eq,lenL_eq] at hc
     refine ⟨hc,?_⟩
     rw[← Tr.ok_some hr,lstO_eq];rfl
 · split at hr
   · rw[ofO_run] at hr;exact rgetO_ok hr
   · exact (Tr.bad_some hr).elim
def offS (off:Nat) (h:Option Nat) (j:Nat):Nat :=
 match h with
 | none=>Nat.add off j
 | some _=>match j with
   | 0=>off
   | j+1=>addO off (Nat.succ j)
theorem offS_eq (off:Nat) (h:Option Nat) (j:Nat):offS off h j=off+j:=by
 unfold offS
 split
 · rfl
 · split
   · rfl
   · rw[addO_eq]
def hintS (h:Option Nat) (j:Nat):Option Nat :=
 match h with
 | none=>none
 | some h=>some (Nat.add h j)
def readL (r:Row) (off:Nat) (h:Option Nat):Nat→Nat→Tr (List AV)
 | _,0=>.ok []
 | j,n+1=>(read1 r (offS off h j) (hintS h j)).bind fun v=>(readL r off h (Nat.succ j) n).bind fun l=>.ok (v::l)
theorem readL_ok {r:Row} {off:Nat} {h:Option Nat}:∀ (n j:Nat) (l:List AV),(readL r off h j n).run=some l→l=listOf r.get (off+j) n∧(n=0∨off+j+n≤r.len)
 | 0,j,l,hr=>⟨(Tr.ok_some hr).symm,.inl rfl⟩
 | n+1,j,l,hr=>by
   simp only[readL] at hr
   obtain ⟨v,h1,hr⟩:=Tr.bind_some hr
   obtain ⟨m,h2,hr⟩:=Tr.bind_some hr
   have hr:=Tr.ok_some hr
   obtain ⟨k1,k2⟩:=read1_ok h1
   obtain ⟨k3,k4⟩:=readL_ok n (j+1) m h2
   rw[offS_eq] at k1 k2
   refine ⟨?_,.inr (by omega)⟩
   rw[← hr,listOf,k2,k3,show off+(j+1)=off+j+1 by omega]
def segN:List Seg→Nat→Nat→Nat→Nat→Tr AV
 | [],_,_,_,_=>.bad
 | .one _::r,pos,h,off,n=>match h with
   | 0=>.bad
   | h+1=>segN r (Nat.succ pos) h off n
 | .arr k z m::r,pos,h,off,n=>cond (Nat.blt h m) (.req (inO off n pos m) (.ok (.agg (.M [.arr k (shO z (subO off pos)) n])))) (segN r (Nat.add pos m) (Nat.sub h m) off n)
theorem segN_ok:∀ (l:List Seg) (pos h off n:Nat) (v:AV),0<n→(segN l pos h off n).run=some v→pos≤off∧off-pos+n≤lenM l∧∃ k z,subA l (off-pos) n=some (k,z)∧v=.agg (.M [.arr k z n])
 | [],_,_,_,_,_,_,h=>(Tr.bad_some h).elim
 | .one _::r,pos,0,off,n,v,_,h=>(Tr.bad_some h).elim
 | .one u::r,pos,h'+1,off,n,v,hn,h=>by
   obtain ⟨h1,h2,k,z,h3,h4⟩:=segN_ok r (pos+1) h' off n v hn h
   refine ⟨by omega,by simp only[lenM,segLen];omega,k,z,?_,h4⟩
   rw[show off-pos=(off-(pos+1))+1 by omega]
   exact h3
 | .arr k z m::r,pos,h',off,n,v,hn,h=>by
   simp only[segN] at h
   cases hb:Nat.blt h' m with
   | true =>
     rw[hb,cond_true] at h
     obtain ⟨hc,h⟩:=Tr.req_some h
     rw[inO_eq,decide_eq_true_eq] at hc
     have h:=Tr.ok_some h
     refine ⟨hc.1,by simp only[lenM,segLen];omega,k,fun j=>z (off-pos+j),?_,?_⟩
     · simp only[subA];rw[if_pos (by omega)]
     · rw[← h,shO_fn,subO_eq]
   | false =>
     rw[hb,cond_false] at h
     obtain ⟨h1,h2,k',z',h3,h4⟩:=segN_ok r (pos+m) (h'-m) off n v hn h
     refine ⟨by omega,by simp only[lenM,segLen];omega,k',z',?_,h4⟩
     simp only[subA]
     rw[if_neg (by omega),if_pos (by omega),← h3]
     congr 1;omega
def segL:List Seg→Nat→Nat→Option Row
 | [],_,_=>none
 | .one _::r,o+1,n=>segL r o n
 | .one _::_,0,_=>none
 | .arr k z m::r,o,n=>cond (Nat.ble (Nat.add o n) m) (some (.M [.arr k (cond (Nat.beq o 0) z (shO z o)) n])) (cond (Nat.ble m o) (segL r (Nat.sub o m) n) none)
theorem segL_ok:∀ (l:List Seg) (o n:Nat) (q:Row),segL l o n=some q→∃ k z,subA l o n=some (k,z)∧q=.M [.arr k z n]
 | [],_,_,_,h=>by cases h
 | .one u::r,o+1,n,q,h=>segL_ok r o n q h
 | .one _::_,0,_,_,h=>by cases h
 | .arr k z m::r,o,n,q,h=>by
   simp only[segL] at h
   cases hb:Nat.ble (Nat.add o n) m with
   | true =>
     rw[hb,cond_true] at h
     have hle:o+n≤m:=Nat.le_of_ble_eq_true hb
     simp only[Option.some.injEq] at h
     refine ⟨k,fun j=>z (o+j),by simp only[subA];rw[if_pos hle],?_⟩
     rw[← h]
     cases ho:Nat.beq o 0 with
     | true =>
       have:=Nat.eq_of_beq_eq_true ho
       subst this
       simp only[cond_true,Nat.zero_add]
     | false=>rw[cond_false,shO_fn]
   | false =>
     rw[hb,cond_false] at h
     cases hm:Nat.ble m o with
     | true =>
       rw[hm,cond_true] at h
       have hle:m≤o:=Nat.le_of_ble_eq_true hm
       have hnl:¬ (o+n≤m):=fun hc=>by
        have:Nat.ble (Nat.add o n) m=true:=by rw[Nat.ble_eq];exact hc
        rw[hb] at this;cases this
       obtain ⟨k',z',h1,h2⟩:=segL_ok r (o-m) n q h
       exact ⟨k',z',by simp only[subA];rw[if_neg hnl,if_pos hle];exact h1,h2⟩
     | false=>rw[hm,cond_false] at h;cases h
def readT (P:Program) (t:TypeId) (r:Row) (off:Nat) (h:Option Nat):Tr AV :=
 match aggT P t with
 | some false=>read1 r off h
 | some true=>match sizeT P t with
   | some 0=>.bad
   | some (n+1)=>match r with
     | .M l=>cond (Nat.ble (Nat.succ n) 8) ((readL (.M l) off h 0 (Nat.succ n)).bind fun vs=>.ok (.agg (Row.ofList vs)))
       (match h with
       | none=>cond (Nat.ble (Nat.add off (Nat.succ n)) (lenM l)) (cond (Nat.beq (lenM l) (Nat.succ n)) (.ok (.agg ((Row.M l).cut off (Nat.succ n)))) (match segL l off (Nat.succ n) with
         | some q=>.ok (.agg q)
         | none=>.ok (.agg ((Row.M l).cut off (Nat.succ n))))) .bad
       | some h=>cond (Nat.beq (lenM l) (Nat.succ n)) .bad (segN l 0 h off (Nat.succ n)))
     | .F f m=>.req (leN (addO off (Nat.succ n)) m) (.ok (.agg ((Row.F f m).cut off (Nat.succ n))))
     | .I k l=>match h with
       | none=>ofO (readVX P t (.I k l) off)
       | some _=>.bad
     | .G l=>match h with
       | none=>ofO (readVX P t (.G l) off)
       | some _=>.bad
   | none=>.bad
 | none=>.bad
theorem readT_ok {P : Program} {t:TypeId} {r:Row} {off:Nat} {h:Option Nat} {v:AV} (hr:(readT P t r off h).run=some v):readV P t r off=some v:=by
 unfold readT at hr
 split at hr
 · rename_i ha
   obtain ⟨h1,h2⟩:=read1_ok hr
   unfold readV
   rw[ha]
   dsimp only
   rw[if_pos h1,h2]
 · rename_i ha
   split at hr
   · exact (Tr.bad_some hr).elim
   · rename_i n hs
     split at hr
     · rename_i l
       unfold readV
       rw[ha,hs]
       dsimp only
       cases hb:Nat.ble (Nat.succ n) 8 with
       | true =>
         rw[hb,cond_true] at hr
         obtain ⟨vs,h1,hr⟩:=Tr.bind_some hr
         have hr:=Tr.ok_some hr
         obtain ⟨k1,k2⟩:=readL_ok _ _ _ h1
         rw[if_pos (by omega),← hr,k1]
         simp only[Row.cut]
         rw[show Nat.ble (n+1) 8=true from hb,if_pos rfl,Nat.add_zero]
         rfl
       | false =>
         rw[hb,cond_false] at hr
         split at hr
         · cases hc : Nat.ble (Nat.add off (Nat.succ n)) (lenM l) with
           | true =>
             rw[hc,cond_true] at hr
             rw[Nat.ble_eq] at hc
             rw[if_pos (show off+(n+1)≤(Row.M l).len from hc)]
             cases hq:Nat.beq (lenM l) (Nat.succ n) with
             | true=>rw[hq,cond_true] at hr;rw[← Tr.ok_some hr]
             | false =>
               rw[hq,cond_false] at hr
               split at hr
               · rename_i q hseg
                 obtain ⟨k,z,h3,h4⟩:=segL_ok _ _ _ _ hseg
                 simp only[Row.cut]
                 rw[show Nat.ble (n+1) 8=false from hb,if_neg (by simp),show Nat.beq (lenM l) (n+1)=false from hq,Bool.and_false,if_neg (by simp)]
                 have : Row.sub (.M l) off (n+1)=.M [.arr k z (n+1)]:=by
                  match l,h3,hq with
                  | [],h3,_=>simp[subA] at h3
                  | [.arr k' z' m],h3,hq =>
                    simp only[subA] at h3
                    split at h3
                    · simp only[nP] at h3
                      obtain ⟨rfl,rfl⟩:=h3
                      rfl
                    · split at h3<;>simp at h3
                  | .one u::r,h3,hq =>
                    simp only[Row.sub]
                    rw[show Nat.beq (lenM (.one u::r)) (n+1)=false from hq,Bool.and_false,h3]
                    rfl
                  | .arr k' z' m::s::r,h3,hq =>
                    simp only[Row.sub]
                    rw[show Nat.beq (lenM (.arr k' z' m::s::r)) (n+1)=false from hq,Bool.and_false,h3]
                    rfl
                 rw[this,← Tr.ok_some hr,h4]
               · rw[← Tr.ok_some hr]
           | false=>rw[hc,cond_false] at hr;exact (Tr.bad_some hr).elim
         · rename_i h
           cases hc:Nat.beq (lenM l) (Nat.succ n) with
           | true=>rw[hc,cond_true] at hr;exact (Tr.bad_some hr).elim
           | false =>
             rw[hc,cond_false] at hr
             obtain ⟨h1,h2,k,z,h3,h4⟩:=segN_ok _ _ _ _ _ _ (Nat.succ_pos n) hr
             rw[Nat.sub_zero] at h2 h3
             rw[if_pos (show off+(n+1)≤(Row.M l).len from h2)]
             simp only[Row.cut]
             rw[show Nat.ble (n+1) 8=false from hb,if_neg (by simp),show Nat.beq (lenM l) (n+1)=false from hc,Bool.and_false,if_neg (by simp)]
             have : Row.sub (.M l) off (n+1)=.M [.arr k z (n+1)]:=by
              match l,h3,hc with
              | [],h3,_=>simp[subA] at h3
              | [.arr k' z' m],h3,hc =>
                simp only[subA] at h3
                split at h3
                · simp only[nP] at h3
                  obtain ⟨rfl,rfl⟩:=h3
                  rfl
                · split at h3<;>simp at h3
              | .one u::r,h3,hc =>
                simp only[Row.sub]
                rw[show Nat.beq (lenM (.one u::r)) (n+1)=false from hc,Bool.and_false,h3]
                rfl
              | .arr k' z' m::s::r,h3,hc =>
                simp only[Row.sub]
                rw[show Nat.beq (lenM (.arr k' z' m::s::r)) (n+1)=false from hc,Bool.and_false,h3]
                rfl
             rw[this,h4]
     · rename_i f m
       obtain ⟨hc,hr⟩:=Tr.req_some hr
       rw[leN_eq,decide_eq_true_eq,addO_eq] at hc
       unfold readV
       rw[ha,hs]
       dsimp only
       rw[if_pos (show off+(n+1)≤(Row.F f m).len from hc),← Tr.ok_some hr]
     · split at hr
       · rw[ofO_run,readVX_eq] at hr;exact hr
       · exact (Tr.bad_some hr).elim
     · split at hr
       · rw[ofO_run,readVX_eq] at hr;exact hr
       · exact (Tr.bad_some hr).elim
   · exact (Tr.bad_some hr).elim
 · exact (Tr.bad_some hr).elim

def rowT (H:Heap) (d i v:Nat) (h:Option Nat):Tr Row :=
 match h with
 | none=>ofO (hRowX H d i v)
 | some _=>match hGetX H d i with
   | (ver,.row r)=>.req (eqN ver v) (.ok r)
   | _=>.bad
theorem rowT_ok {H:Heap} {d i v:Nat} {h:Option Nat} {r:Row} (hr:(rowT H d i v h).run=some r):hRow H d i v=some r:=by
 unfold rowT at hr
 split at hr
 · rw[ofO_run,hRowX_eq] at hr;exact hr
 · rw[hGetX_eq] at hr
   split at hr
   · rename_i ver q hg
     obtain ⟨hc,hr2⟩:=Tr.req_some hr
     rw[eqN_eq,decide_eq_true_eq] at hc
     subst hc
     unfold hRow
     rw[hg]
     simp only[Nat.beq_refl,if_true]
     rw[Tr.ok_some hr2]
   · exact (Tr.bad_some hr).elim
def loadT (P:Program) (H:Heap) (t:TypeId) (a:HV):Tr AV :=
 match a.1 with
 | .ptr d i v off=>(rowT H d i v a.2).bind fun r=>(readT P t r off a.2).bind fun x=>.ok (upV d x)
 | .ptrT s r off=>(readT P t r off a.2).bind fun x=>.ok (upO s x)
 | _=>.bad
theorem loadT_ok {P:Program} {H:Heap} {t:TypeId} {a:HV} {v:AV} (hr:(loadT P H t a).run=some v):loadV P H t a.1=some v:=by
 unfold loadT at hr
 unfold loadV
 split at hr
 · rename_i d i ver off ha
   obtain ⟨r,h1,hr⟩:=Tr.bind_some hr
   obtain ⟨x,h2,hr⟩:=Tr.bind_some hr
   rw[ha]
   dsimp only
   rw[rowT_ok h1]
   dsimp only
   rw[readT_ok h2,← Tr.ok_some hr];rfl
 · rename_i s r off ha
   obtain ⟨x,h2,hr⟩:=Tr.bind_some hr
   rw[ha]
   dsimp only
   rw[readT_ok h2,← Tr.ok_some hr];rfl
 · exact (Tr.bad_some hr).elim

def setMX:List Seg→Nat→AV→Option (List Seg)
 | [],_,_=>none
 | .one u::r,j,v=>match j with
   | 0=>some (.one v::r)
   | j+1=>match setMX r j v with
     | some r'=>some (.one u::r')
     | none=>none
 | .arr k z n::r,j,v=>cond (Nat.blt j n) (match v with
    | .int k' x=>cond (kindX k' k) (some (.arr k (updO z j x) n::r)) none
    | _=>none)
   (match setMX r (Nat.sub j n) v with
     | some r'=>some (.arr k z n::r')
     | none=>none)
theorem setMX_ok:∀ (l:List Seg) (j:Nat) (v:AV) (l':List Seg),setMX l j v=some l'→j<lenM l∧setM l j v=l'
 | [],_,_,_,h=>by simp[setMX] at h
 | .one u::r,0,v,l',h=>by
   simp only[setMX,Option.some.injEq] at h
   exact ⟨by simp only[lenM,segLen];omega,h⟩
 | .one u::r,j+1,v,l',h=>by
   simp only[setMX] at h
   split at h
   · rename_i r' hr
     have:=setMX_ok r j v r' hr
     simp only[Option.some.injEq] at h
     exact ⟨by simp only[lenM,segLen];omega,by simp only[setM];rw[this.2];exact h⟩
   · simp at h
 | .arr k z n::r,j,v,l',h=>by
   simp only[setMX] at h
   cases hb:Nat.blt j n with
   | true =>
     rw[hb,cond_true] at h
     have hj:=blt_t hb
     split at h
     · rename_i k' x
       rw[kindX_if] at h
       split at h
       · rename_i hk
         simp only[Option.some.injEq] at h
         refine ⟨by simp only[lenM,segLen];omega,?_⟩
         simp only[setM]
         rw[if_pos hj,if_pos hk,← h,updO_fn]
       · simp at h
     · simp at h
   | false =>
     rw[hb,cond_false] at h
     have hj:=blt_f hb
     split at h
     · rename_i r' hr
       have:=setMX_ok r (j-n) v r' hr
       simp only[Option.some.injEq] at h
       exact ⟨by simp only[lenM,segLen];omega,by simp only[setM];rw[if_neg hj,this.2];exact h⟩
     · simp at h
def segW:List Seg→Nat→Nat→Nat→AV→Tr (List Seg)
 | [],_,_,_,_=>.bad
 | .one u::r,pos,h,off,v=>match h with
   | 0=>.bad
   | h+1=>(segW r (Nat.succ pos) h off v).bind fun r'=>.ok (.one u::r')
 | .arr k z n::r,pos,h,off,v=>cond (Nat.blt h n) (match v with
    | .int k' x=>cond (kindX k' k) (.req (inO off 1 pos n) (.ok (.arr k (updO z (subO off pos) x) n::r))) .bad
    | _=>.bad)
   ((segW r (Nat.add pos n) (Nat.sub h n) off v).bind fun r'=>.ok (.arr k z n::r'))
theorem segW_ok:∀ (l:List Seg) (pos h off:Nat) (v:AV) (l':List Seg),(segW l pos h off v).run=some l'→pos≤off∧off-pos<lenM l∧setM l (off-pos) v=l'
 | [],_,_,_,_,_,h=>(Tr.bad_some h).elim
 | .one _::r,pos,0,off,v,l',h=>(Tr.bad_some h).elim
 | .one u::r,pos,h'+1,off,v,l',h=>by
   simp only[segW] at h
   obtain ⟨r',hr,h⟩:=Tr.bind_some h
   obtain ⟨h1,h2,h3⟩:=segW_ok r (pos+1) h' off v r' hr
   refine ⟨by omega,by simp only[lenM,segLen];omega,?_⟩
   rw[show off-pos=(off-(pos+1))+1 by omega,← Tr.ok_some h,← h3]
   rfl
 | .arr k z n::r,pos,h',off,v,l',h=>by
   simp only[segW] at h
   cases hb:Nat.blt h' n with
   | true =>
     rw[hb,cond_true] at h
     split at h
     · rename_i k' x
       rw[kindX_if] at h
       split at h
       · rename_i hk
         obtain ⟨hc,h⟩:=Tr.req_some h
         rw[inO_eq,decide_eq_true_eq] at hc
         refine ⟨hc.1,by simp only[lenM,segLen];omega,?_⟩
         simp only[setM]
         rw[if_pos (by omega),if_pos hk,← Tr.ok_some h,updO_fn,subO_eq]
       · exact (Tr.bad_some h).elim
     · exact (Tr.bad_some h).elim
   | false =>
     rw[hb,cond_false] at h
     obtain ⟨r',hr,h⟩:=Tr.bind_some h
     obtain ⟨h1,h2,h3⟩:=segW_ok r (pos+n) (h'-n) off v r' hr
     refine ⟨by omega,by simp only[lenM,segLen];omega,?_⟩
     simp only[setM]
     rw[if_neg (by omega),← Tr.ok_some h,← h3,show off-pos-n=off-(pos+n) by omega]
def set1 (l:List Seg) (off:Nat) (h:Option Nat) (v:AV):Tr (List Seg) :=
 match l with
 | [.arr k z n]=>match v with
   | .int k' x=>cond (kindX k' k) (.req (ltN off n) (.ok [.arr k (updO z off x) n])) .bad
   | _=>.bad
 | l=>match h with
   | none=>ofO (setMX l off v)
   | some h=>segW l 0 h off v
theorem set1_ok {l l':List Seg} {off:Nat} {h:Option Nat} {v:AV} (hr:(set1 l off h v).run=some l'):off<lenM l∧setM l off v=l':=by
 unfold set1 at hr
 split at hr
 · rename_i k z n
   split at hr
   · rename_i k' x
     rw[kindX_if] at hr
     split at hr
     · rename_i hk
       obtain ⟨hc,hr⟩:=Tr.req_some hr
       rw[ltN_eq,decide_eq_true_eq] at hc
       refine ⟨by simp only[lenM,segLen];omega,?_⟩
       simp only[setM]
       rw[if_pos hc,if_pos hk,← Tr.ok_some hr,updO_fn]
     · exact (Tr.bad_some hr).elim
   · exact (Tr.bad_some hr).elim
 · split at hr
   · rw[ofO_run] at hr;exact setMX_ok _ _ _ _ hr
   · have:=segW_ok _ _ _ _ _ _ hr
     rw[Nat.sub_zero] at this
     exact this.2
def setLT (off:Nat) (h:Option Nat):List AV→Nat→List Seg→Tr (List Seg)
 | [],_,l=>.ok l
 | v::vs,j,l=>(set1 l (offS off h j) (hintS h j) v).bind fun l'=>setLT off h vs (Nat.succ j) l'
theorem setLT_ok {off:Nat} {h:Option Nat}:∀ (vs:List AV) (j:Nat) (l l':List Seg),(setLT off h vs j l).run=some l'→(vs=[]∨off+j+vs.length≤lenM l)∧Row.setAll (.M l) (off+j) vs=.M l'
 | [],j,l,l',h=>⟨.inl rfl,by rw[Tr.ok_some h];rfl⟩
 | v :: vs,j,l,l',h=>by
   simp only[setLT] at h
   obtain ⟨l1,h1,h⟩:=Tr.bind_some h
   obtain ⟨k1,k2⟩:=set1_ok h1
   rw[offS_eq] at k1 k2
   obtain ⟨k3,k4⟩:=setLT_ok vs (j+1) l1 l' h
   have hl:lenM l1=lenM l:=by rw[← k2,lenM_setM]
   refine ⟨.inr ?_,?_⟩
   · rcases k3 with rfl | k3
     · simp only[List.length_cons,List.length_nil];omega
     · simp only[List.length_cons];omega
   · simp only[Row.setAll,Row.set,k2]
     exact k4
def putT (l:List Seg) (off:Nat) (h:Option Nat) (q:Row):Tr Row :=
 match l,q with
 | [.arr k z m],.M [.arr k' z' n]=>cond (kindX k' k) (.req (inO off n 0 m) (.ok (.M [.arr k (copO z off z' n) m]))) .bad
 | l,q=>cond (Nat.ble 9 (rlenX q)) (match h with
    | none=>cond (Nat.ble (Nat.add off (rlenX q)) (lenM l)) (.ok (putG l off q)) .bad
    | some _=>.bad)
   (match toListX q with
     | []=>.bad
     | v::vs=>(setLT off h (v::vs) 0 l).bind fun l'=>.ok (.M l'))
theorem putT_ok {l:List Seg} {off:Nat} {h:Option Nat} {q r:Row} (hr:(putT l off h q).run=some r):off+q.len≤lenM l∧putA (.M l) off q=r:=by
 unfold putT at hr
 split at hr
 · rename_i k z m k' z' n
   rw[kindX_if] at hr
   split at hr
   · rename_i hk
     obtain ⟨hc,hr⟩:=Tr.req_some hr
     rw[inO_eq,decide_eq_true_eq] at hc
     refine ⟨by simp only[Row.len,lenM,segLen];omega,?_⟩
     simp only[putA]
     rw[if_pos hk,← Tr.ok_some hr,copO_eq]
   · exact (Tr.bad_some hr).elim
 · rename_i hne
   have hA:putA (.M l) off q=putG l off q:=by
    simp only[putA]
    split
    · rename_i k z m
      split
      · rename_i k' z' n
        exact (hne _ _ _ _ _ _ rfl rfl).elim
      · rfl
    · rfl
   rw[hA]
   rw[rlenX_eq] at hr
   cases hb:Nat.ble 9 q.len with
   | true =>
     rw[hb,cond_true] at hr
     split at hr
     · cases hc:Nat.ble (Nat.add off q.len) (lenM l) with
       | true =>
         rw[hc,cond_true] at hr
         rw[Nat.ble_eq] at hc
         exact ⟨hc,Tr.ok_some hr⟩
       | false=>rw[hc,cond_false] at hr;exact (Tr.bad_some hr).elim
     · exact (Tr.bad_some hr).elim
   | false =>
     rw[hb,cond_false,toListX_eq] at hr
     have hl:=Row.toList_length q
     split at hr
     · exact (Tr.bad_some hr).elim
     · rename_i v vs hq
       obtain ⟨l1,h1,hr⟩:=Tr.bind_some hr
       obtain ⟨k1,k2⟩:=setLT_ok _ _ _ _ h1
       rw[hq] at hl
       refine ⟨?_,?_⟩
       · rcases k1 with k1 | k1
         · simp at k1
         · omega
       · unfold putG
         rw[hb,if_neg (by simp),hq,← Tr.ok_some hr,← k2];rfl
def ownS (d:Nat) (x:AV):Bool :=
 match d with
 | 0=>false
 | _+1=>match x with
   | .slc 0 _ _ _ _ _ _=>true
   | _=>false
def storeT (P:Program) (H:Heap) (t:TypeId) (a:HV) (x:AV):Tr Delta :=
 match a.1 with
 | .ptr d i v off=>cond (ownS d x) (match a.2 with | none=>ofO (storeVX P H t a.1 x) | some _=>.bad)
   (cond (hLockX H d) .bad ((rowT H d i v a.2).bind fun r=>match sizeT P t with
     | some n=>match x.row with
       | some q=>cond (Nat.beq (rlenX q) n) (match r with
         | .M l=>(putT l off a.2 (dnR d q)).bind fun r'=>.ok (.set d i (v,.row r'))
         | _=>match a.2 with | none=>ofO (storeVX P H t a.1 x) | some _=>.bad) .bad
       | none=>.bad
     | none=>.bad))
 | _=>.bad
theorem storeT_ok {P:Program} {H:Heap} {t:TypeId} {a:HV} {x:AV} {δ:Delta} (hr:(storeT P H t a x).run=some δ):storeV P H t a.1 x=some δ:=by
 unfold storeT at hr
 split at hr
 · rename_i d i v off ha
   cases ho:ownS d x with
   | true =>
     rw[ho,cond_true] at hr
     split at hr
     · rw[ofO_run,storeVX_eq] at hr;exact hr
     · exact (Tr.bad_some hr).elim
   | false =>
     rw[ho,cond_false,hLockX_eq] at hr
     cases hl:hLock H d with
     | true=>rw[hl,cond_true] at hr;exact (Tr.bad_some hr).elim
     | false =>
       rw[hl,cond_false] at hr
       obtain ⟨r,h1,hr⟩:=Tr.bind_some hr
       split at hr
       · rename_i n hs
         split at hr
         · rename_i q hq
           rw[rlenX_eq] at hr
           cases hb:Nat.beq q.len n with
           | false=>rw[hb,cond_false] at hr;exact (Tr.bad_some hr).elim
           | true =>
             rw[hb,cond_true] at hr
             have hb:q.len=n:=by simpa using hb
             split at hr
             · rename_i l
               obtain ⟨r',h2,hr⟩:=Tr.bind_some hr
               obtain ⟨k1,k2⟩:=putT_ok h2
               rw[dnR_len] at k1
               rw[ha]
               unfold storeV
               dsimp only
               rw[hl,if_neg (by simp),rowT_ok h1,hs,hq]
               dsimp only
               rw[if_pos ⟨hb,by show off+n≤lenM l;omega⟩]
               have:∀ (d':Nat) (j w o sz len:Nat) (cap:Option Nat),d=d'+1→x≠.slc 0 j w o sz len cap:=by
                rintro d' j w o sz len cap rfl rfl
                simp[ownS] at ho
               rw[← Tr.ok_some hr,← k2]
               split
               · exact absurd rfl (this _ _ _ _ _ _ _ rfl)
               · rfl
             · split at hr
               · rw[ofO_run,storeVX_eq] at hr;exact hr
               · exact (Tr.bad_some hr).elim
         · exact (Tr.bad_some hr).elim
       · exact (Tr.bad_some hr).elim
 · exact (Tr.bad_some hr).elim

def hOr (h:Option Nat) (off:Nat):Nat :=
 match h with
 | none=>off
 | some h=>h
def fieldAddrT (P:Program) (t:TypeId) (a:HV) (f:Nat):Tr HV :=
 match P.underlying t with
 | some (.struct fs)=>match fs[f]? with
   | some g=>match sizeT P g.type with
     | some (_+1)=>match a.1 with
       | .ptr d i v off=>.ok (.ptr d i v (offS off a.2 g.offset),hintS a.2 g.offset)
       | .ptrT s r off=>.ok (.ptrT s r (offS off a.2 g.offset),hintS a.2 g.offset)
       | _=>.bad
     | _=>.bad
   | none=>.bad
 | _=>.bad
theorem fieldAddrT_ok {P:Program} {t:TypeId} {a b:HV} {f:Nat} (hr:(fieldAddrT P t a f).run=some b):fieldAddrV P t a.1 f=some b.1:=by
 unfold fieldAddrT at hr
 unfold fieldAddrV
 split at hr
 · rename_i fs hu
   rw[hu]
   dsimp only
   split at hr
   · rename_i g hg
     rw[hg]
     dsimp only
     split at hr
     · rename_i n hs
       rw[hs]
       dsimp only
       split at hr
       · rename_i d i v off ha
         rw[ha,← Tr.ok_some hr];simp only[addOff,offS_eq]
       · rename_i s r off ha
         rw[ha,← Tr.ok_some hr];simp only[addOff,offS_eq]
       · exact (Tr.bad_some hr).elim
     · exact (Tr.bad_some hr).elim
   · exact (Tr.bad_some hr).elim
 · exact (Tr.bad_some hr).elim
def isLit (x:HV):Bool :=
 match x.2 with
 | some _=>true
 | none=>false
def offI (off:Nat) (ic:Bool) (i:Int) (z:Nat):Nat:=cond ic (Nat.add off (Nat.mul i.toNat z)) (idO off i z)
theorem offI_eq (off:Nat) (ic:Bool) (i:Int) (z:Nat):offI off ic i z=off+i.toNat*z:=by
 cases ic with
 | true=>rfl
 | false=>exact idO_eq _ _ _
def hintI (h:Option Nat) (off:Nat) (ic:Bool) (i:Int) (z:Nat):Option Nat :=
 cond ic (hintS h (Nat.mul i.toNat z)) (some (hOr h off))
def idxT (P:Program) (t:TypeId) (a:HV) (ic:Bool) (i:Int):Tr HV :=
 match P.underlying t with
 | some (.array n e)=>match sizeT P e with
   | some z=>match a.1 with
     | .ptr d j v off=>.req (inI i n) (.ok (.ptr d j v (offI off ic i z),hintI a.2 off ic i z))
     | .ptrT s r off=>.req (inI i n) (.ok (.ptrT s r (offI off ic i z),hintI a.2 off ic i z))
     | _=>.bad
   | none=>.bad
 | some (.slice e)=>match sizeT P e with
   | some z=>match a.1 with
     | .slc d j v off sz len cap=>cond (Nat.beq z sz) (.req (inI i len) (.ok (.ptr d j v (offI off ic i z),match cap with
       | some _=>hintI none off ic i z
       | none=>some off))) .bad
     | .slcT s r sz len _=>cond (Nat.beq z sz) (.req (inI i len) (.ok (.ptrT s r (offI 0 ic i z),hintI none 0 ic i z))) .bad
     | _=>.bad
   | none=>.bad
 | _=>.bad
def ixT (P:Program) (t:TypeId) (x:AV) (ic:Bool) (i:Int):Tr AV :=
 cond ic (ofO (indexV P t x i)) (match P.underlying t with
  | some (.array n e)=>match x with
    | .agg r=>match sizeT P e with
      | some z=>.req (inI i n) (readT P e r (idO 0 i z) (some 0))
      | none=>.bad
    | _=>.bad
  | _=>.bad)
theorem ixT_ok {P:Program} {t:TypeId} {x v:AV} {ic:Bool} {i:Int} (hr:(ixT P t x ic i).run=some v):indexV P t x i=some v:=by
 unfold ixT at hr
 cases ic with
 | true=>rw[cond_true,ofO_run] at hr;exact hr
 | false =>
   rw[cond_false] at hr
   split at hr
   · rename_i n e hu
     split at hr
     · split at hr
       · rename_i z hs
         obtain ⟨hc,hr⟩:=Tr.req_some hr
         rw[inI_eq,decide_eq_true_eq] at hc
         have h:=readT_ok hr
         rw[idO_eq,Nat.zero_add] at h
         unfold indexV
         rw[hu]
         dsimp only
         rw[hs]
         dsimp only
         rw[if_pos hc,h]
       · exact (Tr.bad_some hr).elim
     · exact (Tr.bad_some hr).elim
   · exact (Tr.bad_some hr).elim
theorem idxT_ok {P:Program} {t:TypeId} {a b:HV} {ic:Bool} {i:Int} (hr:(idxT P t a ic i).run=some b):indexAddrV P t a.1 i=some b.1:=by
 unfold idxT at hr
 unfold indexAddrV
 split at hr
 · rename_i n e hu
   split at hr
   · rename_i z hs
     split at hr
     · rename_i d j v off ha
       obtain ⟨hc,hr⟩:=Tr.req_some hr
       rw[inI_eq,decide_eq_true_eq] at hc
       rw[hu,ha]
       dsimp only
       rw[hs]
       dsimp only
       rw[if_pos hc,← Tr.ok_some hr]
       simp only[addOff,offI_eq]
     · rename_i s r off ha
       obtain ⟨hc,hr⟩:=Tr.req_some hr
       rw[inI_eq,decide_eq_true_eq] at hc
       rw[hu,ha]
       dsimp only
       rw[hs]
       dsimp only
       rw[if_pos hc,← Tr.ok_some hr]
       simp only[addOff,offI_eq]
     · exact (Tr.bad_some hr).elim
   · exact (Tr.bad_some hr).elim
 · rename_i e hu
   split at hr
   · rename_i z hs
     split at hr
     · rename_i d j v off sz len cap ha
       cases hb:Nat.beq z sz with
       | false=>rw[hb,cond_false] at hr;exact (Tr.bad_some hr).elim
       | true =>
         rw[hb,cond_true] at hr
         have hb:z=sz:=by simpa using hb
         subst hb
         obtain ⟨hc,hr⟩:=Tr.req_some hr
         rw[inI_eq,decide_eq_true_eq] at hc
         rw[hu,ha]
         dsimp only
         rw[if_pos ⟨hc.1,hc.2,hs⟩,← Tr.ok_some hr]
         simp only[offI_eq]
     · rename_i s r sz len full ha
       cases hb:Nat.beq z sz with
       | false=>rw[hb,cond_false] at hr;exact (Tr.bad_some hr).elim
       | true =>
         rw[hb,cond_true] at hr
         have hb:z=sz:=by simpa using hb
         subst hb
         obtain ⟨hc,hr⟩:=Tr.req_some hr
         rw[inI_eq,decide_eq_true_eq] at hc
         rw[hu,ha]
         dsimp only
         rw[if_pos ⟨hc.1,hc.2,hs⟩,← Tr.ok_some hr]
         simp only[offI_eq,Nat.zero_add]
     · exact (Tr.bad_some hr).elim
   · exact (Tr.bad_some hr).elim
 · exact (Tr.bad_some hr).elim

end
end Go.Eng
