/- The engine, part B: how abstract values, frames and heaps stand for those of the model. -/
import Derived.Test.YtoomemfhcbajoaaV7EngA
import Derived.WalkKit
import Derived.Laws.CopyRow
namespace Go.Eng
set_option linter.unusedVariables false
set_option linter.unusedSimpArgs false

theorem listOf_length (g:Nat→AV):∀ (n o:Nat),(listOf g o n).length=n
 | 0,_=>rfl
 | n+1,o=>by simp[listOf,listOf_length g n]
theorem listOf_getD (g:Nat→AV):∀ (n o j:Nat),j<n→(listOf g o n).getD j .undef=g (o+j)
 | 0,_,_,h=>by omega
 | n+1,o,0,_=>by simp[listOf]
 | n+1,o,j+1,h=>by
   have:=listOf_getD g n (o+1) j (by omega)
   simp only[listOf,List.getD_cons_succ,this]
   congr 1;omega

theorem lenM_mapM (f:AV→AV):∀ l,lenM (mapM' f l)=lenM l
 | []=>rfl
 | .one v::r=>by simp[mapM',lenM,segLen,lenM_mapM f r]
 | .arr k z n::r=>by simp[mapM',lenM,segLen,lenM_mapM f r]
theorem getM_mapM (f:AV→AV):∀ (l:List Seg) (j:Nat),j<lenM l→getM (mapM' f l) j=f (getM l j)∨∃ k n,getM l j=.int k n∧getM (mapM' f l) j=.int k n
 | [],j,h=>by simp[lenM] at h
 | .one v::r,0,h=>.inl rfl
 | .one v::r,j+1,h=>by simp only[mapM',getM];exact getM_mapM f r j (by simp[lenM,segLen] at h;omega)
 | .arr k z n::r,j,h=>by
   simp only[mapM',getM]
   by_cases e:j<n
   · simp only[if_pos e];exact .inr ⟨_,_,rfl,rfl⟩
   · simp only[if_neg e];exact getM_mapM f r (j-n) (by simp[lenM,segLen] at h;omega)
theorem lenM_ones:∀ (l:List AV) (r:List Seg),lenM (ones l r)=l.length+lenM r
 | [],r=>by simp[ones]
 | v::l,r=>by simp[ones,lenM,segLen,lenM_ones l r];omega
theorem getM_ones:∀ (l:List AV) (r:List Seg) (j:Nat),getM (ones l r) j=if j<l.length then l.getD j .undef else getM r (j-l.length)
 | [],r,j=>by simp[ones]
 | v::l,r,0=>by simp[ones,getM]
 | v::l,r,j+1=>by
   simp only[ones,getM,getM_ones l r j,List.length_cons,Nat.add_lt_add_iff_right,List.getD_cons_succ,Nat.add_sub_add_right]
theorem lenM_setM:∀ (l:List Seg) (j:Nat) (v:AV),lenM (setM l j v)=lenM l
 | [],_,_=>rfl
 | .one _::r,0,v=>rfl
 | .one u::r,j+1,v=>by simp[setM,lenM,segLen,lenM_setM r j v]
 | .arr k z n::r,j,v=>by
   have key:lenM (ones (listOf (fun i=>if i=j then v else .int k (z i)) 0 n) r)=lenM (.arr k z n::r):=by
    rw[lenM_ones,listOf_length];rfl
   simp only[setM]
   split
   · split
     · split
       · rfl
       · exact key
     · exact key
   · simp[lenM,segLen,lenM_setM r (j-n) v]
theorem getM_setM:∀ (l:List Seg) (j:Nat) (v:AV) (i:Nat),i<lenM l→getM (setM l j v) i=if i=j then v else getM l i
 | [],_,_,i,h=>by simp[lenM] at h
 | .one _::r,0,v,0,h=>by simp[setM,getM]
 | .one _::r,0,v,i+1,h=>by simp[setM,getM]
 | .one u::r,j+1,v,0,h=>by simp[setM,getM]
 | .one u::r,j+1,v,i+1,h=>by
   simp only[setM,getM,getM_setM r j v i (by simp[lenM,segLen] at h;omega)]
   simp
 | .arr k z n::r,j,v,i,h=>by
   have hi:¬ i<n→i-n<lenM r:=fun e=>by simp[lenM,segLen] at h;omega
   have key:j<n→getM (ones (listOf (fun i=>if i=j then v else .int k (z i)) 0 n) r) i=if i=j then v else getM (.arr k z n::r) i:=by
    intro hj
    rw[getM_ones,listOf_length]
    simp only[getM]
    by_cases e:i<n
    · rw[if_pos e,listOf_getD _ _ _ _ e,if_pos e]
      simp
    · rw[if_neg e,if_neg e,if_neg (by omega)]
   simp only[setM]
   split
   · rename_i hj
     split
     · rename_i k' x
       split
       · rename_i hk
         subst hk
         simp only[getM]
         by_cases e:i<n
         · rw[if_pos e,if_pos e]
           by_cases e2:i=j<;>simp[e2]
         · rw[if_neg e,if_neg e,if_neg (by omega)]
       · exact key hj
     · exact key hj
   · rename_i hj
     simp only[getM]
     by_cases e:i<n
     · rw[if_pos e,if_pos e,if_neg (by omega)]
     · rw[if_neg e,if_neg e,getM_setM r (j-n) v (i-n) (hi e)]
       by_cases e2:i=j
       · subst e2;simp
       · rw[if_neg e2,if_neg (by omega)]
theorem arrs_int:∀ (l:List Seg),arrs l=true→∀ j,j<lenM l→∃ k n,getM l j=.int k n
 | [],_,j,h=>by simp[lenM] at h
 | .one _::_,h,_,_=>by simp[arrs] at h
 | .arr k z n::r,h,j,hj=>by
   simp only[getM]
   by_cases e:j<n
   · rw[if_pos e];exact ⟨_,_,rfl⟩
   · rw[if_neg e];exact arrs_int r h (j-n) (by simp[lenM,segLen] at hj;omega)
theorem allZ_get:∀ (l:List Int),allZ l=true→∀ j,l.getD j 0=0
 | [],_,j=>by simp
 | x::l,h,0=>by simp[allZ] at h;simpa using h.1
 | x::l,h,j+1=>by simp[allZ] at h;simpa using allZ_get l h.2 j
theorem zfn_eq (l:List Int):zfn l=fun j=>l.getD j 0:=by
 unfold zfn
 split
 · rename_i h;funext j;exact (allZ_get l h j).symm
 · rfl
theorem segRun_eq (k:IntKind):∀ l:List AV,(segRun k l).1.map (AV.int k)++(segRun k l).2=l
 | []=>rfl
 | v::r=>by
   have ih:=segRun_eq k r
   cases v
   case int k' n =>
    simp only[segRun]
    split
    · rename_i e
      subst e
      simpa using ih
    · rfl
   all_goals rfl
theorem segsOf_rel:∀ (f:Nat) (l:List AV),lenM (segsOf f l)=l.length∧∀ j,j<l.length→getM (segsOf f l) j=l.getD j .undef
 | 0,l=>by
   refine ⟨by simp[segsOf,lenM_ones,lenM],fun j hj=>?_⟩
   simp only[segsOf,getM_ones];rw[if_pos hj]
 | f+1,[]=>⟨rfl,fun j hj=>by simp at hj⟩
 | f + 1,v::r=>by
   have one:lenM (.one v::segsOf f r)=(v::r).length∧∀ j,j<(v::r).length→getM (.one v::segsOf f r) j=(v::r).getD j .undef:=by
    have ih:=segsOf_rel f r
    refine ⟨by simp[lenM,segLen,ih.1];omega,fun j hj=>?_⟩
    cases j with
    | zero=>rfl
    | succ j=>simp only[getM,List.getD_cons_succ];exact ih.2 j (by simpa using hj)
   cases v
   case int k n =>
    simp only[segsOf,zfn_eq]
    split
    have he:=segRun_eq k r
    have ih:=segsOf_rel f (segRun k r).2
    have hl:(segRun k r).1.length+(segRun k r).2.length=r.length:=by
     have:=congrArg List.length he;simpa using this
    refine ⟨by simp[lenM,segLen,ih.1];omega,fun j hj=>?_⟩
    simp only[getM]
    by_cases e:j<(segRun k r).1.length+1
    · rw [if_pos e]
      cases j with
      | zero=>rfl
      | succ j =>
        have hj':j<(segRun k r).1.length:=by omega
        have:r.getD j .undef=.int k ((segRun k r).1.getD j 0):=by
         have h3:r.getD j .undef=((segRun k r).1.map (AV.int k)++(segRun k r).2).getD j .undef:=by rw[he]
         rw[h3]
         simp[List.getElem?_append_left,hj']
        simp only[List.getD_cons_succ,this]
    · rw[if_neg e,ih.2 _ (by simp at hj;omega)]
      obtain ⟨i,rfl⟩:∃ i,j=(segRun k r).1.length+1+i:=⟨j-((segRun k r).1.length+1),by omega⟩
      have:(AV.int k n::r).getD ((segRun k r).1.length+1+i) .undef=r.getD ((segRun k r).1.length+i) .undef:=by
       rw[show (segRun k r).1.length+1+i=((segRun k r).1.length+i)+1 by omega,List.getD_cons_succ]
      rw[this]
      have h3:r.getD ((segRun k r).1.length+i) .undef=((segRun k r).1.map (AV.int k)++(segRun k r).2).getD ((segRun k r).1.length+i) .undef:=by rw[he]
      rw[h3]
      simp[List.getElem?_append_right]
    exact one
   all_goals exact one
theorem Row.ints_some {r:Row} {k:IntKind} {z:Nat→Int} (h:r.ints=some (k,z)):∀ j,j<r.len→r.get j=.int k (z j):=by
 unfold Row.ints at h
 split at h
 · simp only[nP] at h
   obtain ⟨rfl,rfl⟩:=h
   exact fun j hj=>rfl
 · rename_i k' z' n
   simp only[nP] at h
   obtain ⟨rfl,rfl⟩:=h
   intro j hj
   simp only[Row.len,lenM,segLen,Nat.add_zero] at hj
   simp only[Row.get,getM,if_pos hj]
 · simp at h

theorem Row.toList_length (r:Row):r.toList.length=r.len:=by
 cases r<;>simp[Row.toList,Row.len,listOf_length]
theorem Row.toList_getD (r:Row) (j:Nat) (h:j<r.len):r.toList.getD j .undef=r.get j:=by
 cases r with
 | I k l=>simp[Row.toList,Row.len,Row.get] at *;simp[List.getElem?_eq_getElem h]
 | G l=>simp[Row.toList,Row.get]
 | F f n=>simp[Row.toList,Row.len,Row.get] at *;have:=listOf_getD f n 0 j h;simpa using this
 | M l=>simp[Row.toList,Row.len,Row.get] at *;have:=listOf_getD (getM l) (lenM l) 0 j h;simpa using this

theorem intsOf_some {k:IntKind}:∀ {l:List AV} {m:List Int},intsOf k l=some m→l=m.map (.int k)
 | [],m,h=>by simp[intsOf] at h;subst h;rfl
 | v::r,m,h=>by
   cases v<;>simp[intsOf] at h
   rename_i k' n
   obtain ⟨rfl,q,hq,rfl⟩:=h
   simp[intsOf_some hq]
theorem Row.ofList_toList (l:List AV):(Row.ofList l).toList=l:=by
 unfold Row.ofList
 split
 · rename_i k n r
   split
   · rename_i m hm
     simp[Row.toList,intsOf_some hm]
   · rfl
 · rfl
theorem Row.ofList_len (l:List AV):(Row.ofList l).len=l.length:=by
 rw[← Row.toList_length,Row.ofList_toList]
theorem Row.ofList_get (l:List AV) (j:Nat) (h:j<l.length):(Row.ofList l).get j=l.getD j .undef:=by
 rw[← Row.toList_getD _ _ (by rw[Row.ofList_len];exact h),Row.ofList_toList]

theorem subA_get:∀ (l:List Seg) (o n:Nat) {k:IntKind} {z:Nat→Int},subA l o n=some (k,z)→∀ j,j<n→getM l (o+j)=.int k (z j)
 | [],_,_,k,z,h,_,_=>by simp[subA] at h
 | .one _::r,0,n,k,z,h,_,_=>by simp[subA] at h
 | .one _::r,o+1,n,k,z,h,j,hj=>by
   have:=subA_get r o n (k:=k) (z:=z) (by simpa[subA] using h) j hj
   rw[show o+1+j=(o+j)+1 by omega]
   exact this
 | .arr k' z' m::r,o,n,k,z,h,j,hj=>by
   simp only[subA] at h
   simp only[getM]
   split at h
   · simp only[nP] at h
     obtain ⟨rfl,rfl⟩:=h
     rw[if_pos (by omega)]
   · split at h
     · rename_i hm
       have:=subA_get r (o-m) n h j hj
       rw[if_neg (by omega),← this]
       congr 1;omega
     · simp at h
theorem Row.subM (l:List Seg) (o n:Nat) (hb:o+n≤lenM l):(Row.sub (.M l) o n=.G (listOf (getM l) o n))∨(o=0∧n=lenM l∧Row.sub (.M l) o n=.M l)∨∃ k z,(∀ j,j<n→getM l (o+j)=.int k (z j))∧Row.sub (.M l) o n=.M [.arr k z n]:=by
 have one:∀ k z m,l=[.arr k z m]→(Row.sub (.M l) o n=.G (listOf (getM l) o n))∨(o=0∧n=lenM l∧Row.sub (.M l) o n=.M l)∨∃ k z,(∀ j,j<n→getM l (o+j)=.int k (z j))∧Row.sub (.M l) o n=.M [.arr k z n]:=by
  rintro k z m rfl
  refine .inr (.inr ⟨k,fun j=>z (o+j),fun j hj=>?_,rfl⟩)
  simp only[lenM,segLen,Nat.add_zero] at hb
  simp only[getM]
  rw[if_pos (by omega)]
 by_cases hl:∃ k z m,l=[.arr k z m]
 · obtain ⟨k,z,m,e⟩:=hl;exact one k z m e
 have e0:Row.sub (.M l) o n=(if Nat.beq o 0 && Nat.beq (lenM l) n then .M l else match subA l o n with
  | some (k,z)=>.M [.arr k z n]
  | none=>.G (listOf (getM l) o n)):=by
  match l,hl with
  | [],_=>rfl
  | [.arr k z m],hl=>exact absurd ⟨k,z,m,rfl⟩ hl
  | .one v::r,_=>rfl
  | .arr k z m::s::r,_=>rfl
 rw[e0]
 split
 · rename_i h
   rw[Bool.and_eq_true] at h
   exact .inr (.inl ⟨by simpa using h.1,by simpa using (Nat.eq_of_beq_eq_true h.2).symm,rfl⟩)
 · split
   · rename_i k z h
     exact .inr (.inr ⟨k,z,subA_get l o n h,rfl⟩)
   · exact .inl rfl
theorem Row.sub_len (r:Row) (o n:Nat) (h:o+n≤r.len):(r.sub o n).len=n:=by
 cases r with
 | M l =>
   rcases Row.subM l o n (by assumption) with e | ⟨_,h2,e⟩ | ⟨k,z,_,e⟩<;>rw[e]
   · simp[Row.len,listOf_length]
   · simp[Row.len,h2]
   · simp[Row.len,lenM,segLen]
 | _=>simp[Row.sub,Row.len] at *<;>omega
theorem Row.sub_get (r:Row) (o n j:Nat) (h:o+n≤r.len) (hj:j<n):(r.sub o n).get j=r.get (o+j):=by
 cases r with
 | M l =>
   rcases Row.subM l o n (by assumption) with e | ⟨h1,_,e⟩ | ⟨k,z,h1,e⟩<;>rw[e]
   · exact listOf_getD _ _ _ _ hj
   · subst h1;rw[Nat.zero_add]
   · simp only[Row.get,getM,if_pos hj,h1 j hj]
 | _=>simp[Row.sub,Row.get,Row.len,List.getElem?_take,hj] at *
theorem Row.cut_len (r:Row) (o n:Nat) (h:o+n≤r.len):(r.cut o n).len=n:=by
 cases r with
 | I k l=>exact Row.sub_len _ _ _ h
 | G l=>simp only[Row.cut,Row.ofList_len];simp[Row.len] at h ⊢;omega
 | F f m=>exact Row.sub_len _ _ _ h
 | M l =>
   simp only[Row.cut]
   split
   · simp[Row.ofList_len,listOf_length]
   · split
     · rename_i e
       simp only[Bool.and_eq_true] at e
       exact Nat.eq_of_beq_eq_true e.2
     · exact Row.sub_len _ _ _ h
theorem Row.cut_get (r:Row) (o n j:Nat) (h:o+n≤r.len) (hj:j<n):(r.cut o n).get j=r.get (o+j):=by
 cases r with
 | I k l=>exact Row.sub_get _ _ _ _ h hj
 | G l =>
   simp only[Row.cut]
   rw[Row.ofList_get _ _ (by simp[Row.len] at *;omega)]
   simp[Row.get,List.getElem?_take,hj]
 | F f m=>exact Row.sub_get _ _ _ _ h hj
 | M l =>
   simp only[Row.cut]
   split
   · rw[Row.ofList_get _ _ (by rw[listOf_length];exact hj),listOf_getD _ _ _ _ hj];rfl
   · split
     · rename_i e
       simp only[Bool.and_eq_true] at e
       rw[Nat.eq_of_beq_eq_true e.1,Nat.zero_add]
     · exact Row.sub_get _ _ _ _ h hj

theorem Row.set_len (r:Row) (j:Nat) (v:AV):(r.set j v).len=r.len:=by
 cases r with
 | I k l =>
   cases v
   case int k' n=>simp only[Row.set];split<;>simp[Row.len]
   all_goals simp[Row.set,Row.len]
 | G l=>cases v<;>simp[Row.set,Row.len]
 | F f n=>cases v<;>simp[Row.set,Row.len]
 | M l=>simp[Row.set,Row.len,lenM_setM]
theorem Row.appI_some {r s q:Row} (h:r.appI s=some q):∃ (k:IntKind) (z z':Nat→Int),(∀ j,j<r.len→r.get j=.int k (z j))∧(∀ j,j<s.len→s.get j=.int k (z' j))∧q=.M [.arr k (fun i=>if i<r.len then z i else z' (i-r.len)) (r.len+s.len)]:=by
 unfold Row.appI at h
 split at h
 · rename_i k z k' z' h1 h2
   split at h
   · rename_i e
     subst e
     simp only[Option.some.injEq] at h
     exact ⟨_,z,z',Row.ints_some h1,Row.ints_some h2,h.symm⟩
   · simp at h
 · simp at h
theorem Row.app_M {r s:Row} (h:isM r=true∨(isM s=true∧∃ k l,r=.I k l)):r.app s=.G (r.toList++s.toList)∨r.appI s=some (r.app s):=by
 rcases h with h | ⟨h,k,l,rfl⟩
 · cases r<;>simp[isM] at h
   rename_i l
   cases e:(Row.M l).appI s with
   | none=>left;cases s<;>simp[Row.app,e]
   | some q=>right;cases s<;>simp[Row.app,e]
 · cases s<;>simp[isM] at h
   rename_i m
   cases e:(Row.I k l).appI (.M m) with
   | none=>left;simp[Row.app,e]
   | some q=>right;simp[Row.app,e]
theorem Row.app_lenM {r s:Row} (h:isM r=true∨(isM s=true∧∃ k l,r=.I k l)):(r.app s).len=r.len+s.len:=by
 rcases Row.app_M h with e | e
 · rw[e];simp[Row.len,Row.toList_length]
 · obtain ⟨k,z,z',_,_,e2⟩:=Row.appI_some e
   rw[e2];simp[Row.len,lenM,segLen]
theorem Row.app_len (r s:Row):(r.app s).len=r.len+s.len:=by
 cases r<;>cases s
 case I.I k l k' l'=>simp only[Row.app];split<;>simp[Row.len]
 case F.I=>rfl
 case F.G=>rfl
 case F.F=>rfl
 case F.M=>rfl
 case M.I=>exact Row.app_lenM (.inl rfl)
 case M.G=>exact Row.app_lenM (.inl rfl)
 case M.F=>exact Row.app_lenM (.inl rfl)
 case M.M=>exact Row.app_lenM (.inl rfl)
 case I.M=>exact Row.app_lenM (.inr ⟨rfl,_,_,rfl⟩)
 all_goals simp[Row.app,Row.len,Row.toList,listOf_length]

abbrev Pst:=Nat→Nat→Option Value
abbrev Mu:=Nat→Nat→Nat→Option (Nat×Nat×Nat)
def Mu.up (M:Mu) (k:Nat):Mu:=fun d i v=>M (d+k) i v
def Mu.no:Mu:=fun _ _ _=>none
def muT (M:Mu):Option Nat→Mu
 | none=>Mu.no
 | some k=>M.up k
def muR (M:Mu):Row→Mu
 | .F _ _=>Mu.no
 | _=>M

inductive VRel (p:Pst):Mu→AV→Value→Prop
 | undef {M:Mu} (c:Value):VRel p M .undef c
 | bool {M:Mu} (b:Bool):VRel p M (.bool b) (.bool b)
 | int {M:Mu} (k:IntKind) (n:Int):VRel p M (.int k n) (.int k n)
 | str {M:Mu} (s:ByteArray):VRel p M (.str s) (.string s)
 | nilp {M:Mu}:VRel p M .nilp (.pointer none)
 | nils {M:Mu}:VRel p M .nils (.slice none 0 0)
 | nilm {M:Mu}:VRel p M .nilm (.map none)
 | nilf {M:Mu}:VRel p M .nilf .nilFunc
 | ptr {M:Mu} {d i v off b o t:Nat} (h:M d i v=some (b,o,t)):VRel p M (.ptr d i v off) (.pointer (some ⟨b,o+off,none⟩))
 | ptrT {M:Mu} {s:Option Nat} {r:Row} {off b o:Nat} (vs:Nat→Value) (hp:∀ j,j<r.len→p b (o+j)=some (vs j)) (h1:∀ j,j<r.len→(vs j).oneCell'=true)
    (hv:∀ j,j<r.len→VRel p (muR (muT M s) r) (r.get j) (vs j)):VRel p M (.ptrT s r off) (.pointer (some ⟨b,o+off,none⟩))
 | slc {M:Mu} {d i v off sz len b o t x cc:Nat} {cap:Option Nat} (h:M d i v=some (b,o,t)) (hl:len≤cc) (hc:∀ c,cap=some c→cc=c)
    (hn:cap=none→o+off+cc*sz=t) (hx:cc=0∨x=o+off):VRel p M (.slc d i v off sz len cap) (.slice (some ⟨b,x,none⟩) len cc)
 | slcT {M:Mu} {s:Option Nat} {r:Row} {sz len b o x cc:Nat} {full:Bool} (vs:Nat→Value) (hp:∀ j,j<r.len→p b (o+j)=some (vs j)) (h1:∀ j,j<r.len→(vs j).oneCell'=true)
    (hv:∀ j,j<r.len→VRel p (muR (muT M s) r) (r.get j) (vs j)) (hl:len≤cc) (hf:full=true→cc=len) (hx:cc=0∨x=o) :
    VRel p M (.slcT s r sz len full) (.slice (some ⟨b,x,none⟩) len cc)
 | slcN {M:Mu} {s:Option Nat} {r:Row} {sz:Nat} {full:Bool}:VRel p M (.slcT s r sz 0 full) (.slice none 0 0)
 | map {M:Mu} {d i b o t:Nat} (h:M d i 0=some (b,o,t)):VRel p M (.map d i) (.map (some b))
 | yld {M:Mu} {d i b o t:Nat} (h:M d i 0=some (b,o,t)):VRel p M (.yld d i) (.func (.yield b) #[] #[])
 | fn {M:Mu} {f:Fn} {a b:List AV} {ca cb:Array Value} (ha:ca.size=a.length) (hb:cb.size=b.length)
    (va:∀ j,j<a.length→VRel p M (a.getD j .undef) (ca.getD j undef)) (vb:∀ j,j<b.length→VRel p M (b.getD j .undef) (cb.getD j undef)):VRel p M (.fn f a b) (.func f ca cb)
 | agg {M:Mu} {r:Row} {cs:Array Value} (hs:cs.size=r.len) (h1:∀ j,j<r.len→(cs.getD j undef).oneCell'=true)
    (hv:∀ j,j<r.len→VRel p (muR M r) (r.get j) (cs.getD j undef)):VRel p M (.agg r) (.agg cs)
 | tup {M:Mu} {l:List AV} {cs:Array Value} (hs:cs.size=l.length) (hv:∀ j,j<l.length→VRel p M (l.getD j .undef) (cs.getD j undef)):VRel p M (.tup l) (.tuple cs)

theorem VRel.ofInt {p:Pst} {M:Mu} {k:IntKind} {n:Int} {c:Value} (h:VRel p M (.int k n) c):c=.int k n:=by
 cases h;rfl
theorem VRel.anyInt {p:Pst} {M:Mu} (q:Pst) (N:Mu) {k:IntKind} {n:Int} {c:Value} (h:VRel p M (.int k n) c):VRel q N (.int k n) c:=by
 rw[h.ofInt];exact .int _ _
def Pst.le (p q:Pst):Prop:=∀ b o v,p b o=some v→q b o=some v
def Mu.le (M N:Mu):Prop:=∀ d i v t,M d i v=some t→N d i v=some t
theorem Pst.le.refl (p:Pst):Pst.le p p:=fun _ _ _ h=>h
theorem Pst.le.trans {p q r:Pst} (h:Pst.le p q) (k:Pst.le q r):Pst.le p r:=fun b o v e=>k b o v (h b o v e)
theorem Mu.le.refl (M:Mu):Mu.le M M:=fun _ _ _ _ h=>h
theorem Mu.le.trans {M N O:Mu} (h:Mu.le M N) (k:Mu.le N O):Mu.le M O:=fun d i v t e=>k d i v t (h d i v t e)
theorem Mu.le.up {M N:Mu} (h:Mu.le M N) (k:Nat):Mu.le (M.up k) (N.up k):=fun d i v t e=>h _ _ _ _ e
theorem Mu.le.no (N:Mu):Mu.le Mu.no N:=fun _ _ _ _ h=>by cases h
theorem Mu.le.muT {M N:Mu} (h:Mu.le M N) (s:Option Nat):Mu.le (muT M s) (muT N s):=by
 cases s with
 | none=>exact Mu.le.refl _
 | some k=>exact h.up k
theorem Mu.le.muR {M N:Mu} (h:Mu.le M N) (r:Row):Mu.le (muR M r) (muR N r):=by
 cases r<;>first | exact h | exact Mu.le.refl _

theorem VRel.mono {p q:Pst} {M:Mu} {v:AV} {c:Value} (hp:Pst.le p q) (h:VRel p M v c):∀ {N:Mu},Mu.le M N→VRel q N v c:=by
 induction h with
 | undef c=>exact fun _=>.undef c
 | bool b=>exact fun _=>.bool b
 | int k n=>exact fun _=>.int k n
 | str s=>exact fun _=>.str s
 | nilp=>exact fun _=>.nilp
 | nils=>exact fun _=>.nils
 | nilm=>exact fun _=>.nilm
 | nilf=>exact fun _=>.nilf
 | ptr h=>exact fun hM=>.ptr (hM _ _ _ _ h)
 | ptrT vs h0 h1 hv ih=>exact fun hM=>.ptrT vs (fun j hj=>hp _ _ _ (h0 j hj)) h1 (fun j hj=>ih j hj ((hM.muT _).muR _))
 | slc h hl hc hn hx=>exact fun hM=>.slc (hM _ _ _ _ h) hl hc hn hx
 | slcT vs h0 h1 hv hl hf hx ih=>exact fun hM=>.slcT vs (fun j hj=>hp _ _ _ (h0 j hj)) h1 (fun j hj=>ih j hj ((hM.muT _).muR _)) hl hf hx
 | slcN=>exact fun _=>.slcN
 | map h=>exact fun hM=>.map (hM _ _ _ _ h)
 | yld h=>exact fun hM=>.yld (hM _ _ _ _ h)
 | fn ha hb va vb iha ihb=>exact fun hM=>.fn ha hb (fun j hj=>iha j hj hM) (fun j hj=>ihb j hj hM)
 | agg hs h1 hv ih=>exact fun hM=>.agg hs h1 (fun j hj=>ih j hj (hM.muR _))
 | tup hs hv ih=>exact fun hM=>.tup hs (fun j hj=>ih j hj hM)

theorem Mu.up_up (M:Mu) (k s:Nat):(M.up k).up s=M.up (s+k):=by
 funext d i v;simp[Mu.up,Nat.add_assoc]
theorem Mu.up_zero (M:Mu):M.up 0=M:=rfl
theorem muT_up (M:Mu) (k:Nat) (s:Option Nat):muT (M.up k) s=muT M (s.map (· + k)):=by
 cases s with
 | none=>rfl
 | some s=>simp[muT,Mu.up_up]

theorem VRel.upS {p:Pst} {M:Mu} {k:Nat} {v:AV} {c:Value} (h:VRel p (M.up k) v c):VRel p M (upS k v) c:=by
 cases h with
 | undef c=>exact .undef c
 | bool b=>exact .bool b
 | int k n=>exact .int k n
 | str s=>exact .str s
 | nilp=>exact .nilp
 | nils=>exact .nils
 | nilm=>exact .nilm
 | nilf=>exact .nilf
 | ptr h=>exact .ptr h
 | ptrT vs h0 h1 hv=>exact .ptrT vs h0 h1 (fun j hj=>by rw[← muT_up];exact hv j hj)
 | slc h hl hc hn hx=>exact .slc h hl hc hn hx
 | slcT vs h0 h1 hv hl hf hx=>exact .slcT vs h0 h1 (fun j hj=>by rw[← muT_up];exact hv j hj) hl hf hx
 | slcN=>exact .slcN
 | map h=>exact .map h
 | yld h=>exact .yld h
 | fn=>exact .undef _
 | agg hs h1 hv =>
   rename_i r cs
   cases r with
   | I a l=>exact .agg hs h1 (fun j hj=>(hv j hj).anyInt _ _)
   | _=>exact .undef _
 | tup hs hv =>
   rename_i l cs
   cases l with
   | nil=>exact .tup hs (fun j hj=>absurd hj (by simp))
   | cons=>exact .undef _

theorem getD_map_undef (f:AV→AV) (l:List AV) (j:Nat) (h:j<l.length):(l.map f).getD j .undef=f (l.getD j .undef):=by
 simp[List.getElem?_eq_getElem h]

theorem VRel.up' {p:Pst} {M:Mu} {k:Nat} {v:AV} {c:Value} (h:VRel p (M.up k) v c):VRel p M (upV' k v) c:=by
 cases v with
 | fn f a b =>
   cases h with
   | fn ha hb va vb =>
     refine .fn (by simpa using ha) (by simpa using hb) (fun j hj=>?_) (fun j hj=>?_)
     · rw[getD_map_undef _ _ _ (by simpa using hj)];exact (va j (by simpa using hj)).upS
     · rw[getD_map_undef _ _ _ (by simpa using hj)];exact (vb j (by simpa using hj)).upS
 | agg r =>
   cases h with
   | agg hs h1 hv =>
     cases r with
     | I a l=>exact .agg hs h1 (fun j hj=>(hv j hj).anyInt _ _)
     | F f n=>exact .agg hs h1 hv
     | G l =>
       refine .agg (by simpa[Row.len] using hs) (fun j hj=>h1 j (by simpa[Row.len] using hj)) (fun j hj=>?_)
       have hj':j<l.length:=by simpa[Row.len] using hj
       have:=hv j hj'
       simp only[Row.get,muR] at this ⊢
       rw[getD_map_undef _ _ _ hj']
       exact this.upS
     | M l =>
       refine .agg (by simpa[Row.len,lenM_mapM] using hs) (fun j hj=>h1 j (by simpa[Row.len,lenM_mapM] using hj)) (fun j hj=>?_)
       have hj':j<lenM l:=by simpa[Row.len,lenM_mapM] using hj
       have:=hv j hj'
       simp only[Row.get,muR] at this ⊢
       rcases getM_mapM (Eng.upS k) l j hj' with e | ⟨_,_,e1,e2⟩
       · rw[e];exact this.upS
       · rw[e2];rw[e1] at this;exact this.anyInt _ _
 | undef=>exact h.upS
 | bool b=>exact h.upS
 | int k n=>exact h.upS
 | str s=>exact h.upS
 | nilp=>exact h.upS
 | nils=>exact h.upS
 | nilm=>exact h.upS
 | nilf=>exact h.upS
 | ptr=>exact h.upS
 | ptrT=>exact h.upS
 | slc=>exact h.upS
 | slcT=>exact h.upS
 | map=>exact h.upS
 | yld=>exact h.upS
 | tup=>exact h.upS

theorem VRel.up {p:Pst} {M:Mu} {k:Nat} {v:AV} {c:Value} (h:VRel p (M.up k) v c):VRel p M (upV k v) c:=by
 cases k with
 | zero=>exact h
 | succ k=>exact h.up'

theorem muR_ofList (M:Mu) (l:List AV):muR M (Row.ofList l)=M:=by
 unfold Row.ofList
 split
 · split<;>rfl
 · rfl
def RRel (p:Pst) (M:Mu) (r:Row) (vs:Nat→Value):Prop:=∀ j,j<r.len→VRel p (muR M r) (r.get j) (vs j)∧(vs j).oneCell'=true
theorem RRel.get {p:Pst} {M:Mu} {r:Row} {vs:Nat→Value} (h:RRel p M r vs) (j:Nat) (hj:j<r.len):VRel p M (r.get j) (vs j):=by
 have:=(h j hj).1
 cases r<;>first | exact this | exact this.mono (Pst.le.refl _) (Mu.le.no _)
theorem mapM_rel {p q:Pst} {M N:Mu} {f:AV→AV} {l:List Seg} {j:Nat} {c:Value} (hj:j<lenM l) (h:VRel p M (getM l j) c) (hF:VRel p M (getM l j) c→VRel q N (f (getM l j)) c):VRel q N (getM (mapM' f l) j) c:=by
 rcases getM_mapM f l j hj with e | ⟨_,_,e1,e2⟩
 · rw[e];exact hF h
 · rw[e2];rw[e1] at h;exact h.anyInt _ _
theorem RRel.mapM {p:Pst} {M N:Mu} {f:AV→AV} (hF:∀ {v c},VRel p M v c→VRel p N (f v) c) {l:List Seg} {vs:Nat→Value} (h:RRel p M (.M l) vs):RRel p N (.M (mapM' f l)) vs:=by
 intro j hj
 have hj':j<lenM l:=by simpa[Row.len,lenM_mapM] using hj
 have:=h j hj'
 exact ⟨mapM_rel hj' this.1 hF,this.2⟩
theorem RRel.arrs {p:Pst} {M N:Mu} {l:List Seg} (ha:arrs l=true) {vs:Nat→Value} (h:∀ j,j<lenM l→VRel p M (getM l j) (vs j)):∀ j,j<lenM l→VRel p N (getM l j) (vs j):=by
 intro j hj
 obtain ⟨k,n,e⟩:=arrs_int l ha j hj
 have:=h j hj
 rw[e] at this ⊢
 exact this.anyInt _ _
theorem RRel.upR' {p:Pst} {M:Mu} {k:Nat} {r:Row} {vs:Nat→Value} (h:RRel p (M.up k) r vs):RRel p M (upR' k r) vs:=by
 cases r with
 | I a l=>exact fun j hj=>⟨VRel.anyInt _ _ (h j hj).1,(h j hj).2⟩
 | F f n=>exact h
 | G l =>
   intro j hj
   have hj':j<l.length:=by simpa[Row.len,Eng.upR'] using hj
   have:=h j hj'
   simp only[Row.get,muR,Eng.upR'] at this ⊢
   rw[getD_map_undef _ _ _ hj']
   exact ⟨this.1.upS,this.2⟩
 | M l=>exact RRel.mapM (fun h=>h.upS) h
theorem RRel.upR {p:Pst} {M:Mu} {k:Nat} {r:Row} {vs:Nat→Value} (h:RRel p (M.up k) r vs):RRel p M (upR k r) vs:=by
 cases k with
 | zero=>exact h
 | succ k=>exact h.upR'

theorem Mu.up_dn (M:Mu) {k s:Nat} (h:s≤k):M.up k=(M.up s).up (k-s):=by
 rw[Mu.up_up];congr 1;omega

theorem VRel.dnS {p:Pst}:∀ (n:Nat) {M:Mu} {k:Nat} {v:AV} {c:Value},VRel p M v c→VRel p (M.up k) (dnS n k v) c
 | 0,_,_,_,c,_=>.undef c
 | n + 1,M,  k,v,c,h=>by
   have ih:=@VRel.dnS p n
   cases h with
   | undef c=>exact .undef c
   | bool b=>exact .bool b
   | int k n=>exact .int k n
   | str s=>exact .str s
   | nilp=>exact .nilp
   | nils=>exact .nils
   | nilm=>exact .nilm
   | nilf=>exact .nilf
   | ptr h =>
     rename_i d i v off b o t
     simp only[Eng.dnS]
     split
     · exact .undef _
     · rename_i hd
       have:¬ d<k:=by simpa[Nat.blt_eq] using hd
       exact .ptr (t:=t) (by simp only[Mu.up];rw[Nat.sub_add_cancel (by omega)];exact h)
   | slc h hl hc hn hx =>
     rename_i d i v off sz len b o t x cc cap
     simp only[Eng.dnS]
     split
     · exact .undef _
     · rename_i hd
       have:¬ d<k:=by simpa[Nat.blt_eq] using hd
       exact .slc (by simp only[Mu.up];rw[Nat.sub_add_cancel (by omega)];exact h) hl hc hn hx
   | map h =>
     rename_i d i b o t
     simp only[Eng.dnS]
     split
     · exact .undef _
     · rename_i hd
       have:¬ d<k:=by simpa[Nat.blt_eq] using hd
       exact .map (by simp only[Mu.up];rw[Nat.sub_add_cancel (by omega)];exact h)
   | yld h =>
     rename_i d i b o t
     simp only[Eng.dnS]
     split
     · exact .undef _
     · rename_i hd
       have:¬ d<k:=by simpa[Nat.blt_eq] using hd
       exact .yld (by simp only[Mu.up];rw[Nat.sub_add_cancel (by omega)];exact h)
   | ptrT vs h0 h1 hv =>
     rename_i s r off b o
     cases s with
     | none=>exact .ptrT vs h0 h1 hv
     | some s =>
       simp only[Eng.dnS]
       split
       · rename_i hs
         have hs':s<k:=by simpa[Nat.blt_eq] using hs
         cases r with
         | I a l=>exact .ptrT vs h0 h1 (fun j hj=>(hv j hj).anyInt _ _)
         | F f m=>exact .ptrT vs h0 h1 hv
         | M l =>
           dsimp only
           split
           · rename_i ha
             exact .ptrT vs h0 h1 (RRel.arrs ha hv)
           · refine .ptrT vs (fun j hj=>h0 j (by simpa[Row.len,lenM_mapM] using hj)) (fun j hj=>h1 j (by simpa[Row.len,lenM_mapM] using hj)) (fun j hj=>?_)
             have hj':j<lenM l:=by simpa[Row.len,lenM_mapM] using hj
             have:=hv j hj'
             simp only[Row.get,muR,muT] at this ⊢
             rw[Mu.up_zero,Mu.up_dn M (Nat.le_of_lt hs')]
             exact mapM_rel hj' this ih
         | G l =>
           refine .ptrT vs (fun j hj=>h0 j (by simpa[Row.len] using hj)) (fun j hj=>h1 j (by simpa[Row.len] using hj)) (fun j hj=>?_)
           have hj':j<l.length:=by simpa[Row.len] using hj
           have:=hv j hj'
           simp only[Row.get,muR,muT] at this ⊢
           rw[getD_map_undef _ _ _ hj',Mu.up_zero,Mu.up_dn M (Nat.le_of_lt hs')]
           exact ih this
       · rename_i hs
         have hs':¬ s<k:=by simpa[Nat.blt_eq] using hs
         refine .ptrT vs h0 h1 (fun j hj=>?_)
         have:=hv j hj
         simp only[muT] at this ⊢
         rw[Mu.up_up,Nat.sub_add_cancel (by omega)]
         exact this
   | slcT vs h0 h1 hv hl hf hx =>
     rename_i s r sz len b o x cc full
     cases s with
     | none=>exact .slcT vs h0 h1 hv hl hf hx
     | some s =>
       simp only[Eng.dnS]
       split
       · rename_i hs
         have hs':s<k:=by simpa[Nat.blt_eq] using hs
         cases r with
         | I a l=>exact .slcT vs h0 h1 (fun j hj=>(hv j hj).anyInt _ _) hl hf hx
         | F f m=>exact .slcT vs h0 h1 hv hl hf hx
         | M l =>
           dsimp only
           split
           · rename_i ha
             exact .slcT vs h0 h1 (RRel.arrs ha hv) hl hf hx
           · refine .slcT vs (fun j hj=>h0 j (by simpa[Row.len,lenM_mapM] using hj)) (fun j hj=>h1 j (by simpa[Row.len,lenM_mapM] using hj)) (fun j hj=>?_) hl hf hx
             have hj':j<lenM l:=by simpa[Row.len,lenM_mapM] using hj
             have:=hv j hj'
             simp only[Row.get,muR,muT] at this ⊢
             rw[Mu.up_zero,Mu.up_dn M (Nat.le_of_lt hs')]
             exact mapM_rel hj' this ih
         | G l =>
           refine .slcT vs (fun j hj=>h0 j (by simpa[Row.len] using hj)) (fun j hj=>h1 j (by simpa[Row.len] using hj)) (fun j hj=>?_) hl hf hx
           have hj':j<l.length:=by simpa[Row.len] using hj
           have:=hv j hj'
           simp only[Row.get,muR,muT] at this ⊢
           rw[getD_map_undef _ _ _ hj',Mu.up_zero,Mu.up_dn M (Nat.le_of_lt hs')]
           exact ih this
       · rename_i hs
         have hs':¬ s<k:=by simpa[Nat.blt_eq] using hs
         refine .slcT vs h0 h1 (fun j hj=>?_) hl hf hx
         have:=hv j hj
         simp only[muT] at this ⊢
         rw[Mu.up_up,Nat.sub_add_cancel (by omega)]
         exact this
   | slcN =>
     rename_i s r sz full
     cases s with
     | none=>exact .slcN
     | some s =>
       simp only[Eng.dnS]
       split
       · cases r with
         | M l =>
           dsimp only
           split<;>exact .slcN
         | _=>exact .slcN
       · exact .slcN
   | fn=>exact .undef _
   | agg hs h1 hv =>
     rename_i r cs
     cases r with
     | I a l=>exact .agg hs h1 (fun j hj=>(hv j hj).anyInt _ _)
     | _=>exact .undef _
   | tup hs hv =>
     rename_i l cs
     cases l with
     | nil=>exact .tup hs (fun j hj=>absurd hj (by simp))
     | cons=>exact .undef _

theorem RRel.dnR' {p:Pst} {M:Mu} {k:Nat} {r:Row} {vs:Nat→Value} (h:RRel p M r vs):RRel p (M.up k) (dnR' k r) vs:=by
 cases r with
 | I a l=>exact fun j hj=>⟨VRel.anyInt _ _ (h j hj).1,(h j hj).2⟩
 | F f n=>exact h
 | G l =>
   intro j hj
   have hj':j<l.length:=by simpa[Row.len,Eng.dnR'] using hj
   have:=h j hj'
   simp only[Row.get,muR,Eng.dnR'] at this ⊢
   rw[getD_map_undef _ _ _ hj']
   exact ⟨this.1.dnS 4,this.2⟩
 | M l=>exact RRel.mapM (fun h=>h.dnS 4) h
theorem RRel.dnR {p:Pst} {M:Mu} {k:Nat} {r:Row} {vs:Nat→Value} (h:RRel p M r vs):RRel p (M.up k) (dnR k r) vs:=by
 cases k with
 | zero=>exact h
 | succ k=>exact h.dnR'

theorem VRel.dn' {p:Pst} {M:Mu} {k:Nat} {v:AV} {c:Value} (h:VRel p M v c):VRel p (M.up k) (dnV' k v) c:=by
 cases v with
 | fn f a b =>
   cases h with
   | fn ha hb va vb =>
     refine .fn (by simpa using ha) (by simpa using hb) (fun j hj=>?_) (fun j hj=>?_)
     · rw[getD_map_undef _ _ _ (by simpa using hj)];exact (va j (by simpa using hj)).dnS 4
     · rw[getD_map_undef _ _ _ (by simpa using hj)];exact (vb j (by simpa using hj)).dnS 4
 | agg r =>
   cases h with
   | @agg _ _ cs hs h1 hv =>
     have hr:RRel p M r (fun j=>cs.getD j Go.undef):=fun j hj=>⟨hv j hj,h1 j hj⟩
     have:=hr.dnR' (k:=k)
     cases r with
     | I a l=>exact .agg hs h1 (fun j hj=>(this j hj).1)
     | F f n=>exact .agg hs h1 hv
     | G l=>exact .agg (by simpa[Row.len] using hs) (fun j hj=>h1 j (by simpa[Row.len] using hj)) (fun j hj=>(this j hj).1)
     | M l=>exact .agg (by simpa[Row.len,lenM_mapM] using hs) (fun j hj=>h1 j (by simpa[Row.len,lenM_mapM] using hj)) (fun j hj=>(this j hj).1)
 | undef=>exact h.dnS 4
 | bool b=>exact h.dnS 4
 | int k n=>exact h.dnS 4
 | str s=>exact h.dnS 4
 | nilp=>exact h.dnS 4
 | nils=>exact h.dnS 4
 | nilm=>exact h.dnS 4
 | nilf=>exact h.dnS 4
 | ptr=>exact h.dnS 4
 | ptrT=>exact h.dnS 4
 | slc=>exact h.dnS 4
 | slcT=>exact h.dnS 4
 | map=>exact h.dnS 4
 | yld=>exact h.dnS 4
 | tup=>exact h.dnS 4
theorem VRel.dn {p:Pst} {M:Mu} {k:Nat} {v:AV} {c:Value} (h:VRel p M v c):VRel p (M.up k) (dnV k v) c:=by
 cases k with
 | zero=>exact h
 | succ k=>exact h.dn'

theorem RRel.sub {p:Pst} {M:Mu} {r:Row} {vs:Nat→Value} (h:RRel p M r vs) (o n:Nat) (hn:o+n≤r.len):RRel p M (r.sub o n) (fun j=>vs (o+j)):=by
 intro j hj
 rw[Row.sub_len _ _ _ hn] at hj
 have:=h (o+j) (by omega)
 rw[Row.sub_get _ _ _ _ hn hj]
 refine ⟨?_,this.2⟩
 cases r with
 | M l=>rcases Row.subM l o n (by assumption) with e | ⟨_,_,e⟩ | ⟨k,z,_,e⟩<;>rw[e]<;>exact this.1
 | _=>exact this.1
theorem RRel.cut {p:Pst} {M:Mu} {r:Row} {vs:Nat→Value} (h:RRel p M r vs) (o n:Nat) (hn:o+n≤r.len):RRel p M (r.cut o n) (fun j=>vs (o+j)):=by
 intro j hj
 rw[Row.cut_len _ _ _ hn] at hj
 have:=h (o+j) (by omega)
 rw[Row.cut_get _ _ _ _ hn hj]
 refine ⟨?_,this.2⟩
 cases r with
 | I k l=>exact this.1
 | F f m=>exact this.1
 | G l=>simp only[Row.cut,muR_ofList];exact this.1
 | M l =>
   simp only[Row.cut]
   split
   · simp only[muR_ofList];exact this.1
   · split
     · exact this.1
     · rcases Row.subM l o n (by assumption) with e | ⟨_,_,e⟩ | ⟨k,z,_,e⟩<;>rw[e]<;>exact this.1

theorem pureV_any {p:Pst} {M N:Mu} {v:AV} {c:Value} (hv:pureV v=true) (h:VRel p M v c):VRel p N v c:=by
 cases h with
 | undef c=>exact .undef c
 | bool b=>exact .bool b
 | int k n=>exact .int k n
 | str s=>exact .str s
 | nilp=>exact .nilp
 | nils=>exact .nils
 | nilm=>exact .nilm
 | nilf=>exact .nilf
 | ptr=>simp[pureV] at hv
 | ptrT vs h0 h1 hr =>
   rename_i s r off b o
   cases s with
   | none=>exact .ptrT vs h0 h1 hr
   | some s=>simp[pureV] at hv
 | slc=>simp[pureV] at hv
 | slcT vs h0 h1 hr hl hf hx =>
   rename_i s r sz len b o x cc full
   cases s with
   | none=>exact .slcT vs h0 h1 hr hl hf hx
   | some s=>simp[pureV] at hv
 | slcN=>exact .slcN
 | map=>simp[pureV] at hv
 | yld=>simp[pureV] at hv
 | fn=>simp[pureV] at hv
 | agg hs h1 hr =>
   rename_i r cs
   cases r with
   | I a l=>exact .agg hs h1 (fun j hj=>(hr j hj).anyInt _ _)
   | F f n=>exact .agg hs h1 hr
   | G l=>simp[pureV] at hv
   | M l=>exact .agg hs h1 (RRel.arrs hv hr)
 | tup=>simp[pureV] at hv

theorem RRel.set {p:Pst} {M:Mu} {r:Row} {vs:Nat→Value} (h:RRel p M r vs) (j:Nat) {v:AV} {c:Value} (hv:VRel p M v c) (h1:c.oneCell'=true) :
 RRel p M (r.set j v) (fun i=>if i=j then c else vs i):=by
 intro i hi
 rw[Row.set_len] at hi
 have hri:=h i hi
 refine ⟨?_,by by_cases e:i=j<;>simp[e,h1,hri.2]⟩
 have key:∀ (l:List AV),l.length=r.len→l.getD i .undef=r.get i→(∀ f m,r≠.F f m)→VRel p M ((l.set j v).getD i .undef) (if i=j then c else vs i):=by
  intro l hl hg hnf
  by_cases e:i=j
  · subst e
    simp[List.getElem?_set,hl,hi]
    exact hv
  · rw[if_neg e]
    have:(l.set j v).getD i .undef=l.getD i .undef:=by simp[List.getElem?_set,Ne.symm e]
    rw[this,hg]
    exact h.get i hi
 cases r with
 | I k l =>
   have hG:VRel p M ((((l.map (AV.int k)).set j v)).getD i .undef) (if i=j then c else vs i) :=
    key _ (by simp[Row.len]) (by simp[Row.len] at hi;simp[Row.get,hi]) (fun _ _=>by simp)
   cases v
   case int k' n =>
    simp only[Row.set]
    split
    · rename_i hk
      subst hk
      by_cases e:i=j
      · subst e
        simp only[Row.get,muR,if_true]
        have:(l.set i n).getD i 0=n:=by simp[Row.len] at hi;simp[List.getElem?_set,hi]
        rw[this];exact hv
      · simp only[Row.get,muR,if_neg e]
        have:(l.set j n).getD i 0=l.getD i 0:=by simp[List.getElem?_set,Ne.symm e]
        rw[this];exact hri.1
    · exact hG
   all_goals exact hG
 | G l=>exact key l rfl rfl (fun _ _=>by simp)
 | F f n =>
   simp only[Row.set,Row.get,muR]
   by_cases e:i=j
   · rw[if_pos e,if_pos e]
     split
     · rename_i hp;exact pureV_any hp hv
     · exact .undef _
   · rw[if_neg e,if_neg e];exact hri.1
 | M l =>
   simp only[Row.set,Row.get,muR]
   rw[getM_setM l j v i hi]
   by_cases e:i=j
   · rw[if_pos e,if_pos e];exact hv
   · rw[if_neg e,if_neg e];exact hri.1

theorem Row.setAll_len (l:List AV):∀ (r:Row) (j:Nat),(r.setAll j l).len=r.len:=by
 induction l with
 | nil=>exact fun _ _=>rfl
 | cons v l ih=>intro r j;simp only[Row.setAll,ih,Row.set_len]

theorem RRel.congr {p:Pst} {M:Mu} {r:Row} {vs us:Nat→Value} (h:RRel p M r vs) (e:∀ j,j<r.len→us j=vs j):RRel p M r us :=
 fun j hj=>by rw[e j hj];exact h j hj

theorem RRel.setAll {p:Pst} {M:Mu}:∀ (l:List AV) {r:Row} {vs:Nat→Value} (j:Nat) (cs:Nat→Value),RRel p M r vs →
 (∀ i,i<l.length→VRel p M (l.getD i .undef) (cs i)∧(cs i).oneCell'=true) →
 RRel p M (r.setAll j l) (fun i=>if j≤i∧i<j+l.length then cs (i-j) else vs i)
 | [],r,vs,j,cs,h,_=>h.congr (fun i _=>by simp;intro _ _;omega)
 | v :: l,r,vs,j,cs,h,hl=>by
   have h0:=hl 0 (by simp)
   have:=RRel.setAll l (j+1) (fun i=>cs (i+1)) (h.set j h0.1 h0.2) (fun i hi=>by
    have:=hl (i+1) (by simpa using hi);simpa using this)
   refine this.congr (fun i _=>?_)
   by_cases e:i=j
   · subst e
     have:¬ (i+1≤i∧i<i+1+l.length):=by omega
     simp[this]
   · by_cases h1:j≤i∧i<j+(v::l).length
     · have h2:j+1≤i∧i<j+1+l.length:=by simp at h1;omega
       rw[if_pos h1,if_pos h2]
       congr 1;omega
     · have h2:¬ (j+1≤i∧i<j+1+l.length):=by simp at h1;omega
       rw[if_neg h1,if_neg h2,if_neg e]

theorem RRel.list {p:Pst} {M:Mu} {r:Row} {vs:Nat→Value} (h:RRel p M r vs) (i:Nat) (hi:i<r.toList.length) :
 VRel p M (r.toList.getD i .undef) (vs i)∧(vs i).oneCell'=true:=by
 rw[Row.toList_length] at hi
 rw[Row.toList_getD r i hi]
 exact ⟨h.get i hi,(h i hi).2⟩
theorem RRel.ofG {p:Pst} {M:Mu} {l:List AV} {vs:Nat→Value} (h:∀ i,i<l.length→VRel p M (l.getD i .undef) (vs i)∧(vs i).oneCell'=true):RRel p M (.G l) vs:=h
theorem normS_rel {p:Pst} {M:Mu} {v:AV} {c:Value} (h:VRel p M v c):VRel p M (normS v) c:=by
 unfold normS
 split
 · rename_i k l sz m full
   cases h with
   | slcN=>exact .slcN
   | slcT vs h0 h1 hv hl hf hx =>
     have e:(Row.M [Seg.arr k (fun j=>l.getD j 0) l.length]).len=l.length:=by simp[Row.len,lenM,segLen]
     refine .slcT vs (fun j hj=>h0 j (by rw[e] at hj;exact hj)) (fun j hj=>h1 j (by rw[e] at hj;exact hj)) (fun j hj=>?_) hl (fun h=>by cases h) hx
     rw[e] at hj
     have:=hv j hj
     simp only[Row.get,getM,muR,if_pos hj] at this ⊢
     exact this
 · cases h with
   | slcN=>exact .slcN
   | slcT vs h0 h1 hv hl hf hx=>exact .slcT vs h0 h1 hv hl (fun h=>by cases h) hx
 · exact h
theorem RRel.app {p:Pst} {M:Mu} {r s:Row} {vs us:Nat→Value} (h:RRel p M r vs) (k:RRel p M s us):RRel p M (r.app s) (fun i=>if i<r.len then vs i else us (i-r.len)):=by
 have hG:RRel p M (.G (r.toList++s.toList)) (fun i=>if i<r.len then vs i else us (i-r.len)):=by
  refine RRel.ofG fun i hi=>?_
  simp only[List.length_append,Row.toList_length] at hi
  by_cases e:i<r.len
  · rw[if_pos e]
    have:(r.toList++s.toList).getD i .undef=r.toList.getD i .undef:=by
     simp[List.getElem?_append_left (show i<r.toList.length by rw[Row.toList_length];exact e)]
    rw[this]
    exact h.list i (by rw[Row.toList_length];exact e)
  · rw[if_neg e]
    have:(r.toList++s.toList).getD i .undef=s.toList.getD (i-r.len) .undef:=by
     simp[List.getElem?_append_right (show r.toList.length≤i by rw[Row.toList_length];omega),Row.toList_length]
    rw[this]
    exact k.list (i-r.len) (by rw[Row.toList_length];omega)
 have hF:∀ (f:Nat→AV) (n:Nat),r=.F f n→RRel p M (r.app s) (fun i=>if i<r.len then vs i else us (i-r.len)):=by
  rintro f n rfl
  have e0:Row.app (.F f n) s=.F (fun i=>if Nat.blt i n then f i else if pureV (s.get (lastX s.len (i-n))) then normS (s.get (lastX s.len (i-n))) else .undef) (n+s.len):=by cases s<;>rfl
  rw[e0]
  intro i hi
  have hi':i<n+s.len:=hi
  have hl:n≤i→lastX s.len (i-n)=i-n:=fun h=>by
   unfold lastX
   split
   · rename_i h1;have:=Nat.eq_of_beq_eq_true h1;omega
   · rfl
  show VRel p Mu.no (if Nat.blt i n then f i else if pureV (s.get (lastX s.len (i-n))) then normS (s.get (lastX s.len (i-n))) else .undef) (if i<n then vs i else us (i-n))∧(if i<n then vs i else us (i-n)).oneCell'=true
  by_cases e:i<n
  · have hb:Nat.blt i n=true:=by rw[Nat.blt_eq];exact e
    rw[if_pos e,hb,if_pos rfl]
    exact h i e
  · have hb:Nat.blt i n=false:=by
     cases hb:Nat.blt i n with
     | false=>rfl
     | true=>rw[Nat.blt_eq] at hb;exact absurd hb e
    rw[if_neg e,hb,hl (by omega)]
    simp only[Bool.false_eq_true,if_false]
    have hk:=k (i-n) (by omega)
    refine ⟨?_,hk.2⟩
    split
    · rename_i hp;exact normS_rel (pureV_any hp hk.1)
    · exact .undef _
 have hM:isM r=true∨(isM s=true∧∃ k l,r=.I k l)→RRel p M (r.app s) (fun i=>if i<r.len then vs i else us (i-r.len)):=by
  intro hc
  rcases Row.app_M hc with e | e
  · rw[e];exact hG
  · obtain ⟨q,hq⟩:∃ q,q=r.app s:=⟨_,rfl⟩
    rw[← hq] at e ⊢
    obtain ⟨a,z,z',h1,h2,rfl⟩:=Row.appI_some e
    intro i hi
    have hi:i<r.len+s.len:=hi
    simp only[Row.get,getM,muR]
    rw[if_pos hi]
    by_cases e:i<r.len
    · simp only[if_pos e]
      have:=h i e
      rw[h1 i e] at this
      exact ⟨this.1.anyInt _ _,this.2⟩
    · simp only[if_neg e]
      have hi2:i-r.len<s.len:=by omega
      have:=k (i-r.len) hi2
      rw[h2 _ hi2] at this
      exact ⟨this.1.anyInt _ _,this.2⟩
 cases r<;>cases s
 case M.I=>exact hM (.inl rfl)
 case M.G=>exact hM (.inl rfl)
 case M.F=>exact hM (.inl rfl)
 case M.M=>exact hM (.inl rfl)
 case I.M=>exact hM (.inr ⟨rfl,_,_,rfl⟩)
 case F.M=>exact hF _ _ rfl
 case F.I=>exact hF _ _ rfl
 case F.G=>exact hF _ _ rfl
 case F.F=>exact hF _ _ rfl
 case I.I a l a' l' =>
  simp only[Row.app]
  split
  · rename_i e
    subst e
    intro i hi
    have:=hG i (by simpa[Row.len,Row.toList] using hi)
    refine ⟨?_,this.2⟩
    have e2:Row.get (.G ((Row.I a' l).toList++(Row.I a' l').toList)) i=Row.get (.I a' (l++l')) i:=by
     simp only[Row.get,Row.toList]
     have hi':i<(l++l').length:=by simpa[Row.len] using hi
     rw[← List.map_append]
     simp only[List.getD_eq_getElem?_getD,List.getElem?_map,List.getElem?_eq_getElem hi',Option.map_some,Option.getD_some]
    rw[← e2]
    exact this.1
  · exact hG
 all_goals exact hG

theorem AV.row_rel {p:Pst} {M:Mu} {v:AV} {c:Value} {r:Row} (h:VRel p M v c) (hr:v.row=some r):c.cells.size=r.len∧RRel p M r (fun j=>c.cells.getD j Go.undef):=by
 cases h
 case undef=>simp[AV.row] at hr
 case tup=>simp[AV.row] at hr
 case agg r' cs hs h1 hv =>
  simp only[AV.row,Option.some.injEq] at hr
  subst hr
  exact ⟨hs,fun j hj=>⟨hv j hj,h1 j hj⟩⟩
 case int k n =>
  simp only[AV.row,Option.some.injEq] at hr
  subst hr
  refine ⟨rfl,fun j hj=>?_⟩
  obtain rfl:j=0:=by simpa[Row.len] using hj
  exact ⟨.int _ _,rfl⟩
 all_goals
  simp only[AV.row,Option.some.injEq] at hr
  subst hr
  refine ⟨rfl,fun j hj=>?_⟩
  obtain rfl:j=0:=by simpa[Row.len] using hj
  refine ⟨?_,rfl⟩
  simp only[Row.get,muR,List.getD_cons_zero,Value.cells]
  first
   | exact .bool _
   | exact .str _
   | exact .nilp
   | exact .nils
   | exact .nilm
   | exact .nilf
   | (exact .ptr ‹_›)
   | (exact .ptrT _ ‹_› ‹_› ‹_›)
   | (exact .slc ‹_› ‹_› ‹_› ‹_› ‹_›)
   | (exact .slcT _ ‹_› ‹_› ‹_› ‹_› ‹_› ‹_›)
   | exact .slcN
   | (exact .map ‹_›)
   | (exact .yld ‹_›)
   | (exact .fn ‹_› ‹_› ‹_› ‹_›)

theorem constS_rel (p:Pst) (M:Mu) (c:Value):VRel p M (constS c) c:=by
 unfold constS
 split
 · exact .bool _
 · exact .int _ _
 · exact .str _
 · exact .nilp
 · exact .nils
 · exact .nilm
 · exact .nilf
 · exact .undef _
theorem aggRel {p:Pst} {M:Mu} {l:List AV} {cs:Array Value} (hs:cs.size=l.length) (h:∀ j,j<l.length→VRel p M (l.getD j .undef) (cs.getD j Go.undef)∧(cs.getD j Go.undef).oneCell'=true) :
 VRel p M (.agg (Row.ofList l)) (.agg cs):=by
 refine .agg (by rw[Row.ofList_len];exact hs) (fun j hj=>(h j (by rw[Row.ofList_len] at hj;exact hj)).2) (fun j hj=>?_)
 rw[Row.ofList_len] at hj
 rw[muR_ofList,Row.ofList_get _ _ hj]
 exact (h j hj).1
theorem constV_rel (p:Pst) (M:Mu) (c:Value):VRel p M (constV c) c:=by
 cases c with
 | bool=>exact .bool _
 | int=>exact .int _ _
 | float=>exact .undef _
 | complex=>exact .undef _
 | string=>exact .str _
 | pointer a=>cases a<;>first | exact .nilp | exact .undef _
 | slice a n m =>
   cases a
   · cases n
     · cases m
       · exact .nils
       · exact .undef _
     · exact .undef _
   · exact .undef _
 | map r=>cases r<;>first | exact .nilm | exact .undef _
 | chan=>exact .undef _
 | nilFunc=>exact .nilf
 | iface=>exact .undef _
 | nilIface=>exact .undef _
 | func f ca cb =>
   cases f with
   | func g =>
     simp only[constV]
     split
     · rename_i h
       simp at h
       obtain ⟨rfl,rfl⟩:=h
       exact .fn rfl rfl (fun j hj=>absurd hj (by simp)) (fun j hj=>absurd hj (by simp))
     · exact .undef _
   | _=>exact .undef _
 | tuple cs =>
   simp only[constV]
   split
   · rename_i h
     simp at h
     subst h
     exact .tup rfl (fun j hj=>absurd hj (by simp))
   · exact .undef _
 | agg cs =>
   simp only[constV]
   split
   · rename_i hall
     refine aggRel (by simp) (fun j hj=>?_)
     have hj':j<cs.toList.length:=by simpa using hj
     have e1:(cs.toList.map constS).getD j .undef=constS (cs.getD j Go.undef):=by
      simp at hj'
      simp[hj']
     rw[e1]
     refine ⟨constS_rel _ _ _,?_⟩
     have:=List.all_eq_true.1 hall (cs.getD j Go.undef) (by simp at hj';simp[hj'])
     exact this
   · exact .undef _

structure FRel (p:Pst) (M:Mu) (nt:Nat) (fr:Frm) (a:Act):Prop where
 size:a.tmps.size=nt
 at_:∀ x,VRel p M (fGet fr x) (a.tmps.getD x undef)
theorem FRel.mono {p q:Pst} {M N:Mu} {nt:Nat} {fr:Frm} {a:Act} (h:FRel p M nt fr a) (hp:Pst.le p q) (hM:Mu.le M N):FRel q N nt fr a :=
 ⟨h.size,fun x=>(h.at_ x).mono hp hM⟩
theorem fGet_fPut:∀ (fr:Frm) (y:Nat) (u:AV) (x:Nat),fGet (fPut fr y u) x=if x=y then u else fGet fr x
 | [],y,u,x=>by
   simp only[fPut,fGet]
   by_cases e:x=y
   · subst e;simp
   · simp[e,Ne.symm e]
 | (z, v)::r,y,u,x=>by
   simp only[fPut]
   have ih:=fGet_fPut r y u x
   by_cases h1:y≤z
   · rw[if_pos (by simpa using h1)]
     by_cases h2:z=y
     · subst h2
       simp only[Nat.beq_refl,if_true,fGet]
       by_cases e:x=z
       · subst e;simp
       · simp[e,Ne.symm e]
     · rw[if_neg (by simpa using h2)]
       simp only[fGet]
       by_cases e:x=y
       · subst e;simp
       · simp[e,Ne.symm e]
   · rw[if_neg (by simpa using h1)]
     simp only[fGet,ih]
     by_cases e:z=x
     · subst e
       have:¬ z=y:=by omega
       simp[this]
     · simp[e]
theorem FRel.put {p:Pst} {M:Mu} {nt:Nat} {fr:Frm} {a:Act} (h:FRel p M nt fr a) (dst:Option Tmp) {v:AV} {c:Value} (hv:VRel p M v c):FRel p M nt (putO nt fr dst v) (a.put dst c):=by
 cases dst with
 | none=>exact h
 | some d =>
   refine ⟨by simp[Act.put,h.size],fun x=>?_⟩
   have hx:=h.at_ x
   simp only[putO,Act.put]
   by_cases hd:d<nt
   · rw [if_pos (by simpa[Nat.blt_eq] using hd),fGet_fPut]
     by_cases e:x=d
     · subst e
       rw[if_pos rfl]
       have:(a.tmps.setIfInBounds x c).getD x Go.undef=c:=by simp[h.size,hd]
       rw[this];exact hv
     · rw[if_neg e]
       have:(a.tmps.setIfInBounds d c).getD x Go.undef=a.tmps.getD x Go.undef:=by
        simp[Array.getElem?_setIfInBounds_ne (Ne.symm e)]
       rw[this];exact hx
   · rw[if_neg (by simpa[Nat.blt_eq] using hd)]
     have:a.tmps.setIfInBounds d c=a.tmps:=by
      apply Array.setIfInBounds_eq_of_size_le
      rw[h.size];exact Nat.le_of_not_lt hd
     rw[this];exact hx
theorem fKill_cons (x:Nat) (v:AV) (r:Frm) (m:Nat):fKill ((x,v)::r) m=if memS m x then fKill r m else (x,v)::fKill r m:=by
 have e:fKill ((x,v)::r) m=Bool.rec (motive:=fun _=>Frm) ((x,v)::fKill r m) (fKill r m) (memS m x):=rfl
 rw[e];cases memS m x<;>rfl
theorem fGet_kill:∀ (fr:Frm) (m:Nat) (x:Nat),fGet (fKill fr m) x=.undef∨fGet (fKill fr m) x=fGet fr x
 | [],m,x=>.inl rfl
 | (y,v)::r,m,x=>by
   have ih:=fGet_kill r m x
   rw[fKill_cons]
   have key:∀ r:Frm,memS m x=true→fGet (fKill r m) x=.undef:=by
    intro r hx
    induction r with
    | nil=>rfl
    | cons p r ihr =>
      obtain ⟨z,u⟩:=p
      rw[fKill_cons]
      cases hz:memS m z with
      | true=>exact ihr
      | false =>
        simp only[Bool.false_eq_true,if_false,fGet]
        by_cases ez:z=x
        · subst ez;rw[hz] at hx;cases hx
        · rw[if_neg (by simpa using ez)];exact ihr
   cases hm:memS m y with
   | true =>
     simp only[if_true,fGet]
     by_cases e2:y=x
     · subst e2;exact .inl (key r hm)
     · rw[if_neg (by simpa using e2)];exact ih
   | false =>
     simp only[Bool.false_eq_true,if_false,fGet]
     by_cases e2:y=x
     · subst e2;right;simp
     · rw[if_neg (by simpa using e2),if_neg (by simpa using e2)];exact ih
theorem FRel.kill {p:Pst} {M:Mu} {nt:Nat} {fr:Frm} {a:Act} (h:FRel p M nt fr a) (ks:Nat):FRel p M nt (fKill fr ks) a :=
 ⟨h.size,fun x=>by
   rcases fGet_kill fr ks x with e | e
   · rw[e];exact .undef _
   · rw[e];exact h.at_ x⟩
theorem FRel.opd {p:Pst} {M:Mu} {nt:Nat} {fr:Frm} {a:Act} (h:FRel p M nt fr a) (x:Operand):VRel p M (opd fr x) (a.eval x):=by
 cases x with
 | tmp t=>exact h.at_ t
 | const v=>exact constV_rel _ _ v
 | global g=>exact .undef _
 | func f=>exact .fn rfl rfl (fun j hj=>absurd hj (by simp)) (fun j hj=>absurd hj (by simp))

def Born (ces:Array MapEntry) (clock:Nat):Prop:=(∀ j,(h:j<ces.size)→ces[j].born<clock)∧∀ i j,(hi:i<ces.size)→(hj:j<ces.size)→ces[i].born=ces[j].born→i=j
def keyA:KK→List Int→AV
 | .num k,l=>.int k (l.headD 0)
 | .str _,l=>.agg (.I .i64 l)
def fitK:KK→List Int→Bool
 | .num _,l=>Nat.beq l.length 1
 | .str n,l=>Nat.beq l.length n
structure EsF (q:KK) (es:List (AV×AV)) (h:List Int→Bool) (g:List Int→Int) (c:Nat):Prop where
 len:es.length=c
 ent:∀ j,j<es.length→∃ n,es.getD j (.undef,.undef)=(keyA q n,.int .i64 (g n))∧h n=true
 all:∀ n,h n=true→fitK q n=true∧∃ j,j<es.length∧(es.getD j (.undef,.undef)).1=keyA q n
 off:∀ n,h n=false→g n=0
 nd:∀ i j,i<es.length→j<es.length→(es.getD i (.undef,.undef)).1=(es.getD j (.undef,.undef)).1→i=j
def BRel (p:Pst) (M:Mu) (B:Blk) (b o t:Nat) (w:World):Prop :=
 match B with
 | .dead=>True
 | .row r=>∃ c e,w.heap[b]?=some (.cells c e (0,0))∧c.size=t∧o+r.len≤t∧RRel p M r (fun j=>c.getD (o+j) undef)
 | .map es=>∃ ces clock,w.heap[b]?=some (.map ces clock)∧ces.size=es.length∧Born ces clock ∧
    ∀ j,(h:j<ces.size)→VRel p M ((es.getD j (.undef,.undef)).1) ces[j].key∧VRel p M ((es.getD j (.undef,.undef)).2) ces[j].val
 | .fmap q h g c=>∃ es,EsF q es h g c∧∃ ces clock,w.heap[b]?=some (.map ces clock)∧ces.size=es.length∧Born ces clock ∧
    ∀ j,(h:j<ces.size)→VRel p M ((es.getD j (.undef,.undef)).1) ces[j].key∧VRel p M ((es.getD j (.undef,.undef)).2) ces[j].val
 | .loop l=>∃ r,w.heap[b]?=some (.loop r)∧r.state=l.state∧r.pending=l.pending∧r.params.toList=l.params∧r.assign=l.assign∧r.body=l.body ∧
    FRel p M l.nt l.fr ⟨r.tmps,[]⟩

structure HRel (p:Pst) (M:Mu) (H:Heap) (w:World):Prop where
 pers:∀ b o v,p b o=some v→w.cell? ⟨b,o,none⟩=some v
 live:∀ d i v B,hGet H d i=(v,B)→B≠.dead→∃ b o t,M d i v=some (b,o,t)∧BRel p (M.up d) B b o t w∧∀ x,p b x=none
 apart:∀ d i v B d' i' v' B' b o t o' t',hGet H d i=(v,B)→B≠.dead→hGet H d' i'=(v',B')→B'≠.dead →
  M d i v=some (b,o,t)→M d' i' v'=some (b,o',t')→d=d'∧i=i'
 dom:∀ d i v t,M d i v=some t→i<hNextAt H d∧((hGet H d i).2≠.dead→v≤(hGet H d i).1)

def keep (M:Mu) (H:Heap) (b:Nat):Prop:=∀ d i v B,hGet H d i=(v,B)→B≠.dead→hLock H d=false→∀ o t,M d i v≠some (b,o,t)

structure Stay (K:Nat→Prop) (w w':World):Prop where
 os:w'.os=w.os
 tape:w'.tape=w.tape
 output:w'.output=w.output
 size:w.heap.size≤w'.heap.size
 block:∀ b,b<w.heap.size→K b→w'.heap[b]?=w.heap[b]?
theorem Stay.refl (K:Nat→Prop) (w:World):Stay K w w:=⟨rfl,rfl,rfl,Nat.le_refl _,fun _ _ _=>rfl⟩
theorem Stay.trans {K K':Nat→Prop} {w w' w'':World} (h:Stay K w w') (k:Stay K' w' w'') (hK:∀ b,b<w.heap.size→K b→K' b):Stay K w w'' :=
 ⟨k.os.trans h.os,k.tape.trans h.tape,k.output.trans h.output,Nat.le_trans h.size k.size,fun b hb hk=>(k.block b (Nat.lt_of_lt_of_le hb h.size) (hK b hb hk)).trans (h.block b hb hk)⟩

theorem BRel.lt {p:Pst} {M:Mu} {B:Blk} {b o t:Nat} {w:World} (h:BRel p M B b o t w) (hB:B≠.dead):b<w.heap.size:=by
 have key:∀ {x:Obj},w.heap[b]?=some x→b<w.heap.size:=fun e=>(Array.getElem?_eq_some_iff.1 e).1
 cases B with
 | dead=>exact absurd rfl hB
 | row r=>obtain ⟨_,_,e,_⟩:=h;exact key e
 | map es=>obtain ⟨_,_,e,_⟩:=h;exact key e
 | fmap q f g c=>obtain ⟨_,_,_,_,e,_⟩:=h;exact key e
 | loop l=>obtain ⟨_,e,_⟩:=h;exact key e
theorem BRel.mono {p q:Pst} {M N:Mu} {B:Blk} {b o t:Nat} {w w':World} (h:BRel p M B b o t w) (hp:Pst.le p q) (hM:Mu.le M N) (e:w'.heap[b]?=w.heap[b]?):BRel q N B b o t w':=by
 cases B with
 | dead=>trivial
 | row r =>
   obtain ⟨c,el,h1,h2,h3,h4⟩:=h
   exact ⟨c,el,e.trans h1,h2,h3,fun j hj=>⟨(h4 j hj).1.mono hp (hM.muR _),(h4 j hj).2⟩⟩
 | map es =>
   obtain ⟨c,cl,h1,h2,h4,h3⟩:=h
   exact ⟨c,cl,e.trans h1,h2,h4,fun j hj=>⟨(h3 j hj).1.mono hp hM,(h3 j hj).2.mono hp hM⟩⟩
 | fmap kq f g n =>
   obtain ⟨es,hE,c,cl,h1,h2,h4,h3⟩:=h
   exact ⟨es,hE,c,cl,e.trans h1,h2,h4,fun j hj=>⟨(h3 j hj).1.mono hp hM,(h3 j hj).2.mono hp hM⟩⟩
 | loop l =>
   obtain ⟨r,h1,h2,h3,h4,h5,h6,h7⟩:=h
   exact ⟨r,e.trans h1,h2,h3,h4,h5,h6,h7.mono hp hM⟩
theorem keyA_any {p:Pst} {M:Mu} (q:Pst) (N:Mu) {kq:KK} {n:List Int} {c:Value} (h:VRel p M (keyA kq n) c):VRel q N (keyA kq n) c:=by
 cases kq with
 | num k=>exact VRel.anyInt (k:=k) q N h
 | str m =>
   unfold keyA at *
   cases h with
   | agg hs h1 hv=>exact .agg hs h1 (fun j hj=>(hv j hj).anyInt _ _)
theorem fmap_any {p:Pst} {M:Mu} (q:Pst) (N:Mu) {kq:KK} {f:List Int→Bool} {g:List Int→Int} {n b o t:Nat} {w:World} (h:BRel p M (.fmap kq f g n) b o t w):BRel q N (.fmap kq f g n) b o t w:=by
 obtain ⟨es,hE,c,cl,h1,h2,h4,h3⟩:=h
 refine ⟨es,hE,c,cl,h1,h2,h4,fun j hj=>?_⟩
 have:=h3 j hj
 obtain ⟨m,e,_⟩:=hE.ent j (by omega)
 rw[e] at this ⊢
 exact ⟨keyA_any _ _ this.1,this.2.anyInt _ _⟩

theorem nthBlk_push:∀ (l:List (Nat×Blk)) (x:Nat×Blk) (i:Nat),nthBlk (l++[x]) i=if i=l.length then x else nthBlk l i
 | [],x,0=>rfl
 | [],x,i+1=>rfl
 | b::l,x,0=>by simp[nthBlk]
 | b::l,x,i+1=>by simp[nthBlk,nthBlk_push l x i]
theorem nthBlk_set:∀ (l:List (Nat×Blk)) (k:Nat) (x:Nat×Blk) (i:Nat),nthBlk (setBlk l k x) i=if i=k∧k<l.length then x else nthBlk l i
 | [],k,x,i=>by simp[setBlk]
 | b::l,0,x,0=>by simp[setBlk,nthBlk]
 | b::l,0,x,i+1=>by simp[setBlk,nthBlk]
 | b::l,k+1,x,0=>by simp[setBlk,nthBlk]
 | b::l,k+1,x,i+1=>by simp[setBlk,nthBlk,nthBlk_set l k x i]
theorem setBlk_length:∀ (l:List (Nat×Blk)) (k:Nat) (x:Nat×Blk),(setBlk l k x).length=l.length
 | [],_,_=>rfl
 | _::_,0,_=>rfl
 | _::l,k+1,x=>by simp[setBlk,setBlk_length l k x]
theorem nthBlk_lt:∀ {l:List (Nat×Blk)} {i:Nat},(nthBlk l i).2≠.dead→i<l.length
 | [],_,h=>by simp[nthBlk] at h
 | _::_,0,_=>by simp
 | _::l,i+1,h=>by have:=nthBlk_lt (l:=l) (i:=i) h;simpa using this
theorem hGet_lt:∀ {H:Heap} {d i:Nat},(hGet H d i).2≠.dead→i<hNextAt H d
 | [],_,_,h=>by simp[hGet] at h
 | l::r,0,i,h=>nthBlk_lt h
 | l::r,d+1,i,h=>hGet_lt (H:=r) h
theorem hNextAt_zero (H:Heap):hNextAt H 0=hNext H:=by cases H<;>rfl
theorem hGet_push (H:Heap) (b:Blk) (d i:Nat):hGet (hPush H b) d i=if d=0∧i=hNext H then (0,b) else hGet H d i:=by
 cases H with
 | nil=>cases d<;>cases i<;>simp[hPush,hGet,nthBlk,hNext]
 | cons l r=>cases d<;>simp[hPush,hGet,hNext,nthBlk_push]
theorem hNextAt_push (H:Heap) (b:Blk) (d:Nat):hNextAt (hPush H b) d=if d=0 then hNext H+1 else hNextAt H d:=by
 cases H with
 | nil=>cases d<;>simp[hPush,hNextAt,hNext]
 | cons l r=>cases d<;>simp[hPush,hNextAt,hNext]
theorem hLock_push (H:Heap) (hH:H≠[]) (b:Blk) (d:Nat):hLock (hPush H b) d=hLock H d:=by
 cases H with
 | nil=>exact absurd rfl hH
 | cons l r=>cases d<;>rfl
theorem hGet_set:∀ (H:Heap) (d i:Nat) (x:Nat×Blk) (d' i':Nat),hGet (hSet H d i x) d' i'=if d'=d∧i'=i∧i<hNextAt H d then x else hGet H d' i'
 | [],d,i,x,d',i'=>by simp[hSet,hNextAt]
 | l::r,0,i,x,0,i'=>by simp[hSet,hGet,hNextAt,nthBlk_set]
 | l::r,0,i,x,d'+1,i'=>by simp[hSet,hGet]
 | l::r,d+1,i,x,0,i'=>by simp[hSet,hGet]
 | l::r,d+1,i,x,d'+1,i'=>by simp[hSet,hGet,hNextAt,hGet_set r d i x d' i']
theorem hNextAt_set:∀ (H:Heap) (d i:Nat) (x:Nat×Blk) (d':Nat),hNextAt (hSet H d i x) d'=hNextAt H d'
 | [],_,_,_,_=>rfl
 | l::r,0,i,x,0=>by simp[hSet,hNextAt,setBlk_length]
 | l::r,0,i,x,d'+1=>rfl
 | l::r,d+1,i,x,0=>rfl
 | l::r,d+1,i,x,d'+1=>hNextAt_set r d i x d'
theorem hLock_set:∀ (H:Heap) (d i:Nat) (x:Nat×Blk) (d':Nat),hLock (hSet H d i x) d'=hLock H d'
 | [],_,_,_,_=>rfl
 | l::r,0,i,x,0=>rfl
 | l::r,0,i,x,d'+1=>rfl
 | l::r,d+1,i,x,0=>rfl
 | l::r,d+1,i,x,d'+1=>hLock_set r d i x d'
theorem hGet_lockAll:∀ (H:Heap) (d i:Nat),hGet (hLockAll H) d i=hGet H d i
 | [],_,_=>rfl
 | l::r,0,i=>rfl
 | l::r,d+1,i=>hGet_lockAll r d i
theorem hNextAt_lockAll:∀ (H:Heap) (d:Nat),hNextAt (hLockAll H) d=hNextAt H d
 | [],_=>rfl
 | l::r,0=>rfl
 | l::r,d+1=>hNextAt_lockAll r d
theorem hLock_lockAll:∀ (H:Heap) (d:Nat),hLock (hLockAll H) d=true
 | [],_=>rfl
 | l::r,0=>rfl
 | l::r,d+1=>hLock_lockAll r d

def muSet (M:Mu) (d i v:Nat) (t:Nat×Nat×Nat):Mu:=fun d' i' v'=>if d'=d∧i'=i∧v'=v then some t else M d' i' v'
theorem muSet_le {M:Mu} {d i v:Nat} {t:Nat×Nat×Nat} (h:∀ u,M d i v=some u→u=t):Mu.le M (muSet M d i v t):=by
 intro d' i' v' u hu
 simp only[muSet]
 split
 · rename_i e
   obtain ⟨rfl,rfl,rfl⟩:=e
   rw[h u hu]
 · exact hu

def KeepTo (w:World) (M:Mu) (H:Heap) (M':Mu) (H':Heap):Prop:=∀ b,b<w.heap.size→keep M H b→keep M' H' b
theorem KeepTo.refl (w:World) (M:Mu) (H:Heap):KeepTo w M H M H:=fun _ _ h=>h

structure Evo (p:Pst) (M:Mu) (H:Heap) (w:World) (p':Pst) (M':Mu) (H':Heap) (w':World):Prop where
 pst:Pst.le p p'
 mu:Mu.le M M'
 rel:HRel p' M' H' w'
 stay:Stay (Go.Eng.keep M H) w w'
 keep:KeepTo w M H M' H'
 fresh:∀ b o v,p' b o=some v→p b o=some v∨w.heap.size≤b∨(hLock H 0=false∧∃ i u o' t',M 0 i u=some (b,o',t'))
 own:∀ d i v b o t,M' d i v=some (b,o,t)→w.heap.size≤b∨∃ d' i' v' o' t',d'≤d∧M d' i' v'=some (b,o',t')
 lock:∀ d,hLock H' d=hLock H d
 same:∀ d i,d≠0→hLock H d=true→hGet H' d i=hGet H d i
 next:∀ d,d≠0→hLock H d=true→hNextAt H' d=hNextAt H d
 len:H'.length=H.length
 grow:∀ d,hNextAt H d≤hNextAt H' d
 new:∀ d i v t,M' d i v=some t→M d i v=some t∨hNextAt H d≤i∨hLock H d=false

theorem Evo.trans {p p' p'':Pst} {M M' M'':Mu} {H H' H'':Heap} {w w' w'':World} (h:Evo p M H w p' M' H' w') (k:Evo p' M' H' w' p'' M'' H'' w''):Evo p M H w p'' M'' H'' w'' where
 pst:=h.pst.trans k.pst
 mu:=h.mu.trans k.mu
 rel:=k.rel
 stay:=h.stay.trans k.stay (fun b hb hk=>h.keep b hb hk)
 keep:=fun b hb hk=>k.keep b (Nat.lt_of_lt_of_le hb h.stay.size) (h.keep b hb hk)
 fresh:=fun b o v hv=>by
  rcases k.fresh b o v hv with h1 | h1 | ⟨hl,i,u,o',t',h1⟩
  · exact h.fresh b o v h1
  · exact .inr (.inl (Nat.le_trans h.stay.size h1))
  · rcases h.own 0 i u b o' t' h1 with h2 | ⟨d2,i2,v2,o2,t2,hd2,h2⟩
    · exact .inr (.inl h2)
    · obtain rfl:d2=0:=by omega
      exact .inr (.inr ⟨by rw[← h.lock];exact hl,i2,v2,o2,t2,h2⟩)
 own:=fun d i v b o t hm=>by
  rcases k.own d i v b o t hm with h1 | ⟨d',i',v',o',t',hd,h1⟩
  · exact .inl (Nat.le_trans h.stay.size h1)
  · rcases h.own _ _ _ _ _ _ h1 with h2 | ⟨d2,i2,v2,o2,t2,hd2,h2⟩
    · exact .inl h2
    · exact .inr ⟨d2,i2,v2,o2,t2,Nat.le_trans hd2 hd,h2⟩
 lock:=fun d=>(k.lock d).trans (h.lock d)
 same:=fun d i hd hl=>(k.same d i hd (by rw[h.lock];exact hl)).trans (h.same d i hd hl)
 next:=fun d hd hl=>(k.next d hd (by rw[h.lock];exact hl)).trans (h.next d hd hl)
 len:=k.len.trans h.len
 grow:=fun d=>Nat.le_trans (h.grow d) (k.grow d)
 new:=fun d i v t hm=>by
  rcases k.new d i v t hm with h1 | h1 | h1
  · exact h.new d i v t h1
  · exact .inr (.inl (Nat.le_trans (h.grow d) h1))
  · exact .inr (.inr (by rw[← h.lock];exact h1))
theorem Evo.refl {p:Pst} {M:Mu} {H:Heap} {w:World} (h:HRel p M H w):Evo p M H w p M H w where
 pst:=Pst.le.refl _
 mu:=Mu.le.refl _
 rel:=h
 stay:=Stay.refl _ _
 keep:=KeepTo.refl _ _ _
 fresh:=fun b o v hv=>.inl hv
 own:=fun d i v b o t hm=>.inr ⟨d,i,v,o,t,Nat.le_refl _,hm⟩
 lock:=fun _=>rfl
 same:=fun _ _ _ _=>rfl
 next:=fun _ _ _=>rfl
 len:=rfl
 grow:=fun _=>Nat.le_refl _
 new:=fun _ _ _ _ hm=>.inl hm

def DRel (p:Pst) (M:Mu) (H:Heap) (nx:Nat) (v:AV) (δ:Delta) (cv:Value) (w w':World):Prop :=
 match δ with
 | .keep=>VRel p M v cv∧Stay (fun _=>True) w w'
 | .push B=>∃ t,B≠.dead∧VRel p (muSet M 0 nx 0 (w.heap.size,0,t)) v cv∧BRel p M B w.heap.size 0 t w'∧Stay (fun _=>True) w w'
 | .set d i (ver',B')=>∃ ver B b o t b' o' t',hGet H d i=(ver,B)∧B≠.dead∧hLock H d=false∧M d i ver=some (b,o,t)∧B'≠.dead ∧
    BRel p (M.up d) B' b' o' t' w'∧Stay (fun x=>x≠b) w w'∧(b'=b∨w.heap.size≤b')∧VRel p (muSet M d i ver' (b',o',t')) v cv ∧
    ((ver'=ver∧b'=b∧o'=o∧t'=t)∨ver<ver')
 | .heap H'=>∃ p' M',Evo p M H w p' M' H' w'∧VRel p' M' v cv

theorem HRel.stay {p:Pst} {M:Mu} {H:Heap} {w w':World} (h:HRel p M H w) (hs:Stay (fun _=>True) w w'):HRel p M H w' where
 pers:=fun b o v hp=>by
  have:=h.pers b o v hp
  have hb:b<w.heap.size:=World.block_lt_of_cell? w _ this
  rw[← this]
  exact World.cell?_of_block (w:=w) (hs.block b hb trivial)
 live:=fun d i v B hg hB=>by
  obtain ⟨b,o,t,h1,h2,h3⟩:=h.live d i v B hg hB
  exact ⟨b,o,t,h1,h2.mono (Pst.le.refl _) (Mu.le.refl _) (hs.block b (h2.lt hB) trivial),h3⟩
 apart:=h.apart
 dom:=h.dom

theorem Stay.weaken {K K':Nat→Prop} {w w':World} (h:Stay K w w') (hk:∀ b,b<w.heap.size→K' b→K b):Stay K' w w' :=
 ⟨h.os,h.tape,h.output,h.size,fun b hb k=>h.block b hb (hk b hb k)⟩

theorem HRel.push {p:Pst} {M:Mu} {H:Heap} {w w':World} {B:Blk} {t:Nat} (h:HRel p M H w) (hB:B≠.dead) (hb:BRel p M B w.heap.size 0 t w') (hs:Stay (fun _=>True) w w') (hnew:w.heap.size<w'.heap.size) :
 Mu.le M (muSet M 0 (hNext H) 0 (w.heap.size,0,t))∧HRel p (muSet M 0 (hNext H) 0 (w.heap.size,0,t)) (hPush H B) w':=by
 have hle:Mu.le M (muSet M 0 (hNext H) 0 (w.heap.size,0,t)):=muSet_le fun u hu=>by
  have:=(h.dom _ _ _ _ hu).1
  rw[hNextAt_zero] at this
  omega
 have h':=h.stay hs
 refine ⟨hle,⟨h'.pers,?_,?_,?_⟩⟩
 · intro d i v B' hg hB'
   rw[hGet_push] at hg
   split at hg
   · rename_i e
     obtain ⟨rfl,rfl⟩:=e
     simp only[Prod.mk.injEq] at hg
     obtain ⟨rfl,rfl⟩:=hg
     refine ⟨w.heap.size,0,t,by simp[muSet],hb.mono (Pst.le.refl _) hle rfl,fun x=>?_⟩
     cases hx:p w.heap.size x with
     | none=>rfl
     | some u=>have:=World.block_lt_of_cell? w _ (h.pers _ _ _ hx);simp at this
   · obtain ⟨b,o,t',h1,h2,h3⟩:=h'.live d i v B' hg hB'
     exact ⟨b,o,t',hle _ _ _ _ h1,h2.mono (Pst.le.refl _) (hle.up d) rfl,h3⟩
 · intro d i v B1 d' i' v' B2 b o t1 o' t2 hg hB1 hg' hB2 hm hm'
   rw[hGet_push] at hg hg'
   simp only[muSet] at hm hm'
   split at hg
   · rename_i e
     obtain ⟨rfl,rfl⟩:=e
     simp only[Prod.mk.injEq] at hg
     obtain ⟨rfl,rfl⟩:=hg
     simp at hm
     split at hg'
     · rename_i e';exact ⟨e'.1.symm,e'.2.symm⟩
     · rename_i e'
       rw[if_neg (fun e=>e' ⟨e.1,e.2.1⟩)] at hm'
       obtain ⟨b'',o'',t'',k1,k2,_⟩:=h.live d' i' v' B2 hg' hB2
       rw[k1] at hm'
       simp only[nP] at hm'
       have:=k2.lt hB2
       omega
   · rename_i e
     rw[if_neg (fun x=>e ⟨x.1,x.2.1⟩)] at hm
     split at hg'
     · rename_i e'
       obtain ⟨rfl,rfl⟩:=e'
       simp only[Prod.mk.injEq] at hg'
       obtain ⟨rfl,rfl⟩:=hg'
       simp at hm'
       obtain ⟨b'',o'',t'',k1,k2,_⟩:=h.live d i v B1 hg hB1
       rw[k1] at hm
       simp only[nP] at hm
       have:=k2.lt hB1
       omega
     · rename_i e'
       rw[if_neg (fun x=>e' ⟨x.1,x.2.1⟩)] at hm'
       exact h.apart d i v B1 d' i' v' B2 b o t1 o' t2 hg hB1 hg' hB2 hm hm'
 · intro d i v u hu
   simp only[muSet] at hu
   rw[hNextAt_push,hGet_push]
   split at hu
   · rename_i e
     obtain ⟨rfl,rfl,rfl⟩:=e
     simp
   · have:=h.dom d i v u hu
     by_cases hd:d=0
     · subst hd
       rw[hNextAt_zero] at this
       have hne:¬ (0=0∧i=hNext H):=by omega
       rw[if_neg hne,if_pos rfl]
       exact ⟨by omega,this.2⟩
     · rw[if_neg hd,if_neg (fun e=>hd e.1)];exact this

theorem KeepTo.push {p:Pst} {M:Mu} {H:Heap} {w:World} {B:Blk} {t:Nat} (h:HRel p M H w) (hH:H≠[]):KeepTo w M H (muSet M 0 (hNext H) 0 (w.heap.size,0,t)) (hPush H B):=by
 intro b hb hk d i v B' hg hB' hl o t' hm
 rw[hGet_push] at hg
 rw[hLock_push H hH] at hl
 simp only[muSet] at hm
 split at hg
 · rename_i e
   obtain ⟨rfl,rfl⟩:=e
   simp only[Prod.mk.injEq] at hg
   obtain ⟨rfl,rfl⟩:=hg
   simp at hm
   omega
 · rename_i e
   rw[if_neg (fun x=>e ⟨x.1,x.2.1⟩)] at hm
   exact hk d i v B' hg hB' hl o t' hm

theorem HRel.setB {p:Pst} {M:Mu} {H:Heap} {w w':World} {d i ver ver':Nat} {B B':Blk} {b o t b' o' t':Nat} (h:HRel p M H w) (hg:hGet H d i=(ver,B)) (hB:B≠.dead)
 (hm:M d i ver=some (b,o,t)) (hB':B'≠.dead) (hb:BRel p (M.up d) B' b' o' t' w') (hs:Stay (fun x=>x≠b) w w') (hx:b'=b∨w.heap.size≤b')
 (hv:(ver'=ver∧b'=b∧o'=o∧t'=t)∨ver<ver') :
 Mu.le M (muSet M d i ver' (b',o',t'))∧HRel p (muSet M d i ver' (b',o',t')) (hSet H d i (ver',B')) w':=by
 have hlt:i<hNextAt H d:=hGet_lt (by rw[hg];exact hB)
 have hle:Mu.le M (muSet M d i ver' (b',o',t')):=muSet_le fun u hu=>by
  rcases hv with ⟨rfl,rfl,rfl,rfl⟩ | hv
  · rw[hm] at hu;exact (Option.some.inj hu).symm
  · have:=(h.dom _ _ _ _ hu).2 (by rw[hg];exact hB)
    rw[hg] at this
    simp only at this
    omega
 obtain ⟨b0,o0,t0,k1,k2,k3⟩:=h.live d i ver B hg hB
 rw[hm] at k1
 simp only[nP] at k1
 obtain ⟨rfl,rfl,rfl⟩:=k1
 have hbs:b<w.heap.size:=k2.lt hB
 have hpn:∀ x u,p b' x=some u→False:=by
  intro x u hu
  rcases hx with rfl | hx
  · rw[k3 x] at hu;cases hu
  · have:=World.block_lt_of_cell? w _ (h.pers _ _ _ hu);simp at this;omega
 refine ⟨hle,⟨?_,?_,?_,?_⟩⟩
 · intro b1 o1 v1 hp
   have hc:=h.pers b1 o1 v1 hp
   have hb1:b1<w.heap.size:=World.block_lt_of_cell? w _ hc
   have hne:b1≠b:=fun e=>by subst e;rw[k3 o1] at hp;cases hp
   rw[← hc]
   exact World.cell?_of_block (w:=w) (hs.block b1 hb1 hne)
 · intro d1 i1 v1 B1 hg1 hB1
   rw[hGet_set] at hg1
   split at hg1
   · rename_i e
     obtain ⟨rfl,rfl,_⟩:=e
     simp only[Prod.mk.injEq] at hg1
     obtain ⟨rfl,rfl⟩:=hg1
     refine ⟨b',o',t',by simp[muSet],hb.mono (Pst.le.refl _) (hle.up _) rfl,fun x=>?_⟩
     cases hpx:p b' x with
     | none=>rfl
     | some u=>exact (hpn x u hpx).elim
   · rename_i e
     obtain ⟨b1,o1,t1,j1,j2,j3⟩:=h.live d1 i1 v1 B1 hg1 hB1
     refine ⟨b1,o1,t1,hle _ _ _ _ j1,j2.mono (Pst.le.refl _) (hle.up _) (hs.block b1 (j2.lt hB1) (fun e1=>?_)),j3⟩
     subst e1
     have:=h.apart d1 i1 v1 B1 d i ver B b1 o1 t1 o t hg1 hB1 hg hB j1 hm
     exact e ⟨this.1,this.2,hlt⟩
 · intro d1 i1 v1 B1 d2 i2 v2 B2 bb o1 t1 o2 t2 hg1 hB1 hg2 hB2 hm1 hm2
   rw[hGet_set] at hg1 hg2
   simp only[muSet] at hm1 hm2
   have other:∀ (d3 i3 v3:Nat) (B3:Blk) (b3 o3 t3:Nat),hGet H d3 i3=(v3,B3)→B3≠.dead→M d3 i3 v3=some (b3,o3,t3)→b3=b'→d3=d∧i3=i:=by
    clear hm1 hm2 hg1 hg2
    intro d3 i3 v3 B3 b3 o3 t3 hg3 hB3 hm3 e
    rcases hx with rfl | hx
    · subst e
      exact h.apart d3 i3 v3 B3 d i ver B b3 o3 t3 o t hg3 hB3 hg hB hm3 hm
    · obtain ⟨b4,o4,t4,j1,j2,_⟩:=h.live d3 i3 v3 B3 hg3 hB3
      rw[hm3] at j1
      simp only[nP] at j1
      have:=j2.lt hB3
      omega
   split at hg1
   · rename_i e1
     obtain ⟨rfl,rfl,_⟩:=e1
     simp only[Prod.mk.injEq] at hg1
     obtain ⟨rfl,rfl⟩:=hg1
     simp at hm1
     split at hg2
     · rename_i e2;exact ⟨e2.1.symm,e2.2.1.symm⟩
     · rename_i e2
       rw[if_neg (fun x=>e2 ⟨x.1,x.2.1,hlt⟩)] at hm2
       have:=other d2 i2 v2 B2 bb o2 t2 hg2 hB2 hm2 hm1.1.symm
       exact ⟨this.1.symm,this.2.symm⟩
   · rename_i e1
     rw[if_neg (fun x=>e1 ⟨x.1,x.2.1,hlt⟩)] at hm1
     split at hg2
     · rename_i e2
       obtain ⟨rfl,rfl,_⟩:=e2
       simp only[Prod.mk.injEq] at hg2
       obtain ⟨rfl,rfl⟩:=hg2
       simp at hm2
       exact other d1 i1 v1 B1 bb o1 t1 hg1 hB1 hm1 hm2.1.symm
     · rename_i e2
       rw[if_neg (fun x=>e2 ⟨x.1,x.2.1,hlt⟩)] at hm2
       exact h.apart d1 i1 v1 B1 d2 i2 v2 B2 bb o1 t1 o2 t2 hg1 hB1 hg2 hB2 hm1 hm2
 · intro d1 i1 v1 u hu
   simp only[muSet] at hu
   rw[hNextAt_set,hGet_set]
   split at hu
   · rename_i e
     obtain ⟨rfl,rfl,rfl⟩:=e
     rw[if_pos ⟨rfl,rfl,hlt⟩]
     exact ⟨hlt,fun _=>Nat.le_refl _⟩
   · have:=h.dom d1 i1 v1 u hu
     refine ⟨this.1,?_⟩
     split
     · rename_i e
       obtain ⟨rfl,rfl,_⟩:=e
       intro _
       have:=this.2 (by rw[hg];exact hB)
       rw[hg] at this
       simp only at this ⊢
       rcases hv with ⟨rfl,_⟩ | hv<;>omega
     · exact this.2

theorem hPush_len (H:Heap) (hH:H≠[]) (b:Blk):(hPush H b).length=H.length:=by
 cases H with
 | nil=>exact absurd rfl hH
 | cons l r=>rfl
theorem hSet_len:∀ (H:Heap) (d i:Nat) (x:Nat×Blk),(hSet H d i x).length=H.length
 | [],_,_,_=>rfl
 | l::r,0,_,_=>rfl
 | l::r,d+1,i,x=>by simp[hSet,hSet_len r d i x]

theorem drel_on2 {p:Pst} {M:Mu} {H:Heap} {w w':World} {v:AV} {δ:Delta} {cv:Value} (hH:H≠[]) (h:HRel p M H w) (hd:DRel p M H (hNext H) v δ cv w w') :
 ∃ p' M',Evo p M H w p' M' (δ.on H) w'∧VRel p' M' v cv∧((∀ X,δ≠.heap X)→p'=p∧∀ d1 i1,(∀ v,M d1 i1 v=none)→i1<hNextAt H d1→∀ v,M' d1 i1 v=none):=by
 cases δ with
 | keep=>exact ⟨p,M,{ Evo.refl h with rel:=h.stay hd.2,stay:=hd.2.weaken (fun _ _ _=>trivial) },hd.1,fun _=>⟨rfl,fun _ _ h _=>h⟩⟩
 | push B =>
   obtain ⟨t,hB,hv,hb,hs⟩:=hd
   have hnew:=hb.lt hB
   obtain ⟨h1,h2⟩:=h.push hB hb hs hnew
   refine ⟨p,_,⟨Pst.le.refl _,h1,h2,hs.weaken (fun _ _ _=>trivial),KeepTo.push h hH,fun b o v hv=>.inl hv,?_,fun d=>hLock_push H hH B d,?_,?_,hPush_len H hH B,fun d=>by {
    simp only[Delta.on]
    rw[hNextAt_push]
    by_cases e:d=0
    · subst e
      rw[hNextAt_zero]
      simp
    · rw[if_neg e]
      exact Nat.le_refl _ },fun d i v u hm=>?_⟩,hv,fun _=>⟨rfl,fun d1 i1 h0 hlt u=>?_⟩⟩
   · intro d i v b o t' hm
     simp only[muSet] at hm
     split at hm
     · simp only[nP] at hm
       exact .inl (by omega)
     · exact .inr ⟨_,_,_,_,_,Nat.le_refl _,hm⟩
   · intro d i hd0 _
     simp only[Delta.on]
     rw[hGet_push,if_neg (fun e=>hd0 e.1)]
   · intro d hd0 _
     simp only[Delta.on]
     rw[hNextAt_push,if_neg hd0]
   · simp only[muSet] at hm
     split at hm
     · rename_i e;obtain ⟨rfl,rfl,rfl⟩:=e
       exact .inr (.inl (by rw[hNextAt_zero];exact Nat.le_refl _))
     · exact .inl hm
   · simp only[muSet]
     rw[if_neg]
     · exact h0 u
     · rintro ⟨rfl,rfl,_⟩
       rw[hNextAt_zero] at hlt;exact Nat.lt_irrefl _ hlt
 | set d i x =>
   obtain ⟨ver',B'⟩:=x
   obtain ⟨ver,B,b,o,t,b',o',t',hg,hB,hl,hm,hB',hb,hs,hx,hv,hver⟩:=hd
   obtain ⟨h1,h2⟩:=h.setB hg hB hm hB' hb hs hx hver
   refine ⟨p,_,⟨Pst.le.refl _,h1,h2,hs.weaken (fun x _ hk e=>hk d i ver B hg hB hl o t (by rw[e];exact hm)),?_,fun b o v hv=>.inl hv,?_,fun d'=>hLock_set _ _ _ _ _,?_,fun d' _ _=>hNextAt_set _ _ _ _ _,hSet_len _ _ _ _,fun d'=>Nat.le_of_eq (hNextAt_set _ _ _ _ _).symm,fun d1 i1 v1 u hm1=>?_⟩,hv,fun _=>⟨rfl,fun d1 i1 h0 hlt u=>?_⟩⟩
   · intro x hxs hk d1 i1 v1 B1 hg1 hB1 hl1 o1 t1 hm1
     simp only[Delta.on] at hg1 hl1
     rw[hLock_set] at hl1
     rw[hGet_set] at hg1
     simp only[muSet] at hm1
     have hlt:i<hNextAt H d:=hGet_lt (by rw[hg];exact hB)
     split at hg1
     · rename_i e
       obtain ⟨rfl,rfl,_⟩:=e
       simp only[Prod.mk.injEq] at hg1
       obtain ⟨rfl,rfl⟩:=hg1
       simp at hm1
       rcases hx with rfl | hx
       · exact hk d1 i1 ver B hg hB hl o t (by rw[hm,hm1.1])
       · omega
     · rename_i e
       rw[if_neg (fun x=>e ⟨x.1,x.2.1,hlt⟩)] at hm1
       exact hk d1 i1 v1 B1 hg1 hB1 hl1 o1 t1 hm1
   · intro d1 i1 v1 b1 o1 t1 hm1
     simp only[muSet] at hm1
     split at hm1
     · rename_i e
       obtain ⟨rfl,rfl,rfl⟩:=e
       simp only[nP] at hm1
       obtain ⟨rfl,rfl,rfl⟩:=hm1
       rcases hx with rfl | hx
       · exact .inr ⟨_,_,_,_,_,Nat.le_refl _,hm⟩
       · exact .inl hx
     · exact .inr ⟨_,_,_,_,_,Nat.le_refl _,hm1⟩
   · intro d1 i1 _ hl1
     simp only[Delta.on]
     rw[hGet_set,if_neg]
     rintro ⟨rfl,_,_⟩
     rw[hl] at hl1
     simp at hl1
   · simp only[muSet] at hm1
     split at hm1
     · rename_i e;obtain ⟨rfl,rfl,rfl⟩:=e
       exact .inr (.inr hl)
     · exact .inl hm1
   · simp only[muSet]
     rw[if_neg]
     · exact h0 u
     · rintro ⟨rfl,rfl,_⟩
       rw[h0 ver] at hm;cases hm
 | heap H' =>
   obtain ⟨p',M',h1,h2⟩:=hd
   exact ⟨p',M',h1,h2,fun hx=>absurd rfl (hx _)⟩

theorem drel_on {p:Pst} {M:Mu} {H:Heap} {w w':World} {v:AV} {δ:Delta} {cv:Value} (hH:H≠[]) (h:HRel p M H w) (hd:DRel p M H (hNext H) v δ cv w w') :
 ∃ p' M',Evo p M H w p' M' (δ.on H) w'∧VRel p' M' v cv:=by
 obtain ⟨p',M',h1,h2,_⟩:=drel_on2 hH h hd
 exact ⟨p',M',h1,h2⟩

theorem hGet_kill (H:Heap) (d i d' i':Nat):hGet (hKill H d i) d' i'=if d'=d∧i'=i then ((hGet H d i).1,.dead) else hGet H d' i':=by
 unfold hKill
 rw[hGet_set]
 by_cases e:d'=d∧i'=i
 · obtain ⟨rfl,rfl⟩:=e
   by_cases hlt:i'<hNextAt H d'
   · simp[hlt]
   · rw[if_neg (fun x=>hlt x.2.2),if_pos ⟨rfl,rfl⟩]
     have:(hGet H d' i').2=.dead:=Classical.byContradiction fun hn=>hlt (hGet_lt hn)
     rw[← this]
 · rw[if_neg (fun x=>e ⟨x.1,x.2.1⟩),if_neg e]
theorem HRel.kill {p:Pst} {M:Mu} {H:Heap} {w:World} (h:HRel p M H w) (d i:Nat):HRel p M (hKill H d i) w where
 pers:=h.pers
 live:=fun d1 i1 v B hg hB=>by
  rw[hGet_kill] at hg
  split at hg
  · simp only[Prod.mk.injEq] at hg;exact absurd hg.2.symm hB
  · exact h.live d1 i1 v B hg hB
 apart:=fun d1 i1 v1 B1 d2 i2 v2 B2 b o1 t1 o2 t2 hg1 hB1 hg2 hB2 hm1 hm2=>by
  rw[hGet_kill] at hg1 hg2
  split at hg1
  · simp only[Prod.mk.injEq] at hg1;exact absurd hg1.2.symm hB1
  · split at hg2
    · simp only[Prod.mk.injEq] at hg2;exact absurd hg2.2.symm hB2
    · exact h.apart d1 i1 v1 B1 d2 i2 v2 B2 b o1 t1 o2 t2 hg1 hB1 hg2 hB2 hm1 hm2
 dom:=fun d1 i1 v u hu=>by
  have:=h.dom d1 i1 v u hu
  unfold hKill
  rw[hNextAt_set]
  refine ⟨this.1,?_⟩
  have e:=hGet_kill H d i d1 i1
  unfold hKill at e
  rw[e]
  split
  · exact fun hne=>absurd rfl hne
  · exact this.2
theorem KeepTo.kill (w:World) (M:Mu) (H:Heap) (d i:Nat):KeepTo w M H M (hKill H d i):=by
 intro b _ hk d1 i1 v B hg hB hl o t hm
 rw[hGet_kill] at hg
 unfold hKill at hl
 rw[hLock_set] at hl
 split at hg
 · simp only[Prod.mk.injEq] at hg;exact absurd hg.2.symm hB
 · exact hk d1 i1 v B hg hB hl o t hm

end Go.Eng
