/- The engine, part V: regions that draw their order: what an operation sees is the same in every order. -/
import Derived.Test.YtgphpjdchnfjlaaDoorV6EngOx6
set_option linter.unusedVariables false
set_option linter.unusedSimpArgs false
section
namespace Go.Eng

section
variable {P:Program} {nt:Nat} {call:aK} {ops:Array Oper} {dV:aA} {H0:ab} {n0:Nat} {T:Nat→uk}

theorem xw (hF:Fact P nt call ops (Region.before ops) dV H0 n0 T) {k:Nat} {o:Oper} (ho:ops[k]?=some o) {d i:Nat} {b:Nat×an} (hw:(T k).wr=some (d,i,b)) :
 b.2≠.dead∧True ∧
  ((d=0∧i=kh ops n0 k∧cM ops k=true∧az (hS T H0 fE k) 0 i=(0,.dead)) ∨
   ((az (df (hS T H0 fE k) ((Region.before ops).getD k 0) (eU T k)) d i).2≠.dead∧j5 ((Region.before ops).getD k 0) d i (eU T k)=true)):=by
 have nd:∀ x:an,lV x=false→x≠.dead:=by intro x hx;cases x<;>simp[lV] at hx ⊢
 have h:=hF k o ho
 unfold gG at h
 split at h
 · simp at h
 · simp only[Option.some.injEq] at h
   rw[← h] at hw;simp at hw
 · split at h
   · split at h
     · simp only[Option.some.injEq] at h
       rw[← h] at hw;simp at hw
     · simp at h
   · split at h
     · simp only[Option.some.injEq] at h
       rw[← h] at hw;simp at hw
     · rename_i v B _
       split at h
       · rename_i hc
         simp only[Option.some.injEq] at h
         rw[← h] at hw
         dsimp only at hw
         rw[Option.some.injEq,Prod.mk.injEq,Prod.mk.injEq] at hw
         obtain ⟨rfl,rfl,rfl⟩:=hw
         simp only[Bool.and_eq_true,Bool.not_eq_true'] at hc
         obtain ⟨⟨⟨h1,h2⟩,h3⟩,_⟩:=hc
         have h4:az (hS T H0 fE k) 0 (kh ops n0 k)=(0,.dead):=by
          unfold ru at h3;split at h3
          · rename_i e;exact e
          · cases h3
         exact ⟨nd _ h2,trivial,.inl ⟨rfl,rfl,by simp[cM,ho,h1],h4⟩⟩
       · simp at h
     · rename_i v d' i' b' _
       split at h
       · rename_i hc
         simp only[Option.some.injEq] at h
         rw[← h] at hw
         dsimp only at hw
         rw[Option.some.injEq,Prod.mk.injEq,Prod.mk.injEq] at hw
         obtain ⟨rfl,rfl,rfl⟩:=hw
         simp only[Bool.and_eq_true,Bool.not_eq_true'] at hc
         obtain ⟨⟨⟨h1,h2⟩,h3⟩,h4⟩:=hc
         exact ⟨nd _ h1,trivial,.inr ⟨nd _ h3,h4⟩⟩
       · simp at h
     · simp at h

theorem Cn (hn:n0+cY ops.toList=ao H0 0) (hF:Fact P nt call ops (Region.before ops) dV H0 n0 T) {k:Nat} {o:Oper} (ho:ops[k]?=some o) {d i:Nat} {b:Nat×an} (hw:(T k).wr=some (d,i,b)):i<ao H0 d:=by
 obtain ⟨_,_,h | h⟩:=xw hF ho hw
 · obtain ⟨rfl,rfl,h,_⟩:=h;rw[← hn];exact CW h
 · have:=kC h.1;rw[iK,gu] at this;exact this

theorem nJ (hn:n0+cY ops.toList=ao H0 0) (hF:Fact P nt call ops (Region.before ops) dV H0 n0 T) (S:Nat→Bool) (d i:Nat) {k:Nat} (hk:k<ops.size) :
 az (hS T H0 S (k+1)) d i=if S k then (kX T k d i).getD (az (hS T H0 S k) d i) else az (hS T H0 S k) d i:=by
 simp only[hS]
 by_cases hs:S k=true
 · rw[if_pos hs,if_pos hs]
   unfold kX
   cases hw:(T k).wr with
   | none=>rfl
   | some x =>
     obtain ⟨d',i',b⟩:=x
     have hlt:=Cn hn hF (Array.getElem?_eq_getElem hk) hw
     simp only[qZ]
     rw[dW,gu]
     by_cases e:d=d'∧i=i'
     · rw[if_pos ⟨e.1,e.2,hlt⟩,if_pos e];rfl
     · rw[if_neg (fun x=>e ⟨x.1,x.2.1⟩),if_neg e];rfl
 · rw[if_neg hs,if_neg hs]

theorem jU (hn:n0+cY ops.toList=ao H0 0) (hF:Fact P nt call ops (Region.before ops) dV H0 n0 T) {d i:Nat}:∀ (m:Nat),m≤ops.size→(az (hS T H0 fE m) d i).2=.dead→∀ k,k<m→kX T k d i=none∧(az (hS T H0 fE k) d i).2=.dead
 | 0,_,_,k,hk=>by omega
 | m+1,hm,hd,k,hk=>by
   rw[nJ hn hF fE d i wO,if_pos rfl] at hd;have hnone:kX T m d i=none:=by
    cases hw:kX T m d i with
    | none=>rfl
    | some b =>
      rw[hw] at hd;exact absurd hd (xw hF (Array.getElem?_eq_getElem (show m<ops.size by omega)) (kf.1 hw)).1
   rw[hnone] at hd;simp only[Option.getD_none] at hd;by_cases e:k=m
   · subst e;exact ⟨hnone,hd⟩
   · exact jU hn hF m wO hd k wO

def pC (ops:Array Oper) (S:Nat→Bool):Prop:=∀ j,S j=true→j<ops.size∧∀ i,((Region.before ops).getD j 0).testBit i=true→S i=true

theorem later (hn:n0+cY ops.toList=ao H0 0) (hF:Fact P nt call ops (Region.before ops) dV H0 n0 T) {j m d i:Nat} (hjm:j<m) (hm:m<ops.size) (hw:kX T m d i≠none)
 (hj:kX T j d i≠none∨(jz (T j).rd d i∧(az (hS T H0 fE j) d i).2≠.dead)):((Region.before ops).getD m 0).testBit j=true:=by
 cases hb:kX T m d i with
 | none=>exact absurd hb hw
 | some b =>
   obtain ⟨_,_,h | h⟩:=xw hF (Array.getElem?_eq_getElem hm) (kf.1 hb)
   · obtain ⟨rfl,rfl,_,h⟩:=h
     have:=jU hn hF m wO (by rw[h]) j hjm
     rcases hj with hj | hj
     · exact absurd this.1 hj
     · exact absurd this.2 hj.2
   · rcases hj with hj | hj
     · rcases jW ((Region.before ops).getD m 0) (eU T m) (hS T H0 fE m) d i with ⟨h1,_⟩ | ⟨_,h1⟩
       · cases hjb:kX T j d i with
         | none=>exact absurd hjb hj
         | some c =>
           have:=Classical.not_not.1 (fun hnb=>h1 ⟨_,(ph T m _).2 ⟨j,hjm,rfl⟩,by rw[kf.1 hjb];rfl,by simpa using (hnb:¬ ((Region.before ops).getD m 0).testBit j=true)⟩)
           exact this
       · rw[h1] at h;exact absurd rfl h.1
     · rcases nj _ _ _ _ h.2 _ ((ph T m _).2 ⟨j,hjm,rfl⟩) with h1 | h1
       · exact h1
       · exact absurd hj.1 h1

theorem AJ (hn:n0+cY ops.toList=ao H0 0) (hF:Fact P nt call ops (Region.before ops) dV H0 n0 T) {S:Nat→Bool} (hS':pC ops S) {j:Nat} (hj:j<ops.size) (hjS:S j=false)
 (hbef:∀ i,((Region.before ops).getD j 0).testBit i=true→S i=true) {d i:Nat} (ht:jz (T j).rd d i)
 (hl:(az (df (hS T H0 fE j) ((Region.before ops).getD j 0) (eU T j)) d i).2≠.dead) :
 az (hS T H0 S ops.size) d i=az (df (hS T H0 fE j) ((Region.before ops).getD j 0) (eU T j)) d i:=by
 have h12:¬ uE ((Region.before ops).getD j 0) (eU T j) d i∧az (df (hS T H0 fE j) ((Region.before ops).getD j 0) (eU T j)) d i=az (hS T H0 fE j) d i:=by
  rcases jW ((Region.before ops).getD j 0) (eU T j) (hS T H0 fE j) d i with h | ⟨_,h2⟩
  · exact h
  · rw[h2] at hl;exact absurd rfl hl
 obtain ⟨h1,h2⟩:=h12
 rw[h2] at hl ⊢
 have claim : ∀ m,m≤ops.size→az (hS T H0 S m) d i=az (hS T H0 fE (min m j)) d i:=by
  intro m;induction m with
  | zero=>intro _;rw[Nat.zero_min];rfl
  | succ m ih =>
    intro hm;have ih:=ih wO;rw[nJ hn hF S d i wO];by_cases hmj:m<j
    · rw[show min (m+1) j=m+1 by omega,nJ hn hF fE d i wO,if_pos rfl];rw[show min m j=m by omega] at ih;rw[ih];cases hw:kX T m d i with
      | none=>simp
      | some b =>
        have hs:S m=true:=hbef m (Classical.not_not.1 fun hnb=>h1 ⟨_,(ph T j _).2 ⟨m,hmj,rfl⟩,by rw[kf.1 hw];rfl,by simpa using (hnb:¬ ((Region.before ops).getD j 0).testBit m=true)⟩);rw[if_pos hs]
    · rw[show min (m+1) j=min m j by omega,← ih];split
      · rename_i hs;cases hw:kX T m d i with
        | none=>rfl
        | some b =>
          exfalso;by_cases e:m=j
          · subst e;rw[hjS] at hs;cases hs
          · have:=(hS' m hs).2 j (later hn hF (show j<m by omega) wO (by rw[hw];simp) (.inr ⟨ht,hl⟩));rw[hjS] at this;cases this
      · rfl
 have:=claim ops.size (Nat.le_refl _)
 rw[Nat.min_eq_right wO] at this
 exact this

def gM (S:Nat→Bool) (j:Nat):Nat→Bool:=fun k=>if k=j then true else S k

theorem Ig (hn:n0+cY ops.toList=ao H0 0) (hF:Fact P nt call ops (Region.before ops) dV H0 n0 T) {S:Nat→Bool} (hS':pC ops S) {j:Nat} (hj:j<ops.size) (hjS:S j=false) :
 hS T H0 (gM S j) ops.size=qZ (hS T H0 S ops.size) (T j).wr:=by
 have claim : ∀ m,m≤ops.size→∀ d i,az (hS T H0 (gM S j) m) d i=if j<m then (kX T j d i).getD (az (hS T H0 S m) d i) else az (hS T H0 S m) d i:=by
  intro m;induction m with
  | zero=>intro _ d i;rfl
  | succ m ih =>
    intro hm d i;have ih:=ih wO d i;rw[nJ hn hF (gM S j) d i wO,nJ hn hF S d i wO,ih];by_cases e:m=j
    · subst e;simp[gM,hjS]
    · have e1 : gM S j m=S m:=if_neg e;rw[e1];by_cases hjm:j<m
      · rw[if_pos hjm,if_pos (show j<m+1 by omega)];split
        · rename_i hs;cases hw:kX T m d i with
          | none=>rfl
          | some b =>
            cases hw2:kX T j d i with
            | none=>rfl
            | some c =>
              exfalso;have:=(hS' m hs).2 j (later hn hF hjm wO (by rw[hw];simp) (.inl (by rw[hw2];simp)));rw[hjS] at this;cases this
        · rfl
      · rw[if_neg hjm,if_neg (show ¬ j<m+1 by omega)]
 refine sB _ _ (by rw[yY,pR,pR]) (fun d i=>?_) (fun d=>by rw[vL,gu,gu]) (fun d=>by rw[vK,jn,jn])
 rw[claim _ (Nat.le_refl _),if_pos hj]
 unfold kX
 cases hw:(T j).wr with
 | none=>rfl
 | some x =>
   obtain ⟨d',i',b⟩:=x
   have hlt:=Cn hn hF (Array.getElem?_eq_getElem hj) hw
   simp only[qZ]
   rw[dW,gu]
   by_cases e:d=d'∧i=i'
   · rw[if_pos e,if_pos ⟨e.1,e.2,hlt⟩];rfl
   · rw[if_neg e,if_neg (fun x=>e ⟨x.1,x.2.1⟩)];rfl

theorem gn (h:fV ops (Region.before ops)=true) {j:Nat} {o:Oper} (ho:ops[j]?=some o):(∀ i,((Region.before ops).getD j 0).testBit i=true→i<j) ∧
 ∀ i q d,ops[i]?=some q→i≠j→q.dst=some d→o.dst≠some d∧(d ∈ o.looksAt ops→((Region.before ops).getD j 0).testBit i=true∨((Region.before ops).getD i 0).testBit j=true):=by
 have mem:∀ {k:Nat} {x:Oper},ops[k]?=some x→(x,k) ∈ ops.toList.zipIdx:=fun {k x} hk=>by
  rw[List.mem_zipIdx_iff_getElem?];simpa using hk
 unfold fV at h
 rw[List.all_eq_true] at h
 have h1:=h _ (mem ho)
 simp only[Bool.and_eq_true] at h1
 refine ⟨fun i hi=>?_,fun i q d hq hij hd=>?_⟩
 · have hlt:(Region.before ops).getD j 0<2 ^ j:=by simpa[Nat.blt_eq] using h1.1
   refine Nat.lt_of_not_le fun hle=>?_
   have:=Nat.testBit_lt_two_pow (Nat.lt_of_lt_of_le hlt (Nat.pow_le_pow_right wO hle))
   rw[this] at hi;cases hi
 · have h2:=List.all_eq_true.1 h1.2 _ (mem hq)
   simp only[hd,Bool.or_eq_true,Bool.and_eq_true,bne_iff_ne,ne_eq,Bool.not_eq_true'] at h2
   rcases h2 with h2 | h2
   · exact absurd (Nat.eq_of_beq_eq_true h2) hij
   · refine ⟨h2.1,fun hm=>?_⟩
     rcases h2.2 with (h3 | h3) | h3
     · have:(Oper.looksAt ops o).contains d=true:=by simpa using hm
       rw[this] at h3;cases h3
     · exact .inl h3
     · exact .inr h3

theorem dw (nt:Nat) (fr:aA) (dst:Option Tmp) (v:AV) (x:Nat):bM (iu nt fr dst v) x=if dst=some x∧x<nt then v else bM fr x:=by
 cases dst with
 | none=>simp[iu]
 | some d =>
   simp only[iu];by_cases h:d<nt
   · rw[if_pos (by simpa[Nat.blt_eq] using h),pL];by_cases e:x=d
     · subst e;simp[h]
     · rw[if_neg e,if_neg (by rintro ⟨h1,_⟩;exact e (Option.some.inj h1).symm)]
   · rw[if_neg (by simpa[Nat.blt_eq] using h),if_neg];rintro ⟨h1,h2⟩;rw[Option.some.inj h1] at h;exact h h2

theorem Ez (hs:fV ops (Region.before ops)=true) {S:Nat→Bool} (hS':pC ops S) {j:Nat} {o:Oper} (ho:ops[j]?=some o) (hjS:S j=false)
 (hbef:∀ i,((Region.before ops).getD j 0).testBit i=true→S i=true) {x:Nat} (hx:x ∈ o.looksAt ops):bM (kB nt ops T dV S ops.size) x=bM (kB nt ops T dV fE j) x:=by
 have hj:j<ops.size:=(Array.getElem?_eq_some_iff.1 ho).1
 have claim : ∀ m,m≤ops.size→bM (kB nt ops T dV S m) x=bM (kB nt ops T dV fE (min m j)) x:=by
  intro m;induction m with
  | zero=>intro _;rw[Nat.zero_min];rfl
  | succ m ih =>
    intro hm;have ih:=ih wO;have hq:ops[m]?=some ops[m]:=Array.getElem?_eq_getElem wO;simp only[kB,hq,Option.bind_some];by_cases hmj:m<j
    · rw [show min (m+1) j=m+1 by omega];rw[show min m j=m by omega] at ih;simp only[kB,hq,Option.bind_some,if_true];rw[dw];by_cases e:ops[m].dst=some x∧x<nt
      · rw[if_pos e];have hsm:S m=true:=by
         rcases ((gn hs ho).2 m _ x hq wO e.1).2 hx with h1 | h1
         · exact hbef m h1
         · have:=(gn hs hq).1 j h1;omega
        rw[if_pos hsm,dw,if_pos e]
      · rw[if_neg e,← ih];split
        · rw[dw,if_neg e]
        · rfl
    · rw[show min (m+1) j=min m j by omega,← ih];split
      · rename_i hsm;rw[dw];by_cases e:ops[m].dst=some x∧x<nt
        · exfalso;by_cases em:m=j
          · subst em;rw[hjS] at hsm;cases hsm
          · rcases ((gn hs ho).2 m _ x hq wO e.1).2 hx with h1 | h1
            · have:=(gn hs ho).1 m h1;omega
            · have:=(hS' m hsm).2 j h1;rw[hjS] at this;cases this
        · rw[if_neg e]
      · rfl
 have:=claim ops.size (Nat.le_refl _)
 rw[Nat.min_eq_right wO] at this
 exact this

theorem FN (hs:fV ops (Region.before ops)=true) {S:Nat→Bool} {j:Nat} {o:Oper} (ho:ops[j]?=some o) (hjS:S j=false) (x:Nat) :
 bM (kB nt ops T dV (gM S j) ops.size) x=bM (iu nt (kB nt ops T dV S ops.size) o.dst (T j).v) x:=by
 have hj:j<ops.size:=(Array.getElem?_eq_some_iff.1 ho).1
 have claim : ∀ m,m≤ops.size→bM (kB nt ops T dV (gM S j) m) x=if j<m then bM (iu nt (kB nt ops T dV S m) o.dst (T j).v) x else bM (kB nt ops T dV S m) x:=by
  intro m;induction m with
  | zero=>intro _;rfl
  | succ m ih =>
    intro hm;have ih:=ih wO;have hq:ops[m]?=some ops[m]:=Array.getElem?_eq_getElem wO;simp only[kB,hq,Option.bind_some];by_cases e:m=j
    · subst e;rw[hq] at ho;have ho':=Option.some.inj ho;have e1:gM S m m=true:=if_pos rfl;rw[if_neg (Nat.lt_irrefl _)] at ih;rw[if_pos e1,if_pos (Nat.lt_succ_self _),hjS,ho'];simp only[Bool.false_eq_true,if_false];rw[dw,dw,ih]
    · have e1:gM S j m=S m:=if_neg e;rw[e1];by_cases hjm:j<m
      · rw[if_pos hjm] at ih;rw[if_pos (show j<m+1 by omega)];by_cases hsm:S m=true
        · rw[if_pos hsm,if_pos hsm,dw,ih,dw,dw,dw];by_cases e2:ops[m].dst=some x∧x<nt
          · rw[if_pos e2,if_pos e2,if_neg];rintro ⟨h1,_⟩;exact ((gn hs ho).2 m _ x hq e e2.1).1 h1
          · rw[if_neg e2,if_neg e2]
        · rw[if_neg hsm,if_neg hsm,ih]
      · rw[if_neg hjm] at ih;rw[if_neg (show ¬ j<m+1 by omega)];split
        · rw[dw,dw,ih]
        · exact ih
 rw[claim _ (Nat.le_refl _),if_pos hj]

def lM (l:List Tmp):aA→aA
 | []=>[]
 | (x,v)::r=>if l.contains x then (x,v)::lM l r else lM l r
theorem jV (l:List Tmp):∀ (fr:aA) (x:Nat),bM (lM l fr) x=if x ∈ l then bM fr x else .undef
 | [],x=>by simp[lM,bM]
 | (y, v)::r,x=>by
   simp only[lM];split
   · rename_i h;simp only[bM,jV l r x];by_cases e:y=x
     · subst e;have:y ∈ l:=by simpa using h
       simp[this]
     · simp[e]
   · rename_i h;rw[jV l r x];simp only[bM];by_cases e:y=x
     · subst e;have:¬ y ∈ l:=by simpa using h
       simp[this]
     · simp[e]

theorem yV (o:Oper) (fr:aA):∀ x ∈ o.op.operands.toList,b5 fr x=b5 (lM (o.looksAt ops) fr) x:=by
 intro x hx;cases x with
 | tmp t =>
   simp only[b5];rw[jV,if_pos];exact List.mem_append_left _ (List.mem_filterMap.2 ⟨.tmp t,hx,rfl⟩)
 | const v=>rfl
 | global g=>rfl
 | func f=>rfl
theorem El (o:Oper) (fr:aA):lk ops (lM (o.looksAt ops) fr) o=lk ops fr o:=by
 unfold lk;cases hg:o.guard with
 | none=>rfl
 | some jw =>
   obtain ⟨g,want⟩:=jw;dsimp only;cases hd:(ops[g]?).bind (·.dst) with
   | none=>rfl
   | some d =>
     dsimp only;rw[jV,if_pos];unfold Oper.looksAt;rw[hg];refine List.mem_append_right _ ?_;dsimp only;rw[hd];simp

end

end Go.Eng
end
section
namespace Go.Eng

theorem nX:∀ (l:List (Nat×an)) (k i:Nat),au (l++List.replicate k (0,.dead)) i=au l i
 | [],0,i=>rfl
 | [],k+1,0=>rfl
 | [],k+1,i+1=>by
   have:=nX [] k i;simpa[List.replicate_succ,au] using this
 | b::l,k,0=>rfl
 | b::l,k,i+1=>by simpa[au] using nX l k i
theorem iM (H:ab) (k d i:Nat):az (nH H k) d i=az H d i:=by
 cases H with
 | nil=>rfl
 | cons l r =>
   cases d with
   | zero=>exact nX _ _ _
   | succ d=>rfl
theorem vp (H:ab) (k d:Nat):aL (nH H k) d=aL H d:=by
 cases H with
 | nil=>rfl
 | cons l r=>cases d<;>rfl
theorem jY (H:ab) (hne:H≠[]) (k d:Nat):ao (nH H k) d=if d=0 then aZ H+k else ao H d:=by
 cases H with
 | nil=>exact absurd rfl hne
 | cons l r =>
   cases d with
   | zero=>simp[nH,ao,aZ]
   | succ d=>simp[nH,ao]
theorem FW (H:ab) (k:Nat):(nH H k).length=H.length:=by cases H<;>rfl
theorem cC.pad {p:aF} {M:Mu} {H:ab} {w w':World} (h:bj p M H w) (hne:H≠[]) (k:Nat) (hs:dx (fun _=>True) w w'):cC p M H w p M (nH H k) w':=by
 have h':=h.stay hs;refine { cC.refl h with rel:=⟨h'.pers,?_,?_,?_⟩,stay:=hs.weaken (fun _ _ _=>trivial),bA:=?_,lock:=fun d=>vp H k d,same:=fun d i _ _=>iM H k d i,next:=?_,len:=FW H k,grow:=?_ }
 · intro d i v B hg hB;rw[iM] at hg;exact h'.live d i v B hg hB
 · intro d i v B d' i' v' B' b o t o' t' hg hB hg' hB' hm hm';rw[iM] at hg hg';exact h.apart d i v B d' i' v' B' b o t o' t' hg hB hg' hB' hm hm'
 · intro d i v t hm;have:=h.dom d i v t hm;rw[jY H hne,iM];refine ⟨?_,this.2⟩;by_cases e:d=0
   · subst e;rw[bm] at this;simp;omega
   · rw[if_neg e];exact this.1
 · intro b hb hk d i v B hg hB hl o t hm;rw[iM] at hg;rw[vp] at hl;exact hk d i v B hg hB hl o t hm
 · intro d hd _;rw[jY H hne,if_neg hd]
 · intro d;rw[jY H hne];by_cases e:d=0
   · subst e;rw[bm];simp
   · rw[if_neg e];exact Nat.le_refl _

theorem cC.fill {p:aF} {M:Mu} {H:ab} {w w':World} {B:an} {t nx:Nat} (h:bj p M H w) (hg0:az H 0 nx=(0,.dead)) (hnx:nx<ao H 0) (hl0:aL H 0=false) (hm0:∀ v,M 0 nx v=none) (hB:B≠.dead)
 (hb:fB p M B w.heap.size 0 t w') (hs:dx (fun _=>True) w w'):cC p M H w p (br M 0 nx 0 (w.heap.size,0,t)) (eh H 0 nx (0,B)) w':=by
 have hle:Mu.le M (br M 0 nx 0 (w.heap.size,0,t)):=j6 fun u hu=>by rw[hm0] at hu;cases hu
 have h':=h.stay hs
 have get:∀ d i,az (eh H 0 nx (0,B)) d i=if d=0∧i=nx then (0,B) else az H d i:=fun d i=>by
  rw[dW];by_cases e:d=0∧i=nx
  · rw[if_pos ⟨e.1,e.2,hnx⟩,if_pos e]
  · rw[if_neg (fun x=>e ⟨x.1,x.2.1⟩),if_neg e]
 have mu:∀ d i v,¬ (d=0∧i=nx)→br M 0 nx 0 (w.heap.size,0,t) d i v=M d i v:=fun d i v e=>by
  simp only[br];rw[if_neg (fun x=>e ⟨x.1,x.2.1⟩)]
 refine ⟨aF.le.refl _,hle,⟨h'.pers,?_,?_,?_⟩,hs.weaken (fun _ _ _=>trivial),?_,fun b o v hv=>.inl hv,?_,fun d=>fw _ _ _ _ _,?_,fun d _ _=>cH _ _ _ _ _,lR _ _ _ _,fun d=>Nat.le_of_eq (cH _ _ _ _ _).symm,?_⟩
 · intro d i v B' hg hB'
   rw[get] at hg
   split at hg
   · rename_i e
     obtain ⟨rfl,rfl⟩:=e
     simp only[Prod.mk.injEq] at hg
     obtain ⟨rfl,rfl⟩:=hg
     refine ⟨w.heap.size,0,t,by simp[br],hb.mono (aF.le.refl _) hle rfl,fun x=>?_⟩
     cases hx:p w.heap.size x with
     | none=>rfl
     | some u=>have:=World.block_lt_of_cell? w _ (h.pers _ _ _ hx);simp at this
   · obtain ⟨b,o,t',h1,h2,h3⟩:=h'.live d i v B' hg hB'
     exact ⟨b,o,t',hle _ _ _ _ h1,h2.mono (aF.le.refl _) (hle.up d) rfl,h3⟩
 · intro d i v B1 d' i' v' B2 b o t1 o' t2 hg hB1 hg' hB2 hm hm'
   rw[get] at hg hg'
   split at hg
   · rename_i e
     obtain ⟨rfl,rfl⟩:=e
     simp only[Prod.mk.injEq] at hg
     obtain ⟨rfl,rfl⟩:=hg
     simp[br] at hm
     split at hg'
     · rename_i e';exact ⟨e'.1.symm,e'.2.symm⟩
     · rename_i e'
       rw[mu _ _ _ e'] at hm'
       obtain ⟨b'',o'',t'',k1,k2,_⟩:=h.live d' i' v' B2 hg' hB2
       rw[k1] at hm'
       simp only[nP] at hm'
       have:=k2.lt hB2
       omega
   · rename_i e
     rw[mu _ _ _ e] at hm
     split at hg'
     · rename_i e'
       obtain ⟨rfl,rfl⟩:=e'
       simp only[Prod.mk.injEq] at hg'
       obtain ⟨rfl,rfl⟩:=hg'
       simp[br] at hm'
       obtain ⟨b'',o'',t'',k1,k2,_⟩:=h.live d i v B1 hg hB1
       rw[k1] at hm
       simp only[nP] at hm
       have:=k2.lt hB1
       omega
     · rename_i e'
       rw[mu _ _ _ e'] at hm'
       exact h.apart d i v B1 d' i' v' B2 b o t1 o' t2 hg hB1 hg' hB2 hm hm'
 · intro d i v u hu
   rw[cH,get]
   by_cases e:d=0∧i=nx
   · rw[if_pos e]
     simp only[br] at hu
     split at hu
     · rename_i e2
       rw[e.1,e.2]
       exact ⟨hnx,fun _=>by rw[e2.2.2];exact Nat.le_refl _⟩
     · rw[e.1,e.2,hm0] at hu;cases hu
   · rw[if_neg e]
     rw[mu _ _ _ e] at hu
     exact h.dom d i v u hu
 · intro b hb' hk d i v B' hg hB' hl o t' hm
   rw[get] at hg
   rw[fw] at hl
   split at hg
   · rename_i e
     obtain ⟨rfl,rfl⟩:=e
     simp only[Prod.mk.injEq] at hg
     obtain ⟨rfl,rfl⟩:=hg
     simp[br] at hm
     omega
   · rename_i e
     rw[mu _ _ _ e] at hm
     exact hk d i v B' hg hB' hl o t' hm
 · intro d i v b o t' hm
   simp only[br] at hm
   split at hm
   · simp only[nP] at hm
     exact .inl wO
   · exact .inr ⟨_,_,_,_,_,Nat.le_refl _,hm⟩
 · intro d i hd0 _
   rw[get,if_neg (fun e=>hd0 e.1)]
 · intro d i v u hm
   by_cases e:d=0∧i=nx
   · exact .inr (.inr (by rw[e.1];exact hl0))
   · rw[mu _ _ _ e] at hm;exact .inl hm

theorem cC.quiet {p p':aF} {M M':Mu} {e H X:ab} {w w':World} {v:AV} {cv:Value} (hH:bj p M H w) (hE:cC p M (bF e) w p' M' X w') (hst:Still (bF e) X) (hv:al p' M' v cv) :
 cC p M H w p' M H w'∧al p' M v cv:=by
 have hM:Mu.le M' M:=fun d i u t hm=>by
  rcases hE.new d i u t hm with h | h | h
  · exact h
  · have:=(hE.rel.dom d i u t hm).1;rw[hst.next d (cq _ _)] at this;omega
  · rw[cq] at h;cases h
 have all:∀ b,Go.Eng.bA M (bF e) b:=fun b d i u B _ _ hl=>by rw[cq] at hl;cases hl
 have no:∀ {b:Nat},¬ (aL (bF e) 0=false∧∃ i u o' t',M 0 i u=some (b,o',t')):=fun h=>by have:=h.1;rw[cq] at this;cases this
 refine ⟨{ cC.refl hH with pst:=hE.pst,rel:=⟨hE.rel.pers,?_,hH.apart,hH.dom⟩,stay:=hE.stay.weaken (fun b _ _=>all b),fresh:=fun b o v hv=>(hE.fresh b o v hv).imp_right fun h=>h.elim .inl fun h=>(no h).elim },hv.mono (aF.le.refl _) hM⟩
 intro d i u B hg hB
 obtain ⟨b,o,t,k1,k2,k3⟩:=hH.live d i u B hg hB
 have hlt:=k2.lt hB
 refine ⟨b,o,t,k1,k2.mono hE.pst (Mu.le.refl _) (hE.stay.block b hlt (all b)),fun x=>?_⟩
 cases hx:p' b x with
 | none=>rfl
 | some y =>
   rcases hE.fresh b x y hx with h | h | ⟨h,_⟩
   · rw[k3] at h;cases h
   · omega
   · rw[cq] at h;cases h

section
variable {P:Program} {nt:Nat} {call:aK} {ops:Array Oper} {dV:aA} {H0:ab} {n0:Nat} {T:Nat→uk}

def Inv (nt:Nat) (ops:Array Oper) (T:Nat→uk) (dV:aA) (H0:ab) (n0:Nat) (p0:aF) (M0:Mu) (w0:World) (ds:List Deferred) (S:Nat→Bool) (a:Act) (w:World):Prop :=
 ∃ p M,cC p0 M0 H0 w0 p M (hS T H0 S ops.size) w∧bX p M nt (kB nt ops T dV S ops.size) a∧a.defers=ds∧∀ k,cM ops k=true→S k=false→∀ v,M 0 (kh ops n0 k) v=none

theorem BB (hn:n0+cY ops.toList=ao H0 0) (hF:Fact P nt call ops (Region.before ops) dV H0 n0 T) {S:Nat→Bool} (hS':pC ops S) {j:Nat} (hj:j<ops.size) (hjS:S j=false)
 (hbef:∀ i,((Region.before ops).getD j 0).testBit i=true→S i=true):uV (star (T j).rd (df (hS T H0 fE j) ((Region.before ops).getD j 0) (eU T j))) (hS T H0 S ops.size) where
 get:=fun d i=>by
  rcases zu (T j).rd (df (hS T H0 fE j) ((Region.before ops).getD j 0) (eU T j)) d i with ⟨h1,h2⟩ | ⟨_,h2⟩
  · rw[h2];by_cases hd:(az (df (hS T H0 fE j) ((Region.before ops).getD j 0) (eU T j)) d i).2=.dead
    · right;exact hd
    · left;exact (AJ hn hF hS' hj hjS hbef h1 hd).symm
  · right;rw[h2]
 next:=fun d=>by rw[ED,iK,gu,gu]

theorem DS {F:Fence} (hFW:dJ F) (hN:dG P) (hC:b9 P call) (hs:fV ops (Region.before ops)=true) (hn:n0+cY ops.toList=ao H0 0) (hne:H0≠[]) (hF:Fact P nt call ops (Region.before ops) dV H0 n0 T)
 {S:Nat→Bool} (hS':pC ops S) {j:Nat} {o:Oper} (ho:ops[j]?=some o) (hjS:S j=false) (hbef:∀ i,((Region.before ops).getD j 0).testBit i=true→S i=true)
 {p0:aF} {M0:Mu} {w0:World} {ds:List Deferred} {a:Act} {w:World} (hI:Inv nt ops T dV H0 n0 p0 M0 w0 ds S a w) {n:Nat} {Q:Exit→Act→World→Prop} {K:Act→World→Prop}
 (hK:∀ a' w',Inv nt ops T dV H0 n0 p0 M0 w0 ds (gM S j) a' w'→K a' w'):wpOpIn F n P ops Q j K a w:=by
 have hj:j<ops.size:=(Array.getElem?_eq_some_iff.1 ho).1
 obtain ⟨p,M,hE,hR,hd,hm⟩:=hI
 have hR':bX p M nt (lM (o.looksAt ops) (kB nt ops T dV fE j)) a:=⟨hR.size,fun x=>by
  rw[jV];split
  · rename_i hx;rw[← Ez hs hS' ho hjS hbef hx];exact hR.at_ x
  · exact .undef _⟩
 have hneS:hS T H0 S ops.size≠[]:=by
  intro e;have:=pR T H0 S ops.size;rw[e] at this;exact hne (List.length_eq_zero_iff.1 this.symm)
 have hw:=ua hR' ops o
 rw[El] at hw
 have hf:=hF j o ho
 have fin:∀ p' M' cv w',cC p M (hS T H0 S ops.size) w p' M' (qZ (hS T H0 S ops.size) (T j).wr) w'→al p' M' (T j).v cv→(∀ k,cM ops k=true→k≠j→S k=false→∀ v,M' 0 (kh ops n0 k) v=none)→K (a.put o.dst cv) w':=by
  intro p' M' cv w' h1 h2 h3;refine hK _ _ ⟨p',M',?_,?_,?_,?_⟩
  · rw[Ig hn hF hS' hj hjS];exact hE.trans h1
  · have:=(hR.mono h1.pst h1.mu).put o.dst h2;exact ⟨this.size,fun x=>by rw[FN hs ho hjS];exact this.at_ x⟩
  · rw[put_defers];exact hd
  · intro k hk hks;have hkj:k≠j:=fun e=>by subst e;simp[gM] at hks
    exact h3 k hk hkj (by simpa[gM,hkj] using hks)
 have hm':∀ k,cM ops k=true→k≠j→S k=false→∀ v,M 0 (kh ops n0 k) v=none:=fun k h1 _ h2=>hm k h1 h2
 have hnlt:∀ k,cM ops k=true→kh ops n0 k<ao (hS T H0 S ops.size) 0:=fun k hk=>by
  rw[gu,← hn];exact CW hk
 unfold wpOpIn
 rw[ho]
 dsimp only
 unfold gG at hf
 have under:=BB hn hF hS' hj hjS hbef
 split at hf
 · simp at hf
 · rename_i hwv
   simp only[Option.some.injEq] at hf
   rw[if_neg (by rw[hw.2 hwv];simp)]
   refine ⟨jO hFW P o w a,fin p M Go.undef w ?_ ?_ hm'⟩
   · rw[← hf];exact cC.refl hE.rel
   · rw[← hf];exact ql
 · rename_i hwv
   rw[if_pos (hw.1 hwv)]
   split at hf
   · rename_i hcv
     cases he:evalOp P call (kB nt ops T dV fE j) (bF (df (hS T H0 fE j) ((Region.before ops).getD j 0) (eU T j))) (kh ops n0 j) o with
     | none=>rw[he] at hf;simp at hf
     | some vd =>
       obtain ⟨v,δ⟩:=vd
       rw[he] at hf
       dsimp only at hf
       rw[Option.some.injEq] at hf
       rw[oK (yV o _)] at he
       have ⟨f1,f2,f3⟩:(T j).v=v∧(T j).rd=.all∧(T j).wr=none:=by rw[← hf];exact ⟨rfl,rfl,rfl⟩
       rw[f2] at under
       have ul:uV (bF (df (hS T H0 fE j) ((Region.before ops).getD j 0) (eU T j))) (hS T H0 S ops.size) :=
        ⟨fun d i=>by rw[ik];exact under.get d i,fun d=>by rw[ff];exact under.next d⟩
       have hle:(bF (df (hS T H0 fE j) ((Region.before ops).getD j 0) (eU T j)))≠[]:=by
        intro e;have h1:=ul.next 0;rw[e] at h1;have h2:∀ X:ab,bF X=[]→X=[]:=fun X hx=>by cases X with
         | nil=>rfl
         | cons _ _=>simp[bF] at hx
        have h3:=h2 _ e;have h4:∀ (bef:Nat) (l:List Rec) (X:ab),(df X bef l).length=X.length:=by
         intro bef l;induction l with
         | nil=>intro X;rfl
         | cons r l ih =>
           intro X;simp only[df];split
           · split
             · exact ih X
             · rw[ih,jX]
           · exact ih X
        have h5:=h4 ((Region.before ops).getD j 0) (eU T j) (hS T H0 fE j);rw[h3,pR] at h5;exact hne (List.length_eq_zero_iff.1 h5.symm)
       refine Gu hFW hN hC he hR' (hE.rel.under ul) hle (fun cv w' hx=>?_)
       rcases hx with ⟨_,st,p',M',hE',hv⟩ | ⟨hx,_⟩
       · obtain ⟨q1,q2⟩:=cC.quiet hE.rel hE' st hv
         exact fin p' M cv w' (by rw[f3];exact q1) (by rw[f1];exact q2) hm'
       · rw[hcv] at hx;cases hx
   · rename_i hcv
     have hcv:fg o=false:=by simpa using hcv
     have key:∀ v δ,evalOp P call (kB nt ops T dV fE j) (df (hS T H0 fE j) ((Region.before ops).getD j 0) (eU T j)) (kh ops n0 j) o=some (v,δ)→(∀ X,δ≠.heap X)→(T j).rd=cQ (kB nt ops T dV fE j) o →
      (∀ cv w',eI p M (hS T H0 S ops.size) (kh ops n0 j) v δ cv w w'→K (a.put o.dst cv) w')→o.wpIn F n P a w K Q:=by
      intro v δ he hδ hrd hnext
      rw[hrd] at under
      have he2:=xS (H':=star (cQ (kB nt ops T dV fE j) o) (df (hS T H0 fE j) ((Region.before ops).getD j 0) (eU T j))) he hδ (fun d=>vT _ _ _)
       (fun d i ht=>by
         rcases zu (cQ (kB nt ops T dV fE j) o) (df (hS T H0 fE j) ((Region.before ops).getD j 0) (eU T j)) d i with ⟨_,h⟩ | ⟨h,_⟩
         · exact h
         · exact absurd ht h)
       (fun ha=>by rw[ha];rfl)
      rw[oK (yV o _)] at he2
      have hlocks:∀ d,aL (star (cQ (kB nt ops T dV fE j) o) (df (hS T H0 fE j) ((Region.before ops).getD j 0) (eU T j))) d=aL (hS T H0 S ops.size) d:=fun d=>by
       rw[vT,kD,jn,jn]
      refine IT hFW he2 hcv hR' (hE.rel.under under) (fun cv w' hx=>hnext cv w' (hx.under under hlocks hδ))
     split at hf
     · rename_i v he
       simp only[Option.some.injEq] at hf
       have ⟨f1,f2,f3⟩:(T j).v=v∧(T j).rd=cQ (kB nt ops T dV fE j) o∧(T j).wr=none:=by rw[← hf];exact ⟨rfl,rfl,rfl⟩
       refine key v _ he (fun X=>by simp) f2 (fun cv w' hD=>?_)
       obtain ⟨p',M',h1,h2,h3⟩:=se hneS hE.rel (δ:=.bA) (v:=v) (cv:=cv) hD
       obtain ⟨e0,h4⟩:=h3 (fun X=>by simp)
       exact fin p' M' cv w' (by rw[f3];exact h1) (by rw[f1];exact h2) (fun k hk hkj hks=>h4 0 _ (hm k hk hks) (hnlt k hk))
     · rename_i v B he
       split at hf
       · rename_i hc
         simp only[Bool.and_eq_true,Bool.not_eq_true'] at hc
         obtain ⟨⟨⟨c1,c2⟩,c3⟩,c4⟩:=hc
         rw[Option.some.injEq] at hf
         have ⟨f1,f2,f3⟩:(T j).v=v∧(T j).rd=cQ (kB nt ops T dV fE j) o∧(T j).wr=some (0,kh ops n0 j,(0,B)):=by rw[← hf];exact ⟨rfl,rfl,rfl⟩
         have hmp:cM ops j=true:=by simp[cM,ho,c1]
         refine key v _ he (fun X=>by simp) f2 (fun cv w' hD=>?_)
         obtain ⟨t,hB,hv,hb,hst⟩:=hD
         have hg3:az (hS T H0 fE j) 0 (kh ops n0 j)=(0,.dead):=by
          unfold ru at c3;split at c3
          · rename_i e;exact e
          · cases c3
         have nowr:∀ m,m<ops.size→S m=true→kX T m 0 (kh ops n0 j)=none:=by
          intro m hm1 hm2;cases hw:kX T m 0 (kh ops n0 j) with
          | none=>rfl
          | some b =>
            exfalso;by_cases e:m=j
            · subst e;rw[hjS] at hm2;cases hm2
            · by_cases e2:m<j
              · rw[(jU hn hF j wO (by rw[hg3]) m e2).1] at hw;cases hw
              · have:=(hS' m hm2).2 j (later hn hF (show j<m by omega) hm1 (by rw[hw];simp) (.inl (by rw[kf.2 f3];simp)));rw[hjS] at this;cases this
         have hgS:∀ m,m≤ops.size→az (hS T H0 S m) 0 (kh ops n0 j)=az H0 0 (kh ops n0 j):=by
          intro m;induction m with
          | zero=>intro _;rfl
          | succ m ih =>
            intro hm1;rw[nJ hn hF S _ _ wO,ih wO];split
            · rename_i hsm;rw[nowr m wO hsm];rfl
            · rfl
         have hg0:az H0 0 (kh ops n0 j)=(0,.dead):=by
          by_cases e:j=0
          · rw[e] at hg3 ⊢;exact hg3
          · have h1:=(jU hn hF j wO (by rw[hg3]) 0 wO).2;have h2:∀ m,m≤j→az (hS T H0 fE m) 0 (kh ops n0 j)=az H0 0 (kh ops n0 j):=by
             intro m;induction m with
             | zero=>intro _;rfl
             | succ m ih =>
               intro hm1;rw[nJ hn hF fE _ _ wO,ih wO,if_pos rfl,(jU hn hF j wO (by rw[hg3]) m wO).1];rfl
            rw[← h2 j (Nat.le_refl _)];exact hg3
         have hfill:=cC.fill hE.rel (by rw[hgS _ (Nat.le_refl _)];exact hg0) (hnlt j hmp) (by rw[jn,← jn T H0 fE 0 j];exact c4) (hm j hmp hjS) hB hb hst
         refine fin p _ cv w' (by rw[f3];exact hfill) (by rw[f1];exact hv) (fun k hk hkj hks u=>?_)
         simp only[br]
         rw[if_neg]
         · exact hm k hk hks u
         · rintro ⟨_,e,_⟩
           rcases Nat.lt_or_ge k j with h1 | h1
           · have:=Bs (n0:=n0) h1 hk;omega
           · have:=Bs (n0:=n0) (show j<k by omega) hmp;omega
       · simp at hf
     · rename_i v d i b he
       split at hf
       · rw[Option.some.injEq] at hf
         have ⟨f1,f2,f3⟩:(T j).v=v∧(T j).rd=cQ (kB nt ops T dV fE j) o∧(T j).wr=some (d,i,b):=by rw[← hf];exact ⟨rfl,rfl,rfl⟩
         refine key v _ he (fun X=>by simp) f2 (fun cv w' hD=>?_)
         obtain ⟨p',M',h1,h2,h3⟩:=se hneS hE.rel (δ:=.set d i b) (v:=v) (cv:=cv) hD
         obtain ⟨e0,h4⟩:=h3 (fun X=>by simp)
         exact fin p' M' cv w' (by rw[f3];exact h1) (by rw[f1];exact h2) (fun k hk hkj hks=>h4 0 _ (hm k hk hks) (hnlt k hk))
       · simp at hf
     · simp at hf

theorem vN (hs:fV ops (Region.before ops)=true) {listed:Array Bool} (hl:listed.size=ops.size) (hr:Region.ready .any ops listed=[]):∀ j,j<ops.size→listed.getD j false=true:=by
 intro j;induction j using Nat.strongRecOn with
 | ind j ih =>
   intro hj;refine Classical.byContradiction fun hno=>?_;have ho:ops[j]?=some ops[j]:=Array.getElem?_eq_getElem hj;have:j ∈ Region.ready .any ops listed:=by
    refine mem_ready.2 ⟨?_,ops[j],ho,fun e he hb=>?_⟩
    · have hjl:j<listed.size:=by omega
      simp only[Array.getD_eq_getD_getElem?,Array.getElem?_eq_getElem hjl,Option.getD_some] at hno ⊢;simpa using hno
    · have hbit:=(rX ho e.on).2 ⟨e,he,hb,.inl rfl⟩;have hlt:=(gn hs ho).1 _ hbit;exact ih _ hlt wO
   rw[hr] at this;cases this

def left (listed:Array Bool):Nat:=(listed.toList.filter (fun b=>!b)).length
theorem yx:∀ (l:List Bool) (j:Nat),l[j]?=some false→((l.set j true).filter (fun b=>!b)).length+1=(l.filter (fun b=>!b)).length
 | [],j,h=>by simp at h
 | b::l,0,h=>by
   simp only[List.getElem?_cons_zero,Option.some.injEq] at h;subst h;simp
 | b::l,j+1,h=>by
   have:=yx l j (by simpa using h);cases b<;>simp at this ⊢<;>omega
theorem vA:∀ (l:List Bool),(l.filter (fun b=>!b)).length=0→∀ j:Nat,l[j]?≠some false
 | [],_,j=>by simp
 | b::l,h,0=>by cases b<;>simp at h ⊢
 | b::l,h,j+1=>by
   have:=vA l (by cases b<;>simp at h ⊢;exact h) j;simpa using this

theorem xQ {F:Fence} (hFW:dJ F) (hN:dG P) (hC:b9 P call) (hs:fV ops (Region.before ops)=true) (hn:n0+cY ops.toList=ao H0 0) (hne:H0≠[]) (hF:Fact P nt call ops (Region.before ops) dV H0 n0 T)
 {p0:aF} {M0:Mu} {w0:World} {ds:List Deferred} {n:Nat} {Q:Exit→Act→World→Prop} (hQ:∀ S a w,(∀ k,k<ops.size→S k=true)→Inv nt ops T dV H0 n0 p0 M0 w0 ds S a w→Q .normal a w) :
 ∀ (fuel:Nat) (listed:Array Bool) (a:Act) (w:World),listed.size=ops.size→left listed≤fuel→pC ops (fun i=>listed.getD i false)→Inv nt ops T dV H0 n0 p0 M0 w0 ds (fun i=>listed.getD i false) a w →
  wpAnyIn F n P .any ops Q fuel listed a w
 | 0, listed,a,w,hl,hc,hS',hI=>by
   have hz:=vA listed.toList (by unfold left at hc;omega);have hr:Region.ready .any ops listed=[]:=by
    cases hr:Region.ready .any ops listed with
    | nil=>rfl
    | cons j l =>
      exfalso;have hj:j ∈ Region.ready .any ops listed:=by rw[hr];simp
      obtain ⟨h0,o,ho,_⟩:=mem_ready.1 hj;have hlt:j<ops.size:=(Array.getElem?_eq_some_iff.1 ho).1;have hjl:j<listed.size:=by omega
      refine hz j ?_;simp only[Array.getD_eq_getD_getElem?,Array.getElem?_eq_getElem hjl,Option.getD_some] at h0;simp[hjl,h0]
   exact ⟨hr,hQ _ a w (vN hs hl hr) hI⟩
 | fuel+1,listed,a,w,hl,hc,hS',hI=>by
   refine ⟨fun hr=>hQ _ a w (vN hs hl hr) hI,fun j hj=>?_⟩;obtain ⟨h0,o,ho,hall⟩:=mem_ready.1 hj;have hlt:j<ops.size:=(Array.getElem?_eq_some_iff.1 ho).1;have hjl:j<listed.size:=by omega
   have hjS:listed.getD j false=false:=by
    simp only[Array.getD_eq_getD_getElem?,Array.getElem?_eq_getElem hjl,Option.getD_some] at h0 ⊢;exact h0
   have hbef:∀ i,((Region.before ops).getD j 0).testBit i=true→listed.getD i false=true:=fun i hi=>by
    obtain ⟨e,he,hb,h | h⟩:=(rX ho i).1 hi
    · rw[h];exact hall e he hb
    · exact (hS' e.on (hall e he hb)).2 i h.2
   have hmore:(fun i=>(listed.setIfInBounds j true).getD i false)=gM (fun i=>listed.getD i false) j:=by
    funext i;unfold gM;by_cases e:i=j
    · subst e;rw[if_pos rfl];simp[Array.getD_eq_getD_getElem?,hjl]
    · rw[if_neg e,getD_set_ne false (fun x=>e x.symm)]
   refine DS hFW hN hC hs hn hne hF hS' ho hjS hbef hI (fun a' w' hI'=>?_);refine xQ hFW hN hC hs hn hne hF hQ fuel (listed.setIfInBounds j true) a' w' (by simpa using hl) ?_ ?_ (by rw[hmore];exact hI')
   · have:=yx listed.toList j (by
      simp only[Array.getD_eq_getD_getElem?,Array.getElem?_eq_getElem hjl,Option.getD_some] at h0;simp[hjl,h0])
     unfold left at hc ⊢;rw[Array.toList_setIfInBounds];omega
   · rw[hmore];intro k hk;by_cases e:k=j
     · subst e;refine ⟨hlt,fun i hi=>?_⟩;unfold gM;split
       · rfl
       · exact hbef i hi
     · have hk':listed.getD k false=true:=by simpa[gM,e] using hk
       refine ⟨(hS' k hk').1,fun i hi=>?_⟩;unfold gM;split
       · rfl
       · exact (hS' k hk').2 i hi
end

theorem pJ {P:Program} (hN:dG P) (hm:P.follows .mixedOrders=true):gb P:=by
 intro cx F hP hC hFW id ops fr H fr' H' hs hr;subst hP;intro n0 p M a w Q hF hH hne hR hM hQ;obtain ⟨T,hT,e1,e2⟩:=MR hr;refine wpIn_region_any hm ?_;have hst:dx (fun _=>True) w { w with drawn:=w.drawn+1 }:=⟨rfl,rfl,rfl,Nat.le_refl _,fun _ _ _=>rfl⟩
 have hP:=cC.pad hH hne (cY ops.toList) hst;have hn:aZ H+cY ops.toList=ao (nH H (cY ops.toList)) 0:=by rw[jY H hne,if_pos rfl]
 have hz:∀ i,(Array.replicate ops.size false).getD i false=false:=fun i=>by
  simp only[Array.getD_eq_getD_getElem?];rcases Nat.lt_or_ge i ops.size with h | h
  · simp[h]
  · simp[Array.getElem?_eq_none,h]
 have hzero:(fun i=>(Array.replicate ops.size false).getD i false)=fun _=>false:=funext hz;have f0:∀ k,kB cx.nt ops T fr (fun _=>false) k=fr:=by
  intro k;induction k with
  | zero=>rfl
  | succ k ih=>simp only[kB,Bool.false_eq_true,if_false];exact ih
 have h0:∀ k,hS T (nH H (cY ops.toList)) (fun _=>false) k=nH H (cY ops.toList):=by
  intro k;induction k with
  | zero=>rfl
  | succ k ih=>simp only[hS,Bool.false_eq_true,if_false];exact ih
 refine xQ hFW hN hC hs hn (hP.ne hne) hT (p0:=p) (M0:=M) (w0:={ w with drawn:=w.drawn+1 }) (ds:=a.defers) (fun S a' w' hall hI=>?_) ops.size _ a _ (by simp) ?_ ?_ ?_
 · obtain ⟨p',M',k1,k2,k3,_⟩:=hI;rw[oU (T':=T) (S':=fE) ops.size (fun k hk=>⟨rfl,hall k hk⟩),e2] at k1;rw[mE (T':=T) (S':=fE) ops.size (fun k hk=>⟨rfl,hall k hk⟩),e1] at k2;have:=hP.trans k1;exact hQ a' w' ⟨p',M',this,k2,by rw[k3];exact hM.xB this⟩
 · unfold left;exact Nat.le_trans (List.length_filter_le _ _) (by simp)
 · rw[hzero];intro k hk;cases hk
 · rw[hzero];refine ⟨p,M,by rw[h0];exact cC.refl hP.rel,by rw[f0];exact hF,rfl,fun k hk _ v=>?_⟩;cases hx:M 0 (kh ops (aZ H) k) v with
   | none=>rfl
   | some u =>
     have:=(hH.dom _ _ _ _ hx).1;have h2:=Md ops (aZ H) k;rw[bm] at this;omega

end Go.Eng
end
