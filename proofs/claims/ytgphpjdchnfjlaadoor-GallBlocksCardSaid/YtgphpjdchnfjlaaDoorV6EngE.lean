/- The engine, part E: equality of runs of integers; maps. -/
import Derived.Test.YtgphpjdchnfjlaaDoorV6EngD
import Derived.ChangeKeysEq
import Derived.Laws.StructEq
set_option linter.unusedVariables false
set_option linter.unusedSimpArgs false
namespace Go.Eng
variable {nx:Nat}

theorem fy:∀ (a b:List Int),eS a b=decide (a=b)
 | [],[]=>rfl
 | [],_::_=>rfl
 | _::_,[]=>rfl
 | x::a,y::b=>by
   simp only[eS,fy a b];by_cases e1:x=y<;>by_cases e2:a=b<;>simp[e1,e2]

def xv (P:Program) (t:TypeId) (k:IntKind) (l:List Int):Value:=if eX P t=some true then .agg (l.map (.int k)).toArray else .int k (l.getD 0 0)

theorem kz {P:Program} {n:Nat} {t:TypeId} {s:Nat} (h:cA P n t=some s):bE P t=some s∧∃ g,eX P t=some g∧(g=false→s=1):=by
 cases n with
 | zero=>simp[cA] at h
 | succ n =>
   simp only[cA] at h;cases hu:P.underlying t with
   | none=>rw[hu] at h;simp at h
   | some d =>
     rw[hu] at h;cases d<;>try (simp at h;done)
     case int k =>
      simp only at h
      split at h
      · rename_i hs
        simp only[Option.some.injEq] at h
        subst h
        exact ⟨hs,false,by simp[eX,hu],fun _=>rfl⟩
      · simp at h
     case array len e =>
      simp only at h
      cases hf:cA P n e with
      | none=>rw[hf] at h;simp at h
      | some q =>
        rw[hf] at h
        simp only at h
        split at h
        · rename_i hs
          simp only[Option.some.injEq] at h
          subst h
          exact ⟨hs,true,by simp[eX,hu],fun e=>by simp at e⟩
        · simp at h
     case struct fs =>
      simp only at h
      split at h
      · simp at h
      · cases hf:fM P (cA P n) 0 fs.toList with
        | none=>rw[hf] at h;simp at h
        | some q =>
          rw[hf] at h
          simp only at h
          split at h
          · rename_i hs
            simp only[Option.some.injEq] at h
            subst h
            exact ⟨hs,true,by simp[eX,hu],fun e=>by simp at e⟩
          · simp at h

theorem iD {P:Program} {n:Nat} {e:TypeId} {s off:Nat} {k:IntKind} {xs:List Int} (h:cA P n e=some s) (hl:off+s≤xs.length) (w:World) :
 (part e (xs.map (Value.int k)).toArray off).run P w=.ok (xv P e k ((xs.drop off).take s)) w:=by
 obtain ⟨hs,g,hg,h1⟩:=kz h
 unfold part xv
 cases g with
 | true =>
   simp only[Sem.run_bind,eN hg,Result.andThen,if_true,aN hs,Sem.run_pure,hg]
   congr 2
   apply Array.ext'
   simp[List.map_take,List.map_drop]
 | false =>
   have:=h1 rfl
   subst this
   have hlt:off<xs.length:=by omega
   simp[Sem.run_bind,eN hg,Result.andThen,hg,hlt,List.getElem?_eq_getElem hlt]

theorem kx (xs:List Int) (off s:Nat):xs.drop off=(xs.drop off).take s++xs.drop (off+s):=by
 rw[← List.drop_drop,List.take_append_drop]

theorem nh {P:Program} {n d:Nat} {k:IntKind} (ih:∀ (t:TypeId) (s:Nat),cA P n t=some s→∀ (xs ys:List Int),xs.length=s→ys.length=s→∀ w,(Op.equalIn d t (xv P t k xs) (xv P t k ys)).run P w=.ok (eS xs ys) w) :
 ∀ (fs:List Field) (off total:Nat) (xs ys:List Int),fM P (cA P n) off fs=some total→xs.length=total→ys.length=total→off≤total ∧
  ∀ w,(Op.eqFields d (xs.map (Value.int k)).toArray (ys.map (Value.int k)).toArray fs).run P w=.ok (decide (xs.drop off=ys.drop off)) w
 | [],off,total,xs,ys,h,hx,hy=>by
   simp only[fM,Option.some.injEq] at h;subst h;refine ⟨Nat.le_refl _,fun w=>?_⟩;simp only[Op.eqFields,Sem.run_pure];rw[List.drop_eq_nil_of_le wO,List.drop_eq_nil_of_le wO];simp
 | f :: fs,off,total,xs,ys,h,hx,hy=>by
   simp only[fM] at h;split at h
   · rename_i hf;simp only[Bool.and_eq_true,bne_iff_ne,ne_eq,Nat.beq_eq] at hf;obtain ⟨hne,hoff⟩:=hf;cases hs:cA P n f.type with
     | none=>rw[hs] at h;simp at h
     | some s =>
       rw[hs] at h;simp only at h;obtain ⟨hle,hrun⟩:=nh ih fs (off+s) total xs ys h hx hy;refine ⟨by omega,fun w=>?_⟩;have hlx:((xs.drop off).take s).length=s:=by simp;omega
       have hly:((ys.drop off).take s).length=s:=by simp;omega
       simp only[Op.eqFields,hne,ne_eq,not_false_eq_true,if_true,Sem.run_bind,hoff,iD hs (show off+s≤xs.length by omega),iD hs (show off+s≤ys.length by omega),Result.andThen,
        ih f.type s hs _ _ hlx hly,fy]
       by_cases e:(xs.drop off).take s=(ys.drop off).take s
       · simp only[e,decide_true,Bool.not_true,Bool.false_eq_true,if_false,hrun];congr 2;rw[kx xs off s,kx ys off s,e];simp
       · simp only[e,decide_false,Bool.not_false,if_true,Sem.run_pure];congr 1;symm;rw[decide_eq_false_iff_not];intro e2;exact e (by rw[e2])
   · simp at h

theorem oJ {P:Program} {n d:Nat} {k:IntKind} {e:TypeId} {s:Nat} (hs:cA P n e=some s) (ih:∀ (t:TypeId) (s:Nat),cA P n t=some s→∀ (xs ys:List Int),xs.length=s→ys.length=s→∀ w,(Op.equalIn d t (xv P t k xs) (xv P t k ys)).run P w=.ok (eS xs ys) w) :
 ∀ (m i:Nat) (xs ys:List Int),xs.length=(i+m)*s→ys.length=(i+m)*s →
  ∀ w,(Op.eqItems d e s (xs.map (Value.int k)).toArray (ys.map (Value.int k)).toArray (List.range' i m)).run P w=.ok (decide (xs.drop (i*s)=ys.drop (i*s))) w
 | 0,i,xs,ys,hx,hy,w=>by
   simp only[List.range'_zero,Op.eqItems,Sem.run_pure];rw[List.drop_eq_nil_of_le (by simp at hx;omega),List.drop_eq_nil_of_le (by simp at hy;omega)];simp
 | m + 1,i,xs,ys,hx,hy,w=>by
   have hrun:=oJ hs ih m (i+1) xs ys (by rw[hx];congr 1;omega) (by rw[hy];congr 1;omega);have hmul:(i+(m+1))*s=i*s+s+m*s:=by rw[Nat.add_mul,Nat.add_mul];omega
   have hlx:((xs.drop (i*s)).take s).length=s:=by simp;omega
   have hly:((ys.drop (i*s)).take s).length=s:=by simp;omega
   simp only[List.range'_succ,Op.eqItems,Sem.run_bind,iD hs (show i*s+s≤xs.length by omega),iD hs (show i*s+s≤ys.length by omega),Result.andThen,ih e s hs _ _ hlx hly,fy];have hi:(i+1)*s=i*s+s:=by rw[Nat.add_mul];omega
   rw[hi] at hrun;by_cases e1:(xs.drop (i*s)).take s=(ys.drop (i*s)).take s
   · simp only[e1,decide_true,Bool.not_true,Bool.false_eq_true,if_false,hrun];congr 2;rw[kx xs (i*s) s,kx ys (i*s) s,e1];simp
   · simp only[e1,decide_false,Bool.not_false,if_true,Sem.run_pure];congr 1;symm;rw[decide_eq_false_iff_not];intro e2;exact e1 (by rw[e2])

theorem rl {P:Program} {k:IntKind}:∀ (n:Nat) (t:TypeId) (s:Nat),cA P n t=some s→∀ d,n≤d→∀ (xs ys:List Int),xs.length=s→ys.length=s→∀ w,
 (Op.equalIn d t (xv P t k xs) (xv P t k ys)).run P w=.ok (eS xs ys) w
 | 0,t,s,h=>by simp[cA] at h
 | n + 1, t,s,h=>by
   intro d hd xs ys hx hy w;obtain ⟨d,rfl⟩:∃ q,d=q+1:=⟨d-1,by omega⟩
   have hsz:=kz h;have ih:=fun t s h=>rl (P:=P) (k:=k) n t s h d wO;simp only[cA] at h;cases hu:P.underlying t with
   | none=>rw[hu] at h;simp at h
   | some dd =>
     rw[hu] at h;cases dd<;>try (simp at h;done)
     case int k' =>
      have hag:eX P t=some false:=by simp[eX,hu]
      simp only at h
      split at h
      · simp only[Option.some.injEq] at h
        subst h
        simp only[xv,hag,Option.some.injEq,Bool.false_eq_true,if_false]
        rw[run_equalIn_int w d t k k' _ _ hu]
        obtain ⟨x,rfl⟩:∃ x,xs=[x]:=List.length_eq_one_iff.1 hx
        obtain ⟨y,rfl⟩:∃ y,ys=[y]:=List.length_eq_one_iff.1 hy
        simp[eS]
      · simp at h
     case array len e =>
      have hag:eX P t=some true:=by simp[eX,hu]
      simp only at h
      cases hf:cA P n e with
      | none=>rw[hf] at h;simp at h
      | some q =>
        rw[hf] at h
        simp only at h
        split at h
        · simp only[Option.some.injEq] at h
          subst h
          simp only[xv,hag,if_true]
          have hse:=(kz hf).1
          cases hi:P.info? e with
          | none=>simp[bE,hi] at hse
          | some inf =>
            have hq:inf.size=q:=by simpa[bE,hi] using hse
            rw[run_equalIn_array w d _ _ hu hi]
            have hce:P.cellsOf e=q:=by simp[Program.cellsOf,hi,hq]
            rw[hce,List.range_eq_range',oJ hf ih len 0 xs ys (by simpa using hx) (by simpa using hy) w,fy]
            simp
        · simp at h
     case struct fs =>
      have hag:eX P t=some true:=by simp[eX,hu]
      simp only at h
      split at h
      · simp at h
      · rename_i hst
        cases hf:fM P (cA P n) 0 fs.toList with
        | none=>rw[hf] at h;simp at h
        | some q =>
          rw[hf] at h
          simp only at h
          split at h
          · simp only[Option.some.injEq] at h
            subst h
            simp only[xv,hag,if_true]
            have hfo:P.fieldsOf t=fs:=by simp[Program.fieldsOf,hu]
            rw[run_equalIn_struct w d t _ _ (by rw[hfo];exact hu) (by simpa using hst),hfo,(nh ih fs.toList 0 _ xs ys hf hx hy).2 w,fy]
            simp
          · simp at h

theorem ye {P:Program} {n d:Nat} (ih:∀ (t:TypeId) (s:Nat),cA P n t=some s→P.eqGuardType d t=false):∀ (fs:List Field) (off total:Nat),fM P (cA P n) off fs=some total→fs.any (fun f=>f.name != "_" && P.eqGuardType d f.type)=false
 | [],_,_,_=>rfl
 | f :: fs,off,total,h=>by
   simp only[fM] at h;split at h
   · cases hs:cA P n f.type with
     | none=>rw[hs] at h;simp at h
     | some s =>
       rw[hs] at h;simp only at h;rw[List.any_cons,ye ih fs _ _ h,ih _ _ hs];simp
   · simp at h
theorem nF {P:Program}:∀ (n:Nat) (t:TypeId) (s:Nat),cA P n t=some s→∀ d,n≤d→P.eqGuardType d t=false
 | 0,t,s,h=>by simp[cA] at h
 | n + 1, t,s,h=>by
   intro d hd;obtain ⟨d,rfl⟩:∃ q,d=q+1:=⟨d-1,by omega⟩
   have ih:=fun t s h=>nF (P:=P) n t s h d wO;simp only[cA] at h;cases hu:P.underlying t with
   | none=>rw[hu] at h;simp at h
   | some dd =>
     rw[hu] at h;unfold Program.eqGuardType;rw[hu];cases dd<;>try (simp at h;done)
     case int=>rfl
     case array len e =>
      simp only at h ⊢
      cases hf:cA P n e with
      | none=>rw[hf] at h;simp at h
      | some q=>exact ih e q hf
     case struct fs =>
      simp only at h ⊢
      split at h
      · simp at h
      · cases hf:fM P (cA P n) 0 fs.toList with
        | none=>rw[hf] at h;simp at h
        | some q =>
          have:=ye ih fs.toList 0 q hf
          simpa using this

theorem jP {p:aF} {M:Mu} {k:IntKind} {l:List Int} {c:Value} (h:al p M (.agg (.I k l)) c):c=.agg (l.map (Value.int k)).toArray:=by
 cases h with
 | agg hs h1 hv =>
   rename_i cs;congr 1;apply Array.ext
   · simp[hs,Row.len]
   · intro i h1 h2;have hi:i<l.length:=by simpa using h2
     have:=(hv i (by simpa[Row.len] using hi)).ofInt;simp[hi] at this ⊢;simpa[h1] using this

theorem xH (z z':Nat→Int):∀ n,allEq z z' n=((List.range n).map z == (List.range n).map z')
 | 0=>rfl
 | n + 1=>by
   rw[allEq,xH z z' n,List.range_succ,List.map_append,List.map_append];rw[Bool.eq_iff_iff];simp only[Bool.and_eq_true,beq_iff_eq,List.map_cons,List.map_nil];constructor
   · rintro ⟨h1,h2⟩;rw[h1,h2]
   · intro h;have hl:((List.range n).map z).length=((List.range n).map z').length:=by simp
     obtain ⟨h1,h2⟩:=List.append_inj h hl;exact ⟨h1,by simpa using h2⟩
theorem BY {p:aF} {M:Mu} {r:Row} {k:IntKind} {z:Nat→Int} {c:Value} (hi:r.ints=some (k,z)) (h:al p M (.agg r) c):al p M (.agg (.I k ((List.range r.len).map z))) c:=by
 cases h with
 | agg hs h1 hv =>
   refine .agg (by simpa[Row.len] using hs) (fun j hj=>h1 j (by simpa[Row.len] using hj)) (fun j hj=>?_);have hj':j<r.len:=by simpa[Row.len] using hj
   have:=hv j hj';rw[Row.pW hi j hj'] at this;have e:Row.get (.I k ((List.range r.len).map z)) j=.int k (z j):=by simp[Row.get,hj']
   rw[e];exact this.bp _ _
theorem Ck {P:Program} {t:TypeId} {x y:AV} {r:Bool} (h:Ax P t x y=some r) {p:aF} {M:Mu} {cx cy:Value} (hx:al p M x cx) (hy:al p M y cy) (op:BinOp) (ox oy:Operand) (w:World) :
 (Op.equal t cx cy).run P w=.ok r w∧(eqGuard op t ox oy cx cy).run P w=.ok () w:=by
 have noguard:∀ a b,(∀ u v,¬ (a=Value.agg u∧b=Value.agg v))→¬ (a=.nilIface∧b=.nilIface)→(eqGuard op t ox oy a b).run P w=.ok () w:=by
  intro a b h1 h2;cases a<;>cases b<;>first | exact (h1 _ _ ⟨rfl,rfl⟩).elim | exact (h2 ⟨rfl,rfl⟩).elim | (cases op<;>rfl)
 have heq:∀ a b,Op.equal t a b=Op.equalIn (9999+1) t a b:=fun _ _=>rfl
 have rows:∀ a b:Row,M8 P t a b=some r→al p M (.agg a) cx→al p M (.agg b) cy→(Op.equal t cx cy).run P w=.ok r w∧(eqGuard op t ox oy cx cy).run P w=.ok () w:=by
  intro a b h hx hy;unfold M8 at h;split at h
  · rename_i k z k' z' ha hb;split at h
    · rename_i hc;obtain ⟨rfl,hf,hag,hlen⟩:=hc;simp only[Option.some.injEq] at h;subst h;have e1:=jP (BY ha hx);have e2:=jP (BY hb hy);subst e1;subst e2;have:=rl (P:=P) (k:=k) 20 t a.len hf 10000 wO ((List.range a.len).map z) ((List.range b.len).map z') (by simp) (by simp[hlen]) w;simp only[xv,hag,if_true] at this;rw[fy] at this;rw[xH,show ((List.range a.len).map z == (List.range a.len).map z')=decide ((List.range a.len).map z=(List.range a.len).map z') from by rw[Bool.eq_iff_iff];simp];refine ⟨by rw[heq];rw[← hlen] at this ⊢;exact this,?_⟩;have hg:=nF 20 t _ hf P.depth (by unfold Program.depth Made.depth;omega);cases op<;>first | rfl | simp[eqGuard,Sem.run_bind,Result.andThen,hg]
    · simp at h
  · simp at h
 unfold Ax at h
 split at h
 ·
   cases hx;cases hy
   split at h
   · rename_i hu
     simp only[Option.some.injEq] at h
     subst h
     exact ⟨run_equalIn_bool w 9999 t _ _ hu,noguard _ _ (by simp) (by simp)⟩
   · simp at h
 case h_12 =>
  rename_i k a k' b
  split at h
  · rename_i hc
    obtain ⟨rfl,hf,hag,hlen⟩:=hc
    simp only[Option.some.injEq] at h
    subst h
    have e1:=jP hx
    have e2:=jP hy
    subst e1;subst e2
    have:=rl (P:=P) (k:=k) 20 t a.length hf 10000 wO a b rfl hlen.symm w
    simp only[xv,hag,if_true] at this
    refine ⟨this,?_⟩
    have hg:=nF 20 t _ hf P.depth (by unfold Program.depth Made.depth;omega)
    cases op<;>first | rfl | simp[eqGuard,Sem.run_bind,Result.andThen,hg]
  · simp at h
 case h_13=>exact rows _ _ h hx hy
 case h_14=>exact rows _ _ h hx hy
 case h_15=>simp at h
 case h_3 =>
  split at h
  · rename_i hu
    dsimp only at h
    split at h
    · simp only[Option.some.injEq] at h
      subst h
      cases hx<;>cases hy<;>first | omega | exact ⟨by rw[heq,Op.equalIn];simp[Sem.run_bind,run_underlying hu,Result.andThen],noguard _ _ (by simp) (by simp)⟩
    · simp at h
  · simp at h
 case h_5 =>
  split at h
  · rename_i hu
    dsimp only at h
    split at h
    · simp only[Option.some.injEq] at h
      subst h
      cases hx<;>cases hy<;>first | omega | exact ⟨by rw[heq,Op.equalIn];simp[Sem.run_bind,run_underlying hu,Result.andThen],noguard _ _ (by simp) (by simp)⟩
    · simp at h
  · simp at h
 all_goals
  split at h
  · rename_i hu
    simp only[Option.some.injEq] at h
    subst h
    cases hx<;>cases hy<;>exact ⟨by rw[heq,Op.equalIn];simp[Sem.run_bind,run_underlying hu,Result.andThen],noguard _ _ (by simp) (by simp)⟩
  · simp at h

theorem Fc {P:Program} {op:BinOp} {t:TypeId} {x y v:AV} (h:jQ P op t x y=some v) {p:aF} {M:Mu} {cx cy:Value} (hx:al p M x cx) (hy:al p M y cy) (ox oy:Operand) (w:World) :
 ∃ c,(do eqGuard op t ox oy cx cy;binOp op t cx cy:Sem Value).run P w=.ok c w∧al p M v c:=by
 unfold jQ at h
 split at h
 · cases hx;cases hy
   split at h
   · simp at h
   · rename_i hb
     simp only[Option.some.injEq] at h
     subst h
     exact ⟨_,by simp[eqGuard_at_int,binOp,Op.shift,hb],.int _ _⟩
 · cases hx;cases hy
   split at h
   · simp at h
   · rename_i hb
     simp only[Option.some.injEq] at h
     subst h
     exact ⟨_,by simp[eqGuard_at_int,binOp,Op.shift,hb],.int _ _⟩
 · rename_i h1 h2
   cases hx;cases hy
   split at h
   · rename_i k a k' b hk
     subst hk
     obtain ⟨c,k1,k2⟩:=Bf (P:=P) h (fun e=>h1 e) (fun e=>h2 e) p M t w
     exact ⟨c,by simp[eqGuard_at_int,k1],k2⟩
   · simp at h
 · obtain ⟨r,hr,rfl⟩:=Option.map_eq_some_iff.1 h
   obtain ⟨e1,e2⟩:=Ck hr hx hy .eql ox oy w
   refine ⟨.bool r,?_,.bool _⟩
   simp only[Sem.run_bind,e2,Result.andThen]
   rename_i h3 _
   cases hx<;>cases hy<;>simp[binOp,Sem.run_bind,e1,Result.andThen]<;>simp[Ax] at hr
 · obtain ⟨r,hr,rfl⟩:=Option.map_eq_some_iff.1 h
   obtain ⟨e1,e2⟩:=Ck hr hx hy .neq ox oy w
   refine ⟨.bool (!r),?_,.bool _⟩
   simp only[Sem.run_bind,e2,Result.andThen]
   cases hx<;>cases hy<;>simp[binOp,Sem.run_bind,e1,Result.andThen]<;>simp[Ax] at hr
 · simp at h

end Go.Eng
