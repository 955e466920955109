/- The engine: rounds of loops over maps, as trees. -/
import Derived.Test.YtigmfpmabgekoaaGreatV6EngRnFx3
import Derived.Test.YtigmfpmabgekoaaGreatV6EngTfx2
set_option linter.unusedVariables false
set_option linter.unusedSimpArgs false
namespace Go.Eng

def Ig (b:Bool) (v:AV):Bool :=
 match v with
 | .bool c=>cond b c (cond c false true)
 | _=>false
theorem AJ (b:Bool) (v:AV):Ig b v=JE b v:=by
 cases v with
 | bool c=>cases b<;>cases c<;>rfl
 | _=>rfl
noncomputable def a8.nz (L:a8) (cx:Cx) (callR:bz) (bl:gz) (rg:rz) (k n:Nat) (kv:AV×AV) (fr:aK) (H:aa):Tr (aK×aa) :=
 (ib cx.P cx.nt cx.call callR L.ops1 L.t1 (qC cx.nt fr (some L.nx) (.tup [.bool true,kv.1,kv.2],none)) H).bind fun x =>
   cond (Ig true (kX x.1 L.mo).1) (cond (kA k (kX x.1 L.it).1)
    ((ib cx.P cx.nt cx.call callR L.ops2 L.t2 (qC cx.nt x.1 (some L.en) (.tup [kv.1,kv.2],none)) x.2).bind fun y =>
      (aP cx callR bl rg L.rest y.1 y.2).bind fun z=>match z with
        | (.normal,fr,H)=>cond (kA k (kX (gf fr L.km) L.it).1) (.ok (gf fr L.km,kU n (strip (gf fr L.km)) H)) .bad
        | _=>.bad) .bad) .bad
theorem a8.Ck {L:a8} {cx:Cx} {callR:bz} {bl:gz} {rg:rz} (hC:callR.Ok cx.call) (hB:bl.Ok cx L.rest) (hR:rg.Ok cx L.rest) {k n:Nat} {kv:AV×AV} {fr:aK} {H:aa} {y:aK×aa} (h:(L.nz cx callR bl rg k n kv fr H).run=some y) :
 L.round cx k n kv (strip fr) H=some (strip y.1,y.2):=by
 unfold a8.nz at h
 obtain ⟨x,h1,h⟩:=Tr.bind_some h
 obtain ⟨b1,h⟩:=Tr.aM h
 obtain ⟨b2,h⟩:=Tr.aM h
 obtain ⟨z,h2,h⟩:=Tr.bind_some h
 obtain ⟨u,h3,h⟩:=Tr.bind_some h
 have h1:=fi hC _ _ _ _ h1
 have h2:=fi hC _ _ _ _ h2
 have h3:=lC hC L.rest hB hR _ _ _ h3
 rw[lY] at h1 h2
 rw[AJ,eV] at b1
 rw[eV] at b2
 unfold a8.round
 rw[bU,h1]
 dsimp only
 rw[b1,b2,Bool.and_self,if_pos rfl,bU,h2]
 dsimp only
 rw[dj,h3]
 obtain ⟨e,f,G⟩:=u
 cases e with
 | normal =>
   dsimp only at h
   obtain ⟨b3,h⟩:=Tr.aM h
   rw[eV,eE] at b3
   show (if kA k (bh (bF (strip f) L.km) L.it) then _ else none)=_
   rw[if_pos b3,← Tr.ab h,eE]
 | _=>exact (Tr.ae h).elim
noncomputable def a8.xG (L:a8) (cx:Cx) (callR:bz) (fr:aK) (H:aa):Tr (aK×aa) :=
 (ib cx.P cx.nt cx.call callR L.ops1 L.t1 (qC cx.nt fr (some L.nx) (.tup [.bool false],none)) H).bind fun x=>cond (Ig false (kX x.1 L.mo).1) (.ok x) .bad
theorem a8.DB {L:a8} {cx:Cx} {callR:bz} (hC:callR.Ok cx.call) {fr:aK} {H:aa} {y:aK×aa} (h:(L.xG cx callR fr H).run=some y):L.last cx (strip fr) H=some (strip y.1,y.2):=by
 unfold a8.xG at h
 obtain ⟨x,h1,h⟩:=Tr.bind_some h
 obtain ⟨b1,h⟩:=Tr.aM h
 have h1:=fi hC _ _ _ _ h1
 rw[lY] at h1
 rw[AJ,eV] at b1
 unfold a8.last
 rw[bU,h1]
 dsimp only
 rw[if_pos b1,← Tr.ab h]
noncomputable def bx.zK (S:bx) (cx:Cx) (callR:bz) (fr:aK) (H:aa):Tr (aK×aa):=ib cx.P cx.nt cx.call callR S.ops0 S.pre fr H
theorem bx.rk {S:bx} {cx:Cx} {callR:bz} (hC:callR.Ok cx.call) {fr:aK} {H:aa} {y:aK×aa} (h:(S.zK cx callR fr H).run=some y):cA cx.P cx.nt cx.call S.ops0 S.pre (strip fr) H=some (strip y.1,y.2):=by
 rw[bU]
 exact fi hC _ _ _ _ h
end Go.Eng
