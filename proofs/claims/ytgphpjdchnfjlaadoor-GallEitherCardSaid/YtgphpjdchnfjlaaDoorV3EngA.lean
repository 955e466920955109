/- The engine, part A: abstract values, the abstract heap, the abstract interpreter. No statement is proved here. -/
import Derived.RangeFuncLeaves
import Derived.Test.YtgphpjdchnfjlaaDoorV3EngGl
import Derived.OrdersIn
import Derived.RangeFuncRecord
namespace Go.Eng
theorem nP:(∀ {α:Type} (a b:α),(some a=some b)=(a=b))∧(∀ {α β:Type} (a c:α) (b d:β),((a,b)=(c,d))=(a=c∧b=d)):=⟨fun _ _=>Option.some.injEq _ _,fun _ _ _ _=>Prod.mk.injEq _ _ _ _⟩

mutual
inductive AV where
 | undef
 | bool (b:Bool)
 | int (k:IntKind) (n:Int)
 | str (s:ByteArray)
 | nilp | nils | nilm | nilf
 | ptr (d i v off:Nat)
 | ptrT (s:Option Nat) (r:Row) (off:Nat)
 | slc (d i v off sz len:Nat) (cap:Option Nat)
 | slcT (s:Option Nat) (r:Row) (sz len:Nat) (full:Bool)
 | map (d i:Nat)
 | yld (d i:Nat)
 | fn (f:Fn) (first cap:List AV)
 | agg (r:Row)
 | tup (l:List AV)
inductive Row where
 | I (k:IntKind) (l:List Int)
 | G (l:List AV)
 | F (f:Nat→AV) (n:Nat)
 | M (l:List df)
inductive df where
 | one (v:AV)
 | arr (k:IntKind) (z:Nat→Int) (n:Nat)
end

instance:Inhabited AV:=⟨.undef⟩
instance:Inhabited Row:=⟨.G []⟩

def aU:df→Nat
 | .one _=>1
 | .arr _ _ n=>n
def aC:List df→Nat
 | []=>0
 | s::r=>aU s+aC r
def getM:List df→Nat→AV
 | [],_=>.undef
 | .one v::_,0=>v
 | .one _::r,j+1=>getM r j
 | .arr k z n::r,j=>if j<n then .int k (z j) else getM r (j-n)
def mapM' (f:AV→AV):List df→List df
 | []=>[]
 | .one v::r=>.one (f v)::mapM' f r
 | .arr k z n::r=>.arr k z n::mapM' f r
def fT:List df→Bool
 | []=>true
 | .one _::_=>false
 | .arr _ _ _::r=>fT r
def Row.len:Row→Nat
 | .I _ l=>l.length
 | .G l=>l.length
 | .F _ n=>n
 | .M l=>aC l
def Row.get:Row→Nat→AV
 | .I k l,j=>.int k (l.getD j 0)
 | .G l,j=>l.getD j .undef
 | .F f _,j=>f j
 | .M l,j=>getM l j

def dL (g:Nat→AV):Nat→Nat→List AV
 | _,0=>[]
 | o,n+1=>g o::dL g (o+1) n
def Row.toList:Row→List AV
 | .I k l=>l.map (.int k)
 | .G l=>l
 | .F f n=>dL f 0 n
 | .M l=>dL (getM l) 0 (aC l)
def Row.ints:Row→Option (IntKind×(Nat→Int))
 | .I k l=>some (k,fun j=>l.getD j 0)
 | .M [.arr k z _]=>some (k,z)
 | _=>none
def yP:Row→Bool
 | .M _=>true
 | _=>false
def qK:List AV→List df→List df
 | [],r=>r
 | v::l,r=>.one v::qK l r
def j4:List df→Nat→AV→List df
 | [],_,_=>[]
 | .one _::r,0,v=>.one v::r
 | .one u::r,j+1,v=>.one u::j4 r j v
 | .arr k z n::r,j,v=>if j<n then (match v with
    | .int k' x=>if k'=k then .arr k (fun i=>if i=j then x else z i) n::r else qK (dL (fun i=>if i=j then v else .int k (z i)) 0 n) r
    | _=>qK (dL (fun i=>if i=j then v else .int k (z i)) 0 n) r)
   else .arr k z n::j4 r (j-n) v
def yc:List Int→Bool
 | []=>true
 | x::l=>x == 0 && yc l
def QA (l:List Int):Nat→Int:=if yc l then fun _=>0 else fun j=>l.getD j 0
def dm (k:IntKind):List AV→List Int×List AV
 | .int k' n::r=>if k'=k then (match dm k r with | (a,b)=>(n::a,b)) else ([],.int k' n::r)
 | l=>([],l)
def iA:Nat→List AV→List df
 | 0,l=>qK l []
 | _,[]=>[]
 | f+1,.int k n::r=>match dm k r with
   | (a,b)=>if Nat.ble 7 a.length then .arr k (QA (n::a)) (a.length+1)::iA f b else .one (.int k n)::iA f r
 | f+1,v::r=>.one v::iA f r

def s6 (k:IntKind):List AV→Option (List Int)
 | []=>some []
 | .int k' n::r=>if k'=k then (s6 k r).map (n::·) else none
 | _=>none
def Row.ofList:List AV→Row
 | .int k n::r=>match s6 k r with
   | some l=>.I k (n::l)
   | none=>.G (.int k n::r)
 | l=>.G l

def lG:List df→Nat→Nat→Option (IntKind×(Nat→Int))
 | [],_,_=>none
 | .one _::r,o+1,n=>lG r o n
 | .one _::_,0,_=>none
 | .arr k z m::r,o,n=>if o+n≤m then some (k,fun j=>z (o+j)) else if m≤o then lG r (o-m) n else none
def Row.sub (r:Row) (o n:Nat):Row :=
 match r with
 | .I k l=>.I k ((l.drop o).take n)
 | .G l=>.G ((l.drop o).take n)
 | .F f _=>.F (fun j=>f (o+j)) n
 | .M [.arr k z _]=>.M [.arr k (fun j=>z (o+j)) n]
 | .M l=>if Nat.beq o 0 && Nat.beq (aC l) n then .M l else match lG l o n with
   | some (k,z)=>.M [.arr k z n]
   | none=>.G (dL (getM l) o n)

def ib:AV→Bool
 | .undef | .bool _ | .int _ _ | .str _ | .nilp | .nils | .nilm | .nilf=>true
 | .ptrT s _ _=>s.isNone
 | .slcT s _ _ _ _=>s.isNone
 | .agg (.I ..) | .agg (.F ..)=>true
 | .agg (.M l)=>fT l
 | _=>false

def Row.cut (r:Row) (o n:Nat):Row :=
 match r with
 | .G l=>Row.ofList ((l.drop o).take n)
 | .M l=>if Nat.ble n 8 then Row.ofList (dL (getM l) o n) else if Nat.beq o 0 && Nat.beq (aC l) n then .M l else (Row.M l).sub o n
 | r=>r.sub o n

def Row.set (r:Row) (j:Nat) (v:AV):Row :=
 match r,v with
 | .I k l,.int k' n=>if k'=k then .I k (l.set j n) else .G ((l.map (.int k)).set j v)
 | .I k l,v=>.G ((l.map (.int k)).set j v)
 | .G l,v=>.G (l.set j v)
 | .F f n,v=>.F (fun i=>if i=j then (if ib v then v else .undef) else f i) n
 | .M l,v=>.M (j4 l j v)
def Row.cP (r:Row) (j:Nat):List AV→Row
 | []=>r
 | v::l=>(r.set j v).cP (j+1) l
def Row.uM (r s:Row):Option Row :=
 match r.ints,s.ints with
 | some (k,z),some (k',z')=>if k'=k then some (.M [.arr k (fun i=>if i<r.len then z i else z' (i-r.len)) (r.len+s.len)]) else none
 | _,_=>none
def jJ:AV→AV
 | .slcT none (.I k l) sz m _=>.slcT none (.M [.arr k (fun j=>l.getD j 0) l.length]) sz m false
 | .slcT none (.M [.arr k z n]) sz m _=>.slcT none (.M [.arr k z n]) sz m false
 | v=>v
def rk (n i:Nat):Nat:=if Nat.beq n 1 then 0 else i
def Row.app (r s:Row):Row :=
 match r,s with
 | .M l,s=>(match (Row.M l).uM s with | some q=>q | none=>.G ((Row.M l).toList++s.toList))
 | .I k l,.M m=>(match (Row.I k l).uM (.M m) with | some q=>q | none=>.G ((Row.I k l).toList++(Row.M m).toList))
 | .I k l,.I k' l'=>if k'=k then .I k (l++l') else .G (l.map (.int k)++l'.map (.int k'))
 | .F f n,s=>.F (fun i=>if Nat.blt i n then f i else if ib (s.get (rk s.len (i-n))) then jJ (s.get (rk s.len (i-n))) else .undef) (n+s.len)
 | r,s=>.G (r.toList++s.toList)

def oR (k:Nat):AV→AV
 | .ptr d i v off=>.ptr (d+k) i v off
 | .ptrT s r off=>.ptrT (s.map (· + k)) r off
 | .slc d i v off sz len cap=>.slc (d+k) i v off sz len cap
 | .slcT s r sz len full=>.slcT (s.map (· + k)) r sz len full
 | .map d i=>.map (d+k) i
 | .yld d i=>.yld (d+k) i
 | .agg (.I a l)=>.agg (.I a l)
 | .fn _ _ _ | .agg _ | .tup (_::_)=>.undef
 | v=>v
def Qk (k:Nat) (v:AV):AV :=
 match v with
 | .fn f a b=>.fn f (a.map (oR k)) (b.map (oR k))
 | .agg (.G l)=>.agg (.G (l.map (oR k)))
 | .agg (.M l)=>.agg (.M (mapM' (oR k) l))
 | .agg r=>.agg r
 | v=>oR k v
def mU (k:Nat) (v:AV):AV :=
 match k with
 | 0=>v
 | k+1=>Qk (k+1) v
def Ck (k:Nat):Row→Row
 | .I a l=>.I a l
 | .G l=>.G (l.map (oR k))
 | .F f n=>.F f n
 | .M l=>.M (mapM' (oR k) l)
def Cj (k:Nat) (r:Row):Row :=
 match k with
 | 0=>r
 | k+1=>Ck (k+1) r
def kN:Nat→Nat→AV→AV
 | 0,_,_=>.undef
 | n + 1,k,v=>match v with
   | .ptr d i v off=>if Nat.blt d k then .undef else .ptr (d-k) i v off
   | .ptrT none r off=>.ptrT none r off
   | .ptrT (some s) r off=>if Nat.blt s k then (match r with
     | .G l=>.ptrT (some 0) (.G (l.map (kN n (k-s)))) off
     | .M l=>if fT l then .ptrT none (.M l) off else .ptrT (some 0) (.M (mapM' (kN n (k-s)) l)) off
     | r=>.ptrT none r off) else .ptrT (some (s-k)) r off
   | .slc d i v off sz len cap=>if Nat.blt d k then .undef else .slc (d-k) i v off sz len cap
   | .slcT none r sz len full=>.slcT none r sz len full
   | .slcT (some s) r sz len full=>if Nat.blt s k then (match r with
     | .G l=>.slcT (some 0) (.G (l.map (kN n (k-s)))) sz len full
     | .M l=>if fT l then .slcT none (.M l) sz len full else .slcT (some 0) (.M (mapM' (kN n (k-s)) l)) sz len full
     | r=>.slcT none r sz len full) else .slcT (some (s-k)) r sz len full
   | .map d i=>if Nat.blt d k then .undef else .map (d-k) i
   | .yld d i=>if Nat.blt d k then .undef else .yld (d-k) i
   | .agg (.I a l)=>.agg (.I a l)
   | .fn _ _ _ | .agg _ | .tup (_::_)=>.undef
   | v=>v
def Ol (k:Nat) (v:AV):AV :=
 match v with
 | .fn f a b=>.fn f (a.map (kN 4 k)) (b.map (kN 4 k))
 | .agg (.G l)=>.agg (.G (l.map (kN 4 k)))
 | .agg (.M l)=>.agg (.M (mapM' (kN 4 k) l))
 | .agg r=>.agg r
 | v=>kN 4 k v
def Q3 (k:Nat) (v:AV):AV :=
 match k with
 | 0=>v
 | k+1=>Ol (k+1) v
def wM (k:Nat):Row→Row
 | .I a l=>.I a l
 | .G l=>.G (l.map (kN 4 k))
 | .F f n=>.F f n
 | .M l=>.M (mapM' (kN 4 k) l)

def jt (k:Nat) (r:Row):Row :=
 match k with
 | 0=>r
 | k+1=>wM (k+1) r

abbrev aF:=List (Nat×AV)
def bM:aF→Nat→AV
 | [],_=>.undef
 | (x,v)::r,y=>if Nat.beq x y then v else bM r y
def uQ:aF→Nat→AV→aF
 | [],y,u=>[(y,u)]
 | (x,v)::r,y,u=>if Nat.ble y x then (if Nat.beq x y then (y,u)::r else (y,u)::(x,v)::r) else (x,v)::uQ r y u
def lU (m x:Nat):Bool:=Nat.beq (Nat.land (Nat.shiftRight m x) 1) 1
noncomputable def bV (fr:aF) (m:Nat):aF:=List.rec (motive:=fun _=>aF) [] (fun p _ ih=>Prod.rec (motive:=fun _=>aF) (fun x _=>Bool.rec (motive:=fun _=>aF) (p::ih) ih (Nat.beq (Nat.land (Nat.shiftRight m x) 1) 1)) p) fr

structure iB where
 state:LoopState
 pending:Option Code
 fn:FuncId
 nt:Nat
 fr:aF
 params:List Tmp
 assign:Code
 body:Code

inductive KK where
 | num (k:IntKind)
 | str (n:Nat)
inductive an where
 | dead
 | row (r:Row)
 | map (es:List (AV×AV))
 | fmap (q:KK) (h:List Int→Bool) (g:List Int→Int) (c:Nat)
 | loop (l:iB)

structure bF where
 lock:Bool
 bs:List (Nat×an)
abbrev ab:=List bF

def aw:List (Nat×an)→Nat→Nat×an
 | [],_=>(0,.dead)
 | b::_,0=>b
 | _::r,i+1=>aw r i
def bP:List (Nat×an)→Nat→Nat×an→List (Nat×an)
 | [],_,_=>[]
 | _::r,0,x=>x::r
 | b::r,i+1,x=>b::bP r i x
def aA:ab→Nat→Nat→Nat×an
 | [],_,_=>(0,.dead)
 | l::_,0,i=>aw l.bs i
 | _::r,d+1,i=>aA r d i
def aN:ab→Nat→Bool
 | [],_=>true
 | l::_,0=>l.lock
 | _::r,d+1=>aN r d
def dF:ab→Nat→Nat→Nat×an→ab
 | [],_,_,_=>[]
 | l::r,0,i,x=>{ l with bs:=bP l.bs i x } :: r
 | l::r,d+1,i,x=>l::dF r d i x
def dS (H:ab) (d i:Nat):ab:=dF H d i ((aA H d i).1,.dead)
def jC:ab→an→ab
 | [],b=>[⟨false,[(0,b)]⟩]
 | l::r,b=>{ l with bs:=l.bs++[(0,b)] } :: r
def bC:ab→Nat→an→ab
 | [],_,_=>[]
 | l::r,0,b=>{ l with bs:=l.bs++[(0,b)] } :: r
 | l::r,d+1,b=>l::bC r d b
def ao:ab→Nat→Nat
 | [],_=>0
 | l::_,0=>l.bs.length
 | _::r,d+1=>ao r d
def a8:ab→Nat
 | []=>0
 | l::_=>l.bs.length
def bJ:ab→ab
 | []=>[]
 | l::r=>{ l with lock:=true } :: bJ r

def cX (H:ab) (d i v:Nat):Option Row :=
 match aA H d i with
 | (ver,.row r)=>if Nat.beq ver v then some r else none
 | _=>none

def sB:Value→AV
 | .bool b=>.bool b
 | .int k n=>.int k n
 | .string s=>.str s
 | .pointer none=>.nilp
 | .slice none 0 0=>.nils
 | .map none=>.nilm
 | .nilFunc=>.nilf
 | _=>.undef
def kS:Value→AV
 | .bool b=>.bool b
 | .int k n=>.int k n
 | .string s=>.str s
 | .pointer none=>.nilp
 | .slice none 0 0=>.nils
 | .map none=>.nilm
 | .nilFunc=>.nilf
 | .func (.func f) ca cb=>if ca.isEmpty && cb.isEmpty then .fn (.func f) [] [] else .undef
 | .agg cs=>if cs.toList.all Value.oneCell' then .agg (Row.ofList (cs.toList.map sB)) else .undef
 | .tuple cs=>if cs.isEmpty then .tup [] else .undef
 | _=>.undef

def bZ (fr:aF):Operand→AV
 | .tmp t=>bM fr t
 | .const v=>kS v
 | .global _=>.undef
 | .func f=>.fn (.func f) [] []

def AV.row:AV→Option Row
 | .agg r=>some r
 | .int k n=>some (.I k [n])
 | .undef | .tup _=>none
 | v=>some (.G [v])

def fj (P:Program) (t:TypeId):Option Bool :=
 match P.underlying t with
 | some (.struct _) | some (.array _ _)=>some true
 | some _=>some false
 | none=>none
def bH (P:Program) (t:TypeId):Option Nat:=(P.info? t).map (·.size)
def cY (P:Program) (t:TypeId):Option AV:=((P.info? t).bind (·.zero)).map kS

inductive Delta where
 | bE
 | push (b:an)
 | set (d i:Nat) (b:Nat×an)
 | heap (H:ab)
def Delta.on (δ:Delta) (H:ab):ab :=
 match δ with
 | .bE=>H
 | .push b=>jC H b
 | .set d i b=>dF H d i b
 | .heap H=>H

inductive Qm where
 | fn (f:FuncId)
 | round (d i:Nat)
 | mode
abbrev aO:=Qm→List AV→ab→Option (AV×ab)

def iw (op:BinOp) (k:IntKind) (x y:Int):Option AV :=
 match op with
 | .add=>some (.int k (k.wrap (x+y)))
 | .sub=>some (.int k (k.wrap (x-y)))
 | .mul=>some (.int k (k.wrap (x*y)))
 | .quo=>if y=0 then none else some (.int k (k.wrap (x.tdiv y)))
 | .rem=>if y=0 then none else some (.int k (x.tmod y))
 | .and=>some (.int k (k.wrap (BitVec.ofInt k.bits x &&& BitVec.ofInt k.bits y).toNat))
 | .or=>some (.int k (k.wrap (BitVec.ofInt k.bits x ||| BitVec.ofInt k.bits y).toNat))
 | .xor=>some (.int k (k.wrap (BitVec.ofInt k.bits x ^^^ BitVec.ofInt k.bits y).toNat))
 | .andNot=>some (.int k (k.wrap (BitVec.ofInt k.bits x &&& ~~~(BitVec.ofInt k.bits y)).toNat))
 | .eql=>some (.bool (x == y))
 | .neq=>some (.bool (x != y))
 | .lss=>some (.bool (x<y))
 | .leq=>some (.bool (x≤y))
 | .gtr=>some (.bool (x > y))
 | .geq=>some (.bool (x≥y))
 | _=>none

def fW (P:Program) (g:TypeId→Option Nat) (off:Nat):List Field→Option Nat
 | []=>some off
 | f::fs=>if f.name != "_" && Nat.beq f.offset off then (match g f.type with
   | some s=>fW P g (off+s) fs
   | none=>none) else none
def cA (P:Program):Nat→TypeId→Option Nat
 | 0,_=>none
 | n + 1,t=>match P.underlying t with
   | some (.int _)=>if bH P t=some 1 then some 1 else none
   | some (.array len e)=>match cA P n e with
     | some s=>if bH P t=some (len*s) then some (len*s) else none
     | none=>none
   | some (.struct fs)=>if P.stoodInHeld t then none else match fW P (cA P n) 0 fs.toList with
     | some s=>if bH P t=some s then some s else none
     | none=>none
   | _=>none

def fe:List Int→List Int→Bool
 | [],[]=>true
 | x::a,y::b=>(x == y) && fe a b
 | _,_=>false

def allEq (z z':Nat→Int):Nat→Bool
 | 0=>true
 | n+1=>allEq z z' n && (z n == z' n)
def Nz (P:Program) (t:TypeId) (r s:Row):Option Bool :=
 match r.ints,s.ints with
 | some (k,z),some (k',z')=>if k=k'∧cA P 20 t=some r.len∧fj P t=some true∧r.len=s.len then some (allEq z z' r.len) else none
 | _,_=>none
def AZ (P:Program) (t:TypeId) (x y:AV):Option Bool :=
 match x,y with
 | .bool a,.bool b=>(match P.underlying t with | some .bool=>some (a == b) | _=>none)
 | .nils,.nils | .nils,.slcT .. | .nils,.slc .. | .slcT ..,.nils | .slc ..,.nils =>
   (match P.underlying t with
   | some (.slice _)=>(match x,y with
     | .nils,.nils=>some true
     | .nils,.slcT _ _ _ n _=>if 0<n then some false else none
     | .slcT _ _ _ n _,.nils=>if 0<n then some false else none
     | _,_=>some false)
   | _=>none)
 | .nilp,.nilp | .nilp,.ptr .. | .nilp,.ptrT .. | .ptr ..,.nilp | .ptrT ..,.nilp =>
   (match P.underlying t with
   | some (.pointer _)=>some (match x,y with | .nilp,.nilp=>true | _,_=>false)
   | _=>none)
 | .agg (.I k a),.agg (.I k' b)=>if k=k'∧cA P 20 t=some a.length∧fj P t=some true∧a.length=b.length then some (fe a b) else none
 | .agg (.M l),.agg s=>Nz P t (.M l) s
 | .agg (.I k a),.agg (.M l)=>Nz P t (.I k a) (.M l)
 | _,_=>none

def ke (P:Program) (op:BinOp) (t:TypeId) (x y:AV):Option AV :=
 match op,x,y with
 | .shl,.int k a,.int _ b=>if b<0 then none else some (.int k (k.wrap (a*2 ^ (min b.toNat k.bits))))
 | .shr,.int k a,.int _ b=>if b<0 then none else some (.int k (a.fdiv (2 ^ (min b.toNat k.bits))))
 | op,.int k a,.int k' b=>if k=k' then iw op k a b else none
 | .eql,x,y=>(AZ P t x y).map .bool
 | .neq,x,y=>(AZ P t x y).map fun b=>.bool (!b)
 | _,_,_=>none

def Qz (op:UnOp) (x:AV):Option AV :=
 match op,x with
 | .not,.bool b=>some (.bool !b)
 | .neg,.int k n=>some (.int k (k.wrap (0-n)))
 | _,_=>none

def oK {α:Type} (l:List α):Nat→List α
 | 0=>[]
 | n+1=>l++oK l n
def dY (z:Row) (n:Nat):Row :=
 match z with
 | .I k l=>.I k (oK l n)
 | z=>.G (oK z.toList n)
def F7 (l:List AV) (n:Nat):Row :=
 match l with
 | [v]=>if ib v then .F (fun _=>v) n else .G (oK l n)
 | l=>.G (oK l n)
def dR (z:Row) (n:Nat):Row :=
 match z with
 | .I k l=>if yc l then .M [.arr k (fun _=>0) (n*l.length)] else .I k (oK l n)
 | z=>F7 z.toList n
def kK (r:Row):Row :=
 match r with
 | .I k l=>if Nat.ble 8 l.length then .M [.arr k (QA l) l.length] else .I k l
 | .G l=>if (iA l.length l).length == l.length then .G l else .M (iA l.length l)
 | r=>r
def wL (z:Nat→Int) (off:Nat) (z':Nat→Int) (n:Nat):Nat→Int:=fun i=>if off≤i∧i<off+n then z' (i-off) else z i
def zC:List df→Nat→Nat→List df→Option (List df)
 | [],_,_,_=>none
 | .one v::r,o+1,n,q=>(zC r o n q).map (.one v::·)
 | .one _::_,0,_,_=>none
 | .arr k z m::r,o,n,q=>if Nat.beq o 0 && Nat.beq m n then some (q++r) else if Nat.ble m o then (zC r (o-m) n q).map (.arr k z m::·) else none
def KH (q:Row):Option (List df) :=
 match kK q with
 | .M l=>some l
 | _=>none
def xC (l:List df) (off:Nat) (q:Row):Row :=
 if Nat.ble 9 q.len then (match KH q with
  | some qs=>if Nat.beq off 0 && Nat.beq (aC l) q.len then .M qs else (match zC l off q.len qs with
    | some l'=>.M l'
    | none=>(Row.M l).cP off q.toList)
  | none=>(Row.M l).cP off q.toList)
 else (Row.M l).cP off q.toList
def jZ (r:Row) (off:Nat) (q:Row):Row :=
 match r with
 | .M l=>(match l with
   | [.arr k z m]=>(match q with
     | .M [.arr k' z' n]=>if k'=k then .M [.arr k (wL z off z' n) m] else xC l off q
     | _=>xC l off q)
   | _=>xC l off q)
 | r=>r.cP off q.toList
def rj:AV→Bool
 | .slcT none (.M [.arr _ _ _]) _ _ _=>true
 | .slcT none (.I _ _) _ _ _=>true
 | _=>false
def rD (sy:Bool) (r:Row):Row :=
 match r with
 | .I k l=>if sy then .M [.arr k (fun j=>l.getD j 0) l.length] else .I k l
 | .G [v]=>if sy && rj v then .F (fun _=>jJ v) 1 else .G [v]
 | r=>r
def sI (place:Nat→Option (Nat×Nat)) (r:Row):List (Nat×AV)→Option Row
 | []=>some r
 | (i,v)::rest=>match place i with
   | none=>none
   | some (off,size)=>match v.row with
     | some q=>if q.len=size∧off+q.len≤r.len then sI place (r.cP off q.toList) rest else none
     | none=>none

def jL (P:Program) (t:TypeId) (r:Row) (off:Nat):Option AV :=
 match fj P t,bH P t with
 | some true,some n=>if off+n≤r.len then some (.agg (r.cut off n)) else none
 | some false,_=>if off<r.len then some (r.get off) else none
 | _,_=>none

def Vi (s:Option Nat) (v:AV):AV :=
 match s with
 | none=>v
 | some k=>mU k v

def pA (P:Program) (H:ab) (t:TypeId) (a:AV):Option AV :=
 match a with
 | .ptr d i v off=>match cX H d i v with
   | some r=>(jL P t r off).map (mU d)
   | none=>none
 | .ptrT s r off=>(jL P t r off).map (Vi s)
 | _=>none

def gH (P:Program) (H:ab) (t:TypeId) (a x:AV):Option Delta :=
 match a with
 | .ptr d i v off =>
   if aN H d then none else
   match cX H d i v,bH P t,x.row with
   | some r,some n,some q =>
     if q.len=n∧off+n≤r.len then
      match d,x with
      | d+1,.slc 0 j w o sz len cap=>if aN H 0 then none else match cX H 0 j w with
        | some q=>some (.heap (bC (dF (dS H 0 j) (d+1) i (v,.row (r.set off (.slc 0 (ao H (d+1)) 0 o sz len cap)))) (d+1) (.row (jt (d+1) q))))
        | none=>none
      | _,_=>some (.set d i (v,.row (jZ r off (jt d q))))
     else none
   | _,_,_=>none
 | _=>none

def ly (P:Program):List Field→Option (List (Nat×Nat))
 | []=>some []
 | f::fs=>match bH P f.type,ly P fs with
   | some n,some l=>some ((f.offset,n)::l)
   | _,_=>none

def wI (P:Program) (sy:Bool) (t:TypeId) (parts:List (Nat×AV)):Option AV :=
 match cY P t,P.underlying t with
 | some (.agg z),some (.struct fs)=>match ly P fs.toList with
   | some l=>(sI (fun i=>l[i]?) (if sy then kK z else z) parts).map .agg
   | none=>none
 | some (.agg z),some (.array _ e)=>match bH P e with
   | some n=>(sI (fun i=>some (i*n,n)) (if sy then kK z else z) parts).map .agg
   | none=>none
 | _,_=>none

def l7 (a:AV) (n:Nat):Option AV :=
 match a with
 | .ptr d i v off=>some (.ptr d i v (off+n))
 | .ptrT s r off=>some (.ptrT s r (off+n))
 | _=>none

def ja (P:Program) (t:TypeId) (a:AV) (f:Nat):Option AV :=
 match P.underlying t with
 | some (.struct fs)=>match fs[f]? with
   | some g=>match bH P g.type with
     | some (_+1)=>l7 a g.offset
     | _=>none
   | none=>none
 | _=>none

def jh (P:Program) (t:TypeId) (x:AV) (i:Int):Option AV :=
 match P.underlying t,x with
 | some (.array n e),x=>match bH P e with
   | some z=>if 0≤i∧i<n then l7 x (i.toNat*z) else none
   | none=>none
 | some (.slice e),.slc d j v off sz len _ =>
   if 0≤i∧i<len∧bH P e=some sz then some (.ptr d j v (off+i.toNat*sz)) else none
 | some (.slice e),.slcT s r sz len _ =>
   if 0≤i∧i<len∧bH P e=some sz then some (.ptrT s r (i.toNat*sz)) else none
 | _,_=>none

def qw (P:Program) (t:TypeId) (x:AV) (i:Int):Option AV :=
 match P.underlying t,x with
 | some (.array n e),.agg r=>match bH P e with
   | some z=>if 0≤i∧i<n then jL P e r (i.toNat*z) else none
   | none=>none
 | some .string,.str s=>if 0≤i then (match s[i.toNat]? with
   | some b=>some (.int .u8 b.toNat)
   | none=>none) else none
 | _,_=>none

def wS (P:Program) (t:TypeId) (x:AV) (f:Nat):Option AV :=
 match P.underlying t,x with
 | some (.struct fs),.agg r=>match fs[f]? with
   | some g=>jL P g.type r g.offset
   | none=>none
 | _,_=>none

def bound (o:Option AV) (dflt top:Nat):Option Nat :=
 match o with
 | none=>some dflt
 | some (.int _ i)=>if 0≤i∧i≤top then some i.toNat else none
 | some _=>none

def ey (lo hi mx:Option AV) (len:Nat):Option (Nat×Nat×Option Nat) :=
 match mx with
 | none=>match bound hi len len with
   | some h=>match bound lo 0 h with
     | some l=>some (l,h,none)
     | none=>none
   | none=>none
 | some a=>match bound (some a) 0 len with
   | some m=>if hi.isSome then (match bound hi len m with
     | some h=>match bound lo 0 h with
       | some l=>some (l,h,some m)
       | none=>none
     | none=>none) else none
   | none=>none

def qP (P:Program) (t:TypeId) (x:AV) (lo hi mx:Option AV):Option AV :=
 match P.underlying t,x with
 | some (.slice e),.slc d j v off sz len cap =>
   match ey lo hi mx len with
   | some (l,h,mm)=>if bH P e=some sz then
      some (.slc d j v (off+l*sz) sz (h-l) (match mm with | none=>cap.map (· - l) | some m=>some (m-l))) else none
   | none=>none
 | some (.slice e),.slcT s r sz len full =>
   match ey lo hi mx len with
   | some (l,h,mm)=>if bH P e=some sz∧l*sz+(h-l)*sz≤r.len then
      some (.slcT s (r.sub (l*sz) ((h-l)*sz)) sz (h-l) (match mm with | none=>full && Nat.beq h len | some m=>Nat.beq h m)) else none
   | none=>none
 | some (.slice e),.nils =>
   match ey lo hi mx 0,bH P e with
   | some _,some _=>some .nils
   | _,_=>none
 | some (.array n e),.ptr d j v off =>
   match ey lo hi mx n with
   | some (l,h,mm)=>match bH P e with
     | some sz=>some (.slc d j v (off+l*sz) sz (h-l) (match mm with | none=>some (n-l) | some m=>some (m-l)))
     | none=>none
   | none=>none
 | _,_=>none

def u9 (P:Program) (H:ab) (t:TypeId) (x:AV):Option Int :=
 match P.underlying t,x with
 | some (.array n _),_=>some n
 | some (.slice _),.nils=>some 0
 | some (.slice _),.slc _ _ _ _ _ len _=>some len
 | some (.slice _),.slcT _ _ _ len _=>some len
 | some (.map _ _),.nilm=>some 0
 | some (.map _ _),.map d i=>match aA H d i with
   | (0,.map es)=>some es.length
   | (0,.fmap _ _ _ c)=>some c
   | _=>none
 | _,_=>none

def LR (P:Program) (t:TypeId) (x:AV):Option Int :=
 match P.underlying t,x with
 | some (.slice _),.nils=>some 0
 | some (.slice _),.slc _ _ _ _ _ _ (some c)=>some c
 | _,_=>none

def eK (H:ab) (sz n:Nat) (x:AV):Option Row :=
 match x with
 | .nils=>if n=0 then some (.G []) else none
 | .slc d i v off sz' len _=>match cX H d i v with
   | some r=>if sz'=sz∧n≤len∧off+n*sz≤r.len then some (Cj d (r.sub off (n*sz))) else none
   | none=>none
 | .slcT s r sz' len _=>if sz'=sz∧n≤len∧n*sz≤r.len then some (match s with | none=>r.sub 0 (n*sz) | some k=>Cj k (r.sub 0 (n*sz))) else none
 | _=>none
def ou:AV→Option Nat
 | .nils=>some 0
 | .slc _ _ _ _ _ len _=>some len
 | .slcT _ _ _ len _=>some len
 | _=>none

def room:Nat:=2 ^ 46

def Fq (P:Program) (sy:Bool) (nx:Nat) (e:TypeId) (s x:AV):Option (AV×Delta) :=
 match P.info? e,s,x with
 | some inf,.nils,.int _ k =>
   if 0≤k∧k.toNat≤room∧k.toNat*inf.bytes≤room∧0<inf.size∧((cY P e).bind AV.row).map Row.len=some inf.size then
    (if k=0 then some (.nils,.bE) else some (.slc 0 nx 0 0 inf.size k.toNat none,.push (.row (rD sy (.I .i64 [])))))
   else none
 | _,_,_=>none
def oW      (P:Program) (sy:Bool) (H:ab) (nx:Nat) (t u:TypeId) (s x:AV):Option (AV×Delta) :=
 match P.underlying t,P.underlying u with
 | some (.slice e),some (.int _)=>Fq P sy nx e s x
 | some (.slice e),some (.slice _) =>
   match P.info? e,ou s,ou x with
   | some inf,some m,some n =>
     if n=0 then (match s,x with
      | .nils,_=>some (s,.bE)
      | .slc ..,_=>some (s,.bE)
      | .slcT ..,_=>some (s,.bE)
      | _,_=>none)
     else if (m+n)*inf.bytes≤room∧(m+n)≤room∧0<inf.bytes∧((cY P e).bind AV.row).map Row.len=some inf.size then
      match eK H inf.size n x with
      | none=>none
      | some new =>
        match s with
        | .nils=>some (.slc 0 nx 0 0 inf.size n none,.push (.row (rD sy new)))
        | .slcT _ _ _ _ true=>match eK H inf.size m s with
          | some old=>some (.slc 0 nx 0 0 inf.size (m+n) none,.push (.row (rD sy (old.app new))))
          | none=>none
        | .slc d i v off sz _ (some c) =>
          if c<m+n then
           match eK H inf.size m s with
           | some old=>some (.slc 0 nx 0 0 inf.size (m+n) none,.push (.row (rD sy (old.app new))))
           | none=>none
          else if aN H d then none else
           match cX H d i v with
           | some r=>if sz=inf.size∧off+(m+n)*sz≤r.len then
              some (.slc d i v off sz (m+n) (some c),.set d i (v,.row (r.cP (off+m*sz) (jt d new).toList)))
             else none
           | none=>none
        | .slc d i v off sz _ none =>
          if aN H d then none else
          match cX H d i v with
          | some r=>if sz=inf.size∧off+m*sz=r.len then
             some (.slc d i (v+1) 0 sz (m+n) none,.set d i (v+1,.row ((r.sub off (m*sz)).app (jt d new))))
            else none
          | none=>none
        | _=>none
     else none
   | _,_,_=>none
 | _,_=>none

def copyV (P:Program) (H:ab) (t:TypeId) (s x:AV):Option (AV×Delta) :=
 match P.underlying t with
 | some (.slice e) =>
   match bH P e,ou s,ou x with
   | some z,some m,some n =>
     match eK H z (min n m) x with
     | none=>none
     | some new =>
       match s with
       | .nils=>some (.int .i64 (min n m:Nat),.bE)
       | .slc d i v off sz _ _ =>
         if aN H d then none else
         match cX H d i v with
         | some r=>if sz=z∧off+(min n m)*sz≤r.len then
            some (.int .i64 (min n m:Nat),.set d i (v,.row (jZ r off (jt d new))))
           else none
         | none=>none
       | _=>none
   | _,_,_=>none
 | _=>none

def sx (P:Program) (H:ab) (t:TypeId) (s:AV):Option (AV×Delta) :=
 match P.underlying t,s with
 | some (.slice _),.nils=>some (.tup [],.bE)
 | some (.slice e),.slc d i v off sz len _ =>
   if aN H d then none else
   match (cY P e).bind AV.row,cX H d i v with
   | some z,some r=>if z.len=sz∧bH P e=some sz∧off+len*sz≤r.len then
      some (.tup [],if len=0 then .bE else .set d i (v,.row (if yP r then jZ r off (dR z len) else r.cP off (dY z len).toList)))
     else none
   | _,_=>none
 | _,_=>none

def eP (mx:Bool) (k:IntKind) (x:Int):List AV→Option AV
 | []=>some (.int k x)
 | .int k' y::r=>if k=k' then eP mx k (if mx then (if y > x then y else x) else (if y<x then y else x)) r else none
 | _=>none
def oB (mx:Bool):List AV→Option AV
 | .int k x::r=>eP mx k x r
 | _=>none

def jk (P:Program) (sy:Bool) (nx:Nat) (t:TypeId) (l c:AV):Option (AV×Delta) :=
 match P.underlying t,l,c with
 | some (.slice e),.int _ l,.int _ c =>
   match P.info? e,(cY P e).bind AV.row with
   | some inf,some z =>
     if 0≤l∧l≤c∧c.toNat*inf.bytes≤room∧c.toNat≤room∧z.len=inf.size then
      some (.slc 0 nx 0 0 inf.size l.toNat (some c.toNat),.push (.row (if sy then dR z c.toNat else dY z c.toNat)))
     else none
   | _,_=>none
 | _,_,_=>none

def jB (P:Program) (nx:Nat) (t:TypeId) (len:Nat) (parts:List (Nat×AV)):Option (AV×Delta) :=
 match P.underlying t with
 | some (.slice e)=>match bH P e,(cY P e).bind AV.row with
   | some z,some zv =>
     if len*z≤2 ^ 24∧zv.len=z then
      (sI (fun i=>some (i*z,z)) (dY zv len) parts).map fun r=>(.slc 0 nx 0 0 z len (some len),.push (.row r))
     else none
   | _,_=>none
 | _=>none

def py (x y:AV):Option Bool :=
 match x,y with
 | .int k a,.int k' b=>if k=k' then some (a == b) else none
 | .agg (.I k a),.agg (.I k' b)=>if k=k'∧a.length=b.length then some (fe a b) else none
 | _,_=>none
def fV (key:AV):List (AV×AV)→Nat→Option (Option Nat)
 | [],_=>some none
 | (k,_)::r,i=>match py key k with
   | some true=>some (some i)
   | some false=>fV key r (i+1)
   | none=>none
def jY (P:Program) (t:TypeId) (x:AV):Bool :=
 match P.underlying t,x with
 | some (.int _),.int _ _=>true
 | some (.array _ _),.agg (.I _ l)=>cA P 20 t == some l.length
 | some (.struct _),.agg (.I _ l)=>cA P 20 t == some l.length
 | _,_=>false
def vG (H:ab) (m:AV):Option (Nat×List (AV×AV)) :=
 match m with
 | .nilm=>some (0,[])
 | .map d i=>match aA H d i with
   | (0,.map es)=>some (d,es)
   | _=>none
 | _=>none
def oF:List (AV×AV)→Nat→AV
 | [],_=>.undef
 | e::_,0=>e.2
 | _::r,i+1=>oF r i
def oN:List (AV×AV)→Nat→AV×AV→List (AV×AV)
 | [],_,_=>[]
 | _::r,0,x=>x::r
 | e::r,i+1,x=>e::oN r i x
def oc:List (AV×AV)→Nat→List (AV×AV)
 | [],_=>[]
 | _::r,0=>r
 | e::r,i+1=>e::oc r i
def vL (H:ab) (m:AV):Option (KK×(List Int→Bool)×(List Int→Int)×Nat) :=
 match m with
 | .map d i=>match aA H d i with
   | (0,.fmap q h g c)=>some (q,h,g,c)
   | _=>none
 | _=>none
def u0:KK→AV→Option (List Int)
 | .num k,.int k' n=>if k=k' then some [n] else none
 | .str m,.agg (.I .i64 l)=>if Nat.beq l.length m then some l else none
 | _,_=>none
def OP:AV→Option KK
 | .int k _=>some (.num k)
 | .agg (.I .i64 l)=>some (.str l.length)
 | _=>none
def zt:AV→Option Int
 | .int .i64 n=>some n
 | _=>none
def fE (h:List Int→Bool) (n:List Int) (b:Bool):List Int→Bool:=fun i=>if i=n then b else h i
def iP (g:List Int→Int) (n:List Int) (x:Int):List Int→Int:=fun i=>if i=n then x else g i
def uP (b:Bool) (c:Nat):Nat:=cond b c (c+1)
def yh (b:Bool) (c:Nat):Nat:=cond b (c-1) c
def tx (P:Program) (t:TypeId):an :=
 match P.underlying t with
 | some (.map kt et)=>match (cY P kt).bind OP,(cY P et).bind zt with
   | some q,some _=>.fmap q (fun _=>false) (fun _=>0) 0
   | _,_=>.map []
 | _=>.map []
def rZ (P:Program) (H:ab) (t:TypeId) (m key:AV) (ok:Bool):Option AV :=
 match P.underlying t with
 | some (.map kt et) =>
   if jY P kt key then
    match vL H m with
    | some (q,h,g,_)=>match u0 q key,(cY P et).bind zt with
      | some n,some 0=>some (if ok then .tup [.int .i64 (g n),.bool (h n)] else .int .i64 (g n))
      | _,_=>none
    | none=>match vG H m,cY P et with
    | some (d,es),some z=>match fV key es 0 with
      | some (some i)=>some (if ok then .tup [mU d (oF es i),.bool true] else mU d (oF es i))
      | some none=>some (if ok then .tup [z,.bool false] else z)
      | none=>none
    | _,_=>none
   else none
 | _=>none
def jS (P:Program) (H:ab) (t:TypeId) (m key x:AV):Option Delta :=
 match P.underlying t,m with
 | some (.map kt _),.map d i =>
   if aN H d then none else
   if jY P kt key then
    match aA H d i with
    | (0,.fmap q h g c)=>match u0 q key,zt x with
      | some n,some y=>some (.set d i (0,.fmap q (fE h n true) (iP g n y) (uP (h n) c)))
      | _,_=>none
    | (0,.map es)=>match fV key es 0 with
      | some (some j)=>some (.set d i (0,.map (oN es j (key,Q3 d x))))
      | some none=>some (.set d i (0,.map (es++[(key,Q3 d x)])))
      | none=>none
    | _=>none
   else none
 | _,_=>none
def o6 (P:Program) (H:ab) (t:TypeId) (m key:AV):Option (AV×Delta) :=
 match P.underlying t,m with
 | some (.map kt _),.map d i =>
   if aN H d then none else
   if jY P kt key then
    match aA H d i with
    | (0,.fmap q h g c)=>match u0 q key with
      | some n=>some (.tup [],.set d i (0,.fmap q (fE h n false) (iP g n 0) (yh (h n) c)))
      | none=>none
    | (0,.map es)=>match fV key es 0 with
      | some (some j)=>some (.tup [],.set d i (0,.map (oc es j)))
      | some none=>some (.tup [],.set d i (0,.map es))
      | none=>none
    | _=>none
   else none
 | _,_=>none

def dW (fr:aF):List (Nat×Operand)→List (Nat×AV)
 | []=>[]
 | (i,x)::r=>(i,bZ fr x)::dW fr r
def lu (fr:aF):List Operand→List AV
 | []=>[]
 | x::r=>bZ fr x::lu fr r

def nJ {α:Type} (call:aO) (a b:α):α :=
 match call .mode [] [] with
 | some _=>a
 | none=>b
def gS (P:Program) (call:aO) (fr:aF) (H:ab) (nx:Nat) (c:Call):Option (AV×Delta) :=
 match c.callee with
 | .value f=>match bZ fr f with
   | .fn (.func g) a b=>(call (.fn g) (a++(lu fr c.args.toList++b)) H).map fun (v,H)=>(v,.heap H)
   | .yld d i=>(call (.round d i) (lu fr c.args.toList) H).map fun (v,H)=>(v,.heap H)
   | _=>none
 | .builtin .len=>match c.args.toList,c.argTypes.toList with
   | x::_,t::_=>(u9 P H t (bZ fr x)).map fun n=>(.int .i64 n,.bE)
   | _,_=>none
 | .builtin .cap=>match c.args.toList,c.argTypes.toList with
   | x::_,t::_=>(LR P t (bZ fr x)).map fun n=>(.int .i64 n,.bE)
   | _,_=>none
 | .builtin .append=>match c.args.toList,c.argTypes.toList with
   | s::x::_,t::u::_=>oW P (nJ call true false) H nx t u (bZ fr s) (bZ fr x)
   | _,_=>none
 | .builtin .copy=>match c.args.toList,c.argTypes.toList with
   | s::x::_,t::_=>copyV P H t (bZ fr s) (bZ fr x)
   | _,_=>none
 | .builtin .clear=>match c.args.toList,c.argTypes.toList with
   | s::_,t::_=>sx P H t (bZ fr s)
   | _,_=>none
 | .builtin .delete=>match c.args.toList,c.argTypes.toList with
   | m::k::_,t::_=>o6 P H t (bZ fr m) (bZ fr k)
   | _,_=>none
 | .builtin .min=>(oB false (lu fr c.args.toList)).map fun v=>(v,.bE)
 | .builtin .max=>(oB true (lu fr c.args.toList)).map fun v=>(v,.bE)
 | _=>none

def kp (o:Option AV):Option (AV×Delta):=o.map fun v=>(v,.bE)

def evalOp (P:Program) (call:aO) (fr:aF) (H:ab) (nx:Nat) (o:Oper):Option (AV×Delta) :=
 match o.op with
 | .move x | .assign x=>some (bZ fr x,.bE)
 | .pick c a b=>match bZ fr c with
   | .bool t=>some (if t then bZ fr a else bZ fr b,.bE)
   | _=>none
 | .alloc t=>((cY P t).bind AV.row).map fun z=>(.ptr 0 nx 0 0,.push (.row (nJ call (kK z) z)))
 | .box _ x=>(bZ fr x).row.map fun r=>(.ptr 0 nx 0 0,.push (.row (nJ call (kK r) r)))
 | .build t parts=>kp (wI P (nJ call true false) t (dW fr parts.toList))
 | .buildSlice t len parts=>jB P nx t len (dW fr parts.toList)
 | .load t a=>kp (pA P H t (bZ fr a))
 | .store t a x=>(gH P H t (bZ fr a) (bZ fr x)).map fun δ=>(.tup [],δ)
 | .nilCheck x=>match bZ fr x with
   | .ptr d i v off=>some (.ptr d i v off,.bE)
   | .ptrT s r off=>some (.ptrT s r off,.bE)
   | _=>none
 | .binOp op t x y _=>kp (ke P op t (bZ fr x) (bZ fr y))
 | .unOp op _ x=>kp (Qz op (bZ fr x))
 | .convert src dst x=>match P.underlying src,P.underlying dst,bZ fr x with
   | some _,some (.int k),.int _ n=>some (.int k (k.wrap n),.bE)
   | _,_,_=>none
 | .makeFunc fn first cap=>match fn with
   | .func g=>some (.fn (.func g) (lu fr first.toList) (lu fr cap.toList),.bE)
   | _=>none
 | .makeSlice t l c=>jk P (nJ call true false) nx t (bZ fr l) (bZ fr c)
 | .slice t x lo hi mx=>kp (qP P t (bZ fr x) (lo.map (bZ fr)) (hi.map (bZ fr)) (mx.map (bZ fr)))
 | .fieldAddr t x f=>kp (ja P t (bZ fr x) f)
 | .field t x f=>kp (wS P t (bZ fr x) f)
 | .indexAddr t x i=>match bZ fr i with
   | .int _ n=>kp (jh P t (bZ fr x) n)
   | _=>none
 | .index t x i=>match bZ fr i with
   | .int _ n=>kp (qw P t (bZ fr x) n)
   | _=>none
 | .makeMap t none=>some (.map 0 nx,.push (nJ call (tx P t) (.map [])))
 | .lookup t m k ok=>kp (rZ P H t (bZ fr m) (bZ fr k) ok)
 | .mapUpdate t m k x | .insert t m k x=>(jS P H t (bZ fr m) (bZ fr k) (bZ fr x)).map fun δ=>(.tup [],δ)
 | .extract t ix=>match bZ fr t with
   | .tup l=>match l[ix]? with
     | some v=>some (v,.bE)
     | none=>none
   | _=>none
 | .call c=>gS P call fr H nx c
 | _=>none

inductive Want where
 | run | skip | lost
def lR (ops:Array Oper) (fr:aF) (o:Oper):Want :=
 match o.guard with
 | none=>.run
 | some (j,want)=>match (ops[j]?).bind (·.dst) with
   | none=>.lost
   | some d=>match bM fr d with
     | .bool b=>if b == want then .run else .skip
     | .tup _=>.skip
     | _=>.lost

def iL (nt:Nat) (fr:aF) (dst:Option Tmp) (v:AV):aF :=
 match dst with
 | some d=>if Nat.blt d nt then uQ fr d v else fr
 | none=>fr

def fh (P:Program) (nt:Nat) (call:aO) (ops:Array Oper):List Oper→aF→ab→Option (aF×ab)
 | [],fr,H=>some (fr,H)
 | o :: r,fr,H=>match lR ops fr o with
   | .lost=>none
   | .skip=>fh P nt call ops r (iL nt fr o.dst (.tup [])) H
   | .run=>match evalOp P call fr H (a8 H) o with
     | none=>none
     | some (v,δ)=>fh P nt call ops r (iL nt fr o.dst v) (δ.on H)

inductive Touch where
 | none
 | blk (d i:Nat)
 | all
structure Rec where
 ix:Nat
 reads:Touch
 writes:Option (Nat×Nat)
def cV (fr:aF) (o:Oper):Touch :=
 let at' (v:AV):Touch:=match v with
  | .ptr d i _ _=>.blk d i
  | .slc d i _ _ _ _ _=>.blk d i
  | .map d i=>.blk d i
  | _=>.none
 match o.op with
 | .load _ a=>at' (bZ fr a)
 | .store _ a _=>at' (bZ fr a)
 | .lookup _ m _ _=>at' (bZ fr m)
 | .mapUpdate _ m _ _ | .insert _ m _ _=>at' (bZ fr m)
 | .call c=>match c.callee with
   | .builtin .len=>match c.args.toList with
     | x::_=>match bZ fr x with | .map d i=>.blk d i | _=>.none
     | _=>.all
   | .builtin .min | .builtin .max=>.none
   | _=>.all
 | _=>.none
def di (H:ab) (bef:Nat):List Rec→ab
 | []=>H
 | r::l=>match r.writes with
   | some (d,i)=>if bef.testBit r.ix then di H bef l else di (dS H d i) bef l
   | none=>di H bef l
def kA (bef:Nat) (d i:Nat):List Rec→Bool
 | []=>true
 | r::l=>(bef.testBit r.ix || (match r.reads with
   | .none=>true
   | .blk e j=>!(Nat.beq e d && Nat.beq j i)
   | .all=>false)) && kA bef d i l

def jH (o:Oper):Bool :=
 match o.op with
 | .alloc _ | .box _ _ | .buildSlice _ _ _ | .makeSlice _ _ _ | .makeMap _ _=>true
 | .call c=>match c.callee with
   | .builtin .append=>true
   | _=>false
 | _=>false
def c5:List Oper→Nat
 | []=>0
 | o::r=>if jH o then c5 r+1 else c5 r
def om:ab→Nat→ab
 | [],_=>[]
 | l::r,k=>{ l with bs:=l.bs++List.replicate k (0,.dead) } :: r
def mB:an→Bool
 | .dead=>true
 | _=>false
def rX:Nat×an→Bool
 | (0,.dead)=>true
 | _=>false
def fx (o:Oper):Bool :=
 match o.op with
 | .call c=>match c.callee with
   | .value _=>true
   | _=>false
 | _=>false
def rI (H:ab):Option (Nat×Nat×(Nat×an))→ab
 | none=>H
 | some (d,i,b)=>dF H d i b
structure uJ where
 v:AV
 rd:Touch
 wr:Option (Nat×Nat×(Nat×an))
def gT (P:Program) (call:aO) (ops:Array Oper) (bef:Nat) (fr:aF) (H:ab) (nx:Nat) (recs:List Rec) (o:Oper):Option uJ :=
 match lR ops fr o with
 | .lost=>none
 | .skip=>some ⟨.tup [],.none,none⟩
 | .run =>
   if fx o then match evalOp P call fr (bJ (di H bef recs)) nx o with
    | some (v,_)=>some ⟨v,.all,none⟩
    | none=>none
   else match evalOp P call fr (di H bef recs) nx o with
    | some (v,.bE)=>some ⟨v,cV fr o,none⟩
    | some (v,.push b)=>if jH o && !mB b && rX (aA H 0 nx) && !aN H 0 then some ⟨v,cV fr o,some (0,nx,(0,b))⟩ else none
    | some (v,.set d i b)=>if !mB b.2 && (Nat.beq b.1 (aA H d i).1 || Nat.beq b.1 (Nat.succ (aA H d i).1)) && !mB (aA (di H bef recs) d i).2 && kA bef d i recs then some ⟨v,cV fr o,some (d,i,b)⟩ else none
    | _=>none

def gJ (P:Program) (nt:Nat) (call:aO) (ops:Array Oper) (befs:Array Nat):Nat→List Oper→aF→ab→Nat→List Rec→Option (aF×ab)
 | _,[],fr,H,_,_=>some (fr,H)
 | j,o::r,fr,H,nx,recs=>match gT P call ops (befs.getD j 0) fr H nx recs o with
   | some e=>gJ P nt call ops befs (j+1) r (iL nt fr o.dst e.v) (rI H e.wr) (if jH o then nx+1 else nx) (⟨j,e.rd,e.wr.map fun x=>(x.1,x.2.1)⟩::recs)
   | none=>none

def gh (ops:Array Oper) (befs:Array Nat):Bool :=
 ops.toList.zipIdx.all fun (o,j)=>Nat.blt (befs.getD j 0) (2 ^ j) &&
  ops.toList.zipIdx.all fun (q,i) =>
   Nat.beq i j || (match q.dst with
   | none=>true
   | some d=>(o.dst != some d) && (!(o.looksAt ops).contains d || (befs.getD j 0).testBit i || (befs.getD i 0).testBit j))

inductive Ex where
 | normal | exit (id:Nat) | goto (l:Nat) | ret

def CW:Option Nat→Bool
 | some 0=>true
 | _=>false
def Ee:AV→Bool
 | .int _ _=>true
 | .bool _=>true
 | .nils=>true
 | .slcT none _ _ _ _=>true
 | .ptrT none _ _=>true
 | _=>false
def Oh:Row→Bool
 | .I _ _=>true
 | .F _ _=>true
 | .G l=>l.all Ee
 | .M l=>fT l
def lV (n:Nat):AV→Bool
 | .ptr d i _ _=>Nat.beq d 0 && Nat.ble n i
 | .slc d i _ _ _ _ _=>Nat.beq d 0 && Nat.ble n i
 | .map d i=>Nat.beq d 0 && Nat.ble n i
 | .yld d i=>Nat.beq d 0 && Nat.ble n i
 | .ptrT s r _=>CW s && !Oh r
 | .slcT s _ _ _ _=>CW s
 | .agg (.G _)=>true
 | .agg (.M l)=>!fT l
 | .fn _ _ _=>true
 | .tup (_::_)=>true
 | _=>false
def anyM (f:AV→Bool):List df→Bool
 | []=>false
 | .one v::r=>f v || anyM f r
 | .arr _ _ _::r=>anyM f r
def vl (n:Nat):AV→Bool
 | .agg (.G l)=>l.any (lV n)
 | .agg (.M l)=>anyM (lV n) l
 | .fn _ a b=>a.any (lV n) || b.any (lV n)
 | .ptrT (some 0) (.M l) _=>anyM (lV n) l
 | v=>lV n v
def Te (n:Nat):Row→Bool
 | .I .. | .F ..=>false
 | .G l=>l.any (vl n)
 | .M l=>anyM (vl n) l
def Jw (n:Nat):an→Bool
 | .dead=>false
 | .row r=>Te n r
 | .map es=>es.any fun e=>vl n e.1 || vl n e.2
 | .fmap _ _ _ _=>false
 | .loop _=>true
def cutAt (fr:aF) (l:bF) (r:ab):Nat→Nat→ab
 | 0,_=>l::r
 | k+1,m=>if fr.any (fun x=>vl m x.2) || (l.bs.take m).any (fun x=>Jw m x.2) then cutAt fr l r k (m+1) else { l with bs:=l.bs.take m } :: r
def mg (n:Nat) (fr:aF) (H:ab):ab :=
 match H with
 | []=>[]
 | l::r=>if Nat.ble l.bs.length n then H else cutAt fr l r 4 n

def Jx:AV→Bool
 | .ptrT (some 0) (.M l) _=>anyM (lV 0) l
 | v=>lV 0 v
def vp (h:Nat):AV→Bool
 | .ptr d i _ _=>Nat.beq d 0 && Nat.beq i h
 | .slc d i _ _ _ _ _=>Nat.beq d 0 && Nat.beq i h
 | .map d i=>Nat.beq d 0 && Nat.beq i h
 | .yld d i=>Nat.beq d 0 && Nat.beq i h
 | v=>Jx v
def qb (f:AV→Bool) (v:AV):Bool :=
 match v with
 | .agg (.G l)=>l.any f
 | .agg (.M l)=>anyM f l
 | .fn _ a b=>a.any f || b.any f
 | v=>f v
def NM (f:AV→Bool):Row→Bool
 | .I .. | .F ..=>false
 | .G l=>l.any (qb f)
 | .M l=>anyM (qb f) l
def A4 (f:AV→Bool):an→Bool
 | .dead=>false
 | .row r=>NM f r
 | .map _=>true
 | .fmap _ _ _ _=>false
 | .loop _=>true
def vg (a b:Nat):AV→AV
 | .ptr d i v off=>if Nat.beq d 0 && Nat.beq i a then .ptr 0 b v off else .ptr d i v off
 | .slc d i v off sz len cap=>if Nat.beq d 0 && Nat.beq i a then .slc 0 b v off sz len cap else .slc d i v off sz len cap
 | .map d i=>if Nat.beq d 0 && Nat.beq i a then .map 0 b else .map d i
 | .yld d i=>if Nat.beq d 0 && Nat.beq i a then .yld 0 b else .yld d i
 | v=>v
def nG (g:AV→AV) (v:AV):AV :=
 match v with
 | .agg (.G l)=>.agg (.G (l.map g))
 | .agg (.M l)=>.agg (.M (mapM' g l))
 | .fn f a b=>.fn f (a.map g) (b.map g)
 | v=>g v
def GL (g:AV→AV):Row→Row
 | .I k l=>.I k l
 | .F f n=>.F f n
 | .G l=>.G (l.map (nG g))
 | .M l=>.M (mapM' (nG g) l)
def qF (g:AV→AV):an→an
 | .row r=>.row (GL g r)
 | b=>b
def qG (g:AV→AV):aF→aF
 | []=>[]
 | (x,v)::r=>(x,nG g v)::qG g r
def jF (g:AV→AV):List (Nat×an)→List (Nat×an)
 | []=>[]
 | (v,b)::r=>(v,qF g b)::jF g r
def hole (fr:aF) (bs:List (Nat×an)):Nat→Nat→Option Nat
 | 0,_=>none
 | k+1,m=>if Nat.blt (m+1) bs.length then
    if fr.any (fun x=>qb (vp m) x.2) || ((bs.take m).any (fun x=>A4 (vp m) x.2) || (bs.drop (m+1)).any (fun x=>A4 (vp m) x.2)) then hole fr bs k (m+1) else some m
   else none
def x7 (a b:Nat) (l:bF):bF:={ l with bs:=bP (jF (vg a b) (l.bs.take a)) b ((aw l.bs a).1,qF (vg a b) (aw l.bs a).2) }
def j5 (n:Nat):Nat→aF→ab→aF×ab
 | 0,fr,H=>(fr,H)
 | k + 1,fr,H=>match H with
   | []=>(fr,[])
   | l::r=>match hole fr l.bs 4 n with
     | none=>(fr,l::r)
     | some h=>j5 n k (qG (vg (l.bs.length-1) h) fr) (mg n (qG (vg (l.bs.length-1) h) fr) (x7 (l.bs.length-1) h l::r))
def tidy (n:Nat) (fr:aF) (H:ab):aF×ab:=j5 n 4 fr (mg n fr H)

def nF (i ver:Nat) (r:Row):AV→AV
 | .ptr d j v off=>if Nat.beq d 0 && (Nat.beq j i && Nat.beq v ver) then .ptrT none r off else .ptr d j v off
 | .slc d j v off sz len cap=>if Nat.beq d 0 && (Nat.beq j i && (Nat.beq v ver && Nat.ble (off+len*sz) r.len)) then .slcT none (r.sub off (len*sz)) sz len (cap == some len) else .slc d j v off sz len cap
 | v=>v
def pP (i:Nat):AV→Bool
 | .slc d j _ _ _ _ _=>Nat.beq d 0 && Nat.beq j i
 | _=>false
def xc:Row→Bool
 | .I _ _=>true
 | .M [.arr _ _ _]=>true
 | _=>false
def MZ (f:AV→Bool):an→Bool
 | .row r=>NM f r
 | _=>false
def my (i:Nat) (fr:aF) (l:bF):aF×bF :=
 match aw l.bs i with
 | (ver,.row r)=>if xc r && (fr.any (fun x=>qb (pP i) x.2) || l.bs.any (fun x=>MZ (pP i) x.2)) then (qG (nF i ver r) fr,{ l with bs:=bP (jF (nF i ver r) l.bs) i (ver,.dead) }) else (fr,l)
 | _=>(fr,l)
def jf:Nat→aF→bF→aF×bF
 | 0,fr,l=>(fr,l)
 | n+1,fr,l=>my n (jf n fr l).1 (jf n fr l).2
def Eu (fr:aF) (H:ab):aF×ab :=
 match H with
 | []=>(fr,[])
 | l::r=>if l.lock then (fr,l::r) else ((jf l.bs.length fr l).1,(jf l.bs.length fr l).2::r)
def eC:Nat→aF→bF→aF×bF
 | 0,fr,l=>(fr,l)
 | n+1,fr,l=>if (eC n fr l).1.any (fun x=>qb (pP n) x.2) then eC n fr l else my n (eC n fr l).1 (eC n fr l).2
def uY (fr:aF) (H:ab):aF×ab :=
 match H with
 | []=>(fr,[])
 | l::r=>if l.lock then (fr,l::r) else ((eC l.bs.length fr l).1,(eC l.bs.length fr l).2::r)
def O7 (sz:Nat):AV→AV
 | .nils=>.slcT none (.M [.arr .i64 (fun _=>0) 0]) sz 0 false
 | v=>v
def ED (sz:Nat):Nat→List AV→List AV
 | _,[]=>[]
 | 0,v::l=>O7 sz v::l
 | c+1,v::l=>v::ED sz c l
def vh (c sz:Nat):an→an
 | .row (.G l)=>.row (.G (ED sz c l))
 | B=>B
def mK (c sz:Nat):List (Nat×an)→List (Nat×an)
 | []=>[]
 | (v,B)::r=>(v,vh c sz B)::mK c sz r
def GR (k:Nat) (H:ab):ab :=
 match H with
 | []=>[]
 | l::r=>if l.lock then l::r else { l with bs:=mK (k % 8) (k / 8) l.bs } :: r
def Dc (s:Nat):aF→Option Nat
 | []=>none
 | (x,v)::r=>if Nat.beq x s then (match v with
   | .slc 0 i _ _ _ _ _=>some i
   | _=>none) else Dc s r
def xa (s:Nat) (fr:aF) (H:ab):aF×ab :=
 match H with
 | []=>(fr,[])
 | l::r=>if l.lock then (fr,l::r) else match Dc s fr with
   | some i=>((my i fr l).1,(my i fr l).2::r)
   | none=>(fr,l::r)
noncomputable def lg (m:Nat) (fr:aF) (H:ab):aF×ab:=if lU m 4000 then ((Eu (bV fr m) H).1,if Nat.beq (Nat.shiftRight m 4003) 0 then (Eu (bV fr m) H).2 else GR (Nat.shiftRight m 4003) (Eu (bV fr m) H).2) else if lU m 4001 then xa (Nat.shiftRight m 4003) (bV fr m) H else if lU m 4002 then (match bM (bV fr m) (Nat.shiftRight m 4003) with | .bool false=>uY (bV fr m) H | _=>(bV fr m,H)) else (bV fr m,H)
def EE:aF→aF
 | []=>[]
 | (x,v)::r=>(x,jJ v)::EE r
noncomputable def px (m:Nat) (fr:aF) (H:ab):aF×ab:=if lU m 3999 then (EE (lg m fr H).1,(lg m fr H).2) else lg m fr H

def iter (body:aF→ab→Option (Ex×aF×ab)) (n:Nat):Nat→aF→ab→Option (Ex×aF×ab)
 | 0,_,_=>none
 | fu+1,fr,H=>match body fr H with
   | some (.normal,fr,H)=>iter body n fu (tidy n fr H).1 (tidy n fr H).2
   | r=>r

structure Cx where
 P:Program
 call:aO
 fu:Nat
 fn:FuncId
 nt:Nat
 kt:Nat→Nat
 ro:Option (Nat×Nat)
def Cx.here (cx:Cx) (H:ab):Bool :=
 match cx.ro with
 | none=>true
 | some (d,i)=>match aA H d i with
   | (0,.loop _)=>true
   | _=>false

def jo (fr:aF) (H:ab) (cx:Cx) (params:Array Tmp) (assign body:Code):ab :=
 jC H (.loop { state:=.ready,pending:=none,fn:=cx.fn,nt:=cx.nt,fr,params:=params.toList,assign,body })

def yl:Option Code→Option Ex
 | none=>some .normal
 | some (.exit id)=>some (.exit id)
 | some (.goto l)=>some (.goto l)
 | some .ret=>some .ret
 | _=>none

noncomputable def exec (cx:Cx):Code→aF→ab→Option (Ex×aF×ab)
 | .skip,fr,H=>some (.normal,fr,H)
 | .label _,fr,H=>some (.normal,fr,H)
 | .region id ops draw,fr,H =>
   match (if draw then (if gh ops (Region.before ops) then gJ cx.P cx.nt cx.call ops (Region.before ops) 0 ops.toList fr (om H (c5 ops.toList)) (a8 H) [] else none) else fh cx.P cx.nt cx.call ops ops.toList fr H) with
   | some (fr,H)=>some (.normal,px (cx.kt id) fr H)
   | none=>none
 | .seq a b,fr,H=>match exec cx a fr H with
   | some (.normal,fr,H)=>exec cx b fr H
   | r=>r
 | .cond c a b,fr,H=>match bZ fr c with
   | .bool true=>exec cx a fr H
   | .bool false=>exec cx b fr H
   | _=>none
 | .block id b,fr,H=>match exec cx b fr H with
   | some (.exit id',fr,H)=>if Nat.beq id' id then some (.normal,fr,H) else some (.exit id',fr,H)
   | r=>r
 | .loop b,fr,H=>iter (exec cx b) (a8 H) cx.fu fr H
 | .rangeFunc f params assign body,fr,H =>
   match bZ fr f with
   | .fn (.func g) a b =>
     if !cx.here H || aN H 0 then none else
     match cx.call (.fn g) (a++(.yld 0 (a8 H)::b)) (jo fr H cx params assign body) with
     | some (_,H1)=>match aA H1 0 (a8 H) with
       | (0,.loop l) =>
         if l.state == .busy then none else
         match yl l.pending with
         | some e=>some (e,fr,dS H1 0 (a8 H))
         | none=>none
       | _=>none
     | none=>none
   | _=>none
 | .exit id,fr,H=>some (.exit id,fr,H)
 | .scope b,fr,H=>match exec cx b fr H with
   | some (.goto _,_,_)=>none
   | r=>r
 | .goto l,fr,H=>some (.goto l,fr,H)
 | .ret,fr,H=>some (.ret,fr,H)
 | .refuse _,_,_=>none

def dK   (bs:List (Nat×an)):Nat→AV→AV
 | 0,_=>.undef
 | n + 1,v=>match v with
   | .ptr d i ver off=>match d with
     | d+1=>.ptr d i ver off
     | 0 => match aw bs i with
       | (w,.row r)=>if Nat.beq w ver then (match r with
         | .I k l=>.ptrT none (.I k l) off
         | .F f m=>.ptrT none (.F f m) off
         | .M l=>if fT l then .ptrT none (.M l) off else .ptrT (some 0) (.M (mapM' (dK bs n) l)) off
         | .G l=>.ptrT (some 0) (.G (l.map (dK bs n))) off) else .undef
       | _=>.undef
   | .slc d i ver off sz len cap=>match d with
     | d+1=>.slc d i ver off sz len cap
     | 0 => match aw bs i with
       | (w,.row r)=>if Nat.beq w ver∧off+len*sz≤r.len then (match r.sub off (len*sz) with
         | .I k l=>.slcT none (.I k l) sz len (cap == some len)
         | .F f m=>.slcT none (.F f m) sz len (cap == some len)
         | .M l=>if fT l then .slcT none (.M l) sz len (cap == some len) else .slcT (some 0) (.M (mapM' (dK bs n) l)) sz len (cap == some len)
         | .G l=>.slcT (some 0) (.G (l.map (dK bs n))) sz len (cap == some len)) else .undef
       | _=>.undef
   | .ptrT s r off=>match s with
     | none=>.ptrT none r off
     | some (s+1)=>.ptrT (some s) r off
     | some 0=>match r with
       | .G l=>.ptrT (some 0) (.G (l.map (dK bs n))) off
       | .M l=>if fT l then .ptrT none (.M l) off else .ptrT (some 0) (.M (mapM' (dK bs n) l)) off
       | r=>.ptrT none r off
   | .slcT s r sz len full=>match s with
     | none=>.slcT none r sz len full
     | some (s+1)=>.slcT (some s) r sz len full
     | some 0=>match r with
       | .G l=>.slcT (some 0) (.G (l.map (dK bs n))) sz len full
       | .M l=>if fT l then .slcT none (.M l) sz len full else .slcT (some 0) (.M (mapM' (dK bs n) l)) sz len full
       | r=>.slcT none r sz len full
   | .map d i=>match d with
     | d+1=>.map d i
     | 0=>.undef
   | .yld d i=>match d with
     | d+1=>.yld d i
     | 0=>.undef
   | .fn f a b=>.fn f (a.map (dK bs n)) (b.map (dK bs n))
   | .agg r=>match r with
     | .G l=>.agg (.G (l.map (dK bs n)))
     | .M l=>.agg (.M (mapM' (dK bs n) l))
     | r=>.agg r
   | .tup l=>.tup (l.map (dK bs n))
   | v=>v

def ev:Nat→List AV→aF
 | _,[]=>[]
 | x,v::l=>(x,mU 1 v)::ev (x+1) l

def gE (P:Program) (fr:aF) (H:ab):List ResultVar→Option (List AV)
 | []=>some []
 | .tmp t::r=>(gE P fr H r).map (bM fr t::·)
 | .cell a t::r=>match pA P H t (bM fr a) with
   | some v=>(gE P fr H r).map (v::·)
   | none=>none
def one:List AV→AV
 | [v]=>v
 | l=>.tup l

def jK (nt:Nat) (fr:aF):List Tmp→List AV→Option aF
 | [],[]=>some fr
 | t::ts,v::vs=>if Nat.blt t nt then jK nt (uQ fr t v) ts vs else none
 | _,_=>none

def cZ:Ex→Option Code
 | .normal=>none
 | .exit id=>some (.exit id)
 | .goto l=>some (.goto l)
 | .ret=>some .ret

def kL (k:Nat):aF→aF
 | []=>[]
 | (x,v)::r=>(x,mU k v)::kL k r

noncomputable def db (P:Program) (ora:aO→FuncId→List AV→ab→Option (AV×ab)) (KT:FuncId→Nat→Nat) (fu:Nat):Nat→aO
 | _,.mode,_,_=>(ora (fun _ _ _=>none) 1000000 [] []).map fun _=>(.undef,[])
 | 0,_,_,_=>none
 | n + 1,.fn f,args,H=>match ora (db P ora KT fu n) f args H with
   | some r=>some r
   | none => match P.funcs[f]? with
     | none=>none
     | some fn=>match fn.body with
       | none=>none
       | some c=>if Nat.ble args.length fn.ntmps then
         match exec ⟨P,db P ora KT fu n,fu,f,fn.ntmps,KT f,none⟩ c (ev 0 args) (⟨false,[]⟩::H) with
         | some (e,fr,l::H') =>
           (match e with
           | .normal | .ret=>match gE P fr (l::H') fn.results.toList with
             | some vs=>some (dK l.bs 5 (one vs),H')
             | none=>none
           | _=>none)
         | _=>none
         else none
 | n + 1,.round  d i,args,H=>match aA H d i with
   | (0, .loop l) =>
     if aN H d then none else
     match l.state with
     | .ready => match jK l.nt (kL (d+1) l.fr) l.params (args.map (mU 1)) with
       | some fr => match exec ⟨P,db P ora KT fu n,fu,l.fn,l.nt,KT l.fn,some (d+1,i)⟩ l.assign fr (⟨false,[]⟩::H) with
         | some (.normal,fr,H1)=>match aA H1 (d+1) i with
           | (0, .loop l1)=>match l1.state with
             | .ready =>
               match exec ⟨P,db P ora KT fu n,fu,l.fn,l.nt,KT l.fn,some (d+1,i)⟩ l.body fr (dF H1 (d+1) i (0,.loop { l1 with state:=.busy })) with
               | some (e,_,_::H2)=>match aA H2 d i with
                 | (0,.loop l2)=>some (.bool (cZ e).isNone,dF H2 d i (0,.loop { l2 with state:=if (cZ e).isNone then .ready else .done,pending:=cZ e }))
                 | _=>none
               | _=>none
             | _=>none
           | _=>none
         | _=>none
       | none=>none
     | _=>none
   | _=>none

end Go.Eng
