/- The engine, part A: abstract values, the abstract heap, the abstract interpreter. No statement is proved here. -/
import Derived.RangeFuncLeaves
import Derived.Test.YtgphpjdchnfjlaaDoorV6EngGl
import Derived.OrdersIn
import Derived.RangeFuncRecord
namespace Go.Eng
theorem wO {p:Prop} (h:p:=by omega):p:=h
theorem nP:(∀ {α:Type} (a b:α),(some a=some b)=(a=b))∧(∀ {α β:Type} (a c:α) (b d:β),((a,b)=(c,d))=(a=c∧b=d)):=⟨fun _ _=>Option.some.injEq _ _,fun _ _ _ _=>Prod.mk.injEq _ _ _ _⟩

mutual
inductive AV where
 | undef
 | bool (b:Bool)
 | int (k:IntKind) (n:Int)
 | str (s:ByteArray)
 | nilp | nils | nilm | nilf
 | ptr (d i v off:Nat)
 | ptrT (s:Option Nat) (r:Row) (off:Nat)
 | slc (d i v off sz len:Nat) (cap:Option Nat)
 | slcT (s:Option Nat) (r:Row) (sz len:Nat) (full:Bool)
 | map (d i:Nat)
 | yld (d i:Nat)
 | fn (f:Fn) (first cap:List AV)
 | agg (r:Row)
 | tup (l:List AV)
inductive Row where
 | I (k:IntKind) (l:List Int)
 | G (l:List AV)
 | F (f:Nat→AV) (n:Nat)
 | M (l:List db)
inductive db where
 | one (v:AV)
 | arr (k:IntKind) (z:Nat→Int) (n:Nat)
end

instance:Inhabited AV:=⟨.undef⟩
instance:Inhabited Row:=⟨.G []⟩

def aP:db→Nat
 | .one _=>1
 | .arr _ _ n=>n
def ay:List db→Nat
 | []=>0
 | s::r=>aP s+ay r
def getM:List db→Nat→AV
 | [],_=>.undef
 | .one v::_,0=>v
 | .one _::r,j+1=>getM r j
 | .arr k z n::r,j=>if j<n then .int k (z j) else getM r (j-n)
def mapM' (f:AV→AV):List db→List db
 | []=>[]
 | .one v::r=>.one (f v)::mapM' f r
 | .arr k z n::r=>.arr k z n::mapM' f r
def fI:List db→Bool
 | []=>true
 | .one _::_=>false
 | .arr _ _ _::r=>fI r
def Row.len:Row→Nat
 | .I _ l=>l.length
 | .G l=>l.length
 | .F _ n=>n
 | .M l=>ay l
def Row.get:Row→Nat→AV
 | .I k l,j=>.int k (l.getD j 0)
 | .G l,j=>l.getD j .undef
 | .F f _,j=>f j
 | .M l,j=>getM l j

def dF (g:Nat→AV):Nat→Nat→List AV
 | _,0=>[]
 | o,n+1=>g o::dF g (o+1) n
def Row.toList:Row→List AV
 | .I k l=>l.map (.int k)
 | .G l=>l
 | .F f n=>dF f 0 n
 | .M l=>dF (getM l) 0 (ay l)
def Row.ints:Row→Option (IntKind×(Nat→Int))
 | .I k l=>some (k,fun j=>l.getD j 0)
 | .M [.arr k z _]=>some (k,z)
 | _=>none
def yo:Row→Bool
 | .M _=>true
 | _=>false
def qd:List AV→List db→List db
 | [],r=>r
 | v::l,r=>.one v::qd l r
def jI:List db→Nat→AV→List db
 | [],_,_=>[]
 | .one _::r,0,v=>.one v::r
 | .one u::r,j+1,v=>.one u::jI r j v
 | .arr k z n::r,j,v=>if j<n then (match v with
    | .int k' x=>if k'=k then .arr k (fun i=>if i=j then x else z i) n::r else qd (dF (fun i=>if i=j then v else .int k (z i)) 0 n) r
    | _=>qd (dF (fun i=>if i=j then v else .int k (z i)) 0 n) r)
   else .arr k z n::jI r (j-n) v
def xI:List Int→Bool
 | []=>true
 | x::l=>x == 0 && xI l
def PY (l:List Int):Nat→Int:=if xI l then fun _=>0 else fun j=>l.getD j 0
def dk (k:IntKind):List AV→List Int×List AV
 | .int k' n::r=>if k'=k then (match dk k r with | (a,b)=>(n::a,b)) else ([],.int k' n::r)
 | l=>([],l)
def ia:Nat→List AV→List db
 | 0,l=>qd l []
 | _,[]=>[]
 | f+1,.int k n::r=>match dk k r with
   | (a,b)=>if Nat.ble 7 a.length then .arr k (PY (n::a)) (a.length+1)::ia f b else .one (.int k n)::ia f r
 | f+1,v::r=>.one v::ia f r

def sI (k:IntKind):List AV→Option (List Int)
 | []=>some []
 | .int k' n::r=>if k'=k then (sI k r).map (n::·) else none
 | _=>none
def Row.ofList:List AV→Row
 | .int k n::r=>match sI k r with
   | some l=>.I k (n::l)
   | none=>.G (.int k n::r)
 | l=>.G l

def kU:List db→Nat→Nat→Option (IntKind×(Nat→Int))
 | [],_,_=>none
 | .one _::r,o+1,n=>kU r o n
 | .one _::_,0,_=>none
 | .arr k z m::r,o,n=>if o+n≤m then some (k,fun j=>z (o+j)) else if m≤o then kU r (o-m) n else none
def Row.sub (r:Row) (o n:Nat):Row :=
 match r with
 | .I k l=>.I k ((l.drop o).take n)
 | .G l=>.G ((l.drop o).take n)
 | .F f _=>.F (fun j=>f (o+j)) n
 | .M [.arr k z _]=>.M [.arr k (fun j=>z (o+j)) n]
 | .M l=>if Nat.beq o 0 && Nat.beq (ay l) n then .M l else match kU l o n with
   | some (k,z)=>.M [.arr k z n]
   | none=>.G (dF (getM l) o n)

def gN:AV→Bool
 | .undef | .bool _ | .int _ _ | .str _ | .nilp | .nils | .nilm | .nilf=>true
 | .ptrT s _ _=>s.isNone
 | .slcT s _ _ _ _=>s.isNone
 | .agg (.I ..) | .agg (.F ..)=>true
 | .agg (.M l)=>fI l
 | _=>false

def Row.cut (r:Row) (o n:Nat):Row :=
 match r with
 | .G l=>Row.ofList ((l.drop o).take n)
 | .M l=>if Nat.ble n 8 then Row.ofList (dF (getM l) o n) else if Nat.beq o 0 && Nat.beq (ay l) n then .M l else (Row.M l).sub o n
 | r=>r.sub o n

def Row.set (r:Row) (j:Nat) (v:AV):Row :=
 match r,v with
 | .I k l,.int k' n=>if k'=k then .I k (l.set j n) else .G ((l.map (.int k)).set j v)
 | .I k l,v=>.G ((l.map (.int k)).set j v)
 | .G l,v=>.G (l.set j v)
 | .F f n,v=>.F (fun i=>if i=j then (if gN v then v else .undef) else f i) n
 | .M l,v=>.M (jI l j v)
def Row.cN (r:Row) (j:Nat):List AV→Row
 | []=>r
 | v::l=>(r.set j v).cN (j+1) l
def Row.uq (r s:Row):Option Row :=
 match r.ints,s.ints with
 | some (k,z),some (k',z')=>if k'=k then some (.M [.arr k (fun i=>if i<r.len then z i else z' (i-r.len)) (r.len+s.len)]) else none
 | _,_=>none
def ju:AV→AV
 | .slcT none (.I k l) sz m _=>.slcT none (.M [.arr k (fun j=>l.getD j 0) l.length]) sz m false
 | .slcT none (.M [.arr k z n]) sz m _=>.slcT none (.M [.arr k z n]) sz m false
 | v=>v
def qG (n i:Nat):Nat:=if Nat.beq n 1 then 0 else i
def Row.app (r s:Row):Row :=
 match r,s with
 | .M l,s=>(match (Row.M l).uq s with | some q=>q | none=>.G ((Row.M l).toList++s.toList))
 | .I k l,.M m=>(match (Row.I k l).uq (.M m) with | some q=>q | none=>.G ((Row.I k l).toList++(Row.M m).toList))
 | .I k l,.I k' l'=>if k'=k then .I k (l++l') else .G (l.map (.int k)++l'.map (.int k'))
 | .F f n,s=>.F (fun i=>if Nat.blt i n then f i else if gN (s.get (qG s.len (i-n))) then ju (s.get (qG s.len (i-n))) else .undef) (n+s.len)
 | r,s=>.G (r.toList++s.toList)

def om (k:Nat):AV→AV
 | .ptr d i v off=>.ptr (d+k) i v off
 | .ptrT s r off=>.ptrT (s.map (· + k)) r off
 | .slc d i v off sz len cap=>.slc (d+k) i v off sz len cap
 | .slcT s r sz len full=>.slcT (s.map (· + k)) r sz len full
 | .map d i=>.map (d+k) i
 | .yld d i=>.yld (d+k) i
 | .agg (.I a l)=>.agg (.I a l)
 | .fn _ _ _ | .agg _ | .tup (_::_)=>.undef
 | v=>v
def PJ (k:Nat) (v:AV):AV :=
 match v with
 | .fn f a b=>.fn f (a.map (om k)) (b.map (om k))
 | .agg (.G l)=>.agg (.G (l.map (om k)))
 | .agg (.M l)=>.agg (.M (mapM' (om k) l))
 | .agg r=>.agg r
 | v=>om k v
def nr (k:Nat) (v:AV):AV :=
 match k with
 | 0=>v
 | k+1=>PJ (k+1) v
def BP (k:Nat):Row→Row
 | .I a l=>.I a l
 | .G l=>.G (l.map (om k))
 | .F f n=>.F f n
 | .M l=>.M (mapM' (om k) l)
def BO (k:Nat) (r:Row):Row :=
 match k with
 | 0=>r
 | k+1=>BP (k+1) r
def kg:Nat→Nat→AV→AV
 | 0,_,_=>.undef
 | n + 1,k,v=>match v with
   | .ptr d i v off=>if Nat.blt d k then .undef else .ptr (d-k) i v off
   | .ptrT none r off=>.ptrT none r off
   | .ptrT (some s) r off=>if Nat.blt s k then (match r with
     | .G l=>.ptrT (some 0) (.G (l.map (kg n (k-s)))) off
     | .M l=>if fI l then .ptrT none (.M l) off else .ptrT (some 0) (.M (mapM' (kg n (k-s)) l)) off
     | r=>.ptrT none r off) else .ptrT (some (s-k)) r off
   | .slc d i v off sz len cap=>if Nat.blt d k then .undef else .slc (d-k) i v off sz len cap
   | .slcT none r sz len full=>.slcT none r sz len full
   | .slcT (some s) r sz len full=>if Nat.blt s k then (match r with
     | .G l=>.slcT (some 0) (.G (l.map (kg n (k-s)))) sz len full
     | .M l=>if fI l then .slcT none (.M l) sz len full else .slcT (some 0) (.M (mapM' (kg n (k-s)) l)) sz len full
     | r=>.slcT none r sz len full) else .slcT (some (s-k)) r sz len full
   | .map d i=>if Nat.blt d k then .undef else .map (d-k) i
   | .yld d i=>if Nat.blt d k then .undef else .yld (d-k) i
   | .agg (.I a l)=>.agg (.I a l)
   | .fn _ _ _ | .agg _ | .tup (_::_)=>.undef
   | v=>v
def NT (k:Nat) (v:AV):AV :=
 match v with
 | .fn f a b=>.fn f (a.map (kg 4 k)) (b.map (kg 4 k))
 | .agg (.G l)=>.agg (.G (l.map (kg 4 k)))
 | .agg (.M l)=>.agg (.M (mapM' (kg 4 k) l))
 | .agg r=>.agg r
 | v=>kg 4 k v
def Qp (k:Nat) (v:AV):AV :=
 match k with
 | 0=>v
 | k+1=>NT (k+1) v
def we (k:Nat):Row→Row
 | .I a l=>.I a l
 | .G l=>.G (l.map (kg 4 k))
 | .F f n=>.F f n
 | .M l=>.M (mapM' (kg 4 k) l)

def jd (k:Nat) (r:Row):Row :=
 match k with
 | 0=>r
 | k+1=>we (k+1) r

abbrev aA:=List (Nat×AV)
def bM:aA→Nat→AV
 | [],_=>.undef
 | (x,v)::r,y=>if Nat.beq x y then v else bM r y
def uv:aA→Nat→AV→aA
 | [],y,u=>[(y,u)]
 | (x,v)::r,y,u=>if Nat.ble y x then (if Nat.beq x y then (y,u)::r else (y,u)::(x,v)::r) else (x,v)::uv r y u
def ir (m x:Nat):Bool:=Nat.beq (Nat.land (Nat.shiftRight m x) 1) 1
noncomputable def bT (fr:aA) (m:Nat):aA:=List.rec (motive:=fun _=>aA) [] (fun p _ ih=>Prod.rec (motive:=fun _=>aA) (fun x _=>Bool.rec (motive:=fun _=>aA) (p::ih) ih (Nat.beq (Nat.land (Nat.shiftRight m x) 1) 1)) p) fr

structure ot where
 state:LoopState
 pending:Option Code
 fn:FuncId
 nt:Nat
 fr:aA
 params:List Tmp
 assign:Code
 body:Code

inductive KK where
 | num (k:IntKind)
 | str (n:Nat)
inductive an where
 | dead
 | row (r:Row)
 | map (es:List (AV×AV))
 | fmap (q:KK) (h:List Int→Bool) (g:List Int→Int) (c:Nat)
 | loop (l:ot)

structure bJ where
 lock:Bool
 bs:List (Nat×an)
abbrev ab:=List bJ

def au:List (Nat×an)→Nat→Nat×an
 | [],_=>(0,.dead)
 | b::_,0=>b
 | _::r,i+1=>au r i
def bQ:List (Nat×an)→Nat→Nat×an→List (Nat×an)
 | [],_,_=>[]
 | _::r,0,x=>x::r
 | b::r,i+1,x=>b::bQ r i x
def az:ab→Nat→Nat→Nat×an
 | [],_,_=>(0,.dead)
 | l::_,0,i=>au l.bs i
 | _::r,d+1,i=>az r d i
def aL:ab→Nat→Bool
 | [],_=>true
 | l::_,0=>l.lock
 | _::r,d+1=>aL r d
def eh:ab→Nat→Nat→Nat×an→ab
 | [],_,_,_=>[]
 | l::r,0,i,x=>{ l with bs:=bQ l.bs i x } :: r
 | l::r,d+1,i,x=>l::eh r d i x
def ev (H:ab) (d i:Nat):ab:=eh H d i ((az H d i).1,.dead)
def jm:ab→an→ab
 | [],b=>[⟨false,[(0,b)]⟩]
 | l::r,b=>{ l with bs:=l.bs++[(0,b)] } :: r
def bz:ab→Nat→an→ab
 | [],_,_=>[]
 | l::r,0,b=>{ l with bs:=l.bs++[(0,b)] } :: r
 | l::r,d+1,b=>l::bz r d b
def ao:ab→Nat→Nat
 | [],_=>0
 | l::_,0=>l.bs.length
 | _::r,d+1=>ao r d
def aZ:ab→Nat
 | []=>0
 | l::_=>l.bs.length
def bF:ab→ab
 | []=>[]
 | l::r=>{ l with lock:=true } :: bF r

def dg (H:ab) (d i v:Nat):Option Row :=
 match az H d i with
 | (ver,.row r)=>if Nat.beq ver v then some r else none
 | _=>none

def sb:Value→AV
 | .bool b=>.bool b
 | .int k n=>.int k n
 | .string s=>.str s
 | .pointer none=>.nilp
 | .slice none 0 0=>.nils
 | .map none=>.nilm
 | .nilFunc=>.nilf
 | _=>.undef
def ko:Value→AV
 | .bool b=>.bool b
 | .int k n=>.int k n
 | .string s=>.str s
 | .pointer none=>.nilp
 | .slice none 0 0=>.nils
 | .map none=>.nilm
 | .nilFunc=>.nilf
 | .func (.func f) ca cb=>if ca.isEmpty && cb.isEmpty then .fn (.func f) [] [] else .undef
 | .agg cs=>if cs.toList.all Value.oneCell' then .agg (Row.ofList (cs.toList.map sb)) else .undef
 | .tuple cs=>if cs.isEmpty then .tup [] else .undef
 | _=>.undef

def b5 (fr:aA):Operand→AV
 | .tmp t=>bM fr t
 | .const v=>ko v
 | .global _=>.undef
 | .func f=>.fn (.func f) [] []

def AV.row:AV→Option Row
 | .agg r=>some r
 | .int k n=>some (.I k [n])
 | .undef | .tup _=>none
 | v=>some (.G [v])

def eX (P:Program) (t:TypeId):Option Bool :=
 match P.underlying t with
 | some (.struct _) | some (.array _ _)=>some true
 | some _=>some false
 | none=>none
def bE (P:Program) (t:TypeId):Option Nat:=(P.info? t).map (·.size)
def cX (P:Program) (t:TypeId):Option AV:=((P.info? t).bind (·.zero)).map ko

inductive Delta where
 | bA
 | push (b:an)
 | set (d i:Nat) (b:Nat×an)
 | heap (H:ab)
def Delta.on (δ:Delta) (H:ab):ab :=
 match δ with
 | .bA=>H
 | .push b=>jm H b
 | .set d i b=>eh H d i b
 | .heap H=>H

inductive PN where
 | fn (f:FuncId)
 | round (d i:Nat)
 | mode
abbrev aK:=PN→List AV→ab→Option (AV×ab)

def gU (op:BinOp) (k:IntKind) (x y:Int):Option AV :=
 match op with
 | .add=>some (.int k (k.wrap (x+y)))
 | .sub=>some (.int k (k.wrap (x-y)))
 | .mul=>some (.int k (k.wrap (x*y)))
 | .quo=>if y=0 then none else some (.int k (k.wrap (x.tdiv y)))
 | .rem=>if y=0 then none else some (.int k (x.tmod y))
 | .and=>some (.int k (k.wrap (BitVec.ofInt k.bits x &&& BitVec.ofInt k.bits y).toNat))
 | .or=>some (.int k (k.wrap (BitVec.ofInt k.bits x ||| BitVec.ofInt k.bits y).toNat))
 | .xor=>some (.int k (k.wrap (BitVec.ofInt k.bits x ^^^ BitVec.ofInt k.bits y).toNat))
 | .andNot=>some (.int k (k.wrap (BitVec.ofInt k.bits x &&& ~~~(BitVec.ofInt k.bits y)).toNat))
 | .eql=>some (.bool (x == y))
 | .neq=>some (.bool (x != y))
 | .lss=>some (.bool (x<y))
 | .leq=>some (.bool (x≤y))
 | .gtr=>some (.bool (x > y))
 | .geq=>some (.bool (x≥y))
 | _=>none

def fM (P:Program) (g:TypeId→Option Nat) (off:Nat):List Field→Option Nat
 | []=>some off
 | f::fs=>if f.name != "_" && Nat.beq f.offset off then (match g f.type with
   | some s=>fM P g (off+s) fs
   | none=>none) else none
def cA (P:Program):Nat→TypeId→Option Nat
 | 0,_=>none
 | n + 1,t=>match P.underlying t with
   | some (.int _)=>if bE P t=some 1 then some 1 else none
   | some (.array len e)=>match cA P n e with
     | some s=>if bE P t=some (len*s) then some (len*s) else none
     | none=>none
   | some (.struct fs)=>if P.stoodInHeld t then none else match fM P (cA P n) 0 fs.toList with
     | some s=>if bE P t=some s then some s else none
     | none=>none
   | _=>none

def eS:List Int→List Int→Bool
 | [],[]=>true
 | x::a,y::b=>(x == y) && eS a b
 | _,_=>false

def allEq (z z':Nat→Int):Nat→Bool
 | 0=>true
 | n+1=>allEq z z' n && (z n == z' n)
def M8 (P:Program) (t:TypeId) (r s:Row):Option Bool :=
 match r.ints,s.ints with
 | some (k,z),some (k',z')=>if k=k'∧cA P 20 t=some r.len∧eX P t=some true∧r.len=s.len then some (allEq z z' r.len) else none
 | _,_=>none
def Ax (P:Program) (t:TypeId) (x y:AV):Option Bool :=
 match x,y with
 | .bool a,.bool b=>(match P.underlying t with | some .bool=>some (a == b) | _=>none)
 | .nils,.nils | .nils,.slcT .. | .nils,.slc .. | .slcT ..,.nils | .slc ..,.nils =>
   (match P.underlying t with
   | some (.slice _)=>(match x,y with
     | .nils,.nils=>some true
     | .nils,.slcT _ _ _ n _=>if 0<n then some false else none
     | .slcT _ _ _ n _,.nils=>if 0<n then some false else none
     | _,_=>some false)
   | _=>none)
 | .nilp,.nilp | .nilp,.ptr .. | .nilp,.ptrT .. | .ptr ..,.nilp | .ptrT ..,.nilp =>
   (match P.underlying t with
   | some (.pointer _)=>some (match x,y with | .nilp,.nilp=>true | _,_=>false)
   | _=>none)
 | .agg (.I k a),.agg (.I k' b)=>if k=k'∧cA P 20 t=some a.length∧eX P t=some true∧a.length=b.length then some (eS a b) else none
 | .agg (.M l),.agg s=>M8 P t (.M l) s
 | .agg (.I k a),.agg (.M l)=>M8 P t (.I k a) (.M l)
 | _,_=>none

def jQ (P:Program) (op:BinOp) (t:TypeId) (x y:AV):Option AV :=
 match op,x,y with
 | .shl,.int k a,.int _ b=>if b<0 then none else some (.int k (k.wrap (a*2 ^ (min b.toNat k.bits))))
 | .shr,.int k a,.int _ b=>if b<0 then none else some (.int k (a.fdiv (2 ^ (min b.toNat k.bits))))
 | op,.int k a,.int k' b=>if k=k' then gU op k a b else none
 | .eql,x,y=>(Ax P t x y).map .bool
 | .neq,x,y=>(Ax P t x y).map fun b=>.bool (!b)
 | _,_,_=>none

def PX (op:UnOp) (x:AV):Option AV :=
 match op,x with
 | .not,.bool b=>some (.bool !b)
 | .neg,.int k n=>some (.int k (k.wrap (0-n)))
 | _,_=>none

def oc {α:Type} (l:List α):Nat→List α
 | 0=>[]
 | n+1=>l++oc l n
def dT (z:Row) (n:Nat):Row :=
 match z with
 | .I k l=>.I k (oc l n)
 | z=>.G (oc z.toList n)
def FK (l:List AV) (n:Nat):Row :=
 match l with
 | [v]=>if gN v then .F (fun _=>v) n else .G (oc l n)
 | l=>.G (oc l n)
def dM (z:Row) (n:Nat):Row :=
 match z with
 | .I k l=>if xI l then .M [.arr k (fun _=>0) (n*l.length)] else .I k (oc l n)
 | z=>FK z.toList n
def ke (r:Row):Row :=
 match r with
 | .I k l=>if Nat.ble 8 l.length then .M [.arr k (PY l) l.length] else .I k l
 | .G l=>if (ia l.length l).length == l.length then .G l else .M (ia l.length l)
 | r=>r
def xO (z:Nat→Int) (off:Nat) (z':Nat→Int) (n:Nat):Nat→Int:=fun i=>if off≤i∧i<off+n then z' (i-off) else z i
def yX:List db→Nat→Nat→List db→Option (List db)
 | [],_,_,_=>none
 | .one v::r,o+1,n,q=>(yX r o n q).map (.one v::·)
 | .one _::_,0,_,_=>none
 | .arr k z m::r,o,n,q=>if Nat.beq o 0 && Nat.beq m n then some (q++r) else if Nat.ble m o then (yX r (o-m) n q).map (.arr k z m::·) else none
def J5 (q:Row):Option (List db) :=
 match ke q with
 | .M l=>some l
 | _=>none
def w8 (l:List db) (off:Nat) (q:Row):Row :=
 if Nat.ble 9 q.len then (match J5 q with
  | some qs=>if Nat.beq off 0 && Nat.beq (ay l) q.len then .M qs else (match yX l off q.len qs with
    | some l'=>.M l'
    | none=>(Row.M l).cN off q.toList)
  | none=>(Row.M l).cN off q.toList)
 else (Row.M l).cN off q.toList
def jH (r:Row) (off:Nat) (q:Row):Row :=
 match r with
 | .M l=>(match l with
   | [.arr k z m]=>(match q with
     | .M [.arr k' z' n]=>if k'=k then .M [.arr k (xO z off z' n) m] else w8 l off q
     | _=>w8 l off q)
   | _=>w8 l off q)
 | r=>r.cN off q.toList
def qF:AV→Bool
 | .slcT none (.M [.arr _ _ _]) _ _ _=>true
 | .slcT none (.I _ _) _ _ _=>true
 | _=>false
def qV (sy:Bool) (r:Row):Row :=
 match r with
 | .I k l=>if sy then .M [.arr k (fun j=>l.getD j 0) l.length] else .I k l
 | .G [v]=>if sy && qF v then .F (fun _=>ju v) 1 else .G [v]
 | r=>r
def sk (place:Nat→Option (Nat×Nat)) (r:Row):List (Nat×AV)→Option Row
 | []=>some r
 | (i,v)::rest=>match place i with
   | none=>none
   | some (off,size)=>match v.row with
     | some q=>if q.len=size∧off+q.len≤r.len then sk place (r.cN off q.toList) rest else none
     | none=>none

def jv (P:Program) (t:TypeId) (r:Row) (off:Nat):Option AV :=
 match eX P t,bE P t with
 | some true,some n=>if off+n≤r.len then some (.agg (r.cut off n)) else none
 | some false,_=>if off<r.len then some (r.get off) else none
 | _,_=>none

def Un (s:Option Nat) (v:AV):AV :=
 match s with
 | none=>v
 | some k=>nr k v

def oZ (P:Program) (H:ab) (t:TypeId) (a:AV):Option AV :=
 match a with
 | .ptr d i v off=>match dg H d i v with
   | some r=>(jv P t r off).map (nr d)
   | none=>none
 | .ptrT s r off=>(jv P t r off).map (Un s)
 | _=>none

def gp (P:Program) (H:ab) (t:TypeId) (a x:AV):Option Delta :=
 match a with
 | .ptr d i v off =>
   if aL H d then none else
   match dg H d i v,bE P t,x.row with
   | some r,some n,some q =>
     if q.len=n∧off+n≤r.len then
      match d,x with
      | d+1,.slc 0 j w o sz len cap=>if aL H 0 then none else match dg H 0 j w with
        | some q=>some (.heap (bz (eh (ev H 0 j) (d+1) i (v,.row (r.set off (.slc 0 (ao H (d+1)) 0 o sz len cap)))) (d+1) (.row (jd (d+1) q))))
        | none=>none
      | _,_=>some (.set d i (v,.row (jH r off (jd d q))))
     else none
   | _,_,_=>none
 | _=>none

def kP (P:Program):List Field→Option (List (Nat×Nat))
 | []=>some []
 | f::fs=>match bE P f.type,kP P fs with
   | some n,some l=>some ((f.offset,n)::l)
   | _,_=>none

def wa (P:Program) (sy:Bool) (t:TypeId) (parts:List (Nat×AV)):Option AV :=
 match cX P t,P.underlying t with
 | some (.agg z),some (.struct fs)=>match kP P fs.toList with
   | some l=>(sk (fun i=>l[i]?) (if sy then ke z else z) parts).map .agg
   | none=>none
 | some (.agg z),some (.array _ e)=>match bE P e with
   | some n=>(sk (fun i=>some (i*n,n)) (if sy then ke z else z) parts).map .agg
   | none=>none
 | _,_=>none

def lz (a:AV) (n:Nat):Option AV :=
 match a with
 | .ptr d i v off=>some (.ptr d i v (off+n))
 | .ptrT s r off=>some (.ptrT s r (off+n))
 | _=>none

def iG (P:Program) (t:TypeId) (a:AV) (f:Nat):Option AV :=
 match P.underlying t with
 | some (.struct fs)=>match fs[f]? with
   | some g=>match bE P g.type with
     | some (_+1)=>lz a g.offset
     | _=>none
   | none=>none
 | _=>none

def iQ (P:Program) (t:TypeId) (x:AV) (i:Int):Option AV :=
 match P.underlying t,x with
 | some (.array n e),x=>match bE P e with
   | some z=>if 0≤i∧i<n then lz x (i.toNat*z) else none
   | none=>none
 | some (.slice e),.slc d j v off sz len _ =>
   if 0≤i∧i<len∧bE P e=some sz then some (.ptr d j v (off+i.toNat*sz)) else none
 | some (.slice e),.slcT s r sz len _ =>
   if 0≤i∧i<len∧bE P e=some sz then some (.ptrT s r (i.toNat*sz)) else none
 | _,_=>none

def pV (P:Program) (t:TypeId) (x:AV) (i:Int):Option AV :=
 match P.underlying t,x with
 | some (.array n e),.agg r=>match bE P e with
   | some z=>if 0≤i∧i<n then jv P e r (i.toNat*z) else none
   | none=>none
 | some .string,.str s=>if 0≤i then (match s[i.toNat]? with
   | some b=>some (.int .u8 b.toNat)
   | none=>none) else none
 | _,_=>none

def wj (P:Program) (t:TypeId) (x:AV) (f:Nat):Option AV :=
 match P.underlying t,x with
 | some (.struct fs),.agg r=>match fs[f]? with
   | some g=>jv P g.type r g.offset
   | none=>none
 | _,_=>none

def bound (o:Option AV) (dflt top:Nat):Option Nat :=
 match o with
 | none=>some dflt
 | some (.int _ i)=>if 0≤i∧i≤top then some i.toNat else none
 | some _=>none

def ep (lo hi mx:Option AV) (len:Nat):Option (Nat×Nat×Option Nat) :=
 match mx with
 | none=>match bound hi len len with
   | some h=>match bound lo 0 h with
     | some l=>some (l,h,none)
     | none=>none
   | none=>none
 | some a=>match bound (some a) 0 len with
   | some m=>if hi.isSome then (match bound hi len m with
     | some h=>match bound lo 0 h with
       | some l=>some (l,h,some m)
       | none=>none
     | none=>none) else none
   | none=>none

def qk (P:Program) (t:TypeId) (x:AV) (lo hi mx:Option AV):Option AV :=
 match P.underlying t,x with
 | some (.slice e),.slc d j v off sz len cap =>
   match ep lo hi mx len with
   | some (l,h,mm)=>if bE P e=some sz then
      some (.slc d j v (off+l*sz) sz (h-l) (match mm with | none=>cap.map (· - l) | some m=>some (m-l))) else none
   | none=>none
 | some (.slice e),.slcT s r sz len full =>
   match ep lo hi mx len with
   | some (l,h,mm)=>if bE P e=some sz∧l*sz+(h-l)*sz≤r.len then
      some (.slcT s (r.sub (l*sz) ((h-l)*sz)) sz (h-l) (match mm with | none=>full && Nat.beq h len | some m=>Nat.beq h m)) else none
   | none=>none
 | some (.slice e),.nils =>
   match ep lo hi mx 0,bE P e with
   | some _,some _=>some .nils
   | _,_=>none
 | some (.array n e),.ptr d j v off =>
   match ep lo hi mx n with
   | some (l,h,mm)=>match bE P e with
     | some sz=>some (.slc d j v (off+l*sz) sz (h-l) (match mm with | none=>some (n-l) | some m=>some (m-l)))
     | none=>none
   | none=>none
 | _,_=>none

def uI (P:Program) (H:ab) (t:TypeId) (x:AV):Option Int :=
 match P.underlying t,x with
 | some (.array n _),_=>some n
 | some (.slice _),.nils=>some 0
 | some (.slice _),.slc _ _ _ _ _ len _=>some len
 | some (.slice _),.slcT _ _ _ len _=>some len
 | some (.map _ _),.nilm=>some 0
 | some (.map _ _),.map d i=>match az H d i with
   | (0,.map es)=>some es.length
   | (0,.fmap _ _ _ c)=>some c
   | _=>none
 | _,_=>none

def Lm (P:Program) (t:TypeId) (x:AV):Option Int :=
 match P.underlying t,x with
 | some (.slice _),.nils=>some 0
 | some (.slice _),.slc _ _ _ _ _ _ (some c)=>some c
 | _,_=>none

def eD (H:ab) (sz n:Nat) (x:AV):Option Row :=
 match x with
 | .nils=>if n=0 then some (.G []) else none
 | .slc d i v off sz' len _=>match dg H d i v with
   | some r=>if sz'=sz∧n≤len∧off+n*sz≤r.len then some (BO d (r.sub off (n*sz))) else none
   | none=>none
 | .slcT s r sz' len _=>if sz'=sz∧n≤len∧n*sz≤r.len then some (match s with | none=>r.sub 0 (n*sz) | some k=>BO k (r.sub 0 (n*sz))) else none
 | _=>none
def nL:AV→Option Nat
 | .nils=>some 0
 | .slc _ _ _ _ _ len _=>some len
 | .slcT _ _ _ len _=>some len
 | _=>none

def room:Nat:=2 ^ 46

def ES (P:Program) (sy:Bool) (nx:Nat) (e:TypeId) (s x:AV):Option (AV×Delta) :=
 match P.info? e,s,x with
 | some inf,.nils,.int _ k =>
   if 0≤k∧k.toNat≤room∧k.toNat*inf.bytes≤room∧0<inf.size∧((cX P e).bind AV.row).map Row.len=some inf.size then
    (if k=0 then some (.nils,.bA) else some (.slc 0 nx 0 0 inf.size k.toNat none,.push (.row (qV sy (.I .i64 [])))))
   else none
 | _,_,_=>none
def oB      (P:Program) (sy:Bool) (H:ab) (nx:Nat) (t u:TypeId) (s x:AV):Option (AV×Delta) :=
 match P.underlying t,P.underlying u with
 | some (.slice e),some (.int _)=>ES P sy nx e s x
 | some (.slice e),some (.slice _) =>
   match P.info? e,nL s,nL x with
   | some inf,some m,some n =>
     if n=0 then (match s,x with
      | .nils,_=>some (s,.bA)
      | .slc ..,_=>some (s,.bA)
      | .slcT ..,_=>some (s,.bA)
      | _,_=>none)
     else if (m+n)*inf.bytes≤room∧(m+n)≤room∧0<inf.bytes∧((cX P e).bind AV.row).map Row.len=some inf.size then
      match eD H inf.size n x with
      | none=>none
      | some new =>
        match s with
        | .nils=>some (.slc 0 nx 0 0 inf.size n none,.push (.row (qV sy new)))
        | .slcT _ _ _ _ true=>match eD H inf.size m s with
          | some old=>some (.slc 0 nx 0 0 inf.size (m+n) none,.push (.row (qV sy (old.app new))))
          | none=>none
        | .slc d i v off sz _ (some c) =>
          if c<m+n then
           match eD H inf.size m s with
           | some old=>some (.slc 0 nx 0 0 inf.size (m+n) none,.push (.row (qV sy (old.app new))))
           | none=>none
          else if aL H d then none else
           match dg H d i v with
           | some r=>if sz=inf.size∧off+(m+n)*sz≤r.len then
              some (.slc d i v off sz (m+n) (some c),.set d i (v,.row (r.cN (off+m*sz) (jd d new).toList)))
             else none
           | none=>none
        | .slc d i v off sz _ none =>
          if aL H d then none else
          match dg H d i v with
          | some r=>if sz=inf.size∧off+m*sz=r.len then
             some (.slc d i (v+1) 0 sz (m+n) none,.set d i (v+1,.row ((r.sub off (m*sz)).app (jd d new))))
            else none
          | none=>none
        | _=>none
     else none
   | _,_,_=>none
 | _,_=>none

def copyV (P:Program) (H:ab) (t:TypeId) (s x:AV):Option (AV×Delta) :=
 match P.underlying t with
 | some (.slice e) =>
   match bE P e,nL s,nL x with
   | some z,some m,some n =>
     match eD H z (min n m) x with
     | none=>none
     | some new =>
       match s with
       | .nils=>some (.int .i64 (min n m:Nat),.bA)
       | .slc d i v off sz _ _ =>
         if aL H d then none else
         match dg H d i v with
         | some r=>if sz=z∧off+(min n m)*sz≤r.len then
            some (.int .i64 (min n m:Nat),.set d i (v,.row (jH r off (jd d new))))
           else none
         | none=>none
       | _=>none
   | _,_,_=>none
 | _=>none

def r9 (P:Program) (H:ab) (t:TypeId) (s:AV):Option (AV×Delta) :=
 match P.underlying t,s with
 | some (.slice _),.nils=>some (.tup [],.bA)
 | some (.slice e),.slc d i v off sz len _ =>
   if aL H d then none else
   match (cX P e).bind AV.row,dg H d i v with
   | some z,some r=>if z.len=sz∧bE P e=some sz∧off+len*sz≤r.len then
      some (.tup [],if len=0 then .bA else .set d i (v,.row (if yo r then jH r off (dM z len) else r.cN off (dT z len).toList)))
     else none
   | _,_=>none
 | _,_=>none

def eG (mx:Bool) (k:IntKind) (x:Int):List AV→Option AV
 | []=>some (.int k x)
 | .int k' y::r=>if k=k' then eG mx k (if mx then (if y > x then y else x) else (if y<x then y else x)) r else none
 | _=>none
def nS (mx:Bool):List AV→Option AV
 | .int k x::r=>eG mx k x r
 | _=>none

def iT (P:Program) (sy:Bool) (nx:Nat) (t:TypeId) (l c:AV):Option (AV×Delta) :=
 match P.underlying t,l,c with
 | some (.slice e),.int _ l,.int _ c =>
   match P.info? e,(cX P e).bind AV.row with
   | some inf,some z =>
     if 0≤l∧l≤c∧c.toNat*inf.bytes≤room∧c.toNat≤room∧z.len=inf.size then
      some (.slc 0 nx 0 0 inf.size l.toNat (some c.toNat),.push (.row (if sy then dM z c.toNat else dT z c.toNat)))
     else none
   | _,_=>none
 | _,_,_=>none

def jl (P:Program) (nx:Nat) (t:TypeId) (len:Nat) (parts:List (Nat×AV)):Option (AV×Delta) :=
 match P.underlying t with
 | some (.slice e)=>match bE P e,(cX P e).bind AV.row with
   | some z,some zv =>
     if len*z≤2 ^ 24∧zv.len=z then
      (sk (fun i=>some (i*z,z)) (dT zv len) parts).map fun r=>(.slc 0 nx 0 0 z len (some len),.push (.row r))
     else none
   | _,_=>none
 | _=>none

def oX (x y:AV):Option Bool :=
 match x,y with
 | .int k a,.int k' b=>if k=k' then some (a == b) else none
 | .agg (.I k a),.agg (.I k' b)=>if k=k'∧a.length=b.length then some (eS a b) else none
 | _,_=>none
def fL (key:AV):List (AV×AV)→Nat→Option (Option Nat)
 | [],_=>some none
 | (k,_)::r,i=>match oX key k with
   | some true=>some (some i)
   | some false=>fL key r (i+1)
   | none=>none
def jG (P:Program) (t:TypeId) (x:AV):Bool :=
 match P.underlying t,x with
 | some (.int _),.int _ _=>true
 | some (.array _ _),.agg (.I _ l)=>cA P 20 t == some l.length
 | some (.struct _),.agg (.I _ l)=>cA P 20 t == some l.length
 | _,_=>false
def vj (H:ab) (m:AV):Option (Nat×List (AV×AV)) :=
 match m with
 | .nilm=>some (0,[])
 | .map d i=>match az H d i with
   | (0,.map es)=>some (d,es)
   | _=>none
 | _=>none
def nY:List (AV×AV)→Nat→AV
 | [],_=>.undef
 | e::_,0=>e.2
 | _::r,i+1=>nY r i
def og:List (AV×AV)→Nat→AV×AV→List (AV×AV)
 | [],_,_=>[]
 | _::r,0,x=>x::r
 | e::r,i+1,x=>e::og r i x
def nA:List (AV×AV)→Nat→List (AV×AV)
 | [],_=>[]
 | _::r,0=>r
 | e::r,i+1=>e::nA r i
def vo (H:ab) (m:AV):Option (KK×(List Int→Bool)×(List Int→Int)×Nat) :=
 match m with
 | .map d i=>match az H d i with
   | (0,.fmap q h g c)=>some (q,h,g,c)
   | _=>none
 | _=>none
def uH:KK→AV→Option (List Int)
 | .num k,.int k' n=>if k=k' then some [n] else none
 | .str m,.agg (.I .i64 l)=>if Nat.beq l.length m then some l else none
 | _,_=>none
def Om:AV→Option KK
 | .int k _=>some (.num k)
 | .agg (.I .i64 l)=>some (.str l.length)
 | _=>none
def yP:AV→Option Int
 | .int .i64 n=>some n
 | _=>none
def fp (h:List Int→Bool) (n:List Int) (b:Bool):List Int→Bool:=fun i=>if i=n then b else h i
def iy (g:List Int→Int) (n:List Int) (x:Int):List Int→Int:=fun i=>if i=n then x else g i
def uu (b:Bool) (c:Nat):Nat:=cond b c (c+1)
def xM (b:Bool) (c:Nat):Nat:=cond b (c-1) c
def s8 (P:Program) (t:TypeId):an :=
 match P.underlying t with
 | some (.map kt et)=>match (cX P kt).bind Om,(cX P et).bind yP with
   | some q,some _=>.fmap q (fun _=>false) (fun _=>0) 0
   | _,_=>.map []
 | _=>.map []
def ry (P:Program) (H:ab) (t:TypeId) (m key:AV) (ok:Bool):Option AV :=
 match P.underlying t with
 | some (.map kt et) =>
   if jG P kt key then
    match vo H m with
    | some (q,h,g,_)=>match uH q key,(cX P et).bind yP with
      | some n,some 0=>some (if ok then .tup [.int .i64 (g n),.bool (h n)] else .int .i64 (g n))
      | _,_=>none
    | none=>match vj H m,cX P et with
    | some (d,es),some z=>match fL key es 0 with
      | some (some i)=>some (if ok then .tup [nr d (nY es i),.bool true] else nr d (nY es i))
      | some none=>some (if ok then .tup [z,.bool false] else z)
      | none=>none
    | _,_=>none
   else none
 | _=>none
def jC (P:Program) (H:ab) (t:TypeId) (m key x:AV):Option Delta :=
 match P.underlying t,m with
 | some (.map kt _),.map d i =>
   if aL H d then none else
   if jG P kt key then
    match az H d i with
    | (0,.fmap q h g c)=>match uH q key,yP x with
      | some n,some y=>some (.set d i (0,.fmap q (fp h n true) (iy g n y) (uu (h n) c)))
      | _,_=>none
    | (0,.map es)=>match fL key es 0 with
      | some (some j)=>some (.set d i (0,.map (og es j (key,Qp d x))))
      | some none=>some (.set d i (0,.map (es++[(key,Qp d x)])))
      | none=>none
    | _=>none
   else none
 | _,_=>none
def oG (P:Program) (H:ab) (t:TypeId) (m key:AV):Option (AV×Delta) :=
 match P.underlying t,m with
 | some (.map kt _),.map d i =>
   if aL H d then none else
   if jG P kt key then
    match az H d i with
    | (0,.fmap q h g c)=>match uH q key with
      | some n=>some (.tup [],.set d i (0,.fmap q (fp h n false) (iy g n 0) (xM (h n) c)))
      | none=>none
    | (0,.map es)=>match fL key es 0 with
      | some (some j)=>some (.tup [],.set d i (0,.map (nA es j)))
      | some none=>some (.tup [],.set d i (0,.map es))
      | none=>none
    | _=>none
   else none
 | _,_=>none

def dS (fr:aA):List (Nat×Operand)→List (Nat×AV)
 | []=>[]
 | (i,x)::r=>(i,b5 fr x)::dS fr r
def kN (fr:aA):List Operand→List AV
 | []=>[]
 | x::r=>b5 fr x::kN fr r

def nf {α:Type} (call:aK) (a b:α):α :=
 match call .mode [] [] with
 | some _=>a
 | none=>b
def gF (P:Program) (call:aK) (fr:aA) (H:ab) (nx:Nat) (c:Call):Option (AV×Delta) :=
 match c.callee with
 | .value f=>match b5 fr f with
   | .fn (.func g) a b=>(call (.fn g) (a++(kN fr c.args.toList++b)) H).map fun (v,H)=>(v,.heap H)
   | .yld d i=>(call (.round d i) (kN fr c.args.toList) H).map fun (v,H)=>(v,.heap H)
   | _=>none
 | .builtin .len=>match c.args.toList,c.argTypes.toList with
   | x::_,t::_=>(uI P H t (b5 fr x)).map fun n=>(.int .i64 n,.bA)
   | _,_=>none
 | .builtin .cap=>match c.args.toList,c.argTypes.toList with
   | x::_,t::_=>(Lm P t (b5 fr x)).map fun n=>(.int .i64 n,.bA)
   | _,_=>none
 | .builtin .append=>match c.args.toList,c.argTypes.toList with
   | s::x::_,t::u::_=>oB P (nf call true false) H nx t u (b5 fr s) (b5 fr x)
   | _,_=>none
 | .builtin .copy=>match c.args.toList,c.argTypes.toList with
   | s::x::_,t::_=>copyV P H t (b5 fr s) (b5 fr x)
   | _,_=>none
 | .builtin .clear=>match c.args.toList,c.argTypes.toList with
   | s::_,t::_=>r9 P H t (b5 fr s)
   | _,_=>none
 | .builtin .delete=>match c.args.toList,c.argTypes.toList with
   | m::k::_,t::_=>oG P H t (b5 fr m) (b5 fr k)
   | _,_=>none
 | .builtin .min=>(nS false (kN fr c.args.toList)).map fun v=>(v,.bA)
 | .builtin .max=>(nS true (kN fr c.args.toList)).map fun v=>(v,.bA)
 | _=>none

def kp (o:Option AV):Option (AV×Delta):=o.map fun v=>(v,.bA)

def evalOp (P:Program) (call:aK) (fr:aA) (H:ab) (nx:Nat) (o:Oper):Option (AV×Delta) :=
 match o.op with
 | .move x | .assign x=>some (b5 fr x,.bA)
 | .pick c a b=>match b5 fr c with
   | .bool t=>some (if t then b5 fr a else b5 fr b,.bA)
   | _=>none
 | .alloc t=>((cX P t).bind AV.row).map fun z=>(.ptr 0 nx 0 0,.push (.row (nf call (ke z) z)))
 | .box _ x=>(b5 fr x).row.map fun r=>(.ptr 0 nx 0 0,.push (.row (nf call (ke r) r)))
 | .build t parts=>kp (wa P (nf call true false) t (dS fr parts.toList))
 | .buildSlice t len parts=>jl P nx t len (dS fr parts.toList)
 | .load t a=>kp (oZ P H t (b5 fr a))
 | .store t a x=>(gp P H t (b5 fr a) (b5 fr x)).map fun δ=>(.tup [],δ)
 | .nilCheck x=>match b5 fr x with
   | .ptr d i v off=>some (.ptr d i v off,.bA)
   | .ptrT s r off=>some (.ptrT s r off,.bA)
   | _=>none
 | .binOp op t x y _=>kp (jQ P op t (b5 fr x) (b5 fr y))
 | .unOp op _ x=>kp (PX op (b5 fr x))
 | .convert src dst x=>match P.underlying src,P.underlying dst,b5 fr x with
   | some _,some (.int k),.int _ n=>some (.int k (k.wrap n),.bA)
   | _,_,_=>none
 | .makeFunc fn first cap=>match fn with
   | .func g=>some (.fn (.func g) (kN fr first.toList) (kN fr cap.toList),.bA)
   | _=>none
 | .makeSlice t l c=>iT P (nf call true false) nx t (b5 fr l) (b5 fr c)
 | .slice t x lo hi mx=>kp (qk P t (b5 fr x) (lo.map (b5 fr)) (hi.map (b5 fr)) (mx.map (b5 fr)))
 | .fieldAddr t x f=>kp (iG P t (b5 fr x) f)
 | .field t x f=>kp (wj P t (b5 fr x) f)
 | .indexAddr t x i=>match b5 fr i with
   | .int _ n=>kp (iQ P t (b5 fr x) n)
   | _=>none
 | .index t x i=>match b5 fr i with
   | .int _ n=>kp (pV P t (b5 fr x) n)
   | _=>none
 | .makeMap t none=>some (.map 0 nx,.push (nf call (s8 P t) (.map [])))
 | .lookup t m k ok=>kp (ry P H t (b5 fr m) (b5 fr k) ok)
 | .mapUpdate t m k x | .insert t m k x=>(jC P H t (b5 fr m) (b5 fr k) (b5 fr x)).map fun δ=>(.tup [],δ)
 | .extract t ix=>match b5 fr t with
   | .tup l=>match l[ix]? with
     | some v=>some (v,.bA)
     | none=>none
   | _=>none
 | .call c=>gF P call fr H nx c
 | _=>none

inductive Want where
 | run | skip | lost
def lk (ops:Array Oper) (fr:aA) (o:Oper):Want :=
 match o.guard with
 | none=>.run
 | some (j,want)=>match (ops[j]?).bind (·.dst) with
   | none=>.lost
   | some d=>match bM fr d with
     | .bool b=>if b == want then .run else .skip
     | .tup _=>.skip
     | _=>.lost

def iu (nt:Nat) (fr:aA) (dst:Option Tmp) (v:AV):aA :=
 match dst with
 | some d=>if Nat.blt d nt then uv fr d v else fr
 | none=>fr

def eV (P:Program) (nt:Nat) (call:aK) (ops:Array Oper):List Oper→aA→ab→Option (aA×ab)
 | [],fr,H=>some (fr,H)
 | o :: r,fr,H=>match lk ops fr o with
   | .lost=>none
   | .skip=>eV P nt call ops r (iu nt fr o.dst (.tup [])) H
   | .run=>match evalOp P call fr H (aZ H) o with
     | none=>none
     | some (v,δ)=>eV P nt call ops r (iu nt fr o.dst v) (δ.on H)

inductive Touch where
 | none
 | blk (d i:Nat)
 | all
structure Rec where
 ix:Nat
 reads:Touch
 writes:Option (Nat×Nat)
def cQ (fr:aA) (o:Oper):Touch :=
 let at' (v:AV):Touch:=match v with
  | .ptr d i _ _=>.blk d i
  | .slc d i _ _ _ _ _=>.blk d i
  | .map d i=>.blk d i
  | _=>.none
 match o.op with
 | .load _ a=>at' (b5 fr a)
 | .store _ a _=>at' (b5 fr a)
 | .lookup _ m _ _=>at' (b5 fr m)
 | .mapUpdate _ m _ _ | .insert _ m _ _=>at' (b5 fr m)
 | .call c=>match c.callee with
   | .builtin .len=>match c.args.toList with
     | x::_=>match b5 fr x with | .map d i=>.blk d i | _=>.none
     | _=>.all
   | .builtin .min | .builtin .max=>.none
   | _=>.all
 | _=>.none
def df (H:ab) (bef:Nat):List Rec→ab
 | []=>H
 | r::l=>match r.writes with
   | some (d,i)=>if bef.testBit r.ix then df H bef l else df (ev H d i) bef l
   | none=>df H bef l
def j5 (bef:Nat) (d i:Nat):List Rec→Bool
 | []=>true
 | r::l=>(bef.testBit r.ix || (match r.reads with
   | .none=>true
   | .blk e j=>!(Nat.beq e d && Nat.beq j i)
   | .all=>false)) && j5 bef d i l

def js (o:Oper):Bool :=
 match o.op with
 | .alloc _ | .box _ _ | .buildSlice _ _ _ | .makeSlice _ _ _ | .makeMap _ _=>true
 | .call c=>match c.callee with
   | .builtin .append=>true
   | _=>false
 | _=>false
def cY:List Oper→Nat
 | []=>0
 | o::r=>if js o then cY r+1 else cY r
def nH:ab→Nat→ab
 | [],_=>[]
 | l::r,k=>{ l with bs:=l.bs++List.replicate k (0,.dead) } :: r
def lV:an→Bool
 | .dead=>true
 | _=>false
def ru:Nat×an→Bool
 | (0,.dead)=>true
 | _=>false
def fg (o:Oper):Bool :=
 match o.op with
 | .call c=>match c.callee with
   | .value _=>true
   | _=>false
 | _=>false
def qZ (H:ab):Option (Nat×Nat×(Nat×an))→ab
 | none=>H
 | some (d,i,b)=>eh H d i b
structure uk where
 v:AV
 rd:Touch
 wr:Option (Nat×Nat×(Nat×an))
def gG (P:Program) (call:aK) (ops:Array Oper) (bef:Nat) (fr:aA) (H:ab) (nx:Nat) (recs:List Rec) (o:Oper):Option uk :=
 match lk ops fr o with
 | .lost=>none
 | .skip=>some ⟨.tup [],.none,none⟩
 | .run =>
   if fg o then match evalOp P call fr (bF (df H bef recs)) nx o with
    | some (v,_)=>some ⟨v,.all,none⟩
    | none=>none
   else match evalOp P call fr (df H bef recs) nx o with
    | some (v,.bA)=>some ⟨v,cQ fr o,none⟩
    | some (v,.push b)=>if js o && !lV b && ru (az H 0 nx) && !aL H 0 then some ⟨v,cQ fr o,some (0,nx,(0,b))⟩ else none
    | some (v,.set d i b)=>if !lV b.2 && (Nat.beq b.1 (az H d i).1 || Nat.beq b.1 (Nat.succ (az H d i).1)) && !lV (az (df H bef recs) d i).2 && j5 bef d i recs then some ⟨v,cQ fr o,some (d,i,b)⟩ else none
    | _=>none

def gr (P:Program) (nt:Nat) (call:aK) (ops:Array Oper) (befs:Array Nat):Nat→List Oper→aA→ab→Nat→List Rec→Option (aA×ab)
 | _,[],fr,H,_,_=>some (fr,H)
 | j,o::r,fr,H,nx,recs=>match gG P call ops (befs.getD j 0) fr H nx recs o with
   | some e=>gr P nt call ops befs (j+1) r (iu nt fr o.dst e.v) (qZ H e.wr) (if js o then nx+1 else nx) (⟨j,e.rd,e.wr.map fun x=>(x.1,x.2.1)⟩::recs)
   | none=>none

def fV (ops:Array Oper) (befs:Array Nat):Bool :=
 ops.toList.zipIdx.all fun (o,j)=>Nat.blt (befs.getD j 0) (2 ^ j) &&
  ops.toList.zipIdx.all fun (q,i) =>
   Nat.beq i j || (match q.dst with
   | none=>true
   | some d=>(o.dst != some d) && (!(o.looksAt ops).contains d || (befs.getD j 0).testBit i || (befs.getD i 0).testBit j))

inductive Ex where
 | normal | exit (id:Nat) | goto (l:Nat) | ret

def Cu:Option Nat→Bool
 | some 0=>true
 | _=>false
def DQ:AV→Bool
 | .int _ _=>true
 | .bool _=>true
 | .nils=>true
 | .slcT none _ _ _ _=>true
 | .ptrT none _ _=>true
 | _=>false
def NR:Row→Bool
 | .I _ _=>true
 | .F _ _=>true
 | .G l=>l.all DQ
 | .M l=>fI l
def lq (n:Nat):AV→Bool
 | .ptr d i _ _=>Nat.beq d 0 && Nat.ble n i
 | .slc d i _ _ _ _ _=>Nat.beq d 0 && Nat.ble n i
 | .map d i=>Nat.beq d 0 && Nat.ble n i
 | .yld d i=>Nat.beq d 0 && Nat.ble n i
 | .ptrT s r _=>Cu s && !NR r
 | .slcT s _ _ _ _=>Cu s
 | .agg (.G _)=>true
 | .agg (.M l)=>!fI l
 | .fn _ _ _=>true
 | .tup (_::_)=>true
 | _=>false
def anyM (f:AV→Bool):List db→Bool
 | []=>false
 | .one v::r=>f v || anyM f r
 | .arr _ _ _::r=>anyM f r
def uR (n:Nat):AV→Bool
 | .agg (.G l)=>l.any (lq n)
 | .agg (.M l)=>anyM (lq n) l
 | .fn _ a b=>a.any (lq n) || b.any (lq n)
 | .ptrT (some 0) (.M l) _=>anyM (lq n) l
 | v=>lq n v
def Sw (n:Nat):Row→Bool
 | .I .. | .F ..=>false
 | .G l=>l.any (uR n)
 | .M l=>anyM (uR n) l
def I0 (n:Nat):an→Bool
 | .dead=>false
 | .row r=>Sw n r
 | .map es=>es.any fun e=>uR n e.1 || uR n e.2
 | .fmap _ _ _ _=>false
 | .loop _=>true
def cutAt (fr:aA) (l:bJ) (r:ab):Nat→Nat→ab
 | 0,_=>l::r
 | k+1,m=>if fr.any (fun x=>uR m x.2) || (l.bs.take m).any (fun x=>I0 m x.2) then cutAt fr l r k (m+1) else { l with bs:=l.bs.take m } :: r
def lJ (n:Nat) (fr:aA) (H:ab):ab :=
 match H with
 | []=>[]
 | l::r=>if Nat.ble l.bs.length n then H else cutAt fr l r 4 n

def I1:AV→Bool
 | .ptrT (some 0) (.M l) _=>anyM (lq 0) l
 | v=>lq 0 v
def uT (h:Nat):AV→Bool
 | .ptr d i _ _=>Nat.beq d 0 && Nat.beq i h
 | .slc d i _ _ _ _ _=>Nat.beq d 0 && Nat.beq i h
 | .map d i=>Nat.beq d 0 && Nat.beq i h
 | .yld d i=>Nat.beq d 0 && Nat.beq i h
 | v=>I1 v
def pE (f:AV→Bool) (v:AV):Bool :=
 match v with
 | .agg (.G l)=>l.any f
 | .agg (.M l)=>anyM f l
 | .fn _ a b=>a.any f || b.any f
 | v=>f v
def Ni (f:AV→Bool):Row→Bool
 | .I .. | .F ..=>false
 | .G l=>l.any (pE f)
 | .M l=>anyM (pE f) l
def AE (f:AV→Bool):an→Bool
 | .dead=>false
 | .row r=>Ni f r
 | .map _=>true
 | .fmap _ _ _ _=>false
 | .loop _=>true
def uM (a b:Nat):AV→AV
 | .ptr d i v off=>if Nat.beq d 0 && Nat.beq i a then .ptr 0 b v off else .ptr d i v off
 | .slc d i v off sz len cap=>if Nat.beq d 0 && Nat.beq i a then .slc 0 b v off sz len cap else .slc d i v off sz len cap
 | .map d i=>if Nat.beq d 0 && Nat.beq i a then .map 0 b else .map d i
 | .yld d i=>if Nat.beq d 0 && Nat.beq i a then .yld 0 b else .yld d i
 | v=>v
def na (g:AV→AV) (v:AV):AV :=
 match v with
 | .agg (.G l)=>.agg (.G (l.map g))
 | .agg (.M l)=>.agg (.M (mapM' g l))
 | .fn f a b=>.fn f (a.map g) (b.map g)
 | v=>g v
def Ge (g:AV→AV):Row→Row
 | .I k l=>.I k l
 | .F f n=>.F f n
 | .G l=>.G (l.map (na g))
 | .M l=>.M (mapM' (na g) l)
def p7 (g:AV→AV):an→an
 | .row r=>.row (Ge g r)
 | b=>b
def p8 (g:AV→AV):aA→aA
 | []=>[]
 | (x,v)::r=>(x,na g v)::p8 g r
def jr (g:AV→AV):List (Nat×an)→List (Nat×an)
 | []=>[]
 | (v,b)::r=>(v,p7 g b)::jr g r
def hole (fr:aA) (bs:List (Nat×an)):Nat→Nat→Option Nat
 | 0,_=>none
 | k+1,m=>if Nat.blt (m+1) bs.length then
    if fr.any (fun x=>pE (uT m) x.2) || ((bs.take m).any (fun x=>AE (uT m) x.2) || (bs.drop (m+1)).any (fun x=>AE (uT m) x.2)) then hole fr bs k (m+1) else some m
   else none
def xC (a b:Nat) (l:bJ):bJ:={ l with bs:=bQ (jr (uM a b) (l.bs.take a)) b ((au l.bs a).1,p7 (uM a b) (au l.bs a).2) }
def jJ (n:Nat):Nat→aA→ab→aA×ab
 | 0,fr,H=>(fr,H)
 | k + 1,fr,H=>match H with
   | []=>(fr,[])
   | l::r=>match hole fr l.bs 4 n with
     | none=>(fr,l::r)
     | some h=>jJ n k (p8 (uM (l.bs.length-1) h) fr) (lJ n (p8 (uM (l.bs.length-1) h) fr) (xC (l.bs.length-1) h l::r))
def tidy (n:Nat) (fr:aA) (H:ab):aA×ab:=jJ n 4 fr (lJ n fr H)

def m8 (i ver:Nat) (r:Row):AV→AV
 | .ptr d j v off=>if Nat.beq d 0 && (Nat.beq j i && Nat.beq v ver) then .ptrT none r off else .ptr d j v off
 | .slc d j v off sz len cap=>if Nat.beq d 0 && (Nat.beq j i && (Nat.beq v ver && Nat.ble (off+len*sz) r.len)) then .slcT none (r.sub off (len*sz)) sz len (cap == some len) else .slc d j v off sz len cap
 | v=>v
def pq (i:Nat):AV→Bool
 | .slc d j _ _ _ _ _=>Nat.beq d 0 && Nat.beq j i
 | _=>false
def wC:Row→Bool
 | .I _ _=>true
 | .M [.arr _ _ _]=>true
 | _=>false
def Mv (f:AV→Bool):an→Bool
 | .row r=>Ni f r
 | _=>false
def lS (i:Nat) (fr:aA) (l:bJ):aA×bJ :=
 match au l.bs i with
 | (ver,.row r)=>if wC r && (fr.any (fun x=>pE (pq i) x.2) || l.bs.any (fun x=>Mv (pq i) x.2)) then (p8 (m8 i ver r) fr,{ l with bs:=bQ (jr (m8 i ver r) l.bs) i (ver,.dead) }) else (fr,l)
 | _=>(fr,l)
def iN:Nat→aA→bJ→aA×bJ
 | 0,fr,l=>(fr,l)
 | n+1,fr,l=>lS n (iN n fr l).1 (iN n fr l).2
def D5 (fr:aA) (H:ab):aA×ab :=
 match H with
 | []=>(fr,[])
 | l::r=>if l.lock then (fr,l::r) else ((iN l.bs.length fr l).1,(iN l.bs.length fr l).2::r)
def ew:Nat→aA→bJ→aA×bJ
 | 0,fr,l=>(fr,l)
 | n+1,fr,l=>if (ew n fr l).1.any (fun x=>pE (pq n) x.2) then ew n fr l else lS n (ew n fr l).1 (ew n fr l).2
def uF (fr:aA) (H:ab):aA×ab :=
 match H with
 | []=>(fr,[])
 | l::r=>if l.lock then (fr,l::r) else ((ew l.bs.length fr l).1,(ew l.bs.length fr l).2::r)
def II (sz:Nat):AV→AV
 | .nils=>.slcT none (.M [.arr .i64 (fun _=>0) 0]) sz 0 false
 | v=>v
def Ef (sz:Nat):Nat→List AV→List AV
 | _,[]=>[]
 | 0,v::l=>II sz v::l
 | c+1,v::l=>v::Ef sz c l
def uN (c sz:Nat):an→an
 | .row (.G l)=>.row (.G (Ef sz c l))
 | B=>B
def l8 (c sz:Nat):List (Nat×an)→List (Nat×an)
 | []=>[]
 | (v,B)::r=>(v,uN c sz B)::l8 c sz r
def uO (k:Nat) (H:ab):ab :=
 match H with
 | []=>[]
 | l::r=>if l.lock then l::r else { l with bs:=l8 (k % 8) (k / 8) l.bs } :: r
def CF (s:Nat):aA→Option Nat
 | []=>none
 | (x,v)::r=>if Nat.beq x s then (match v with
   | .slc 0 i _ _ _ _ _=>some i
   | _=>none) else CF s r
def wA (s:Nat) (fr:aA) (H:ab):aA×ab :=
 match H with
 | []=>(fr,[])
 | l::r=>if l.lock then (fr,l::r) else match CF s fr with
   | some i=>((lS i fr l).1,(lS i fr l).2::r)
   | none=>(fr,l::r)
noncomputable def iO (m:Nat) (fr:aA) (H:ab):aA×ab:=if ir m 4000 then ((D5 (bT fr m) H).1,if Nat.beq (Nat.shiftRight m 4003) 0 then (D5 (bT fr m) H).2 else uO (Nat.shiftRight m 4003) (D5 (bT fr m) H).2) else if ir m 4001 then wA (Nat.shiftRight m 4003) (bT fr m) H else if ir m 4002 then (match bM (bT fr m) (Nat.shiftRight m 4003) with | .bool false=>uF (bT fr m) H | _=>(bT fr m,H)) else (bT fr m,H)
def Eg:aA→aA
 | []=>[]
 | (x,v)::r=>(x,ju v)::Eg r
noncomputable def kE (m:Nat) (fr:aA) (H:ab):aA×ab:=if ir m 3998 then (match bM (iO m fr H).1 (Nat.shiftRight m 4003) with | .bool false=>((iO m fr H).1,uO (Nat.shiftRight m 3985 % 4096) (iO m fr H).2) | _=>iO m fr H) else iO m fr H
def Ee (s sz:Nat):aA→aA
 | []=>[]
 | (x,v)::r=>(x,cond (Nat.beq x s) (II sz v) v)::Ee s sz r
noncomputable def kF (m:Nat) (fr:aA) (H:ab):aA×ab:=if ir m 3997 then (Ee (Nat.shiftRight m 3985 % 4096 / 8) (Nat.shiftRight m 3985 % 8) (kE m fr H).1,(kE m fr H).2) else kE m fr H
noncomputable def oW (m:Nat) (fr:aA) (H:ab):aA×ab:=if ir m 3999 then (Eg (kF m fr H).1,(kF m fr H).2) else kF m fr H

def iter (body:aA→ab→Option (Ex×aA×ab)) (n:Nat):Nat→aA→ab→Option (Ex×aA×ab)
 | 0,_,_=>none
 | fu+1,fr,H=>match body fr H with
   | some (.normal,fr,H)=>iter body n fu (tidy n fr H).1 (tidy n fr H).2
   | r=>r

structure Cx where
 P:Program
 call:aK
 fu:Nat
 fn:FuncId
 nt:Nat
 kt:Nat→Nat
 ro:Option (Nat×Nat)
def Cx.here (cx:Cx) (H:ab):Bool :=
 match cx.ro with
 | none=>true
 | some (d,i)=>match az H d i with
   | (0,.loop _)=>true
   | _=>false

def iX (fr:aA) (H:ab) (cx:Cx) (params:Array Tmp) (assign body:Code):ab :=
 jm H (.loop { state:=.ready,pending:=none,fn:=cx.fn,nt:=cx.nt,fr,params:=params.toList,assign,body })

def xR:Option Code→Option Ex
 | none=>some .normal
 | some (.exit id)=>some (.exit id)
 | some (.goto l)=>some (.goto l)
 | some .ret=>some .ret
 | _=>none

noncomputable def exec (cx:Cx):Code→aA→ab→Option (Ex×aA×ab)
 | .skip,fr,H=>some (.normal,fr,H)
 | .label _,fr,H=>some (.normal,fr,H)
 | .region id ops draw,fr,H =>
   match (if draw then (if fV ops (Region.before ops) then gr cx.P cx.nt cx.call ops (Region.before ops) 0 ops.toList fr (nH H (cY ops.toList)) (aZ H) [] else none) else eV cx.P cx.nt cx.call ops ops.toList fr H) with
   | some (fr,H)=>some (.normal,oW (cx.kt id) fr H)
   | none=>none
 | .seq a b,fr,H=>match exec cx a fr H with
   | some (.normal,fr,H)=>exec cx b fr H
   | r=>r
 | .cond c a b,fr,H=>match b5 fr c with
   | .bool true=>exec cx a fr H
   | .bool false=>exec cx b fr H
   | _=>none
 | .block id b,fr,H=>match exec cx b fr H with
   | some (.exit id',fr,H)=>if Nat.beq id' id then some (.normal,fr,H) else some (.exit id',fr,H)
   | r=>r
 | .loop b,fr,H=>iter (exec cx b) (aZ H) cx.fu fr H
 | .rangeFunc f params assign body,fr,H =>
   match b5 fr f with
   | .fn (.func g) a b =>
     if !cx.here H || aL H 0 then none else
     match cx.call (.fn g) (a++(.yld 0 (aZ H)::b)) (iX fr H cx params assign body) with
     | some (_,H1)=>match az H1 0 (aZ H) with
       | (0,.loop l) =>
         if l.state == .busy then none else
         match xR l.pending with
         | some e=>some (e,fr,ev H1 0 (aZ H))
         | none=>none
       | _=>none
     | none=>none
   | _=>none
 | .exit id,fr,H=>some (.exit id,fr,H)
 | .scope b,fr,H=>match exec cx b fr H with
   | some (.goto _,_,_)=>none
   | r=>r
 | .goto l,fr,H=>some (.goto l,fr,H)
 | .ret,fr,H=>some (.ret,fr,H)
 | .refuse _,_,_=>none

def dE   (bs:List (Nat×an)):Nat→AV→AV
 | 0,_=>.undef
 | n + 1,v=>match v with
   | .ptr d i ver off=>match d with
     | d+1=>.ptr d i ver off
     | 0 => match au bs i with
       | (w,.row r)=>if Nat.beq w ver then (match r with
         | .I k l=>.ptrT none (.I k l) off
         | .F f m=>.ptrT none (.F f m) off
         | .M l=>if fI l then .ptrT none (.M l) off else .ptrT (some 0) (.M (mapM' (dE bs n) l)) off
         | .G l=>.ptrT (some 0) (.G (l.map (dE bs n))) off) else .undef
       | _=>.undef
   | .slc d i ver off sz len cap=>match d with
     | d+1=>.slc d i ver off sz len cap
     | 0 => match au bs i with
       | (w,.row r)=>if Nat.beq w ver∧off+len*sz≤r.len then (match r.sub off (len*sz) with
         | .I k l=>.slcT none (.I k l) sz len (cap == some len)
         | .F f m=>.slcT none (.F f m) sz len (cap == some len)
         | .M l=>if fI l then .slcT none (.M l) sz len (cap == some len) else .slcT (some 0) (.M (mapM' (dE bs n) l)) sz len (cap == some len)
         | .G l=>.slcT (some 0) (.G (l.map (dE bs n))) sz len (cap == some len)) else .undef
       | _=>.undef
   | .ptrT s r off=>match s with
     | none=>.ptrT none r off
     | some (s+1)=>.ptrT (some s) r off
     | some 0=>match r with
       | .G l=>.ptrT (some 0) (.G (l.map (dE bs n))) off
       | .M l=>if fI l then .ptrT none (.M l) off else .ptrT (some 0) (.M (mapM' (dE bs n) l)) off
       | r=>.ptrT none r off
   | .slcT s r sz len full=>match s with
     | none=>.slcT none r sz len full
     | some (s+1)=>.slcT (some s) r sz len full
     | some 0=>match r with
       | .G l=>.slcT (some 0) (.G (l.map (dE bs n))) sz len full
       | .M l=>if fI l then .slcT none (.M l) sz len full else .slcT (some 0) (.M (mapM' (dE bs n) l)) sz len full
       | r=>.slcT none r sz len full
   | .map d i=>match d with
     | d+1=>.map d i
     | 0=>.undef
   | .yld d i=>match d with
     | d+1=>.yld d i
     | 0=>.undef
   | .fn f a b=>.fn f (a.map (dE bs n)) (b.map (dE bs n))
   | .agg r=>match r with
     | .G l=>.agg (.G (l.map (dE bs n)))
     | .M l=>.agg (.M (mapM' (dE bs n) l))
     | r=>.agg r
   | .tup l=>.tup (l.map (dE bs n))
   | v=>v

def fH:Nat→List AV→aA
 | _,[]=>[]
 | x,v::l=>(x,nr 1 v)::fH (x+1) l

def hJ (P:Program) (fr:aA) (H:ab):List ResultVar→Option (List AV)
 | []=>some []
 | .tmp t::r=>(hJ P fr H r).map (bM fr t::·)
 | .cell a t::r=>match oZ P H t (bM fr a) with
   | some v=>(hJ P fr H r).map (v::·)
   | none=>none
def one:List AV→AV
 | [v]=>v
 | l=>.tup l

def me (nt:Nat) (fr:aA):List Tmp→List AV→Option aA
 | [],[]=>some fr
 | t::ts,v::vs=>if Nat.blt t nt then me nt (uv fr t v) ts vs else none
 | _,_=>none

def dv:Ex→Option Code
 | .normal=>none
 | .exit id=>some (.exit id)
 | .goto l=>some (.goto l)
 | .ret=>some .ret

def nq (k:Nat):aA→aA
 | []=>[]
 | (x,v)::r=>(x,nr k v)::nq k r

noncomputable def dH (P:Program) (ora:aK→FuncId→List AV→ab→Option (AV×ab)) (KT:FuncId→Nat→Nat) (fu:Nat):Nat→aK
 | _,.mode,_,_=>(ora (fun _ _ _=>none) 1000000 [] []).map fun _=>(.undef,[])
 | 0,_,_,_=>none
 | n + 1,.fn f,args,H=>match ora (dH P ora KT fu n) f args H with
   | some r=>some r
   | none => match P.funcs[f]? with
     | none=>none
     | some fn=>match fn.body with
       | none=>none
       | some c=>if Nat.ble args.length fn.ntmps then
         match exec ⟨P,dH P ora KT fu n,fu,f,fn.ntmps,KT f,none⟩ c (fH 0 args) (⟨false,[]⟩::H) with
         | some (e,fr,l::H') =>
           (match e with
           | .normal | .ret=>match hJ P fr (l::H') fn.results.toList with
             | some vs=>some (dE l.bs 5 (one vs),H')
             | none=>none
           | _=>none)
         | _=>none
         else none
 | n + 1,.round  d i,args,H=>match az H d i with
   | (0, .loop l) =>
     if aL H d then none else
     match l.state with
     | .ready => match me l.nt (nq (d+1) l.fr) l.params (args.map (nr 1)) with
       | some fr => match exec ⟨P,dH P ora KT fu n,fu,l.fn,l.nt,KT l.fn,some (d+1,i)⟩ l.assign fr (⟨false,[]⟩::H) with
         | some (.normal,fr,H1)=>match az H1 (d+1) i with
           | (0, .loop l1)=>match l1.state with
             | .ready =>
               match exec ⟨P,dH P ora KT fu n,fu,l.fn,l.nt,KT l.fn,some (d+1,i)⟩ l.body fr (eh H1 (d+1) i (0,.loop { l1 with state:=.busy })) with
               | some (e,_,_::H2)=>match az H2 d i with
                 | (0,.loop l2)=>some (.bool (dv e).isNone,eh H2 d i (0,.loop { l2 with state:=if (dv e).isNone then .ready else .done,pending:=dv e }))
                 | _=>none
               | _=>none
             | _=>none
           | _=>none
         | _=>none
       | none=>none
     | _=>none
   | _=>none

end Go.Eng
