/- The engine, part A: abstract values, the abstract heap, the abstract interpreter. No statement is proved here. -/
import Derived.RangeFuncLeaves
import Derived.Test.YtgphpjdchnfjlaaDoorV4EngGl
import Derived.OrdersIn
import Derived.RangeFuncRecord
namespace Go.Eng
theorem nP:(∀ {α:Type} (a b:α),(some a=some b)=(a=b))∧(∀ {α β:Type} (a c:α) (b d:β),((a,b)=(c,d))=(a=c∧b=d)):=⟨fun _ _=>Option.some.injEq _ _,fun _ _ _ _=>Prod.mk.injEq _ _ _ _⟩

mutual
inductive AV where
 | undef
 | bool (b:Bool)
 | int (k:IntKind) (n:Int)
 | str (s:ByteArray)
 | nilp | nils | nilm | nilf
 | ptr (d i v off:Nat)
 | ptrT (s:Option Nat) (r:Row) (off:Nat)
 | slc (d i v off sz len:Nat) (cap:Option Nat)
 | slcT (s:Option Nat) (r:Row) (sz len:Nat) (full:Bool)
 | map (d i:Nat)
 | yld (d i:Nat)
 | fn (f:Fn) (first cap:List AV)
 | agg (r:Row)
 | tup (l:List AV)
inductive Row where
 | I (k:IntKind) (l:List Int)
 | G (l:List AV)
 | F (f:Nat→AV) (n:Nat)
 | M (l:List c8)
inductive c8 where
 | one (v:AV)
 | arr (k:IntKind) (z:Nat→Int) (n:Nat)
end

instance:Inhabited AV:=⟨.undef⟩
instance:Inhabited Row:=⟨.G []⟩

def aQ:c8→Nat
 | .one _=>1
 | .arr _ _ n=>n
def aA:List c8→Nat
 | []=>0
 | s::r=>aQ s+aA r
def getM:List c8→Nat→AV
 | [],_=>.undef
 | .one v::_,0=>v
 | .one _::r,j+1=>getM r j
 | .arr k z n::r,j=>if j<n then .int k (z j) else getM r (j-n)
def mapM' (f:AV→AV):List c8→List c8
 | []=>[]
 | .one v::r=>.one (f v)::mapM' f r
 | .arr k z n::r=>.arr k z n::mapM' f r
def fI:List c8→Bool
 | []=>true
 | .one _::_=>false
 | .arr _ _ _::r=>fI r
def Row.len:Row→Nat
 | .I _ l=>l.length
 | .G l=>l.length
 | .F _ n=>n
 | .M l=>aA l
def Row.get:Row→Nat→AV
 | .I k l,j=>.int k (l.getD j 0)
 | .G l,j=>l.getD j .undef
 | .F f _,j=>f j
 | .M l,j=>getM l j

def dB (g:Nat→AV):Nat→Nat→List AV
 | _,0=>[]
 | o,n+1=>g o::dB g (o+1) n
def Row.toList:Row→List AV
 | .I k l=>l.map (.int k)
 | .G l=>l
 | .F f n=>dB f 0 n
 | .M l=>dB (getM l) 0 (aA l)
def Row.ints:Row→Option (IntKind×(Nat→Int))
 | .I k l=>some (k,fun j=>l.getD j 0)
 | .M [.arr k z _]=>some (k,z)
 | _=>none
def yd:Row→Bool
 | .M _=>true
 | _=>false
def qj:List AV→List c8→List c8
 | [],r=>r
 | v::l,r=>.one v::qj l r
def jS:List c8→Nat→AV→List c8
 | [],_,_=>[]
 | .one _::r,0,v=>.one v::r
 | .one u::r,j+1,v=>.one u::jS r j v
 | .arr k z n::r,j,v=>if j<n then (match v with
    | .int k' x=>if k'=k then .arr k (fun i=>if i=j then x else z i) n::r else qj (dB (fun i=>if i=j then v else .int k (z i)) 0 n) r
    | _=>qj (dB (fun i=>if i=j then v else .int k (z i)) 0 n) r)
   else .arr k z n::jS r (j-n) v
def xC:List Int→Bool
 | []=>true
 | x::l=>x == 0 && xC l
def PF (l:List Int):Nat→Int:=if xC l then fun _=>0 else fun j=>l.getD j 0
def df (k:IntKind):List AV→List Int×List AV
 | .int k' n::r=>if k'=k then (match df k r with | (a,b)=>(n::a,b)) else ([],.int k' n::r)
 | l=>([],l)
def ik:Nat→List AV→List c8
 | 0,l=>qj l []
 | _,[]=>[]
 | f+1,.int k n::r=>match df k r with
   | (a,b)=>if Nat.ble 7 a.length then .arr k (PF (n::a)) (a.length+1)::ik f b else .one (.int k n)::ik f r
 | f+1,v::r=>.one v::ik f r

def sD (k:IntKind):List AV→Option (List Int)
 | []=>some []
 | .int k' n::r=>if k'=k then (sD k r).map (n::·) else none
 | _=>none
def Row.ofList:List AV→Row
 | .int k n::r=>match sD k r with
   | some l=>.I k (n::l)
   | none=>.G (.int k n::r)
 | l=>.G l

def lu:List c8→Nat→Nat→Option (IntKind×(Nat→Int))
 | [],_,_=>none
 | .one _::r,o+1,n=>lu r o n
 | .one _::_,0,_=>none
 | .arr k z m::r,o,n=>if o+n≤m then some (k,fun j=>z (o+j)) else if m≤o then lu r (o-m) n else none
def Row.sub (r:Row) (o n:Nat):Row :=
 match r with
 | .I k l=>.I k ((l.drop o).take n)
 | .G l=>.G ((l.drop o).take n)
 | .F f _=>.F (fun j=>f (o+j)) n
 | .M [.arr k z _]=>.M [.arr k (fun j=>z (o+j)) n]
 | .M l=>if Nat.beq o 0 && Nat.beq (aA l) n then .M l else match lu l o n with
   | some (k,z)=>.M [.arr k z n]
   | none=>.G (dB (getM l) o n)

def gP:AV→Bool
 | .undef | .bool _ | .int _ _ | .str _ | .nilp | .nils | .nilm | .nilf=>true
 | .ptrT s _ _=>s.isNone
 | .slcT s _ _ _ _=>s.isNone
 | .agg (.I ..) | .agg (.F ..)=>true
 | .agg (.M l)=>fI l
 | _=>false

def Row.cut (r:Row) (o n:Nat):Row :=
 match r with
 | .G l=>Row.ofList ((l.drop o).take n)
 | .M l=>if Nat.ble n 8 then Row.ofList (dB (getM l) o n) else if Nat.beq o 0 && Nat.beq (aA l) n then .M l else (Row.M l).sub o n
 | r=>r.sub o n

def Row.set (r:Row) (j:Nat) (v:AV):Row :=
 match r,v with
 | .I k l,.int k' n=>if k'=k then .I k (l.set j n) else .G ((l.map (.int k)).set j v)
 | .I k l,v=>.G ((l.map (.int k)).set j v)
 | .G l,v=>.G (l.set j v)
 | .F f n,v=>.F (fun i=>if i=j then (if gP v then v else .undef) else f i) n
 | .M l,v=>.M (jS l j v)
def Row.cG (r:Row) (j:Nat):List AV→Row
 | []=>r
 | v::l=>(r.set j v).cG (j+1) l
def Row.uq (r s:Row):Option Row :=
 match r.ints,s.ints with
 | some (k,z),some (k',z')=>if k'=k then some (.M [.arr k (fun i=>if i<r.len then z i else z' (i-r.len)) (r.len+s.len)]) else none
 | _,_=>none
def jA:AV→AV
 | .slcT none (.I k l) sz m _=>.slcT none (.M [.arr k (fun j=>l.getD j 0) l.length]) sz m false
 | .slcT none (.M [.arr k z n]) sz m _=>.slcT none (.M [.arr k z n]) sz m false
 | v=>v
def qJ (n i:Nat):Nat:=if Nat.beq n 1 then 0 else i
def Row.app (r s:Row):Row :=
 match r,s with
 | .M l,s=>(match (Row.M l).uq s with | some q=>q | none=>.G ((Row.M l).toList++s.toList))
 | .I k l,.M m=>(match (Row.I k l).uq (.M m) with | some q=>q | none=>.G ((Row.I k l).toList++(Row.M m).toList))
 | .I k l,.I k' l'=>if k'=k then .I k (l++l') else .G (l.map (.int k)++l'.map (.int k'))
 | .F f n,s=>.F (fun i=>if Nat.blt i n then f i else if gP (s.get (qJ s.len (i-n))) then jA (s.get (qJ s.len (i-n))) else .undef) (n+s.len)
 | r,s=>.G (r.toList++s.toList)

def ow (k:Nat):AV→AV
 | .ptr d i v off=>.ptr (d+k) i v off
 | .ptrT s r off=>.ptrT (s.map (· + k)) r off
 | .slc d i v off sz len cap=>.slc (d+k) i v off sz len cap
 | .slcT s r sz len full=>.slcT (s.map (· + k)) r sz len full
 | .map d i=>.map (d+k) i
 | .yld d i=>.yld (d+k) i
 | .agg (.I a l)=>.agg (.I a l)
 | .fn _ _ _ | .agg _ | .tup (_::_)=>.undef
 | v=>v
def Pt (k:Nat) (v:AV):AV :=
 match v with
 | .fn f a b=>.fn f (a.map (ow k)) (b.map (ow k))
 | .agg (.G l)=>.agg (.G (l.map (ow k)))
 | .agg (.M l)=>.agg (.M (mapM' (ow k) l))
 | .agg r=>.agg r
 | v=>ow k v
def mE (k:Nat) (v:AV):AV :=
 match k with
 | 0=>v
 | k+1=>Pt (k+1) v
def BD (k:Nat):Row→Row
 | .I a l=>.I a l
 | .G l=>.G (l.map (ow k))
 | .F f n=>.F f n
 | .M l=>.M (mapM' (ow k) l)
def BC (k:Nat) (r:Row):Row :=
 match k with
 | 0=>r
 | k+1=>BD (k+1) r
def kE:Nat→Nat→AV→AV
 | 0,_,_=>.undef
 | n + 1,k,v=>match v with
   | .ptr d i v off=>if Nat.blt d k then .undef else .ptr (d-k) i v off
   | .ptrT none r off=>.ptrT none r off
   | .ptrT (some s) r off=>if Nat.blt s k then (match r with
     | .G l=>.ptrT (some 0) (.G (l.map (kE n (k-s)))) off
     | .M l=>if fI l then .ptrT none (.M l) off else .ptrT (some 0) (.M (mapM' (kE n (k-s)) l)) off
     | r=>.ptrT none r off) else .ptrT (some (s-k)) r off
   | .slc d i v off sz len cap=>if Nat.blt d k then .undef else .slc (d-k) i v off sz len cap
   | .slcT none r sz len full=>.slcT none r sz len full
   | .slcT (some s) r sz len full=>if Nat.blt s k then (match r with
     | .G l=>.slcT (some 0) (.G (l.map (kE n (k-s)))) sz len full
     | .M l=>if fI l then .slcT none (.M l) sz len full else .slcT (some 0) (.M (mapM' (kE n (k-s)) l)) sz len full
     | r=>.slcT none r sz len full) else .slcT (some (s-k)) r sz len full
   | .map d i=>if Nat.blt d k then .undef else .map (d-k) i
   | .yld d i=>if Nat.blt d k then .undef else .yld (d-k) i
   | .agg (.I a l)=>.agg (.I a l)
   | .fn _ _ _ | .agg _ | .tup (_::_)=>.undef
   | v=>v
def NH (k:Nat) (v:AV):AV :=
 match v with
 | .fn f a b=>.fn f (a.map (kE 4 k)) (b.map (kE 4 k))
 | .agg (.G l)=>.agg (.G (l.map (kE 4 k)))
 | .agg (.M l)=>.agg (.M (mapM' (kE 4 k) l))
 | .agg r=>.agg r
 | v=>kE 4 k v
def P6 (k:Nat) (v:AV):AV :=
 match k with
 | 0=>v
 | k+1=>NH (k+1) v
def vY (k:Nat):Row→Row
 | .I a l=>.I a l
 | .G l=>.G (l.map (kE 4 k))
 | .F f n=>.F f n
 | .M l=>.M (mapM' (kE 4 k) l)

def jk (k:Nat) (r:Row):Row :=
 match k with
 | 0=>r
 | k+1=>vY (k+1) r

abbrev aD:=List (Nat×AV)
def bL:aD→Nat→AV
 | [],_=>.undef
 | (x,v)::r,y=>if Nat.beq x y then v else bL r y
def uu:aD→Nat→AV→aD
 | [],y,u=>[(y,u)]
 | (x,v)::r,y,u=>if Nat.ble y x then (if Nat.beq x y then (y,u)::r else (y,u)::(x,v)::r) else (x,v)::uu r y u
def lI (m x:Nat):Bool:=Nat.beq (Nat.land (Nat.shiftRight m x) 1) 1
noncomputable def bS (fr:aD) (m:Nat):aD:=List.rec (motive:=fun _=>aD) [] (fun p _ ih=>Prod.rec (motive:=fun _=>aD) (fun x _=>Bool.rec (motive:=fun _=>aD) (p::ih) ih (Nat.beq (Nat.land (Nat.shiftRight m x) 1) 1)) p) fr

structure im where
 state:LoopState
 pending:Option Code
 fn:FuncId
 nt:Nat
 fr:aD
 params:List Tmp
 assign:Code
 body:Code

inductive KK where
 | num (k:IntKind)
 | str (n:Nat)
inductive an where
 | dead
 | row (r:Row)
 | map (es:List (AV×AV))
 | fmap (q:KK) (h:List Int→Bool) (g:List Int→Int) (c:Nat)
 | loop (l:im)

structure bF where
 lock:Bool
 bs:List (Nat×an)
abbrev aa:=List bF

def au:List (Nat×an)→Nat→Nat×an
 | [],_=>(0,.dead)
 | b::_,0=>b
 | _::r,i+1=>au r i
def bN:List (Nat×an)→Nat→Nat×an→List (Nat×an)
 | [],_,_=>[]
 | _::r,0,x=>x::r
 | b::r,i+1,x=>b::bN r i x
def ay:aa→Nat→Nat→Nat×an
 | [],_,_=>(0,.dead)
 | l::_,0,i=>au l.bs i
 | _::r,d+1,i=>ay r d i
def aG:aa→Nat→Bool
 | [],_=>true
 | l::_,0=>l.lock
 | _::r,d+1=>aG r d
def dv:aa→Nat→Nat→Nat×an→aa
 | [],_,_,_=>[]
 | l::r,0,i,x=>{ l with bs:=bN l.bs i x } :: r
 | l::r,d+1,i,x=>l::dv r d i x
def dK (H:aa) (d i:Nat):aa:=dv H d i ((ay H d i).1,.dead)
def ju:aa→an→aa
 | [],b=>[⟨false,[(0,b)]⟩]
 | l::r,b=>{ l with bs:=l.bs++[(0,b)] } :: r
def bx:aa→Nat→an→aa
 | [],_,_=>[]
 | l::r,0,b=>{ l with bs:=l.bs++[(0,b)] } :: r
 | l::r,d+1,b=>l::bx r d b
def ao:aa→Nat→Nat
 | [],_=>0
 | l::_,0=>l.bs.length
 | _::r,d+1=>ao r d
def a7:aa→Nat
 | []=>0
 | l::_=>l.bs.length
def bD:aa→aa
 | []=>[]
 | l::r=>{ l with lock:=true } :: bD r

def cO (H:aa) (d i v:Nat):Option Row :=
 match ay H d i with
 | (ver,.row r)=>if Nat.beq ver v then some r else none
 | _=>none

def sc:Value→AV
 | .bool b=>.bool b
 | .int k n=>.int k n
 | .string s=>.str s
 | .pointer none=>.nilp
 | .slice none 0 0=>.nils
 | .map none=>.nilm
 | .nilFunc=>.nilf
 | _=>.undef
def kJ:Value→AV
 | .bool b=>.bool b
 | .int k n=>.int k n
 | .string s=>.str s
 | .pointer none=>.nilp
 | .slice none 0 0=>.nils
 | .map none=>.nilm
 | .nilFunc=>.nilf
 | .func (.func f) ca cb=>if ca.isEmpty && cb.isEmpty then .fn (.func f) [] [] else .undef
 | .agg cs=>if cs.toList.all Value.oneCell' then .agg (Row.ofList (cs.toList.map sc)) else .undef
 | .tuple cs=>if cs.isEmpty then .tup [] else .undef
 | _=>.undef

def bW (fr:aD):Operand→AV
 | .tmp t=>bL fr t
 | .const v=>kJ v
 | .global _=>.undef
 | .func f=>.fn (.func f) [] []

def AV.row:AV→Option Row
 | .agg r=>some r
 | .int k n=>some (.I k [n])
 | .undef | .tup _=>none
 | v=>some (.G [v])

def fa (P:Program) (t:TypeId):Option Bool :=
 match P.underlying t with
 | some (.struct _) | some (.array _ _)=>some true
 | some _=>some false
 | none=>none
def bA (P:Program) (t:TypeId):Option Nat:=(P.info? t).map (·.size)
def cU (P:Program) (t:TypeId):Option AV:=((P.info? t).bind (·.zero)).map kJ

inductive Delta where
 | bz
 | push (b:an)
 | set (d i:Nat) (b:Nat×an)
 | heap (H:aa)
def Delta.on (δ:Delta) (H:aa):aa :=
 match δ with
 | .bz=>H
 | .push b=>ju H b
 | .set d i b=>dv H d i b
 | .heap H=>H

inductive Px where
 | fn (f:FuncId)
 | round (d i:Nat)
 | mode
abbrev aI:=Px→List AV→aa→Option (AV×aa)

def ib (op:BinOp) (k:IntKind) (x y:Int):Option AV :=
 match op with
 | .add=>some (.int k (k.wrap (x+y)))
 | .sub=>some (.int k (k.wrap (x-y)))
 | .mul=>some (.int k (k.wrap (x*y)))
 | .quo=>if y=0 then none else some (.int k (k.wrap (x.tdiv y)))
 | .rem=>if y=0 then none else some (.int k (x.tmod y))
 | .and=>some (.int k (k.wrap (BitVec.ofInt k.bits x &&& BitVec.ofInt k.bits y).toNat))
 | .or=>some (.int k (k.wrap (BitVec.ofInt k.bits x ||| BitVec.ofInt k.bits y).toNat))
 | .xor=>some (.int k (k.wrap (BitVec.ofInt k.bits x ^^^ BitVec.ofInt k.bits y).toNat))
 | .andNot=>some (.int k (k.wrap (BitVec.ofInt k.bits x &&& ~~~(BitVec.ofInt k.bits y)).toNat))
 | .eql=>some (.bool (x == y))
 | .neq=>some (.bool (x != y))
 | .lss=>some (.bool (x<y))
 | .leq=>some (.bool (x≤y))
 | .gtr=>some (.bool (x > y))
 | .geq=>some (.bool (x≥y))
 | _=>none

def fM (P:Program) (g:TypeId→Option Nat) (off:Nat):List Field→Option Nat
 | []=>some off
 | f::fs=>if f.name != "_" && Nat.beq f.offset off then (match g f.type with
   | some s=>fM P g (off+s) fs
   | none=>none) else none
def b9 (P:Program):Nat→TypeId→Option Nat
 | 0,_=>none
 | n + 1,t=>match P.underlying t with
   | some (.int _)=>if bA P t=some 1 then some 1 else none
   | some (.array len e)=>match b9 P n e with
     | some s=>if bA P t=some (len*s) then some (len*s) else none
     | none=>none
   | some (.struct fs)=>if P.stoodInHeld t then none else match fM P (b9 P n) 0 fs.toList with
     | some s=>if bA P t=some s then some s else none
     | none=>none
   | _=>none

def eW:List Int→List Int→Bool
 | [],[]=>true
 | x::a,y::b=>(x == y) && eW a b
 | _,_=>false

def allEq (z z':Nat→Int):Nat→Bool
 | 0=>true
 | n+1=>allEq z z' n && (z n == z' n)
def MU (P:Program) (t:TypeId) (r s:Row):Option Bool :=
 match r.ints,s.ints with
 | some (k,z),some (k',z')=>if k=k'∧b9 P 20 t=some r.len∧fa P t=some true∧r.len=s.len then some (allEq z z' r.len) else none
 | _,_=>none
def Ai (P:Program) (t:TypeId) (x y:AV):Option Bool :=
 match x,y with
 | .bool a,.bool b=>(match P.underlying t with | some .bool=>some (a == b) | _=>none)
 | .nils,.nils | .nils,.slcT .. | .nils,.slc .. | .slcT ..,.nils | .slc ..,.nils =>
   (match P.underlying t with
   | some (.slice _)=>(match x,y with
     | .nils,.nils=>some true
     | .nils,.slcT _ _ _ n _=>if 0<n then some false else none
     | .slcT _ _ _ n _,.nils=>if 0<n then some false else none
     | _,_=>some false)
   | _=>none)
 | .nilp,.nilp | .nilp,.ptr .. | .nilp,.ptrT .. | .ptr ..,.nilp | .ptrT ..,.nilp =>
   (match P.underlying t with
   | some (.pointer _)=>some (match x,y with | .nilp,.nilp=>true | _,_=>false)
   | _=>none)
 | .agg (.I k a),.agg (.I k' b)=>if k=k'∧b9 P 20 t=some a.length∧fa P t=some true∧a.length=b.length then some (eW a b) else none
 | .agg (.M l),.agg s=>MU P t (.M l) s
 | .agg (.I k a),.agg (.M l)=>MU P t (.I k a) (.M l)
 | _,_=>none

def j6 (P:Program) (op:BinOp) (t:TypeId) (x y:AV):Option AV :=
 match op,x,y with
 | .shl,.int k a,.int _ b=>if b<0 then none else some (.int k (k.wrap (a*2 ^ (min b.toNat k.bits))))
 | .shr,.int k a,.int _ b=>if b<0 then none else some (.int k (a.fdiv (2 ^ (min b.toNat k.bits))))
 | op,.int k a,.int k' b=>if k=k' then ib op k a b else none
 | .eql,x,y=>(Ai P t x y).map .bool
 | .neq,x,y=>(Ai P t x y).map fun b=>.bool (!b)
 | _,_,_=>none

def PE (op:UnOp) (x:AV):Option AV :=
 match op,x with
 | .not,.bool b=>some (.bool !b)
 | .neg,.int k n=>some (.int k (k.wrap (0-n)))
 | _,_=>none

def oh {α:Type} (l:List α):Nat→List α
 | 0=>[]
 | n+1=>l++oh l n
def dS (z:Row) (n:Nat):Row :=
 match z with
 | .I k l=>.I k (oh l n)
 | z=>.G (oh z.toList n)
def Fu (l:List AV) (n:Nat):Row :=
 match l with
 | [v]=>if gP v then .F (fun _=>v) n else .G (oh l n)
 | l=>.G (oh l n)
def dI (z:Row) (n:Nat):Row :=
 match z with
 | .I k l=>if xC l then .M [.arr k (fun _=>0) (n*l.length)] else .I k (oh l n)
 | z=>Fu z.toList n
def kB (r:Row):Row :=
 match r with
 | .I k l=>if Nat.ble 8 l.length then .M [.arr k (PF l) l.length] else .I k l
 | .G l=>if (ik l.length l).length == l.length then .G l else .M (ik l.length l)
 | r=>r
def vX (z:Nat→Int) (off:Nat) (z':Nat→Int) (n:Nat):Nat→Int:=fun i=>if off≤i∧i<off+n then z' (i-off) else z i
def yI:List c8→Nat→Nat→List c8→Option (List c8)
 | [],_,_,_=>none
 | .one v::r,o+1,n,q=>(yI r o n q).map (.one v::·)
 | .one _::_,0,_,_=>none
 | .arr k z m::r,o,n,q=>if Nat.beq o 0 && Nat.beq m n then some (q++r) else if Nat.ble m o then (yI r (o-m) n q).map (.arr k z m::·) else none
def J6 (q:Row):Option (List c8) :=
 match kB q with
 | .M l=>some l
 | _=>none
def w6 (l:List c8) (off:Nat) (q:Row):Row :=
 if Nat.ble 9 q.len then (match J6 q with
  | some qs=>if Nat.beq off 0 && Nat.beq (aA l) q.len then .M qs else (match yI l off q.len qs with
    | some l'=>.M l'
    | none=>(Row.M l).cG off q.toList)
  | none=>(Row.M l).cG off q.toList)
 else (Row.M l).cG off q.toList
def jR (r:Row) (off:Nat) (q:Row):Row :=
 match r with
 | .M l=>(match l with
   | [.arr k z m]=>(match q with
     | .M [.arr k' z' n]=>if k'=k then .M [.arr k (vX z off z' n) m] else w6 l off q
     | _=>w6 l off q)
   | _=>w6 l off q)
 | r=>r.cG off q.toList
def qI:AV→Bool
 | .slcT none (.M [.arr _ _ _]) _ _ _=>true
 | .slcT none (.I _ _) _ _ _=>true
 | _=>false
def qX (sy:Bool) (r:Row):Row :=
 match r with
 | .I k l=>if sy then .M [.arr k (fun j=>l.getD j 0) l.length] else .I k l
 | .G [v]=>if sy && qI v then .F (fun _=>jA v) 1 else .G [v]
 | r=>r
def sl (place:Nat→Option (Nat×Nat)) (r:Row):List (Nat×AV)→Option Row
 | []=>some r
 | (i,v)::rest=>match place i with
   | none=>none
   | some (off,size)=>match v.row with
     | some q=>if q.len=size∧off+q.len≤r.len then sl place (r.cG off q.toList) rest else none
     | none=>none

def jC (P:Program) (t:TypeId) (r:Row) (off:Nat):Option AV :=
 match fa P t,bA P t with
 | some true,some n=>if off+n≤r.len then some (.agg (r.cut off n)) else none
 | some false,_=>if off<r.len then some (r.get off) else none
 | _,_=>none

def TY (s:Option Nat) (v:AV):AV :=
 match s with
 | none=>v
 | some k=>mE k v

def pb (P:Program) (H:aa) (t:TypeId) (a:AV):Option AV :=
 match a with
 | .ptr d i v off=>match cO H d i v with
   | some r=>(jC P t r off).map (mE d)
   | none=>none
 | .ptrT s r off=>(jC P t r off).map (TY s)
 | _=>none

def gv (P:Program) (H:aa) (t:TypeId) (a x:AV):Option Delta :=
 match a with
 | .ptr d i v off =>
   if aG H d then none else
   match cO H d i v,bA P t,x.row with
   | some r,some n,some q =>
     if q.len=n∧off+n≤r.len then
      match d,x with
      | d+1,.slc 0 j w o sz len cap=>if aG H 0 then none else match cO H 0 j w with
        | some q=>some (.heap (bx (dv (dK H 0 j) (d+1) i (v,.row (r.set off (.slc 0 (ao H (d+1)) 0 o sz len cap)))) (d+1) (.row (jk (d+1) q))))
        | none=>none
      | _,_=>some (.set d i (v,.row (jR r off (jk d q))))
     else none
   | _,_,_=>none
 | _=>none

def ll (P:Program):List Field→Option (List (Nat×Nat))
 | []=>some []
 | f::fs=>match bA P f.type,ll P fs with
   | some n,some l=>some ((f.offset,n)::l)
   | _,_=>none

def vU (P:Program) (sy:Bool) (t:TypeId) (parts:List (Nat×AV)):Option AV :=
 match cU P t,P.underlying t with
 | some (.agg z),some (.struct fs)=>match ll P fs.toList with
   | some l=>(sl (fun i=>l[i]?) (if sy then kB z else z) parts).map .agg
   | none=>none
 | some (.agg z),some (.array _ e)=>match bA P e with
   | some n=>(sl (fun i=>some (i*n,n)) (if sy then kB z else z) parts).map .agg
   | none=>none
 | _,_=>none

def lO (a:AV) (n:Nat):Option AV :=
 match a with
 | .ptr d i v off=>some (.ptr d i v (off+n))
 | .ptrT s r off=>some (.ptrT s r (off+n))
 | _=>none

def iT (P:Program) (t:TypeId) (a:AV) (f:Nat):Option AV :=
 match P.underlying t with
 | some (.struct fs)=>match fs[f]? with
   | some g=>match bA P g.type with
     | some (_+1)=>lO a g.offset
     | _=>none
   | none=>none
 | _=>none

def ja (P:Program) (t:TypeId) (x:AV) (i:Int):Option AV :=
 match P.underlying t,x with
 | some (.array n e),x=>match bA P e with
   | some z=>if 0≤i∧i<n then lO x (i.toNat*z) else none
   | none=>none
 | some (.slice e),.slc d j v off sz len _ =>
   if 0≤i∧i<len∧bA P e=some sz then some (.ptr d j v (off+i.toNat*sz)) else none
 | some (.slice e),.slcT s r sz len _ =>
   if 0≤i∧i<len∧bA P e=some sz then some (.ptrT s r (i.toNat*sz)) else none
 | _,_=>none

def p6 (P:Program) (t:TypeId) (x:AV) (i:Int):Option AV :=
 match P.underlying t,x with
 | some (.array n e),.agg r=>match bA P e with
   | some z=>if 0≤i∧i<n then jC P e r (i.toNat*z) else none
   | none=>none
 | some .string,.str s=>if 0≤i then (match s[i.toNat]? with
   | some b=>some (.int .u8 b.toNat)
   | none=>none) else none
 | _,_=>none

def wg (P:Program) (t:TypeId) (x:AV) (f:Nat):Option AV :=
 match P.underlying t,x with
 | some (.struct fs),.agg r=>match fs[f]? with
   | some g=>jC P g.type r g.offset
   | none=>none
 | _,_=>none

def bound (o:Option AV) (dflt top:Nat):Option Nat :=
 match o with
 | none=>some dflt
 | some (.int _ i)=>if 0≤i∧i≤top then some i.toNat else none
 | some _=>none

def eh (lo hi mx:Option AV) (len:Nat):Option (Nat×Nat×Option Nat) :=
 match mx with
 | none=>match bound hi len len with
   | some h=>match bound lo 0 h with
     | some l=>some (l,h,none)
     | none=>none
   | none=>none
 | some a=>match bound (some a) 0 len with
   | some m=>if hi.isSome then (match bound hi len m with
     | some h=>match bound lo 0 h with
       | some l=>some (l,h,some m)
       | none=>none
     | none=>none) else none
   | none=>none

def qn (P:Program) (t:TypeId) (x:AV) (lo hi mx:Option AV):Option AV :=
 match P.underlying t,x with
 | some (.slice e),.slc d j v off sz len cap =>
   match eh lo hi mx len with
   | some (l,h,mm)=>if bA P e=some sz then
      some (.slc d j v (off+l*sz) sz (h-l) (match mm with | none=>cap.map (· - l) | some m=>some (m-l))) else none
   | none=>none
 | some (.slice e),.slcT s r sz len full =>
   match eh lo hi mx len with
   | some (l,h,mm)=>if bA P e=some sz∧l*sz+(h-l)*sz≤r.len then
      some (.slcT s (r.sub (l*sz) ((h-l)*sz)) sz (h-l) (match mm with | none=>full && Nat.beq h len | some m=>Nat.beq h m)) else none
   | none=>none
 | some (.slice e),.nils =>
   match eh lo hi mx 0,bA P e with
   | some _,some _=>some .nils
   | _,_=>none
 | some (.array n e),.ptr d j v off =>
   match eh lo hi mx n with
   | some (l,h,mm)=>match bA P e with
     | some sz=>some (.slc d j v (off+l*sz) sz (h-l) (match mm with | none=>some (n-l) | some m=>some (m-l)))
     | none=>none
   | none=>none
 | _,_=>none

def uD (P:Program) (H:aa) (t:TypeId) (x:AV):Option Int :=
 match P.underlying t,x with
 | some (.array n _),_=>some n
 | some (.slice _),.nils=>some 0
 | some (.slice _),.slc _ _ _ _ _ len _=>some len
 | some (.slice _),.slcT _ _ _ len _=>some len
 | some (.map _ _),.nilm=>some 0
 | some (.map _ _),.map d i=>match ay H d i with
   | (0,.map es)=>some es.length
   | (0,.fmap _ _ _ c)=>some c
   | _=>none
 | _,_=>none

def Lm (P:Program) (t:TypeId) (x:AV):Option Int :=
 match P.underlying t,x with
 | some (.slice _),.nils=>some 0
 | some (.slice _),.slc _ _ _ _ _ _ (some c)=>some c
 | _,_=>none

def eD (H:aa) (sz n:Nat) (x:AV):Option Row :=
 match x with
 | .nils=>if n=0 then some (.G []) else none
 | .slc d i v off sz' len _=>match cO H d i v with
   | some r=>if sz'=sz∧n≤len∧off+n*sz≤r.len then some (BC d (r.sub off (n*sz))) else none
   | none=>none
 | .slcT s r sz' len _=>if sz'=sz∧n≤len∧n*sz≤r.len then some (match s with | none=>r.sub 0 (n*sz) | some k=>BC k (r.sub 0 (n*sz))) else none
 | _=>none
def nQ:AV→Option Nat
 | .nils=>some 0
 | .slc _ _ _ _ _ len _=>some len
 | .slcT _ _ _ len _=>some len
 | _=>none

def room:Nat:=2 ^ 46

def EC (P:Program) (sy:Bool) (nx:Nat) (e:TypeId) (s x:AV):Option (AV×Delta) :=
 match P.info? e,s,x with
 | some inf,.nils,.int _ k =>
   if 0≤k∧k.toNat≤room∧k.toNat*inf.bytes≤room∧0<inf.size∧((cU P e).bind AV.row).map Row.len=some inf.size then
    (if k=0 then some (.nils,.bz) else some (.slc 0 nx 0 0 inf.size k.toNat none,.push (.row (qX sy (.I .i64 [])))))
   else none
 | _,_,_=>none
def oF      (P:Program) (sy:Bool) (H:aa) (nx:Nat) (t u:TypeId) (s x:AV):Option (AV×Delta) :=
 match P.underlying t,P.underlying u with
 | some (.slice e),some (.int _)=>EC P sy nx e s x
 | some (.slice e),some (.slice _) =>
   match P.info? e,nQ s,nQ x with
   | some inf,some m,some n =>
     if n=0 then (match s,x with
      | .nils,_=>some (s,.bz)
      | .slc ..,_=>some (s,.bz)
      | .slcT ..,_=>some (s,.bz)
      | _,_=>none)
     else if (m+n)*inf.bytes≤room∧(m+n)≤room∧0<inf.bytes∧((cU P e).bind AV.row).map Row.len=some inf.size then
      match eD H inf.size n x with
      | none=>none
      | some new =>
        match s with
        | .nils=>some (.slc 0 nx 0 0 inf.size n none,.push (.row (qX sy new)))
        | .slcT _ _ _ _ true=>match eD H inf.size m s with
          | some old=>some (.slc 0 nx 0 0 inf.size (m+n) none,.push (.row (qX sy (old.app new))))
          | none=>none
        | .slc d i v off sz _ (some c) =>
          if c<m+n then
           match eD H inf.size m s with
           | some old=>some (.slc 0 nx 0 0 inf.size (m+n) none,.push (.row (qX sy (old.app new))))
           | none=>none
          else if aG H d then none else
           match cO H d i v with
           | some r=>if sz=inf.size∧off+(m+n)*sz≤r.len then
              some (.slc d i v off sz (m+n) (some c),.set d i (v,.row (r.cG (off+m*sz) (jk d new).toList)))
             else none
           | none=>none
        | .slc d i v off sz _ none =>
          if aG H d then none else
          match cO H d i v with
          | some r=>if sz=inf.size∧off+m*sz=r.len then
             some (.slc d i (v+1) 0 sz (m+n) none,.set d i (v+1,.row ((r.sub off (m*sz)).app (jk d new))))
            else none
          | none=>none
        | _=>none
     else none
   | _,_,_=>none
 | _,_=>none

def copyV (P:Program) (H:aa) (t:TypeId) (s x:AV):Option (AV×Delta) :=
 match P.underlying t with
 | some (.slice e) =>
   match bA P e,nQ s,nQ x with
   | some z,some m,some n =>
     match eD H z (min n m) x with
     | none=>none
     | some new =>
       match s with
       | .nils=>some (.int .i64 (min n m:Nat),.bz)
       | .slc d i v off sz _ _ =>
         if aG H d then none else
         match cO H d i v with
         | some r=>if sz=z∧off+(min n m)*sz≤r.len then
            some (.int .i64 (min n m:Nat),.set d i (v,.row (jR r off (jk d new))))
           else none
         | none=>none
       | _=>none
   | _,_,_=>none
 | _=>none

def sa (P:Program) (H:aa) (t:TypeId) (s:AV):Option (AV×Delta) :=
 match P.underlying t,s with
 | some (.slice _),.nils=>some (.tup [],.bz)
 | some (.slice e),.slc d i v off sz len _ =>
   if aG H d then none else
   match (cU P e).bind AV.row,cO H d i v with
   | some z,some r=>if z.len=sz∧bA P e=some sz∧off+len*sz≤r.len then
      some (.tup [],if len=0 then .bz else .set d i (v,.row (if yd r then jR r off (dI z len) else r.cG off (dS z len).toList)))
     else none
   | _,_=>none
 | _,_=>none

def eH (mx:Bool) (k:IntKind) (x:Int):List AV→Option AV
 | []=>some (.int k x)
 | .int k' y::r=>if k=k' then eH mx k (if mx then (if y > x then y else x) else (if y<x then y else x)) r else none
 | _=>none
def nX (mx:Bool):List AV→Option AV
 | .int k x::r=>eH mx k x r
 | _=>none

def jc (P:Program) (sy:Bool) (nx:Nat) (t:TypeId) (l c:AV):Option (AV×Delta) :=
 match P.underlying t,l,c with
 | some (.slice e),.int _ l,.int _ c =>
   match P.info? e,(cU P e).bind AV.row with
   | some inf,some z =>
     if 0≤l∧l≤c∧c.toNat*inf.bytes≤room∧c.toNat≤room∧z.len=inf.size then
      some (.slc 0 nx 0 0 inf.size l.toNat (some c.toNat),.push (.row (if sy then dI z c.toNat else dS z c.toNat)))
     else none
   | _,_=>none
 | _,_,_=>none

def jt (P:Program) (nx:Nat) (t:TypeId) (len:Nat) (parts:List (Nat×AV)):Option (AV×Delta) :=
 match P.underlying t with
 | some (.slice e)=>match bA P e,(cU P e).bind AV.row with
   | some z,some zv =>
     if len*z≤2 ^ 24∧zv.len=z then
      (sl (fun i=>some (i*z,z)) (dS zv len) parts).map fun r=>(.slc 0 nx 0 0 z len (some len),.push (.row r))
     else none
   | _,_=>none
 | _=>none

def o8 (x y:AV):Option Bool :=
 match x,y with
 | .int k a,.int k' b=>if k=k' then some (a == b) else none
 | .agg (.I k a),.agg (.I k' b)=>if k=k'∧a.length=b.length then some (eW a b) else none
 | _,_=>none
def fL (key:AV):List (AV×AV)→Nat→Option (Option Nat)
 | [],_=>some none
 | (k,_)::r,i=>match o8 key k with
   | some true=>some (some i)
   | some false=>fL key r (i+1)
   | none=>none
def jQ (P:Program) (t:TypeId) (x:AV):Bool :=
 match P.underlying t,x with
 | some (.int _),.int _ _=>true
 | some (.array _ _),.agg (.I _ l)=>b9 P 20 t == some l.length
 | some (.struct _),.agg (.I _ l)=>b9 P 20 t == some l.length
 | _,_=>false
def uZ (H:aa) (m:AV):Option (Nat×List (AV×AV)) :=
 match m with
 | .nilm=>some (0,[])
 | .map d i=>match ay H d i with
   | (0,.map es)=>some (d,es)
   | _=>none
 | _=>none
def ob:List (AV×AV)→Nat→AV
 | [],_=>.undef
 | e::_,0=>e.2
 | _::r,i+1=>ob r i
def ot:List (AV×AV)→Nat→AV×AV→List (AV×AV)
 | [],_,_=>[]
 | _::r,0,x=>x::r
 | e::r,i+1,x=>e::ot r i x
def nD:List (AV×AV)→Nat→List (AV×AV)
 | [],_=>[]
 | _::r,0=>r
 | e::r,i+1=>e::nD r i
def vf (H:aa) (m:AV):Option (KK×(List Int→Bool)×(List Int→Int)×Nat) :=
 match m with
 | .map d i=>match ay H d i with
   | (0,.fmap q h g c)=>some (q,h,g,c)
   | _=>none
 | _=>none
def uC:KK→AV→Option (List Int)
 | .num k,.int k' n=>if k=k' then some [n] else none
 | .str m,.agg (.I .i64 l)=>if Nat.beq l.length m then some l else none
 | _,_=>none
def N9:AV→Option KK
 | .int k _=>some (.num k)
 | .agg (.I .i64 l)=>some (.str l.length)
 | _=>none
def yB:AV→Option Int
 | .int .i64 n=>some n
 | _=>none
def fv (h:List Int→Bool) (n:List Int) (b:Bool):List Int→Bool:=fun i=>if i=n then b else h i
def iH (g:List Int→Int) (n:List Int) (x:Int):List Int→Int:=fun i=>if i=n then x else g i
def ur (b:Bool) (c:Nat):Nat:=cond b c (c+1)
def xG (b:Bool) (c:Nat):Nat:=cond b (c-1) c
def sY (P:Program) (t:TypeId):an :=
 match P.underlying t with
 | some (.map kt et)=>match (cU P kt).bind N9,(cU P et).bind yB with
   | some q,some _=>.fmap q (fun _=>false) (fun _=>0) 0
   | _,_=>.map []
 | _=>.map []
def rz (P:Program) (H:aa) (t:TypeId) (m key:AV) (ok:Bool):Option AV :=
 match P.underlying t with
 | some (.map kt et) =>
   if jQ P kt key then
    match vf H m with
    | some (q,h,g,_)=>match uC q key,(cU P et).bind yB with
      | some n,some 0=>some (if ok then .tup [.int .i64 (g n),.bool (h n)] else .int .i64 (g n))
      | _,_=>none
    | none=>match uZ H m,cU P et with
    | some (d,es),some z=>match fL key es 0 with
      | some (some i)=>some (if ok then .tup [mE d (ob es i),.bool true] else mE d (ob es i))
      | some none=>some (if ok then .tup [z,.bool false] else z)
      | none=>none
    | _,_=>none
   else none
 | _=>none
def jI (P:Program) (H:aa) (t:TypeId) (m key x:AV):Option Delta :=
 match P.underlying t,m with
 | some (.map kt _),.map d i =>
   if aG H d then none else
   if jQ P kt key then
    match ay H d i with
    | (0,.fmap q h g c)=>match uC q key,yB x with
      | some n,some y=>some (.set d i (0,.fmap q (fv h n true) (iH g n y) (ur (h n) c)))
      | _,_=>none
    | (0,.map es)=>match fL key es 0 with
      | some (some j)=>some (.set d i (0,.map (ot es j (key,P6 d x))))
      | some none=>some (.set d i (0,.map (es++[(key,P6 d x)])))
      | none=>none
    | _=>none
   else none
 | _,_=>none
def oJ (P:Program) (H:aa) (t:TypeId) (m key:AV):Option (AV×Delta) :=
 match P.underlying t,m with
 | some (.map kt _),.map d i =>
   if aG H d then none else
   if jQ P kt key then
    match ay H d i with
    | (0,.fmap q h g c)=>match uC q key with
      | some n=>some (.tup [],.set d i (0,.fmap q (fv h n false) (iH g n 0) (xG (h n) c)))
      | none=>none
    | (0,.map es)=>match fL key es 0 with
      | some (some j)=>some (.tup [],.set d i (0,.map (nD es j)))
      | some none=>some (.tup [],.set d i (0,.map es))
      | none=>none
    | _=>none
   else none
 | _,_=>none

def dQ (fr:aD):List (Nat×Operand)→List (Nat×AV)
 | []=>[]
 | (i,x)::r=>(i,bW fr x)::dQ fr r
def lh (fr:aD):List Operand→List AV
 | []=>[]
 | x::r=>bW fr x::lh fr r

def ng {α:Type} (call:aI) (a b:α):α :=
 match call .mode [] [] with
 | some _=>a
 | none=>b
def gI (P:Program) (call:aI) (fr:aD) (H:aa) (nx:Nat) (c:Call):Option (AV×Delta) :=
 match c.callee with
 | .value f=>match bW fr f with
   | .fn (.func g) a b=>(call (.fn g) (a++(lh fr c.args.toList++b)) H).map fun (v,H)=>(v,.heap H)
   | .yld d i=>(call (.round d i) (lh fr c.args.toList) H).map fun (v,H)=>(v,.heap H)
   | _=>none
 | .builtin .len=>match c.args.toList,c.argTypes.toList with
   | x::_,t::_=>(uD P H t (bW fr x)).map fun n=>(.int .i64 n,.bz)
   | _,_=>none
 | .builtin .cap=>match c.args.toList,c.argTypes.toList with
   | x::_,t::_=>(Lm P t (bW fr x)).map fun n=>(.int .i64 n,.bz)
   | _,_=>none
 | .builtin .append=>match c.args.toList,c.argTypes.toList with
   | s::x::_,t::u::_=>oF P (ng call true false) H nx t u (bW fr s) (bW fr x)
   | _,_=>none
 | .builtin .copy=>match c.args.toList,c.argTypes.toList with
   | s::x::_,t::_=>copyV P H t (bW fr s) (bW fr x)
   | _,_=>none
 | .builtin .clear=>match c.args.toList,c.argTypes.toList with
   | s::_,t::_=>sa P H t (bW fr s)
   | _,_=>none
 | .builtin .delete=>match c.args.toList,c.argTypes.toList with
   | m::k::_,t::_=>oJ P H t (bW fr m) (bW fr k)
   | _,_=>none
 | .builtin .min=>(nX false (lh fr c.args.toList)).map fun v=>(v,.bz)
 | .builtin .max=>(nX true (lh fr c.args.toList)).map fun v=>(v,.bz)
 | _=>none

def kp (o:Option AV):Option (AV×Delta):=o.map fun v=>(v,.bz)

def evalOp (P:Program) (call:aI) (fr:aD) (H:aa) (nx:Nat) (o:Oper):Option (AV×Delta) :=
 match o.op with
 | .move x | .assign x=>some (bW fr x,.bz)
 | .pick c a b=>match bW fr c with
   | .bool t=>some (if t then bW fr a else bW fr b,.bz)
   | _=>none
 | .alloc t=>((cU P t).bind AV.row).map fun z=>(.ptr 0 nx 0 0,.push (.row (ng call (kB z) z)))
 | .box _ x=>(bW fr x).row.map fun r=>(.ptr 0 nx 0 0,.push (.row (ng call (kB r) r)))
 | .build t parts=>kp (vU P (ng call true false) t (dQ fr parts.toList))
 | .buildSlice t len parts=>jt P nx t len (dQ fr parts.toList)
 | .load t a=>kp (pb P H t (bW fr a))
 | .store t a x=>(gv P H t (bW fr a) (bW fr x)).map fun δ=>(.tup [],δ)
 | .nilCheck x=>match bW fr x with
   | .ptr d i v off=>some (.ptr d i v off,.bz)
   | .ptrT s r off=>some (.ptrT s r off,.bz)
   | _=>none
 | .binOp op t x y _=>kp (j6 P op t (bW fr x) (bW fr y))
 | .unOp op _ x=>kp (PE op (bW fr x))
 | .convert src dst x=>match P.underlying src,P.underlying dst,bW fr x with
   | some _,some (.int k),.int _ n=>some (.int k (k.wrap n),.bz)
   | _,_,_=>none
 | .makeFunc fn first cap=>match fn with
   | .func g=>some (.fn (.func g) (lh fr first.toList) (lh fr cap.toList),.bz)
   | _=>none
 | .makeSlice t l c=>jc P (ng call true false) nx t (bW fr l) (bW fr c)
 | .slice t x lo hi mx=>kp (qn P t (bW fr x) (lo.map (bW fr)) (hi.map (bW fr)) (mx.map (bW fr)))
 | .fieldAddr t x f=>kp (iT P t (bW fr x) f)
 | .field t x f=>kp (wg P t (bW fr x) f)
 | .indexAddr t x i=>match bW fr i with
   | .int _ n=>kp (ja P t (bW fr x) n)
   | _=>none
 | .index t x i=>match bW fr i with
   | .int _ n=>kp (p6 P t (bW fr x) n)
   | _=>none
 | .makeMap t none=>some (.map 0 nx,.push (ng call (sY P t) (.map [])))
 | .lookup t m k ok=>kp (rz P H t (bW fr m) (bW fr k) ok)
 | .mapUpdate t m k x | .insert t m k x=>(jI P H t (bW fr m) (bW fr k) (bW fr x)).map fun δ=>(.tup [],δ)
 | .extract t ix=>match bW fr t with
   | .tup l=>match l[ix]? with
     | some v=>some (v,.bz)
     | none=>none
   | _=>none
 | .call c=>gI P call fr H nx c
 | _=>none

inductive Want where
 | run | skip | lost
def lG (ops:Array Oper) (fr:aD) (o:Oper):Want :=
 match o.guard with
 | none=>.run
 | some (j,want)=>match (ops[j]?).bind (·.dst) with
   | none=>.lost
   | some d=>match bL fr d with
     | .bool b=>if b == want then .run else .skip
     | .tup _=>.skip
     | _=>.lost

def iC (nt:Nat) (fr:aD) (dst:Option Tmp) (v:AV):aD :=
 match dst with
 | some d=>if Nat.blt d nt then uu fr d v else fr
 | none=>fr

def eZ (P:Program) (nt:Nat) (call:aI) (ops:Array Oper):List Oper→aD→aa→Option (aD×aa)
 | [],fr,H=>some (fr,H)
 | o :: r,fr,H=>match lG ops fr o with
   | .lost=>none
   | .skip=>eZ P nt call ops r (iC nt fr o.dst (.tup [])) H
   | .run=>match evalOp P call fr H (a7 H) o with
     | none=>none
     | some (v,δ)=>eZ P nt call ops r (iC nt fr o.dst v) (δ.on H)

inductive Touch where
 | none
 | blk (d i:Nat)
 | all
structure Rec where
 ix:Nat
 reads:Touch
 writes:Option (Nat×Nat)
def cK (fr:aD) (o:Oper):Touch :=
 let at' (v:AV):Touch:=match v with
  | .ptr d i _ _=>.blk d i
  | .slc d i _ _ _ _ _=>.blk d i
  | .map d i=>.blk d i
  | _=>.none
 match o.op with
 | .load _ a=>at' (bW fr a)
 | .store _ a _=>at' (bW fr a)
 | .lookup _ m _ _=>at' (bW fr m)
 | .mapUpdate _ m _ _ | .insert _ m _ _=>at' (bW fr m)
 | .call c=>match c.callee with
   | .builtin .len=>match c.args.toList with
     | x::_=>match bW fr x with | .map d i=>.blk d i | _=>.none
     | _=>.all
   | .builtin .min | .builtin .max=>.none
   | _=>.all
 | _=>.none
def da (H:aa) (bef:Nat):List Rec→aa
 | []=>H
 | r::l=>match r.writes with
   | some (d,i)=>if bef.testBit r.ix then da H bef l else da (dK H d i) bef l
   | none=>da H bef l
def kn (bef:Nat) (d i:Nat):List Rec→Bool
 | []=>true
 | r::l=>(bef.testBit r.ix || (match r.reads with
   | .none=>true
   | .blk e j=>!(Nat.beq e d && Nat.beq j i)
   | .all=>false)) && kn bef d i l

def jz (o:Oper):Bool :=
 match o.op with
 | .alloc _ | .box _ _ | .buildSlice _ _ _ | .makeSlice _ _ _ | .makeMap _ _=>true
 | .call c=>match c.callee with
   | .builtin .append=>true
   | _=>false
 | _=>false
def cW:List Oper→Nat
 | []=>0
 | o::r=>if jz o then cW r+1 else cW r
def nL:aa→Nat→aa
 | [],_=>[]
 | l::r,k=>{ l with bs:=l.bs++List.replicate k (0,.dead) } :: r
def mb:an→Bool
 | .dead=>true
 | _=>false
def rv:Nat×an→Bool
 | (0,.dead)=>true
 | _=>false
def fj (o:Oper):Bool :=
 match o.op with
 | .call c=>match c.callee with
   | .value _=>true
   | _=>false
 | _=>false
def q9 (H:aa):Option (Nat×Nat×(Nat×an))→aa
 | none=>H
 | some (d,i,b)=>dv H d i b
structure uk where
 v:AV
 rd:Touch
 wr:Option (Nat×Nat×(Nat×an))
def gJ (P:Program) (call:aI) (ops:Array Oper) (bef:Nat) (fr:aD) (H:aa) (nx:Nat) (recs:List Rec) (o:Oper):Option uk :=
 match lG ops fr o with
 | .lost=>none
 | .skip=>some ⟨.tup [],.none,none⟩
 | .run =>
   if fj o then match evalOp P call fr (bD (da H bef recs)) nx o with
    | some (v,_)=>some ⟨v,.all,none⟩
    | none=>none
   else match evalOp P call fr (da H bef recs) nx o with
    | some (v,.bz)=>some ⟨v,cK fr o,none⟩
    | some (v,.push b)=>if jz o && !mb b && rv (ay H 0 nx) && !aG H 0 then some ⟨v,cK fr o,some (0,nx,(0,b))⟩ else none
    | some (v,.set d i b)=>if !mb b.2 && (Nat.beq b.1 (ay H d i).1 || Nat.beq b.1 (Nat.succ (ay H d i).1)) && !mb (ay (da H bef recs) d i).2 && kn bef d i recs then some ⟨v,cK fr o,some (d,i,b)⟩ else none
    | _=>none

def gx (P:Program) (nt:Nat) (call:aI) (ops:Array Oper) (befs:Array Nat):Nat→List Oper→aD→aa→Nat→List Rec→Option (aD×aa)
 | _,[],fr,H,_,_=>some (fr,H)
 | j,o::r,fr,H,nx,recs=>match gJ P call ops (befs.getD j 0) fr H nx recs o with
   | some e=>gx P nt call ops befs (j+1) r (iC nt fr o.dst e.v) (q9 H e.wr) (if jz o then nx+1 else nx) (⟨j,e.rd,e.wr.map fun x=>(x.1,x.2.1)⟩::recs)
   | none=>none

def fW (ops:Array Oper) (befs:Array Nat):Bool :=
 ops.toList.zipIdx.all fun (o,j)=>Nat.blt (befs.getD j 0) (2 ^ j) &&
  ops.toList.zipIdx.all fun (q,i) =>
   Nat.beq i j || (match q.dst with
   | none=>true
   | some d=>(o.dst != some d) && (!(o.looksAt ops).contains d || (befs.getD j 0).testBit i || (befs.getD i 0).testBit j))

inductive Ex where
 | normal | exit (id:Nat) | goto (l:Nat) | ret

def Ci:Option Nat→Bool
 | some 0=>true
 | _=>false
def DA:AV→Bool
 | .int _ _=>true
 | .bool _=>true
 | .nils=>true
 | .slcT none _ _ _ _=>true
 | .ptrT none _ _=>true
 | _=>false
def NF:Row→Bool
 | .I _ _=>true
 | .F _ _=>true
 | .G l=>l.all DA
 | .M l=>fI l
def lJ (n:Nat):AV→Bool
 | .ptr d i _ _=>Nat.beq d 0 && Nat.ble n i
 | .slc d i _ _ _ _ _=>Nat.beq d 0 && Nat.ble n i
 | .map d i=>Nat.beq d 0 && Nat.ble n i
 | .yld d i=>Nat.beq d 0 && Nat.ble n i
 | .ptrT s r _=>Ci s && !NF r
 | .slcT s _ _ _ _=>Ci s
 | .agg (.G _)=>true
 | .agg (.M l)=>!fI l
 | .fn _ _ _=>true
 | .tup (_::_)=>true
 | _=>false
def anyM (f:AV→Bool):List c8→Bool
 | []=>false
 | .one v::r=>f v || anyM f r
 | .arr _ _ _::r=>anyM f r
def uL (n:Nat):AV→Bool
 | .agg (.G l)=>l.any (lJ n)
 | .agg (.M l)=>anyM (lJ n) l
 | .fn _ a b=>a.any (lJ n) || b.any (lJ n)
 | .ptrT (some 0) (.M l) _=>anyM (lJ n) l
 | v=>lJ n v
def R7 (n:Nat):Row→Bool
 | .I .. | .F ..=>false
 | .G l=>l.any (uL n)
 | .M l=>anyM (uL n) l
def IX (n:Nat):an→Bool
 | .dead=>false
 | .row r=>R7 n r
 | .map es=>es.any fun e=>uL n e.1 || uL n e.2
 | .fmap _ _ _ _=>false
 | .loop _=>true
def cutAt (fr:aD) (l:bF) (r:aa):Nat→Nat→aa
 | 0,_=>l::r
 | k+1,m=>if fr.any (fun x=>uL m x.2) || (l.bs.take m).any (fun x=>IX m x.2) then cutAt fr l r k (m+1) else { l with bs:=l.bs.take m } :: r
def lW (n:Nat) (fr:aD) (H:aa):aa :=
 match H with
 | []=>[]
 | l::r=>if Nat.ble l.bs.length n then H else cutAt fr l r 4 n

def IY:AV→Bool
 | .ptrT (some 0) (.M l) _=>anyM (lJ 0) l
 | v=>lJ 0 v
def uN (h:Nat):AV→Bool
 | .ptr d i _ _=>Nat.beq d 0 && Nat.beq i h
 | .slc d i _ _ _ _ _=>Nat.beq d 0 && Nat.beq i h
 | .map d i=>Nat.beq d 0 && Nat.beq i h
 | .yld d i=>Nat.beq d 0 && Nat.beq i h
 | v=>IY v
def pJ (f:AV→Bool) (v:AV):Bool :=
 match v with
 | .agg (.G l)=>l.any f
 | .agg (.M l)=>anyM f l
 | .fn _ a b=>a.any f || b.any f
 | v=>f v
def Nd (f:AV→Bool):Row→Bool
 | .I .. | .F ..=>false
 | .G l=>l.any (pJ f)
 | .M l=>anyM (pJ f) l
def Am (f:AV→Bool):an→Bool
 | .dead=>false
 | .row r=>Nd f r
 | .map _=>true
 | .fmap _ _ _ _=>false
 | .loop _=>true
def uH (a b:Nat):AV→AV
 | .ptr d i v off=>if Nat.beq d 0 && Nat.beq i a then .ptr 0 b v off else .ptr d i v off
 | .slc d i v off sz len cap=>if Nat.beq d 0 && Nat.beq i a then .slc 0 b v off sz len cap else .slc d i v off sz len cap
 | .map d i=>if Nat.beq d 0 && Nat.beq i a then .map 0 b else .map d i
 | .yld d i=>if Nat.beq d 0 && Nat.beq i a then .yld 0 b else .yld d i
 | v=>v
def nf (g:AV→AV) (v:AV):AV :=
 match v with
 | .agg (.G l)=>.agg (.G (l.map g))
 | .agg (.M l)=>.agg (.M (mapM' g l))
 | .fn f a b=>.fn f (a.map g) (b.map g)
 | v=>g v
def F5 (g:AV→AV):Row→Row
 | .I k l=>.I k l
 | .F f n=>.F f n
 | .G l=>.G (l.map (nf g))
 | .M l=>.M (mapM' (nf g) l)
def qe (g:AV→AV):an→an
 | .row r=>.row (F5 g r)
 | b=>b
def qf (g:AV→AV):aD→aD
 | []=>[]
 | (x,v)::r=>(x,nf g v)::qf g r
def jx (g:AV→AV):List (Nat×an)→List (Nat×an)
 | []=>[]
 | (v,b)::r=>(v,qe g b)::jx g r
def hole (fr:aD) (bs:List (Nat×an)):Nat→Nat→Option Nat
 | 0,_=>none
 | k+1,m=>if Nat.blt (m+1) bs.length then
    if fr.any (fun x=>pJ (uN m) x.2) || ((bs.take m).any (fun x=>Am (uN m) x.2) || (bs.drop (m+1)).any (fun x=>Am (uN m) x.2)) then hole fr bs k (m+1) else some m
   else none
def xy (a b:Nat) (l:bF):bF:={ l with bs:=bN (jx (uH a b) (l.bs.take a)) b ((au l.bs a).1,qe (uH a b) (au l.bs a).2) }
def jT (n:Nat):Nat→aD→aa→aD×aa
 | 0,fr,H=>(fr,H)
 | k + 1,fr,H=>match H with
   | []=>(fr,[])
   | l::r=>match hole fr l.bs 4 n with
     | none=>(fr,l::r)
     | some h=>jT n k (qf (uH (l.bs.length-1) h) fr) (lW n (qf (uH (l.bs.length-1) h) fr) (xy (l.bs.length-1) h l::r))
def tidy (n:Nat) (fr:aD) (H:aa):aD×aa:=jT n 4 fr (lW n fr H)

def nb (i ver:Nat) (r:Row):AV→AV
 | .ptr d j v off=>if Nat.beq d 0 && (Nat.beq j i && Nat.beq v ver) then .ptrT none r off else .ptr d j v off
 | .slc d j v off sz len cap=>if Nat.beq d 0 && (Nat.beq j i && (Nat.beq v ver && Nat.ble (off+len*sz) r.len)) then .slcT none (r.sub off (len*sz)) sz len (cap == some len) else .slc d j v off sz len cap
 | v=>v
def pz (i:Nat):AV→Bool
 | .slc d j _ _ _ _ _=>Nat.beq d 0 && Nat.beq j i
 | _=>false
def wE:Row→Bool
 | .I _ _=>true
 | .M [.arr _ _ _]=>true
 | _=>false
def Ms (f:AV→Bool):an→Bool
 | .row r=>Nd f r
 | _=>false
def l9 (i:Nat) (fr:aD) (l:bF):aD×bF :=
 match au l.bs i with
 | (ver,.row r)=>if wE r && (fr.any (fun x=>pJ (pz i) x.2) || l.bs.any (fun x=>Ms (pz i) x.2)) then (qf (nb i ver r) fr,{ l with bs:=bN (jx (nb i ver r) l.bs) i (ver,.dead) }) else (fr,l)
 | _=>(fr,l)
def iZ:Nat→aD→bF→aD×bF
 | 0,fr,l=>(fr,l)
 | n+1,fr,l=>l9 n (iZ n fr l).1 (iZ n fr l).2
def DQ (fr:aD) (H:aa):aD×aa :=
 match H with
 | []=>(fr,[])
 | l::r=>if l.lock then (fr,l::r) else ((iZ l.bs.length fr l).1,(iZ l.bs.length fr l).2::r)
def ep:Nat→aD→bF→aD×bF
 | 0,fr,l=>(fr,l)
 | n+1,fr,l=>if (ep n fr l).1.any (fun x=>pJ (pz n) x.2) then ep n fr l else l9 n (ep n fr l).1 (ep n fr l).2
def uA (fr:aD) (H:aa):aD×aa :=
 match H with
 | []=>(fr,[])
 | l::r=>if l.lock then (fr,l::r) else ((ep l.bs.length fr l).1,(ep l.bs.length fr l).2::r)
def Ou (sz:Nat):AV→AV
 | .nils=>.slcT none (.M [.arr .i64 (fun _=>0) 0]) sz 0 false
 | v=>v
def DY (sz:Nat):Nat→List AV→List AV
 | _,[]=>[]
 | 0,v::l=>Ou sz v::l
 | c+1,v::l=>v::DY sz c l
def uI (c sz:Nat):an→an
 | .row (.G l)=>.row (.G (DY sz c l))
 | B=>B
def ml (c sz:Nat):List (Nat×an)→List (Nat×an)
 | []=>[]
 | (v,B)::r=>(v,uI c sz B)::ml c sz r
def Gc (k:Nat) (H:aa):aa :=
 match H with
 | []=>[]
 | l::r=>if l.lock then l::r else { l with bs:=ml (k % 8) (k / 8) l.bs } :: r
def Ct (s:Nat):aD→Option Nat
 | []=>none
 | (x,v)::r=>if Nat.beq x s then (match v with
   | .slc 0 i _ _ _ _ _=>some i
   | _=>none) else Ct s r
def wC (s:Nat) (fr:aD) (H:aa):aD×aa :=
 match H with
 | []=>(fr,[])
 | l::r=>if l.lock then (fr,l::r) else match Ct s fr with
   | some i=>((l9 i fr l).1,(l9 i fr l).2::r)
   | none=>(fr,l::r)
noncomputable def kT (m:Nat) (fr:aD) (H:aa):aD×aa:=if lI m 4000 then ((DQ (bS fr m) H).1,if Nat.beq (Nat.shiftRight m 4003) 0 then (DQ (bS fr m) H).2 else Gc (Nat.shiftRight m 4003) (DQ (bS fr m) H).2) else if lI m 4001 then wC (Nat.shiftRight m 4003) (bS fr m) H else if lI m 4002 then (match bL (bS fr m) (Nat.shiftRight m 4003) with | .bool false=>uA (bS fr m) H | _=>(bS fr m,H)) else (bS fr m,H)
def D0:aD→aD
 | []=>[]
 | (x,v)::r=>(x,jA v)::D0 r
noncomputable def o6 (m:Nat) (fr:aD) (H:aa):aD×aa:=if lI m 3999 then (D0 (kT m fr H).1,(kT m fr H).2) else kT m fr H

def iter (body:aD→aa→Option (Ex×aD×aa)) (n:Nat):Nat→aD→aa→Option (Ex×aD×aa)
 | 0,_,_=>none
 | fu+1,fr,H=>match body fr H with
   | some (.normal,fr,H)=>iter body n fu (tidy n fr H).1 (tidy n fr H).2
   | r=>r

structure Cx where
 P:Program
 call:aI
 fu:Nat
 fn:FuncId
 nt:Nat
 kt:Nat→Nat
 ro:Option (Nat×Nat)
def Cx.here (cx:Cx) (H:aa):Bool :=
 match cx.ro with
 | none=>true
 | some (d,i)=>match ay H d i with
   | (0,.loop _)=>true
   | _=>false

def jg (fr:aD) (H:aa) (cx:Cx) (params:Array Tmp) (assign body:Code):aa :=
 ju H (.loop { state:=.ready,pending:=none,fn:=cx.fn,nt:=cx.nt,fr,params:=params.toList,assign,body })

def xK:Option Code→Option Ex
 | none=>some .normal
 | some (.exit id)=>some (.exit id)
 | some (.goto l)=>some (.goto l)
 | some .ret=>some .ret
 | _=>none

noncomputable def exec (cx:Cx):Code→aD→aa→Option (Ex×aD×aa)
 | .skip,fr,H=>some (.normal,fr,H)
 | .label _,fr,H=>some (.normal,fr,H)
 | .region id ops draw,fr,H =>
   match (if draw then (if fW ops (Region.before ops) then gx cx.P cx.nt cx.call ops (Region.before ops) 0 ops.toList fr (nL H (cW ops.toList)) (a7 H) [] else none) else eZ cx.P cx.nt cx.call ops ops.toList fr H) with
   | some (fr,H)=>some (.normal,o6 (cx.kt id) fr H)
   | none=>none
 | .seq a b,fr,H=>match exec cx a fr H with
   | some (.normal,fr,H)=>exec cx b fr H
   | r=>r
 | .cond c a b,fr,H=>match bW fr c with
   | .bool true=>exec cx a fr H
   | .bool false=>exec cx b fr H
   | _=>none
 | .block id b,fr,H=>match exec cx b fr H with
   | some (.exit id',fr,H)=>if Nat.beq id' id then some (.normal,fr,H) else some (.exit id',fr,H)
   | r=>r
 | .loop b,fr,H=>iter (exec cx b) (a7 H) cx.fu fr H
 | .rangeFunc f params assign body,fr,H =>
   match bW fr f with
   | .fn (.func g) a b =>
     if !cx.here H || aG H 0 then none else
     match cx.call (.fn g) (a++(.yld 0 (a7 H)::b)) (jg fr H cx params assign body) with
     | some (_,H1)=>match ay H1 0 (a7 H) with
       | (0,.loop l) =>
         if l.state == .busy then none else
         match xK l.pending with
         | some e=>some (e,fr,dK H1 0 (a7 H))
         | none=>none
       | _=>none
     | none=>none
   | _=>none
 | .exit id,fr,H=>some (.exit id,fr,H)
 | .scope b,fr,H=>match exec cx b fr H with
   | some (.goto _,_,_)=>none
   | r=>r
 | .goto l,fr,H=>some (.goto l,fr,H)
 | .ret,fr,H=>some (.ret,fr,H)
 | .refuse _,_,_=>none

def dz   (bs:List (Nat×an)):Nat→AV→AV
 | 0,_=>.undef
 | n + 1,v=>match v with
   | .ptr d i ver off=>match d with
     | d+1=>.ptr d i ver off
     | 0 => match au bs i with
       | (w,.row r)=>if Nat.beq w ver then (match r with
         | .I k l=>.ptrT none (.I k l) off
         | .F f m=>.ptrT none (.F f m) off
         | .M l=>if fI l then .ptrT none (.M l) off else .ptrT (some 0) (.M (mapM' (dz bs n) l)) off
         | .G l=>.ptrT (some 0) (.G (l.map (dz bs n))) off) else .undef
       | _=>.undef
   | .slc d i ver off sz len cap=>match d with
     | d+1=>.slc d i ver off sz len cap
     | 0 => match au bs i with
       | (w,.row r)=>if Nat.beq w ver∧off+len*sz≤r.len then (match r.sub off (len*sz) with
         | .I k l=>.slcT none (.I k l) sz len (cap == some len)
         | .F f m=>.slcT none (.F f m) sz len (cap == some len)
         | .M l=>if fI l then .slcT none (.M l) sz len (cap == some len) else .slcT (some 0) (.M (mapM' (dz bs n) l)) sz len (cap == some len)
         | .G l=>.slcT (some 0) (.G (l.map (dz bs n))) sz len (cap == some len)) else .undef
       | _=>.undef
   | .ptrT s r off=>match s with
     | none=>.ptrT none r off
     | some (s+1)=>.ptrT (some s) r off
     | some 0=>match r with
       | .G l=>.ptrT (some 0) (.G (l.map (dz bs n))) off
       | .M l=>if fI l then .ptrT none (.M l) off else .ptrT (some 0) (.M (mapM' (dz bs n) l)) off
       | r=>.ptrT none r off
   | .slcT s r sz len full=>match s with
     | none=>.slcT none r sz len full
     | some (s+1)=>.slcT (some s) r sz len full
     | some 0=>match r with
       | .G l=>.slcT (some 0) (.G (l.map (dz bs n))) sz len full
       | .M l=>if fI l then .slcT none (.M l) sz len full else .slcT (some 0) (.M (mapM' (dz bs n) l)) sz len full
       | r=>.slcT none r sz len full
   | .map d i=>match d with
     | d+1=>.map d i
     | 0=>.undef
   | .yld d i=>match d with
     | d+1=>.yld d i
     | 0=>.undef
   | .fn f a b=>.fn f (a.map (dz bs n)) (b.map (dz bs n))
   | .agg r=>match r with
     | .G l=>.agg (.G (l.map (dz bs n)))
     | .M l=>.agg (.M (mapM' (dz bs n) l))
     | r=>.agg r
   | .tup l=>.tup (l.map (dz bs n))
   | v=>v

def dY:Nat→List AV→aD
 | _,[]=>[]
 | x,v::l=>(x,mE 1 v)::dY (x+1) l

def gq (P:Program) (fr:aD) (H:aa):List ResultVar→Option (List AV)
 | []=>some []
 | .tmp t::r=>(gq P fr H r).map (bL fr t::·)
 | .cell a t::r=>match pb P H t (bL fr a) with
   | some v=>(gq P fr H r).map (v::·)
   | none=>none
def one:List AV→AV
 | [v]=>v
 | l=>.tup l

def jB (nt:Nat) (fr:aD):List Tmp→List AV→Option aD
 | [],[]=>some fr
 | t::ts,v::vs=>if Nat.blt t nt then jB nt (uu fr t v) ts vs else none
 | _,_=>none

def cV:Ex→Option Code
 | .normal=>none
 | .exit id=>some (.exit id)
 | .goto l=>some (.goto l)
 | .ret=>some .ret

def kC (k:Nat):aD→aD
 | []=>[]
 | (x,v)::r=>(x,mE k v)::kC k r

noncomputable def c6 (P:Program) (ora:aI→FuncId→List AV→aa→Option (AV×aa)) (KT:FuncId→Nat→Nat) (fu:Nat):Nat→aI
 | _,.mode,_,_=>(ora (fun _ _ _=>none) 1000000 [] []).map fun _=>(.undef,[])
 | 0,_,_,_=>none
 | n + 1,.fn f,args,H=>match ora (c6 P ora KT fu n) f args H with
   | some r=>some r
   | none => match P.funcs[f]? with
     | none=>none
     | some fn=>match fn.body with
       | none=>none
       | some c=>if Nat.ble args.length fn.ntmps then
         match exec ⟨P,c6 P ora KT fu n,fu,f,fn.ntmps,KT f,none⟩ c (dY 0 args) (⟨false,[]⟩::H) with
         | some (e,fr,l::H') =>
           (match e with
           | .normal | .ret=>match gq P fr (l::H') fn.results.toList with
             | some vs=>some (dz l.bs 5 (one vs),H')
             | none=>none
           | _=>none)
         | _=>none
         else none
 | n + 1,.round  d i,args,H=>match ay H d i with
   | (0, .loop l) =>
     if aG H d then none else
     match l.state with
     | .ready => match jB l.nt (kC (d+1) l.fr) l.params (args.map (mE 1)) with
       | some fr => match exec ⟨P,c6 P ora KT fu n,fu,l.fn,l.nt,KT l.fn,some (d+1,i)⟩ l.assign fr (⟨false,[]⟩::H) with
         | some (.normal,fr,H1)=>match ay H1 (d+1) i with
           | (0, .loop l1)=>match l1.state with
             | .ready =>
               match exec ⟨P,c6 P ora KT fu n,fu,l.fn,l.nt,KT l.fn,some (d+1,i)⟩ l.body fr (dv H1 (d+1) i (0,.loop { l1 with state:=.busy })) with
               | some (e,_,_::H2)=>match ay H2 d i with
                 | (0,.loop l2)=>some (.bool (cV e).isNone,dv H2 d i (0,.loop { l2 with state:=if (cV e).isNone then .ready else .done,pending:=cV e }))
                 | _=>none
               | _=>none
             | _=>none
           | _=>none
         | _=>none
       | none=>none
     | _=>none
   | _=>none

end Go.Eng
