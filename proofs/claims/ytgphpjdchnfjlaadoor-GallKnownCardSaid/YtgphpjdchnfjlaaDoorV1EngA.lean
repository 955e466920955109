/- The engine, part A: abstract values, the abstract heap, the abstract interpreter. No statement is proved here. -/
import Derived.RangeFuncLeaves
import Derived.Test.YtgphpjdchnfjlaaDoorV1EngGl
import Derived.OrdersIn
import Derived.RangeFuncRecord
namespace Go.Eng
theorem nP:(∀ {α:Type} (a b:α),(some a=some b)=(a=b))∧(∀ {α β:Type} (a c:α) (b d:β),((a,b)=(c,d))=(a=c∧b=d)):=⟨fun _ _=>Option.some.injEq _ _,fun _ _ _ _=>Prod.mk.injEq _ _ _ _⟩

mutual
inductive AV where
 | undef
 | bool (b:Bool)
 | int (k:IntKind) (n:Int)
 | str (s:ByteArray)
 | nilp | nils | nilm | nilf
 | ptr (d i v off:Nat)
 | ptrT (s:Option Nat) (r:Row) (off:Nat)
 | slc (d i v off sz len:Nat) (cap:Option Nat)
 | slcT (s:Option Nat) (r:Row) (sz len:Nat) (full:Bool)
 | map (d i:Nat)
 | yld (d i:Nat)
 | fn (f:Fn) (first cap:List AV)
 | agg (r:Row)
 | tup (l:List AV)
inductive Row where
 | I (k:IntKind) (l:List Int)
 | G (l:List AV)
 | F (f:Nat→AV) (n:Nat)
 | M (l:List bL)
inductive bL where
 | one (v:AV)
 | arr (k:IntKind) (z:Nat→Int) (n:Nat)
end

instance:Inhabited AV:=⟨.undef⟩
instance:Inhabited Row:=⟨.G []⟩

def ar:bL→Nat
 | .one _=>1
 | .arr _ _ n=>n
def ai:List bL→Nat
 | []=>0
 | s::r=>ar s+ai r
def getM:List bL→Nat→AV
 | [],_=>.undef
 | .one v::_,0=>v
 | .one _::r,j+1=>getM r j
 | .arr k z n::r,j=>if j<n then .int k (z j) else getM r (j-n)
def mapM' (f:AV→AV):List bL→List bL
 | []=>[]
 | .one v::r=>.one (f v)::mapM' f r
 | .arr k z n::r=>.arr k z n::mapM' f r
def dN:List bL→Bool
 | []=>true
 | .one _::_=>false
 | .arr _ _ _::r=>dN r
def Row.len:Row→Nat
 | .I _ l=>l.length
 | .G l=>l.length
 | .F _ n=>n
 | .M l=>ai l
def Row.get:Row→Nat→AV
 | .I k l,j=>.int k (l.getD j 0)
 | .G l,j=>l.getD j .undef
 | .F f _,j=>f j
 | .M l,j=>getM l j

def bQ (g:Nat→AV):Nat→Nat→List AV
 | _,0=>[]
 | o,n+1=>g o::bQ g (o+1) n
def Row.toList:Row→List AV
 | .I k l=>l.map (.int k)
 | .G l=>l
 | .F f n=>bQ f 0 n
 | .M l=>bQ (getM l) 0 (ai l)
def Row.ints:Row→Option (IntKind×(Nat→Int))
 | .I k l=>some (k,fun j=>l.getD j 0)
 | .M [.arr k z _]=>some (k,z)
 | _=>none
def s5:Row→Bool
 | .M _=>true
 | _=>false
def mJ:List AV→List bL→List bL
 | [],r=>r
 | v::l,r=>.one v::mJ l r
def gr:List bL→Nat→AV→List bL
 | [],_,_=>[]
 | .one _::r,0,v=>.one v::r
 | .one u::r,j+1,v=>.one u::gr r j v
 | .arr k z n::r,j,v=>if j<n then (match v with
    | .int k' x=>if k'=k then .arr k (fun i=>if i=j then x else z i) n::r else mJ (bQ (fun i=>if i=j then v else .int k (z i)) 0 n) r
    | _=>mJ (bQ (fun i=>if i=j then v else .int k (z i)) 0 n) r)
   else .arr k z n::gr r (j-n) v
def sv:List Int→Bool
 | []=>true
 | x::l=>x == 0 && sv l
def GA (l:List Int):Nat→Int:=if sv l then fun _=>0 else fun j=>l.getD j 0
def bE (k:IntKind):List AV→List Int×List AV
 | .int k' n::r=>if k'=k then (match bE k r with | (a,b)=>(n::a,b)) else ([],.int k' n::r)
 | l=>([],l)
def eW:Nat→List AV→List bL
 | 0,l=>mJ l []
 | _,[]=>[]
 | f+1,.int k n::r=>match bE k r with
   | (a,b)=>if Nat.ble 7 a.length then .arr k (GA (n::a)) (a.length+1)::eW f b else .one (.int k n)::eW f r
 | f+1,v::r=>.one v::eW f r

def oT (k:IntKind):List AV→Option (List Int)
 | []=>some []
 | .int k' n::r=>if k'=k then (oT k r).map (n::·) else none
 | _=>none
def Row.ofList:List AV→Row
 | .int k n::r=>match oT k r with
   | some l=>.I k (n::l)
   | none=>.G (.int k n::r)
 | l=>.G l

def iE:List bL→Nat→Nat→Option (IntKind×(Nat→Int))
 | [],_,_=>none
 | .one _::r,o+1,n=>iE r o n
 | .one _::_,0,_=>none
 | .arr k z m::r,o,n=>if o+n≤m then some (k,fun j=>z (o+j)) else if m≤o then iE r (o-m) n else none
def Row.sub (r:Row) (o n:Nat):Row :=
 match r with
 | .I k l=>.I k ((l.drop o).take n)
 | .G l=>.G ((l.drop o).take n)
 | .F f _=>.F (fun j=>f (o+j)) n
 | .M [.arr k z _]=>.M [.arr k (fun j=>z (o+j)) n]
 | .M l=>if Nat.beq o 0 && Nat.beq (ai l) n then .M l else match iE l o n with
   | some (k,z)=>.M [.arr k z n]
   | none=>.G (bQ (getM l) o n)

def eM:AV→Bool
 | .undef | .bool _ | .int _ _ | .str _ | .nilp | .nils | .nilm | .nilf=>true
 | .ptrT s _ _=>s.isNone
 | .slcT s _ _ _ _=>s.isNone
 | .agg (.I ..) | .agg (.F ..)=>true
 | .agg (.M l)=>dN l
 | _=>false

def Row.cut (r:Row) (o n:Nat):Row :=
 match r with
 | .G l=>Row.ofList ((l.drop o).take n)
 | .M l=>if Nat.ble n 8 then Row.ofList (bQ (getM l) o n) else if Nat.beq o 0 && Nat.beq (ai l) n then .M l else (Row.M l).sub o n
 | r=>r.sub o n

def Row.set (r:Row) (j:Nat) (v:AV):Row :=
 match r,v with
 | .I k l,.int k' n=>if k'=k then .I k (l.set j n) else .G ((l.map (.int k)).set j v)
 | .I k l,v=>.G ((l.map (.int k)).set j v)
 | .G l,v=>.G (l.set j v)
 | .F f n,v=>.F (fun i=>if i=j then (if eM v then v else .undef) else f i) n
 | .M l,v=>.M (gr l j v)
def Row.bm (r:Row) (j:Nat):List AV→Row
 | []=>r
 | v::l=>(r.set j v).bm (j+1) l
def Row.qc (r s:Row):Option Row :=
 match r.ints,s.ints with
 | some (k,z),some (k',z')=>if k'=k then some (.M [.arr k (fun i=>if i<r.len then z i else z' (i-r.len)) (r.len+s.len)]) else none
 | _,_=>none
def j5:AV→AV
 | .slcT none (.I k l) sz m _=>.slcT none (.M [.arr k (fun j=>l.getD j 0) l.length]) sz m false
 | .slcT none (.M [.arr k z n]) sz m _=>.slcT none (.M [.arr k z n]) sz m false
 | v=>v
def nb (n i:Nat):Nat:=if Nat.beq n 1 then 0 else i
def Row.app (r s:Row):Row :=
 match r,s with
 | .M l,s=>(match (Row.M l).qc s with | some q=>q | none=>.G ((Row.M l).toList++s.toList))
 | .I k l,.M m=>(match (Row.I k l).qc (.M m) with | some q=>q | none=>.G ((Row.I k l).toList++(Row.M m).toList))
 | .I k l,.I k' l'=>if k'=k then .I k (l++l') else .G (l.map (.int k)++l'.map (.int k'))
 | .F f n,s=>.F (fun i=>if Nat.blt i n then f i else if eM (s.get (nb s.len (i-n))) then j5 (s.get (nb s.len (i-n))) else .undef) (n+s.len)
 | r,s=>.G (r.toList++s.toList)

def kN (k:Nat):AV→AV
 | .ptr d i v off=>.ptr (d+k) i v off
 | .ptrT s r off=>.ptrT (s.map (· + k)) r off
 | .slc d i v off sz len cap=>.slc (d+k) i v off sz len cap
 | .slcT s r sz len full=>.slcT (s.map (· + k)) r sz len full
 | .map d i=>.map (d+k) i
 | .yld d i=>.yld (d+k) i
 | .agg (.I a l)=>.agg (.I a l)
 | .fn _ _ _ | .agg _ | .tup (_::_)=>.undef
 | v=>v
def Gu (k:Nat) (v:AV):AV :=
 match v with
 | .fn f a b=>.fn f (a.map (kN k)) (b.map (kN k))
 | .agg (.G l)=>.agg (.G (l.map (kN k)))
 | .agg (.M l)=>.agg (.M (mapM' (kN k) l))
 | .agg r=>.agg r
 | v=>kN k v
def iS (k:Nat) (v:AV):AV :=
 match k with
 | 0=>v
 | k+1=>Gu (k+1) v
def wj (k:Nat):Row→Row
 | .I a l=>.I a l
 | .G l=>.G (l.map (kN k))
 | .F f n=>.F f n
 | .M l=>.M (mapM' (kN k) l)
def wi (k:Nat) (r:Row):Row :=
 match k with
 | 0=>r
 | k+1=>wj (k+1) r
def gU:Nat→Nat→AV→AV
 | 0,_,_=>.undef
 | n + 1,k,v=>match v with
   | .ptr d i v off=>if Nat.blt d k then .undef else .ptr (d-k) i v off
   | .ptrT none r off=>.ptrT none r off
   | .ptrT (some s) r off=>if Nat.blt s k then (match r with
     | .G l=>.ptrT (some 0) (.G (l.map (gU n (k-s)))) off
     | .M l=>if dN l then .ptrT none (.M l) off else .ptrT (some 0) (.M (mapM' (gU n (k-s)) l)) off
     | r=>.ptrT none r off) else .ptrT (some (s-k)) r off
   | .slc d i v off sz len cap=>if Nat.blt d k then .undef else .slc (d-k) i v off sz len cap
   | .slcT none r sz len full=>.slcT none r sz len full
   | .slcT (some s) r sz len full=>if Nat.blt s k then (match r with
     | .G l=>.slcT (some 0) (.G (l.map (gU n (k-s)))) sz len full
     | .M l=>if dN l then .slcT none (.M l) sz len full else .slcT (some 0) (.M (mapM' (gU n (k-s)) l)) sz len full
     | r=>.slcT none r sz len full) else .slcT (some (s-k)) r sz len full
   | .map d i=>if Nat.blt d k then .undef else .map (d-k) i
   | .yld d i=>if Nat.blt d k then .undef else .yld (d-k) i
   | .agg (.I a l)=>.agg (.I a l)
   | .fn _ _ _ | .agg _ | .tup (_::_)=>.undef
   | v=>v
def FF (k:Nat) (v:AV):AV :=
 match v with
 | .fn f a b=>.fn f (a.map (gU 4 k)) (b.map (gU 4 k))
 | .agg (.G l)=>.agg (.G (l.map (gU 4 k)))
 | .agg (.M l)=>.agg (.M (mapM' (gU 4 k) l))
 | .agg r=>.agg r
 | v=>gU 4 k v
def GG (k:Nat) (v:AV):AV :=
 match k with
 | 0=>v
 | k+1=>FF (k+1) v
def rI (k:Nat):Row→Row
 | .I a l=>.I a l
 | .G l=>.G (l.map (gU 4 k))
 | .F f n=>.F f n
 | .M l=>.M (mapM' (gU 4 k) l)

def fP (k:Nat) (r:Row):Row :=
 match k with
 | 0=>r
 | k+1=>rI (k+1) r

abbrev aq:=List (Nat×AV)
def aO:aq→Nat→AV
 | [],_=>.undef
 | (x,v)::r,y=>if Nat.beq x y then v else aO r y
def qg:aq→Nat→AV→aq
 | [],y,u=>[(y,u)]
 | (x,v)::r,y,u=>if Nat.ble y x then (if Nat.beq x y then (y,u)::r else (y,u)::(x,v)::r) else (x,v)::qg r y u
def kx (m x:Nat):Bool:=Nat.beq (Nat.land (Nat.shiftRight m x) 1) 1
noncomputable def aT (fr:aq) (m:Nat):aq:=List.rec (motive:=fun _=>aq) [] (fun p _ ih=>Prod.rec (motive:=fun _=>aq) (fun x _=>Bool.rec (motive:=fun _=>aq) (p::ih) ih (Nat.beq (Nat.land (Nat.shiftRight m x) 1) 1)) p) fr

structure kP where
 state:LoopState
 pending:Option Code
 fn:FuncId
 nt:Nat
 fr:aq
 params:List Tmp
 assign:Code
 body:Code

inductive KK where
 | num (k:IntKind)
 | str (n:Nat)
inductive aN where
 | dead
 | row (r:Row)
 | map (es:List (AV×AV))
 | fmap (q:KK) (h:List Int→Bool) (g:List Int→Int) (c:Nat)
 | loop (l:kP)

structure bT where
 lock:Bool
 bs:List (Nat×aN)
abbrev aa:=List bT

def ag:List (Nat×aN)→Nat→Nat×aN
 | [],_=>(0,.dead)
 | b::_,0=>b
 | _::r,i+1=>ag r i
def aP:List (Nat×aN)→Nat→Nat×aN→List (Nat×aN)
 | [],_,_=>[]
 | _::r,0,x=>x::r
 | b::r,i+1,x=>b::aP r i x
def ah:aa→Nat→Nat→Nat×aN
 | [],_,_=>(0,.dead)
 | l::_,0,i=>ag l.bs i
 | _::r,d+1,i=>ah r d i
def an:aa→Nat→Bool
 | [],_=>true
 | l::_,0=>l.lock
 | _::r,d+1=>an r d
def cE:aa→Nat→Nat→Nat×aN→aa
 | [],_,_,_=>[]
 | l::r,0,i,x=>{ l with bs:=aP l.bs i x } :: r
 | l::r,d+1,i,x=>l::cE r d i x
def cA (H:aa) (d i:Nat):aa:=cE H d i ((ah H d i).1,.dead)
def fz:aa→aN→aa
 | [],b=>[⟨false,[(0,b)]⟩]
 | l::r,b=>{ l with bs:=l.bs++[(0,b)] } :: r
def aL:aa→Nat→aN→aa
 | [],_,_=>[]
 | l::r,0,b=>{ l with bs:=l.bs++[(0,b)] } :: r
 | l::r,d+1,b=>l::aL r d b
def af:aa→Nat→Nat
 | [],_=>0
 | l::_,0=>l.bs.length
 | _::r,d+1=>af r d
def aC:aa→Nat
 | []=>0
 | l::_=>l.bs.length
def aM:aa→aa
 | []=>[]
 | l::r=>{ l with lock:=true } :: aM r

def bJ (H:aa) (d i v:Nat):Option Row :=
 match ah H d i with
 | (ver,.row r)=>if Nat.beq ver v then some r else none
 | _=>none

def oA:Value→AV
 | .bool b=>.bool b
 | .int k n=>.int k n
 | .string s=>.str s
 | .pointer none=>.nilp
 | .slice none 0 0=>.nils
 | .map none=>.nilm
 | .nilFunc=>.nilf
 | _=>.undef
def hJ:Value→AV
 | .bool b=>.bool b
 | .int k n=>.int k n
 | .string s=>.str s
 | .pointer none=>.nilp
 | .slice none 0 0=>.nils
 | .map none=>.nilm
 | .nilFunc=>.nilf
 | .func (.func f) ca cb=>if ca.isEmpty && cb.isEmpty then .fn (.func f) [] [] else .undef
 | .agg cs=>if cs.toList.all Value.oneCell' then .agg (Row.ofList (cs.toList.map oA)) else .undef
 | .tuple cs=>if cs.isEmpty then .tup [] else .undef
 | _=>.undef

def aR (fr:aq):Operand→AV
 | .tmp t=>aO fr t
 | .const v=>hJ v
 | .global _=>.undef
 | .func f=>.fn (.func f) [] []

def AV.row:AV→Option Row
 | .agg r=>some r
 | .int k n=>some (.I k [n])
 | .undef | .tup _=>none
 | v=>some (.G [v])

def dc (P:Program) (t:TypeId):Option Bool :=
 match P.underlying t with
 | some (.struct _) | some (.array _ _)=>some true
 | some _=>some false
 | none=>none
def aI (P:Program) (t:TypeId):Option Nat:=(P.info? t).map (·.size)
def bn (P:Program) (t:TypeId):Option AV:=((P.info? t).bind (·.zero)).map hJ

inductive Delta where
 | aJ
 | push (b:aN)
 | set (d i:Nat) (b:Nat×aN)
 | heap (H:aa)
def Delta.on (δ:Delta) (H:aa):aa :=
 match δ with
 | .aJ=>H
 | .push b=>fz H b
 | .set d i b=>cE H d i b
 | .heap H=>H

inductive Gw where
 | fn (f:FuncId)
 | round (d i:Nat)
 | mode
abbrev ak:=Gw→List AV→aa→Option (AV×aa)

def eT (op:BinOp) (k:IntKind) (x y:Int):Option AV :=
 match op with
 | .add=>some (.int k (k.wrap (x+y)))
 | .sub=>some (.int k (k.wrap (x-y)))
 | .mul=>some (.int k (k.wrap (x*y)))
 | .quo=>if y=0 then none else some (.int k (k.wrap (x.tdiv y)))
 | .rem=>if y=0 then none else some (.int k (x.tmod y))
 | .and=>some (.int k (k.wrap (BitVec.ofInt k.bits x &&& BitVec.ofInt k.bits y).toNat))
 | .or=>some (.int k (k.wrap (BitVec.ofInt k.bits x ||| BitVec.ofInt k.bits y).toNat))
 | .xor=>some (.int k (k.wrap (BitVec.ofInt k.bits x ^^^ BitVec.ofInt k.bits y).toNat))
 | .andNot=>some (.int k (k.wrap (BitVec.ofInt k.bits x &&& ~~~(BitVec.ofInt k.bits y)).toNat))
 | .eql=>some (.bool (x == y))
 | .neq=>some (.bool (x != y))
 | .lss=>some (.bool (x<y))
 | .leq=>some (.bool (x≤y))
 | .gtr=>some (.bool (x > y))
 | .geq=>some (.bool (x≥y))
 | _=>none

def dR (P:Program) (g:TypeId→Option Nat) (off:Nat):List Field→Option Nat
 | []=>some off
 | f::fs=>if f.name != "_" && Nat.beq f.offset off then (match g f.type with
   | some s=>dR P g (off+s) fs
   | none=>none) else none
def a7 (P:Program):Nat→TypeId→Option Nat
 | 0,_=>none
 | n + 1,t=>match P.underlying t with
   | some (.int _)=>if aI P t=some 1 then some 1 else none
   | some (.array len e)=>match a7 P n e with
     | some s=>if aI P t=some (len*s) then some (len*s) else none
     | none=>none
   | some (.struct fs)=>if P.stoodInHeld t then none else match dR P (a7 P n) 0 fs.toList with
     | some s=>if aI P t=some s then some s else none
     | none=>none
   | _=>none

def da:List Int→List Int→Bool
 | [],[]=>true
 | x::a,y::b=>(x == y) && da a b
 | _,_=>false

def allEq (z z':Nat→Int):Nat→Bool
 | 0=>true
 | n+1=>allEq z z' n && (z n == z' n)
def Fe (P:Program) (t:TypeId) (r s:Row):Option Bool :=
 match r.ints,s.ints with
 | some (k,z),some (k',z')=>if k=k'∧a7 P 20 t=some r.len∧dc P t=some true∧r.len=s.len then some (allEq z z' r.len) else none
 | _,_=>none
def vl (P:Program) (t:TypeId) (x y:AV):Option Bool :=
 match x,y with
 | .bool a,.bool b=>(match P.underlying t with | some .bool=>some (a == b) | _=>none)
 | .nils,.nils | .nils,.slcT .. | .nils,.slc .. | .slcT ..,.nils | .slc ..,.nils =>
   (match P.underlying t with
   | some (.slice _)=>(match x,y with
     | .nils,.nils=>some true
     | .nils,.slcT _ _ _ n _=>if 0<n then some false else none
     | .slcT _ _ _ n _,.nils=>if 0<n then some false else none
     | _,_=>some false)
   | _=>none)
 | .nilp,.nilp | .nilp,.ptr .. | .nilp,.ptrT .. | .ptr ..,.nilp | .ptrT ..,.nilp =>
   (match P.underlying t with
   | some (.pointer _)=>some (match x,y with | .nilp,.nilp=>true | _,_=>false)
   | _=>none)
 | .agg (.I k a),.agg (.I k' b)=>if k=k'∧a7 P 20 t=some a.length∧dc P t=some true∧a.length=b.length then some (da a b) else none
 | .agg (.M l),.agg s=>Fe P t (.M l) s
 | .agg (.I k a),.agg (.M l)=>Fe P t (.I k a) (.M l)
 | _,_=>none

def gy (P:Program) (op:BinOp) (t:TypeId) (x y:AV):Option AV :=
 match op,x,y with
 | .shl,.int k a,.int _ b=>if b<0 then none else some (.int k (k.wrap (a*2 ^ (min b.toNat k.bits))))
 | .shr,.int k a,.int _ b=>if b<0 then none else some (.int k (a.fdiv (2 ^ (min b.toNat k.bits))))
 | op,.int k a,.int k' b=>if k=k' then eT op k a b else none
 | .eql,x,y=>(vl P t x y).map .bool
 | .neq,x,y=>(vl P t x y).map fun b=>.bool (!b)
 | _,_,_=>none

def Gq (op:UnOp) (x:AV):Option AV :=
 match op,x with
 | .not,.bool b=>some (.bool !b)
 | .neg,.int k n=>some (.int k (k.wrap (0-n)))
 | _,_=>none

def kH {α:Type} (l:List α):Nat→List α
 | 0=>[]
 | n+1=>l++kH l n
def cj (z:Row) (n:Nat):Row :=
 match z with
 | .I k l=>.I k (kH l n)
 | z=>.G (kH z.toList n)
def zy (l:List AV) (n:Nat):Row :=
 match l with
 | [v]=>if eM v then .F (fun _=>v) n else .G (kH l n)
 | l=>.G (kH l n)
def bW (z:Row) (n:Nat):Row :=
 match z with
 | .I k l=>if sv l then .M [.arr k (fun _=>0) (n*l.length)] else .I k (kH l n)
 | z=>zy z.toList n
def fS (r:Row):Row :=
 match r with
 | .I k l=>if Nat.ble 8 l.length then .M [.arr k (GA l) l.length] else .I k l
 | .G l=>if (eW l.length l).length == l.length then .G l else .M (eW l.length l)
 | r=>r
def x3 (z:Nat→Int) (off:Nat) (z':Nat→Int) (n:Nat):Nat→Int:=fun i=>if off≤i∧i<off+n then z' (i-off) else z i
def tL:List bL→Nat→Nat→List bL→Option (List bL)
 | [],_,_,_=>none
 | .one v::r,o+1,n,q=>(tL r o n q).map (.one v::·)
 | .one _::_,0,_,_=>none
 | .arr k z m::r,o,n,q=>if Nat.beq o 0 && Nat.beq m n then some (q++r) else if Nat.ble m o then (tL r (o-m) n q).map (.arr k z m::·) else none
def CQ (q:Row):Option (List bL) :=
 match fS q with
 | .M l=>some l
 | _=>none
def r6 (l:List bL) (off:Nat) (q:Row):Row :=
 if Nat.ble 9 q.len then (match CQ q with
  | some qs=>if Nat.beq off 0 && Nat.beq (ai l) q.len then .M qs else (match tL l off q.len qs with
    | some l'=>.M l'
    | none=>(Row.M l).bm off q.toList)
  | none=>(Row.M l).bm off q.toList)
 else (Row.M l).bm off q.toList
def gq (r:Row) (off:Nat) (q:Row):Row :=
 match r with
 | .M l=>(match l with
   | [.arr k z m]=>(match q with
     | .M [.arr k' z' n]=>if k'=k then .M [.arr k (x3 z off z' n) m] else r6 l off q
     | _=>r6 l off q)
   | _=>r6 l off q)
 | r=>r.bm off q.toList
def na:AV→Bool
 | .slcT none (.M [.arr _ _ _]) _ _ _=>true
 | .slcT none (.I _ _) _ _ _=>true
 | _=>false
def nz (sy:Bool) (r:Row):Row :=
 match r with
 | .I k l=>if sy then .M [.arr k (fun j=>l.getD j 0) l.length] else .I k l
 | .G [v]=>if sy && na v then .F (fun _=>j5 v) 1 else .G [v]
 | r=>r
def oI (place:Nat→Option (Nat×Nat)) (r:Row):List (Nat×AV)→Option Row
 | []=>some r
 | (i,v)::rest=>match place i with
   | none=>none
   | some (off,size)=>match v.row with
     | some q=>if q.len=size∧off+q.len≤r.len then oI place (r.bm off q.toList) rest else none
     | none=>none

def eX (P:Program) (t:TypeId) (r:Row) (off:Nat):Option AV :=
 match dc P t,aI P t with
 | some true,some n=>if off+n≤r.len then some (.agg (r.cut off n)) else none
 | some false,_=>if off<r.len then some (r.get off) else none
 | _,_=>none

def IF (s:Option Nat) (v:AV):AV :=
 match s with
 | none=>v
 | some k=>iS k v

def jm (P:Program) (H:aa) (t:TypeId) (a:AV):Option AV :=
 match a with
 | .ptr d i v off=>match bJ H d i v with
   | some r=>(eX P t r off).map (iS d)
   | none=>none
 | .ptrT s r off=>(eX P t r off).map (IF s)
 | _=>none

def dY (P:Program) (H:aa) (t:TypeId) (a x:AV):Option Delta :=
 match a with
 | .ptr d i v off =>
   if an H d then none else
   match bJ H d i v,aI P t,x.row with
   | some r,some n,some q =>
     if q.len=n∧off+n≤r.len then
      match d,x with
      | d+1,.slc 0 j w o sz len cap=>if an H 0 then none else match bJ H 0 j w with
        | some q=>some (.heap (aL (cE (cA H 0 j) (d+1) i (v,.row (r.set off (.slc 0 (af H (d+1)) 0 o sz len cap)))) (d+1) (.row (fP (d+1) q))))
        | none=>none
      | _,_=>some (.set d i (v,.row (gq r off (fP d q))))
     else none
   | _,_,_=>none
 | _=>none

def iC (P:Program):List Field→Option (List (Nat×Nat))
 | []=>some []
 | f::fs=>match aI P f.type,iC P fs with
   | some n,some l=>some ((f.offset,n)::l)
   | _,_=>none

def rF (P:Program) (sy:Bool) (t:TypeId) (parts:List (Nat×AV)):Option AV :=
 match bn P t,P.underlying t with
 | some (.agg z),some (.struct fs)=>match iC P fs.toList with
   | some l=>(oI (fun i=>l[i]?) (if sy then fS z else z) parts).map .agg
   | none=>none
 | some (.agg z),some (.array _ e)=>match aI P e with
   | some n=>(oI (fun i=>some (i*n,n)) (if sy then fS z else z) parts).map .agg
   | none=>none
 | _,_=>none

def gW (a:AV) (n:Nat):Option AV :=
 match a with
 | .ptr d i v off=>some (.ptr d i v (off+n))
 | .ptrT s r off=>some (.ptrT s r (off+n))
 | _=>none

def eg (P:Program) (t:TypeId) (a:AV) (f:Nat):Option AV :=
 match P.underlying t with
 | some (.struct fs)=>match fs[f]? with
   | some g=>match aI P g.type with
     | some (_+1)=>gW a g.offset
     | _=>none
   | none=>none
 | _=>none

def dy (P:Program) (t:TypeId) (x:AV) (i:Int):Option AV :=
 match P.underlying t,x with
 | some (.array n e),x=>match aI P e with
   | some z=>if 0≤i∧i<n then gW x (i.toNat*z) else none
   | none=>none
 | some (.slice e),.slc d j v off sz len _ =>
   if 0≤i∧i<len∧aI P e=some sz then some (.ptr d j v (off+i.toNat*sz)) else none
 | some (.slice e),.slcT s r sz len _ =>
   if 0≤i∧i<len∧aI P e=some sz then some (.ptrT s r (i.toNat*sz)) else none
 | _,_=>none

def mw (P:Program) (t:TypeId) (x:AV) (i:Int):Option AV :=
 match P.underlying t,x with
 | some (.array n e),.agg r=>match aI P e with
   | some z=>if 0≤i∧i<n then eX P e r (i.toNat*z) else none
   | none=>none
 | some .string,.str s=>if 0≤i then (match s[i.toNat]? with
   | some b=>some (.int .u8 b.toNat)
   | none=>none) else none
 | _,_=>none

def oH (P:Program) (t:TypeId) (x:AV) (f:Nat):Option AV :=
 match P.underlying t,x with
 | some (.struct fs),.agg r=>match fs[f]? with
   | some g=>eX P g.type r g.offset
   | none=>none
 | _,_=>none

def bound (o:Option AV) (dflt top:Nat):Option Nat :=
 match o with
 | none=>some dflt
 | some (.int _ i)=>if 0≤i∧i≤top then some i.toNat else none
 | some _=>none

def cw (lo hi mx:Option AV) (len:Nat):Option (Nat×Nat×Option Nat) :=
 match mx with
 | none=>match bound hi len len with
   | some h=>match bound lo 0 h with
     | some l=>some (l,h,none)
     | none=>none
   | none=>none
 | some a=>match bound (some a) 0 len with
   | some m=>if hi.isSome then (match bound hi len m with
     | some h=>match bound lo 0 h with
       | some l=>some (l,h,some m)
       | none=>none
     | none=>none) else none
   | none=>none

def mP (P:Program) (t:TypeId) (x:AV) (lo hi mx:Option AV):Option AV :=
 match P.underlying t,x with
 | some (.slice e),.slc d j v off sz len cap =>
   match cw lo hi mx len with
   | some (l,h,mm)=>if aI P e=some sz then
      some (.slc d j v (off+l*sz) sz (h-l) (match mm with | none=>cap.map (· - l) | some m=>some (m-l))) else none
   | none=>none
 | some (.slice e),.slcT s r sz len full =>
   match cw lo hi mx len with
   | some (l,h,mm)=>if aI P e=some sz∧l*sz+(h-l)*sz≤r.len then
      some (.slcT s (r.sub (l*sz) ((h-l)*sz)) sz (h-l) (match mm with | none=>full && Nat.beq h len | some m=>Nat.beq h m)) else none
   | none=>none
 | some (.slice e),.nils =>
   match cw lo hi mx 0,aI P e with
   | some _,some _=>some .nils
   | _,_=>none
 | some (.array n e),.ptr d j v off =>
   match cw lo hi mx n with
   | some (l,h,mm)=>match aI P e with
     | some sz=>some (.slc d j v (off+l*sz) sz (h-l) (match mm with | none=>some (n-l) | some m=>some (m-l)))
     | none=>none
   | none=>none
 | _,_=>none

def qq (P:Program) (H:aa) (t:TypeId) (x:AV):Option Int :=
 match P.underlying t,x with
 | some (.array n _),_=>some n
 | some (.slice _),.nils=>some 0
 | some (.slice _),.slc _ _ _ _ _ len _=>some len
 | some (.slice _),.slcT _ _ _ len _=>some len
 | some (.map _ _),.nilm=>some 0
 | some (.map _ _),.map d i=>match ah H d i with
   | (0,.map es)=>some es.length
   | (0,.fmap _ _ _ c)=>some c
   | _=>none
 | _,_=>none

def DS (P:Program) (t:TypeId) (x:AV):Option Int :=
 match P.underlying t,x with
 | some (.slice _),.nils=>some 0
 | some (.slice _),.slc _ _ _ _ _ _ (some c)=>some c
 | _,_=>none

def cI (H:aa) (sz n:Nat) (x:AV):Option Row :=
 match x with
 | .nils=>if n=0 then some (.G []) else none
 | .slc d i v off sz' len _=>match bJ H d i v with
   | some r=>if sz'=sz∧n≤len∧off+n*sz≤r.len then some (wi d (r.sub off (n*sz))) else none
   | none=>none
 | .slcT s r sz' len _=>if sz'=sz∧n≤len∧n*sz≤r.len then some (match s with | none=>r.sub 0 (n*sz) | some k=>wi k (r.sub 0 (n*sz))) else none
 | _=>none
def ki:AV→Option Nat
 | .nils=>some 0
 | .slc _ _ _ _ _ len _=>some len
 | .slcT _ _ _ len _=>some len
 | _=>none

def room:Nat:=2 ^ 46

def yS (P:Program) (sy:Bool) (nx:Nat) (e:TypeId) (s x:AV):Option (AV×Delta) :=
 match P.info? e,s,x with
 | some inf,.nils,.int _ k =>
   if 0≤k∧k.toNat≤room∧k.toNat*inf.bytes≤room∧0<inf.size∧((bn P e).bind AV.row).map Row.len=some inf.size then
    (if k=0 then some (.nils,.aJ) else some (.slc 0 nx 0 0 inf.size k.toNat none,.push (.row (nz sy (.I .i64 [])))))
   else none
 | _,_,_=>none
def kU      (P:Program) (sy:Bool) (H:aa) (nx:Nat) (t u:TypeId) (s x:AV):Option (AV×Delta) :=
 match P.underlying t,P.underlying u with
 | some (.slice e),some (.int _)=>yS P sy nx e s x
 | some (.slice e),some (.slice _) =>
   match P.info? e,ki s,ki x with
   | some inf,some m,some n =>
     if n=0 then (match s,x with
      | .nils,_=>some (s,.aJ)
      | .slc ..,_=>some (s,.aJ)
      | .slcT ..,_=>some (s,.aJ)
      | _,_=>none)
     else if (m+n)*inf.bytes≤room∧(m+n)≤room∧0<inf.bytes∧((bn P e).bind AV.row).map Row.len=some inf.size then
      match cI H inf.size n x with
      | none=>none
      | some new =>
        match s with
        | .nils=>some (.slc 0 nx 0 0 inf.size n none,.push (.row (nz sy new)))
        | .slcT _ _ _ _ true=>match cI H inf.size m s with
          | some old=>some (.slc 0 nx 0 0 inf.size (m+n) none,.push (.row (nz sy (old.app new))))
          | none=>none
        | .slc d i v off sz _ (some c) =>
          if c<m+n then
           match cI H inf.size m s with
           | some old=>some (.slc 0 nx 0 0 inf.size (m+n) none,.push (.row (nz sy (old.app new))))
           | none=>none
          else if an H d then none else
           match bJ H d i v with
           | some r=>if sz=inf.size∧off+(m+n)*sz≤r.len then
              some (.slc d i v off sz (m+n) (some c),.set d i (v,.row (r.bm (off+m*sz) (fP d new).toList)))
             else none
           | none=>none
        | .slc d i v off sz _ none =>
          if an H d then none else
          match bJ H d i v with
          | some r=>if sz=inf.size∧off+m*sz=r.len then
             some (.slc d i (v+1) 0 sz (m+n) none,.set d i (v+1,.row ((r.sub off (m*sz)).app (fP d new))))
            else none
          | none=>none
        | _=>none
     else none
   | _,_,_=>none
 | _,_=>none

def copyV (P:Program) (H:aa) (t:TypeId) (s x:AV):Option (AV×Delta) :=
 match P.underlying t with
 | some (.slice e) =>
   match aI P e,ki s,ki x with
   | some z,some m,some n =>
     match cI H z (min n m) x with
     | none=>none
     | some new =>
       match s with
       | .nils=>some (.int .i64 (min n m:Nat),.aJ)
       | .slc d i v off sz _ _ =>
         if an H d then none else
         match bJ H d i v with
         | some r=>if sz=z∧off+(min n m)*sz≤r.len then
            some (.int .i64 (min n m:Nat),.set d i (v,.row (gq r off (fP d new))))
           else none
         | none=>none
       | _=>none
   | _,_,_=>none
 | _=>none

def ow (P:Program) (H:aa) (t:TypeId) (s:AV):Option (AV×Delta) :=
 match P.underlying t,s with
 | some (.slice _),.nils=>some (.tup [],.aJ)
 | some (.slice e),.slc d i v off sz len _ =>
   if an H d then none else
   match (bn P e).bind AV.row,bJ H d i v with
   | some z,some r=>if z.len=sz∧aI P e=some sz∧off+len*sz≤r.len then
      some (.tup [],if len=0 then .aJ else .set d i (v,.row (if s5 r then gq r off (bW z len) else r.bm off (cj z len).toList)))
     else none
   | _,_=>none
 | _,_=>none

def cP (mx:Bool) (k:IntKind) (x:Int):List AV→Option AV
 | []=>some (.int k x)
 | .int k' y::r=>if k=k' then cP mx k (if mx then (if y > x then y else x) else (if y<x then y else x)) r else none
 | _=>none
def ky (mx:Bool):List AV→Option AV
 | .int k x::r=>cP mx k x r
 | _=>none

def fD (P:Program) (sy:Bool) (nx:Nat) (t:TypeId) (l c:AV):Option (AV×Delta) :=
 match P.underlying t,l,c with
 | some (.slice e),.int _ l,.int _ c =>
   match P.info? e,(bn P e).bind AV.row with
   | some inf,some z =>
     if 0≤l∧l≤c∧c.toNat*inf.bytes≤room∧c.toNat≤room∧z.len=inf.size then
      some (.slc 0 nx 0 0 inf.size l.toNat (some c.toNat),.push (.row (if sy then bW z c.toNat else cj z c.toNat)))
     else none
   | _,_=>none
 | _,_,_=>none

def fW (P:Program) (nx:Nat) (t:TypeId) (len:Nat) (parts:List (Nat×AV)):Option (AV×Delta) :=
 match P.underlying t with
 | some (.slice e)=>match aI P e,(bn P e).bind AV.row with
   | some z,some zv =>
     if len*z≤2 ^ 24∧zv.len=z then
      (oI (fun i=>some (i*z,z)) (cj zv len) parts).map fun r=>(.slc 0 nx 0 0 z len (some len),.push (.row r))
     else none
   | _,_=>none
 | _=>none

def lu (x y:AV):Option Bool :=
 match x,y with
 | .int k a,.int k' b=>if k=k' then some (a == b) else none
 | .agg (.I k a),.agg (.I k' b)=>if k=k'∧a.length=b.length then some (da a b) else none
 | _,_=>none
def dQ (key:AV):List (AV×AV)→Nat→Option (Option Nat)
 | [],_=>some none
 | (k,_)::r,i=>match lu key k with
   | some true=>some (some i)
   | some false=>dQ key r (i+1)
   | none=>none
def gm (P:Program) (t:TypeId) (x:AV):Bool :=
 match P.underlying t,x with
 | some (.int _),.int _ _=>true
 | some (.array _ _),.agg (.I _ l)=>a7 P 20 t == some l.length
 | some (.struct _),.agg (.I _ l)=>a7 P 20 t == some l.length
 | _,_=>false
def qL (H:aa) (m:AV):Option (Nat×List (AV×AV)) :=
 match m with
 | .nilm=>some (0,[])
 | .map d i=>match ah H d i with
   | (0,.map es)=>some (d,es)
   | _=>none
 | _=>none
def kD:List (AV×AV)→Nat→AV
 | [],_=>.undef
 | e::_,0=>e.2
 | _::r,i+1=>kD r i
def kJ:List (AV×AV)→Nat→AV×AV→List (AV×AV)
 | [],_,_=>[]
 | _::r,0,x=>x::r
 | e::r,i+1,x=>e::kJ r i x
def kb:List (AV×AV)→Nat→List (AV×AV)
 | [],_=>[]
 | _::r,0=>r
 | e::r,i+1=>e::kb r i
def qQ (H:aa) (m:AV):Option (KK×(List Int→Bool)×(List Int→Int)×Nat) :=
 match m with
 | .map d i=>match ah H d i with
   | (0,.fmap q h g c)=>some (q,h,g,c)
   | _=>none
 | _=>none
def qo:KK→AV→Option (List Int)
 | .num k,.int k' n=>if k=k' then some [n] else none
 | .str m,.agg (.I .i64 l)=>if Nat.beq l.length m then some l else none
 | _,_=>none
def FV:AV→Option KK
 | .int k _=>some (.num k)
 | .agg (.I .i64 l)=>some (.str l.length)
 | _=>none
def tD:AV→Option Int
 | .int .i64 n=>some n
 | _=>none
def dA (h:List Int→Bool) (n:List Int) (b:Bool):List Int→Bool:=fun i=>if i=n then b else h i
def fi (g:List Int→Int) (n:List Int) (x:Int):List Int→Int:=fun i=>if i=n then x else g i
def qe (b:Bool) (c:Nat):Nat:=cond b c (c+1)
def sA (b:Bool) (c:Nat):Nat:=cond b (c-1) c
def pg (P:Program) (t:TypeId):aN :=
 match P.underlying t with
 | some (.map kt et)=>match (bn P kt).bind FV,(bn P et).bind tD with
   | some q,some _=>.fmap q (fun _=>false) (fun _=>0) 0
   | _,_=>.map []
 | _=>.map []
def lz (P:Program) (H:aa) (t:TypeId) (m key:AV) (ok:Bool):Option AV :=
 match P.underlying t with
 | some (.map kt et) =>
   if gm P kt key then
    match qQ H m with
    | some (q,h,g,_)=>match qo q key,(bn P et).bind tD with
      | some n,some 0=>some (if ok then .tup [.int .i64 (g n),.bool (h n)] else .int .i64 (g n))
      | _,_=>none
    | none=>match qL H m,bn P et with
    | some (d,es),some z=>match dQ key es 0 with
      | some (some i)=>some (if ok then .tup [iS d (kD es i),.bool true] else iS d (kD es i))
      | some none=>some (if ok then .tup [z,.bool false] else z)
      | none=>none
    | _,_=>none
   else none
 | _=>none
def gh (P:Program) (H:aa) (t:TypeId) (m key x:AV):Option Delta :=
 match P.underlying t,m with
 | some (.map kt _),.map d i =>
   if an H d then none else
   if gm P kt key then
    match ah H d i with
    | (0,.fmap q h g c)=>match qo q key,tD x with
      | some n,some y=>some (.set d i (0,.fmap q (dA h n true) (fi g n y) (qe (h n) c)))
      | _,_=>none
    | (0,.map es)=>match dQ key es 0 with
      | some (some j)=>some (.set d i (0,.map (kJ es j (key,GG d x))))
      | some none=>some (.set d i (0,.map (es++[(key,GG d x)])))
      | none=>none
    | _=>none
   else none
 | _,_=>none
def kY (P:Program) (H:aa) (t:TypeId) (m key:AV):Option (AV×Delta) :=
 match P.underlying t,m with
 | some (.map kt _),.map d i =>
   if an H d then none else
   if gm P kt key then
    match ah H d i with
    | (0,.fmap q h g c)=>match qo q key with
      | some n=>some (.tup [],.set d i (0,.fmap q (dA h n false) (fi g n 0) (sA (h n) c)))
      | none=>none
    | (0,.map es)=>match dQ key es 0 with
      | some (some j)=>some (.tup [],.set d i (0,.map (kb es j)))
      | some none=>some (.tup [],.set d i (0,.map es))
      | none=>none
    | _=>none
   else none
 | _,_=>none

def b8 (fr:aq):List (Nat×Operand)→List (Nat×AV)
 | []=>[]
 | (i,x)::r=>(i,aR fr x)::b8 fr r
def gp (fr:aq):List Operand→List AV
 | []=>[]
 | x::r=>aR fr x::gp fr r

def iR {α:Type} (call:ak) (a b:α):α :=
 match call .mode [] [] with
 | some _=>a
 | none=>b
def dC (P:Program) (call:ak) (fr:aq) (H:aa) (nx:Nat) (c:Call):Option (AV×Delta) :=
 match c.callee with
 | .value f=>match aR fr f with
   | .fn (.func g) a b=>(call (.fn g) (a++(gp fr c.args.toList++b)) H).map fun (v,H)=>(v,.heap H)
   | .yld d i=>(call (.round d i) (gp fr c.args.toList) H).map fun (v,H)=>(v,.heap H)
   | _=>none
 | .builtin .len=>match c.args.toList,c.argTypes.toList with
   | x::_,t::_=>(qq P H t (aR fr x)).map fun n=>(.int .i64 n,.aJ)
   | _,_=>none
 | .builtin .cap=>match c.args.toList,c.argTypes.toList with
   | x::_,t::_=>(DS P t (aR fr x)).map fun n=>(.int .i64 n,.aJ)
   | _,_=>none
 | .builtin .append=>match c.args.toList,c.argTypes.toList with
   | s::x::_,t::u::_=>kU P (iR call true false) H nx t u (aR fr s) (aR fr x)
   | _,_=>none
 | .builtin .copy=>match c.args.toList,c.argTypes.toList with
   | s::x::_,t::_=>copyV P H t (aR fr s) (aR fr x)
   | _,_=>none
 | .builtin .clear=>match c.args.toList,c.argTypes.toList with
   | s::_,t::_=>ow P H t (aR fr s)
   | _,_=>none
 | .builtin .delete=>match c.args.toList,c.argTypes.toList with
   | m::k::_,t::_=>kY P H t (aR fr m) (aR fr k)
   | _,_=>none
 | .builtin .min=>(ky false (gp fr c.args.toList)).map fun v=>(v,.aJ)
 | .builtin .max=>(ky true (gp fr c.args.toList)).map fun v=>(v,.aJ)
 | _=>none

def kp (o:Option AV):Option (AV×Delta):=o.map fun v=>(v,.aJ)

def evalOp (P:Program) (call:ak) (fr:aq) (H:aa) (nx:Nat) (o:Oper):Option (AV×Delta) :=
 match o.op with
 | .move x | .assign x=>some (aR fr x,.aJ)
 | .pick c a b=>match aR fr c with
   | .bool t=>some (if t then aR fr a else aR fr b,.aJ)
   | _=>none
 | .alloc t=>((bn P t).bind AV.row).map fun z=>(.ptr 0 nx 0 0,.push (.row (iR call (fS z) z)))
 | .box _ x=>(aR fr x).row.map fun r=>(.ptr 0 nx 0 0,.push (.row (iR call (fS r) r)))
 | .build t parts=>kp (rF P (iR call true false) t (b8 fr parts.toList))
 | .buildSlice t len parts=>fW P nx t len (b8 fr parts.toList)
 | .load t a=>kp (jm P H t (aR fr a))
 | .store t a x=>(dY P H t (aR fr a) (aR fr x)).map fun δ=>(.tup [],δ)
 | .nilCheck x=>match aR fr x with
   | .ptr d i v off=>some (.ptr d i v off,.aJ)
   | .ptrT s r off=>some (.ptrT s r off,.aJ)
   | _=>none
 | .binOp op t x y _=>kp (gy P op t (aR fr x) (aR fr y))
 | .unOp op _ x=>kp (Gq op (aR fr x))
 | .convert src dst x=>match P.underlying src,P.underlying dst,aR fr x with
   | some _,some (.int k),.int _ n=>some (.int k (k.wrap n),.aJ)
   | _,_,_=>none
 | .makeFunc fn first cap=>match fn with
   | .func g=>some (.fn (.func g) (gp fr first.toList) (gp fr cap.toList),.aJ)
   | _=>none
 | .makeSlice t l c=>fD P (iR call true false) nx t (aR fr l) (aR fr c)
 | .slice t x lo hi mx=>kp (mP P t (aR fr x) (lo.map (aR fr)) (hi.map (aR fr)) (mx.map (aR fr)))
 | .fieldAddr t x f=>kp (eg P t (aR fr x) f)
 | .field t x f=>kp (oH P t (aR fr x) f)
 | .indexAddr t x i=>match aR fr i with
   | .int _ n=>kp (dy P t (aR fr x) n)
   | _=>none
 | .index t x i=>match aR fr i with
   | .int _ n=>kp (mw P t (aR fr x) n)
   | _=>none
 | .makeMap t none=>some (.map 0 nx,.push (iR call (pg P t) (.map [])))
 | .lookup t m k ok=>kp (lz P H t (aR fr m) (aR fr k) ok)
 | .mapUpdate t m k x | .insert t m k x=>(gh P H t (aR fr m) (aR fr k) (aR fr x)).map fun δ=>(.tup [],δ)
 | .extract t ix=>match aR fr t with
   | .tup l=>match l[ix]? with
     | some v=>some (v,.aJ)
     | none=>none
   | _=>none
 | .call c=>dC P call fr H nx c
 | _=>none

inductive Want where
 | run | skip | lost
def eP (ops:Array Oper) (fr:aq) (o:Oper):Want :=
 match o.guard with
 | none=>.run
 | some (j,want)=>match (ops[j]?).bind (·.dst) with
   | none=>.lost
   | some d=>match aO fr d with
     | .bool b=>if b == want then .run else .skip
     | .tup _=>.skip
     | _=>.lost

def eV (nt:Nat) (fr:aq) (dst:Option Tmp) (v:AV):aq :=
 match dst with
 | some d=>if Nat.blt d nt then qg fr d v else fr
 | none=>fr

def cU (P:Program) (nt:Nat) (call:ak) (ops:Array Oper):List Oper→aq→aa→Option (aq×aa)
 | [],fr,H=>some (fr,H)
 | o :: r,fr,H=>match eP ops fr o with
   | .lost=>none
   | .skip=>cU P nt call ops r (eV nt fr o.dst (.tup [])) H
   | .run=>match evalOp P call fr H (aC H) o with
     | none=>none
     | some (v,δ)=>cU P nt call ops r (eV nt fr o.dst v) (δ.on H)

inductive Touch where
 | none
 | blk (d i:Nat)
 | all
structure Rec where
 ix:Nat
 reads:Touch
 writes:Option (Nat×Nat)
def bp (fr:aq) (o:Oper):Touch :=
 let at' (v:AV):Touch:=match v with
  | .ptr d i _ _=>.blk d i
  | .slc d i _ _ _ _ _=>.blk d i
  | .map d i=>.blk d i
  | _=>.none
 match o.op with
 | .load _ a=>at' (aR fr a)
 | .store _ a _=>at' (aR fr a)
 | .lookup _ m _ _=>at' (aR fr m)
 | .mapUpdate _ m _ _ | .insert _ m _ _=>at' (aR fr m)
 | .call c=>match c.callee with
   | .builtin .len=>match c.args.toList with
     | x::_=>match aR fr x with | .map d i=>.blk d i | _=>.none
     | _=>.all
   | .builtin .min | .builtin .max=>.none
   | _=>.all
 | _=>.none
def bB (H:aa) (bef:Nat):List Rec→aa
 | []=>H
 | r::l=>match r.writes with
   | some (d,i)=>if bef.testBit r.ix then bB H bef l else bB (cA H d i) bef l
   | none=>bB H bef l
def fF (bef:Nat) (d i:Nat):List Rec→Bool
 | []=>true
 | r::l=>(bef.testBit r.ix || (match r.reads with
   | .none=>true
   | .blk e j=>!(Nat.beq e d && Nat.beq j i)
   | .all=>false)) && fF bef d i l

def dW (o:Oper):Bool :=
 match o.op with
 | .alloc _ | .box _ _ | .buildSlice _ _ _ | .makeSlice _ _ _ | .makeMap _ _=>true
 | .call c=>match c.callee with
   | .builtin .append=>true
   | _=>false
 | _=>false
def bk:List Oper→Nat
 | []=>0
 | o::r=>if dW o then bk r+1 else bk r
def jd:aa→Nat→aa
 | [],_=>[]
 | l::r,k=>{ l with bs:=l.bs++List.replicate k (0,.dead) } :: r
def fB:aN→Bool
 | .dead=>true
 | _=>false
def lr:Nat×aN→Bool
 | (0,.dead)=>true
 | _=>false
def c5 (o:Oper):Bool :=
 match o.op with
 | .call c=>match c.callee with
   | .value _=>true
   | _=>false
 | _=>false
def nC (H:aa):Option (Nat×Nat×(Nat×aN))→aa
 | none=>H
 | some (d,i,b)=>cE H d i b
structure pZ where
 v:AV
 rd:Touch
 wr:Option (Nat×Nat×(Nat×aN))
def cK (P:Program) (call:ak) (ops:Array Oper) (bef:Nat) (fr:aq) (H:aa) (nx:Nat) (recs:List Rec) (o:Oper):Option pZ :=
 match eP ops fr o with
 | .lost=>none
 | .skip=>some ⟨.tup [],.none,none⟩
 | .run =>
   if c5 o then match evalOp P call fr (aM (bB H bef recs)) nx o with
    | some (v,_)=>some ⟨v,.all,none⟩
    | none=>none
   else match evalOp P call fr (bB H bef recs) nx o with
    | some (v,.aJ)=>some ⟨v,bp fr o,none⟩
    | some (v,.push b)=>if dW o && !fB b && lr (ah H 0 nx) && !an H 0 then some ⟨v,bp fr o,some (0,nx,(0,b))⟩ else none
    | some (v,.set d i b)=>if !fB b.2 && (Nat.beq b.1 (ah H d i).1 || Nat.beq b.1 (Nat.succ (ah H d i).1)) && !fB (ah (bB H bef recs) d i).2 && fF bef d i recs then some ⟨v,bp fr o,some (d,i,b)⟩ else none
    | _=>none

def dp (P:Program) (nt:Nat) (call:ak) (ops:Array Oper) (befs:Array Nat):Nat→List Oper→aq→aa→Nat→List Rec→Option (aq×aa)
 | _,[],fr,H,_,_=>some (fr,H)
 | j,o::r,fr,H,nx,recs=>match cK P call ops (befs.getD j 0) fr H nx recs o with
   | some e=>dp P nt call ops befs (j+1) r (eV nt fr o.dst e.v) (nC H e.wr) (if dW o then nx+1 else nx) (⟨j,e.rd,e.wr.map fun x=>(x.1,x.2.1)⟩::recs)
   | none=>none

def c9 (ops:Array Oper) (befs:Array Nat):Bool :=
 ops.toList.zipIdx.all fun (o,j)=>Nat.blt (befs.getD j 0) (2 ^ j) &&
  ops.toList.zipIdx.all fun (q,i) =>
   Nat.beq i j || (match q.dst with
   | none=>true
   | some d=>(o.dst != some d) && (!(o.looksAt ops).contains d || (befs.getD j 0).testBit i || (befs.getD i 0).testBit j))

inductive Ex where
 | normal | exit (id:Nat) | goto (l:Nat) | ret

def wR:Option Nat→Bool
 | some 0=>true
 | _=>false
def xZ:AV→Bool
 | .int _ _=>true
 | .bool _=>true
 | .nils=>true
 | .slcT none _ _ _ _=>true
 | .ptrT none _ _=>true
 | _=>false
def FD:Row→Bool
 | .I _ _=>true
 | .F _ _=>true
 | .G l=>l.all xZ
 | .M l=>dN l
def iP (n:Nat):AV→Bool
 | .ptr d i _ _=>Nat.beq d 0 && Nat.ble n i
 | .slc d i _ _ _ _ _=>Nat.beq d 0 && Nat.ble n i
 | .map d i=>Nat.beq d 0 && Nat.ble n i
 | .yld d i=>Nat.beq d 0 && Nat.ble n i
 | .ptrT s r _=>wR s && !FD r
 | .slcT s _ _ _ _=>wR s
 | .agg (.G _)=>true
 | .agg (.M l)=>!dN l
 | .fn _ _ _=>true
 | .tup (_::_)=>true
 | _=>false
def anyM (f:AV→Bool):List bL→Bool
 | []=>false
 | .one v::r=>f v || anyM f r
 | .arr _ _ _::r=>anyM f r
def nD (n:Nat):AV→Bool
 | .agg (.G l)=>l.any (iP n)
 | .agg (.M l)=>anyM (iP n) l
 | .fn _ a b=>a.any (iP n) || b.any (iP n)
 | .ptrT (some 0) (.M l) _=>anyM (iP n) l
 | v=>iP n v
def Iz (n:Nat):Row→Bool
 | .I .. | .F ..=>false
 | .G l=>l.any (nD n)
 | .M l=>anyM (nD n) l
def yy (n:Nat):aN→Bool
 | .dead=>false
 | .row r=>Iz n r
 | .map es=>es.any fun e=>nD n e.1 || nD n e.2
 | .fmap _ _ _ _=>false
 | .loop _=>true
def cutAt (fr:aq) (l:bT) (r:aa):Nat→Nat→aa
 | 0,_=>l::r
 | k+1,m=>if fr.any (fun x=>nD m x.2) || (l.bs.take m).any (fun x=>yy m x.2) then cutAt fr l r k (m+1) else { l with bs:=l.bs.take m } :: r
def fX (n:Nat) (fr:aq) (H:aa):aa :=
 match H with
 | []=>[]
 | l::r=>if Nat.ble l.bs.length n then H else cutAt fr l r 4 n

def Cf:AV→Bool
 | .ptrT (some 0) (.M l) _=>anyM (iP 0) l
 | v=>iP 0 v
def qA (h:Nat):AV→Bool
 | .ptr d i _ _=>Nat.beq d 0 && Nat.beq i h
 | .slc d i _ _ _ _ _=>Nat.beq d 0 && Nat.beq i h
 | .map d i=>Nat.beq d 0 && Nat.beq i h
 | .yld d i=>Nat.beq d 0 && Nat.beq i h
 | v=>Cf v
def lZ (f:AV→Bool) (v:AV):Bool :=
 match v with
 | .agg (.G l)=>l.any f
 | .agg (.M l)=>anyM f l
 | .fn _ a b=>a.any f || b.any f
 | v=>f v
def Fl (f:AV→Bool):Row→Bool
 | .I .. | .F ..=>false
 | .G l=>l.any (lZ f)
 | .M l=>anyM (lZ f) l
def vp (f:AV→Bool):aN→Bool
 | .dead=>false
 | .row r=>Fl f r
 | .map _=>true
 | .fmap _ _ _ _=>false
 | .loop _=>true
def qv (a b:Nat):AV→AV
 | .ptr d i v off=>if Nat.beq d 0 && Nat.beq i a then .ptr 0 b v off else .ptr d i v off
 | .slc d i v off sz len cap=>if Nat.beq d 0 && Nat.beq i a then .slc 0 b v off sz len cap else .slc d i v off sz len cap
 | .map d i=>if Nat.beq d 0 && Nat.beq i a then .map 0 b else .map d i
 | .yld d i=>if Nat.beq d 0 && Nat.beq i a then .yld 0 b else .yld d i
 | v=>v
def jX (g:AV→AV) (v:AV):AV :=
 match v with
 | .agg (.G l)=>.agg (.G (l.map g))
 | .agg (.M l)=>.agg (.M (mapM' g l))
 | .fn f a b=>.fn f (a.map g) (b.map g)
 | v=>g v
def zX (g:AV→AV):Row→Row
 | .I k l=>.I k l
 | .F f n=>.F f n
 | .G l=>.G (l.map (jX g))
 | .M l=>.M (mapM' (jX g) l)
def mE (g:AV→AV):aN→aN
 | .row r=>.row (zX g r)
 | b=>b
def mF (g:AV→AV):aq→aq
 | []=>[]
 | (x,v)::r=>(x,jX g v)::mF g r
def ga (g:AV→AV):List (Nat×aN)→List (Nat×aN)
 | []=>[]
 | (v,b)::r=>(v,mE g b)::ga g r
def hole (fr:aq) (bs:List (Nat×aN)):Nat→Nat→Option Nat
 | 0,_=>none
 | k+1,m=>if Nat.blt (m+1) bs.length then
    if fr.any (fun x=>lZ (qA m) x.2) || ((bs.take m).any (fun x=>vp (qA m) x.2) || (bs.drop (m+1)).any (fun x=>vp (qA m) x.2)) then hole fr bs k (m+1) else some m
   else none
def sr (a b:Nat) (l:bT):bT:={ l with bs:=aP (ga (qv a b) (l.bs.take a)) b ((ag l.bs a).1,mE (qv a b) (ag l.bs a).2) }
def fO (n:Nat):Nat→aq→aa→aq×aa
 | 0,fr,H=>(fr,H)
 | k + 1,fr,H=>match H with
   | []=>(fr,[])
   | l::r=>match hole fr l.bs 4 n with
     | none=>(fr,l::r)
     | some h=>fO n k (mF (qv (l.bs.length-1) h) fr) (fX n (mF (qv (l.bs.length-1) h) fr) (sr (l.bs.length-1) h l::r))
def tidy (n:Nat) (fr:aq) (H:aa):aq×aa:=fO n 4 fr (fX n fr H)

def jW (i ver:Nat) (r:Row):AV→AV
 | .ptr d j v off=>if Nat.beq d 0 && (Nat.beq j i && Nat.beq v ver) then .ptrT none r off else .ptr d j v off
 | .slc d j v off sz len cap=>if Nat.beq d 0 && (Nat.beq j i && (Nat.beq v ver && Nat.ble (off+len*sz) r.len)) then .slcT none (r.sub off (len*sz)) sz len (cap == some len) else .slc d j v off sz len cap
 | v=>v
def lM (i:Nat):AV→Bool
 | .slc d j _ _ _ _ _=>Nat.beq d 0 && Nat.beq j i
 | _=>false
def rR:Row→Bool
 | .I _ _=>true
 | .M [.arr _ _ _]=>true
 | _=>false
def EL (f:AV→Bool):aN→Bool
 | .row r=>Fl f r
 | _=>false
def jg (i:Nat) (fr:aq) (l:bT):aq×bT :=
 match ag l.bs i with
 | (ver,.row r)=>if rR r && (fr.any (fun x=>lZ (lM i) x.2) || l.bs.any (fun x=>EL (lM i) x.2)) then (mF (jW i ver r) fr,{ l with bs:=aP (ga (jW i ver r) l.bs) i (ver,.dead) }) else (fr,l)
 | _=>(fr,l)
def fA:Nat→aq→bT→aq×bT
 | 0,fr,l=>(fr,l)
 | n+1,fr,l=>jg n (fA n fr l).1 (fA n fr l).2
def yc (fr:aq) (H:aa):aq×aa :=
 match H with
 | []=>(fr,[])
 | l::r=>if l.lock then (fr,l::r) else ((fA l.bs.length fr l).1,(fA l.bs.length fr l).2::r)
def cC:Nat→aq→bT→aq×bT
 | 0,fr,l=>(fr,l)
 | n+1,fr,l=>if (cC n fr l).1.any (fun x=>lZ (lM n) x.2) then cC n fr l else jg n (cC n fr l).1 (cC n fr l).2
def qm (fr:aq) (H:aa):aq×aa :=
 match H with
 | []=>(fr,[])
 | l::r=>if l.lock then (fr,l::r) else ((cC l.bs.length fr l).1,(cC l.bs.length fr l).2::r)
def F6 (sz:Nat):AV→AV
 | .nils=>.slcT none (.M [.arr .i64 (fun _=>0) 0]) sz 0 false
 | v=>v
def yk (sz:Nat):Nat→List AV→List AV
 | _,[]=>[]
 | 0,v::l=>F6 sz v::l
 | c+1,v::l=>v::yk sz c l
def qw (c sz:Nat):aN→aN
 | .row (.G l)=>.row (.G (yk sz c l))
 | B=>B
def js (c sz:Nat):List (Nat×aN)→List (Nat×aN)
 | []=>[]
 | (v,B)::r=>(v,qw c sz B)::js c sz r
def Ac (k:Nat) (H:aa):aa :=
 match H with
 | []=>[]
 | l::r=>if l.lock then l::r else { l with bs:=js (k % 8) (k / 8) l.bs } :: r
def w7 (s:Nat):aq→Option Nat
 | []=>none
 | (x,v)::r=>if Nat.beq x s then (match v with
   | .slc 0 i _ _ _ _ _=>some i
   | _=>none) else w7 s r
def rP (s:Nat) (fr:aq) (H:aa):aq×aa :=
 match H with
 | []=>(fr,[])
 | l::r=>if l.lock then (fr,l::r) else match w7 s fr with
   | some i=>((jg i fr l).1,(jg i fr l).2::r)
   | none=>(fr,l::r)
noncomputable def jh (m:Nat) (fr:aq) (H:aa):aq×aa:=if kx m 4000 then ((yc (aT fr m) H).1,if Nat.beq (Nat.shiftRight m 4003) 0 then (yc (aT fr m) H).2 else Ac (Nat.shiftRight m 4003) (yc (aT fr m) H).2) else if kx m 4001 then rP (Nat.shiftRight m 4003) (aT fr m) H else if kx m 4002 then (match aO (aT fr m) (Nat.shiftRight m 4003) with | .bool false=>qm (aT fr m) H | _=>(aT fr m,H)) else (aT fr m,H)

def iter (body:aq→aa→Option (Ex×aq×aa)) (n:Nat):Nat→aq→aa→Option (Ex×aq×aa)
 | 0,_,_=>none
 | fu+1,fr,H=>match body fr H with
   | some (.normal,fr,H)=>iter body n fu (tidy n fr H).1 (tidy n fr H).2
   | r=>r

structure Cx where
 P:Program
 call:ak
 fu:Nat
 fn:FuncId
 nt:Nat
 kt:Nat→Nat
 ro:Option (Nat×Nat)
def Cx.here (cx:Cx) (H:aa):Bool :=
 match cx.ro with
 | none=>true
 | some (d,i)=>match ah H d i with
   | (0,.loop _)=>true
   | _=>false

def er (fr:aq) (H:aa) (cx:Cx) (params:Array Tmp) (assign body:Code):aa :=
 fz H (.loop { state:=.ready,pending:=none,fn:=cx.fn,nt:=cx.nt,fr,params:=params.toList,assign,body })

def oC:Option Code→Option Ex
 | none=>some .normal
 | some (.exit id)=>some (.exit id)
 | some (.goto l)=>some (.goto l)
 | some .ret=>some .ret
 | _=>none

noncomputable def exec (cx:Cx):Code→aq→aa→Option (Ex×aq×aa)
 | .skip,fr,H=>some (.normal,fr,H)
 | .label _,fr,H=>some (.normal,fr,H)
 | .region id ops draw,fr,H =>
   match (if draw then (if c9 ops (Region.before ops) then dp cx.P cx.nt cx.call ops (Region.before ops) 0 ops.toList fr (jd H (bk ops.toList)) (aC H) [] else none) else cU cx.P cx.nt cx.call ops ops.toList fr H) with
   | some (fr,H)=>some (.normal,jh (cx.kt id) fr H)
   | none=>none
 | .seq a b,fr,H=>match exec cx a fr H with
   | some (.normal,fr,H)=>exec cx b fr H
   | r=>r
 | .cond c a b,fr,H=>match aR fr c with
   | .bool true=>exec cx a fr H
   | .bool false=>exec cx b fr H
   | _=>none
 | .block id b,fr,H=>match exec cx b fr H with
   | some (.exit id',fr,H)=>if Nat.beq id' id then some (.normal,fr,H) else some (.exit id',fr,H)
   | r=>r
 | .loop b,fr,H=>iter (exec cx b) (aC H) cx.fu fr H
 | .rangeFunc f params assign body,fr,H =>
   match aR fr f with
   | .fn (.func g) a b =>
     if !cx.here H || an H 0 then none else
     match cx.call (.fn g) (a++(.yld 0 (aC H)::b)) (er fr H cx params assign body) with
     | some (_,H1)=>match ah H1 0 (aC H) with
       | (0,.loop l) =>
         if l.state == .busy then none else
         match oC l.pending with
         | some e=>some (e,fr,cA H1 0 (aC H))
         | none=>none
       | _=>none
     | none=>none
   | _=>none
 | .exit id,fr,H=>some (.exit id,fr,H)
 | .scope b,fr,H=>match exec cx b fr H with
   | some (.goto _,_,_)=>none
   | r=>r
 | .goto l,fr,H=>some (.goto l,fr,H)
 | .ret,fr,H=>some (.ret,fr,H)
 | .refuse _,_,_=>none

def bI   (bs:List (Nat×aN)):Nat→AV→AV
 | 0,_=>.undef
 | n + 1,v=>match v with
   | .ptr d i ver off=>match d with
     | d+1=>.ptr d i ver off
     | 0 => match ag bs i with
       | (w,.row r)=>if Nat.beq w ver then (match r with
         | .I k l=>.ptrT none (.I k l) off
         | .F f m=>.ptrT none (.F f m) off
         | .M l=>if dN l then .ptrT none (.M l) off else .ptrT (some 0) (.M (mapM' (bI bs n) l)) off
         | .G l=>.ptrT (some 0) (.G (l.map (bI bs n))) off) else .undef
       | _=>.undef
   | .slc d i ver off sz len cap=>match d with
     | d+1=>.slc d i ver off sz len cap
     | 0 => match ag bs i with
       | (w,.row r)=>if Nat.beq w ver∧off+len*sz≤r.len then (match r.sub off (len*sz) with
         | .I k l=>.slcT none (.I k l) sz len (cap == some len)
         | .F f m=>.slcT none (.F f m) sz len (cap == some len)
         | .M l=>if dN l then .slcT none (.M l) sz len (cap == some len) else .slcT (some 0) (.M (mapM' (bI bs n) l)) sz len (cap == some len)
         | .G l=>.slcT (some 0) (.G (l.map (bI bs n))) sz len (cap == some len)) else .undef
       | _=>.undef
   | .ptrT s r off=>match s with
     | none=>.ptrT none r off
     | some (s+1)=>.ptrT (some s) r off
     | some 0=>match r with
       | .G l=>.ptrT (some 0) (.G (l.map (bI bs n))) off
       | .M l=>if dN l then .ptrT none (.M l) off else .ptrT (some 0) (.M (mapM' (bI bs n) l)) off
       | r=>.ptrT none r off
   | .slcT s r sz len full=>match s with
     | none=>.slcT none r sz len full
     | some (s+1)=>.slcT (some s) r sz len full
     | some 0=>match r with
       | .G l=>.slcT (some 0) (.G (l.map (bI bs n))) sz len full
       | .M l=>if dN l then .slcT none (.M l) sz len full else .slcT (some 0) (.M (mapM' (bI bs n) l)) sz len full
       | r=>.slcT none r sz len full
   | .map d i=>match d with
     | d+1=>.map d i
     | 0=>.undef
   | .yld d i=>match d with
     | d+1=>.yld d i
     | 0=>.undef
   | .fn f a b=>.fn f (a.map (bI bs n)) (b.map (bI bs n))
   | .agg r=>match r with
     | .G l=>.agg (.G (l.map (bI bs n)))
     | .M l=>.agg (.M (mapM' (bI bs n) l))
     | r=>.agg r
   | .tup l=>.tup (l.map (bI bs n))
   | v=>v

def dv:Nat→List AV→aq
 | _,[]=>[]
 | x,v::l=>(x,iS 1 v)::dv (x+1) l

def eu (P:Program) (fr:aq) (H:aa):List ResultVar→Option (List AV)
 | []=>some []
 | .tmp t::r=>(eu P fr H r).map (aO fr t::·)
 | .cell a t::r=>match jm P H t (aO fr a) with
   | some v=>(eu P fr H r).map (v::·)
   | none=>none
def one:List AV→AV
 | [v]=>v
 | l=>.tup l

def gN (nt:Nat) (fr:aq):List Tmp→List AV→Option aq
 | [],[]=>some fr
 | t::ts,v::vs=>if Nat.blt t nt then gN nt (qg fr t v) ts vs else none
 | _,_=>none

def bg:Ex→Option Code
 | .normal=>none
 | .exit id=>some (.exit id)
 | .goto l=>some (.goto l)
 | .ret=>some .ret

def iN (k:Nat):aq→aq
 | []=>[]
 | (x,v)::r=>(x,iS k v)::iN k r

noncomputable def bY (P:Program) (ora:ak→FuncId→List AV→aa→Option (AV×aa)) (KT:FuncId→Nat→Nat) (fu:Nat):Nat→ak
 | _,.mode,_,_=>(ora (fun _ _ _=>none) 1000000 [] []).map fun _=>(.undef,[])
 | 0,_,_,_=>none
 | n + 1,.fn f,args,H=>match ora (bY P ora KT fu n) f args H with
   | some r=>some r
   | none => match P.funcs[f]? with
     | none=>none
     | some fn=>match fn.body with
       | none=>none
       | some c=>if Nat.ble args.length fn.ntmps then
         match exec ⟨P,bY P ora KT fu n,fu,f,fn.ntmps,KT f,none⟩ c (dv 0 args) (⟨false,[]⟩::H) with
         | some (e,fr,l::H') =>
           (match e with
           | .normal | .ret=>match eu P fr (l::H') fn.results.toList with
             | some vs=>some (bI l.bs 5 (one vs),H')
             | none=>none
           | _=>none)
         | _=>none
         else none
 | n + 1,.round  d i,args,H=>match ah H d i with
   | (0, .loop l) =>
     if an H d then none else
     match l.state with
     | .ready => match gN l.nt (iN (d+1) l.fr) l.params (args.map (iS 1)) with
       | some fr => match exec ⟨P,bY P ora KT fu n,fu,l.fn,l.nt,KT l.fn,some (d+1,i)⟩ l.assign fr (⟨false,[]⟩::H) with
         | some (.normal,fr,H1)=>match ah H1 (d+1) i with
           | (0, .loop l1)=>match l1.state with
             | .ready =>
               match exec ⟨P,bY P ora KT fu n,fu,l.fn,l.nt,KT l.fn,some (d+1,i)⟩ l.body fr (cE H1 (d+1) i (0,.loop { l1 with state:=.busy })) with
               | some (e,_,_::H2)=>match ah H2 d i with
                 | (0,.loop l2)=>some (.bool (bg e).isNone,cE H2 d i (0,.loop { l2 with state:=if (bg e).isNone then .ready else .done,pending:=bg e }))
                 | _=>none
               | _=>none
             | _=>none
           | _=>none
         | _=>none
       | none=>none
     | _=>none
   | _=>none

end Go.Eng
