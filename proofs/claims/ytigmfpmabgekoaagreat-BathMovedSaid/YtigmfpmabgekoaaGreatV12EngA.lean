/- The engine, part A: abstract values, the abstract heap, the abstract interpreter. No statement is proved here. -/
import Derived.RangeFuncLeaves
import Derived.OrdersIn
import Derived.RangeFuncRecord
namespace Go.Eng
theorem nP:(∀ {α:Type} (a b:α),(some a=some b)=(a=b))∧(∀ {α β:Type} (a c:α) (b d:β),((a,b)=(c,d))=(a=c∧b=d)):=⟨fun _ _=>Option.some.injEq _ _,fun _ _ _ _=>Prod.mk.injEq _ _ _ _⟩

mutual
inductive AV where
 | undef
 | bool (b:Bool)
 | int (k:IntKind) (n:Int)
 | str (s:ByteArray)
 | nilp | nils | nilm | nilf
 | ptr (d i v off:Nat)
 | ptrT (s:Option Nat) (r:Row) (off:Nat)
 | slc (d i v off sz len:Nat) (cap:Option Nat)
 | slcT (s:Option Nat) (r:Row) (sz len:Nat) (full:Bool)
 | map (d i:Nat)
 | yld (d i:Nat)
 | fn (f:Fn) (first cap:List AV)
 | agg (r:Row)
 | tup (l:List AV)
inductive Row where
 | I (k:IntKind) (l:List Int)
 | G (l:List AV)
 | F (f:Nat→AV) (n:Nat)
 | M (l:List aL)
inductive aL where
 | one (v:AV)
 | arr (k:IntKind) (z:Nat→Int) (n:Nat)
end

instance:Inhabited AV:=⟨.undef⟩
instance:Inhabited Row:=⟨.G []⟩

def aM:aL→Nat
 | .one _=>1
 | .arr _ _ n=>n
def aE:List aL→Nat
 | []=>0
 | s::r=>aM s+aE r
def getM:List aL→Nat→AV
 | [],_=>.undef
 | .one v::_,0=>v
 | .one _::r,j+1=>getM r j
 | .arr k z n::r,j=>if j<n then .int k (z j) else getM r (j-n)
def mapM' (f:AV→AV):List aL→List aL
 | []=>[]
 | .one v::r=>.one (f v)::mapM' f r
 | .arr k z n::r=>.arr k z n::mapM' f r
def gd:List aL→Bool
 | []=>true
 | .one _::_=>false
 | .arr _ _ _::r=>gd r
def Row.len:Row→Nat
 | .I _ l=>l.length
 | .G l=>l.length
 | .F _ n=>n
 | .M l=>aE l
def Row.get:Row→Nat→AV
 | .I k l,j=>.int k (l.getD j 0)
 | .G l,j=>l.getD j .undef
 | .F f _,j=>f j
 | .M l,j=>getM l j

def dy (g:Nat→AV):Nat→Nat→List AV
 | _,0=>[]
 | o,n+1=>g o::dy g (o+1) n
def Row.toList:Row→List AV
 | .I k l=>l.map (.int k)
 | .G l=>l
 | .F f n=>dy f 0 n
 | .M l=>dy (getM l) 0 (aE l)
def Row.ints:Row→Option (IntKind×(Nat→Int))
 | .I k l=>some (k,fun j=>l.getD j 0)
 | .M [.arr k z _]=>some (k,z)
 | _=>none
def yX:Row→Bool
 | .M _=>true
 | _=>false
def qR:List AV→List aL→List aL
 | [],r=>r
 | v::l,r=>.one v::qR l r
def kr:List aL→Nat→AV→List aL
 | [],_,_=>[]
 | .one _::r,0,v=>.one v::r
 | .one u::r,j+1,v=>.one u::kr r j v
 | .arr k z n::r,j,v=>if j<n then (match v with
    | .int k' x=>if k'=k then .arr k (fun i=>if i=j then x else z i) n::r else qR (dy (fun i=>if i=j then v else .int k (z i)) 0 n) r
    | _=>qR (dy (fun i=>if i=j then v else .int k (z i)) 0 n) r)
   else .arr k z n::kr r (j-n) v
def yk:List Int→Bool
 | []=>true
 | x::l=>x == 0 && yk l
def Og (l:List Int):Nat→Int:=if yk l then fun _=>0 else fun j=>l.getD j 0
def c8 (k:IntKind):List AV→List Int×List AV
 | .int k' n::r=>if k'=k then (match c8 k r with | (a,b)=>(n::a,b)) else ([],.int k' n::r)
 | l=>([],l)
def iK:Nat→List AV→List aL
 | 0,l=>qR l []
 | _,[]=>[]
 | f+1,.int k n::r=>match c8 k r with
   | (a,b)=>if Nat.ble 7 a.length then .arr k (Og (n::a)) (a.length+1)::iK f b else .one (.int k n)::iK f r
 | f+1,v::r=>.one v::iK f r

def tD (k:IntKind):List AV→Option (List Int)
 | []=>some []
 | .int k' n::r=>if k'=k then (tD k r).map (n::·) else none
 | _=>none
def Row.ofList:List AV→Row
 | .int k n::r=>match tD k r with
   | some l=>.I k (n::l)
   | none=>.G (.int k n::r)
 | l=>.G l

def lU:List aL→Nat→Nat→Option (IntKind×(Nat→Int))
 | [],_,_=>none
 | .one _::r,o+1,n=>lU r o n
 | .one _::_,0,_=>none
 | .arr k z m::r,o,n=>if o+n≤m then some (k,fun j=>z (o+j)) else if m≤o then lU r (o-m) n else none
def Row.sub (r:Row) (o n:Nat):Row :=
 match r with
 | .I k l=>.I k ((l.drop o).take n)
 | .G l=>.G ((l.drop o).take n)
 | .F f _=>.F (fun j=>f (o+j)) n
 | .M [.arr k z _]=>.M [.arr k (fun j=>z (o+j)) n]
 | .M l=>if Nat.beq o 0 && Nat.beq (aE l) n then .M l else match lU l o n with
   | some (k,z)=>.M [.arr k z n]
   | none=>.G (dy (getM l) o n)

def iu:AV→Bool
 | .undef | .bool _ | .int _ _ | .str _ | .nilp | .nils | .nilm | .nilf=>true
 | .ptrT s _ _=>s.isNone
 | .slcT s _ _ _ _=>s.isNone
 | .agg (.I ..) | .agg (.F ..)=>true
 | .agg (.M l)=>gd l
 | _=>false

def Row.cut (r:Row) (o n:Nat):Row :=
 match r with
 | .G l=>Row.ofList ((l.drop o).take n)
 | .M l=>if Nat.ble n 8 then Row.ofList (dy (getM l) o n) else if Nat.beq o 0 && Nat.beq (aE l) n then .M l else (Row.M l).sub o n
 | r=>r.sub o n

def Row.set (r:Row) (j:Nat) (v:AV):Row :=
 match r,v with
 | .I k l,.int k' n=>if k'=k then .I k (l.set j n) else .G ((l.map (.int k)).set j v)
 | .I k l,v=>.G ((l.map (.int k)).set j v)
 | .G l,v=>.G (l.set j v)
 | .F f n,v=>.F (fun i=>if i=j then (if iu v then v else .undef) else f i) n
 | .M l,v=>.M (kr l j v)
def Row.cG (r:Row) (j:Nat):List AV→Row
 | []=>r
 | v::l=>(r.set j v).cG (j+1) l
def Row.uM (r s:Row):Option Row :=
 match r.ints,s.ints with
 | some (k,z),some (k',z')=>if k'=k then some (.M [.arr k (fun i=>if i<r.len then z i else z' (i-r.len)) (r.len+s.len)]) else none
 | _,_=>none
def nT:AV→AV
 | .slcT none (.I k l) sz m _=>.slcT none (.M [.arr k (fun j=>l.getD j 0) l.length]) sz m false
 | .slcT none (.M [.arr k z n]) sz m _=>.slcT none (.M [.arr k z n]) sz m false
 | v=>v
def rD (n i:Nat):Nat:=if Nat.beq n 1 then 0 else i
def Row.app (r s:Row):Row :=
 match r,s with
 | .M l,s=>(match (Row.M l).uM s with | some q=>q | none=>.G ((Row.M l).toList++s.toList))
 | .I k l,.M m=>(match (Row.I k l).uM (.M m) with | some q=>q | none=>.G ((Row.I k l).toList++(Row.M m).toList))
 | .I k l,.I k' l'=>if k'=k then .I k (l++l') else .G (l.map (.int k)++l'.map (.int k'))
 | .F f n,s=>.F (fun i=>if Nat.blt i n then f i else if iu (s.get (rD s.len (i-n))) then nT (s.get (rD s.len (i-n))) else .undef) (n+s.len)
 | r,s=>.G (r.toList++s.toList)

def oT (k:Nat):AV→AV
 | .ptr d i v off=>.ptr (d+k) i v off
 | .ptrT s r off=>.ptrT (s.map (· + k)) r off
 | .slc d i v off sz len cap=>.slc (d+k) i v off sz len cap
 | .slcT s r sz len full=>.slcT (s.map (· + k)) r sz len full
 | .map d i=>.map (d+k) i
 | .yld d i=>.yld (d+k) i
 | .agg (.I a l)=>.agg (.I a l)
 | .fn _ _ _ | .agg _ | .tup (_::_)=>.undef
 | v=>v
def N6 (k:Nat) (v:AV):AV :=
 match v with
 | .fn f a b=>.fn f (a.map (oT k)) (b.map (oT k))
 | .agg (.G l)=>.agg (.G (l.map (oT k)))
 | .agg (.M l)=>.agg (.M (mapM' (oT k) l))
 | .agg r=>.agg r
 | v=>oT k v
def gL (k:Nat) (v:AV):AV :=
 match k with
 | 0=>v
 | k+1=>N6 (k+1) v
def BB (k:Nat):Row→Row
 | .I a l=>.I a l
 | .G l=>.G (l.map (oT k))
 | .F f n=>.F f n
 | .M l=>.M (mapM' (oT k) l)
def BA (k:Nat) (r:Row):Row :=
 match k with
 | 0=>r
 | k+1=>BB (k+1) r
def kZ:Nat→Nat→AV→AV
 | 0,_,_=>.undef
 | n + 1,k,v=>match v with
   | .ptr d i v off=>if Nat.blt d k then .undef else .ptr (d-k) i v off
   | .ptrT none r off=>.ptrT none r off
   | .ptrT (some s) r off=>if Nat.blt s k then (match r with
     | .G l=>.ptrT (some 0) (.G (l.map (kZ n (k-s)))) off
     | .M l=>if gd l then .ptrT none (.M l) off else .ptrT (some 0) (.M (mapM' (kZ n (k-s)) l)) off
     | r=>.ptrT none r off) else .ptrT (some (s-k)) r off
   | .slc d i v off sz len cap=>if Nat.blt d k then .undef else .slc (d-k) i v off sz len cap
   | .slcT none r sz len full=>.slcT none r sz len full
   | .slcT (some s) r sz len full=>if Nat.blt s k then (match r with
     | .G l=>.slcT (some 0) (.G (l.map (kZ n (k-s)))) sz len full
     | .M l=>if gd l then .slcT none (.M l) sz len full else .slcT (some 0) (.M (mapM' (kZ n (k-s)) l)) sz len full
     | r=>.slcT none r sz len full) else .slcT (some (s-k)) r sz len full
   | .map d i=>if Nat.blt d k then .undef else .map (d-k) i
   | .yld d i=>if Nat.blt d k then .undef else .yld (d-k) i
   | .agg (.I a l)=>.agg (.I a l)
   | .fn _ _ _ | .agg _ | .tup (_::_)=>.undef
   | v=>v
def LN (k:Nat) (v:AV):AV :=
 match v with
 | .fn f a b=>.fn f (a.map (kZ 4 k)) (b.map (kZ 4 k))
 | .agg (.G l)=>.agg (.G (l.map (kZ 4 k)))
 | .agg (.M l)=>.agg (.M (mapM' (kZ 4 k) l))
 | .agg r=>.agg r
 | v=>kZ 4 k v
def OL (k:Nat) (v:AV):AV :=
 match k with
 | 0=>v
 | k+1=>LN (k+1) v
def wY (k:Nat):Row→Row
 | .I a l=>.I a l
 | .G l=>.G (l.map (kZ 4 k))
 | .F f n=>.F f n
 | .M l=>.M (mapM' (kZ 4 k) l)

def jH (k:Nat) (r:Row):Row :=
 match k with
 | 0=>r
 | k+1=>wY (k+1) r

abbrev ay:=List (Nat×AV)
def br:ay→Nat→AV
 | [],_=>.undef
 | (x,v)::r,y=>if Nat.beq x y then v else br r y
def uQ:ay→Nat→AV→ay
 | [],y,u=>[(y,u)]
 | (x,v)::r,y,u=>if Nat.ble y x then (if Nat.beq x y then (y,u)::r else (y,u)::(x,v)::r) else (x,v)::uQ r y u
def oC (m x:Nat):Bool:=Nat.beq (Nat.land (Nat.shiftRight m x) 1) 1
noncomputable def bO (fr:ay) (m:Nat):ay:=List.rec (motive:=fun _=>ay) [] (fun p _ ih=>Prod.rec (motive:=fun _=>ay) (fun x _=>Bool.rec (motive:=fun _=>ay) (p::ih) ih (Nat.beq (Nat.land (Nat.shiftRight m x) 1) 1)) p) fr

structure ml where
 state:LoopState
 pending:Option Code
 fn:FuncId
 nt:Nat
 fr:ay
 params:List Tmp
 assign:Code
 body:Code

inductive KK where
 | num (k:IntKind)
 | str (n:Nat)
inductive ak where
 | dead
 | row (r:Row)
 | map (es:List (AV×AV))
 | fmap (q:KK) (h:List Int→Bool) (g:List Int→Int) (c:Nat)
 | loop (l:ml)

structure bm where
 lock:Bool
 bs:List (Nat×ak)
abbrev aa:=List bm

def an:List (Nat×ak)→Nat→Nat×ak
 | [],_=>(0,.dead)
 | b::_,0=>b
 | _::r,i+1=>an r i
def bI:List (Nat×ak)→Nat→Nat×ak→List (Nat×ak)
 | [],_,_=>[]
 | _::r,0,x=>x::r
 | b::r,i+1,x=>b::bI r i x
def ar:aa→Nat→Nat→Nat×ak
 | [],_,_=>(0,.dead)
 | l::_,0,i=>an l.bs i
 | _::r,d+1,i=>ar r d i
def aA:aa→Nat→Bool
 | [],_=>true
 | l::_,0=>l.lock
 | _::r,d+1=>aA r d
def dx:aa→Nat→Nat→Nat×ak→aa
 | [],_,_,_=>[]
 | l::r,0,i,x=>{ l with bs:=bI l.bs i x } :: r
 | l::r,d+1,i,x=>l::dx r d i x
def cA (H:aa) (d i:Nat):aa:=dx H d i ((ar H d i).1,.dead)
def jo:aa→ak→aa
 | [],b=>[⟨false,[(0,b)]⟩]
 | l::r,b=>{ l with bs:=l.bs++[(0,b)] } :: r
def bt:aa→Nat→ak→aa
 | [],_,_=>[]
 | l::r,0,b=>{ l with bs:=l.bs++[(0,b)] } :: r
 | l::r,d+1,b=>l::bt r d b
def ai:aa→Nat→Nat
 | [],_=>0
 | l::_,0=>l.bs.length
 | _::r,d+1=>ai r d
def ao:aa→Nat
 | []=>0
 | l::_=>l.bs.length
def az:aa→aa
 | []=>[]
 | l::r=>{ l with lock:=true } :: az r

def dc (H:aa) (d i v:Nat):Option Row :=
 match ar H d i with
 | (ver,.row r)=>if Nat.beq ver v then some r else none
 | _=>none

def s5:Value→AV
 | .bool b=>.bool b
 | .int k n=>.int k n
 | .string s=>.str s
 | .pointer none=>.nilp
 | .slice none 0 0=>.nils
 | .map none=>.nilm
 | .nilFunc=>.nilf
 | _=>.undef
def lq:Value→AV
 | .bool b=>.bool b
 | .int k n=>.int k n
 | .string s=>.str s
 | .pointer none=>.nilp
 | .slice none 0 0=>.nils
 | .map none=>.nilm
 | .nilFunc=>.nilf
 | .func (.func f) ca cb=>if ca.isEmpty && cb.isEmpty then .fn (.func f) [] [] else .undef
 | .agg cs=>if cs.toList.all Value.oneCell' then .agg (Row.ofList (cs.toList.map s5)) else .undef
 | .tuple cs=>if cs.isEmpty then .tup [] else .undef
 | _=>.undef

def bJ (fr:ay):Operand→AV
 | .tmp t=>br fr t
 | .const v=>lq v
 | .global _=>.undef
 | .func f=>.fn (.func f) [] []

def AV.row:AV→Option Row
 | .agg r=>some r
 | .int k n=>some (.I k [n])
 | .undef | .tup _=>none
 | v=>some (.G [v])

def fx (P:Program) (t:TypeId):Option Bool :=
 match P.underlying t with
 | some (.struct _) | some (.array _ _)=>some true
 | some _=>some false
 | none=>none
def bo (P:Program) (t:TypeId):Option Nat:=(P.info? t).map (·.size)
def cI (P:Program) (t:TypeId):Option AV:=((P.info? t).bind (·.zero)).map lq

inductive Delta where
 | bf
 | push (b:ak)
 | set (d i:Nat) (b:Nat×ak)
 | heap (H:aa)
def Delta.on (δ:Delta) (H:aa):aa :=
 match δ with
 | .bf=>H
 | .push b=>jo H b
 | .set d i b=>dx H d i b
 | .heap H=>H

inductive N7 where
 | fn (f:FuncId)
 | round (d i:Nat)
 | mode
abbrev aS:=N7→List AV→aa→Option (AV×aa)

def iF (op:BinOp) (k:IntKind) (x y:Int):Option AV :=
 match op with
 | .add=>some (.int k (k.wrap (x+y)))
 | .sub=>some (.int k (k.wrap (x-y)))
 | .mul=>some (.int k (k.wrap (x*y)))
 | .quo=>if y=0 then none else some (.int k (k.wrap (x.tdiv y)))
 | .rem=>if y=0 then none else some (.int k (x.tmod y))
 | .and=>some (.int k (k.wrap (BitVec.ofInt k.bits x &&& BitVec.ofInt k.bits y).toNat))
 | .or=>some (.int k (k.wrap (BitVec.ofInt k.bits x ||| BitVec.ofInt k.bits y).toNat))
 | .xor=>some (.int k (k.wrap (BitVec.ofInt k.bits x ^^^ BitVec.ofInt k.bits y).toNat))
 | .andNot=>some (.int k (k.wrap (BitVec.ofInt k.bits x &&& ~~~(BitVec.ofInt k.bits y)).toNat))
 | .eql=>some (.bool (x == y))
 | .neq=>some (.bool (x != y))
 | .lss=>some (.bool (x<y))
 | .leq=>some (.bool (x≤y))
 | .gtr=>some (.bool (x > y))
 | .geq=>some (.bool (x≥y))
 | _=>none

def gv (P:Program) (g:TypeId→Option Nat) (off:Nat):List Field→Option Nat
 | []=>some off
 | f::fs=>if f.name != "_" && Nat.beq f.offset off then (match g f.type with
   | some s=>gv P g (off+s) fs
   | none=>none) else none
def b9 (P:Program):Nat→TypeId→Option Nat
 | 0,_=>none
 | n + 1,t=>match P.underlying t with
   | some (.int _)=>if bo P t=some 1 then some 1 else none
   | some (.array len e)=>match b9 P n e with
     | some s=>if bo P t=some (len*s) then some (len*s) else none
     | none=>none
   | some (.struct fs)=>if P.stoodInHeld t then none else match gv P (b9 P n) 0 fs.toList with
     | some s=>if bo P t=some s then some s else none
     | none=>none
   | _=>none

def fv:List Int→List Int→Bool
 | [],[]=>true
 | x::a,y::b=>(x == y) && fv a b
 | _,_=>false

def allEq (z z':Nat→Int):Nat→Bool
 | 0=>true
 | n+1=>allEq z z' n && (z n == z' n)
def Li (P:Program) (t:TypeId) (r s:Row):Option Bool :=
 match r.ints,s.ints with
 | some (k,z),some (k',z')=>if k=k'∧b9 P 20 t=some r.len∧fx P t=some true∧r.len=s.len then some (allEq z z' r.len) else none
 | _,_=>none
def Ay (P:Program) (t:TypeId) (x y:AV):Option Bool :=
 match x,y with
 | .bool a,.bool b=>(match P.underlying t with | some .bool=>some (a == b) | _=>none)
 | .nils,.nils | .nils,.slcT .. | .nils,.slc .. | .slcT ..,.nils | .slc ..,.nils =>
   (match P.underlying t with
   | some (.slice _)=>(match x,y with
     | .nils,.nils=>some true
     | .nils,.slcT _ _ _ n _=>if 0<n then some false else none
     | .slcT _ _ _ n _,.nils=>if 0<n then some false else none
     | _,_=>some false)
   | _=>none)
 | .nilp,.nilp | .nilp,.ptr .. | .nilp,.ptrT .. | .ptr ..,.nilp | .ptrT ..,.nilp =>
   (match P.underlying t with
   | some (.pointer _)=>some (match x,y with | .nilp,.nilp=>true | _,_=>false)
   | _=>none)
 | .agg (.I k a),.agg (.I k' b)=>if k=k'∧b9 P 20 t=some a.length∧fx P t=some true∧a.length=b.length then some (fv a b) else none
 | .agg (.M l),.agg s=>Li P t (.M l) s
 | .agg (.I k a),.agg (.M l)=>Li P t (.I k a) (.M l)
 | _,_=>none

def kC (P:Program) (op:BinOp) (t:TypeId) (x y:AV):Option AV :=
 match op,x,y with
 | .shl,.int k a,.int _ b=>if b<0 then none else some (.int k (k.wrap (a*2 ^ (min b.toNat k.bits))))
 | .shr,.int k a,.int _ b=>if b<0 then none else some (.int k (a.fdiv (2 ^ (min b.toNat k.bits))))
 | op,.int k a,.int k' b=>if k=k' then iF op k a b else none
 | .eql,x,y=>(Ay P t x y).map .bool
 | .neq,x,y=>(Ay P t x y).map fun b=>.bool (!b)
 | _,_,_=>none

def N3 (op:UnOp) (x:AV):Option AV :=
 match op,x with
 | .not,.bool b=>some (.bool !b)
 | .neg,.int k n=>some (.int k (k.wrap (0-n)))
 | _,_=>none

def oL {α:Type} (l:List α):Nat→List α
 | 0=>[]
 | n+1=>l++oL l n
def dZ (z:Row) (n:Nat):Row :=
 match z with
 | .I k l=>.I k (oL l n)
 | z=>.G (oL z.toList n)
def Ff (l:List AV) (n:Nat):Row :=
 match l with
 | [v]=>if iu v then .F (fun _=>v) n else .G (oL l n)
 | l=>.G (oL l n)
def dL (z:Row) (n:Nat):Row :=
 match z with
 | .I k l=>if yk l then .M [.arr k (fun _=>0) (n*l.length)] else .I k (oL l n)
 | z=>Ff z.toList n
def jM (r:Row):Row :=
 match r with
 | .I k l=>if Nat.ble 8 l.length then .M [.arr k (Og l) l.length] else .I k l
 | .G l=>if (iK l.length l).length == l.length then .G l else .M (iK l.length l)
 | r=>r
def qk (z:Nat→Int) (off:Nat) (z':Nat→Int) (n:Nat):Nat→Int:=fun i=>if off≤i∧i<off+n then z' (i-off) else z i
def zP:List aL→Nat→Nat→List aL→Option (List aL)
 | [],_,_,_=>none
 | .one v::r,o+1,n,q=>(zP r o n q).map (.one v::·)
 | .one _::_,0,_,_=>none
 | .arr k z m::r,o,n,q=>if Nat.beq o 0 && Nat.beq m n then some (q++r) else if Nat.ble m o then (zP r (o-m) n q).map (.arr k z m::·) else none
def Jp (q:Row):Option (List aL) :=
 match jM q with
 | .M l=>some l
 | _=>none
def xK (l:List aL) (off:Nat) (q:Row):Row :=
 if Nat.ble 9 q.len then (match Jp q with
  | some qs=>if Nat.beq off 0 && Nat.beq (aE l) q.len then .M qs else (match zP l off q.len qs with
    | some l'=>.M l'
    | none=>(Row.M l).cG off q.toList)
  | none=>(Row.M l).cG off q.toList)
 else (Row.M l).cG off q.toList
def kn (r:Row) (off:Nat) (q:Row):Row :=
 match r with
 | .M l=>(match l with
   | [.arr k z m]=>(match q with
     | .M [.arr k' z' n]=>if k'=k then .M [.arr k (qk z off z' n) m] else xK l off q
     | _=>xK l off q)
   | _=>xK l off q)
 | r=>r.cG off q.toList
def rC:AV→Bool
 | .slcT none (.M [.arr _ _ _]) _ _ _=>true
 | .slcT none (.I _ _) _ _ _=>true
 | _=>false
def rW (sy:Bool) (r:Row):Row :=
 match r with
 | .I k l=>if sy then .M [.arr k (fun j=>l.getD j 0) l.length] else .I k l
 | .G [v]=>if sy && rC v then .F (fun _=>nT v) 1 else .G [v]
 | r=>r
def tj (place:Nat→Option (Nat×Nat)) (r:Row):List (Nat×AV)→Option Row
 | []=>some r
 | (i,v)::rest=>match place i with
   | none=>none
   | some (off,size)=>match v.row with
     | some q=>if q.len=size∧off+q.len≤r.len then tj place (r.cG off q.toList) rest else none
     | none=>none

def iL (P:Program) (t:TypeId) (r:Row) (off:Nat):Option AV :=
 match fx P t,bo P t with
 | some true,some n=>if off+n≤r.len then some (.agg (r.cut off n)) else none
 | some false,_=>if off<r.len then some (r.get off) else none
 | _,_=>none

def Rr (s:Option Nat) (v:AV):AV :=
 match s with
 | none=>v
 | some k=>gL k v

def mZ (P:Program) (H:aa) (t:TypeId) (a:AV):Option AV :=
 match a with
 | .ptr d i v off=>match dc H d i v with
   | some r=>(iL P t r off).map (gL d)
   | none=>none
 | .ptrT s r off=>(iL P t r off).map (Rr s)
 | _=>none

def gD (P:Program) (H:aa) (t:TypeId) (a x:AV):Option Delta :=
 match a with
 | .ptr d i v off =>
   if aA H d then none else
   match dc H d i v,bo P t,x.row with
   | some r,some n,some q =>
     if q.len=n∧off+n≤r.len then
      match d,x with
      | d+1,.slc 0 j w o sz len cap=>if aA H 0 then none else match dc H 0 j w with
        | some q=>some (.heap (bt (dx (cA H 0 j) (d+1) i (v,.row (r.set off (.slc 0 (ai H (d+1)) 0 o sz len cap)))) (d+1) (.row (jH (d+1) q))))
        | none=>none
      | _,_=>some (.set d i (v,.row (kn r off (jH d q))))
     else none
   | _,_,_=>none
 | _=>none

def lR (P:Program):List Field→Option (List (Nat×Nat))
 | []=>some []
 | f::fs=>match bo P f.type,lR P fs with
   | some n,some l=>some ((f.offset,n)::l)
   | _,_=>none

def wQ (P:Program) (sy:Bool) (t:TypeId) (parts:List (Nat×AV)):Option AV :=
 match cI P t,P.underlying t with
 | some (.agg z),some (.struct fs)=>match lR P fs.toList with
   | some l=>(tj (fun i=>l[i]?) (if sy then jM z else z) parts).map .agg
   | none=>none
 | some (.agg z),some (.array _ e)=>match bo P e with
   | some n=>(tj (fun i=>some (i*n,n)) (if sy then jM z else z) parts).map .agg
   | none=>none
 | _,_=>none

def lf (a:AV) (n:Nat):Option AV :=
 match a with
 | .ptr d i v off=>some (.ptr d i v (off+n))
 | .ptrT s r off=>some (.ptrT s r (off+n))
 | _=>none

def gR (P:Program) (t:TypeId) (a:AV) (f:Nat):Option AV :=
 match P.underlying t with
 | some (.struct fs)=>match fs[f]? with
   | some g=>match bo P g.type with
     | some (_+1)=>lf a g.offset
     | _=>none
   | none=>none
 | _=>none

def fO (P:Program) (t:TypeId) (x:AV) (i:Int):Option AV :=
 match P.underlying t,x with
 | some (.array n e),x=>match bo P e with
   | some z=>if 0≤i∧i<n then lf x (i.toNat*z) else none
   | none=>none
 | some (.slice e),.slc d j v off sz len _ =>
   if 0≤i∧i<len∧bo P e=some sz then some (.ptr d j v (off+i.toNat*sz)) else none
 | some (.slice e),.slcT s r sz len _ =>
   if 0≤i∧i<len∧bo P e=some sz then some (.ptrT s r (i.toNat*sz)) else none
 | _,_=>none

def qC (P:Program) (t:TypeId) (x:AV) (i:Int):Option AV :=
 match P.underlying t,x with
 | some (.array n e),.agg r=>match bo P e with
   | some z=>if 0≤i∧i<n then iL P e r (i.toNat*z) else none
   | none=>none
 | some .string,.str s=>if 0≤i then (match s[i.toNat]? with
   | some b=>some (.int .u8 b.toNat)
   | none=>none) else none
 | _,_=>none

def ti (P:Program) (t:TypeId) (x:AV) (f:Nat):Option AV :=
 match P.underlying t,x with
 | some (.struct fs),.agg r=>match fs[f]? with
   | some g=>iL P g.type r g.offset
   | none=>none
 | _,_=>none

def bound (o:Option AV) (dflt top:Nat):Option Nat :=
 match o with
 | none=>some dflt
 | some (.int _ i)=>if 0≤i∧i≤top then some i.toNat else none
 | some _=>none

def eF (lo hi mx:Option AV) (len:Nat):Option (Nat×Nat×Option Nat) :=
 match mx with
 | none=>match bound hi len len with
   | some h=>match bound lo 0 h with
     | some l=>some (l,h,none)
     | none=>none
   | none=>none
 | some a=>match bound (some a) 0 len with
   | some m=>if hi.isSome then (match bound hi len m with
     | some h=>match bound lo 0 h with
       | some l=>some (l,h,some m)
       | none=>none
     | none=>none) else none
   | none=>none

def qZ (P:Program) (t:TypeId) (x:AV) (lo hi mx:Option AV):Option AV :=
 match P.underlying t,x with
 | some (.slice e),.slc d j v off sz len cap =>
   match eF lo hi mx len with
   | some (l,h,mm)=>if bo P e=some sz then
      some (.slc d j v (off+l*sz) sz (h-l) (match mm with | none=>cap.map (· - l) | some m=>some (m-l))) else none
   | none=>none
 | some (.slice e),.slcT s r sz len full =>
   match eF lo hi mx len with
   | some (l,h,mm)=>if bo P e=some sz∧l*sz+(h-l)*sz≤r.len then
      some (.slcT s (r.sub (l*sz) ((h-l)*sz)) sz (h-l) (match mm with | none=>full && Nat.beq h len | some m=>Nat.beq h m)) else none
   | none=>none
 | some (.slice e),.nils =>
   match eF lo hi mx 0,bo P e with
   | some _,some _=>some .nils
   | _,_=>none
 | some (.array n e),.ptr d j v off =>
   match eF lo hi mx n with
   | some (l,h,mm)=>match bo P e with
     | some sz=>some (.slc d j v (off+l*sz) sz (h-l) (match mm with | none=>some (n-l) | some m=>some (m-l)))
     | none=>none
   | none=>none
 | _,_=>none

def uZ (P:Program) (H:aa) (t:TypeId) (x:AV):Option Int :=
 match P.underlying t,x with
 | some (.array n _),_=>some n
 | some (.slice _),.nils=>some 0
 | some (.slice _),.slc _ _ _ _ _ len _=>some len
 | some (.slice _),.slcT _ _ _ len _=>some len
 | some (.map _ _),.nilm=>some 0
 | some (.map _ _),.map d i=>match ar H d i with
   | (0,.map es)=>some es.length
   | (0,.fmap _ _ _ c)=>some c
   | _=>none
 | _,_=>none

def JW (P:Program) (t:TypeId) (x:AV):Option Int :=
 match P.underlying t,x with
 | some (.slice _),.nils=>some 0
 | some (.slice _),.slc _ _ _ _ _ _ (some c)=>some c
 | _,_=>none

def eR (H:aa) (sz n:Nat) (x:AV):Option Row :=
 match x with
 | .nils=>if n=0 then some (.G []) else none
 | .slc d i v off sz' len _=>match dc H d i v with
   | some r=>if sz'=sz∧n≤len∧off+n*sz≤r.len then some (BA d (r.sub off (n*sz))) else none
   | none=>none
 | .slcT s r sz' len _=>if sz'=sz∧n≤len∧n*sz≤r.len then some (match s with | none=>r.sub 0 (n*sz) | some k=>BA k (r.sub 0 (n*sz))) else none
 | _=>none
def ov:AV→Option Nat
 | .nils=>some 0
 | .slc _ _ _ _ _ len _=>some len
 | .slcT _ _ _ len _=>some len
 | _=>none

def room:Nat:=2 ^ 46

def Eu (P:Program) (sy:Bool) (nx:Nat) (e:TypeId) (s x:AV):Option (AV×Delta) :=
 match P.info? e,s,x with
 | some inf,.nils,.int _ k =>
   if 0≤k∧k.toNat≤room∧k.toNat*inf.bytes≤room∧0<inf.size∧((cI P e).bind AV.row).map Row.len=some inf.size then
    (if k=0 then some (.nils,.bf) else some (.slc 0 nx 0 0 inf.size k.toNat none,.push (.row (rW sy (.I .i64 [])))))
   else none
 | _,_,_=>none
def o8      (P:Program) (sy:Bool) (H:aa) (nx:Nat) (t u:TypeId) (s x:AV):Option (AV×Delta) :=
 match P.underlying t,P.underlying u with
 | some (.slice e),some (.int _)=>Eu P sy nx e s x
 | some (.slice e),some (.slice _) =>
   match P.info? e,ov s,ov x with
   | some inf,some m,some n =>
     if n=0 then (match s,x with
      | .nils,_=>some (s,.bf)
      | .slc ..,_=>some (s,.bf)
      | .slcT ..,_=>some (s,.bf)
      | _,_=>none)
     else if (m+n)*inf.bytes≤room∧(m+n)≤room∧0<inf.bytes∧((cI P e).bind AV.row).map Row.len=some inf.size then
      match eR H inf.size n x with
      | none=>none
      | some new =>
        match s with
        | .nils=>some (.slc 0 nx 0 0 inf.size n none,.push (.row (rW sy new)))
        | .slcT _ _ _ _ true=>match eR H inf.size m s with
          | some old=>some (.slc 0 nx 0 0 inf.size (m+n) none,.push (.row (rW sy (old.app new))))
          | none=>none
        | .slc d i v off sz _ (some c) =>
          if c<m+n then
           match eR H inf.size m s with
           | some old=>some (.slc 0 nx 0 0 inf.size (m+n) none,.push (.row (rW sy (old.app new))))
           | none=>none
          else if aA H d then none else
           match dc H d i v with
           | some r=>if sz=inf.size∧off+(m+n)*sz≤r.len then
              some (.slc d i v off sz (m+n) (some c),.set d i (v,.row (r.cG (off+m*sz) (jH d new).toList)))
             else none
           | none=>none
        | .slc d i v off sz _ none =>
          if aA H d then none else
          match dc H d i v with
          | some r=>if sz=inf.size∧off+m*sz=r.len then
             some (.slc d i (v+1) 0 sz (m+n) none,.set d i (v+1,.row ((r.sub off (m*sz)).app (jH d new))))
            else none
          | none=>none
        | _=>none
     else none
   | _,_,_=>none
 | _,_=>none

def copyV (P:Program) (H:aa) (t:TypeId) (s x:AV):Option (AV×Delta) :=
 match P.underlying t with
 | some (.slice e) =>
   match bo P e,ov s,ov x with
   | some z,some m,some n =>
     match eR H z (min n m) x with
     | none=>none
     | some new =>
       match s with
       | .nils=>some (.int .i64 (min n m:Nat),.bf)
       | .slc d i v off sz _ _ =>
         if aA H d then none else
         match dc H d i v with
         | some r=>if sz=z∧off+(min n m)*sz≤r.len then
            some (.int .i64 (min n m:Nat),.set d i (v,.row (kn r off (jH d new))))
           else none
         | none=>none
       | _=>none
   | _,_,_=>none
 | _=>none

def sY (P:Program) (H:aa) (t:TypeId) (s:AV):Option (AV×Delta) :=
 match P.underlying t,s with
 | some (.slice _),.nils=>some (.tup [],.bf)
 | some (.slice e),.slc d i v off sz len _ =>
   if aA H d then none else
   match (cI P e).bind AV.row,dc H d i v with
   | some z,some r=>if z.len=sz∧bo P e=some sz∧off+len*sz≤r.len then
      some (.tup [],if len=0 then .bf else .set d i (v,.row (if yX r then kn r off (dL z len) else r.cG off (dZ z len).toList)))
     else none
   | _,_=>none
 | _,_=>none

def fb (mx:Bool) (k:IntKind) (x:Int):List AV→Option AV
 | []=>some (.int k x)
 | .int k' y::r=>if k=k' then fb mx k (if mx then (if y > x then y else x) else (if y<x then y else x)) r else none
 | _=>none
def oD (mx:Bool):List AV→Option AV
 | .int k x::r=>fb mx k x r
 | _=>none

def jt (P:Program) (sy:Bool) (nx:Nat) (t:TypeId) (l c:AV):Option (AV×Delta) :=
 match P.underlying t,l,c with
 | some (.slice e),.int _ l,.int _ c =>
   match P.info? e,(cI P e).bind AV.row with
   | some inf,some z =>
     if 0≤l∧l≤c∧c.toNat*inf.bytes≤room∧c.toNat≤room∧z.len=inf.size then
      some (.slc 0 nx 0 0 inf.size l.toNat (some c.toNat),.push (.row (if sy then dL z c.toNat else dZ z c.toNat)))
     else none
   | _,_=>none
 | _,_,_=>none

def jQ (P:Program) (nx:Nat) (t:TypeId) (len:Nat) (parts:List (Nat×AV)):Option (AV×Delta) :=
 match P.underlying t with
 | some (.slice e)=>match bo P e,(cI P e).bind AV.row with
   | some z,some zv =>
     if len*z≤2 ^ 24∧zv.len=z then
      (tj (fun i=>some (i*z,z)) (dZ zv len) parts).map fun r=>(.slc 0 nx 0 0 z len (some len),.push (.row r))
     else none
   | _,_=>none
 | _=>none

def pI (x y:AV):Option Bool :=
 match x,y with
 | .int k a,.int k' b=>if k=k' then some (a == b) else none
 | .agg (.I k a),.agg (.I k' b)=>if k=k'∧a.length=b.length then some (fv a b) else none
 | _,_=>none
def gu (key:AV):List (AV×AV)→Nat→Option (Option Nat)
 | [],_=>some none
 | (k,_)::r,i=>match pI key k with
   | some true=>some (some i)
   | some false=>gu key r (i+1)
   | none=>none
def kg (P:Program) (t:TypeId) (x:AV):Bool :=
 match P.underlying t,x with
 | some (.int _),.int _ _=>true
 | some (.array _ _),.agg (.I _ l)=>b9 P 20 t == some l.length
 | some (.struct _),.agg (.I _ l)=>b9 P 20 t == some l.length
 | _,_=>false
def vC (H:aa) (m:AV):Option (Nat×List (AV×AV)) :=
 match m with
 | .nilm=>some (0,[])
 | .map d i=>match ar H d i with
   | (0,.map es)=>some (d,es)
   | _=>none
 | _=>none
def oI:List (AV×AV)→Nat→AV
 | [],_=>.undef
 | e::_,0=>e.2
 | _::r,i+1=>oI r i
def oO:List (AV×AV)→Nat→AV×AV→List (AV×AV)
 | [],_,_=>[]
 | _::r,0,x=>x::r
 | e::r,i+1,x=>e::oO r i x
def og:List (AV×AV)→Nat→List (AV×AV)
 | [],_=>[]
 | _::r,0=>r
 | e::r,i+1=>e::og r i
def vH (H:aa) (m:AV):Option (KK×(List Int→Bool)×(List Int→Int)×Nat) :=
 match m with
 | .map d i=>match ar H d i with
   | (0,.fmap q h g c)=>some (q,h,g,c)
   | _=>none
 | _=>none
def uX:KK→AV→Option (List Int)
 | .num k,.int k' n=>if k=k' then some [n] else none
 | .str m,.agg (.I .i64 l)=>if Nat.beq l.length m then some l else none
 | _,_=>none
def Mb:AV→Option KK
 | .int k _=>some (.num k)
 | .agg (.I .i64 l)=>some (.str l.length)
 | _=>none
def zF:AV→Option Int
 | .int .i64 n=>some n
 | _=>none
def dz (h:List Int→Bool) (n:List Int) (b:Bool):List Int→Bool:=fun i=>if i=n then b else h i
def fD (g:List Int→Int) (n:List Int) (x:Int):List Int→Int:=fun i=>if i=n then x else g i
def pe (b:Bool) (c:Nat):Nat:=cond b c (c+1)
def yp (b:Bool) (c:Nat):Nat:=cond b (c-1) c
def tS (P:Program) (t:TypeId):ak :=
 match P.underlying t with
 | some (.map kt et)=>match (cI P kt).bind Mb,(cI P et).bind zF with
   | some q,some _=>.fmap q (fun _=>false) (fun _=>0) 0
   | _,_=>.map []
 | _=>.map []
def pL (P:Program) (H:aa) (t:TypeId) (m key:AV) (ok:Bool):Option AV :=
 match P.underlying t with
 | some (.map kt et) =>
   if kg P kt key then
    match vH H m with
    | some (q,h,g,_)=>match uX q key,(cI P et).bind zF with
      | some n,some 0=>some (if ok then .tup [.int .i64 (g n),.bool (h n)] else .int .i64 (g n))
      | _,_=>none
    | none=>match vC H m,cI P et with
    | some (d,es),some z=>match gu key es 0 with
      | some (some i)=>some (if ok then .tup [gL d (oI es i),.bool true] else gL d (oI es i))
      | some none=>some (if ok then .tup [z,.bool false] else z)
      | none=>none
    | _,_=>none
   else none
 | _=>none
def j6 (P:Program) (H:aa) (t:TypeId) (m key x:AV):Option Delta :=
 match P.underlying t,m with
 | some (.map kt _),.map d i =>
   if aA H d then none else
   if kg P kt key then
    match ar H d i with
    | (0,.fmap q h g c)=>match uX q key,zF x with
      | some n,some y=>some (.set d i (0,.fmap q (dz h n true) (fD g n y) (pe (h n) c)))
      | _,_=>none
    | (0,.map es)=>match gu key es 0 with
      | some (some j)=>some (.set d i (0,.map (oO es j (key,OL d x))))
      | some none=>some (.set d i (0,.map (es++[(key,OL d x)])))
      | none=>none
    | _=>none
   else none
 | _,_=>none
def ph (P:Program) (H:aa) (t:TypeId) (m key:AV):Option (AV×Delta) :=
 match P.underlying t,m with
 | some (.map kt _),.map d i =>
   if aA H d then none else
   if kg P kt key then
    match ar H d i with
    | (0,.fmap q h g c)=>match uX q key with
      | some n=>some (.tup [],.set d i (0,.fmap q (dz h n false) (fD g n 0) (yp (h n) c)))
      | none=>none
    | (0,.map es)=>match gu key es 0 with
      | some (some j)=>some (.tup [],.set d i (0,.map (og es j)))
      | some none=>some (.tup [],.set d i (0,.map es))
      | none=>none
    | _=>none
   else none
 | _,_=>none

def dU (fr:ay):List (Nat×Operand)→List (Nat×AV)
 | []=>[]
 | (i,x)::r=>(i,bJ fr x)::dU fr r
def kj (fr:ay):List Operand→List AV
 | []=>[]
 | x::r=>bJ fr x::kj fr r

def mi {α:Type} (call:aS) (a b:α):α :=
 match call .mode [] [] with
 | some _=>a
 | none=>b
def fT (P:Program) (call:aS) (fr:ay) (H:aa) (nx:Nat) (c:Call):Option (AV×Delta) :=
 match c.callee with
 | .value f=>match bJ fr f with
   | .fn (.func g) a b=>(call (.fn g) (a++(kj fr c.args.toList++b)) H).map fun (v,H)=>(v,.heap H)
   | .yld d i=>(call (.round d i) (kj fr c.args.toList) H).map fun (v,H)=>(v,.heap H)
   | _=>none
 | .builtin .len=>match c.args.toList,c.argTypes.toList with
   | x::_,t::_=>(uZ P H t (bJ fr x)).map fun n=>(.int .i64 n,.bf)
   | _,_=>none
 | .builtin .cap=>match c.args.toList,c.argTypes.toList with
   | x::_,t::_=>(JW P t (bJ fr x)).map fun n=>(.int .i64 n,.bf)
   | _,_=>none
 | .builtin .append=>match c.args.toList,c.argTypes.toList with
   | s::x::_,t::u::_=>o8 P (mi call true false) H nx t u (bJ fr s) (bJ fr x)
   | _,_=>none
 | .builtin .copy=>match c.args.toList,c.argTypes.toList with
   | s::x::_,t::_=>copyV P H t (bJ fr s) (bJ fr x)
   | _,_=>none
 | .builtin .clear=>match c.args.toList,c.argTypes.toList with
   | s::_,t::_=>sY P H t (bJ fr s)
   | _,_=>none
 | .builtin .delete=>match c.args.toList,c.argTypes.toList with
   | m::k::_,t::_=>ph P H t (bJ fr m) (bJ fr k)
   | _,_=>none
 | .builtin .min=>(oD false (kj fr c.args.toList)).map fun v=>(v,.bf)
 | .builtin .max=>(oD true (kj fr c.args.toList)).map fun v=>(v,.bf)
 | _=>none

def kp (o:Option AV):Option (AV×Delta):=o.map fun v=>(v,.bf)

def evalOp (P:Program) (call:aS) (fr:ay) (H:aa) (nx:Nat) (o:Oper):Option (AV×Delta) :=
 match o.op with
 | .move x | .assign x=>some (bJ fr x,.bf)
 | .pick c a b=>match bJ fr c with
   | .bool t=>some (if t then bJ fr a else bJ fr b,.bf)
   | _=>none
 | .alloc t=>((cI P t).bind AV.row).map fun z=>(.ptr 0 nx 0 0,.push (.row (mi call (jM z) z)))
 | .box _ x=>(bJ fr x).row.map fun r=>(.ptr 0 nx 0 0,.push (.row (mi call (jM r) r)))
 | .build t parts=>kp (wQ P (mi call true false) t (dU fr parts.toList))
 | .buildSlice t len parts=>jQ P nx t len (dU fr parts.toList)
 | .load t a=>kp (mZ P H t (bJ fr a))
 | .store t a x=>(gD P H t (bJ fr a) (bJ fr x)).map fun δ=>(.tup [],δ)
 | .nilCheck x=>match bJ fr x with
   | .ptr d i v off=>some (.ptr d i v off,.bf)
   | .ptrT s r off=>some (.ptrT s r off,.bf)
   | _=>none
 | .binOp op t x y _=>kp (kC P op t (bJ fr x) (bJ fr y))
 | .unOp op _ x=>kp (N3 op (bJ fr x))
 | .convert src dst x=>match P.underlying src,P.underlying dst,bJ fr x with
   | some _,some (.int k),.int _ n=>some (.int k (k.wrap n),.bf)
   | _,_,_=>none
 | .makeFunc fn first cap=>match fn with
   | .func g=>some (.fn (.func g) (kj fr first.toList) (kj fr cap.toList),.bf)
   | _=>none
 | .makeSlice t l c=>jt P (mi call true false) nx t (bJ fr l) (bJ fr c)
 | .slice t x lo hi mx=>kp (qZ P t (bJ fr x) (lo.map (bJ fr)) (hi.map (bJ fr)) (mx.map (bJ fr)))
 | .fieldAddr t x f=>kp (gR P t (bJ fr x) f)
 | .field t x f=>kp (ti P t (bJ fr x) f)
 | .indexAddr t x i=>match bJ fr i with
   | .int _ n=>kp (fO P t (bJ fr x) n)
   | _=>none
 | .index t x i=>match bJ fr i with
   | .int _ n=>kp (qC P t (bJ fr x) n)
   | _=>none
 | .makeMap t none=>some (.map 0 nx,.push (mi call (tS P t) (.map [])))
 | .lookup t m k ok=>kp (pL P H t (bJ fr m) (bJ fr k) ok)
 | .mapUpdate t m k x | .insert t m k x=>(j6 P H t (bJ fr m) (bJ fr k) (bJ fr x)).map fun δ=>(.tup [],δ)
 | .extract t ix=>match bJ fr t with
   | .tup l=>match l[ix]? with
     | some v=>some (v,.bf)
     | none=>none
   | _=>none
 | .call c=>fT P call fr H nx c
 | _=>none

inductive Want where
 | run | skip | lost
def iy (ops:Array Oper) (fr:ay) (o:Oper):Want :=
 match o.guard with
 | none=>.run
 | some (j,want)=>match (ops[j]?).bind (·.dst) with
   | none=>.lost
   | some d=>match br fr d with
     | .bool b=>if b == want then .run else .skip
     | .tup _=>.skip
     | _=>.lost

def dp (nt:Nat) (fr:ay) (dst:Option Tmp) (v:AV):ay :=
 match dst with
 | some d=>if Nat.blt d nt then uQ fr d v else fr
 | none=>fr

def dK (P:Program) (nt:Nat) (call:aS) (ops:Array Oper):List Oper→ay→aa→Option (ay×aa)
 | [],fr,H=>some (fr,H)
 | o :: r,fr,H=>match iy ops fr o with
   | .lost=>none
   | .skip=>dK P nt call ops r (dp nt fr o.dst (.tup [])) H
   | .run=>match evalOp P call fr H (ao H) o with
     | none=>none
     | some (v,δ)=>dK P nt call ops r (dp nt fr o.dst v) (δ.on H)

inductive Touch where
 | none
 | blk (d i:Nat)
 | all
structure Rec where
 ix:Nat
 reads:Touch
 writes:Option (Nat×Nat)
def cK (fr:ay) (o:Oper):Touch :=
 let at' (v:AV):Touch:=match v with
  | .ptr d i _ _=>.blk d i
  | .slc d i _ _ _ _ _=>.blk d i
  | .map d i=>.blk d i
  | _=>.none
 match o.op with
 | .load _ a=>at' (bJ fr a)
 | .store _ a _=>at' (bJ fr a)
 | .lookup _ m _ _=>at' (bJ fr m)
 | .mapUpdate _ m _ _ | .insert _ m _ _=>at' (bJ fr m)
 | .call c=>match c.callee with
   | .builtin .len=>match c.args.toList with
     | x::_=>match bJ fr x with | .map d i=>.blk d i | _=>.none
     | _=>.all
   | .builtin .min | .builtin .max=>.none
   | _=>.all
 | _=>.none
def c6 (H:aa) (bef:Nat):List Rec→aa
 | []=>H
 | r::l=>match r.writes with
   | some (d,i)=>if bef.testBit r.ix then c6 H bef l else c6 (cA H d i) bef l
   | none=>c6 H bef l
def jv (bef:Nat) (d i:Nat):List Rec→Bool
 | []=>true
 | r::l=>(bef.testBit r.ix || (match r.reads with
   | .none=>true
   | .blk e j=>!(Nat.beq e d && Nat.beq j i)
   | .all=>false)) && jv bef d i l

def gA (o:Oper):Bool :=
 match o.op with
 | .alloc _ | .box _ _ | .buildSlice _ _ _ | .makeSlice _ _ _ | .makeMap _ _=>true
 | .call c=>match c.callee with
   | .builtin .append=>true
   | _=>false
 | _=>false
def cF:List Oper→Nat
 | []=>0
 | o::r=>if gA o then cF r+1 else cF r
def kM:aa→Nat→aa
 | [],_=>[]
 | l::r,k=>{ l with bs:=l.bs++List.replicate k (0,.dead) } :: r
def eY:ak→Bool
 | .dead=>true
 | _=>false
def pH:Nat×ak→Bool
 | (0,.dead)=>true
 | _=>false
def fj (o:Oper):Bool :=
 match o.op with
 | .call c=>match c.callee with
   | .value _=>true
   | _=>false
 | _=>false
def rY (H:aa):Option (Nat×Nat×(Nat×ak))→aa
 | none=>H
 | some (d,i,b)=>dx H d i b
structure uG where
 v:AV
 rd:Touch
 wr:Option (Nat×Nat×(Nat×ak))
def eV (P:Program) (call:aS) (ops:Array Oper) (bef:Nat) (fr:ay) (H:aa) (nx:Nat) (recs:List Rec) (o:Oper):Option uG :=
 match iy ops fr o with
 | .lost=>none
 | .skip=>some ⟨.tup [],.none,none⟩
 | .run =>
   if fj o then match evalOp P call fr (az (c6 H bef recs)) nx o with
    | some (v,_)=>some ⟨v,.all,none⟩
    | none=>none
   else match evalOp P call fr (c6 H bef recs) nx o with
    | some (v,.bf)=>some ⟨v,cK fr o,none⟩
    | some (v,.push b)=>if gA o && !eY b && pH (ar H 0 nx) && !aA H 0 then some ⟨v,cK fr o,some (0,nx,(0,b))⟩ else none
    | some (v,.set d i b)=>if !eY b.2 && (Nat.beq b.1 (ar H d i).1 || Nat.beq b.1 (Nat.succ (ar H d i).1)) && !eY (ar (c6 H bef recs) d i).2 && jv bef d i recs then some ⟨v,cK fr o,some (d,i,b)⟩ else none
    | _=>none

def fG (P:Program) (nt:Nat) (call:aS) (ops:Array Oper) (befs:Array Nat):Nat→List Oper→ay→aa→Nat→List Rec→Option (ay×aa)
 | _,[],fr,H,_,_=>some (fr,H)
 | j,o::r,fr,H,nx,recs=>match eV P call ops (befs.getD j 0) fr H nx recs o with
   | some e=>fG P nt call ops befs (j+1) r (dp nt fr o.dst e.v) (rY H e.wr) (if gA o then nx+1 else nx) (⟨j,e.rd,e.wr.map fun x=>(x.1,x.2.1)⟩::recs)
   | none=>none

def ft (ops:Array Oper) (befs:Array Nat):Bool :=
 ops.toList.zipIdx.all fun (o,j)=>Nat.blt (befs.getD j 0) (2 ^ j) &&
  ops.toList.zipIdx.all fun (q,i) =>
   Nat.beq i j || (match q.dst with
   | none=>true
   | some d=>(o.dst != some d) && (!(o.looksAt ops).contains d || (befs.getD j 0).testBit i || (befs.getD i 0).testBit j))

inductive Ex where
 | normal | exit (id:Nat) | goto (l:Nat) | ret

def Ce:Option Nat→Bool
 | some 0=>true
 | _=>false
def Dt:AV→Bool
 | .int _ _=>true
 | .bool _=>true
 | .nils=>true
 | .slcT none _ _ _ _=>true
 | .ptrT none _ _=>true
 | _=>false
def LJ:Row→Bool
 | .I _ _=>true
 | .F _ _=>true
 | .G l=>l.all Dt
 | .M l=>gd l
def mh (n:Nat):AV→Bool
 | .ptr d i _ _=>Nat.beq d 0 && Nat.ble n i
 | .slc d i _ _ _ _ _=>Nat.beq d 0 && Nat.ble n i
 | .map d i=>Nat.beq d 0 && Nat.ble n i
 | .yld d i=>Nat.beq d 0 && Nat.ble n i
 | .ptrT s r _=>Ce s && !LJ r
 | .slcT s _ _ _ _=>Ce s
 | .agg (.G _)=>true
 | .agg (.M l)=>!gd l
 | .fn _ _ _=>true
 | .tup (_::_)=>true
 | _=>false
def anyM (f:AV→Bool):List aL→Bool
 | []=>false
 | .one v::r=>f v || anyM f r
 | .arr _ _ _::r=>anyM f r
def rZ (n:Nat):AV→Bool
 | .agg (.G l)=>l.any (mh n)
 | .agg (.M l)=>anyM (mh n) l
 | .fn _ a b=>a.any (mh n) || b.any (mh n)
 | .ptrT (some 0) (.M l) _=>anyM (mh n) l
 | v=>mh n v
def QA (n:Nat):Row→Bool
 | .I .. | .F ..=>false
 | .G l=>l.any (rZ n)
 | .M l=>anyM (rZ n) l
def D1 (n:Nat):ak→Bool
 | .dead=>false
 | .row r=>QA n r
 | .map es=>es.any fun e=>rZ n e.1 || rZ n e.2
 | .fmap _ _ _ _=>false
 | .loop _=>true
def cutAt (fr:ay) (l:bm) (r:aa):Nat→Nat→aa
 | 0,_=>l::r
 | k+1,m=>if fr.any (fun x=>rZ m x.2) || (l.bs.take m).any (fun x=>D1 m x.2) then cutAt fr l r k (m+1) else { l with bs:=l.bs.take m } :: r
def l5 (n:Nat) (fr:ay) (H:aa):aa :=
 match H with
 | []=>[]
 | l::r=>if Nat.ble l.bs.length n then H else cutAt fr l r 4 n

def Iq:AV→Bool
 | .ptrT (some 0) (.M l) _=>anyM (mh 0) l
 | v=>mh 0 v
def vk (h:Nat):AV→Bool
 | .ptr d i _ _=>Nat.beq d 0 && Nat.beq i h
 | .slc d i _ _ _ _ _=>Nat.beq d 0 && Nat.beq i h
 | .map d i=>Nat.beq d 0 && Nat.beq i h
 | .yld d i=>Nat.beq d 0 && Nat.beq i h
 | v=>Iq v
def qg (f:AV→Bool) (v:AV):Bool :=
 match v with
 | .agg (.G l)=>l.any f
 | .agg (.M l)=>anyM f l
 | .fn _ a b=>a.any f || b.any f
 | v=>f v
def Lq (f:AV→Bool):Row→Bool
 | .I .. | .F ..=>false
 | .G l=>l.any (qg f)
 | .M l=>anyM (qg f) l
def AG (f:AV→Bool):ak→Bool
 | .dead=>false
 | .row r=>Lq f r
 | .map _=>true
 | .fmap _ _ _ _=>false
 | .loop _=>true
def ve (a b:Nat):AV→AV
 | .ptr d i v off=>if Nat.beq d 0 && Nat.beq i a then .ptr 0 b v off else .ptr d i v off
 | .slc d i v off sz len cap=>if Nat.beq d 0 && Nat.beq i a then .slc 0 b v off sz len cap else .slc d i v off sz len cap
 | .map d i=>if Nat.beq d 0 && Nat.beq i a then .map 0 b else .map d i
 | .yld d i=>if Nat.beq d 0 && Nat.beq i a then .yld 0 b else .yld d i
 | v=>v
def nN (g:AV→AV) (v:AV):AV :=
 match v with
 | .agg (.G l)=>.agg (.G (l.map g))
 | .agg (.M l)=>.agg (.M (mapM' g l))
 | .fn f a b=>.fn f (a.map g) (b.map g)
 | v=>g v
def FN (g:AV→AV):Row→Row
 | .I k l=>.I k l
 | .F f n=>.F f n
 | .G l=>.G (l.map (nN g))
 | .M l=>.M (mapM' (nN g) l)
def qL (g:AV→AV):ak→ak
 | .row r=>.row (FN g r)
 | b=>b
def qM (g:AV→AV):ay→ay
 | []=>[]
 | (x,v)::r=>(x,nN g v)::qM g r
def jV (g:AV→AV):List (Nat×ak)→List (Nat×ak)
 | []=>[]
 | (v,b)::r=>(v,qL g b)::jV g r
def hole (fr:ay) (bs:List (Nat×ak)):Nat→Nat→Option Nat
 | 0,_=>none
 | k+1,m=>if Nat.blt (m+1) bs.length then
    if fr.any (fun x=>qg (vk m) x.2) || ((bs.take m).any (fun x=>AG (vk m) x.2) || (bs.drop (m+1)).any (fun x=>AG (vk m) x.2)) then hole fr bs k (m+1) else some m
   else none
def yh (a b:Nat) (l:bm):bm:={ l with bs:=bI (jV (ve a b) (l.bs.take a)) b ((an l.bs a).1,qL (ve a b) (an l.bs a).2) }
def jF (n:Nat):Nat→ay→aa→ay×aa
 | 0,fr,H=>(fr,H)
 | k + 1,fr,H=>match H with
   | []=>(fr,[])
   | l::r=>match hole fr l.bs 4 n with
     | none=>(fr,l::r)
     | some h=>jF n k (qM (ve (l.bs.length-1) h) fr) (l5 n (qM (ve (l.bs.length-1) h) fr) (yh (l.bs.length-1) h l::r))
def tidy (n:Nat) (fr:ay) (H:aa):ay×aa:=jF n 4 fr (l5 n fr H)

def nL (i ver:Nat) (r:Row):AV→AV
 | .ptr d j v off=>if Nat.beq d 0 && (Nat.beq j i && Nat.beq v ver) then .ptrT none r off else .ptr d j v off
 | .slc d j v off sz len cap=>if Nat.beq d 0 && (Nat.beq j i && (Nat.beq v ver && Nat.ble (off+len*sz) r.len)) then .slcT none (r.sub off (len*sz)) sz len (cap == some len) else .slc d j v off sz len cap
 | v=>v
def pY (i:Nat):AV→Bool
 | .slc d j _ _ _ _ _=>Nat.beq d 0 && Nat.beq j i
 | _=>false
def xo:Row→Bool
 | .I _ _=>true
 | .M [.arr _ _ _]=>true
 | _=>false
def KV (f:AV→Bool):ak→Bool
 | .row r=>Lq f r
 | _=>false
def mQ (i:Nat) (fr:ay) (l:bm):ay×bm :=
 match an l.bs i with
 | (ver,.row r)=>if xo r && (fr.any (fun x=>qg (pY i) x.2) || l.bs.any (fun x=>KV (pY i) x.2)) then (qM (nL i ver r) fr,{ l with bs:=bI (jV (nL i ver r) l.bs) i (ver,.dead) }) else (fr,l)
 | _=>(fr,l)
def jq:Nat→ay→bm→ay×bm
 | 0,fr,l=>(fr,l)
 | n+1,fr,l=>mQ n (jq n fr l).1 (jq n fr l).2
def DL (fr:ay) (H:aa):ay×aa :=
 match H with
 | []=>(fr,[])
 | l::r=>if l.lock then (fr,l::r) else ((jq l.bs.length fr l).1,(jq l.bs.length fr l).2::r)
def eJ:Nat→ay→bm→ay×bm
 | 0,fr,l=>(fr,l)
 | n+1,fr,l=>if (eJ n fr l).1.any (fun x=>qg (pY n) x.2) then eJ n fr l else mQ n (eJ n fr l).1 (eJ n fr l).2
def uV (fr:ay) (H:aa):ay×aa :=
 match H with
 | []=>(fr,[])
 | l::r=>if l.lock then (fr,l::r) else ((eJ l.bs.length fr l).1,(eJ l.bs.length fr l).2::r)
def My (sz:Nat):AV→AV
 | .nils=>.slcT none (.M [.arr .i64 (fun _=>0) 0]) sz 0 false
 | v=>v
def DT (sz:Nat):Nat→List AV→List AV
 | _,[]=>[]
 | 0,v::l=>My sz v::l
 | c+1,v::l=>v::DT sz c l
def vg (c sz:Nat):ak→ak
 | .row (.G l)=>.row (.G (DT sz c l))
 | B=>B
def m6 (c sz:Nat):List (Nat×ak)→List (Nat×ak)
 | []=>[]
 | (v,B)::r=>(v,vg c sz B)::m6 c sz r
def FX (k:Nat) (H:aa):aa :=
 match H with
 | []=>[]
 | l::r=>if l.lock then l::r else { l with bs:=m6 (k % 8) (k / 8) l.bs } :: r
def Cn (s:Nat):ay→Option Nat
 | []=>none
 | (x,v)::r=>if Nat.beq x s then (match v with
   | .slc 0 i _ _ _ _ _=>some i
   | _=>none) else Cn s r
def xm (s:Nat) (fr:ay) (H:aa):ay×aa :=
 match H with
 | []=>(fr,[])
 | l::r=>if l.lock then (fr,l::r) else match Cn s fr with
   | some i=>((mQ i fr l).1,(mQ i fr l).2::r)
   | none=>(fr,l::r)
noncomputable def mR (m:Nat) (fr:ay) (H:aa):ay×aa:=if oC m 4000 then ((DL (bO fr m) H).1,if Nat.beq (Nat.shiftRight m 4003) 0 then (DL (bO fr m) H).2 else FX (Nat.shiftRight m 4003) (DL (bO fr m) H).2) else if oC m 4001 then xm (Nat.shiftRight m 4003) (bO fr m) H else if oC m 4002 then (match br (bO fr m) (Nat.shiftRight m 4003) with | .bool false=>uV (bO fr m) H | _=>(bO fr m,H)) else (bO fr m,H)

def iter (body:ay→aa→Option (Ex×ay×aa)) (n:Nat):Nat→ay→aa→Option (Ex×ay×aa)
 | 0,_,_=>none
 | fu+1,fr,H=>match body fr H with
   | some (.normal,fr,H)=>iter body n fu (tidy n fr H).1 (tidy n fr H).2
   | r=>r

structure Cx where
 P:Program
 call:aS
 fu:Nat
 fn:FuncId
 nt:Nat
 kt:Nat→Nat
 ro:Option (Nat×Nat)
def Cx.here (cx:Cx) (H:aa):Bool :=
 match cx.ro with
 | none=>true
 | some (d,i)=>match ar H d i with
   | (0,.loop _)=>true
   | _=>false

def g6 (fr:ay) (H:aa) (cx:Cx) (params:Array Tmp) (assign body:Code):aa :=
 jo H (.loop { state:=.ready,pending:=none,fn:=cx.fn,nt:=cx.nt,fr,params:=params.toList,assign,body })

def s9:Option Code→Option Ex
 | none=>some .normal
 | some (.exit id)=>some (.exit id)
 | some (.goto l)=>some (.goto l)
 | some .ret=>some .ret
 | _=>none

noncomputable def exec (cx:Cx):Code→ay→aa→Option (Ex×ay×aa)
 | .skip,fr,H=>some (.normal,fr,H)
 | .label _,fr,H=>some (.normal,fr,H)
 | .region id ops draw,fr,H =>
   match (if draw then (if ft ops (Region.before ops) then fG cx.P cx.nt cx.call ops (Region.before ops) 0 ops.toList fr (kM H (cF ops.toList)) (ao H) [] else none) else dK cx.P cx.nt cx.call ops ops.toList fr H) with
   | some (fr,H)=>some (.normal,mR (cx.kt id) fr H)
   | none=>none
 | .seq a b,fr,H=>match exec cx a fr H with
   | some (.normal,fr,H)=>exec cx b fr H
   | r=>r
 | .cond c a b,fr,H=>match bJ fr c with
   | .bool true=>exec cx a fr H
   | .bool false=>exec cx b fr H
   | _=>none
 | .block id b,fr,H=>match exec cx b fr H with
   | some (.exit id',fr,H)=>if Nat.beq id' id then some (.normal,fr,H) else some (.exit id',fr,H)
   | r=>r
 | .loop b,fr,H=>iter (exec cx b) (ao H) cx.fu fr H
 | .rangeFunc f params assign body,fr,H =>
   match bJ fr f with
   | .fn (.func g) a b =>
     if !cx.here H || aA H 0 then none else
     match cx.call (.fn g) (a++(.yld 0 (ao H)::b)) (g6 fr H cx params assign body) with
     | some (_,H1)=>match ar H1 0 (ao H) with
       | (0,.loop l) =>
         if l.state == .busy then none else
         match s9 l.pending with
         | some e=>some (e,fr,cA H1 0 (ao H))
         | none=>none
       | _=>none
     | none=>none
   | _=>none
 | .exit id,fr,H=>some (.exit id,fr,H)
 | .scope b,fr,H=>match exec cx b fr H with
   | some (.goto _,_,_)=>none
   | r=>r
 | .goto l,fr,H=>some (.goto l,fr,H)
 | .ret,fr,H=>some (.ret,fr,H)
 | .refuse _,_,_=>none

def cQ   (bs:List (Nat×ak)):Nat→AV→AV
 | 0,_=>.undef
 | n + 1,v=>match v with
   | .ptr d i ver off=>match d with
     | d+1=>.ptr d i ver off
     | 0 => match an bs i with
       | (w,.row r)=>if Nat.beq w ver then (match r with
         | .I k l=>.ptrT none (.I k l) off
         | .F f m=>.ptrT none (.F f m) off
         | .M l=>if gd l then .ptrT none (.M l) off else .ptrT (some 0) (.M (mapM' (cQ bs n) l)) off
         | .G l=>.ptrT (some 0) (.G (l.map (cQ bs n))) off) else .undef
       | _=>.undef
   | .slc d i ver off sz len cap=>match d with
     | d+1=>.slc d i ver off sz len cap
     | 0 => match an bs i with
       | (w,.row r)=>if Nat.beq w ver∧off+len*sz≤r.len then (match r.sub off (len*sz) with
         | .I k l=>.slcT none (.I k l) sz len (cap == some len)
         | .F f m=>.slcT none (.F f m) sz len (cap == some len)
         | .M l=>if gd l then .slcT none (.M l) sz len (cap == some len) else .slcT (some 0) (.M (mapM' (cQ bs n) l)) sz len (cap == some len)
         | .G l=>.slcT (some 0) (.G (l.map (cQ bs n))) sz len (cap == some len)) else .undef
       | _=>.undef
   | .ptrT s r off=>match s with
     | none=>.ptrT none r off
     | some (s+1)=>.ptrT (some s) r off
     | some 0=>match r with
       | .G l=>.ptrT (some 0) (.G (l.map (cQ bs n))) off
       | .M l=>if gd l then .ptrT none (.M l) off else .ptrT (some 0) (.M (mapM' (cQ bs n) l)) off
       | r=>.ptrT none r off
   | .slcT s r sz len full=>match s with
     | none=>.slcT none r sz len full
     | some (s+1)=>.slcT (some s) r sz len full
     | some 0=>match r with
       | .G l=>.slcT (some 0) (.G (l.map (cQ bs n))) sz len full
       | .M l=>if gd l then .slcT none (.M l) sz len full else .slcT (some 0) (.M (mapM' (cQ bs n) l)) sz len full
       | r=>.slcT none r sz len full
   | .map d i=>match d with
     | d+1=>.map d i
     | 0=>.undef
   | .yld d i=>match d with
     | d+1=>.yld d i
     | 0=>.undef
   | .fn f a b=>.fn f (a.map (cQ bs n)) (b.map (cQ bs n))
   | .agg r=>match r with
     | .G l=>.agg (.G (l.map (cQ bs n)))
     | .M l=>.agg (.M (mapM' (cQ bs n) l))
     | r=>.agg r
   | .tup l=>.tup (l.map (cQ bs n))
   | v=>v

def dv:Nat→List AV→ay
 | _,[]=>[]
 | x,v::l=>(x,gL 1 v)::dv (x+1) l

def eE (P:Program) (fr:ay) (H:aa):List ResultVar→Option (List AV)
 | []=>some []
 | .tmp t::r=>(eE P fr H r).map (br fr t::·)
 | .cell a t::r=>match mZ P H t (br fr a) with
   | some v=>(eE P fr H r).map (v::·)
   | none=>none
def one:List AV→AV
 | [v]=>v
 | l=>.tup l

def kR (nt:Nat) (fr:ay):List Tmp→List AV→Option ay
 | [],[]=>some fr
 | t::ts,v::vs=>if Nat.blt t nt then kR nt (uQ fr t v) ts vs else none
 | _,_=>none

def cR:Ex→Option Code
 | .normal=>none
 | .exit id=>some (.exit id)
 | .goto l=>some (.goto l)
 | .ret=>some .ret

def mc (k:Nat):ay→ay
 | []=>[]
 | (x,v)::r=>(x,gL k v)::mc k r

noncomputable def cH (P:Program) (ora:aS→FuncId→List AV→aa→Option (AV×aa)) (KT:FuncId→Nat→Nat) (fu:Nat):Nat→aS
 | _,.mode,_,_=>(ora (fun _ _ _=>none) 1000000 [] []).map fun _=>(.undef,[])
 | 0,_,_,_=>none
 | n + 1,.fn f,args,H=>match ora (cH P ora KT fu n) f args H with
   | some r=>some r
   | none => match P.funcs[f]? with
     | none=>none
     | some fn=>match fn.body with
       | none=>none
       | some c=>if Nat.ble args.length fn.ntmps then
         match exec ⟨P,cH P ora KT fu n,fu,f,fn.ntmps,KT f,none⟩ c (dv 0 args) (⟨false,[]⟩::H) with
         | some (e,fr,l::H') =>
           (match e with
           | .normal | .ret=>match eE P fr (l::H') fn.results.toList with
             | some vs=>some (cQ l.bs 5 (one vs),H')
             | none=>none
           | _=>none)
         | _=>none
         else none
 | n + 1,.round  d i,args,H=>match ar H d i with
   | (0, .loop l) =>
     if aA H d then none else
     match l.state with
     | .ready => match kR l.nt (mc (d+1) l.fr) l.params (args.map (gL 1)) with
       | some fr => match exec ⟨P,cH P ora KT fu n,fu,l.fn,l.nt,KT l.fn,some (d+1,i)⟩ l.assign fr (⟨false,[]⟩::H) with
         | some (.normal,fr,H1)=>match ar H1 (d+1) i with
           | (0, .loop l1)=>match l1.state with
             | .ready =>
               match exec ⟨P,cH P ora KT fu n,fu,l.fn,l.nt,KT l.fn,some (d+1,i)⟩ l.body fr (dx H1 (d+1) i (0,.loop { l1 with state:=.busy })) with
               | some (e,_,_::H2)=>match ar H2 d i with
                 | (0,.loop l2)=>some (.bool (cR e).isNone,dx H2 d i (0,.loop { l2 with state:=if (cR e).isNone then .ready else .done,pending:=cR e }))
                 | _=>none
               | _=>none
             | _=>none
           | _=>none
         | _=>none
       | none=>none
     | _=>none
   | _=>none

end Go.Eng
