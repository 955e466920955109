/- The engine, part A: abstract values, the abstract heap, the abstract interpreter. No statement is proved here. -/
import Derived.RangeFuncLeaves
import Derived.OrdersIn
import Derived.RangeFuncRecord
namespace Go.Eng
theorem nP:(∀ {α:Type} (a b:α),(some a=some b)=(a=b))∧(∀ {α β:Type} (a c:α) (b d:β),((a,b)=(c,d))=(a=c∧b=d)):=⟨fun _ _=>Option.some.injEq _ _,fun _ _ _ _=>Prod.mk.injEq _ _ _ _⟩

mutual
inductive AV where
 | undef
 | bool (b:Bool)
 | int (k:IntKind) (n:Int)
 | str (s:ByteArray)
 | nilp | nils | nilm | nilf
 | ptr (d i v off:Nat)
 | ptrT (s:Option Nat) (r:Row) (off:Nat)
 | slc (d i v off sz len:Nat) (cap:Option Nat)
 | slcT (s:Option Nat) (r:Row) (sz len:Nat) (full:Bool)
 | map (d i:Nat)
 | yld (d i:Nat)
 | fn (f:Fn) (first cap:List AV)
 | agg (r:Row)
 | tup (l:List AV)
inductive Row where
 | I (k:IntKind) (l:List Int)
 | G (l:List AV)
 | F (f:Nat→AV) (n:Nat)
 | M (l:List aW)
inductive aW where
 | one (v:AV)
 | arr (k:IntKind) (z:Nat→Int) (n:Nat)
end

instance:Inhabited AV:=⟨.undef⟩
instance:Inhabited Row:=⟨.G []⟩

def aI:aW→Nat
 | .one _=>1
 | .arr _ _ n=>n
def aC:List aW→Nat
 | []=>0
 | s::r=>aI s+aC r
def getM:List aW→Nat→AV
 | [],_=>.undef
 | .one v::_,0=>v
 | .one _::r,j+1=>getM r j
 | .arr k z n::r,j=>if j<n then .int k (z j) else getM r (j-n)
def mapM' (f:AV→AV):List aW→List aW
 | []=>[]
 | .one v::r=>.one (f v)::mapM' f r
 | .arr k z n::r=>.arr k z n::mapM' f r
def fX:List aW→Bool
 | []=>true
 | .one _::_=>false
 | .arr _ _ _::r=>fX r
def Row.len:Row→Nat
 | .I _ l=>l.length
 | .G l=>l.length
 | .F _ n=>n
 | .M l=>aC l
def Row.get:Row→Nat→AV
 | .I k l,j=>.int k (l.getD j 0)
 | .G l,j=>l.getD j .undef
 | .F f _,j=>f j
 | .M l,j=>getM l j

def dD (g:Nat→AV):Nat→Nat→List AV
 | _,0=>[]
 | o,n+1=>g o::dD g (o+1) n
def Row.toList:Row→List AV
 | .I k l=>l.map (.int k)
 | .G l=>l
 | .F f n=>dD f 0 n
 | .M l=>dD (getM l) 0 (aC l)
def Row.ints:Row→Option (IntKind×(Nat→Int))
 | .I k l=>some (k,fun j=>l.getD j 0)
 | .M [.arr k z _]=>some (k,z)
 | _=>none
def yF:Row→Bool
 | .M _=>true
 | _=>false
def qC:List AV→List aW→List aW
 | [],r=>r
 | v::l,r=>.one v::qC l r
def kd:List aW→Nat→AV→List aW
 | [],_,_=>[]
 | .one _::r,0,v=>.one v::r
 | .one u::r,j+1,v=>.one u::kd r j v
 | .arr k z n::r,j,v=>if j<n then (match v with
    | .int k' x=>if k'=k then .arr k (fun i=>if i=j then x else z i) n::r else qC (dD (fun i=>if i=j then v else .int k (z i)) 0 n) r
    | _=>qC (dD (fun i=>if i=j then v else .int k (z i)) 0 n) r)
   else .arr k z n::kd r (j-n) v
def xS:List Int→Bool
 | []=>true
 | x::l=>x == 0 && xS l
def Nw (l:List Int):Nat→Int:=if xS l then fun _=>0 else fun j=>l.getD j 0
def dc (k:IntKind):List AV→List Int×List AV
 | .int k' n::r=>if k'=k then (match dc k r with | (a,b)=>(n::a,b)) else ([],.int k' n::r)
 | l=>([],l)
def iE:Nat→List AV→List aW
 | 0,l=>qC l []
 | _,[]=>[]
 | f+1,.int k n::r=>match dc k r with
   | (a,b)=>if Nat.ble 7 a.length then .arr k (Nw (n::a)) (a.length+1)::iE f b else .one (.int k n)::iE f r
 | f+1,v::r=>.one v::iE f r

def th (k:IntKind):List AV→Option (List Int)
 | []=>some []
 | .int k' n::r=>if k'=k then (th k r).map (n::·) else none
 | _=>none
def Row.ofList:List AV→Row
 | .int k n::r=>match th k r with
   | some l=>.I k (n::l)
   | none=>.G (.int k n::r)
 | l=>.G l

def lL:List aW→Nat→Nat→Option (IntKind×(Nat→Int))
 | [],_,_=>none
 | .one _::r,o+1,n=>lL r o n
 | .one _::_,0,_=>none
 | .arr k z m::r,o,n=>if o+n≤m then some (k,fun j=>z (o+j)) else if m≤o then lL r (o-m) n else none
def Row.sub (r:Row) (o n:Nat):Row :=
 match r with
 | .I k l=>.I k ((l.drop o).take n)
 | .G l=>.G ((l.drop o).take n)
 | .F f _=>.F (fun j=>f (o+j)) n
 | .M [.arr k z _]=>.M [.arr k (fun j=>z (o+j)) n]
 | .M l=>if Nat.beq o 0 && Nat.beq (aC l) n then .M l else match lL l o n with
   | some (k,z)=>.M [.arr k z n]
   | none=>.G (dD (getM l) o n)

def im:AV→Bool
 | .undef | .bool _ | .int _ _ | .str _ | .nilp | .nils | .nilm | .nilf=>true
 | .ptrT s _ _=>s.isNone
 | .slcT s _ _ _ _=>s.isNone
 | .agg (.I ..) | .agg (.F ..)=>true
 | .agg (.M l)=>fX l
 | _=>false

def Row.cut (r:Row) (o n:Nat):Row :=
 match r with
 | .G l=>Row.ofList ((l.drop o).take n)
 | .M l=>if Nat.ble n 8 then Row.ofList (dD (getM l) o n) else if Nat.beq o 0 && Nat.beq (aC l) n then .M l else (Row.M l).sub o n
 | r=>r.sub o n

def Row.set (r:Row) (j:Nat) (v:AV):Row :=
 match r,v with
 | .I k l,.int k' n=>if k'=k then .I k (l.set j n) else .G ((l.map (.int k)).set j v)
 | .I k l,v=>.G ((l.map (.int k)).set j v)
 | .G l,v=>.G (l.set j v)
 | .F f n,v=>.F (fun i=>if i=j then (if im v then v else .undef) else f i) n
 | .M l,v=>.M (kd l j v)
def Row.cH (r:Row) (j:Nat):List AV→Row
 | []=>r
 | v::l=>(r.set j v).cH (j+1) l
def Row.uq (r s:Row):Option Row :=
 match r.ints,s.ints with
 | some (k,z),some (k',z')=>if k'=k then some (.M [.arr k (fun i=>if i<r.len then z i else z' (i-r.len)) (r.len+s.len)]) else none
 | _,_=>none
def nK:AV→AV
 | .slcT none (.I k l) sz m _=>.slcT none (.M [.arr k (fun j=>l.getD j 0) l.length]) sz m false
 | .slcT none (.M [.arr k z n]) sz m _=>.slcT none (.M [.arr k z n]) sz m false
 | v=>v
def rl (n i:Nat):Nat:=if Nat.beq n 1 then 0 else i
def Row.app (r s:Row):Row :=
 match r,s with
 | .M l,s=>(match (Row.M l).uq s with | some q=>q | none=>.G ((Row.M l).toList++s.toList))
 | .I k l,.M m=>(match (Row.I k l).uq (.M m) with | some q=>q | none=>.G ((Row.I k l).toList++(Row.M m).toList))
 | .I k l,.I k' l'=>if k'=k then .I k (l++l') else .G (l.map (.int k)++l'.map (.int k'))
 | .F f n,s=>.F (fun i=>if Nat.blt i n then f i else if im (s.get (rl s.len (i-n))) then nK (s.get (rl s.len (i-n))) else .undef) (n+s.len)
 | r,s=>.G (r.toList++s.toList)

def oJ (k:Nat):AV→AV
 | .ptr d i v off=>.ptr (d+k) i v off
 | .ptrT s r off=>.ptrT (s.map (· + k)) r off
 | .slc d i v off sz len cap=>.slc (d+k) i v off sz len cap
 | .slcT s r sz len full=>.slcT (s.map (· + k)) r sz len full
 | .map d i=>.map (d+k) i
 | .yld d i=>.yld (d+k) i
 | .agg (.I a l)=>.agg (.I a l)
 | .fn _ _ _ | .agg _ | .tup (_::_)=>.undef
 | v=>v
def Nh (k:Nat) (v:AV):AV :=
 match v with
 | .fn f a b=>.fn f (a.map (oJ k)) (b.map (oJ k))
 | .agg (.G l)=>.agg (.G (l.map (oJ k)))
 | .agg (.M l)=>.agg (.M (mapM' (oJ k) l))
 | .agg r=>.agg r
 | v=>oJ k v
def gF (k:Nat) (v:AV):AV :=
 match k with
 | 0=>v
 | k+1=>Nh (k+1) v
def Bg (k:Nat):Row→Row
 | .I a l=>.I a l
 | .G l=>.G (l.map (oJ k))
 | .F f n=>.F f n
 | .M l=>.M (mapM' (oJ k) l)
def Bf (k:Nat) (r:Row):Row :=
 match k with
 | 0=>r
 | k+1=>Bg (k+1) r
def kS:Nat→Nat→AV→AV
 | 0,_,_=>.undef
 | n + 1,k,v=>match v with
   | .ptr d i v off=>if Nat.blt d k then .undef else .ptr (d-k) i v off
   | .ptrT none r off=>.ptrT none r off
   | .ptrT (some s) r off=>if Nat.blt s k then (match r with
     | .G l=>.ptrT (some 0) (.G (l.map (kS n (k-s)))) off
     | .M l=>if fX l then .ptrT none (.M l) off else .ptrT (some 0) (.M (mapM' (kS n (k-s)) l)) off
     | r=>.ptrT none r off) else .ptrT (some (s-k)) r off
   | .slc d i v off sz len cap=>if Nat.blt d k then .undef else .slc (d-k) i v off sz len cap
   | .slcT none r sz len full=>.slcT none r sz len full
   | .slcT (some s) r sz len full=>if Nat.blt s k then (match r with
     | .G l=>.slcT (some 0) (.G (l.map (kS n (k-s)))) sz len full
     | .M l=>if fX l then .slcT none (.M l) sz len full else .slcT (some 0) (.M (mapM' (kS n (k-s)) l)) sz len full
     | r=>.slcT none r sz len full) else .slcT (some (s-k)) r sz len full
   | .map d i=>if Nat.blt d k then .undef else .map (d-k) i
   | .yld d i=>if Nat.blt d k then .undef else .yld (d-k) i
   | .agg (.I a l)=>.agg (.I a l)
   | .fn _ _ _ | .agg _ | .tup (_::_)=>.undef
   | v=>v
def Lb (k:Nat) (v:AV):AV :=
 match v with
 | .fn f a b=>.fn f (a.map (kS 4 k)) (b.map (kS 4 k))
 | .agg (.G l)=>.agg (.G (l.map (kS 4 k)))
 | .agg (.M l)=>.agg (.M (mapM' (kS 4 k) l))
 | .agg r=>.agg r
 | v=>kS 4 k v
def N0 (k:Nat) (v:AV):AV :=
 match k with
 | 0=>v
 | k+1=>Lb (k+1) v
def wB (k:Nat):Row→Row
 | .I a l=>.I a l
 | .G l=>.G (l.map (kS 4 k))
 | .F f n=>.F f n
 | .M l=>.M (mapM' (kS 4 k) l)

def jz (k:Nat) (r:Row):Row :=
 match k with
 | 0=>r
 | k+1=>wB (k+1) r

abbrev av:=List (Nat×AV)
def br:av→Nat→AV
 | [],_=>.undef
 | (x,v)::r,y=>if Nat.beq x y then v else br r y
def uv:av→Nat→AV→av
 | [],y,u=>[(y,u)]
 | (x,v)::r,y,u=>if Nat.ble y x then (if Nat.beq x y then (y,u)::r else (y,u)::(x,v)::r) else (x,v)::uv r y u
def oo (m x:Nat):Bool:=Nat.beq (Nat.land (Nat.shiftRight m x) 1) 1
noncomputable def bO (fr:av) (m:Nat):av:=List.rec (motive:=fun _=>av) [] (fun p _ ih=>Prod.rec (motive:=fun _=>av) (fun x _=>Bool.rec (motive:=fun _=>av) (p::ih) ih (Nat.beq (Nat.land (Nat.shiftRight m x) 1) 1)) p) fr

structure ma where
 state:LoopState
 pending:Option Code
 fn:FuncId
 nt:Nat
 fr:av
 params:List Tmp
 assign:Code
 body:Code

inductive KK where
 | num (k:IntKind)
 | str (n:Nat)
inductive ak where
 | dead
 | row (r:Row)
 | map (es:List (AV×AV))
 | fmap (q:KK) (h:List Int→Bool) (g:List Int→Int) (c:Nat)
 | loop (l:ma)

structure bn where
 lock:Bool
 bs:List (Nat×ak)
abbrev aa:=List bn

def ao:List (Nat×ak)→Nat→Nat×ak
 | [],_=>(0,.dead)
 | b::_,0=>b
 | _::r,i+1=>ao r i
def bH:List (Nat×ak)→Nat→Nat×ak→List (Nat×ak)
 | [],_,_=>[]
 | _::r,0,x=>x::r
 | b::r,i+1,x=>b::bH r i x
def au:aa→Nat→Nat→Nat×ak
 | [],_,_=>(0,.dead)
 | l::_,0,i=>ao l.bs i
 | _::r,d+1,i=>au r d i
def aA:aa→Nat→Bool
 | [],_=>true
 | l::_,0=>l.lock
 | _::r,d+1=>aA r d
def dB:aa→Nat→Nat→Nat×ak→aa
 | [],_,_,_=>[]
 | l::r,0,i,x=>{ l with bs:=bH l.bs i x } :: r
 | l::r,d+1,i,x=>l::dB r d i x
def cC (H:aa) (d i:Nat):aa:=dB H d i ((au H d i).1,.dead)
def ji:aa→ak→aa
 | [],b=>[⟨false,[(0,b)]⟩]
 | l::r,b=>{ l with bs:=l.bs++[(0,b)] } :: r
def bt:aa→Nat→ak→aa
 | [],_,_=>[]
 | l::r,0,b=>{ l with bs:=l.bs++[(0,b)] } :: r
 | l::r,d+1,b=>l::bt r d b
def ai:aa→Nat→Nat
 | [],_=>0
 | l::_,0=>l.bs.length
 | _::r,d+1=>ai r d
def aq:aa→Nat
 | []=>0
 | l::_=>l.bs.length
def az:aa→aa
 | []=>[]
 | l::r=>{ l with lock:=true } :: az r

def di (H:aa) (d i v:Nat):Option Row :=
 match au H d i with
 | (ver,.row r)=>if Nat.beq ver v then some r else none
 | _=>none

def sI:Value→AV
 | .bool b=>.bool b
 | .int k n=>.int k n
 | .string s=>.str s
 | .pointer none=>.nilp
 | .slice none 0 0=>.nils
 | .map none=>.nilm
 | .nilFunc=>.nilf
 | _=>.undef
def ld:Value→AV
 | .bool b=>.bool b
 | .int k n=>.int k n
 | .string s=>.str s
 | .pointer none=>.nilp
 | .slice none 0 0=>.nils
 | .map none=>.nilm
 | .nilFunc=>.nilf
 | .func (.func f) ca cb=>if ca.isEmpty && cb.isEmpty then .fn (.func f) [] [] else .undef
 | .agg cs=>if cs.toList.all Value.oneCell' then .agg (Row.ofList (cs.toList.map sI)) else .undef
 | .tuple cs=>if cs.isEmpty then .tup [] else .undef
 | _=>.undef

def bI (fr:av):Operand→AV
 | .tmp t=>br fr t
 | .const v=>ld v
 | .global _=>.undef
 | .func f=>.fn (.func f) [] []

def AV.row:AV→Option Row
 | .agg r=>some r
 | .int k n=>some (.I k [n])
 | .undef | .tup _=>none
 | v=>some (.G [v])

def ft (P:Program) (t:TypeId):Option Bool :=
 match P.underlying t with
 | some (.struct _) | some (.array _ _)=>some true
 | some _=>some false
 | none=>none
def bm (P:Program) (t:TypeId):Option Nat:=(P.info? t).map (·.size)
def cL (P:Program) (t:TypeId):Option AV:=((P.info? t).bind (·.zero)).map ld

inductive Delta where
 | bc
 | push (b:ak)
 | set (d i:Nat) (b:Nat×ak)
 | heap (H:aa)
def Delta.on (δ:Delta) (H:aa):aa :=
 match δ with
 | .bc=>H
 | .push b=>ji H b
 | .set d i b=>dB H d i b
 | .heap H=>H

inductive Nm where
 | fn (f:FuncId)
 | round (d i:Nat)
 | mode
abbrev aL:=Nm→List AV→aa→Option (AV×aa)

def iy (op:BinOp) (k:IntKind) (x y:Int):Option AV :=
 match op with
 | .add=>some (.int k (k.wrap (x+y)))
 | .sub=>some (.int k (k.wrap (x-y)))
 | .mul=>some (.int k (k.wrap (x*y)))
 | .quo=>if y=0 then none else some (.int k (k.wrap (x.tdiv y)))
 | .rem=>if y=0 then none else some (.int k (x.tmod y))
 | .and=>some (.int k (k.wrap (BitVec.ofInt k.bits x &&& BitVec.ofInt k.bits y).toNat))
 | .or=>some (.int k (k.wrap (BitVec.ofInt k.bits x ||| BitVec.ofInt k.bits y).toNat))
 | .xor=>some (.int k (k.wrap (BitVec.ofInt k.bits x ^^^ BitVec.ofInt k.bits y).toNat))
 | .andNot=>some (.int k (k.wrap (BitVec.ofInt k.bits x &&& ~~~(BitVec.ofInt k.bits y)).toNat))
 | .eql=>some (.bool (x == y))
 | .neq=>some (.bool (x != y))
 | .lss=>some (.bool (x<y))
 | .leq=>some (.bool (x≤y))
 | .gtr=>some (.bool (x > y))
 | .geq=>some (.bool (x≥y))
 | _=>none

def gm (P:Program) (g:TypeId→Option Nat) (off:Nat):List Field→Option Nat
 | []=>some off
 | f::fs=>if f.name != "_" && Nat.beq f.offset off then (match g f.type with
   | some s=>gm P g (off+s) fs
   | none=>none) else none
def cq (P:Program):Nat→TypeId→Option Nat
 | 0,_=>none
 | n + 1,t=>match P.underlying t with
   | some (.int _)=>if bm P t=some 1 then some 1 else none
   | some (.array len e)=>match cq P n e with
     | some s=>if bm P t=some (len*s) then some (len*s) else none
     | none=>none
   | some (.struct fs)=>if P.stoodInHeld t then none else match gm P (cq P n) 0 fs.toList with
     | some s=>if bm P t=some s then some s else none
     | none=>none
   | _=>none

def fp:List Int→List Int→Bool
 | [],[]=>true
 | x::a,y::b=>(x == y) && fp a b
 | _,_=>false

def allEq (z z':Nat→Int):Nat→Bool
 | 0=>true
 | n+1=>allEq z z' n && (z n == z' n)
def KF (P:Program) (t:TypeId) (r s:Row):Option Bool :=
 match r.ints,s.ints with
 | some (k,z),some (k',z')=>if k=k'∧cq P 20 t=some r.len∧ft P t=some true∧r.len=s.len then some (allEq z z' r.len) else none
 | _,_=>none
def Af (P:Program) (t:TypeId) (x y:AV):Option Bool :=
 match x,y with
 | .bool a,.bool b=>(match P.underlying t with | some .bool=>some (a == b) | _=>none)
 | .nils,.nils | .nils,.slcT .. | .nils,.slc .. | .slcT ..,.nils | .slc ..,.nils =>
   (match P.underlying t with
   | some (.slice _)=>(match x,y with
     | .nils,.nils=>some true
     | .nils,.slcT _ _ _ n _=>if 0<n then some false else none
     | .slcT _ _ _ n _,.nils=>if 0<n then some false else none
     | _,_=>some false)
   | _=>none)
 | .nilp,.nilp | .nilp,.ptr .. | .nilp,.ptrT .. | .ptr ..,.nilp | .ptrT ..,.nilp =>
   (match P.underlying t with
   | some (.pointer _)=>some (match x,y with | .nilp,.nilp=>true | _,_=>false)
   | _=>none)
 | .agg (.I k a),.agg (.I k' b)=>if k=k'∧cq P 20 t=some a.length∧ft P t=some true∧a.length=b.length then some (fp a b) else none
 | .agg (.M l),.agg s=>KF P t (.M l) s
 | .agg (.I k a),.agg (.M l)=>KF P t (.I k a) (.M l)
 | _,_=>none

def kn (P:Program) (op:BinOp) (t:TypeId) (x y:AV):Option AV :=
 match op,x,y with
 | .shl,.int k a,.int _ b=>if b<0 then none else some (.int k (k.wrap (a*2 ^ (min b.toNat k.bits))))
 | .shr,.int k a,.int _ b=>if b<0 then none else some (.int k (a.fdiv (2 ^ (min b.toNat k.bits))))
 | op,.int k a,.int k' b=>if k=k' then iy op k a b else none
 | .eql,x,y=>(Af P t x y).map .bool
 | .neq,x,y=>(Af P t x y).map fun b=>.bool (!b)
 | _,_,_=>none

def Nd (op:UnOp) (x:AV):Option AV :=
 match op,x with
 | .not,.bool b=>some (.bool !b)
 | .neg,.int k n=>some (.int k (k.wrap (0-n)))
 | _,_=>none

def oC {α:Type} (l:List α):Nat→List α
 | 0=>[]
 | n+1=>l++oC l n
def eu (z:Row) (n:Nat):Row :=
 match z with
 | .I k l=>.I k (oC l n)
 | z=>.G (oC z.toList n)
def Ey (l:List AV) (n:Nat):Row :=
 match l with
 | [v]=>if im v then .F (fun _=>v) n else .G (oC l n)
 | l=>.G (oC l n)
def dQ (z:Row) (n:Nat):Row :=
 match z with
 | .I k l=>if xS l then .M [.arr k (fun _=>0) (n*l.length)] else .I k (oC l n)
 | z=>Ey z.toList n
def jE (r:Row):Row :=
 match r with
 | .I k l=>if Nat.ble 8 l.length then .M [.arr k (Nw l) l.length] else .I k l
 | .G l=>if (iE l.length l).length == l.length then .G l else .M (iE l.length l)
 | r=>r
def rJ (z:Nat→Int) (off:Nat) (z':Nat→Int) (n:Nat):Nat→Int:=fun i=>if off≤i∧i<off+n then z' (i-off) else z i
def zy:List aW→Nat→Nat→List aW→Option (List aW)
 | [],_,_,_=>none
 | .one v::r,o+1,n,q=>(zy r o n q).map (.one v::·)
 | .one _::_,0,_,_=>none
 | .arr k z m::r,o,n,q=>if Nat.beq o 0 && Nat.beq m n then some (q++r) else if Nat.ble m o then (zy r (o-m) n q).map (.arr k z m::·) else none
def IS (q:Row):Option (List aW) :=
 match jE q with
 | .M l=>some l
 | _=>none
def xl (l:List aW) (off:Nat) (q:Row):Row :=
 if Nat.ble 9 q.len then (match IS q with
  | some qs=>if Nat.beq off 0 && Nat.beq (aC l) q.len then .M qs else (match zy l off q.len qs with
    | some l'=>.M l'
    | none=>(Row.M l).cH off q.toList)
  | none=>(Row.M l).cH off q.toList)
 else (Row.M l).cH off q.toList
def j9 (r:Row) (off:Nat) (q:Row):Row :=
 match r with
 | .M l=>(match l with
   | [.arr k z m]=>(match q with
     | .M [.arr k' z' n]=>if k'=k then .M [.arr k (rJ z off z' n) m] else xl l off q
     | _=>xl l off q)
   | _=>xl l off q)
 | r=>r.cH off q.toList
def rk:AV→Bool
 | .slcT none (.M [.arr _ _ _]) _ _ _=>true
 | .slcT none (.I _ _) _ _ _=>true
 | _=>false
def rK (sy:Bool) (r:Row):Row :=
 match r with
 | .I k l=>if sy then .M [.arr k (fun j=>l.getD j 0) l.length] else .I k l
 | .G [v]=>if sy && rk v then .F (fun _=>nK v) 1 else .G [v]
 | r=>r
def sV (place:Nat→Option (Nat×Nat)) (r:Row):List (Nat×AV)→Option Row
 | []=>some r
 | (i,v)::rest=>match place i with
   | none=>none
   | some (off,size)=>match v.row with
     | some q=>if q.len=size∧off+q.len≤r.len then sV place (r.cH off q.toList) rest else none
     | none=>none

def iG (P:Program) (t:TypeId) (r:Row) (off:Nat):Option AV :=
 match ft P t,bm P t with
 | some true,some n=>if off+n≤r.len then some (.agg (r.cut off n)) else none
 | some false,_=>if off<r.len then some (r.get off) else none
 | _,_=>none

def QE (s:Option Nat) (v:AV):AV :=
 match s with
 | none=>v
 | some k=>gF k v

def mQ (P:Program) (H:aa) (t:TypeId) (a:AV):Option AV :=
 match a with
 | .ptr d i v off=>match di H d i v with
   | some r=>(iG P t r off).map (gF d)
   | none=>none
 | .ptrT s r off=>(iG P t r off).map (QE s)
 | _=>none

def gy (P:Program) (H:aa) (t:TypeId) (a x:AV):Option Delta :=
 match a with
 | .ptr d i v off =>
   if aA H d then none else
   match di H d i v,bm P t,x.row with
   | some r,some n,some q =>
     if q.len=n∧off+n≤r.len then
      match d,x with
      | d+1,.slc 0 j w o sz len cap=>if aA H 0 then none else match di H 0 j w with
        | some q=>some (.heap (bt (dB (cC H 0 j) (d+1) i (v,.row (r.set off (.slc 0 (ai H (d+1)) 0 o sz len cap)))) (d+1) (.row (jz (d+1) q))))
        | none=>none
      | _,_=>some (.set d i (v,.row (j9 r off (jz d q))))
     else none
   | _,_,_=>none
 | _=>none

def lI (P:Program):List Field→Option (List (Nat×Nat))
 | []=>some []
 | f::fs=>match bm P f.type,lI P fs with
   | some n,some l=>some ((f.offset,n)::l)
   | _,_=>none

def wk (P:Program) (sy:Bool) (t:TypeId) (parts:List (Nat×AV)):Option AV :=
 match cL P t,P.underlying t with
 | some (.agg z),some (.struct fs)=>match lI P fs.toList with
   | some l=>(sV (fun i=>l[i]?) (if sy then jE z else z) parts).map .agg
   | none=>none
 | some (.agg z),some (.array _ e)=>match bm P e with
   | some n=>(sV (fun i=>some (i*n,n)) (if sy then jE z else z) parts).map .agg
   | none=>none
 | _,_=>none

def kU (a:AV) (n:Nat):Option AV :=
 match a with
 | .ptr d i v off=>some (.ptr d i v (off+n))
 | .ptrT s r off=>some (.ptrT s r (off+n))
 | _=>none

def gL (P:Program) (t:TypeId) (a:AV) (f:Nat):Option AV :=
 match P.underlying t with
 | some (.struct fs)=>match fs[f]? with
   | some g=>match bm P g.type with
     | some (_+1)=>kU a g.offset
     | _=>none
   | none=>none
 | _=>none

def fL (P:Program) (t:TypeId) (x:AV) (i:Int):Option AV :=
 match P.underlying t,x with
 | some (.array n e),x=>match bm P e with
   | some z=>if 0≤i∧i<n then kU x (i.toNat*z) else none
   | none=>none
 | some (.slice e),.slc d j v off sz len _ =>
   if 0≤i∧i<len∧bm P e=some sz then some (.ptr d j v (off+i.toNat*sz)) else none
 | some (.slice e),.slcT s r sz len _ =>
   if 0≤i∧i<len∧bm P e=some sz then some (.ptrT s r (i.toNat*sz)) else none
 | _,_=>none

def ql (P:Program) (t:TypeId) (x:AV) (i:Int):Option AV :=
 match P.underlying t,x with
 | some (.array n e),.agg r=>match bm P e with
   | some z=>if 0≤i∧i<n then iG P e r (i.toNat*z) else none
   | none=>none
 | some .string,.str s=>if 0≤i then (match s[i.toNat]? with
   | some b=>some (.int .u8 b.toNat)
   | none=>none) else none
 | _,_=>none

def sU (P:Program) (t:TypeId) (x:AV) (f:Nat):Option AV :=
 match P.underlying t,x with
 | some (.struct fs),.agg r=>match fs[f]? with
   | some g=>iG P g.type r g.offset
   | none=>none
 | _,_=>none

def bound (o:Option AV) (dflt top:Nat):Option Nat :=
 match o with
 | none=>some dflt
 | some (.int _ i)=>if 0≤i∧i≤top then some i.toNat else none
 | some _=>none

def eF (lo hi mx:Option AV) (len:Nat):Option (Nat×Nat×Option Nat) :=
 match mx with
 | none=>match bound hi len len with
   | some h=>match bound lo 0 h with
     | some l=>some (l,h,none)
     | none=>none
   | none=>none
 | some a=>match bound (some a) 0 len with
   | some m=>if hi.isSome then (match bound hi len m with
     | some h=>match bound lo 0 h with
       | some l=>some (l,h,some m)
       | none=>none
     | none=>none) else none
   | none=>none

def qK (P:Program) (t:TypeId) (x:AV) (lo hi mx:Option AV):Option AV :=
 match P.underlying t,x with
 | some (.slice e),.slc d j v off sz len cap =>
   match eF lo hi mx len with
   | some (l,h,mm)=>if bm P e=some sz then
      some (.slc d j v (off+l*sz) sz (h-l) (match mm with | none=>cap.map (· - l) | some m=>some (m-l))) else none
   | none=>none
 | some (.slice e),.slcT s r sz len full =>
   match eF lo hi mx len with
   | some (l,h,mm)=>if bm P e=some sz∧l*sz+(h-l)*sz≤r.len then
      some (.slcT s (r.sub (l*sz) ((h-l)*sz)) sz (h-l) (match mm with | none=>full && Nat.beq h len | some m=>Nat.beq h m)) else none
   | none=>none
 | some (.slice e),.nils =>
   match eF lo hi mx 0,bm P e with
   | some _,some _=>some .nils
   | _,_=>none
 | some (.array n e),.ptr d j v off =>
   match eF lo hi mx n with
   | some (l,h,mm)=>match bm P e with
     | some sz=>some (.slc d j v (off+l*sz) sz (h-l) (match mm with | none=>some (n-l) | some m=>some (m-l)))
     | none=>none
   | none=>none
 | _,_=>none

def uE (P:Program) (H:aa) (t:TypeId) (x:AV):Option Int :=
 match P.underlying t,x with
 | some (.array n _),_=>some n
 | some (.slice _),.nils=>some 0
 | some (.slice _),.slc _ _ _ _ _ len _=>some len
 | some (.slice _),.slcT _ _ _ len _=>some len
 | some (.map _ _),.nilm=>some 0
 | some (.map _ _),.map d i=>match au H d i with
   | (0,.map es)=>some es.length
   | (0,.fmap _ _ _ c)=>some c
   | _=>none
 | _,_=>none

def Jn (P:Program) (t:TypeId) (x:AV):Option Int :=
 match P.underlying t,x with
 | some (.slice _),.nils=>some 0
 | some (.slice _),.slc _ _ _ _ _ _ (some c)=>some c
 | _,_=>none

def eO (H:aa) (sz n:Nat) (x:AV):Option Row :=
 match x with
 | .nils=>if n=0 then some (.G []) else none
 | .slc d i v off sz' len _=>match di H d i v with
   | some r=>if sz'=sz∧n≤len∧off+n*sz≤r.len then some (Bf d (r.sub off (n*sz))) else none
   | none=>none
 | .slcT s r sz' len _=>if sz'=sz∧n≤len∧n*sz≤r.len then some (match s with | none=>r.sub 0 (n*sz) | some k=>Bf k (r.sub 0 (n*sz))) else none
 | _=>none
def og:AV→Option Nat
 | .nils=>some 0
 | .slc _ _ _ _ _ len _=>some len
 | .slcT _ _ _ len _=>some len
 | _=>none

def room:Nat:=2 ^ 46

def DY (P:Program) (sy:Bool) (nx:Nat) (e:TypeId) (s x:AV):Option (AV×Delta) :=
 match P.info? e,s,x with
 | some inf,.nils,.int _ k =>
   if 0≤k∧k.toNat≤room∧k.toNat*inf.bytes≤room∧0<inf.size∧((cL P e).bind AV.row).map Row.len=some inf.size then
    (if k=0 then some (.nils,.bc) else some (.slc 0 nx 0 0 inf.size k.toNat none,.push (.row (rK sy (.I .i64 [])))))
   else none
 | _,_,_=>none
def oR      (P:Program) (sy:Bool) (H:aa) (nx:Nat) (t u:TypeId) (s x:AV):Option (AV×Delta) :=
 match P.underlying t,P.underlying u with
 | some (.slice e),some (.int _)=>DY P sy nx e s x
 | some (.slice e),some (.slice _) =>
   match P.info? e,og s,og x with
   | some inf,some m,some n =>
     if n=0 then (match s,x with
      | .nils,_=>some (s,.bc)
      | .slc ..,_=>some (s,.bc)
      | .slcT ..,_=>some (s,.bc)
      | _,_=>none)
     else if (m+n)*inf.bytes≤room∧(m+n)≤room∧0<inf.bytes∧((cL P e).bind AV.row).map Row.len=some inf.size then
      match eO H inf.size n x with
      | none=>none
      | some new =>
        match s with
        | .nils=>some (.slc 0 nx 0 0 inf.size n none,.push (.row (rK sy new)))
        | .slcT _ _ _ _ true=>match eO H inf.size m s with
          | some old=>some (.slc 0 nx 0 0 inf.size (m+n) none,.push (.row (rK sy (old.app new))))
          | none=>none
        | .slc d i v off sz _ (some c) =>
          if c<m+n then
           match eO H inf.size m s with
           | some old=>some (.slc 0 nx 0 0 inf.size (m+n) none,.push (.row (rK sy (old.app new))))
           | none=>none
          else if aA H d then none else
           match di H d i v with
           | some r=>if sz=inf.size∧off+(m+n)*sz≤r.len then
              some (.slc d i v off sz (m+n) (some c),.set d i (v,.row (r.cH (off+m*sz) (jz d new).toList)))
             else none
           | none=>none
        | .slc d i v off sz _ none =>
          if aA H d then none else
          match di H d i v with
          | some r=>if sz=inf.size∧off+m*sz=r.len then
             some (.slc d i (v+1) 0 sz (m+n) none,.set d i (v+1,.row ((r.sub off (m*sz)).app (jz d new))))
            else none
          | none=>none
        | _=>none
     else none
   | _,_,_=>none
 | _,_=>none

def copyV (P:Program) (H:aa) (t:TypeId) (s x:AV):Option (AV×Delta) :=
 match P.underlying t with
 | some (.slice e) =>
   match bm P e,og s,og x with
   | some z,some m,some n =>
     match eO H z (min n m) x with
     | none=>none
     | some new =>
       match s with
       | .nils=>some (.int .i64 (min n m:Nat),.bc)
       | .slc d i v off sz _ _ =>
         if aA H d then none else
         match di H d i v with
         | some r=>if sz=z∧off+(min n m)*sz≤r.len then
            some (.int .i64 (min n m:Nat),.set d i (v,.row (j9 r off (jz d new))))
           else none
         | none=>none
       | _=>none
   | _,_,_=>none
 | _=>none

def sG (P:Program) (H:aa) (t:TypeId) (s:AV):Option (AV×Delta) :=
 match P.underlying t,s with
 | some (.slice _),.nils=>some (.tup [],.bc)
 | some (.slice e),.slc d i v off sz len _ =>
   if aA H d then none else
   match (cL P e).bind AV.row,di H d i v with
   | some z,some r=>if z.len=sz∧bm P e=some sz∧off+len*sz≤r.len then
      some (.tup [],if len=0 then .bc else .set d i (v,.row (if yF r then j9 r off (dQ z len) else r.cH off (eu z len).toList)))
     else none
   | _,_=>none
 | _,_=>none

def eW (mx:Bool) (k:IntKind) (x:Int):List AV→Option AV
 | []=>some (.int k x)
 | .int k' y::r=>if k=k' then eW mx k (if mx then (if y > x then y else x) else (if y<x then y else x)) r else none
 | _=>none
def ot (mx:Bool):List AV→Option AV
 | .int k x::r=>eW mx k x r
 | _=>none

def jk (P:Program) (sy:Bool) (nx:Nat) (t:TypeId) (l c:AV):Option (AV×Delta) :=
 match P.underlying t,l,c with
 | some (.slice e),.int _ l,.int _ c =>
   match P.info? e,(cL P e).bind AV.row with
   | some inf,some z =>
     if 0≤l∧l≤c∧c.toNat*inf.bytes≤room∧c.toNat≤room∧z.len=inf.size then
      some (.slc 0 nx 0 0 inf.size l.toNat (some c.toNat),.push (.row (if sy then dQ z c.toNat else eu z c.toNat)))
     else none
   | _,_=>none
 | _,_,_=>none

def jI (P:Program) (nx:Nat) (t:TypeId) (len:Nat) (parts:List (Nat×AV)):Option (AV×Delta) :=
 match P.underlying t with
 | some (.slice e)=>match bm P e,(cL P e).bind AV.row with
   | some z,some zv =>
     if len*z≤2 ^ 24∧zv.len=z then
      (sV (fun i=>some (i*z,z)) (eu zv len) parts).map fun r=>(.slc 0 nx 0 0 z len (some len),.push (.row r))
     else none
   | _,_=>none
 | _=>none

def pq (x y:AV):Option Bool :=
 match x,y with
 | .int k a,.int k' b=>if k=k' then some (a == b) else none
 | .agg (.I k a),.agg (.I k' b)=>if k=k'∧a.length=b.length then some (fp a b) else none
 | _,_=>none
def gl (key:AV):List (AV×AV)→Nat→Option (Option Nat)
 | [],_=>some none
 | (k,_)::r,i=>match pq key k with
   | some true=>some (some i)
   | some false=>gl key r (i+1)
   | none=>none
def j5 (P:Program) (t:TypeId) (x:AV):Bool :=
 match P.underlying t,x with
 | some (.int _),.int _ _=>true
 | some (.array _ _),.agg (.I _ l)=>cq P 20 t == some l.length
 | some (.struct _),.agg (.I _ l)=>cq P 20 t == some l.length
 | _,_=>false
def u9 (H:aa) (m:AV):Option (Nat×List (AV×AV)) :=
 match m with
 | .nilm=>some (0,[])
 | .map d i=>match au H d i with
   | (0,.map es)=>some (d,es)
   | _=>none
 | _=>none
def oz:List (AV×AV)→Nat→AV
 | [],_=>.undef
 | e::_,0=>e.2
 | _::r,i+1=>oz r i
def oF:List (AV×AV)→Nat→AV×AV→List (AV×AV)
 | [],_,_=>[]
 | _::r,0,x=>x::r
 | e::r,i+1,x=>e::oF r i x
def nY:List (AV×AV)→Nat→List (AV×AV)
 | [],_=>[]
 | _::r,0=>r
 | e::r,i+1=>e::nY r i
def vi (H:aa) (m:AV):Option (KK×(List Int→Bool)×(List Int→Int)×Nat) :=
 match m with
 | .map d i=>match au H d i with
   | (0,.fmap q h g c)=>some (q,h,g,c)
   | _=>none
 | _=>none
def uC:KK→AV→Option (List Int)
 | .num k,.int k' n=>if k=k' then some [n] else none
 | .str m,.agg (.I .i64 l)=>if Nat.beq l.length m then some l else none
 | _,_=>none
def Lv:AV→Option KK
 | .int k _=>some (.num k)
 | .agg (.I .i64 l)=>some (.str l.length)
 | _=>none
def zk:AV→Option Int
 | .int .i64 n=>some n
 | _=>none
def dE (h:List Int→Bool) (n:List Int) (b:Bool):List Int→Bool:=fun i=>if i=n then b else h i
def fB (g:List Int→Int) (n:List Int) (x:Int):List Int→Int:=fun i=>if i=n then x else g i
def oV (b:Bool) (c:Nat):Nat:=cond b c (c+1)
def xY (b:Bool) (c:Nat):Nat:=cond b (c-1) c
def tz (P:Program) (t:TypeId):ak :=
 match P.underlying t with
 | some (.map kt et)=>match (cL P kt).bind Lv,(cL P et).bind zk with
   | some q,some _=>.fmap q (fun _=>false) (fun _=>0) 0
   | _,_=>.map []
 | _=>.map []
def pw (P:Program) (H:aa) (t:TypeId) (m key:AV) (ok:Bool):Option AV :=
 match P.underlying t with
 | some (.map kt et) =>
   if j5 P kt key then
    match vi H m with
    | some (q,h,g,_)=>match uC q key,(cL P et).bind zk with
      | some n,some 0=>some (if ok then .tup [.int .i64 (g n),.bool (h n)] else .int .i64 (g n))
      | _,_=>none
    | none=>match u9 H m,cL P et with
    | some (d,es),some z=>match gl key es 0 with
      | some (some i)=>some (if ok then .tup [gF d (oz es i),.bool true] else gF d (oz es i))
      | some none=>some (if ok then .tup [z,.bool false] else z)
      | none=>none
    | _,_=>none
   else none
 | _=>none
def jT (P:Program) (H:aa) (t:TypeId) (m key x:AV):Option Delta :=
 match P.underlying t,m with
 | some (.map kt _),.map d i =>
   if aA H d then none else
   if j5 P kt key then
    match au H d i with
    | (0,.fmap q h g c)=>match uC q key,zk x with
      | some n,some y=>some (.set d i (0,.fmap q (dE h n true) (fB g n y) (oV (h n) c)))
      | _,_=>none
    | (0,.map es)=>match gl key es 0 with
      | some (some j)=>some (.set d i (0,.map (oF es j (key,N0 d x))))
      | some none=>some (.set d i (0,.map (es++[(key,N0 d x)])))
      | none=>none
    | _=>none
   else none
 | _,_=>none
def o5 (P:Program) (H:aa) (t:TypeId) (m key:AV):Option (AV×Delta) :=
 match P.underlying t,m with
 | some (.map kt _),.map d i =>
   if aA H d then none else
   if j5 P kt key then
    match au H d i with
    | (0,.fmap q h g c)=>match uC q key with
      | some n=>some (.tup [],.set d i (0,.fmap q (dE h n false) (fB g n 0) (xY (h n) c)))
      | none=>none
    | (0,.map es)=>match gl key es 0 with
      | some (some j)=>some (.tup [],.set d i (0,.map (nY es j)))
      | some none=>some (.tup [],.set d i (0,.map es))
      | none=>none
    | _=>none
   else none
 | _,_=>none

def dZ (fr:av):List (Nat×Operand)→List (Nat×AV)
 | []=>[]
 | (i,x)::r=>(i,bI fr x)::dZ fr r
def j8 (fr:av):List Operand→List AV
 | []=>[]
 | x::r=>bI fr x::j8 fr r

def l9 {α:Type} (call:aL) (a b:α):α :=
 match call .mode [] [] with
 | some _=>a
 | none=>b
def fQ (P:Program) (call:aL) (fr:av) (H:aa) (nx:Nat) (c:Call):Option (AV×Delta) :=
 match c.callee with
 | .value f=>match bI fr f with
   | .fn (.func g) a b=>(call (.fn g) (a++(j8 fr c.args.toList++b)) H).map fun (v,H)=>(v,.heap H)
   | .yld d i=>(call (.round d i) (j8 fr c.args.toList) H).map fun (v,H)=>(v,.heap H)
   | _=>none
 | .builtin .len=>match c.args.toList,c.argTypes.toList with
   | x::_,t::_=>(uE P H t (bI fr x)).map fun n=>(.int .i64 n,.bc)
   | _,_=>none
 | .builtin .cap=>match c.args.toList,c.argTypes.toList with
   | x::_,t::_=>(Jn P t (bI fr x)).map fun n=>(.int .i64 n,.bc)
   | _,_=>none
 | .builtin .append=>match c.args.toList,c.argTypes.toList with
   | s::x::_,t::u::_=>oR P (l9 call true false) H nx t u (bI fr s) (bI fr x)
   | _,_=>none
 | .builtin .copy=>match c.args.toList,c.argTypes.toList with
   | s::x::_,t::_=>copyV P H t (bI fr s) (bI fr x)
   | _,_=>none
 | .builtin .clear=>match c.args.toList,c.argTypes.toList with
   | s::_,t::_=>sG P H t (bI fr s)
   | _,_=>none
 | .builtin .delete=>match c.args.toList,c.argTypes.toList with
   | m::k::_,t::_=>o5 P H t (bI fr m) (bI fr k)
   | _,_=>none
 | .builtin .min=>(ot false (j8 fr c.args.toList)).map fun v=>(v,.bc)
 | .builtin .max=>(ot true (j8 fr c.args.toList)).map fun v=>(v,.bc)
 | _=>none

def kp (o:Option AV):Option (AV×Delta):=o.map fun v=>(v,.bc)

def evalOp (P:Program) (call:aL) (fr:av) (H:aa) (nx:Nat) (o:Oper):Option (AV×Delta) :=
 match o.op with
 | .move x | .assign x=>some (bI fr x,.bc)
 | .pick c a b=>match bI fr c with
   | .bool t=>some (if t then bI fr a else bI fr b,.bc)
   | _=>none
 | .alloc t=>((cL P t).bind AV.row).map fun z=>(.ptr 0 nx 0 0,.push (.row (l9 call (jE z) z)))
 | .box _ x=>(bI fr x).row.map fun r=>(.ptr 0 nx 0 0,.push (.row (l9 call (jE r) r)))
 | .build t parts=>kp (wk P (l9 call true false) t (dZ fr parts.toList))
 | .buildSlice t len parts=>jI P nx t len (dZ fr parts.toList)
 | .load t a=>kp (mQ P H t (bI fr a))
 | .store t a x=>(gy P H t (bI fr a) (bI fr x)).map fun δ=>(.tup [],δ)
 | .nilCheck x=>match bI fr x with
   | .ptr d i v off=>some (.ptr d i v off,.bc)
   | .ptrT s r off=>some (.ptrT s r off,.bc)
   | _=>none
 | .binOp op t x y _=>kp (kn P op t (bI fr x) (bI fr y))
 | .unOp op _ x=>kp (Nd op (bI fr x))
 | .convert src dst x=>match P.underlying src,P.underlying dst,bI fr x with
   | some _,some (.int k),.int _ n=>some (.int k (k.wrap n),.bc)
   | _,_,_=>none
 | .makeFunc fn first cap=>match fn with
   | .func g=>some (.fn (.func g) (j8 fr first.toList) (j8 fr cap.toList),.bc)
   | _=>none
 | .makeSlice t l c=>jk P (l9 call true false) nx t (bI fr l) (bI fr c)
 | .slice t x lo hi mx=>kp (qK P t (bI fr x) (lo.map (bI fr)) (hi.map (bI fr)) (mx.map (bI fr)))
 | .fieldAddr t x f=>kp (gL P t (bI fr x) f)
 | .field t x f=>kp (sU P t (bI fr x) f)
 | .indexAddr t x i=>match bI fr i with
   | .int _ n=>kp (fL P t (bI fr x) n)
   | _=>none
 | .index t x i=>match bI fr i with
   | .int _ n=>kp (ql P t (bI fr x) n)
   | _=>none
 | .makeMap t none=>some (.map 0 nx,.push (l9 call (tz P t) (.map [])))
 | .lookup t m k ok=>kp (pw P H t (bI fr m) (bI fr k) ok)
 | .mapUpdate t m k x | .insert t m k x=>(jT P H t (bI fr m) (bI fr k) (bI fr x)).map fun δ=>(.tup [],δ)
 | .extract t ix=>match bI fr t with
   | .tup l=>match l[ix]? with
     | some v=>some (v,.bc)
     | none=>none
   | _=>none
 | .call c=>fQ P call fr H nx c
 | _=>none

inductive Want where
 | run | skip | lost
def ir (ops:Array Oper) (fr:av) (o:Oper):Want :=
 match o.guard with
 | none=>.run
 | some (j,want)=>match (ops[j]?).bind (·.dst) with
   | none=>.lost
   | some d=>match br fr d with
     | .bool b=>if b == want then .run else .skip
     | .tup _=>.skip
     | _=>.lost

def dw (nt:Nat) (fr:av) (dst:Option Tmp) (v:AV):av :=
 match dst with
 | some d=>if Nat.blt d nt then uv fr d v else fr
 | none=>fr

def dO (P:Program) (nt:Nat) (call:aL) (ops:Array Oper):List Oper→av→aa→Option (av×aa)
 | [],fr,H=>some (fr,H)
 | o :: r,fr,H=>match ir ops fr o with
   | .lost=>none
   | .skip=>dO P nt call ops r (dw nt fr o.dst (.tup [])) H
   | .run=>match evalOp P call fr H (aq H) o with
     | none=>none
     | some (v,δ)=>dO P nt call ops r (dw nt fr o.dst v) (δ.on H)

inductive Touch where
 | none
 | blk (d i:Nat)
 | all
structure Rec where
 ix:Nat
 reads:Touch
 writes:Option (Nat×Nat)
def cN (fr:av) (o:Oper):Touch :=
 let at' (v:AV):Touch:=match v with
  | .ptr d i _ _=>.blk d i
  | .slc d i _ _ _ _ _=>.blk d i
  | .map d i=>.blk d i
  | _=>.none
 match o.op with
 | .load _ a=>at' (bI fr a)
 | .store _ a _=>at' (bI fr a)
 | .lookup _ m _ _=>at' (bI fr m)
 | .mapUpdate _ m _ _ | .insert _ m _ _=>at' (bI fr m)
 | .call c=>match c.callee with
   | .builtin .len=>match c.args.toList with
     | x::_=>match bI fr x with | .map d i=>.blk d i | _=>.none
     | _=>.all
   | .builtin .min | .builtin .max=>.none
   | _=>.all
 | _=>.none
def da (H:aa) (bef:Nat):List Rec→aa
 | []=>H
 | r::l=>match r.writes with
   | some (d,i)=>if bef.testBit r.ix then da H bef l else da (cC H d i) bef l
   | none=>da H bef l
def jm (bef:Nat) (d i:Nat):List Rec→Bool
 | []=>true
 | r::l=>(bef.testBit r.ix || (match r.reads with
   | .none=>true
   | .blk e j=>!(Nat.beq e d && Nat.beq j i)
   | .all=>false)) && jm bef d i l

def gv (o:Oper):Bool :=
 match o.op with
 | .alloc _ | .box _ _ | .buildSlice _ _ _ | .makeSlice _ _ _ | .makeMap _ _=>true
 | .call c=>match c.callee with
   | .builtin .append=>true
   | _=>false
 | _=>false
def cG:List Oper→Nat
 | []=>0
 | o::r=>if gv o then cG r+1 else cG r
def kD:aa→Nat→aa
 | [],_=>[]
 | l::r,k=>{ l with bs:=l.bs++List.replicate k (0,.dead) } :: r
def eT:ak→Bool
 | .dead=>true
 | _=>false
def po:Nat×ak→Bool
 | (0,.dead)=>true
 | _=>false
def fg (o:Oper):Bool :=
 match o.op with
 | .call c=>match c.callee with
   | .value _=>true
   | _=>false
 | _=>false
def rM (H:aa):Option (Nat×Nat×(Nat×ak))→aa
 | none=>H
 | some (d,i,b)=>dB H d i b
structure uh where
 v:AV
 rd:Touch
 wr:Option (Nat×Nat×(Nat×ak))
def eQ (P:Program) (call:aL) (ops:Array Oper) (bef:Nat) (fr:av) (H:aa) (nx:Nat) (recs:List Rec) (o:Oper):Option uh :=
 match ir ops fr o with
 | .lost=>none
 | .skip=>some ⟨.tup [],.none,none⟩
 | .run =>
   if fg o then match evalOp P call fr (az (da H bef recs)) nx o with
    | some (v,_)=>some ⟨v,.all,none⟩
    | none=>none
   else match evalOp P call fr (da H bef recs) nx o with
    | some (v,.bc)=>some ⟨v,cN fr o,none⟩
    | some (v,.push b)=>if gv o && !eT b && po (au H 0 nx) && !aA H 0 then some ⟨v,cN fr o,some (0,nx,(0,b))⟩ else none
    | some (v,.set d i b)=>if !eT b.2 && (Nat.beq b.1 (au H d i).1 || Nat.beq b.1 (Nat.succ (au H d i).1)) && !eT (au (da H bef recs) d i).2 && jm bef d i recs then some ⟨v,cN fr o,some (d,i,b)⟩ else none
    | _=>none

def fD (P:Program) (nt:Nat) (call:aL) (ops:Array Oper) (befs:Array Nat):Nat→List Oper→av→aa→Nat→List Rec→Option (av×aa)
 | _,[],fr,H,_,_=>some (fr,H)
 | j,o::r,fr,H,nx,recs=>match eQ P call ops (befs.getD j 0) fr H nx recs o with
   | some e=>fD P nt call ops befs (j+1) r (dw nt fr o.dst e.v) (rM H e.wr) (if gv o then nx+1 else nx) (⟨j,e.rd,e.wr.map fun x=>(x.1,x.2.1)⟩::recs)
   | none=>none

def fo (ops:Array Oper) (befs:Array Nat):Bool :=
 ops.toList.zipIdx.all fun (o,j)=>Nat.blt (befs.getD j 0) (2 ^ j) &&
  ops.toList.zipIdx.all fun (q,i) =>
   Nat.beq i j || (match q.dst with
   | none=>true
   | some d=>(o.dst != some d) && (!(o.looksAt ops).contains d || (befs.getD j 0).testBit i || (befs.getD i 0).testBit j))

inductive Ex where
 | normal | exit (id:Nat) | goto (l:Nat) | ret

def BO:Option Nat→Bool
 | some 0=>true
 | _=>false
def CY:AV→Bool
 | .int _ _=>true
 | .bool _=>true
 | .nils=>true
 | .slcT none _ _ _ _=>true
 | .ptrT none _ _=>true
 | _=>false
def K7:Row→Bool
 | .I _ _=>true
 | .F _ _=>true
 | .G l=>l.all CY
 | .M l=>fX l
def l8 (n:Nat):AV→Bool
 | .ptr d i _ _=>Nat.beq d 0 && Nat.ble n i
 | .slc d i _ _ _ _ _=>Nat.beq d 0 && Nat.ble n i
 | .map d i=>Nat.beq d 0 && Nat.ble n i
 | .yld d i=>Nat.beq d 0 && Nat.ble n i
 | .ptrT s r _=>BO s && !K7 r
 | .slcT s _ _ _ _=>BO s
 | .agg (.G _)=>true
 | .agg (.M l)=>!fX l
 | .fn _ _ _=>true
 | .tup (_::_)=>true
 | _=>false
def anyM (f:AV→Bool):List aW→Bool
 | []=>false
 | .one v::r=>f v || anyM f r
 | .arr _ _ _::r=>anyM f r
def rN (n:Nat):AV→Bool
 | .agg (.G l)=>l.any (l8 n)
 | .agg (.M l)=>anyM (l8 n) l
 | .fn _ a b=>a.any (l8 n) || b.any (l8 n)
 | .ptrT (some 0) (.M l) _=>anyM (l8 n) l
 | v=>l8 n v
def PK (n:Nat):Row→Bool
 | .I .. | .F ..=>false
 | .G l=>l.any (rN n)
 | .M l=>anyM (rN n) l
def Dy (n:Nat):ak→Bool
 | .dead=>false
 | .row r=>PK n r
 | .map es=>es.any fun e=>rN n e.1 || rN n e.2
 | .fmap _ _ _ _=>false
 | .loop _=>true
def cutAt (fr:av) (l:bn) (r:aa):Nat→Nat→aa
 | 0,_=>l::r
 | k+1,m=>if fr.any (fun x=>rN m x.2) || (l.bs.take m).any (fun x=>Dy m x.2) then cutAt fr l r k (m+1) else { l with bs:=l.bs.take m } :: r
def lS (n:Nat) (fr:av) (H:aa):aa :=
 match H with
 | []=>[]
 | l::r=>if Nat.ble l.bs.length n then H else cutAt fr l r 4 n

def HP:AV→Bool
 | .ptrT (some 0) (.M l) _=>anyM (l8 0) l
 | v=>l8 0 v
def uO (h:Nat):AV→Bool
 | .ptr d i _ _=>Nat.beq d 0 && Nat.beq i h
 | .slc d i _ _ _ _ _=>Nat.beq d 0 && Nat.beq i h
 | .map d i=>Nat.beq d 0 && Nat.beq i h
 | .yld d i=>Nat.beq d 0 && Nat.beq i h
 | v=>HP v
def pY (f:AV→Bool) (v:AV):Bool :=
 match v with
 | .agg (.G l)=>l.any f
 | .agg (.M l)=>anyM f l
 | .fn _ a b=>a.any f || b.any f
 | v=>f v
def KP (f:AV→Bool):Row→Bool
 | .I .. | .F ..=>false
 | .G l=>l.any (pY f)
 | .M l=>anyM (pY f) l
def Al (f:AV→Bool):ak→Bool
 | .dead=>false
 | .row r=>KP f r
 | .map _=>true
 | .fmap _ _ _ _=>false
 | .loop _=>true
def uH (a b:Nat):AV→AV
 | .ptr d i v off=>if Nat.beq d 0 && Nat.beq i a then .ptr 0 b v off else .ptr d i v off
 | .slc d i v off sz len cap=>if Nat.beq d 0 && Nat.beq i a then .slc 0 b v off sz len cap else .slc d i v off sz len cap
 | .map d i=>if Nat.beq d 0 && Nat.beq i a then .map 0 b else .map d i
 | .yld d i=>if Nat.beq d 0 && Nat.beq i a then .yld 0 b else .yld d i
 | v=>v
def nG (g:AV→AV) (v:AV):AV :=
 match v with
 | .agg (.G l)=>.agg (.G (l.map g))
 | .agg (.M l)=>.agg (.M (mapM' g l))
 | .fn f a b=>.fn f (a.map g) (b.map g)
 | v=>g v
def Fe (g:AV→AV):Row→Row
 | .I k l=>.I k l
 | .F f n=>.F f n
 | .G l=>.G (l.map (nG g))
 | .M l=>.M (mapM' (nG g) l)
def qw (g:AV→AV):ak→ak
 | .row r=>.row (Fe g r)
 | b=>b
def qx (g:AV→AV):av→av
 | []=>[]
 | (x,v)::r=>(x,nG g v)::qx g r
def jM (g:AV→AV):List (Nat×ak)→List (Nat×ak)
 | []=>[]
 | (v,b)::r=>(v,qw g b)::jM g r
def hole (fr:av) (bs:List (Nat×ak)):Nat→Nat→Option Nat
 | 0,_=>none
 | k+1,m=>if Nat.blt (m+1) bs.length then
    if fr.any (fun x=>pY (uO m) x.2) || ((bs.take m).any (fun x=>Al (uO m) x.2) || (bs.drop (m+1)).any (fun x=>Al (uO m) x.2)) then hole fr bs k (m+1) else some m
   else none
def xO (a b:Nat) (l:bn):bn:={ l with bs:=bH (jM (uH a b) (l.bs.take a)) b ((ao l.bs a).1,qw (uH a b) (ao l.bs a).2) }
def jy (n:Nat):Nat→av→aa→av×aa
 | 0,fr,H=>(fr,H)
 | k + 1,fr,H=>match H with
   | []=>(fr,[])
   | l::r=>match hole fr l.bs 4 n with
     | none=>(fr,l::r)
     | some h=>jy n k (qx (uH (l.bs.length-1) h) fr) (lS n (qx (uH (l.bs.length-1) h) fr) (xO (l.bs.length-1) h l::r))
def tidy (n:Nat) (fr:av) (H:aa):av×aa:=jy n 4 fr (lS n fr H)

def nF (i ver:Nat) (r:Row):AV→AV
 | .ptr d j v off=>if Nat.beq d 0 && (Nat.beq j i && Nat.beq v ver) then .ptrT none r off else .ptr d j v off
 | .slc d j v off sz len cap=>if Nat.beq d 0 && (Nat.beq j i && (Nat.beq v ver && Nat.ble (off+len*sz) r.len)) then .slcT none (r.sub off (len*sz)) sz len (cap == some len) else .slc d j v off sz len cap
 | v=>v
def pM (i:Nat):AV→Bool
 | .slc d j _ _ _ _ _=>Nat.beq d 0 && Nat.beq j i
 | _=>false
def wP:Row→Bool
 | .I _ _=>true
 | .M [.arr _ _ _]=>true
 | _=>false
def Kj (f:AV→Bool):ak→Bool
 | .row r=>KP f r
 | _=>false
def mH (i:Nat) (fr:av) (l:bn):av×bn :=
 match ao l.bs i with
 | (ver,.row r)=>if wP r && (fr.any (fun x=>pY (pM i) x.2) || l.bs.any (fun x=>Kj (pM i) x.2)) then (qx (nF i ver r) fr,{ l with bs:=bH (jM (nF i ver r) l.bs) i (ver,.dead) }) else (fr,l)
 | _=>(fr,l)
def jj:Nat→av→bn→av×bn
 | 0,fr,l=>(fr,l)
 | n+1,fr,l=>mH n (jj n fr l).1 (jj n fr l).2
def Dh (fr:av) (H:aa):av×aa :=
 match H with
 | []=>(fr,[])
 | l::r=>if l.lock then (fr,l::r) else ((jj l.bs.length fr l).1,(jj l.bs.length fr l).2::r)
def eJ:Nat→av→bn→av×bn
 | 0,fr,l=>(fr,l)
 | n+1,fr,l=>if (eJ n fr l).1.any (fun x=>pY (pM n) x.2) then eJ n fr l else mH n (eJ n fr l).1 (eJ n fr l).2
def uA (fr:av) (H:aa):av×aa :=
 match H with
 | []=>(fr,[])
 | l::r=>if l.lock then (fr,l::r) else ((eJ l.bs.length fr l).1,(eJ l.bs.length fr l).2::r)
def LQ (sz:Nat):AV→AV
 | .nils=>.slcT none (.M [.arr .i64 (fun _=>0) 0]) sz 0 false
 | v=>v
def Dq (sz:Nat):Nat→List AV→List AV
 | _,[]=>[]
 | 0,v::l=>LQ sz v::l
 | c+1,v::l=>v::Dq sz c l
def uJ (c sz:Nat):ak→ak
 | .row (.G l)=>.row (.G (Dq sz c l))
 | B=>B
def mU (c sz:Nat):List (Nat×ak)→List (Nat×ak)
 | []=>[]
 | (v,B)::r=>(v,uJ c sz B)::mU c sz r
def Fl (k:Nat) (H:aa):aa :=
 match H with
 | []=>[]
 | l::r=>if l.lock then l::r else { l with bs:=mU (k % 8) (k / 8) l.bs } :: r
def BY (s:Nat):av→Option Nat
 | []=>none
 | (x,v)::r=>if Nat.beq x s then (match v with
   | .slc 0 i _ _ _ _ _=>some i
   | _=>none) else BY s r
def wN (s:Nat) (fr:av) (H:aa):av×aa :=
 match H with
 | []=>(fr,[])
 | l::r=>if l.lock then (fr,l::r) else match BY s fr with
   | some i=>((mH i fr l).1,(mH i fr l).2::r)
   | none=>(fr,l::r)
noncomputable def mI (m:Nat) (fr:av) (H:aa):av×aa:=if oo m 4000 then ((Dh (bO fr m) H).1,if Nat.beq (Nat.shiftRight m 4003) 0 then (Dh (bO fr m) H).2 else Fl (Nat.shiftRight m 4003) (Dh (bO fr m) H).2) else if oo m 4001 then wN (Nat.shiftRight m 4003) (bO fr m) H else if oo m 4002 then (match br (bO fr m) (Nat.shiftRight m 4003) with | .bool false=>uA (bO fr m) H | _=>(bO fr m,H)) else (bO fr m,H)

def iter (body:av→aa→Option (Ex×av×aa)) (n:Nat):Nat→av→aa→Option (Ex×av×aa)
 | 0,_,_=>none
 | fu+1,fr,H=>match body fr H with
   | some (.normal,fr,H)=>iter body n fu (tidy n fr H).1 (tidy n fr H).2
   | r=>r

structure Cx where
 P:Program
 call:aL
 fu:Nat
 fn:FuncId
 nt:Nat
 kt:Nat→Nat
 ro:Option (Nat×Nat)
def Cx.here (cx:Cx) (H:aa):Bool :=
 match cx.ro with
 | none=>true
 | some (d,i)=>match au H d i with
   | (0,.loop _)=>true
   | _=>false

def gS (fr:av) (H:aa) (cx:Cx) (params:Array Tmp) (assign body:Code):aa :=
 ji H (.loop { state:=.ready,pending:=none,fn:=cx.fn,nt:=cx.nt,fr,params:=params.toList,assign,body })

def sM:Option Code→Option Ex
 | none=>some .normal
 | some (.exit id)=>some (.exit id)
 | some (.goto l)=>some (.goto l)
 | some .ret=>some .ret
 | _=>none

noncomputable def exec (cx:Cx):Code→av→aa→Option (Ex×av×aa)
 | .skip,fr,H=>some (.normal,fr,H)
 | .label _,fr,H=>some (.normal,fr,H)
 | .region id ops draw,fr,H =>
   match (if draw then (if fo ops (Region.before ops) then fD cx.P cx.nt cx.call ops (Region.before ops) 0 ops.toList fr (kD H (cG ops.toList)) (aq H) [] else none) else dO cx.P cx.nt cx.call ops ops.toList fr H) with
   | some (fr,H)=>some (.normal,mI (cx.kt id) fr H)
   | none=>none
 | .seq a b,fr,H=>match exec cx a fr H with
   | some (.normal,fr,H)=>exec cx b fr H
   | r=>r
 | .cond c a b,fr,H=>match bI fr c with
   | .bool true=>exec cx a fr H
   | .bool false=>exec cx b fr H
   | _=>none
 | .block id b,fr,H=>match exec cx b fr H with
   | some (.exit id',fr,H)=>if Nat.beq id' id then some (.normal,fr,H) else some (.exit id',fr,H)
   | r=>r
 | .loop b,fr,H=>iter (exec cx b) (aq H) cx.fu fr H
 | .rangeFunc f params assign body,fr,H =>
   match bI fr f with
   | .fn (.func g) a b =>
     if !cx.here H || aA H 0 then none else
     match cx.call (.fn g) (a++(.yld 0 (aq H)::b)) (gS fr H cx params assign body) with
     | some (_,H1)=>match au H1 0 (aq H) with
       | (0,.loop l) =>
         if l.state == .busy then none else
         match sM l.pending with
         | some e=>some (e,fr,cC H1 0 (aq H))
         | none=>none
       | _=>none
     | none=>none
   | _=>none
 | .exit id,fr,H=>some (.exit id,fr,H)
 | .scope b,fr,H=>match exec cx b fr H with
   | some (.goto _,_,_)=>none
   | r=>r
 | .goto l,fr,H=>some (.goto l,fr,H)
 | .ret,fr,H=>some (.ret,fr,H)
 | .refuse _,_,_=>none

def cT   (bs:List (Nat×ak)):Nat→AV→AV
 | 0,_=>.undef
 | n + 1,v=>match v with
   | .ptr d i ver off=>match d with
     | d+1=>.ptr d i ver off
     | 0 => match ao bs i with
       | (w,.row r)=>if Nat.beq w ver then (match r with
         | .I k l=>.ptrT none (.I k l) off
         | .F f m=>.ptrT none (.F f m) off
         | .M l=>if fX l then .ptrT none (.M l) off else .ptrT (some 0) (.M (mapM' (cT bs n) l)) off
         | .G l=>.ptrT (some 0) (.G (l.map (cT bs n))) off) else .undef
       | _=>.undef
   | .slc d i ver off sz len cap=>match d with
     | d+1=>.slc d i ver off sz len cap
     | 0 => match ao bs i with
       | (w,.row r)=>if Nat.beq w ver∧off+len*sz≤r.len then (match r.sub off (len*sz) with
         | .I k l=>.slcT none (.I k l) sz len (cap == some len)
         | .F f m=>.slcT none (.F f m) sz len (cap == some len)
         | .M l=>if fX l then .slcT none (.M l) sz len (cap == some len) else .slcT (some 0) (.M (mapM' (cT bs n) l)) sz len (cap == some len)
         | .G l=>.slcT (some 0) (.G (l.map (cT bs n))) sz len (cap == some len)) else .undef
       | _=>.undef
   | .ptrT s r off=>match s with
     | none=>.ptrT none r off
     | some (s+1)=>.ptrT (some s) r off
     | some 0=>match r with
       | .G l=>.ptrT (some 0) (.G (l.map (cT bs n))) off
       | .M l=>if fX l then .ptrT none (.M l) off else .ptrT (some 0) (.M (mapM' (cT bs n) l)) off
       | r=>.ptrT none r off
   | .slcT s r sz len full=>match s with
     | none=>.slcT none r sz len full
     | some (s+1)=>.slcT (some s) r sz len full
     | some 0=>match r with
       | .G l=>.slcT (some 0) (.G (l.map (cT bs n))) sz len full
       | .M l=>if fX l then .slcT none (.M l) sz len full else .slcT (some 0) (.M (mapM' (cT bs n) l)) sz len full
       | r=>.slcT none r sz len full
   | .map d i=>match d with
     | d+1=>.map d i
     | 0=>.undef
   | .yld d i=>match d with
     | d+1=>.yld d i
     | 0=>.undef
   | .fn f a b=>.fn f (a.map (cT bs n)) (b.map (cT bs n))
   | .agg r=>match r with
     | .G l=>.agg (.G (l.map (cT bs n)))
     | .M l=>.agg (.M (mapM' (cT bs n) l))
     | r=>.agg r
   | .tup l=>.tup (l.map (cT bs n))
   | v=>v

def dy:Nat→List AV→av
 | _,[]=>[]
 | x,v::l=>(x,gF 1 v)::dy (x+1) l

def eE (P:Program) (fr:av) (H:aa):List ResultVar→Option (List AV)
 | []=>some []
 | .tmp t::r=>(eE P fr H r).map (br fr t::·)
 | .cell a t::r=>match mQ P H t (br fr a) with
   | some v=>(eE P fr H r).map (v::·)
   | none=>none
def one:List AV→AV
 | [v]=>v
 | l=>.tup l

def kK (nt:Nat) (fr:av):List Tmp→List AV→Option av
 | [],[]=>some fr
 | t::ts,v::vs=>if Nat.blt t nt then kK nt (uv fr t v) ts vs else none
 | _,_=>none

def cU:Ex→Option Code
 | .normal=>none
 | .exit id=>some (.exit id)
 | .goto l=>some (.goto l)
 | .ret=>some .ret

def l5 (k:Nat):av→av
 | []=>[]
 | (x,v)::r=>(x,gF k v)::l5 k r

noncomputable def cJ (P:Program) (ora:aL→FuncId→List AV→aa→Option (AV×aa)) (KT:FuncId→Nat→Nat) (fu:Nat):Nat→aL
 | _,.mode,_,_=>(ora (fun _ _ _=>none) 1000000 [] []).map fun _=>(.undef,[])
 | 0,_,_,_=>none
 | n + 1,.fn f,args,H=>match ora (cJ P ora KT fu n) f args H with
   | some r=>some r
   | none => match P.funcs[f]? with
     | none=>none
     | some fn=>match fn.body with
       | none=>none
       | some c=>if Nat.ble args.length fn.ntmps then
         match exec ⟨P,cJ P ora KT fu n,fu,f,fn.ntmps,KT f,none⟩ c (dy 0 args) (⟨false,[]⟩::H) with
         | some (e,fr,l::H') =>
           (match e with
           | .normal | .ret=>match eE P fr (l::H') fn.results.toList with
             | some vs=>some (cT l.bs 5 (one vs),H')
             | none=>none
           | _=>none)
         | _=>none
         else none
 | n + 1,.round  d i,args,H=>match au H d i with
   | (0, .loop l) =>
     if aA H d then none else
     match l.state with
     | .ready => match kK l.nt (l5 (d+1) l.fr) l.params (args.map (gF 1)) with
       | some fr => match exec ⟨P,cJ P ora KT fu n,fu,l.fn,l.nt,KT l.fn,some (d+1,i)⟩ l.assign fr (⟨false,[]⟩::H) with
         | some (.normal,fr,H1)=>match au H1 (d+1) i with
           | (0, .loop l1)=>match l1.state with
             | .ready =>
               match exec ⟨P,cJ P ora KT fu n,fu,l.fn,l.nt,KT l.fn,some (d+1,i)⟩ l.body fr (dB H1 (d+1) i (0,.loop { l1 with state:=.busy })) with
               | some (e,_,_::H2)=>match au H2 d i with
                 | (0,.loop l2)=>some (.bool (cU e).isNone,dB H2 d i (0,.loop { l2 with state:=if (cU e).isNone then .ready else .done,pending:=cU e }))
                 | _=>none
               | _=>none
             | _=>none
           | _=>none
         | _=>none
       | none=>none
     | _=>none
   | _=>none

end Go.Eng
