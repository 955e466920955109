/- The engine, part A: abstract values, the abstract heap, the abstract interpreter. No statement is proved here. -/
import Derived.RangeFuncLeaves
import Derived.OrdersIn
import Derived.RangeFuncRecord
namespace Go.Eng
theorem nP:(∀ {α:Type} (a b:α),(some a=some b)=(a=b))∧(∀ {α β:Type} (a c:α) (b d:β),((a,b)=(c,d))=(a=c∧b=d)):=⟨fun _ _=>Option.some.injEq _ _,fun _ _ _ _=>Prod.mk.injEq _ _ _ _⟩

mutual
inductive AV where
 | undef
 | bool (b:Bool)
 | int (k:IntKind) (n:Int)
 | str (s:ByteArray)
 | nilp | nils | nilm | nilf
 | ptr (d i v off:Nat)
 | ptrT (s:Option Nat) (r:Row) (off:Nat)
 | slc (d i v off sz len:Nat) (cap:Option Nat)
 | slcT (s:Option Nat) (r:Row) (sz len:Nat) (full:Bool)
 | map (d i:Nat)
 | yld (d i:Nat)
 | fn (f:Fn) (first cap:List AV)
 | agg (r:Row)
 | tup (l:List AV)
inductive Row where
 | I (k:IntKind) (l:List Int)
 | G (l:List AV)
 | F (f:Nat→AV) (n:Nat)
 | M (l:List aC)
inductive aC where
 | one (v:AV)
 | arr (k:IntKind) (z:Nat→Int) (n:Nat)
end

instance:Inhabited AV:=⟨.undef⟩
instance:Inhabited Row:=⟨.G []⟩

def aT:aC→Nat
 | .one _=>1
 | .arr _ _ n=>n
def aM:List aC→Nat
 | []=>0
 | s::r=>aT s+aM r
def getM:List aC→Nat→AV
 | [],_=>.undef
 | .one v::_,0=>v
 | .one _::r,j+1=>getM r j
 | .arr k z n::r,j=>if j<n then .int k (z j) else getM r (j-n)
def mapM' (f:AV→AV):List aC→List aC
 | []=>[]
 | .one v::r=>.one (f v)::mapM' f r
 | .arr k z n::r=>.arr k z n::mapM' f r
def gy:List aC→Bool
 | []=>true
 | .one _::_=>false
 | .arr _ _ _::r=>gy r
def Row.len:Row→Nat
 | .I _ l=>l.length
 | .G l=>l.length
 | .F _ n=>n
 | .M l=>aM l
def Row.get:Row→Nat→AV
 | .I k l,j=>.int k (l.getD j 0)
 | .G l,j=>l.getD j .undef
 | .F f _,j=>f j
 | .M l,j=>getM l j

def dI (g:Nat→AV):Nat→Nat→List AV
 | _,0=>[]
 | o,n+1=>g o::dI g (o+1) n
def Row.toList:Row→List AV
 | .I k l=>l.map (.int k)
 | .G l=>l
 | .F f n=>dI f 0 n
 | .M l=>dI (getM l) 0 (aM l)
def Row.ints:Row→Option (IntKind×(Nat→Int))
 | .I k l=>some (k,fun j=>l.getD j 0)
 | .M [.arr k z _]=>some (k,z)
 | _=>none
def wE:Row→Bool
 | .M _=>true
 | _=>false
def pk:List AV→List aC→List aC
 | [],r=>r
 | v::l,r=>.one v::pk l r
def jE:List aC→Nat→AV→List aC
 | [],_,_=>[]
 | .one _::r,0,v=>.one v::r
 | .one u::r,j+1,v=>.one u::jE r j v
 | .arr k z n::r,j,v=>if j<n then (match v with
    | .int k' x=>if k'=k then .arr k (fun i=>if i=j then x else z i) n::r else pk (dI (fun i=>if i=j then v else .int k (z i)) 0 n) r
    | _=>pk (dI (fun i=>if i=j then v else .int k (z i)) 0 n) r)
   else .arr k z n::jE r (j-n) v
def vL:List Int→Bool
 | []=>true
 | x::l=>x == 0 && vL l
def Lv (l:List Int):Nat→Int:=if vL l then fun _=>0 else fun j=>l.getD j 0
def dq (k:IntKind):List AV→List Int×List AV
 | .int k' n::r=>if k'=k then (match dq k r with | (a,b)=>(n::a,b)) else ([],.int k' n::r)
 | l=>([],l)
def ik:Nat→List AV→List aC
 | 0,l=>pk l []
 | _,[]=>[]
 | f+1,.int k n::r=>match dq k r with
   | (a,b)=>if Nat.ble 3 a.length then .arr k (Lv (n::a)) (a.length+1)::ik f b else .one (.int k n)::ik f r
 | f+1,v::r=>.one v::ik f r

def rH (k:IntKind):List AV→Option (List Int)
 | []=>some []
 | .int k' n::r=>if k'=k then (rH k r).map (n::·) else none
 | _=>none
def Row.ofList:List AV→Row
 | .int k n::r=>match rH k r with
   | some l=>.I k (n::l)
   | none=>.G (.int k n::r)
 | l=>.G l

def oH:List aC→Nat→Nat→Option (IntKind×(Nat→Int))
 | [],_,_=>none
 | .one _::r,o+1,n=>oH r o n
 | .one _::_,0,_=>none
 | .arr k z m::r,o,n=>if o+n≤m then some (k,fun j=>z (o+j)) else if m≤o then oH r (o-m) n else none
def Row.sub (r:Row) (o n:Nat):Row :=
 match r with
 | .I k l=>.I k ((l.drop o).take n)
 | .G l=>.G ((l.drop o).take n)
 | .F f _=>.F (fun j=>f (o+j)) n
 | .M [.arr k z _]=>.M [.arr k (fun j=>z (o+j)) n]
 | .M l=>if Nat.beq o 0 && Nat.beq (aM l) n then .M l else match oH l o n with
   | some (k,z)=>.M [.arr k z n]
   | none=>.G (dI (getM l) o n)

def g8:AV→Bool
 | .undef | .bool _ | .int _ _ | .str _ | .nilp | .nils | .nilm | .nilf=>true
 | .ptrT s _ _=>s.isNone
 | .slcT s _ _ _ _=>s.isNone
 | .agg (.I ..) | .agg (.F ..)=>true
 | .agg (.M l)=>gy l
 | _=>false

def Row.cut (r:Row) (o n:Nat):Row :=
 match r with
 | .G l=>Row.ofList ((l.drop o).take n)
 | .M l=>if Nat.ble n 8 then Row.ofList (dI (getM l) o n) else (Row.M l).sub o n
 | r=>r.sub o n

def Row.set (r:Row) (j:Nat) (v:AV):Row :=
 match r,v with
 | .I k l,.int k' n=>if k'=k then .I k (l.set j n) else .G ((l.map (.int k)).set j v)
 | .I k l,v=>.G ((l.map (.int k)).set j v)
 | .G l,v=>.G (l.set j v)
 | .F f n,v=>.F (fun i=>if i=j then (if g8 v then v else .undef) else f i) n
 | .M l,v=>.M (jE l j v)
def Row.cR (r:Row) (j:Nat):List AV→Row
 | []=>r
 | v::l=>(r.set j v).cR (j+1) l
def Row.sQ (r s:Row):Option Row :=
 match r.ints,s.ints with
 | some (k,z),some (k',z')=>if k'=k then some (.M [.arr k (fun i=>if i<r.len then z i else z' (i-r.len)) (r.len+s.len)]) else none
 | _,_=>none
def mE:AV→AV
 | .slcT none (.I k l) sz m _=>.slcT none (.M [.arr k (fun j=>l.getD j 0) l.length]) sz m false
 | .slcT none (.M [.arr k z n]) sz m _=>.slcT none (.M [.arr k z n]) sz m false
 | v=>v
def pR (n i:Nat):Nat:=if Nat.beq n 1 then 0 else i
def Row.app (r s:Row):Row :=
 match r,s with
 | .M l,s=>(match (Row.M l).sQ s with | some q=>q | none=>.G ((Row.M l).toList++s.toList))
 | .I k l,.M m=>(match (Row.I k l).sQ (.M m) with | some q=>q | none=>.G ((Row.I k l).toList++(Row.M m).toList))
 | .I k l,.I k' l'=>if k'=k then .I k (l++l') else .G (l.map (.int k)++l'.map (.int k'))
 | .F f n,s=>.F (fun i=>if Nat.blt i n then f i else if g8 (s.get (pR s.len (i-n))) then mE (s.get (pR s.len (i-n))) else .undef) (n+s.len)
 | r,s=>.G (r.toList++s.toList)

def nq (k:Nat):AV→AV
 | .ptr d i v off=>.ptr (d+k) i v off
 | .ptrT s r off=>.ptrT (s.map (· + k)) r off
 | .slc d i v off sz len cap=>.slc (d+k) i v off sz len cap
 | .slcT s r sz len full=>.slcT (s.map (· + k)) r sz len full
 | .map d i=>.map (d+k) i
 | .yld d i=>.yld (d+k) i
 | .fn _ _ _ | .agg _ | .tup (_::_)=>.undef
 | v=>v
def Lm (k:Nat) (v:AV):AV :=
 match v with
 | .fn f a b=>.fn f (a.map (nq k)) (b.map (nq k))
 | .agg (.G l)=>.agg (.G (l.map (nq k)))
 | .agg (.M l)=>.agg (.M (mapM' (nq k) l))
 | .agg r=>.agg r
 | v=>nq k v
def xU (k:Nat) (v:AV):AV :=
 match k with
 | 0=>v
 | k+1=>Lm (k+1) v
def yO (k:Nat):Row→Row
 | .I a l=>.I a l
 | .G l=>.G (l.map (nq k))
 | .F f n=>.F f n
 | .M l=>.M (mapM' (nq k) l)
def yN (k:Nat) (r:Row):Row :=
 match k with
 | 0=>r
 | k+1=>yO (k+1) r
def j9:Nat→Nat→AV→AV
 | 0,_,_=>.undef
 | n + 1,k,v=>match v with
   | .ptr d i v off=>if Nat.blt d k then .undef else .ptr (d-k) i v off
   | .ptrT none r off=>.ptrT none r off
   | .ptrT (some s) r off=>if Nat.blt s k then (match r with
     | .G l=>.ptrT (some 0) (.G (l.map (j9 n (k-s)))) off
     | .M l=>if gy l then .ptrT none (.M l) off else .ptrT (some 0) (.M (mapM' (j9 n (k-s)) l)) off
     | r=>.ptrT none r off) else .ptrT (some (s-k)) r off
   | .slc d i v off sz len cap=>if Nat.blt d k then .undef else .slc (d-k) i v off sz len cap
   | .slcT none r sz len full=>.slcT none r sz len full
   | .slcT (some s) r sz len full=>if Nat.blt s k then (match r with
     | .G l=>.slcT (some 0) (.G (l.map (j9 n (k-s)))) sz len full
     | .M l=>if gy l then .slcT none (.M l) sz len full else .slcT (some 0) (.M (mapM' (j9 n (k-s)) l)) sz len full
     | r=>.slcT none r sz len full) else .slcT (some (s-k)) r sz len full
   | .map d i=>if Nat.blt d k then .undef else .map (d-k) i
   | .yld d i=>if Nat.blt d k then .undef else .yld (d-k) i
   | .fn _ _ _ | .agg _ | .tup (_::_)=>.undef
   | v=>v
def Jn (k:Nat) (v:AV):AV :=
 match v with
 | .fn f a b=>.fn f (a.map (j9 4 k)) (b.map (j9 4 k))
 | .agg (.G l)=>.agg (.G (l.map (j9 4 k)))
 | .agg (.M l)=>.agg (.M (mapM' (j9 4 k) l))
 | .agg r=>.agg r
 | v=>j9 4 k v
def Ml (k:Nat) (v:AV):AV :=
 match k with
 | 0=>v
 | k+1=>Jn (k+1) v
def uz (k:Nat):Row→Row
 | .I a l=>.I a l
 | .G l=>.G (l.map (j9 4 k))
 | .F f n=>.F f n
 | .M l=>.M (mapM' (j9 4 k) l)

def mz (k:Nat) (r:Row):Row :=
 match k with
 | 0=>r
 | k+1=>uz (k+1) r

abbrev aO:=List (Nat×AV)
def cD:aO→Nat→AV
 | [],_=>.undef
 | (x,v)::r,y=>if Nat.beq x y then v else cD r y
def sS:aO→Nat→AV→aO
 | [],y,u=>[(y,u)]
 | (x,v)::r,y,u=>if Nat.ble y x then (if Nat.beq x y then (y,u)::r else (y,u)::(x,v)::r) else (x,v)::sS r y u
def uR (m x:Nat):Bool:=Nat.beq (Nat.land (Nat.shiftRight m x) 1) 1
noncomputable def dB (fr:aO) (m:Nat):aO:=List.rec (motive:=fun _=>aO) [] (fun p _ ih=>Prod.rec (motive:=fun _=>aO) (fun x _=>Bool.rec (motive:=fun _=>aO) (p::ih) ih (Nat.beq (Nat.land (Nat.shiftRight m x) 1) 1)) p) fr

structure bw where
 state:LoopState
 pending:Option Code
 fn:FuncId
 nt:Nat
 fr:aO
 params:List Tmp
 assign:Code
 body:Code

inductive aj where
 | dead
 | row (r:Row)
 | map (es:List (AV×AV))
 | fmap (h:Int→Bool) (g:Int→Int) (c:Nat)
 | loop (l:bw)

structure b6 where
 lock:Bool
 bs:List (Nat×aj)
abbrev ae:=List b6

def aE:List (Nat×aj)→Nat→Nat×aj
 | [],_=>(0,.dead)
 | b::_,0=>b
 | _::r,i+1=>aE r i
def cC:List (Nat×aj)→Nat→Nat×aj→List (Nat×aj)
 | [],_,_=>[]
 | _::r,0,x=>x::r
 | b::r,i+1,x=>b::cC r i x
def aN:ae→Nat→Nat→Nat×aj
 | [],_,_=>(0,.dead)
 | l::_,0,i=>aE l.bs i
 | _::r,d+1,i=>aN r d i
def aY:ae→Nat→Bool
 | [],_=>true
 | l::_,0=>l.lock
 | _::r,d+1=>aY r d
def eK:ae→Nat→Nat→Nat×aj→ae
 | [],_,_,_=>[]
 | l::r,0,i,x=>{ l with bs:=cC l.bs i x } :: r
 | l::r,d+1,i,x=>l::eK r d i x
def dQ (H:ae) (d i:Nat):ae:=eK H d i ((aN H d i).1,.dead)
def jl:ae→aj→ae
 | [],b=>[⟨false,[(0,b)]⟩]
 | l::r,b=>{ l with bs:=l.bs++[(0,b)] } :: r
def cF:ae→Nat→aj→ae
 | [],_,_=>[]
 | l::r,0,b=>{ l with bs:=l.bs++[(0,b)] } :: r
 | l::r,d+1,b=>l::cF r d b
def aA:ae→Nat→Nat
 | [],_=>0
 | l::_,0=>l.bs.length
 | _::r,d+1=>aA r d
def bm:ae→Nat
 | []=>0
 | l::_=>l.bs.length
def cY:ae→ae
 | []=>[]
 | l::r=>{ l with lock:=true } :: cY r

def eJ (H:ae) (d i v:Nat):Option Row :=
 match aN H d i with
 | (ver,.row r)=>if Nat.beq ver v then some r else none
 | _=>none

def qX:Value→AV
 | .bool b=>.bool b
 | .int k n=>.int k n
 | .string s=>.str s
 | .pointer none=>.nilp
 | .slice none 0 0=>.nils
 | .map none=>.nilm
 | .nilFunc=>.nilf
 | _=>.undef
def ki:Value→AV
 | .bool b=>.bool b
 | .int k n=>.int k n
 | .string s=>.str s
 | .pointer none=>.nilp
 | .slice none 0 0=>.nils
 | .map none=>.nilm
 | .nilFunc=>.nilf
 | .func (.func f) ca cb=>if ca.isEmpty && cb.isEmpty then .fn (.func f) [] [] else .undef
 | .agg cs=>if cs.toList.all Value.oneCell' then .agg (Row.ofList (cs.toList.map qX)) else .undef
 | .tuple cs=>if cs.isEmpty then .tup [] else .undef
 | _=>.undef

def cq (fr:aO):Operand→AV
 | .tmp t=>cD fr t
 | .const v=>ki v
 | .global _=>.undef
 | .func f=>.fn (.func f) [] []

def AV.row:AV→Option Row
 | .agg r=>some r
 | .int k n=>some (.I k [n])
 | .undef | .tup _=>none
 | v=>some (.G [v])

def fv (P:Program) (t:TypeId):Option Bool :=
 match P.underlying t with
 | some (.struct _) | some (.array _ _)=>some true
 | some _=>some false
 | none=>none
def bR (P:Program) (t:TypeId):Option Nat:=(P.info? t).map (·.size)
def dr (P:Program) (t:TypeId):Option AV:=((P.info? t).bind (·.zero)).map ki

inductive Delta where
 | bO
 | push (b:aj)
 | set (d i:Nat) (b:Nat×aj)
 | heap (H:ae)
def Delta.on (δ:Delta) (H:ae):ae :=
 match δ with
 | .bO=>H
 | .push b=>jl H b
 | .set d i b=>eK H d i b
 | .heap H=>H

inductive Lx where
 | fn (f:FuncId)
 | round (d i:Nat)
 | mode
abbrev bG:=Lx→List AV→ae→Option (AV×ae)

def ig (op:BinOp) (k:IntKind) (x y:Int):Option AV :=
 match op with
 | .add=>some (.int k (k.wrap (x+y)))
 | .sub=>some (.int k (k.wrap (x-y)))
 | .mul=>some (.int k (k.wrap (x*y)))
 | .quo=>if y=0 then none else some (.int k (k.wrap (x.tdiv y)))
 | .rem=>if y=0 then none else some (.int k (x.tmod y))
 | .and=>some (.int k (k.wrap (BitVec.ofInt k.bits x &&& BitVec.ofInt k.bits y).toNat))
 | .or=>some (.int k (k.wrap (BitVec.ofInt k.bits x ||| BitVec.ofInt k.bits y).toNat))
 | .xor=>some (.int k (k.wrap (BitVec.ofInt k.bits x ^^^ BitVec.ofInt k.bits y).toNat))
 | .andNot=>some (.int k (k.wrap (BitVec.ofInt k.bits x &&& ~~~(BitVec.ofInt k.bits y)).toNat))
 | .eql=>some (.bool (x == y))
 | .neq=>some (.bool (x != y))
 | .lss=>some (.bool (x<y))
 | .leq=>some (.bool (x≤y))
 | .gtr=>some (.bool (x > y))
 | .geq=>some (.bool (x≥y))
 | _=>none

def gf (P:Program) (g:TypeId→Option Nat) (off:Nat):List Field→Option Nat
 | []=>some off
 | f::fs=>if f.name != "_" && Nat.beq f.offset off then (match g f.type with
   | some s=>gf P g (off+s) fs
   | none=>none) else none
def cE (P:Program):Nat→TypeId→Option Nat
 | 0,_=>none
 | n + 1,t=>match P.underlying t with
   | some (.int _)=>if bR P t=some 1 then some 1 else none
   | some (.array len e)=>match cE P n e with
     | some s=>if bR P t=some (len*s) then some (len*s) else none
     | none=>none
   | some (.struct fs)=>if P.stoodInHeld t then none else match gf P (cE P n) 0 fs.toList with
     | some s=>if bR P t=some s then some s else none
     | none=>none
   | _=>none

def fo:List Int→List Int→Bool
 | [],[]=>true
 | x::a,y::b=>(x == y) && fo a b
 | _,_=>false

def allEq (z z':Nat→Int):Nat→Bool
 | 0=>true
 | n+1=>allEq z z' n && (z n == z' n)
def IA (P:Program) (t:TypeId) (r s:Row):Option Bool :=
 match r.ints,s.ints with
 | some (k,z),some (k',z')=>if k=k'∧cE P 20 t=some r.len∧fv P t=some true∧r.len=s.len then some (allEq z z' r.len) else none
 | _,_=>none
def xT (P:Program) (t:TypeId) (x y:AV):Option Bool :=
 match x,y with
 | .bool a,.bool b=>(match P.underlying t with | some .bool=>some (a == b) | _=>none)
 | .nils,.nils | .nils,.slcT .. | .nils,.slc .. | .slcT ..,.nils | .slc ..,.nils =>
   (match P.underlying t with
   | some (.slice _)=>(match x,y with
     | .nils,.nils=>some true
     | .nils,.slcT _ _ _ n _=>if 0<n then some false else none
     | .slcT _ _ _ n _,.nils=>if 0<n then some false else none
     | _,_=>some false)
   | _=>none)
 | .nilp,.nilp | .nilp,.ptr .. | .nilp,.ptrT .. | .ptr ..,.nilp | .ptrT ..,.nilp =>
   (match P.underlying t with
   | some (.pointer _)=>some (match x,y with | .nilp,.nilp=>true | _,_=>false)
   | _=>none)
 | .agg (.I k a),.agg (.I k' b)=>if k=k'∧cE P 20 t=some a.length∧fv P t=some true∧a.length=b.length then some (fo a b) else none
 | .agg (.M l),.agg s=>IA P t (.M l) s
 | .agg (.I k a),.agg (.M l)=>IA P t (.I k a) (.M l)
 | _,_=>none

def jM (P:Program) (op:BinOp) (t:TypeId) (x y:AV):Option AV :=
 match op,x,y with
 | .shl,.int k a,.int _ b=>if b<0 then none else some (.int k (k.wrap (a*2 ^ (min b.toNat k.bits))))
 | .shr,.int k a,.int _ b=>if b<0 then none else some (.int k (a.fdiv (2 ^ (min b.toNat k.bits))))
 | op,.int k a,.int k' b=>if k=k' then ig op k a b else none
 | .eql,x,y=>(xT P t x y).map .bool
 | .neq,x,y=>(xT P t x y).map fun b=>.bool (!b)
 | _,_,_=>none

def Lu (op:UnOp) (x:AV):Option AV :=
 match op,x with
 | .not,.bool b=>some (.bool !b)
 | .neg,.int k n=>some (.int k (k.wrap (0-n)))
 | _,_=>none

def nh {α:Type} (l:List α):Nat→List α
 | 0=>[]
 | n+1=>l++nh l n
def ef (z:Row) (n:Nat):Row :=
 match z with
 | .I k l=>.I k (nh l n)
 | z=>.G (nh z.toList n)
def Cd (l:List AV) (n:Nat):Row :=
 match l with
 | [v]=>if g8 v then .F (fun _=>v) n else .G (nh l n)
 | l=>.G (nh l n)
def dL (z:Row) (n:Nat):Row :=
 match z with
 | .I k l=>if vL l then .M [.arr k (fun _=>0) (n*l.length)] else .I k (nh l n)
 | z=>Cd z.toList n
def j6 (r:Row):Row :=
 match r with
 | .I k l=>if Nat.ble 4 l.length then .M [.arr k (Lv l) l.length] else .I k l
 | .G l=>if (ik l.length l).length == l.length then .G l else .M (ik l.length l)
 | r=>r
def vR (z:Nat→Int) (off:Nat) (z':Nat→Int) (n:Nat):Nat→Int:=fun i=>if off≤i∧i<off+n then z' (i-off) else z i
def xf:List aC→Nat→Nat→List aC→Option (List aC)
 | [],_,_,_=>none
 | .one v::r,o+1,n,q=>(xf r o n q).map (.one v::·)
 | .one _::_,0,_,_=>none
 | .arr k z m::r,o,n,q=>if Nat.beq o 0 && Nat.beq m n then some (q++r) else if Nat.ble m o then (xf r (o-m) n q).map (.arr k z m::·) else none
def Gn (q:Row):Option (List aC) :=
 match j6 q with
 | .M l=>some l
 | _=>none
def u9 (l:List aC) (off:Nat) (q:Row):Row :=
 if Nat.ble 9 q.len then (match Gn q with
  | some qs=>if Nat.beq off 0 && Nat.beq (aM l) q.len then .M qs else (match xf l off q.len qs with
    | some l'=>.M l'
    | none=>(Row.M l).cR off q.toList)
  | none=>(Row.M l).cR off q.toList)
 else (Row.M l).cR off q.toList
def jD (r:Row) (off:Nat) (q:Row):Row :=
 match r with
 | .M l=>(match l with
   | [.arr k z m]=>(match q with
     | .M [.arr k' z' n]=>if k'=k then .M [.arr k (vR z off z' n) m] else u9 l off q
     | _=>u9 l off q)
   | _=>u9 l off q)
 | r=>r.cR off q.toList
def pQ:AV→Bool
 | .slcT none (.M [.arr _ _ _]) _ _ _=>true
 | .slcT none (.I _ _) _ _ _=>true
 | _=>false
def rn (sy:Bool) (r:Row):Row :=
 match r with
 | .I k l=>if sy then .M [.arr k (fun j=>l.getD j 0) l.length] else .I k l
 | .G [v]=>if sy && pQ v then .F (fun _=>mE v) 1 else .G [v]
 | r=>r
def rm (place:Nat→Option (Nat×Nat)) (r:Row):List (Nat×AV)→Option Row
 | []=>some r
 | (i,v)::rest=>match place i with
   | none=>none
   | some (off,size)=>match v.row with
     | some q=>if q.len=size∧off+q.len≤r.len then rm place (r.cR off q.toList) rest else none
     | none=>none

def jq (P:Program) (t:TypeId) (r:Row) (off:Nat):Option AV :=
 match fv P t,bR P t with
 | some true,some n=>if off+n≤r.len then some (.agg (r.cut off n)) else none
 | some false,_=>if off<r.len then some (r.get off) else none
 | _,_=>none

def Pt (s:Option Nat) (v:AV):AV :=
 match s with
 | none=>v
 | some k=>xU k v

def oo (P:Program) (H:ae) (t:TypeId) (a:AV):Option AV :=
 match a with
 | .ptr d i v off=>match eJ H d i v with
   | some r=>(jq P t r off).map (xU d)
   | none=>none
 | .ptrT s r off=>(jq P t r off).map (Pt s)
 | _=>none

def gE (P:Program) (H:ae) (t:TypeId) (a x:AV):Option Delta :=
 match a with
 | .ptr d i v off =>
   if aY H d then none else
   match eJ H d i v,bR P t,x.row with
   | some r,some n,some q =>
     if q.len=n∧off+n≤r.len then
      match d,x with
      | d+1,.slc 0 j w o sz len cap=>if aY H 0 then none else match eJ H 0 j w with
        | some q=>some (.heap (cF (eK (dQ H 0 j) (d+1) i (v,.row (r.set off (.slc 0 (aA H (d+1)) 0 o sz len cap)))) (d+1) (.row (mz (d+1) q))))
        | none=>none
      | _,_=>some (.set d i (v,.row (jD r off (mz d q))))
     else none
   | _,_,_=>none
 | _=>none

def kG (P:Program):List Field→Option (List (Nat×Nat))
 | []=>some []
 | f::fs=>match bR P f.type,kG P fs with
   | some n,some l=>some ((f.offset,n)::l)
   | _,_=>none

def ux (P:Program) (sy:Bool) (t:TypeId) (parts:List (Nat×AV)):Option AV :=
 match dr P t,P.underlying t with
 | some (.agg z),some (.struct fs)=>match kG P fs.toList with
   | some l=>(rm (fun i=>l[i]?) (if sy then j6 z else z) parts).map .agg
   | none=>none
 | some (.agg z),some (.array _ e)=>match bR P e with
   | some n=>(rm (fun i=>some (i*n,n)) (if sy then j6 z else z) parts).map .agg
   | none=>none
 | _,_=>none

def kU (a:AV) (n:Nat):Option AV :=
 match a with
 | .ptr d i v off=>some (.ptr d i v (off+n))
 | .ptrT s r off=>some (.ptrT s r (off+n))
 | _=>none

def iM (P:Program) (t:TypeId) (a:AV) (f:Nat):Option AV :=
 match P.underlying t with
 | some (.struct fs)=>match fs[f]? with
   | some g=>match bR P g.type with
     | some (_+1)=>kU a g.offset
     | _=>none
   | none=>none
 | _=>none

def iQ (P:Program) (t:TypeId) (x:AV) (i:Int):Option AV :=
 match P.underlying t,x with
 | some (.array n e),x=>match bR P e with
   | some z=>if 0≤i∧i<n then kU x (i.toNat*z) else none
   | none=>none
 | some (.slice e),.slc d j v off sz len _ =>
   if 0≤i∧i<len∧bR P e=some sz then some (.ptr d j v (off+i.toNat*sz)) else none
 | some (.slice e),.slcT s r sz len _ =>
   if 0≤i∧i<len∧bR P e=some sz then some (.ptrT s r (i.toNat*sz)) else none
 | _,_=>none

def yl (P:Program) (t:TypeId) (x:AV) (i:Int):Option AV :=
 match P.underlying t,x with
 | some (.array n e),.agg r=>match bR P e with
   | some z=>if 0≤i∧i<n then jq P e r (i.toNat*z) else none
   | none=>none
 | some .string,.str s=>if 0≤i then (match s[i.toNat]? with
   | some b=>some (.int .u8 b.toNat)
   | none=>none) else none
 | _,_=>none

def uD (P:Program) (t:TypeId) (x:AV) (f:Nat):Option AV :=
 match P.underlying t,x with
 | some (.struct fs),.agg r=>match fs[f]? with
   | some g=>jq P g.type r g.offset
   | none=>none
 | _,_=>none

def bound (o:Option AV) (dflt top:Nat):Option Nat :=
 match o with
 | none=>some dflt
 | some (.int _ i)=>if 0≤i∧i≤top then some i.toNat else none
 | some _=>none

def eD (lo hi mx:Option AV) (len:Nat):Option (Nat×Nat×Option Nat) :=
 match mx with
 | none=>match bound hi len len with
   | some h=>match bound lo 0 h with
     | some l=>some (l,h,none)
     | none=>none
   | none=>none
 | some a=>match bound (some a) 0 len with
   | some m=>if hi.isSome then (match bound hi len m with
     | some h=>match bound lo 0 h with
       | some l=>some (l,h,some m)
       | none=>none
     | none=>none) else none
   | none=>none

def pt (P:Program) (t:TypeId) (x:AV) (lo hi mx:Option AV):Option AV :=
 match P.underlying t,x with
 | some (.slice e),.slc d j v off sz len cap =>
   match eD lo hi mx len with
   | some (l,h,mm)=>if bR P e=some sz then
      some (.slc d j v (off+l*sz) sz (h-l) (match mm with | none=>cap.map (· - l) | some m=>some (m-l))) else none
   | none=>none
 | some (.slice e),.slcT s r sz len full =>
   match eD lo hi mx len with
   | some (l,h,mm)=>if bR P e=some sz∧l*sz+(h-l)*sz≤r.len then
      some (.slcT s (r.sub (l*sz) ((h-l)*sz)) sz (h-l) (match mm with | none=>full && Nat.beq h len | some m=>Nat.beq h m)) else none
   | none=>none
 | some (.slice e),.nils =>
   match eD lo hi mx 0,bR P e with
   | some _,some _=>some .nils
   | _,_=>none
 | some (.array n e),.ptr d j v off =>
   match eD lo hi mx n with
   | some (l,h,mm)=>match bR P e with
     | some sz=>some (.slc d j v (off+l*sz) sz (h-l) (match mm with | none=>some (n-l) | some m=>some (m-l)))
     | none=>none
   | none=>none
 | _,_=>none

def sZ (P:Program) (H:ae) (t:TypeId) (x:AV):Option Int :=
 match P.underlying t,x with
 | some (.array n _),_=>some n
 | some (.slice _),.nils=>some 0
 | some (.slice _),.slc _ _ _ _ _ len _=>some len
 | some (.slice _),.slcT _ _ _ len _=>some len
 | some (.map _ _),.nilm=>some 0
 | some (.map _ _),.map d i=>match aN H d i with
   | (0,.map es)=>some es.length
   | (0,.fmap _ _ c)=>some c
   | _=>none
 | _,_=>none

def eM (H:ae) (sz n:Nat) (x:AV):Option Row :=
 match x with
 | .nils=>if n=0 then some (.G []) else none
 | .slc d i v off sz' len _=>match eJ H d i v with
   | some r=>if sz'=sz∧n≤len∧off+n*sz≤r.len then some (yN d (r.sub off (n*sz))) else none
   | none=>none
 | .slcT s r sz' len _=>if sz'=sz∧n≤len∧n*sz≤r.len then some (match s with | none=>r.sub 0 (n*sz) | some k=>yN k (r.sub 0 (n*sz))) else none
 | _=>none
def mX:AV→Option Nat
 | .nils=>some 0
 | .slc _ _ _ _ _ len _=>some len
 | .slcT _ _ _ len _=>some len
 | _=>none

def room:Nat:=2 ^ 46

def nB      (P:Program) (sy:Bool) (H:ae) (nx:Nat) (t u:TypeId) (s x:AV):Option (AV×Delta) :=
 match P.underlying t,P.underlying u with
 | some (.slice e),some (.slice _) =>
   match P.info? e,mX s,mX x with
   | some inf,some m,some n =>
     if n=0 then (match s,x with
      | .nils,_=>some (s,.bO)
      | .slc ..,_=>some (s,.bO)
      | .slcT ..,_=>some (s,.bO)
      | _,_=>none)
     else if (m+n)*inf.bytes≤room∧(m+n)≤room∧0<inf.bytes∧((dr P e).bind AV.row).map Row.len=some inf.size then
      match eM H inf.size n x with
      | none=>none
      | some new =>
        match s with
        | .nils=>some (.slc 0 nx 0 0 inf.size n none,.push (.row (rn sy new)))
        | .slcT _ _ _ _ true=>match eM H inf.size m s with
          | some old=>some (.slc 0 nx 0 0 inf.size (m+n) none,.push (.row (rn sy (old.app new))))
          | none=>none
        | .slc d i v off sz _ (some c) =>
          if c<m+n then
           match eM H inf.size m s with
           | some old=>some (.slc 0 nx 0 0 inf.size (m+n) none,.push (.row (rn sy (old.app new))))
           | none=>none
          else if aY H d then none else
           match eJ H d i v with
           | some r=>if sz=inf.size∧off+(m+n)*sz≤r.len then
              some (.slc d i v off sz (m+n) (some c),.set d i (v,.row (r.cR (off+m*sz) (mz d new).toList)))
             else none
           | none=>none
        | .slc d i v off sz _ none =>
          if aY H d then none else
          match eJ H d i v with
          | some r=>if sz=inf.size∧off+m*sz=r.len then
             some (.slc d i (v+1) 0 sz (m+n) none,.set d i (v+1,.row ((r.sub off (m*sz)).app (mz d new))))
            else none
          | none=>none
        | _=>none
     else none
   | _,_,_=>none
 | _,_=>none

def copyV (P:Program) (H:ae) (t:TypeId) (s x:AV):Option (AV×Delta) :=
 match P.underlying t with
 | some (.slice e) =>
   match bR P e,mX s,mX x with
   | some z,some m,some n =>
     match eM H z (min n m) x with
     | none=>none
     | some new =>
       match s with
       | .nils=>some (.int .i64 (min n m:Nat),.bO)
       | .slc d i v off sz _ _ =>
         if aY H d then none else
         match eJ H d i v with
         | some r=>if sz=z∧off+(min n m)*sz≤r.len then
            some (.int .i64 (min n m:Nat),.set d i (v,.row (jD r off (mz d new))))
           else none
         | none=>none
       | _=>none
   | _,_,_=>none
 | _=>none

def qU (P:Program) (H:ae) (t:TypeId) (s:AV):Option (AV×Delta) :=
 match P.underlying t,s with
 | some (.slice _),.nils=>some (.tup [],.bO)
 | some (.slice e),.slc d i v off sz len _ =>
   if aY H d then none else
   match (dr P e).bind AV.row,eJ H d i v with
   | some z,some r=>if z.len=sz∧bR P e=some sz∧off+len*sz≤r.len then
      some (.tup [],if len=0 then .bO else .set d i (v,.row (if wE r then jD r off (dL z len) else r.cR off (ef z len).toList)))
     else none
   | _,_=>none
 | _,_=>none

def eU (mx:Bool) (k:IntKind) (x:Int):List AV→Option AV
 | []=>some (.int k x)
 | .int k' y::r=>if k=k' then eU mx k (if mx then (if y > x then y else x) else (if y<x then y else x)) r else none
 | _=>none
def m6 (mx:Bool):List AV→Option AV
 | .int k x::r=>eU mx k x r
 | _=>none

def iR (P:Program) (sy:Bool) (nx:Nat) (t:TypeId) (l c:AV):Option (AV×Delta) :=
 match P.underlying t,l,c with
 | some (.slice e),.int _ l,.int _ c =>
   match P.info? e,(dr P e).bind AV.row with
   | some inf,some z =>
     if 0≤l∧l≤c∧c.toNat*inf.bytes≤room∧c.toNat≤room∧z.len=inf.size then
      some (.slc 0 nx 0 0 inf.size l.toNat (some c.toNat),.push (.row (if sy then dL z c.toNat else ef z c.toNat)))
     else none
   | _,_=>none
 | _,_,_=>none

def jf (P:Program) (nx:Nat) (t:TypeId) (len:Nat) (parts:List (Nat×AV)):Option (AV×Delta) :=
 match P.underlying t with
 | some (.slice e)=>match bR P e,(dr P e).bind AV.row with
   | some z,some zv =>
     if len*z≤2 ^ 24∧zv.len=z then
      (rm (fun i=>some (i*z,z)) (ef zv len) parts).map fun r=>(.slc 0 nx 0 0 z len (some len),.push (.row r))
     else none
   | _,_=>none
 | _=>none

def oj (x y:AV):Option Bool :=
 match x,y with
 | .int k a,.int k' b=>if k=k' then some (a == b) else none
 | .agg (.I k a),.agg (.I k' b)=>if k=k'∧a.length=b.length then some (fo a b) else none
 | _,_=>none
def gd (key:AV):List (AV×AV)→Nat→Option (Option Nat)
 | [],_=>some none
 | (k,_)::r,i=>match oj key k with
   | some true=>some (some i)
   | some false=>gd key r (i+1)
   | none=>none
def jC (P:Program) (t:TypeId) (x:AV):Bool :=
 match P.underlying t,x with
 | some (.int _),.int _ _=>true
 | some (.array _ _),.agg (.I _ l)=>cE P 20 t == some l.length
 | some (.struct _),.agg (.I _ l)=>cE P 20 t == some l.length
 | _,_=>false
def tE (H:ae) (m:AV):Option (Nat×List (AV×AV)) :=
 match m with
 | .nilm=>some (0,[])
 | .map d i=>match aN H d i with
   | (0,.map es)=>some (d,es)
   | _=>none
 | _=>none
def na:List (AV×AV)→Nat→AV
 | [],_=>.undef
 | e::_,0=>e.2
 | _::r,i+1=>na r i
def nm:List (AV×AV)→Nat→AV×AV→List (AV×AV)
 | [],_,_=>[]
 | _::r,0,x=>x::r
 | e::r,i+1,x=>e::nm r i x
def mR:List (AV×AV)→Nat→List (AV×AV)
 | [],_=>[]
 | _::r,0=>r
 | e::r,i+1=>e::mR r i
def tI (H:ae) (m:AV):Option ((Int→Bool)×(Int→Int)×Nat) :=
 match m with
 | .map d i=>match aN H d i with
   | (0,.fmap h g c)=>some (h,g,c)
   | _=>none
 | _=>none
def rL:AV→Option Int
 | .agg (.I .i64 [n])=>some n
 | _=>none
def w6:AV→Option Int
 | .int .i64 n=>some n
 | _=>none
def di (h:Int→Bool) (n:Int) (b:Bool):Int→Bool:=fun i=>if i=n then b else h i
def gq (g:Int→Int) (n x:Int):Int→Int:=fun i=>if i=n then x else g i
def qh (b:Bool) (c:Nat):Nat:=cond b c (c+1)
def sR (b:Bool) (c:Nat):Nat:=cond b (c-1) c
def r4 (P:Program) (t:TypeId):aj :=
 match P.underlying t with
 | some (.map kt et)=>match (dr P kt).bind rL,(dr P et).bind w6 with
   | some _,some _=>.fmap (fun _=>false) (fun _=>0) 0
   | _,_=>.map []
 | _=>.map []
def qy (P:Program) (H:ae) (t:TypeId) (m key:AV) (ok:Bool):Option AV :=
 match P.underlying t with
 | some (.map kt et) =>
   if jC P kt key then
    match tI H m with
    | some (h,g,_)=>match rL key,(dr P et).bind w6 with
      | some n,some 0=>some (if ok then .tup [.int .i64 (g n),.bool (h n)] else .int .i64 (g n))
      | _,_=>none
    | none=>match tE H m,dr P et with
    | some (d,es),some z=>match gd key es 0 with
      | some (some i)=>some (if ok then .tup [xU d (na es i),.bool true] else xU d (na es i))
      | some none=>some (if ok then .tup [z,.bool false] else z)
      | none=>none
    | _,_=>none
   else none
 | _=>none
def jv (P:Program) (H:ae) (t:TypeId) (m key x:AV):Option Delta :=
 match P.underlying t,m with
 | some (.map kt _),.map d i =>
   if aY H d then none else
   if jC P kt key then
    match aN H d i with
    | (0,.fmap h g c)=>match rL key,w6 x with
      | some n,some y=>some (.set d i (0,.fmap (di h n true) (gq g n y) (qh (h n) c)))
      | _,_=>none
    | (0,.map es)=>match gd key es 0 with
      | some (some j)=>some (.set d i (0,.map (nm es j (key,Ml d x))))
      | some none=>some (.set d i (0,.map (es++[(key,Ml d x)])))
      | none=>none
    | _=>none
   else none
 | _,_=>none
def nF (P:Program) (H:ae) (t:TypeId) (m key:AV):Option (AV×Delta) :=
 match P.underlying t,m with
 | some (.map kt _),.map d i =>
   if aY H d then none else
   if jC P kt key then
    match aN H d i with
    | (0,.fmap h g c)=>match rL key with
      | some n=>some (.tup [],.set d i (0,.fmap (di h n false) (gq g n 0) (sR (h n) c)))
      | none=>none
    | (0,.map es)=>match gd key es 0 with
      | some (some j)=>some (.tup [],.set d i (0,.map (mR es j)))
      | some none=>some (.tup [],.set d i (0,.map es))
      | none=>none
    | _=>none
   else none
 | _,_=>none

def dY (fr:aO):List (Nat×Operand)→List (Nat×AV)
 | []=>[]
 | (i,x)::r=>(i,cq fr x)::dY fr r
def kF (fr:aO):List Operand→List AV
 | []=>[]
 | x::r=>cq fr x::kF fr r

def mw {α:Type} (call:bG) (a b:α):α :=
 match call .mode [] [] with
 | some _=>a
 | none=>b
def gR (P:Program) (call:bG) (fr:aO) (H:ae) (nx:Nat) (c:Call):Option (AV×Delta) :=
 match c.callee with
 | .value f=>match cq fr f with
   | .fn (.func g) a b=>(call (.fn g) (a++(kF fr c.args.toList++b)) H).map fun (v,H)=>(v,.heap H)
   | .yld d i=>(call (.round d i) (kF fr c.args.toList) H).map fun (v,H)=>(v,.heap H)
   | _=>none
 | .builtin .len=>match c.args.toList,c.argTypes.toList with
   | x::_,t::_=>(sZ P H t (cq fr x)).map fun n=>(.int .i64 n,.bO)
   | _,_=>none
 | .builtin .append=>match c.args.toList,c.argTypes.toList with
   | s::x::_,t::u::_=>nB P (mw call true false) H nx t u (cq fr s) (cq fr x)
   | _,_=>none
 | .builtin .copy=>match c.args.toList,c.argTypes.toList with
   | s::x::_,t::_=>copyV P H t (cq fr s) (cq fr x)
   | _,_=>none
 | .builtin .clear=>match c.args.toList,c.argTypes.toList with
   | s::_,t::_=>qU P H t (cq fr s)
   | _,_=>none
 | .builtin .delete=>match c.args.toList,c.argTypes.toList with
   | m::k::_,t::_=>nF P H t (cq fr m) (cq fr k)
   | _,_=>none
 | .builtin .min=>(m6 false (kF fr c.args.toList)).map fun v=>(v,.bO)
 | .builtin .max=>(m6 true (kF fr c.args.toList)).map fun v=>(v,.bO)
 | _=>none

def kp (o:Option AV):Option (AV×Delta):=o.map fun v=>(v,.bO)

def evalOp (P:Program) (call:bG) (fr:aO) (H:ae) (nx:Nat) (o:Oper):Option (AV×Delta) :=
 match o.op with
 | .move x | .assign x=>some (cq fr x,.bO)
 | .pick c a b=>match cq fr c with
   | .bool t=>some (if t then cq fr a else cq fr b,.bO)
   | _=>none
 | .alloc t=>((dr P t).bind AV.row).map fun z=>(.ptr 0 nx 0 0,.push (.row (mw call (j6 z) z)))
 | .box _ x=>(cq fr x).row.map fun r=>(.ptr 0 nx 0 0,.push (.row (mw call (j6 r) r)))
 | .build t parts=>kp (ux P (mw call true false) t (dY fr parts.toList))
 | .buildSlice t len parts=>jf P nx t len (dY fr parts.toList)
 | .load t a=>kp (oo P H t (cq fr a))
 | .store t a x=>(gE P H t (cq fr a) (cq fr x)).map fun δ=>(.tup [],δ)
 | .nilCheck x=>match cq fr x with
   | .ptr d i v off=>some (.ptr d i v off,.bO)
   | .ptrT s r off=>some (.ptrT s r off,.bO)
   | _=>none
 | .binOp op t x y _=>kp (jM P op t (cq fr x) (cq fr y))
 | .unOp op _ x=>kp (Lu op (cq fr x))
 | .convert src dst x=>match P.underlying src,P.underlying dst,cq fr x with
   | some _,some (.int k),.int _ n=>some (.int k (k.wrap n),.bO)
   | _,_,_=>none
 | .makeFunc fn first cap=>match fn with
   | .func g=>some (.fn (.func g) (kF fr first.toList) (kF fr cap.toList),.bO)
   | _=>none
 | .makeSlice t l c=>iR P (mw call true false) nx t (cq fr l) (cq fr c)
 | .slice t x lo hi mx=>kp (pt P t (cq fr x) (lo.map (cq fr)) (hi.map (cq fr)) (mx.map (cq fr)))
 | .fieldAddr t x f=>kp (iM P t (cq fr x) f)
 | .field t x f=>kp (uD P t (cq fr x) f)
 | .indexAddr t x i=>match cq fr i with
   | .int _ n=>kp (iQ P t (cq fr x) n)
   | _=>none
 | .index t x i=>match cq fr i with
   | .int _ n=>kp (yl P t (cq fr x) n)
   | _=>none
 | .makeMap t none=>some (.map 0 nx,.push (mw call (r4 P t) (.map [])))
 | .lookup t m k ok=>kp (qy P H t (cq fr m) (cq fr k) ok)
 | .mapUpdate t m k x | .insert t m k x=>(jv P H t (cq fr m) (cq fr k) (cq fr x)).map fun δ=>(.tup [],δ)
 | .extract t ix=>match cq fr t with
   | .tup l=>match l[ix]? with
     | some v=>some (v,.bO)
     | none=>none
   | _=>none
 | .call c=>gR P call fr H nx c
 | _=>none

inductive Want where
 | run | skip | lost
def lP (ops:Array Oper) (fr:aO) (o:Oper):Want :=
 match o.guard with
 | none=>.run
 | some (j,want)=>match (ops[j]?).bind (·.dst) with
   | none=>.lost
   | some d=>match cD fr d with
     | .bool b=>if b == want then .run else .skip
     | .tup _=>.skip
     | _=>.lost

def mq (nt:Nat) (fr:aO) (dst:Option Tmp) (v:AV):aO :=
 match dst with
 | some d=>if Nat.blt d nt then sS fr d v else fr
 | none=>fr

def lM (P:Program) (nt:Nat) (call:bG) (ops:Array Oper):List Oper→aO→ae→Option (aO×ae)
 | [],fr,H=>some (fr,H)
 | o :: r,fr,H=>match lP ops fr o with
   | .lost=>none
   | .skip=>lM P nt call ops r (mq nt fr o.dst (.tup [])) H
   | .run=>match evalOp P call fr H (bm H) o with
     | none=>none
     | some (v,δ)=>lM P nt call ops r (mq nt fr o.dst v) (δ.on H)

inductive Touch where
 | none
 | blk (d i:Nat)
 | all
structure Rec where
 ix:Nat
 reads:Touch
 writes:Option (Nat×Nat)
def cV (fr:aO) (o:Oper):Touch :=
 let at' (v:AV):Touch:=match v with
  | .ptr d i _ _=>.blk d i
  | .slc d i _ _ _ _ _=>.blk d i
  | .map d i=>.blk d i
  | _=>.none
 match o.op with
 | .load _ a=>at' (cq fr a)
 | .store _ a _=>at' (cq fr a)
 | .lookup _ m _ _=>at' (cq fr m)
 | .mapUpdate _ m _ _ | .insert _ m _ _=>at' (cq fr m)
 | .call c=>match c.callee with
   | .builtin .len=>match c.args.toList with
     | x::_=>match cq fr x with | .map d i=>.blk d i | _=>.none
     | _=>.all
   | .builtin .min | .builtin .max=>.none
   | _=>.all
 | _=>.none
def dm (H:ae) (bef:Nat):List Rec→ae
 | []=>H
 | r::l=>match r.writes with
   | some (d,i)=>if bef.testBit r.ix then dm H bef l else dm (dQ H d i) bef l
   | none=>dm H bef l
def j0 (bef:Nat) (d i:Nat):List Rec→Bool
 | []=>true
 | r::l=>(bef.testBit r.ix || (match r.reads with
   | .none=>true
   | .blk e j=>!(Nat.beq e d && Nat.beq j i)
   | .all=>false)) && j0 bef d i l

def jo (o:Oper):Bool :=
 match o.op with
 | .alloc _ | .box _ _ | .buildSlice _ _ _ | .makeSlice _ _ _ | .makeMap _ _=>true
 | .call c=>match c.callee with
   | .builtin .append=>true
   | _=>false
 | _=>false
def db:List Oper→Nat
 | []=>0
 | o::r=>if jo o then db r+1 else db r
def oc:ae→Nat→ae
 | [],_=>[]
 | l::r,k=>{ l with bs:=l.bs++List.replicate k (0,.dead) } :: r
def lF:aj→Bool
 | .dead=>true
 | _=>false
def qw:Nat×aj→Bool
 | (0,.dead)=>true
 | _=>false
def fC (o:Oper):Bool :=
 match o.op with
 | .call c=>match c.callee with
   | .value _=>true
   | _=>false
 | _=>false
def ql (H:ae):Option (Nat×Nat×(Nat×aj))→ae
 | none=>H
 | some (d,i,b)=>eK H d i b
structure sN where
 v:AV
 rd:Touch
 wr:Option (Nat×Nat×(Nat×aj))
def gT (P:Program) (call:bG) (ops:Array Oper) (bef:Nat) (fr:aO) (H:ae) (nx:Nat) (recs:List Rec) (o:Oper):Option sN :=
 match lP ops fr o with
 | .lost=>none
 | .skip=>some ⟨.tup [],.none,none⟩
 | .run =>
   if fC o then match evalOp P call fr (cY (dm H bef recs)) nx o with
    | some (v,_)=>some ⟨v,.all,none⟩
    | none=>none
   else match evalOp P call fr (dm H bef recs) nx o with
    | some (v,.bO)=>some ⟨v,cV fr o,none⟩
    | some (v,.push b)=>if jo o && !lF b && qw (aN H 0 nx) && !aY H 0 then some ⟨v,cV fr o,some (0,nx,(0,b))⟩ else none
    | some (v,.set d i b)=>if !lF b.2 && (Nat.beq b.1 (aN H d i).1 || Nat.beq b.1 (Nat.succ (aN H d i).1)) && !lF (aN (dm H bef recs) d i).2 && j0 bef d i recs then some ⟨v,cV fr o,some (d,i,b)⟩ else none
    | _=>none

def gG (P:Program) (nt:Nat) (call:bG) (ops:Array Oper) (befs:Array Nat):Nat→List Oper→aO→ae→Nat→List Rec→Option (aO×ae)
 | _,[],fr,H,_,_=>some (fr,H)
 | j,o::r,fr,H,nx,recs=>match gT P call ops (befs.getD j 0) fr H nx recs o with
   | some e=>gG P nt call ops befs (j+1) r (mq nt fr o.dst e.v) (ql H e.wr) (if jo o then nx+1 else nx) (⟨j,e.rd,e.wr.map fun x=>(x.1,x.2.1)⟩::recs)
   | none=>none

def gr (ops:Array Oper) (befs:Array Nat):Bool :=
 ops.toList.zipIdx.all fun (o,j)=>Nat.blt (befs.getD j 0) (2 ^ j) &&
  ops.toList.zipIdx.all fun (q,i) =>
   Nat.beq i j || (match q.dst with
   | none=>true
   | some d=>(o.dst != some d) && (!(o.looksAt ops).contains d || (befs.getD j 0).testBit i || (befs.getD i 0).testBit j))

inductive Ex where
 | normal | exit (id:Nat) | goto (l:Nat) | ret

def zC:Option Nat→Bool
 | some 0=>true
 | _=>false
def kS (n:Nat):AV→Bool
 | .ptr d i _ _=>Nat.beq d 0 && Nat.ble n i
 | .slc d i _ _ _ _ _=>Nat.beq d 0 && Nat.ble n i
 | .map d i=>Nat.beq d 0 && Nat.ble n i
 | .yld d i=>Nat.beq d 0 && Nat.ble n i
 | .ptrT s _ _=>zC s
 | .slcT s _ _ _ _=>zC s
 | .agg (.G _)=>true
 | .agg (.M l)=>!gy l
 | .fn _ _ _=>true
 | .tup (_::_)=>true
 | _=>false
def anyM (f:AV→Bool):List aC→Bool
 | []=>false
 | .one v::r=>f v || anyM f r
 | .arr _ _ _::r=>anyM f r
def Bh (n:Nat):AV→Bool
 | .agg (.G l)=>l.any (kS n)
 | .agg (.M l)=>anyM (kS n) l
 | .fn _ a b=>a.any (kS n) || b.any (kS n)
 | .ptrT (some 0) (.M l) _=>anyM (kS n) l
 | v=>kS n v
def NZ (n:Nat):Row→Bool
 | .I .. | .F ..=>false
 | .G l=>l.any (Bh n)
 | .M l=>anyM (Bh n) l
def CY (n:Nat):aj→Bool
 | .dead=>false
 | .row r=>NZ n r
 | .map _=>true
 | .fmap _ _ _=>false
 | .loop _=>true
def cutAt (fr:aO) (l:b6) (r:ae):Nat→Nat→ae
 | 0,_=>l::r
 | k+1,m=>if fr.any (fun x=>Bh m x.2) || (l.bs.take m).any (fun x=>CY m x.2) then cutAt fr l r k (m+1) else { l with bs:=l.bs.take m } :: r
def qZ (n:Nat) (fr:aO) (H:ae):ae :=
 match H with
 | []=>[]
 | l::r=>if Nat.ble l.bs.length n then H else cutAt fr l r 4 n

def tp (h:Nat):AV→Bool
 | .ptr d i _ _=>Nat.beq d 0 && Nat.beq i h
 | .slc d i _ _ _ _ _=>Nat.beq d 0 && Nat.beq i h
 | .map d i=>Nat.beq d 0 && Nat.beq i h
 | .yld d i=>Nat.beq d 0 && Nat.beq i h
 | v=>kS 0 v
def sP (f:AV→Bool) (v:AV):Bool :=
 match v with
 | .agg (.G l)=>l.any f
 | .agg (.M l)=>anyM f l
 | .fn _ a b=>a.any f || b.any f
 | v=>f v
def IP (f:AV→Bool):Row→Bool
 | .I .. | .F ..=>false
 | .G l=>l.any (sP f)
 | .M l=>anyM (sP f) l
def x0 (f:AV→Bool):aj→Bool
 | .dead=>false
 | .row r=>IP f r
 | .map _=>true
 | .fmap _ _ _=>false
 | .loop _=>true
def tc (a b:Nat):AV→AV
 | .ptr d i v off=>if Nat.beq d 0 && Nat.beq i a then .ptr 0 b v off else .ptr d i v off
 | .slc d i v off sz len cap=>if Nat.beq d 0 && Nat.beq i a then .slc 0 b v off sz len cap else .slc d i v off sz len cap
 | .map d i=>if Nat.beq d 0 && Nat.beq i a then .map 0 b else .map d i
 | .yld d i=>if Nat.beq d 0 && Nat.beq i a then .yld 0 b else .yld d i
 | v=>v
def mn (g:AV→AV) (v:AV):AV :=
 match v with
 | .agg (.G l)=>.agg (.G (l.map g))
 | .agg (.M l)=>.agg (.M (mapM' g l))
 | .fn f a b=>.fn f (a.map g) (b.map g)
 | v=>g v
def Cv (g:AV→AV):Row→Row
 | .I k l=>.I k l
 | .F f n=>.F f n
 | .G l=>.G (l.map (mn g))
 | .M l=>.M (mapM' (mn g) l)
def pe (g:AV→AV):aj→aj
 | .row r=>.row (Cv g r)
 | b=>b
def pf (g:AV→AV):aO→aO
 | []=>[]
 | (x,v)::r=>(x,mn g v)::pf g r
def jn (g:AV→AV):List (Nat×aj)→List (Nat×aj)
 | []=>[]
 | (v,b)::r=>(v,pe g b)::jn g r
def hole (fr:aO) (bs:List (Nat×aj)):Nat→Nat→Option Nat
 | 0,_=>none
 | k+1,m=>if Nat.blt (m+1) bs.length then
    if fr.any (fun x=>sP (tp m) x.2) || ((bs.take m).any (fun x=>x0 (tp m) x.2) || (bs.drop (m+1)).any (fun x=>x0 (tp m) x.2)) then hole fr bs k (m+1) else some m
   else none
def vD (a b:Nat) (l:b6):b6:={ l with bs:=cC (jn (tc a b) (l.bs.take a)) b ((aE l.bs a).1,pe (tc a b) (aE l.bs a).2) }
def jG (n:Nat):Nat→aO→ae→aO×ae
 | 0,fr,H=>(fr,H)
 | k + 1,fr,H=>match H with
   | []=>(fr,[])
   | l::r=>match hole fr l.bs 4 n with
     | none=>(fr,l::r)
     | some h=>jG n k (pf (tc (l.bs.length-1) h) fr) (qZ n (pf (tc (l.bs.length-1) h) fr) (vD (l.bs.length-1) h l::r))
def tidy (n:Nat) (fr:aO) (H:ae):aO×ae:=jG n 4 fr (qZ n fr H)

def mj (i ver:Nat) (r:Row):AV→AV
 | .ptr d j v off=>if Nat.beq d 0 && (Nat.beq j i && Nat.beq v ver) then .ptrT none r off else .ptr d j v off
 | .slc d j v off sz len cap=>if Nat.beq d 0 && (Nat.beq j i && (Nat.beq v ver && Nat.ble (off+len*sz) r.len)) then .slcT none (r.sub off (len*sz)) sz len (cap == some len) else .slc d j v off sz len cap
 | v=>v
def ug (i:Nat):AV→Bool
 | .slc d j _ _ _ _ _=>Nat.beq d 0 && Nat.beq j i
 | _=>false
def uK:Row→Bool
 | .I _ _=>true
 | .M [.arr _ _ _]=>true
 | _=>false
def HX (f:AV→Bool):aj→Bool
 | .row r=>IP f r
 | _=>false
def pO (i:Nat) (fr:aO) (l:b6):aO×b6 :=
 match aE l.bs i with
 | (ver,.row r)=>if uK r && (fr.any (fun x=>sP (ug i) x.2) || l.bs.any (fun x=>HX (ug i) x.2)) then (pf (mj i ver r) fr,{ l with bs:=cC (jn (mj i ver r) l.bs) i (ver,.dead) }) else (fr,l)
 | _=>(fr,l)
def iP:Nat→aO→b6→aO×b6
 | 0,fr,l=>(fr,l)
 | n+1,fr,l=>pO n (iP n fr l).1 (iP n fr l).2
def A1 (fr:aO) (H:ae):aO×ae :=
 match H with
 | []=>(fr,[])
 | l::r=>if l.lock then (fr,l::r) else ((iP l.bs.length fr l).1,(iP l.bs.length fr l).2::r)
def J0 (sz:Nat):AV→AV
 | .nils=>.slcT none (.M [.arr .i64 (fun _=>0) 0]) sz 0 false
 | v=>v
def Bb (sz:Nat):Nat→List AV→List AV
 | _,[]=>[]
 | 0,v::l=>J0 sz v::l
 | c+1,v::l=>v::Bb sz c l
def te (c sz:Nat):aj→aj
 | .row (.G l)=>.row (.G (Bb sz c l))
 | B=>B
def lJ (c sz:Nat):List (Nat×aj)→List (Nat×aj)
 | []=>[]
 | (v,B)::r=>(v,te c sz B)::lJ c sz r
def CH (k:Nat) (H:ae):ae :=
 match H with
 | []=>[]
 | l::r=>if l.lock then l::r else { l with bs:=lJ (k % 8) (k / 8) l.bs } :: r
noncomputable def oe (m:Nat) (fr:aO) (H:ae):aO×ae:=if uR m 4000 then ((A1 (dB fr m) H).1,if Nat.beq (Nat.shiftRight m 4003) 0 then (A1 (dB fr m) H).2 else CH (Nat.shiftRight m 4003) (A1 (dB fr m) H).2) else (dB fr m,H)

def iter (body:aO→ae→Option (Ex×aO×ae)) (n:Nat):Nat→aO→ae→Option (Ex×aO×ae)
 | 0,_,_=>none
 | fu+1,fr,H=>match body fr H with
   | some (.normal,fr,H)=>iter body n fu (tidy n fr H).1 (tidy n fr H).2
   | r=>r

structure Cx where
 P:Program
 call:bG
 fu:Nat
 fn:FuncId
 nt:Nat
 kt:Nat→Nat
 ro:Option (Nat×Nat)
def Cx.here (cx:Cx) (H:ae):Bool :=
 match cx.ro with
 | none=>true
 | some (d,i)=>match aN H d i with
   | (0,.loop _)=>true
   | _=>false

def iV (fr:aO) (H:ae) (cx:Cx) (params:Array Tmp) (assign body:Code):ae :=
 jl H (.loop { state:=.ready,pending:=none,fn:=cx.fn,nt:=cx.nt,fr,params:=params.toList,assign,body })

def vV:Option Code→Option Ex
 | none=>some .normal
 | some (.exit id)=>some (.exit id)
 | some (.goto l)=>some (.goto l)
 | some .ret=>some .ret
 | _=>none

noncomputable def exec (cx:Cx):Code→aO→ae→Option (Ex×aO×ae)
 | .skip,fr,H=>some (.normal,fr,H)
 | .label _,fr,H=>some (.normal,fr,H)
 | .region id ops draw,fr,H =>
   match (if draw then (if gr ops (Region.before ops) then gG cx.P cx.nt cx.call ops (Region.before ops) 0 ops.toList fr (oc H (db ops.toList)) (bm H) [] else none) else lM cx.P cx.nt cx.call ops ops.toList fr H) with
   | some (fr,H)=>some (.normal,oe (cx.kt id) fr H)
   | none=>none
 | .seq a b,fr,H=>match exec cx a fr H with
   | some (.normal,fr,H)=>exec cx b fr H
   | r=>r
 | .cond c a b,fr,H=>match cq fr c with
   | .bool true=>exec cx a fr H
   | .bool false=>exec cx b fr H
   | _=>none
 | .block id b,fr,H=>match exec cx b fr H with
   | some (.exit id',fr,H)=>if Nat.beq id' id then some (.normal,fr,H) else some (.exit id',fr,H)
   | r=>r
 | .loop b,fr,H=>iter (exec cx b) (bm H) cx.fu fr H
 | .rangeFunc f params assign body,fr,H =>
   match cq fr f with
   | .fn (.func g) a b =>
     if !cx.here H || aY H 0 then none else
     match cx.call (.fn g) (a++(.yld 0 (bm H)::b)) (iV fr H cx params assign body) with
     | some (_,H1)=>match aN H1 0 (bm H) with
       | (0,.loop l) =>
         if l.state == .busy then none else
         match vV l.pending with
         | some e=>some (e,fr,dQ H1 0 (bm H))
         | none=>none
       | _=>none
     | none=>none
   | _=>none
 | .exit id,fr,H=>some (.exit id,fr,H)
 | .scope b,fr,H=>match exec cx b fr H with
   | some (.goto _,_,_)=>none
   | r=>r
 | .goto l,fr,H=>some (.goto l,fr,H)
 | .ret,fr,H=>some (.ret,fr,H)
 | .refuse _,_,_=>none

def eI   (bs:List (Nat×aj)):Nat→AV→AV
 | 0,_=>.undef
 | n + 1,v=>match v with
   | .ptr d i ver off=>match d with
     | d+1=>.ptr d i ver off
     | 0 => match aE bs i with
       | (w,.row r)=>if Nat.beq w ver then (match r with
         | .I k l=>.ptrT none (.I k l) off
         | .F f m=>.ptrT none (.F f m) off
         | .M l=>if gy l then .ptrT none (.M l) off else .ptrT (some 0) (.M (mapM' (eI bs n) l)) off
         | .G l=>.ptrT (some 0) (.G (l.map (eI bs n))) off) else .undef
       | _=>.undef
   | .slc d i ver off sz len cap=>match d with
     | d+1=>.slc d i ver off sz len cap
     | 0 => match aE bs i with
       | (w,.row r)=>if Nat.beq w ver∧off+len*sz≤r.len then (match r.sub off (len*sz) with
         | .I k l=>.slcT none (.I k l) sz len (cap == some len)
         | .F f m=>.slcT none (.F f m) sz len (cap == some len)
         | .M l=>if gy l then .slcT none (.M l) sz len (cap == some len) else .slcT (some 0) (.M (mapM' (eI bs n) l)) sz len (cap == some len)
         | .G l=>.slcT (some 0) (.G (l.map (eI bs n))) sz len (cap == some len)) else .undef
       | _=>.undef
   | .ptrT s r off=>match s with
     | none=>.ptrT none r off
     | some (s+1)=>.ptrT (some s) r off
     | some 0=>match r with
       | .G l=>.ptrT (some 0) (.G (l.map (eI bs n))) off
       | .M l=>if gy l then .ptrT none (.M l) off else .ptrT (some 0) (.M (mapM' (eI bs n) l)) off
       | r=>.ptrT none r off
   | .slcT s r sz len full=>match s with
     | none=>.slcT none r sz len full
     | some (s+1)=>.slcT (some s) r sz len full
     | some 0=>match r with
       | .G l=>.slcT (some 0) (.G (l.map (eI bs n))) sz len full
       | .M l=>if gy l then .slcT none (.M l) sz len full else .slcT (some 0) (.M (mapM' (eI bs n) l)) sz len full
       | r=>.slcT none r sz len full
   | .map d i=>match d with
     | d+1=>.map d i
     | 0=>.undef
   | .yld d i=>match d with
     | d+1=>.yld d i
     | 0=>.undef
   | .fn f a b=>.fn f (a.map (eI bs n)) (b.map (eI bs n))
   | .agg r=>match r with
     | .G l=>.agg (.G (l.map (eI bs n)))
     | .M l=>.agg (.M (mapM' (eI bs n) l))
     | r=>.agg r
   | .tup l=>.tup (l.map (eI bs n))
   | v=>v

def kX:Nat→List AV→aO
 | _,[]=>[]
 | x,v::l=>(x,xU 1 v)::kX (x+1) l

def mr (P:Program) (fr:aO) (H:ae):List ResultVar→Option (List AV)
 | []=>some []
 | .tmp t::r=>(mr P fr H r).map (cD fr t::·)
 | .cell a t::r=>match oo P H t (cD fr a) with
   | some v=>(mr P fr H r).map (v::·)
   | none=>none
def one:List AV→AV
 | [v]=>v
 | l=>.tup l

def oA (nt:Nat) (fr:aO):List Tmp→List AV→Option aO
 | [],[]=>some fr
 | t::ts,v::vs=>if Nat.blt t nt then oA nt (sS fr t v) ts vs else none
 | _,_=>none

def fm:Ex→Option Code
 | .normal=>none
 | .exit id=>some (.exit id)
 | .goto l=>some (.goto l)
 | .ret=>some .ret

def qc (k:Nat):aO→aO
 | []=>[]
 | (x,v)::r=>(x,xU k v)::qc k r

noncomputable def dN (P:Program) (ora:bG→FuncId→List AV→ae→Option (AV×ae)) (KT:FuncId→Nat→Nat) (fu:Nat):Nat→bG
 | _,.mode,_,_=>(ora (fun _ _ _=>none) 1000000 [] []).map fun _=>(.undef,[])
 | 0,_,_,_=>none
 | n + 1,.fn f,args,H=>match ora (dN P ora KT fu n) f args H with
   | some r=>some r
   | none => match P.funcs[f]? with
     | none=>none
     | some fn=>match fn.body with
       | none=>none
       | some c=>if Nat.ble args.length fn.ntmps then
         match exec ⟨P,dN P ora KT fu n,fu,f,fn.ntmps,KT f,none⟩ c (kX 0 args) (⟨false,[]⟩::H) with
         | some (e,fr,l::H') =>
           (match e with
           | .normal | .ret=>match mr P fr (l::H') fn.results.toList with
             | some vs=>some (eI l.bs 5 (one vs),H')
             | none=>none
           | _=>none)
         | _=>none
         else none
 | n + 1,.round  d i,args,H=>match aN H d i with
   | (0, .loop l) =>
     if aY H d then none else
     match l.state with
     | .ready => match oA l.nt (qc (d+1) l.fr) l.params (args.map (xU 1)) with
       | some fr => match exec ⟨P,dN P ora KT fu n,fu,l.fn,l.nt,KT l.fn,some (d+1,i)⟩ l.assign fr (⟨false,[]⟩::H) with
         | some (.normal,fr,H1)=>match aN H1 (d+1) i with
           | (0, .loop l1)=>match l1.state with
             | .ready =>
               match exec ⟨P,dN P ora KT fu n,fu,l.fn,l.nt,KT l.fn,some (d+1,i)⟩ l.body fr (eK H1 (d+1) i (0,.loop { l1 with state:=.busy })) with
               | some (e,_,_::H2)=>match aN H2 d i with
                 | (0,.loop l2)=>some (.bool (fm e).isNone,eK H2 d i (0,.loop { l2 with state:=if (fm e).isNone then .ready else .done,pending:=fm e }))
                 | _=>none
               | _=>none
             | _=>none
           | _=>none
         | _=>none
       | none=>none
     | _=>none
   | _=>none

end Go.Eng
