/- The engine, part A: abstract values, the abstract heap, the abstract interpreter. No statement is proved here. -/
import Derived.RangeFuncLeaves
import Derived.Test.YtgphpjdchnfjlaaDoorV5EngGl
import Derived.OrdersIn
import Derived.RangeFuncRecord
namespace Go.Eng
theorem wO {p:Prop} (h:p:=by omega):p:=h
theorem nP:(∀ {α:Type} (a b:α),(some a=some b)=(a=b))∧(∀ {α β:Type} (a c:α) (b d:β),((a,b)=(c,d))=(a=c∧b=d)):=⟨fun _ _=>Option.some.injEq _ _,fun _ _ _ _=>Prod.mk.injEq _ _ _ _⟩

mutual
inductive AV where
 | undef
 | bool (b:Bool)
 | int (k:IntKind) (n:Int)
 | str (s:ByteArray)
 | nilp | nils | nilm | nilf
 | ptr (d i v off:Nat)
 | ptrT (s:Option Nat) (r:Row) (off:Nat)
 | slc (d i v off sz len:Nat) (cap:Option Nat)
 | slcT (s:Option Nat) (r:Row) (sz len:Nat) (full:Bool)
 | map (d i:Nat)
 | yld (d i:Nat)
 | fn (f:Fn) (first cap:List AV)
 | agg (r:Row)
 | tup (l:List AV)
inductive Row where
 | I (k:IntKind) (l:List Int)
 | G (l:List AV)
 | F (f:Nat→AV) (n:Nat)
 | M (l:List da)
inductive da where
 | one (v:AV)
 | arr (k:IntKind) (z:Nat→Int) (n:Nat)
end

instance:Inhabited AV:=⟨.undef⟩
instance:Inhabited Row:=⟨.G []⟩

def aV:da→Nat
 | .one _=>1
 | .arr _ _ n=>n
def aE:List da→Nat
 | []=>0
 | s::r=>aV s+aE r
def getM:List da→Nat→AV
 | [],_=>.undef
 | .one v::_,0=>v
 | .one _::r,j+1=>getM r j
 | .arr k z n::r,j=>if j<n then .int k (z j) else getM r (j-n)
def mapM' (f:AV→AV):List da→List da
 | []=>[]
 | .one v::r=>.one (f v)::mapM' f r
 | .arr k z n::r=>.arr k z n::mapM' f r
def fU:List da→Bool
 | []=>true
 | .one _::_=>false
 | .arr _ _ _::r=>fU r
def Row.len:Row→Nat
 | .I _ l=>l.length
 | .G l=>l.length
 | .F _ n=>n
 | .M l=>aE l
def Row.get:Row→Nat→AV
 | .I k l,j=>.int k (l.getD j 0)
 | .G l,j=>l.getD j .undef
 | .F f _,j=>f j
 | .M l,j=>getM l j

def dM (g:Nat→AV):Nat→Nat→List AV
 | _,0=>[]
 | o,n+1=>g o::dM g (o+1) n
def Row.toList:Row→List AV
 | .I k l=>l.map (.int k)
 | .G l=>l
 | .F f n=>dM f 0 n
 | .M l=>dM (getM l) 0 (aE l)
def Row.ints:Row→Option (IntKind×(Nat→Int))
 | .I k l=>some (k,fun j=>l.getD j 0)
 | .M [.arr k z _]=>some (k,z)
 | _=>none
def yS:Row→Bool
 | .M _=>true
 | _=>false
def qI:List AV→List da→List da
 | [],r=>r
 | v::l,r=>.one v::qI l r
def ka:List da→Nat→AV→List da
 | [],_,_=>[]
 | .one _::r,0,v=>.one v::r
 | .one u::r,j+1,v=>.one u::ka r j v
 | .arr k z n::r,j,v=>if j<n then (match v with
    | .int k' x=>if k'=k then .arr k (fun i=>if i=j then x else z i) n::r else qI (dM (fun i=>if i=j then v else .int k (z i)) 0 n) r
    | _=>qI (dM (fun i=>if i=j then v else .int k (z i)) 0 n) r)
   else .arr k z n::ka r (j-n) v
def ye:List Int→Bool
 | []=>true
 | x::l=>x == 0 && ye l
def QS (l:List Int):Nat→Int:=if ye l then fun _=>0 else fun j=>l.getD j 0
def dB (k:IntKind):List AV→List Int×List AV
 | .int k' n::r=>if k'=k then (match dB k r with | (a,b)=>(n::a,b)) else ([],.int k' n::r)
 | l=>([],l)
def iK:Nat→List AV→List da
 | 0,l=>qI l []
 | _,[]=>[]
 | f+1,.int k n::r=>match dB k r with
   | (a,b)=>if Nat.ble 7 a.length then .arr k (QS (n::a)) (a.length+1)::iK f b else .one (.int k n)::iK f r
 | f+1,v::r=>.one v::iK f r

def te (k:IntKind):List AV→Option (List Int)
 | []=>some []
 | .int k' n::r=>if k'=k then (te k r).map (n::·) else none
 | _=>none
def Row.ofList:List AV→Row
 | .int k n::r=>match te k r with
   | some l=>.I k (n::l)
   | none=>.G (.int k n::r)
 | l=>.G l

def lM:List da→Nat→Nat→Option (IntKind×(Nat→Int))
 | [],_,_=>none
 | .one _::r,o+1,n=>lM r o n
 | .one _::_,0,_=>none
 | .arr k z m::r,o,n=>if o+n≤m then some (k,fun j=>z (o+j)) else if m≤o then lM r (o-m) n else none
def Row.sub (r:Row) (o n:Nat):Row :=
 match r with
 | .I k l=>.I k ((l.drop o).take n)
 | .G l=>.G ((l.drop o).take n)
 | .F f _=>.F (fun j=>f (o+j)) n
 | .M [.arr k z _]=>.M [.arr k (fun j=>z (o+j)) n]
 | .M l=>if Nat.beq o 0 && Nat.beq (aE l) n then .M l else match lM l o n with
   | some (k,z)=>.M [.arr k z n]
   | none=>.G (dM (getM l) o n)

def iu:AV→Bool
 | .undef | .bool _ | .int _ _ | .str _ | .nilp | .nils | .nilm | .nilf=>true
 | .ptrT s _ _=>s.isNone
 | .slcT s _ _ _ _=>s.isNone
 | .agg (.I ..) | .agg (.F ..)=>true
 | .agg (.M l)=>fU l
 | _=>false

def Row.cut (r:Row) (o n:Nat):Row :=
 match r with
 | .G l=>Row.ofList ((l.drop o).take n)
 | .M l=>if Nat.ble n 8 then Row.ofList (dM (getM l) o n) else if Nat.beq o 0 && Nat.beq (aE l) n then .M l else (Row.M l).sub o n
 | r=>r.sub o n

def Row.set (r:Row) (j:Nat) (v:AV):Row :=
 match r,v with
 | .I k l,.int k' n=>if k'=k then .I k (l.set j n) else .G ((l.map (.int k)).set j v)
 | .I k l,v=>.G ((l.map (.int k)).set j v)
 | .G l,v=>.G (l.set j v)
 | .F f n,v=>.F (fun i=>if i=j then (if iu v then v else .undef) else f i) n
 | .M l,v=>.M (ka l j v)
def Row.cX (r:Row) (j:Nat):List AV→Row
 | []=>r
 | v::l=>(r.set j v).cX (j+1) l
def Row.uX (r s:Row):Option Row :=
 match r.ints,s.ints with
 | some (k,z),some (k',z')=>if k'=k then some (.M [.arr k (fun i=>if i<r.len then z i else z' (i-r.len)) (r.len+s.len)]) else none
 | _,_=>none
def jM:AV→AV
 | .slcT none (.I k l) sz m _=>.slcT none (.M [.arr k (fun j=>l.getD j 0) l.length]) sz m false
 | .slcT none (.M [.arr k z n]) sz m _=>.slcT none (.M [.arr k z n]) sz m false
 | v=>v
def rj (n i:Nat):Nat:=if Nat.beq n 1 then 0 else i
def Row.app (r s:Row):Row :=
 match r,s with
 | .M l,s=>(match (Row.M l).uX s with | some q=>q | none=>.G ((Row.M l).toList++s.toList))
 | .I k l,.M m=>(match (Row.I k l).uX (.M m) with | some q=>q | none=>.G ((Row.I k l).toList++(Row.M m).toList))
 | .I k l,.I k' l'=>if k'=k then .I k (l++l') else .G (l.map (.int k)++l'.map (.int k'))
 | .F f n,s=>.F (fun i=>if Nat.blt i n then f i else if iu (s.get (rj s.len (i-n))) then jM (s.get (rj s.len (i-n))) else .undef) (n+s.len)
 | r,s=>.G (r.toList++s.toList)

def oQ (k:Nat):AV→AV
 | .ptr d i v off=>.ptr (d+k) i v off
 | .ptrT s r off=>.ptrT (s.map (· + k)) r off
 | .slc d i v off sz len cap=>.slc (d+k) i v off sz len cap
 | .slcT s r sz len full=>.slcT (s.map (· + k)) r sz len full
 | .map d i=>.map (d+k) i
 | .yld d i=>.yld (d+k) i
 | .agg (.I a l)=>.agg (.I a l)
 | .fn _ _ _ | .agg _ | .tup (_::_)=>.undef
 | v=>v
def QB (k:Nat) (v:AV):AV :=
 match v with
 | .fn f a b=>.fn f (a.map (oQ k)) (b.map (oQ k))
 | .agg (.G l)=>.agg (.G (l.map (oQ k)))
 | .agg (.M l)=>.agg (.M (mapM' (oQ k) l))
 | .agg r=>.agg r
 | v=>oQ k v
def mf (k:Nat) (v:AV):AV :=
 match k with
 | 0=>v
 | k+1=>QB (k+1) v
def Cm (k:Nat):Row→Row
 | .I a l=>.I a l
 | .G l=>.G (l.map (oQ k))
 | .F f n=>.F f n
 | .M l=>.M (mapM' (oQ k) l)
def Cl (k:Nat) (r:Row):Row :=
 match k with
 | 0=>r
 | k+1=>Cm (k+1) r
def kQ:Nat→Nat→AV→AV
 | 0,_,_=>.undef
 | n + 1,k,v=>match v with
   | .ptr d i v off=>if Nat.blt d k then .undef else .ptr (d-k) i v off
   | .ptrT none r off=>.ptrT none r off
   | .ptrT (some s) r off=>if Nat.blt s k then (match r with
     | .G l=>.ptrT (some 0) (.G (l.map (kQ n (k-s)))) off
     | .M l=>if fU l then .ptrT none (.M l) off else .ptrT (some 0) (.M (mapM' (kQ n (k-s)) l)) off
     | r=>.ptrT none r off) else .ptrT (some (s-k)) r off
   | .slc d i v off sz len cap=>if Nat.blt d k then .undef else .slc (d-k) i v off sz len cap
   | .slcT none r sz len full=>.slcT none r sz len full
   | .slcT (some s) r sz len full=>if Nat.blt s k then (match r with
     | .G l=>.slcT (some 0) (.G (l.map (kQ n (k-s)))) sz len full
     | .M l=>if fU l then .slcT none (.M l) sz len full else .slcT (some 0) (.M (mapM' (kQ n (k-s)) l)) sz len full
     | r=>.slcT none r sz len full) else .slcT (some (s-k)) r sz len full
   | .map d i=>if Nat.blt d k then .undef else .map (d-k) i
   | .yld d i=>if Nat.blt d k then .undef else .yld (d-k) i
   | .agg (.I a l)=>.agg (.I a l)
   | .fn _ _ _ | .agg _ | .tup (_::_)=>.undef
   | v=>v
def OF (k:Nat) (v:AV):AV :=
 match v with
 | .fn f a b=>.fn f (a.map (kQ 4 k)) (b.map (kQ 4 k))
 | .agg (.G l)=>.agg (.G (l.map (kQ 4 k)))
 | .agg (.M l)=>.agg (.M (mapM' (kQ 4 k) l))
 | .agg r=>.agg r
 | v=>kQ 4 k v
def Rl (k:Nat) (v:AV):AV :=
 match k with
 | 0=>v
 | k+1=>OF (k+1) v
def wS (k:Nat):Row→Row
 | .I a l=>.I a l
 | .G l=>.G (l.map (kQ 4 k))
 | .F f n=>.F f n
 | .M l=>.M (mapM' (kQ 4 k) l)

def jA (k:Nat) (r:Row):Row :=
 match k with
 | 0=>r
 | k+1=>wS (k+1) r

abbrev aD:=List (Nat×AV)
def bM:aD→Nat→AV
 | [],_=>.undef
 | (x,v)::r,y=>if Nat.beq x y then v else bM r y
def u9:aD→Nat→AV→aD
 | [],y,u=>[(y,u)]
 | (x,v)::r,y,u=>if Nat.ble y x then (if Nat.beq x y then (y,u)::r else (y,u)::(x,v)::r) else (x,v)::u9 r y u
def l6 (m x:Nat):Bool:=Nat.beq (Nat.land (Nat.shiftRight m x) 1) 1
noncomputable def bV (fr:aD) (m:Nat):aD:=List.rec (motive:=fun _=>aD) [] (fun p _ ih=>Prod.rec (motive:=fun _=>aD) (fun x _=>Bool.rec (motive:=fun _=>aD) (p::ih) ih (Nat.beq (Nat.land (Nat.shiftRight m x) 1) 1)) p) fr

structure gu where
 state:LoopState
 pending:Option Code
 fn:FuncId
 nt:Nat
 fr:aD
 params:List Tmp
 assign:Code
 body:Code

inductive KK where
 | num (k:IntKind)
 | str (n:Nat)
inductive al where
 | dead
 | row (r:Row)
 | map (es:List (AV×AV))
 | fmap (q:KK) (h:List Int→Bool) (g:List Int→Int) (c:Nat)
 | loop (l:gu)

structure bC where
 lock:Bool
 bs:List (Nat×al)
abbrev aa:=List bC

def ay:List (Nat×al)→Nat→Nat×al
 | [],_=>(0,.dead)
 | b::_,0=>b
 | _::r,i+1=>ay r i
def bO:List (Nat×al)→Nat→Nat×al→List (Nat×al)
 | [],_,_=>[]
 | _::r,0,x=>x::r
 | b::r,i+1,x=>b::bO r i x
def aB:aa→Nat→Nat→Nat×al
 | [],_,_=>(0,.dead)
 | l::_,0,i=>ay l.bs i
 | _::r,d+1,i=>aB r d i
def aM:aa→Nat→Bool
 | [],_=>true
 | l::_,0=>l.lock
 | _::r,d+1=>aM r d
def dD:aa→Nat→Nat→Nat×al→aa
 | [],_,_,_=>[]
 | l::r,0,i,x=>{ l with bs:=bO l.bs i x } :: r
 | l::r,d+1,i,x=>l::dD r d i x
def dR (H:aa) (d i:Nat):aa:=dD H d i ((aB H d i).1,.dead)
def jH:aa→al→aa
 | [],b=>[⟨false,[(0,b)]⟩]
 | l::r,b=>{ l with bs:=l.bs++[(0,b)] } :: r
def bE:aa→Nat→al→aa
 | [],_,_=>[]
 | l::r,0,b=>{ l with bs:=l.bs++[(0,b)] } :: r
 | l::r,d+1,b=>l::bE r d b
def ar:aa→Nat→Nat
 | [],_=>0
 | l::_,0=>l.bs.length
 | _::r,d+1=>ar r d
def a6:aa→Nat
 | []=>0
 | l::_=>l.bs.length
def bK:aa→aa
 | []=>[]
 | l::r=>{ l with lock:=true } :: bK r

def c8 (H:aa) (d i v:Nat):Option Row :=
 match aB H d i with
 | (ver,.row r)=>if Nat.beq ver v then some r else none
 | _=>none

def sH:Value→AV
 | .bool b=>.bool b
 | .int k n=>.int k n
 | .string s=>.str s
 | .pointer none=>.nilp
 | .slice none 0 0=>.nils
 | .map none=>.nilm
 | .nilFunc=>.nilf
 | _=>.undef
def kW:Value→AV
 | .bool b=>.bool b
 | .int k n=>.int k n
 | .string s=>.str s
 | .pointer none=>.nilp
 | .slice none 0 0=>.nils
 | .map none=>.nilm
 | .nilFunc=>.nilf
 | .func (.func f) ca cb=>if ca.isEmpty && cb.isEmpty then .fn (.func f) [] [] else .undef
 | .agg cs=>if cs.toList.all Value.oneCell' then .agg (Row.ofList (cs.toList.map sH)) else .undef
 | .tuple cs=>if cs.isEmpty then .tup [] else .undef
 | _=>.undef

def b5 (fr:aD):Operand→AV
 | .tmp t=>bM fr t
 | .const v=>kW v
 | .global _=>.undef
 | .func f=>.fn (.func f) [] []

def AV.row:AV→Option Row
 | .agg r=>some r
 | .int k n=>some (.I k [n])
 | .undef | .tup _=>none
 | v=>some (.G [v])

def fo (P:Program) (t:TypeId):Option Bool :=
 match P.underlying t with
 | some (.struct _) | some (.array _ _)=>some true
 | some _=>some false
 | none=>none
def bH (P:Program) (t:TypeId):Option Nat:=(P.info? t).map (·.size)
def db (P:Program) (t:TypeId):Option AV:=((P.info? t).bind (·.zero)).map kW

inductive Delta where
 | bG
 | push (b:al)
 | set (d i:Nat) (b:Nat×al)
 | heap (H:aa)
def Delta.on (δ:Delta) (H:aa):aa :=
 match δ with
 | .bG=>H
 | .push b=>jH H b
 | .set d i b=>dD H d i b
 | .heap H=>H

inductive QE where
 | fn (f:FuncId)
 | round (d i:Nat)
 | mode
abbrev aO:=QE→List AV→aa→Option (AV×aa)

def iF (op:BinOp) (k:IntKind) (x y:Int):Option AV :=
 match op with
 | .add=>some (.int k (k.wrap (x+y)))
 | .sub=>some (.int k (k.wrap (x-y)))
 | .mul=>some (.int k (k.wrap (x*y)))
 | .quo=>if y=0 then none else some (.int k (k.wrap (x.tdiv y)))
 | .rem=>if y=0 then none else some (.int k (x.tmod y))
 | .and=>some (.int k (k.wrap (BitVec.ofInt k.bits x &&& BitVec.ofInt k.bits y).toNat))
 | .or=>some (.int k (k.wrap (BitVec.ofInt k.bits x ||| BitVec.ofInt k.bits y).toNat))
 | .xor=>some (.int k (k.wrap (BitVec.ofInt k.bits x ^^^ BitVec.ofInt k.bits y).toNat))
 | .andNot=>some (.int k (k.wrap (BitVec.ofInt k.bits x &&& ~~~(BitVec.ofInt k.bits y)).toNat))
 | .eql=>some (.bool (x == y))
 | .neq=>some (.bool (x != y))
 | .lss=>some (.bool (x<y))
 | .leq=>some (.bool (x≤y))
 | .gtr=>some (.bool (x > y))
 | .geq=>some (.bool (x≥y))
 | _=>none

def fZ (P:Program) (g:TypeId→Option Nat) (off:Nat):List Field→Option Nat
 | []=>some off
 | f::fs=>if f.name != "_" && Nat.beq f.offset off then (match g f.type with
   | some s=>fZ P g (off+s) fs
   | none=>none) else none
def cG (P:Program):Nat→TypeId→Option Nat
 | 0,_=>none
 | n + 1,t=>match P.underlying t with
   | some (.int _)=>if bH P t=some 1 then some 1 else none
   | some (.array len e)=>match cG P n e with
     | some s=>if bH P t=some (len*s) then some (len*s) else none
     | none=>none
   | some (.struct fs)=>if P.stoodInHeld t then none else match fZ P (cG P n) 0 fs.toList with
     | some s=>if bH P t=some s then some s else none
     | none=>none
   | _=>none

def fi:List Int→List Int→Bool
 | [],[]=>true
 | x::a,y::b=>(x == y) && fi a b
 | _,_=>false

def allEq (z z':Nat→Int):Nat→Bool
 | 0=>true
 | n+1=>allEq z z' n && (z n == z' n)
def NR (P:Program) (t:TypeId) (r s:Row):Option Bool :=
 match r.ints,s.ints with
 | some (k,z),some (k',z')=>if k=k'∧cG P 20 t=some r.len∧fo P t=some true∧r.len=s.len then some (allEq z z' r.len) else none
 | _,_=>none
def A4 (P:Program) (t:TypeId) (x y:AV):Option Bool :=
 match x,y with
 | .bool a,.bool b=>(match P.underlying t with | some .bool=>some (a == b) | _=>none)
 | .nils,.nils | .nils,.slcT .. | .nils,.slc .. | .slcT ..,.nils | .slc ..,.nils =>
   (match P.underlying t with
   | some (.slice _)=>(match x,y with
     | .nils,.nils=>some true
     | .nils,.slcT _ _ _ n _=>if 0<n then some false else none
     | .slcT _ _ _ n _,.nils=>if 0<n then some false else none
     | _,_=>some false)
   | _=>none)
 | .nilp,.nilp | .nilp,.ptr .. | .nilp,.ptrT .. | .ptr ..,.nilp | .ptrT ..,.nilp =>
   (match P.underlying t with
   | some (.pointer _)=>some (match x,y with | .nilp,.nilp=>true | _,_=>false)
   | _=>none)
 | .agg (.I k a),.agg (.I k' b)=>if k=k'∧cG P 20 t=some a.length∧fo P t=some true∧a.length=b.length then some (fi a b) else none
 | .agg (.M l),.agg s=>NR P t (.M l) s
 | .agg (.I k a),.agg (.M l)=>NR P t (.I k a) (.M l)
 | _,_=>none

def kn (P:Program) (op:BinOp) (t:TypeId) (x y:AV):Option AV :=
 match op,x,y with
 | .shl,.int k a,.int _ b=>if b<0 then none else some (.int k (k.wrap (a*2 ^ (min b.toNat k.bits))))
 | .shr,.int k a,.int _ b=>if b<0 then none else some (.int k (a.fdiv (2 ^ (min b.toNat k.bits))))
 | op,.int k a,.int k' b=>if k=k' then iF op k a b else none
 | .eql,x,y=>(A4 P t x y).map .bool
 | .neq,x,y=>(A4 P t x y).map fun b=>.bool (!b)
 | _,_,_=>none

def QR (op:UnOp) (x:AV):Option AV :=
 match op,x with
 | .not,.bool b=>some (.bool !b)
 | .neg,.int k n=>some (.int k (k.wrap (0-n)))
 | _,_=>none

def oJ {α:Type} (l:List α):Nat→List α
 | 0=>[]
 | n+1=>l++oJ l n
def ep (z:Row) (n:Nat):Row :=
 match z with
 | .I k l=>.I k (oJ l n)
 | z=>.G (oJ z.toList n)
def Gj (l:List AV) (n:Nat):Row :=
 match l with
 | [v]=>if iu v then .F (fun _=>v) n else .G (oJ l n)
 | l=>.G (oJ l n)
def dU (z:Row) (n:Nat):Row :=
 match z with
 | .I k l=>if ye l then .M [.arr k (fun _=>0) (n*l.length)] else .I k (oJ l n)
 | z=>Gj z.toList n
def kO (r:Row):Row :=
 match r with
 | .I k l=>if Nat.ble 8 l.length then .M [.arr k (QS l) l.length] else .I k l
 | .G l=>if (iK l.length l).length == l.length then .G l else .M (iK l.length l)
 | r=>r
def wR (z:Nat→Int) (off:Nat) (z':Nat→Int) (n:Nat):Nat→Int:=fun i=>if off≤i∧i<off+n then z' (i-off) else z i
def zI:List da→Nat→Nat→List da→Option (List da)
 | [],_,_,_=>none
 | .one v::r,o+1,n,q=>(zI r o n q).map (.one v::·)
 | .one _::_,0,_,_=>none
 | .arr k z m::r,o,n,q=>if Nat.beq o 0 && Nat.beq m n then some (q++r) else if Nat.ble m o then (zI r (o-m) n q).map (.arr k z m::·) else none
def KS (q:Row):Option (List da) :=
 match kO q with
 | .M l=>some l
 | _=>none
def xG (l:List da) (off:Nat) (q:Row):Row :=
 if Nat.ble 9 q.len then (match KS q with
  | some qs=>if Nat.beq off 0 && Nat.beq (aE l) q.len then .M qs else (match zI l off q.len qs with
    | some l'=>.M l'
    | none=>(Row.M l).cX off q.toList)
  | none=>(Row.M l).cX off q.toList)
 else (Row.M l).cX off q.toList
def j8 (r:Row) (off:Nat) (q:Row):Row :=
 match r with
 | .M l=>(match l with
   | [.arr k z m]=>(match q with
     | .M [.arr k' z' n]=>if k'=k then .M [.arr k (wR z off z' n) m] else xG l off q
     | _=>xG l off q)
   | _=>xG l off q)
 | r=>r.cX off q.toList
def rh:AV→Bool
 | .slcT none (.M [.arr _ _ _]) _ _ _=>true
 | .slcT none (.I _ _) _ _ _=>true
 | _=>false
def rB (sy:Bool) (r:Row):Row :=
 match r with
 | .I k l=>if sy then .M [.arr k (fun j=>l.getD j 0) l.length] else .I k l
 | .G [v]=>if sy && rh v then .F (fun _=>jM v) 1 else .G [v]
 | r=>r
def sO (place:Nat→Option (Nat×Nat)) (r:Row):List (Nat×AV)→Option Row
 | []=>some r
 | (i,v)::rest=>match place i with
   | none=>none
   | some (off,size)=>match v.row with
     | some q=>if q.len=size∧off+q.len≤r.len then sO place (r.cX off q.toList) rest else none
     | none=>none

def jN (P:Program) (t:TypeId) (r:Row) (off:Nat):Option AV :=
 match fo P t,bH P t with
 | some true,some n=>if off+n≤r.len then some (.agg (r.cut off n)) else none
 | some false,_=>if off<r.len then some (r.get off) else none
 | _,_=>none

def VC (s:Option Nat) (v:AV):AV :=
 match s with
 | none=>v
 | some k=>mf k v

def pC (P:Program) (H:aa) (t:TypeId) (a:AV):Option AV :=
 match a with
 | .ptr d i v off=>match c8 H d i v with
   | some r=>(jN P t r off).map (mf d)
   | none=>none
 | .ptrT s r off=>(jN P t r off).map (VC s)
 | _=>none

def gQ (P:Program) (H:aa) (t:TypeId) (a x:AV):Option Delta :=
 match a with
 | .ptr d i v off =>
   if aM H d then none else
   match c8 H d i v,bH P t,x.row with
   | some r,some n,some q =>
     if q.len=n∧off+n≤r.len then
      match d,x with
      | d+1,.slc 0 j w o sz len cap=>if aM H 0 then none else match c8 H 0 j w with
        | some q=>some (.heap (bE (dD (dR H 0 j) (d+1) i (v,.row (r.set off (.slc 0 (ar H (d+1)) 0 o sz len cap)))) (d+1) (.row (jA (d+1) q))))
        | none=>none
      | _,_=>some (.set d i (v,.row (j8 r off (jA d q))))
     else none
   | _,_,_=>none
 | _=>none

def lH (P:Program):List Field→Option (List (Nat×Nat))
 | []=>some []
 | f::fs=>match bH P f.type,lH P fs with
   | some n,some l=>some ((f.offset,n)::l)
   | _,_=>none

def wN (P:Program) (sy:Bool) (t:TypeId) (parts:List (Nat×AV)):Option AV :=
 match db P t,P.underlying t with
 | some (.agg z),some (.struct fs)=>match lH P fs.toList with
   | some l=>(sO (fun i=>l[i]?) (if sy then kO z else z) parts).map .agg
   | none=>none
 | some (.agg z),some (.array _ e)=>match bH P e with
   | some n=>(sO (fun i=>some (i*n,n)) (if sy then kO z else z) parts).map .agg
   | none=>none
 | _,_=>none

def mh (a:AV) (n:Nat):Option AV :=
 match a with
 | .ptr d i v off=>some (.ptr d i v (off+n))
 | .ptrT s r off=>some (.ptrT s r (off+n))
 | _=>none

def jg (P:Program) (t:TypeId) (a:AV) (f:Nat):Option AV :=
 match P.underlying t with
 | some (.struct fs)=>match fs[f]? with
   | some g=>match bH P g.type with
     | some (_+1)=>mh a g.offset
     | _=>none
   | none=>none
 | _=>none

def jn (P:Program) (t:TypeId) (x:AV) (i:Int):Option AV :=
 match P.underlying t,x with
 | some (.array n e),x=>match bH P e with
   | some z=>if 0≤i∧i<n then mh x (i.toNat*z) else none
   | none=>none
 | some (.slice e),.slc d j v off sz len _ =>
   if 0≤i∧i<len∧bH P e=some sz then some (.ptr d j v (off+i.toNat*sz)) else none
 | some (.slice e),.slcT s r sz len _ =>
   if 0≤i∧i<len∧bH P e=some sz then some (.ptrT s r (i.toNat*sz)) else none
 | _,_=>none

def qu (P:Program) (t:TypeId) (x:AV) (i:Int):Option AV :=
 match P.underlying t,x with
 | some (.array n e),.agg r=>match bH P e with
   | some z=>if 0≤i∧i<n then jN P e r (i.toNat*z) else none
   | none=>none
 | some .string,.str s=>if 0≤i then (match s[i.toNat]? with
   | some b=>some (.int .u8 b.toNat)
   | none=>none) else none
 | _,_=>none

def wZ (P:Program) (t:TypeId) (x:AV) (f:Nat):Option AV :=
 match P.underlying t,x with
 | some (.struct fs),.agg r=>match fs[f]? with
   | some g=>jN P g.type r g.offset
   | none=>none
 | _,_=>none

def bound (o:Option AV) (dflt top:Nat):Option Nat :=
 match o with
 | none=>some dflt
 | some (.int _ i)=>if 0≤i∧i≤top then some i.toNat else none
 | some _=>none

def eF (lo hi mx:Option AV) (len:Nat):Option (Nat×Nat×Option Nat) :=
 match mx with
 | none=>match bound hi len len with
   | some h=>match bound lo 0 h with
     | some l=>some (l,h,none)
     | none=>none
   | none=>none
 | some a=>match bound (some a) 0 len with
   | some m=>if hi.isSome then (match bound hi len m with
     | some h=>match bound lo 0 h with
       | some l=>some (l,h,some m)
       | none=>none
     | none=>none) else none
   | none=>none

def qP (P:Program) (t:TypeId) (x:AV) (lo hi mx:Option AV):Option AV :=
 match P.underlying t,x with
 | some (.slice e),.slc d j v off sz len cap =>
   match eF lo hi mx len with
   | some (l,h,mm)=>if bH P e=some sz then
      some (.slc d j v (off+l*sz) sz (h-l) (match mm with | none=>cap.map (· - l) | some m=>some (m-l))) else none
   | none=>none
 | some (.slice e),.slcT s r sz len full =>
   match eF lo hi mx len with
   | some (l,h,mm)=>if bH P e=some sz∧l*sz+(h-l)*sz≤r.len then
      some (.slcT s (r.sub (l*sz) ((h-l)*sz)) sz (h-l) (match mm with | none=>full && Nat.beq h len | some m=>Nat.beq h m)) else none
   | none=>none
 | some (.slice e),.nils =>
   match eF lo hi mx 0,bH P e with
   | some _,some _=>some .nils
   | _,_=>none
 | some (.array n e),.ptr d j v off =>
   match eF lo hi mx n with
   | some (l,h,mm)=>match bH P e with
     | some sz=>some (.slc d j v (off+l*sz) sz (h-l) (match mm with | none=>some (n-l) | some m=>some (m-l)))
     | none=>none
   | none=>none
 | _,_=>none

def vm (P:Program) (H:aa) (t:TypeId) (x:AV):Option Int :=
 match P.underlying t,x with
 | some (.array n _),_=>some n
 | some (.slice _),.nils=>some 0
 | some (.slice _),.slc _ _ _ _ _ len _=>some len
 | some (.slice _),.slcT _ _ _ len _=>some len
 | some (.map _ _),.nilm=>some 0
 | some (.map _ _),.map d i=>match aB H d i with
   | (0,.map es)=>some es.length
   | (0,.fmap _ _ _ c)=>some c
   | _=>none
 | _,_=>none

def L4 (P:Program) (t:TypeId) (x:AV):Option Int :=
 match P.underlying t,x with
 | some (.slice _),.nils=>some 0
 | some (.slice _),.slc _ _ _ _ _ _ (some c)=>some c
 | _,_=>none

def eO (H:aa) (sz n:Nat) (x:AV):Option Row :=
 match x with
 | .nils=>if n=0 then some (.G []) else none
 | .slc d i v off sz' len _=>match c8 H d i v with
   | some r=>if sz'=sz∧n≤len∧off+n*sz≤r.len then some (Cl d (r.sub off (n*sz))) else none
   | none=>none
 | .slcT s r sz' len _=>if sz'=sz∧n≤len∧n*sz≤r.len then some (match s with | none=>r.sub 0 (n*sz) | some k=>Cl k (r.sub 0 (n*sz))) else none
 | _=>none
def ot:AV→Option Nat
 | .nils=>some 0
 | .slc _ _ _ _ _ len _=>some len
 | .slcT _ _ _ len _=>some len
 | _=>none

def room:Nat:=2 ^ 46

def FD (P:Program) (sy:Bool) (nx:Nat) (e:TypeId) (s x:AV):Option (AV×Delta) :=
 match P.info? e,s,x with
 | some inf,.nils,.int _ k =>
   if 0≤k∧k.toNat≤room∧k.toNat*inf.bytes≤room∧0<inf.size∧((db P e).bind AV.row).map Row.len=some inf.size then
    (if k=0 then some (.nils,.bG) else some (.slc 0 nx 0 0 inf.size k.toNat none,.push (.row (rB sy (.I .i64 [])))))
   else none
 | _,_,_=>none
def oW      (P:Program) (sy:Bool) (H:aa) (nx:Nat) (t u:TypeId) (s x:AV):Option (AV×Delta) :=
 match P.underlying t,P.underlying u with
 | some (.slice e),some (.int _)=>FD P sy nx e s x
 | some (.slice e),some (.slice _) =>
   match P.info? e,ot s,ot x with
   | some inf,some m,some n =>
     if n=0 then (match s,x with
      | .nils,_=>some (s,.bG)
      | .slc ..,_=>some (s,.bG)
      | .slcT ..,_=>some (s,.bG)
      | _,_=>none)
     else if (m+n)*inf.bytes≤room∧(m+n)≤room∧0<inf.bytes∧((db P e).bind AV.row).map Row.len=some inf.size then
      match eO H inf.size n x with
      | none=>none
      | some new =>
        match s with
        | .nils=>some (.slc 0 nx 0 0 inf.size n none,.push (.row (rB sy new)))
        | .slcT _ _ _ _ true=>match eO H inf.size m s with
          | some old=>some (.slc 0 nx 0 0 inf.size (m+n) none,.push (.row (rB sy (old.app new))))
          | none=>none
        | .slc d i v off sz _ (some c) =>
          if c<m+n then
           match eO H inf.size m s with
           | some old=>some (.slc 0 nx 0 0 inf.size (m+n) none,.push (.row (rB sy (old.app new))))
           | none=>none
          else if aM H d then none else
           match c8 H d i v with
           | some r=>if sz=inf.size∧off+(m+n)*sz≤r.len then
              some (.slc d i v off sz (m+n) (some c),.set d i (v,.row (r.cX (off+m*sz) (jA d new).toList)))
             else none
           | none=>none
        | .slc d i v off sz _ none =>
          if aM H d then none else
          match c8 H d i v with
          | some r=>if sz=inf.size∧off+m*sz=r.len then
             some (.slc d i (v+1) 0 sz (m+n) none,.set d i (v+1,.row ((r.sub off (m*sz)).app (jA d new))))
            else none
          | none=>none
        | _=>none
     else none
   | _,_,_=>none
 | _,_=>none

def copyV (P:Program) (H:aa) (t:TypeId) (s x:AV):Option (AV×Delta) :=
 match P.underlying t with
 | some (.slice e) =>
   match bH P e,ot s,ot x with
   | some z,some m,some n =>
     match eO H z (min n m) x with
     | none=>none
     | some new =>
       match s with
       | .nils=>some (.int .i64 (min n m:Nat),.bG)
       | .slc d i v off sz _ _ =>
         if aM H d then none else
         match c8 H d i v with
         | some r=>if sz=z∧off+(min n m)*sz≤r.len then
            some (.int .i64 (min n m:Nat),.set d i (v,.row (j8 r off (jA d new))))
           else none
         | none=>none
       | _=>none
   | _,_,_=>none
 | _=>none

def sF (P:Program) (H:aa) (t:TypeId) (s:AV):Option (AV×Delta) :=
 match P.underlying t,s with
 | some (.slice _),.nils=>some (.tup [],.bG)
 | some (.slice e),.slc d i v off sz len _ =>
   if aM H d then none else
   match (db P e).bind AV.row,c8 H d i v with
   | some z,some r=>if z.len=sz∧bH P e=some sz∧off+len*sz≤r.len then
      some (.tup [],if len=0 then .bG else .set d i (v,.row (if yS r then j8 r off (dU z len) else r.cX off (ep z len).toList)))
     else none
   | _,_=>none
 | _,_=>none

def eS (mx:Bool) (k:IntKind) (x:Int):List AV→Option AV
 | []=>some (.int k x)
 | .int k' y::r=>if k=k' then eS mx k (if mx then (if y > x then y else x) else (if y<x then y else x)) r else none
 | _=>none
def oA (mx:Bool):List AV→Option AV
 | .int k x::r=>eS mx k x r
 | _=>none

def jq (P:Program) (sy:Bool) (nx:Nat) (t:TypeId) (l c:AV):Option (AV×Delta) :=
 match P.underlying t,l,c with
 | some (.slice e),.int _ l,.int _ c =>
   match P.info? e,(db P e).bind AV.row with
   | some inf,some z =>
     if 0≤l∧l≤c∧c.toNat*inf.bytes≤room∧c.toNat≤room∧z.len=inf.size then
      some (.slc 0 nx 0 0 inf.size l.toNat (some c.toNat),.push (.row (if sy then dU z c.toNat else ep z c.toNat)))
     else none
   | _,_=>none
 | _,_,_=>none

def jF (P:Program) (nx:Nat) (t:TypeId) (len:Nat) (parts:List (Nat×AV)):Option (AV×Delta) :=
 match P.underlying t with
 | some (.slice e)=>match bH P e,(db P e).bind AV.row with
   | some z,some zv =>
     if len*z≤2 ^ 24∧zv.len=z then
      (sO (fun i=>some (i*z,z)) (ep zv len) parts).map fun r=>(.slc 0 nx 0 0 z len (some len),.push (.row r))
     else none
   | _,_=>none
 | _=>none

def pA (x y:AV):Option Bool :=
 match x,y with
 | .int k a,.int k' b=>if k=k' then some (a == b) else none
 | .agg (.I k a),.agg (.I k' b)=>if k=k'∧a.length=b.length then some (fi a b) else none
 | _,_=>none
def fY (key:AV):List (AV×AV)→Nat→Option (Option Nat)
 | [],_=>some none
 | (k,_)::r,i=>match pA key k with
   | some true=>some (some i)
   | some false=>fY key r (i+1)
   | none=>none
def j7 (P:Program) (t:TypeId) (x:AV):Bool :=
 match P.underlying t,x with
 | some (.int _),.int _ _=>true
 | some (.array _ _),.agg (.I _ l)=>cG P 20 t == some l.length
 | some (.struct _),.agg (.I _ l)=>cG P 20 t == some l.length
 | _,_=>false
def vN (H:aa) (m:AV):Option (Nat×List (AV×AV)) :=
 match m with
 | .nilm=>some (0,[])
 | .map d i=>match aB H d i with
   | (0,.map es)=>some (d,es)
   | _=>none
 | _=>none
def oE:List (AV×AV)→Nat→AV
 | [],_=>.undef
 | e::_,0=>e.2
 | _::r,i+1=>oE r i
def oN:List (AV×AV)→Nat→AV×AV→List (AV×AV)
 | [],_,_=>[]
 | _::r,0,x=>x::r
 | e::r,i+1,x=>e::oN r i x
def oc:List (AV×AV)→Nat→List (AV×AV)
 | [],_=>[]
 | _::r,0=>r
 | e::r,i+1=>e::oc r i
def vS (H:aa) (m:AV):Option (KK×(List Int→Bool)×(List Int→Int)×Nat) :=
 match m with
 | .map d i=>match aB H d i with
   | (0,.fmap q h g c)=>some (q,h,g,c)
   | _=>none
 | _=>none
def vl:KK→AV→Option (List Int)
 | .num k,.int k' n=>if k=k' then some [n] else none
 | .str m,.agg (.I .i64 l)=>if Nat.beq l.length m then some l else none
 | _,_=>none
def O8:AV→Option KK
 | .int k _=>some (.num k)
 | .agg (.I .i64 l)=>some (.str l.length)
 | _=>none
def zA:AV→Option Int
 | .int .i64 n=>some n
 | _=>none
def fH (h:List Int→Bool) (n:List Int) (b:Bool):List Int→Bool:=fun i=>if i=n then b else h i
def iX (g:List Int→Int) (n:List Int) (x:Int):List Int→Int:=fun i=>if i=n then x else g i
def uZ (b:Bool) (c:Nat):Nat:=cond b c (c+1)
def yj (b:Bool) (c:Nat):Nat:=cond b (c-1) c
def tG (P:Program) (t:TypeId):al :=
 match P.underlying t with
 | some (.map kt et)=>match (db P kt).bind O8,(db P et).bind zA with
   | some q,some _=>.fmap q (fun _=>false) (fun _=>0) 0
   | _,_=>.map []
 | _=>.map []
def r5 (P:Program) (H:aa) (t:TypeId) (m key:AV) (ok:Bool):Option AV :=
 match P.underlying t with
 | some (.map kt et) =>
   if j7 P kt key then
    match vS H m with
    | some (q,h,g,_)=>match vl q key,(db P et).bind zA with
      | some n,some 0=>some (if ok then .tup [.int .i64 (g n),.bool (h n)] else .int .i64 (g n))
      | _,_=>none
    | none=>match vN H m,db P et with
    | some (d,es),some z=>match fY key es 0 with
      | some (some i)=>some (if ok then .tup [mf d (oE es i),.bool true] else mf d (oE es i))
      | some none=>some (if ok then .tup [z,.bool false] else z)
      | none=>none
    | _,_=>none
   else none
 | _=>none
def jV (P:Program) (H:aa) (t:TypeId) (m key x:AV):Option Delta :=
 match P.underlying t,m with
 | some (.map kt _),.map d i =>
   if aM H d then none else
   if j7 P kt key then
    match aB H d i with
    | (0,.fmap q h g c)=>match vl q key,zA x with
      | some n,some y=>some (.set d i (0,.fmap q (fH h n true) (iX g n y) (uZ (h n) c)))
      | _,_=>none
    | (0,.map es)=>match fY key es 0 with
      | some (some j)=>some (.set d i (0,.map (oN es j (key,Rl d x))))
      | some none=>some (.set d i (0,.map (es++[(key,Rl d x)])))
      | none=>none
    | _=>none
   else none
 | _,_=>none
def o5 (P:Program) (H:aa) (t:TypeId) (m key:AV):Option (AV×Delta) :=
 match P.underlying t,m with
 | some (.map kt _),.map d i =>
   if aM H d then none else
   if j7 P kt key then
    match aB H d i with
    | (0,.fmap q h g c)=>match vl q key with
      | some n=>some (.tup [],.set d i (0,.fmap q (fH h n false) (iX g n 0) (yj (h n) c)))
      | none=>none
    | (0,.map es)=>match fY key es 0 with
      | some (some j)=>some (.tup [],.set d i (0,.map (oc es j)))
      | some none=>some (.tup [],.set d i (0,.map es))
      | none=>none
    | _=>none
   else none
 | _,_=>none

def eg (fr:aD):List (Nat×Operand)→List (Nat×AV)
 | []=>[]
 | (i,x)::r=>(i,b5 fr x)::eg fr r
def lF (fr:aD):List Operand→List AV
 | []=>[]
 | x::r=>b5 fr x::lF fr r

def nG {α:Type} (call:aO) (a b:α):α :=
 match call .mode [] [] with
 | some _=>a
 | none=>b
def ig (P:Program) (call:aO) (fr:aD) (H:aa) (nx:Nat) (c:Call):Option (AV×Delta) :=
 match c.callee with
 | .value f=>match b5 fr f with
   | .fn (.func g) a b=>(call (.fn g) (a++(lF fr c.args.toList++b)) H).map fun (v,H)=>(v,.heap H)
   | .yld d i=>(call (.round d i) (lF fr c.args.toList) H).map fun (v,H)=>(v,.heap H)
   | _=>none
 | .builtin .len=>match c.args.toList,c.argTypes.toList with
   | x::_,t::_=>(vm P H t (b5 fr x)).map fun n=>(.int .i64 n,.bG)
   | _,_=>none
 | .builtin .cap=>match c.args.toList,c.argTypes.toList with
   | x::_,t::_=>(L4 P t (b5 fr x)).map fun n=>(.int .i64 n,.bG)
   | _,_=>none
 | .builtin .append=>match c.args.toList,c.argTypes.toList with
   | s::x::_,t::u::_=>oW P (nG call true false) H nx t u (b5 fr s) (b5 fr x)
   | _,_=>none
 | .builtin .copy=>match c.args.toList,c.argTypes.toList with
   | s::x::_,t::_=>copyV P H t (b5 fr s) (b5 fr x)
   | _,_=>none
 | .builtin .clear=>match c.args.toList,c.argTypes.toList with
   | s::_,t::_=>sF P H t (b5 fr s)
   | _,_=>none
 | .builtin .delete=>match c.args.toList,c.argTypes.toList with
   | m::k::_,t::_=>o5 P H t (b5 fr m) (b5 fr k)
   | _,_=>none
 | .builtin .min=>(oA false (lF fr c.args.toList)).map fun v=>(v,.bG)
 | .builtin .max=>(oA true (lF fr c.args.toList)).map fun v=>(v,.bG)
 | _=>none

def kp (o:Option AV):Option (AV×Delta):=o.map fun v=>(v,.bG)

def evalOp (P:Program) (call:aO) (fr:aD) (H:aa) (nx:Nat) (o:Oper):Option (AV×Delta) :=
 match o.op with
 | .move x | .assign x=>some (b5 fr x,.bG)
 | .pick c a b=>match b5 fr c with
   | .bool t=>some (if t then b5 fr a else b5 fr b,.bG)
   | _=>none
 | .alloc t=>((db P t).bind AV.row).map fun z=>(.ptr 0 nx 0 0,.push (.row (nG call (kO z) z)))
 | .box _ x=>(b5 fr x).row.map fun r=>(.ptr 0 nx 0 0,.push (.row (nG call (kO r) r)))
 | .build t parts=>kp (wN P (nG call true false) t (eg fr parts.toList))
 | .buildSlice t len parts=>jF P nx t len (eg fr parts.toList)
 | .load t a=>kp (pC P H t (b5 fr a))
 | .store t a x=>(gQ P H t (b5 fr a) (b5 fr x)).map fun δ=>(.tup [],δ)
 | .nilCheck x=>match b5 fr x with
   | .ptr d i v off=>some (.ptr d i v off,.bG)
   | .ptrT s r off=>some (.ptrT s r off,.bG)
   | _=>none
 | .binOp op t x y _=>kp (kn P op t (b5 fr x) (b5 fr y))
 | .unOp op _ x=>kp (QR op (b5 fr x))
 | .convert src dst x=>match P.underlying src,P.underlying dst,b5 fr x with
   | some _,some (.int k),.int _ n=>some (.int k (k.wrap n),.bG)
   | _,_,_=>none
 | .makeFunc fn first cap=>match fn with
   | .func g=>some (.fn (.func g) (lF fr first.toList) (lF fr cap.toList),.bG)
   | _=>none
 | .makeSlice t l c=>jq P (nG call true false) nx t (b5 fr l) (b5 fr c)
 | .slice t x lo hi mx=>kp (qP P t (b5 fr x) (lo.map (b5 fr)) (hi.map (b5 fr)) (mx.map (b5 fr)))
 | .fieldAddr t x f=>kp (jg P t (b5 fr x) f)
 | .field t x f=>kp (wZ P t (b5 fr x) f)
 | .indexAddr t x i=>match b5 fr i with
   | .int _ n=>kp (jn P t (b5 fr x) n)
   | _=>none
 | .index t x i=>match b5 fr i with
   | .int _ n=>kp (qu P t (b5 fr x) n)
   | _=>none
 | .makeMap t none=>some (.map 0 nx,.push (nG call (tG P t) (.map [])))
 | .lookup t m k ok=>kp (r5 P H t (b5 fr m) (b5 fr k) ok)
 | .mapUpdate t m k x | .insert t m k x=>(jV P H t (b5 fr m) (b5 fr k) (b5 fr x)).map fun δ=>(.tup [],δ)
 | .extract t ix=>match b5 fr t with
   | .tup l=>match l[ix]? with
     | some v=>some (v,.bG)
     | none=>none
   | _=>none
 | .call c=>ig P call fr H nx c
 | _=>none

inductive Want where
 | run | skip | lost
def lX (ops:Array Oper) (fr:aD) (o:Oper):Want :=
 match o.guard with
 | none=>.run
 | some (j,want)=>match (ops[j]?).bind (·.dst) with
   | none=>.lost
   | some d=>match bM fr d with
     | .bool b=>if b == want then .run else .skip
     | .tup _=>.skip
     | _=>.lost

def iS (nt:Nat) (fr:aD) (dst:Option Tmp) (v:AV):aD :=
 match dst with
 | some d=>if Nat.blt d nt then u9 fr d v else fr
 | none=>fr

def fm (P:Program) (nt:Nat) (call:aO) (ops:Array Oper):List Oper→aD→aa→Option (aD×aa)
 | [],fr,H=>some (fr,H)
 | o :: r,fr,H=>match lX ops fr o with
   | .lost=>none
   | .skip=>fm P nt call ops r (iS nt fr o.dst (.tup [])) H
   | .run=>match evalOp P call fr H (a6 H) o with
     | none=>none
     | some (v,δ)=>fm P nt call ops r (iS nt fr o.dst v) (δ.on H)

inductive Touch where
 | none
 | blk (d i:Nat)
 | all
structure Rec where
 ix:Nat
 reads:Touch
 writes:Option (Nat×Nat)
def c5 (fr:aD) (o:Oper):Touch :=
 let at' (v:AV):Touch:=match v with
  | .ptr d i _ _=>.blk d i
  | .slc d i _ _ _ _ _=>.blk d i
  | .map d i=>.blk d i
  | _=>.none
 match o.op with
 | .load _ a=>at' (b5 fr a)
 | .store _ a _=>at' (b5 fr a)
 | .lookup _ m _ _=>at' (b5 fr m)
 | .mapUpdate _ m _ _ | .insert _ m _ _=>at' (b5 fr m)
 | .call c=>match c.callee with
   | .builtin .len=>match c.args.toList with
     | x::_=>match b5 fr x with | .map d i=>.blk d i | _=>.none
     | _=>.all
   | .builtin .min | .builtin .max=>.none
   | _=>.all
 | _=>.none
def dx (H:aa) (bef:Nat):List Rec→aa
 | []=>H
 | r::l=>match r.writes with
   | some (d,i)=>if bef.testBit r.ix then dx H bef l else dx (dR H d i) bef l
   | none=>dx H bef l
def kG (bef:Nat) (d i:Nat):List Rec→Bool
 | []=>true
 | r::l=>(bef.testBit r.ix || (match r.reads with
   | .none=>true
   | .blk e j=>!(Nat.beq e d && Nat.beq j i)
   | .all=>false)) && kG bef d i l

def jL (o:Oper):Bool :=
 match o.op with
 | .alloc _ | .box _ _ | .buildSlice _ _ _ | .makeSlice _ _ _ | .makeMap _ _=>true
 | .call c=>match c.callee with
   | .builtin .append=>true
   | _=>false
 | _=>false
def df:List Oper→Nat
 | []=>0
 | o::r=>if jL o then df r+1 else df r
def oj:aa→Nat→aa
 | [],_=>[]
 | l::r,k=>{ l with bs:=l.bs++List.replicate k (0,.dead) } :: r
def mI:al→Bool
 | .dead=>true
 | _=>false
def rY:Nat×al→Bool
 | (0,.dead)=>true
 | _=>false
def fB (o:Oper):Bool :=
 match o.op with
 | .call c=>match c.callee with
   | .value _=>true
   | _=>false
 | _=>false
def rE (H:aa):Option (Nat×Nat×(Nat×al))→aa
 | none=>H
 | some (d,i,b)=>dD H d i b
structure uU where
 v:AV
 rd:Touch
 wr:Option (Nat×Nat×(Nat×al))
def ij (P:Program) (call:aO) (ops:Array Oper) (bef:Nat) (fr:aD) (H:aa) (nx:Nat) (recs:List Rec) (o:Oper):Option uU :=
 match lX ops fr o with
 | .lost=>none
 | .skip=>some ⟨.tup [],.none,none⟩
 | .run =>
   if fB o then match evalOp P call fr (bK (dx H bef recs)) nx o with
    | some (v,_)=>some ⟨v,.all,none⟩
    | none=>none
   else match evalOp P call fr (dx H bef recs) nx o with
    | some (v,.bG)=>some ⟨v,c5 fr o,none⟩
    | some (v,.push b)=>if jL o && !mI b && rY (aB H 0 nx) && !aM H 0 then some ⟨v,c5 fr o,some (0,nx,(0,b))⟩ else none
    | some (v,.set d i b)=>if !mI b.2 && (Nat.beq b.1 (aB H d i).1 || Nat.beq b.1 (Nat.succ (aB H d i).1)) && !mI (aB (dx H bef recs) d i).2 && kG bef d i recs then some ⟨v,c5 fr o,some (d,i,b)⟩ else none
    | _=>none

def gT (P:Program) (nt:Nat) (call:aO) (ops:Array Oper) (befs:Array Nat):Nat→List Oper→aD→aa→Nat→List Rec→Option (aD×aa)
 | _,[],fr,H,_,_=>some (fr,H)
 | j,o::r,fr,H,nx,recs=>match ij P call ops (befs.getD j 0) fr H nx recs o with
   | some e=>gT P nt call ops befs (j+1) r (iS nt fr o.dst e.v) (rE H e.wr) (if jL o then nx+1 else nx) (⟨j,e.rd,e.wr.map fun x=>(x.1,x.2.1)⟩::recs)
   | none=>none

def gm (ops:Array Oper) (befs:Array Nat):Bool :=
 ops.toList.zipIdx.all fun (o,j)=>Nat.blt (befs.getD j 0) (2 ^ j) &&
  ops.toList.zipIdx.all fun (q,i) =>
   Nat.beq i j || (match q.dst with
   | none=>true
   | some d=>(o.dst != some d) && (!(o.looksAt ops).contains d || (befs.getD j 0).testBit i || (befs.getD i 0).testBit j))

inductive Ex where
 | normal | exit (id:Nat) | goto (l:Nat) | ret

def C4:Option Nat→Bool
 | some 0=>true
 | _=>false
def Ei:AV→Bool
 | .int _ _=>true
 | .bool _=>true
 | .nils=>true
 | .slcT none _ _ _ _=>true
 | .ptrT none _ _=>true
 | _=>false
def OD:Row→Bool
 | .I _ _=>true
 | .F _ _=>true
 | .G l=>l.all Ei
 | .M l=>fU l
def l8 (n:Nat):AV→Bool
 | .ptr d i _ _=>Nat.beq d 0 && Nat.ble n i
 | .slc d i _ _ _ _ _=>Nat.beq d 0 && Nat.ble n i
 | .map d i=>Nat.beq d 0 && Nat.ble n i
 | .yld d i=>Nat.beq d 0 && Nat.ble n i
 | .ptrT s r _=>C4 s && !OD r
 | .slcT s _ _ _ _=>C4 s
 | .agg (.G _)=>true
 | .agg (.M l)=>!fU l
 | .fn _ _ _=>true
 | .tup (_::_)=>true
 | _=>false
def anyM (f:AV→Bool):List da→Bool
 | []=>false
 | .one v::r=>f v || anyM f r
 | .arr _ _ _::r=>anyM f r
def vw (n:Nat):AV→Bool
 | .agg (.G l)=>l.any (l8 n)
 | .agg (.M l)=>anyM (l8 n) l
 | .fn _ a b=>a.any (l8 n) || b.any (l8 n)
 | .ptrT (some 0) (.M l) _=>anyM (l8 n) l
 | v=>l8 n v
def Tu (n:Nat):Row→Bool
 | .I .. | .F ..=>false
 | .G l=>l.any (vw n)
 | .M l=>anyM (vw n) l
def JG (n:Nat):al→Bool
 | .dead=>false
 | .row r=>Tu n r
 | .map es=>es.any fun e=>vw n e.1 || vw n e.2
 | .fmap _ _ _ _=>false
 | .loop _=>true
def cutAt (fr:aD) (l:bC) (r:aa):Nat→Nat→aa
 | 0,_=>l::r
 | k+1,m=>if fr.any (fun x=>vw m x.2) || (l.bs.take m).any (fun x=>JG m x.2) then cutAt fr l r k (m+1) else { l with bs:=l.bs.take m } :: r
def mz (n:Nat) (fr:aD) (H:aa):aa :=
 match H with
 | []=>[]
 | l::r=>if Nat.ble l.bs.length n then H else cutAt fr l r 4 n

def JH:AV→Bool
 | .ptrT (some 0) (.M l) _=>anyM (l8 0) l
 | v=>l8 0 v
def vA (h:Nat):AV→Bool
 | .ptr d i _ _=>Nat.beq d 0 && Nat.beq i h
 | .slc d i _ _ _ _ _=>Nat.beq d 0 && Nat.beq i h
 | .map d i=>Nat.beq d 0 && Nat.beq i h
 | .yld d i=>Nat.beq d 0 && Nat.beq i h
 | v=>JH v
def qa (f:AV→Bool) (v:AV):Bool :=
 match v with
 | .agg (.G l)=>l.any f
 | .agg (.M l)=>anyM f l
 | .fn _ a b=>a.any f || b.any f
 | v=>f v
def N5 (f:AV→Bool):Row→Bool
 | .I .. | .F ..=>false
 | .G l=>l.any (qa f)
 | .M l=>anyM (qa f) l
def A7 (f:AV→Bool):al→Bool
 | .dead=>false
 | .row r=>N5 f r
 | .map _=>true
 | .fmap _ _ _ _=>false
 | .loop _=>true
def vq (a b:Nat):AV→AV
 | .ptr d i v off=>if Nat.beq d 0 && Nat.beq i a then .ptr 0 b v off else .ptr d i v off
 | .slc d i v off sz len cap=>if Nat.beq d 0 && Nat.beq i a then .slc 0 b v off sz len cap else .slc d i v off sz len cap
 | .map d i=>if Nat.beq d 0 && Nat.beq i a then .map 0 b else .map d i
 | .yld d i=>if Nat.beq d 0 && Nat.beq i a then .yld 0 b else .yld d i
 | v=>v
def nF (g:AV→AV) (v:AV):AV :=
 match v with
 | .agg (.G l)=>.agg (.G (l.map g))
 | .agg (.M l)=>.agg (.M (mapM' g l))
 | .fn f a b=>.fn f (a.map g) (b.map g)
 | v=>g v
def GR (g:AV→AV):Row→Row
 | .I k l=>.I k l
 | .F f n=>.F f n
 | .G l=>.G (l.map (nF g))
 | .M l=>.M (mapM' (nF g) l)
def qD (g:AV→AV):al→al
 | .row r=>.row (GR g r)
 | b=>b
def qE (g:AV→AV):aD→aD
 | []=>[]
 | (x,v)::r=>(x,nF g v)::qE g r
def jJ (g:AV→AV):List (Nat×al)→List (Nat×al)
 | []=>[]
 | (v,b)::r=>(v,qD g b)::jJ g r
def hole (fr:aD) (bs:List (Nat×al)):Nat→Nat→Option Nat
 | 0,_=>none
 | k+1,m=>if Nat.blt (m+1) bs.length then
    if fr.any (fun x=>qa (vA m) x.2) || ((bs.take m).any (fun x=>A7 (vA m) x.2) || (bs.drop (m+1)).any (fun x=>A7 (vA m) x.2)) then hole fr bs k (m+1) else some m
   else none
def x9 (a b:Nat) (l:bC):bC:={ l with bs:=bO (jJ (vq a b) (l.bs.take a)) b ((ay l.bs a).1,qD (vq a b) (ay l.bs a).2) }
def kb (n:Nat):Nat→aD→aa→aD×aa
 | 0,fr,H=>(fr,H)
 | k + 1,fr,H=>match H with
   | []=>(fr,[])
   | l::r=>match hole fr l.bs 4 n with
     | none=>(fr,l::r)
     | some h=>kb n k (qE (vq (l.bs.length-1) h) fr) (mz n (qE (vq (l.bs.length-1) h) fr) (x9 (l.bs.length-1) h l::r))
def tidy (n:Nat) (fr:aD) (H:aa):aD×aa:=kb n 4 fr (mz n fr H)

def nE (i ver:Nat) (r:Row):AV→AV
 | .ptr d j v off=>if Nat.beq d 0 && (Nat.beq j i && Nat.beq v ver) then .ptrT none r off else .ptr d j v off
 | .slc d j v off sz len cap=>if Nat.beq d 0 && (Nat.beq j i && (Nat.beq v ver && Nat.ble (off+len*sz) r.len)) then .slcT none (r.sub off (len*sz)) sz len (cap == some len) else .slc d j v off sz len cap
 | v=>v
def pS (i:Nat):AV→Bool
 | .slc d j _ _ _ _ _=>Nat.beq d 0 && Nat.beq j i
 | _=>false
def xk:Row→Bool
 | .I _ _=>true
 | .M [.arr _ _ _]=>true
 | _=>false
def Nm (f:AV→Bool):al→Bool
 | .row r=>N5 f r
 | _=>false
def mG (i:Nat) (fr:aD) (l:bC):aD×bC :=
 match ay l.bs i with
 | (ver,.row r)=>if xk r && (fr.any (fun x=>qa (pS i) x.2) || l.bs.any (fun x=>Nm (pS i) x.2)) then (qE (nE i ver r) fr,{ l with bs:=bO (jJ (nE i ver r) l.bs) i (ver,.dead) }) else (fr,l)
 | _=>(fr,l)
def jm:Nat→aD→bC→aD×bC
 | 0,fr,l=>(fr,l)
 | n+1,fr,l=>mG n (jm n fr l).1 (jm n fr l).2
def EA (fr:aD) (H:aa):aD×aa :=
 match H with
 | []=>(fr,[])
 | l::r=>if l.lock then (fr,l::r) else ((jm l.bs.length fr l).1,(jm l.bs.length fr l).2::r)
def eG:Nat→aD→bC→aD×bC
 | 0,fr,l=>(fr,l)
 | n+1,fr,l=>if (eG n fr l).1.any (fun x=>qa (pS n) x.2) then eG n fr l else mG n (eG n fr l).1 (eG n fr l).2
def vj (fr:aD) (H:aa):aD×aa :=
 match H with
 | []=>(fr,[])
 | l::r=>if l.lock then (fr,l::r) else ((eG l.bs.length fr l).1,(eG l.bs.length fr l).2::r)
def Ps (sz:Nat):AV→AV
 | .nils=>.slcT none (.M [.arr .i64 (fun _=>0) 0]) sz 0 false
 | v=>v
def EJ (sz:Nat):Nat→List AV→List AV
 | _,[]=>[]
 | 0,v::l=>Ps sz v::l
 | c+1,v::l=>v::EJ sz c l
def vr (c sz:Nat):al→al
 | .row (.G l)=>.row (.G (EJ sz c l))
 | B=>B
def mR (c sz:Nat):List (Nat×al)→List (Nat×al)
 | []=>[]
 | (v,B)::r=>(v,vr c sz B)::mR c sz r
def GZ (k:Nat) (H:aa):aa :=
 match H with
 | []=>[]
 | l::r=>if l.lock then l::r else { l with bs:=mR (k % 8) (k / 8) l.bs } :: r
def De (s:Nat):aD→Option Nat
 | []=>none
 | (x,v)::r=>if Nat.beq x s then (match v with
   | .slc 0 i _ _ _ _ _=>some i
   | _=>none) else De s r
def xi (s:Nat) (fr:aD) (H:aa):aD×aa :=
 match H with
 | []=>(fr,[])
 | l::r=>if l.lock then (fr,l::r) else match De s fr with
   | some i=>((mG i fr l).1,(mG i fr l).2::r)
   | none=>(fr,l::r)
noncomputable def ll (m:Nat) (fr:aD) (H:aa):aD×aa:=if l6 m 4000 then ((EA (bV fr m) H).1,if Nat.beq (Nat.shiftRight m 4003) 0 then (EA (bV fr m) H).2 else GZ (Nat.shiftRight m 4003) (EA (bV fr m) H).2) else if l6 m 4001 then xi (Nat.shiftRight m 4003) (bV fr m) H else if l6 m 4002 then (match bM (bV fr m) (Nat.shiftRight m 4003) with | .bool false=>vj (bV fr m) H | _=>(bV fr m,H)) else (bV fr m,H)
def EK:aD→aD
 | []=>[]
 | (x,v)::r=>(x,jM v)::EK r
noncomputable def py (m:Nat) (fr:aD) (H:aa):aD×aa:=if l6 m 3999 then (EK (ll m fr H).1,(ll m fr H).2) else ll m fr H

def iter (body:aD→aa→Option (Ex×aD×aa)) (n:Nat):Nat→aD→aa→Option (Ex×aD×aa)
 | 0,_,_=>none
 | fu+1,fr,H=>match body fr H with
   | some (.normal,fr,H)=>iter body n fu (tidy n fr H).1 (tidy n fr H).2
   | r=>r

structure Cx where
 P:Program
 call:aO
 fu:Nat
 fn:FuncId
 nt:Nat
 kt:Nat→Nat
 ro:Option (Nat×Nat)
def Cx.here (cx:Cx) (H:aa):Bool :=
 match cx.ro with
 | none=>true
 | some (d,i)=>match aB H d i with
   | (0,.loop _)=>true
   | _=>false

def jv (fr:aD) (H:aa) (cx:Cx) (params:Array Tmp) (assign body:Code):aa :=
 jH H (.loop { state:=.ready,pending:=none,fn:=cx.fn,nt:=cx.nt,fr,params:=params.toList,assign,body })

def yn:Option Code→Option Ex
 | none=>some .normal
 | some (.exit id)=>some (.exit id)
 | some (.goto l)=>some (.goto l)
 | some .ret=>some .ret
 | _=>none

noncomputable def exec (cx:Cx):Code→aD→aa→Option (Ex×aD×aa)
 | .skip,fr,H=>some (.normal,fr,H)
 | .label _,fr,H=>some (.normal,fr,H)
 | .region id ops draw,fr,H =>
   match (if draw then (if gm ops (Region.before ops) then gT cx.P cx.nt cx.call ops (Region.before ops) 0 ops.toList fr (oj H (df ops.toList)) (a6 H) [] else none) else fm cx.P cx.nt cx.call ops ops.toList fr H) with
   | some (fr,H)=>some (.normal,py (cx.kt id) fr H)
   | none=>none
 | .seq a b,fr,H=>match exec cx a fr H with
   | some (.normal,fr,H)=>exec cx b fr H
   | r=>r
 | .cond c a b,fr,H=>match b5 fr c with
   | .bool true=>exec cx a fr H
   | .bool false=>exec cx b fr H
   | _=>none
 | .block id b,fr,H=>match exec cx b fr H with
   | some (.exit id',fr,H)=>if Nat.beq id' id then some (.normal,fr,H) else some (.exit id',fr,H)
   | r=>r
 | .loop b,fr,H=>iter (exec cx b) (a6 H) cx.fu fr H
 | .rangeFunc f params assign body,fr,H =>
   match b5 fr f with
   | .fn (.func g) a b =>
     if !cx.here H || aM H 0 then none else
     match cx.call (.fn g) (a++(.yld 0 (a6 H)::b)) (jv fr H cx params assign body) with
     | some (_,H1)=>match aB H1 0 (a6 H) with
       | (0,.loop l) =>
         if l.state == .busy then none else
         match yn l.pending with
         | some e=>some (e,fr,dR H1 0 (a6 H))
         | none=>none
       | _=>none
     | none=>none
   | _=>none
 | .exit id,fr,H=>some (.exit id,fr,H)
 | .scope b,fr,H=>match exec cx b fr H with
   | some (.goto _,_,_)=>none
   | r=>r
 | .goto l,fr,H=>some (.goto l,fr,H)
 | .ret,fr,H=>some (.ret,fr,H)
 | .refuse _,_,_=>none

def dL   (bs:List (Nat×al)):Nat→AV→AV
 | 0,_=>.undef
 | n + 1,v=>match v with
   | .ptr d i ver off=>match d with
     | d+1=>.ptr d i ver off
     | 0 => match ay bs i with
       | (w,.row r)=>if Nat.beq w ver then (match r with
         | .I k l=>.ptrT none (.I k l) off
         | .F f m=>.ptrT none (.F f m) off
         | .M l=>if fU l then .ptrT none (.M l) off else .ptrT (some 0) (.M (mapM' (dL bs n) l)) off
         | .G l=>.ptrT (some 0) (.G (l.map (dL bs n))) off) else .undef
       | _=>.undef
   | .slc d i ver off sz len cap=>match d with
     | d+1=>.slc d i ver off sz len cap
     | 0 => match ay bs i with
       | (w,.row r)=>if Nat.beq w ver∧off+len*sz≤r.len then (match r.sub off (len*sz) with
         | .I k l=>.slcT none (.I k l) sz len (cap == some len)
         | .F f m=>.slcT none (.F f m) sz len (cap == some len)
         | .M l=>if fU l then .slcT none (.M l) sz len (cap == some len) else .slcT (some 0) (.M (mapM' (dL bs n) l)) sz len (cap == some len)
         | .G l=>.slcT (some 0) (.G (l.map (dL bs n))) sz len (cap == some len)) else .undef
       | _=>.undef
   | .ptrT s r off=>match s with
     | none=>.ptrT none r off
     | some (s+1)=>.ptrT (some s) r off
     | some 0=>match r with
       | .G l=>.ptrT (some 0) (.G (l.map (dL bs n))) off
       | .M l=>if fU l then .ptrT none (.M l) off else .ptrT (some 0) (.M (mapM' (dL bs n) l)) off
       | r=>.ptrT none r off
   | .slcT s r sz len full=>match s with
     | none=>.slcT none r sz len full
     | some (s+1)=>.slcT (some s) r sz len full
     | some 0=>match r with
       | .G l=>.slcT (some 0) (.G (l.map (dL bs n))) sz len full
       | .M l=>if fU l then .slcT none (.M l) sz len full else .slcT (some 0) (.M (mapM' (dL bs n) l)) sz len full
       | r=>.slcT none r sz len full
   | .map d i=>match d with
     | d+1=>.map d i
     | 0=>.undef
   | .yld d i=>match d with
     | d+1=>.yld d i
     | 0=>.undef
   | .fn f a b=>.fn f (a.map (dL bs n)) (b.map (dL bs n))
   | .agg r=>match r with
     | .G l=>.agg (.G (l.map (dL bs n)))
     | .M l=>.agg (.M (mapM' (dL bs n) l))
     | r=>.agg r
   | .tup l=>.tup (l.map (dL bs n))
   | v=>v

def eE:Nat→List AV→aD
 | _,[]=>[]
 | x,v::l=>(x,mf 1 v)::eE (x+1) l

def gN (P:Program) (fr:aD) (H:aa):List ResultVar→Option (List AV)
 | []=>some []
 | .tmp t::r=>(gN P fr H r).map (bM fr t::·)
 | .cell a t::r=>match pC P H t (bM fr a) with
   | some v=>(gN P fr H r).map (v::·)
   | none=>none
def one:List AV→AV
 | [v]=>v
 | l=>.tup l

def ju (nt:Nat) (fr:aD):List Tmp→List AV→Option aD
 | [],[]=>some fr
 | t::ts,v::vs=>if Nat.blt t nt then ju nt (u9 fr t v) ts vs else none
 | _,_=>none

def cM:Ex→Option Code
 | .normal=>none
 | .exit id=>some (.exit id)
 | .goto l=>some (.goto l)
 | .ret=>some .ret

def jU (k:Nat):aD→aD
 | []=>[]
 | (x,v)::r=>(x,mf k v)::jU k r

noncomputable def dv (P:Program) (ora:aO→FuncId→List AV→aa→Option (AV×aa)) (KT:FuncId→Nat→Nat) (fu:Nat):Nat→aO
 | _,.mode,_,_=>(ora (fun _ _ _=>none) 1000000 [] []).map fun _=>(.undef,[])
 | 0,_,_,_=>none
 | n + 1,.fn f,args,H=>match ora (dv P ora KT fu n) f args H with
   | some r=>some r
   | none => match P.funcs[f]? with
     | none=>none
     | some fn=>match fn.body with
       | none=>none
       | some c=>if Nat.ble args.length fn.ntmps then
         match exec ⟨P,dv P ora KT fu n,fu,f,fn.ntmps,KT f,none⟩ c (eE 0 args) (⟨false,[]⟩::H) with
         | some (e,fr,l::H') =>
           (match e with
           | .normal | .ret=>match gN P fr (l::H') fn.results.toList with
             | some vs=>some (dL l.bs 5 (one vs),H')
             | none=>none
           | _=>none)
         | _=>none
         else none
 | n + 1,.round  d i,args,H=>match aB H d i with
   | (0, .loop l) =>
     if aM H d then none else
     match l.state with
     | .ready => match ju l.nt (jU (d+1) l.fr) l.params (args.map (mf 1)) with
       | some fr => match exec ⟨P,dv P ora KT fu n,fu,l.fn,l.nt,KT l.fn,some (d+1,i)⟩ l.assign fr (⟨false,[]⟩::H) with
         | some (.normal,fr,H1)=>match aB H1 (d+1) i with
           | (0, .loop l1)=>match l1.state with
             | .ready =>
               match exec ⟨P,dv P ora KT fu n,fu,l.fn,l.nt,KT l.fn,some (d+1,i)⟩ l.body fr (dD H1 (d+1) i (0,.loop { l1 with state:=.busy })) with
               | some (e,_,_::H2)=>match aB H2 d i with
                 | (0,.loop l2)=>some (.bool (cM e).isNone,dD H2 d i (0,.loop { l2 with state:=if (cM e).isNone then .ready else .done,pending:=cM e }))
                 | _=>none
               | _=>none
             | _=>none
           | _=>none
         | _=>none
       | none=>none
     | _=>none
   | _=>none

end Go.Eng
