/- Lemmas. -/
import Derived.WalkKit
set_option linter.all false
def aa₀:=@Option.map_eq_some_iff
def ab₀:=@Option.some.injEq
def ac₀:=@Bool.and_eq_true
def ad₀:=@Prod.mk.injEq
def ae₀:=@Option.bind_eq_some_iff
def af₀:=@decide_eq_true_eq
def ag₀:=@List.map_cons
def ah₀:=@Bool.false_eq_true
def ai₀:=@decide_eq_false_iff_not
def aj₀:=@List.getElem?_toArray
def ak₀:=@List.length_cons
def al₀:=@List.map_nil
def am₀:=@List.cons_append
def an₀:=@List.length_nil
def ao₀:=@Option.bind_some
def ap₀:=@Int.natCast_add
def aq₀:=@Option.getD_some
def ar₀:=@Bool.or_eq_true
def as₀:=@List.length_append
def at₀:=@Array.getD_eq_getD_getElem?
def au₀:=@List.getD_eq_getElem?_getD
def av₀:=@List.getElem?_eq_none
def aw₀:=@List.getElem?_append_right
def ax₀:=@List.getElem?_append_left
def ay₀:=@List.length_map
def az₀:=@List.getElem?_map
def ba₀:=@Nat.mul_comm
def bb₀:=@List.getElem?_eq_getElem
def bc₀:=@Nat.lt_of_lt_of_le
theorem zzi{a b:Prop}(x:a)(y:b):a/\b:=⟨x,y⟩
namespace Go.Abs
theorem _root_.byO{P:Prop}(h:P:=by omega):P:=h
abbrev Heap:=List (Option (List Value))
def Heap.get(H:Heap)(i:Nat):Option (List Value):=
 match H[i]? with
 | some (some c)=>some c
 | _=>none
def Heap.cells(H:Heap)(i off n:Nat):Option (List Value):=
 match H.get i with
 | some c=>if off+n<=c.length then some ((c.drop off).take n) else none
 | none=>none
def putCells(c:List Value)(off:Nat)(vs:List Value):List Value:=c.take off++(vs++c.drop (off+vs.length))
def Heap.put(lo:Nat)(H:Heap)(i off:Nat)(vs:List Value):Option Heap:=
 match H.get i with
 | some c=>if lo<=i/\off+vs.length<=c.length then some (H.set i (some (putCells c off vs))) else none
 | none=>none
def bO:Value->Bool
 | .bool _ | .int _ _ | .string _ | .pointer none | .slice none _ _ | .map none | .nilFunc | .nilIface | .float _ _=>true
 | .func (.func _) a b=>a.size==0&&b.size==0
 | _=>false
def fO:Value->Bool
 | .agg cs=>cs.toList.all bO
 | .tuple cs=>cs.toList.all bO
 | .iface _ v=>bO v
 | v=>bO v
def oneCells(l:List Value):Bool:=l.all (·.oneCell')
inductive LOp where
 | mv
 | bin (op:BinOp)
 | eqB (neg:Bool)
 | eqA (neg:Bool) (ks:List Nat)
 | eqN (neg:Bool)
 | eqP (neg:Bool)
 | un (op:UnOp)
 | cvt (k:IntKind)
 | b2s
 | cvtS
 | nilChk
 | fAddr (off:Nat)
 | fld (off n:Nat) (agg:Bool)
 | iAddr (sz:Nat)
 | iAddrA (len sz:Nat)
 | idx (len sz:Nat) (agg:Bool)
 | idxS
 | ld (n:Nat) (agg:Bool)
 | len
 | lenS
 | lenC (n:Nat)
 | sl (sz:Nat) (lo hi mx:Bool)
 | slA (len sz:Nat) (lo hi mx:Bool)
 | slS (lo hi:Bool)
 | ext (i:Nat)
 | build (zero:List Value) (places:List (Nat×Nat))
 | mkF (f:FuncId) (n:Nat)
 | mkI (t:TypeId)
 | minmax (isMax:Bool)
 | pk
 | tas (t:TypeId) (zero:List Value)
inductive HOp where
 | call (raise:Bool)
 | alloc (zero:List Value)
 | box
 | mkSl (zero:List Value)
 | bSl (zero:List Value) (len:Nat) (idx:List Nat)
 | st (n:Nat)
 | app (sz:Nat) (zero:List Value)
 | appS (zero:List Value)
 | cpy (sz:Nat)
 | s2b
 | fail
 | callC
 | pan
 | frz
def jN:Nat->Value->Value->Option Bool
 | 0,.bool a,.bool b=>some (a==b)
 | 1,.int k a,.int k' b=>if k=k' then some (a==b) else none
 | 2,.string a,.string b=>some (a.toList==b.toList)
 | _,_,_=>none
def aj:List Nat->List Value->List Value->Option Bool
 | [],[],[]=>some true
 | k::ks,a::x,b::y=>match jN k a b,aj ks x y with
  | some p,some q=>some (p&&q)
  | _,_=>none
 | _,_,_=>none
def bQ(op:BinOp)(k:IntKind)(a b:Int):Option Value:=
 match op with
 | .add=>some (.int k (k.wrap (a+b)))
 | .sub=>some (.int k (k.wrap (a-b)))
 | .mul=>some (.int k (k.wrap (a*b)))
 | .quo=>if b=0 then none else some (.int k (k.wrap (a.tdiv b)))
 | .rem=>if b=0 then none else some (.int k (a.tmod b))
 | .and=>some (.int k (k.wrap (BitVec.ofInt k.bits a &&& BitVec.ofInt k.bits b).toNat))
 | .or=>some (.int k (k.wrap (BitVec.ofInt k.bits a ||| BitVec.ofInt k.bits b).toNat))
 | .xor=>some (.int k (k.wrap (BitVec.ofInt k.bits a ^^^ BitVec.ofInt k.bits b).toNat))
 | .andNot=>some (.int k (k.wrap (BitVec.ofInt k.bits a &&& ~~~(BitVec.ofInt k.bits b)).toNat))
 | .eql=>some (.bool (a==b))
 | .neq=>some (.bool (a != b))
 | .lss=>some (.bool (a<b))
 | .leq=>some (.bool (a<=b))
 | .gtr=>some (.bool (a>b))
 | .geq=>some (.bool (a>=b))
 | .shl | .shr=>none
def gX(op:BinOp)(k:IntKind)(a b:Int):Option Value:=
 if b<0 then none else
 match op with
 | .shl=>some (.int k (k.wrap (a*2^(min b.toNat k.bits))))
 | .shr=>some (.int k (a.fdiv (2^(min b.toNat k.bits))))
 | _=>none
def p4(op:BinOp)(x y:ByteArray):Option Value:=
 match op with
 | .add=>if ((x.size+y.size:Nat):Int)>IntKind.i64.max then none else some (.string (x++y))
 | .eql=>some (.bool (x.toList==y.toList))
 | .neq=>some (.bool !(x.toList==y.toList))
 | .lss=>some (.bool (Op.bytesLess x.toList y.toList))
 | .leq=>some (.bool (Op.bytesLess x.toList y.toList || x.toList==y.toList))
 | .gtr=>some (.bool !(Op.bytesLess x.toList y.toList || x.toList==y.toList))
 | .geq=>some (.bool !(Op.bytesLess x.toList y.toList))
 | _=>none
def bF(op:BinOp)(x y:Value):Option Value:=
 match x,y with
 | .int k a,.int k' b=>
  match op with
  | .shl | .shr=>gX op k a b
  | _=>if k=k' then bQ op k a b else none
 | .string a,.string b=>p4 op a b
 | _,_=>none
def toB(v:Value)(y:Nat):Option Nat:=
 match v with
 | .int _ i=>if 0<=i/\i<=y then some i.toNat else none
 | _=>none
def bounds(len cap:Nat)(lo hi mx:Bool)(args:List Value):Option (Nat×Nat×Nat):=
 let loV:=if lo then args.head? else none
 let a1:=if lo then args.tail else args
 let hiV:=if hi then a1.head? else none
 let a2:=if hi then a1.tail else a1
 let mxV:=if mx then a2.head? else none
 let m:=if mx then mxV.bind (toB · cap) else some cap
 m.bind fun m=>
 let h:=if hi then hiV.bind (toB · m) else(if mx then none else some len)
 h.bind fun h=>
 let l:=if lo then loV.bind (toB · h) else some 0
 l.bind fun l=>some (l,h,m)
def buildL:List Value->List (Nat×Nat)->List Value->Option (List Value)
 | zero,[],[]=>some zero
 | zero,(off,sz)::ps,v::vs=>if v.cells.size=sz/\off+sz<=zero.length then buildL (putCells zero off v.cells.toList) ps vs else none
 | _,_,_=>none
def oD(isMax:Bool):Value->Value->Option Value
 | .int k x,.int _ y=>some (.int k (if isMax then(if y>x then y else x) else(if y<x then y else x)))
 | _,_=>none
def bytesOf:List Value->Option (List UInt8)
 | []=>some []
 | .int .u8 n::r=>(bytesOf r).map (UInt8.ofNat n.toNat::·)
 | _=>none
def aJ:LOp->List Value->Heap->Option Value
 | .mv,[x],_=>some x
 | .bin op,[x,y],_=>bF op x y
 | .eqB neg,[.bool a,.bool b],_=>some (.bool ((a==b) != neg))
 | .eqA neg ks,[.agg xs,.agg ys],_=>(aj ks xs.toList ys.toList).map fun b=>.bool (b != neg)
 | .eqN neg,[.slice a _ _,.slice none _ _],_=>some (.bool (a.isNone != neg))
 | .eqP neg,[.pointer a,.pointer none],_=>some (.bool (a.isNone != neg))
 | .un .not,[.bool b],_=>some (.bool !b)
 | .un .neg,[.int k n],_=>some (.int k (k.wrap (0-n)))
 | .un .xor,[.int k n],_=>bQ .xor k (if k.signed then -1 else k.max) n
 | .cvt k,[.int _ n],_=>some (.int k (k.wrap n))
 | .cvtS,[.string s],_=>some (.string s)
 | .b2s,[.slice none _ _],_=>some (.string .empty)
 | .b2s,[.slice (some a) len _],H=>((H.cells a.block a.off len).bind bytesOf).map fun l=>.string ⟨l.toArray⟩
 | .nilChk,[.pointer (some a)],_=>some (.pointer (some a))
 | .nilChk,[.func (.func f) x y],_=>some (.func (.func f) x y)
 | .fAddr off,[.pointer (some ⟨i,o,none⟩)],_=>some (.pointer (some ⟨i,o+off,none⟩))
 | .fld off n agg,[.agg cs],_=>if agg then(if off+n<=cs.size then some (.agg (cs.extract off (off+n))) else none) else cs[off]?
 | .iAddr sz,[.slice (some ⟨b,o,_⟩) l _,.int _ i],_=>if 0<=i/\i<l then some (.pointer (some ⟨b,o+i.toNat*sz,none⟩)) else none
 | .iAddrA len sz,[.pointer (some ⟨b,o,none⟩),.int _ i],_=>if 0<=i/\i<len then some (.pointer (some ⟨b,o+i.toNat*sz,none⟩)) else none
 | .idx len sz agg,[.agg cs,.int _ i],_=>
  if 0<=i/\i<len then(if agg then(if i.toNat*sz+sz<=cs.size then some (.agg (cs.extract (i.toNat*sz) (i.toNat*sz+sz))) else none) else cs[i.toNat*sz]?) else none
 | .idxS,[.string s,.int _ i],_=>if 0<=i then(s[i.toNat]?).map fun b=>.int .u8 b.toNat else none
 | .ld n agg,[.pointer (some ⟨b,o,none⟩)],H=>if agg then(H.cells b o n).map fun l=>.agg l.toArray else(H.cells b o 1).bind (·.head?)
 | .len,[.slice _ n _],_=>some (.int .i64 n)
 | .lenS,[.string s],_=>some (.int .i64 s.size)
 | .lenC n,[_],_=>some (.int .i64 n)
 | .sl _ lo hi mx,.slice none len cap::args,_=>(bounds len cap lo hi mx args).map fun(l,h,m)=>.slice none (h-l) (m-l)
 | .sl sz lo hi mx,.slice (some ⟨b,o,none⟩) len cap::args,_=>
  (bounds len cap lo hi mx args).map fun(l,h,m)=>.slice (some ⟨b,if m=l then o else o+l*sz,none⟩) (h-l) (m-l)
 | .sl sz lo hi mx,.slice (some ⟨b,o,some z⟩) len cap::args,_=>
  if z=sz then(bounds len cap lo hi mx args).map fun(l,h,m)=>
   if mx&&cap != 0 then .slice (some ⟨b,if m=l then o else o+l*sz,none⟩) (h-l) (m-l) else .slice (some ⟨b,o+l*sz,some z⟩) (h-l) (m-l)
  else none
 | .slA len sz lo hi mx,.pointer (some ⟨b,o,none⟩)::args,_=>
  (bounds len len lo hi mx args).map fun(l,h,m)=>.slice (some ⟨b,if m=l then o else o+l*sz,none⟩) (h-l) (m-l)
 | .slS lo hi,.string s::args,_=>(bounds s.size s.size lo hi false args).map fun(l,h,_)=>.string (s.extract l h)
 | .ext i,[.tuple vs],_=>vs[i]?
 | .build zero places,vs,_=>(buildL zero places vs).map fun l=>.agg l.toArray
 | .mkF f n,vs,_=>some (.func (.func f) (vs.take n).toArray (vs.drop n).toArray)
 | .mkI t,[x],_=>some (.iface t x)
 | .minmax isMax,x::r,_=>match x with
  | .int _ _=>r.foldlM (oD isMax) x
  | _=>none
 | .pk,[.bool c,a,b],_=>some (if c then a else b)
 | .tas t _,[.iface u (.agg cs)],_=>if t=u then some (.tuple #[.agg cs,.bool true]) else none
 | .tas _ z,[.nilIface],_=>some (.tuple #[.agg z.toArray,.bool false])
 | _,_,_=>none
abbrev dm:=Nat->FuncId->List Value->Heap->Option (Value×Heap)
def dR:Nat:=4294967296
def bU(zero:List Value)(n:Nat):List Value:=(List.replicate n zero).flatten
def bA(lo:Nat)(sz:Nat)(s:Value)(new:List Value)(n:Nat)(H:Heap):Option (Value×Heap):=
 match s with
 | .slice base len cap=>
  if len+n<=cap then
   match base with
   | none=>some (.slice none (len+n) cap,H)
   | some ⟨b,o,sp⟩=>if sp=none\/sp=some sz then(H.put lo b (o+len*sz) new).map fun H'=>(.slice (some ⟨b,o,sp⟩) (len+n) cap,H') else none
  else if dR<len+n then none
  else match base with
   | none=>if len=0 then some (.slice (some ⟨H.length,0,some sz⟩) n n,H++[some new]) else none
   | some ⟨b,o,none⟩=>(H.cells b o (len*sz)).map fun old=>(.slice (some ⟨H.length,0,some sz⟩) (len+n) (len+n),H++[some (old++new)])
   | some ⟨b,o,some z⟩=>
    if z=sz/\lo<=b then(H.cells b o (len*sz)).map fun old=>(.slice (some ⟨H.length,0,some sz⟩) (len+n) (len+n),(H.set b none)++[some (old++new)])
    else none
 | _=>none
def jq(lo:Nat):List Value->Heap->Option (Value×Heap)
 | [.slice (some ⟨b,o,none⟩) n c],H=>match H.get b with
  | some _=>if lo<=b then some (.slice (some ⟨b,o,none⟩) n c,H) else none
  | none=>none
 | _,_=>none
def hsem(callA:dm)(lo:Nat):HOp->List Value->Heap->Option (Value×Heap)
 | .call raise,.func (.func f) first cap::args,H=>callA (if raise then H.length else lo) f (first.toList++args++cap.toList) H
 | .callC,.func (.func f) first cap::args,H=>callA lo f (first.toList++args++cap.toList) H
 | .alloc zero,[],H=>some (.pointer (some ⟨H.length,0,none⟩),H++[some zero])
 | .box,[v],H=>some (.pointer (some ⟨H.length,0,none⟩),H++[some v.cells.toList])
 | .mkSl zero,[.int _ l,.int _ c],H=>
  if 0<=l/\l<=c/\c<=dR then some (.slice (some ⟨H.length,0,none⟩) l.toNat c.toNat,H++[some (bU zero c.toNat)]) else none
 | .bSl zero len idx,vs,H=>
  (buildL (bU zero len) (idx.map fun i=>(i*zero.length,zero.length)) vs).map fun l=>(.slice (some ⟨H.length,0,none⟩) len len,H++[some l])
 | .st n,[.pointer (some ⟨b,o,none⟩),v],H=>if v.cells.size=n/\oneCells v.cells.toList then(H.put lo b o v.cells.toList).map fun H'=>(undef,H') else none
 | .app sz _,[s,.slice none n _],H=>if n=0 then bA lo sz s [] 0 H else none
 | .app sz _,[s,.slice (some a) n _],H=>(H.cells a.block a.off (n*sz)).bind fun new=>if oneCells new then bA lo sz s new n H else none
 | .appS _,[s,.string x],H=>bA lo 1 s (x.data.toList.map fun b=>.int .u8 b.toNat) x.size H
 | .s2b,[.string x],H=>some (.slice (some ⟨H.length,0,some 1⟩) x.size x.size,H++[some (x.data.toList.map fun b=>.int .u8 b.toNat)])
 | .frz,vs,H=>jq lo vs H
 | .cpy _,[.slice none n _,.slice _ _ _],H=>if n=0 then some (.int .i64 0,H) else none
 | .cpy _,[.slice (some _) _ _,.slice none m _],H=>if m=0 then some (.int .i64 0,H) else none
 | .cpy sz,[.slice (some d) n _,.slice (some a) m _],H=>
  (H.cells a.block a.off (min m n*sz)).bind fun new=>if oneCells new then(H.put lo d.block d.off new).map fun H'=>(.int .i64 (min m n:Nat),H') else none
 | _,_,_=>none
inductive ROp where
 | l (o:LOp)
 | h (o:HOp)
def eV(P:Program)(t:TypeId):Option Nat:=(P.info? t).map (·.size)
def zeroOf(P:Program)(t:TypeId):Option (List Value):=
 match P.info? t with
 | some i=>match i.zero with
  | some z=>if z.cells.size=i.size/\z.cells.toList.all bO then some z.cells.toList else none
  | none=>none
 | none=>none
def kE(P:Program)(t:TypeId):Bool:=
 match P.info? t with
 | some i=>i.bytes<=4096
 | none=>false
def jB(P:Program)(t:TypeId):Option Bool:=
 match P.underlying t with
 | some (.struct _)|some (.array _ _)=>some true
 | some _=>some false
 | none=>none
def nz(P:Program)(t:TypeId):Option Nat:=
 match P.underlying t with
 | some .bool=>some 0
 | some (.int _)=>some 1
 | some .string=>some 2
 | _=>none
def im(P:Program):Nat->List Field->Option (List Nat)
 | _,[]=>some []
 | n, f :: r => if f.name = "_" ∨ f.offset ≠ n then none else
  match nz P f.type,im P (n+1) r with
  | some k,some ks=>some (k::ks)
  | _,_=>none
def iX(P:Program)(t:TypeId):Option (List Nat):=
 match P.underlying t with
 | some (.struct fs)=>if P.stoodInHeld t then none else
  match im P 0 fs.toList with
  | some ks=>if eV P t=some ks.length/\0<ks.length then some ks else none
  | none=>none
 | _=>none
def fU(P:Program):Nat->List Field->Option (List Nat)
 | _,[]=>some []
 | n, f :: r => if f.name = "_" ∨ f.offset ≠ n then none else
  match nz P f.type with
  | some k=>match fU P (n+1) r with
   | some ks=>some (k::ks)
   | none=>none
  | none=>match iX P f.type with
   | some js=>match fU P (n+js.length) r with
    | some ks=>some (js++ks)
    | none=>none
   | none=>none
def l7(P:Program)(t:TypeId):Option (List Nat):=
 match P.underlying t with
 | some (.struct fs)=>if P.stoodInHeld t || P.eqGuardType P.depth t then none else fU P 0 fs.toList
 | _=>none
def EN(P:Program)(op:BinOp)(t:TypeId):Option LOp:=
 match P.underlying t with
 | some (.int _)|some .string=>some (.bin op)
 | some .bool=>match op with | .eql=>some (.eqB false) | .neq=>some (.eqB true)|_=>none
 | some (.struct _)|some (.array _ _)=>
  match op with
  | .eql=>(l7 P t).map (.eqA false)
  | .neq=>(l7 P t).map (.eqA true)
  | _=>none
 | some (.slice _)=>match op with | .eql=>some (.eqN false) | .neq=>some (.eqN true)|_=>none
 | some (.pointer _)=>match op with | .eql=>some (.eqP false) | .neq=>some (.eqP true)|_=>none
 | _=>none
def opts(l:List (Option Operand)):List Operand:=l.filterMap id
def gR(P:Program):List Field->Option (List (Nat×Nat))
 | []=>some []
 | f::r=>(eV P f.type).bind fun n=>(gR P r).map ((f.offset,n)::·)
def ij(ps:List (Nat×Nat)):List Nat->Option (List (Nat×Nat))
 | []=>some []
 | i::r=>match ps[i]? with
  | some p=>(ij ps r).map (p::·)
  | none=>none
def bL(P:Program)(op:Op):Option (ROp×List Operand):=
 match op with
 | .move x | .assign x=>some (.l .mv,[x])
 | .pick c a b=>some (.l .pk,[c,a,b])
 | .alloc t=>(zeroOf P t).map fun z=>(.h (.alloc z),[])
 | .box _ x=>some (.h .box,[x])
 | .build t parts=>
  match P.underlying t,zeroOf P t with
  | some (.struct fs),some z=>(gR P fs.toList).bind fun ps=>(ij ps (parts.toList.map (·.1))).map fun pl=>(.l (.build z pl),parts.toList.map (·.2))
  | some (.array _ e),some z=>(eV P e).map fun n=>(.l (.build z (parts.toList.map fun p=>(p.1*n,n))),parts.toList.map (·.2))
  | _,_=>none
 | .buildSlice t len parts=>
  match P.underlying t with
  | some (.slice e)=>(zeroOf P e).bind fun z=>if 0<z.length/\len*z.length<=2^24 then some (.h (.bSl z len (parts.toList.map (·.1))),parts.toList.map (·.2)) else none
  | _=>none
 | .load t a=>match jB P t,eV P t with
  | some agg,some n=>some (.l (.ld n agg),[a])
  | _,_=>none
 | .store t a x=>(eV P t).map fun n=>(.h (.st n),[a,x])
 | .nilCheck x=>some (.l .nilChk,[x])
 | .binOp op t x y _=>(EN P op t).map fun l=>(.l l,[x,y])
 | .unOp op _ x=>some (.l (.un op),[x])
 | .convert src dst x=>
  match P.underlying src,P.underlying dst with
  | some (.int _),some (.int k)=>some (.l (.cvt k),[x])
  | some (.slice e),some .string=>match P.underlying e with
   | some (.int .u8)=>some (.l .b2s,[x])
   | _=>none
  | some .string,some .string=>some (.l .cvtS,[x])
  | some .string,some (.slice e)=>match P.underlying e with
   | some (.int .u8)=>some (.h .s2b,[x])
   | _=>none
  | some (.slice _),some (.slice e)=>match P.underlying e with
   | some (.int .u8)=>if src=dst then some (.h .frz,[x]) else none
   | _=>none
  | _,_=>none
 | .makeInterface t x=>match P.underlying t with
  | some (.interface _)=>none
  | some _=>some (.l (.mkI t),[x])
  | none=>none
 | .makeFunc (.func f) first captured=>some (.l (.mkF f first.size),first.toList++captured.toList)
 | .makeSlice t l c=>
  match P.underlying t with
  | some (.slice e)=>(zeroOf P e).bind fun z=>if 0<z.length/\kE P e=true then some (.h (.mkSl z),[l,c]) else none
  | _=>none
 | .slice t x lo hi mx=>
  match P.underlying t with
  | some (.array n e)=>(eV P e).map fun sz=>(.l (.slA n sz lo.isSome hi.isSome mx.isSome),x::opts [lo,hi,mx])
  | some (.slice e)=>(eV P e).map fun sz=>(.l (.sl sz lo.isSome hi.isSome mx.isSome),x::opts [lo,hi,mx])
  | some .string=>if mx.isSome then none else some (.l (.slS lo.isSome hi.isSome),x::opts [lo,hi])
  | _=>none
 | .fieldAddr s x f=>
  match P.underlying s with
  | some (.struct fs)=>match fs[f]? with
   | some fl=>match eV P fl.type with
    | some n=>if 0<n then some (.l (.fAddr fl.offset),[x]) else none
    | none=>none
   | none=>none
  | _=>none
 | .field t x f=>
  match P.underlying t with
  | some (.struct fs)=>match fs[f]? with
   | some fl=>match eV P fl.type,jB P fl.type with
    | some n,some agg=>some (.l (.fld fl.offset n agg),[x])
    | _,_=>none
   | none=>none
  | _=>none
 | .indexAddr t x i=>
  match P.underlying t with
  | some (.slice e)=>(eV P e).map fun sz=>(.l (.iAddr sz),[x,i])
  | some (.array n e)=>(eV P e).map fun sz=>(.l (.iAddrA n sz),[x,i])
  | _=>none
 | .index t x i=>
  match P.underlying t with
  | some (.array n e)=>match eV P e,jB P e with
   | some sz,some agg=>some (.l (.idx n sz agg),[x,i])
   | _,_=>none
  | some .string=>some (.l .idxS,[x,i])
  | _=>none
 | .extract t i=>some (.l (.ext i),[t])
 | .call c=>
  match c.callee with
  | .value f=>some (.h (.call false),f::c.args.toList)
  | .builtin .len=>
   match c.argTypes[0]?,c.args.toList with
   | some t,[x]=>match P.underlying t with
    | some .string=>some (.l .lenS,[x])
    | some (.slice _)=>some (.l .len,[x])
    | some (.array n _)=>some (.l (.lenC n),[x])
    | _=>none
   | _,_=>none
  | .builtin .append=>
   match c.argTypes[0]?,c.argTypes[1]?,c.args.toList with
   | some t,some u,[s,x]=>match P.underlying t,P.underlying u with
    | some (.slice e),some (.slice _)=>match eV P e,zeroOf P e with
     | some sz,some z=>if 0<sz/\z.length=sz/\kE P e=true then some (.h (.app sz z),[s,x]) else none
     | _,_=>none
    | some (.slice e),some .string=>match eV P e,zeroOf P e with
     | some 1,some z=>if z.length=1/\kE P e=true then some (.h (.appS z),[s,x]) else none
     | _,_=>none
    | _,_=>none
   | _,_,_=>none
  | .builtin .copy=>
   match c.argTypes[0]?,c.args.toList with
   | some t,[d,s]=>match P.underlying t with
    | some (.slice e)=>(eV P e).map fun sz=>(.h (.cpy sz),[d,s])
    | _=>none
   | _,_=>none
  | .builtin .min=>some (.l (.minmax false),c.args.toList)
  | .builtin .max=>some (.l (.minmax true),c.args.toList)
  | _=>none
 | .panic x=>some (.h .pan,[x])
 | .typeAssert x _ t ok=>match ok,P.underlying t,P.info? t with
  | true,some (.struct _),some i=>match i.zero with
   | some (.agg cs)=>if cs.toList.all bO then some (.l (.tas t cs.toList),[x]) else none
   | _=>none
  | _,_,_=>none
 | _=>none
def resolve(P:Program)(op:Op):ROp×List Operand:=(bL P op).getD (.h .fail,[])
structure Place where
 b:Nat
 s:Nat
 n:Nat
abbrev Map:=Nat->Option Place
def Map.le(φ ψ:Map):Prop:=∀i p,φ i=some p->ψ i=some p
theorem Map.le_refl(φ:Map):φ.le φ:=fun _ _ h=>h
theorem Map.le_trans{φ ψ χ:Map}(h:φ.le ψ)(k:ψ.le χ):φ.le χ:=fun i p e=>k i p (h i p e)
inductive VRel (φ:Map):Value->Value->Prop where
 | bool (b:Bool):VRel φ (.bool b) (.bool b)
 | int (k:IntKind) (n:Int):VRel φ (.int k n) (.int k n)
 | float (k:FloatKind) (n:Nat):VRel φ (.float k n) (.float k n)
 | string (s:ByteArray):VRel φ (.string s) (.string s)
 | nilPtr:VRel φ (.pointer none) (.pointer none)
 | ptr (i o:Nat) (p:Place) (h:φ i=some p):VRel φ (.pointer (some ⟨i,o,none⟩)) (.pointer (some ⟨p.b,p.s+o,none⟩))
 | nilSlice (l c:Nat):VRel φ (.slice none l c) (.slice none l c)
 | slice (i o l c:Nat) (p:Place) (h:φ i=some p):VRel φ (.slice (some ⟨i,o,none⟩) l c) (.slice (some ⟨p.b,p.s+o,none⟩) l c)
 | sliceIn (i o l c z:Nat) (p:Place) (o' c':Nat) (h:φ i=some p) (hc:c<=c') (hl:l<=c) (ho:o'=o\/c=0) (hn:o'+c'*z<=p.n) :
   VRel φ (.slice (some ⟨i,o,some z⟩) l c) (.slice (some ⟨p.b,p.s+o',none⟩) l c')
 | nilMap:VRel φ (.map none) (.map none)
 | func (f:FuncId) (a b a' b':Array Value) (ha:a.size=a'.size) (hb:b.size=b'.size)
   (ra:∀(j:Nat) x y,a[j]?=some x->a'[j]?=some y->VRel φ x y) (rb:∀(j:Nat) x y,b[j]?=some x->b'[j]?=some y->VRel φ x y) :
   VRel φ (.func (.func f) a b) (.func (.func f) a' b')
 | nilFunc:VRel φ .nilFunc .nilFunc
 | iface (t:TypeId) (v v':Value) (h:VRel φ v v'):VRel φ (.iface t v) (.iface t v')
 | nilIface:VRel φ .nilIface .nilIface
 | agg (a a':Array Value) (ha:a.size=a'.size) (ra:∀(j:Nat) x y,a[j]?=some x->a'[j]?=some y->VRel φ x y):VRel φ (.agg a) (.agg a')
 | tuple (a a':Array Value) (ha:a.size=a'.size) (ra:∀(j:Nat) x y,a[j]?=some x->a'[j]?=some y->VRel φ x y):VRel φ (.tuple a) (.tuple a')
theorem VRel.mono{φ ψ:Map}(h:φ.le ψ){v c:Value}(r:VRel φ v c):VRel ψ v c:=by
 induction r with
 | bool b=>exact .bool b
 | int k n=>exact .int k n
 | float k n=>exact .float k n
 | string s=>exact .string s
 | nilPtr=>exact .nilPtr
 | ptr i o p e=>exact .ptr i o p (h _ _ e)
 | nilSlice l c=>exact .nilSlice l c
 | slice i o l c p e=>exact .slice i o l c p (h _ _ e)
 | sliceIn i o l c z p o' c' e hc hl ho hn=>exact .sliceIn i o l c z p o' c' (h _ _ e) hc hl ho hn
 | nilMap=>exact .nilMap
 | func f a b a' b' ha hb _ _ ia ib=>exact .func f a b a' b' ha hb ia ib
 | nilFunc=>exact .nilFunc
 | iface t v v' _ ih=>exact .iface t v v' ih
 | nilIface=>exact .nilIface
 | agg a a' ha _ ia=>exact .agg a a' ha ia
 | tuple a a' ha _ ia=>exact .tuple a a' ha ia
def LRel(φ:Map)(l l':List Value):Prop:=l.length=l'.length/\∀(j:Nat) x y,l[j]?=some x->l'[j]?=some y->VRel φ x y
theorem LRel.mono{φ ψ:Map}(h:φ.le ψ){v c:List Value}(r:LRel φ v c):LRel ψ v c:=⟨r.1,fun j x y a b=>(r.2 j x y a b).mono h⟩
theorem LRel.nil(φ:Map):LRel φ [] []:=⟨rfl,fun j x y a=>by simp at a⟩
theorem LRel.cons{φ:Map}{x y:Value}{l l':List Value}(h:VRel φ x y)(r:LRel φ l l'):LRel φ (x::l) (y::l'):=by
 refine⟨by simp[r.1],fun j a b ha hb=>?_⟩;cases j with
 | zero=>simp at ha hb;subst ha hb;exact h
 | succ j=>simp at ha hb;exact r.2 j a b ha hb
theorem LRel.of_cons{φ:Map}{x:Value}{l l':List Value}(r:LRel φ (x::l) l'):∃y r',l'=y::r'/\VRel φ x y/\LRel φ l r':=by
 cases l' with
 | nil=>have:=r.1;simp at this
 | cons y r'=>
  refine⟨y,r',rfl,r.2 0 x y rfl rfl,?_,fun j a b ha hb=>r.2 (j+1) a b (by simpa using ha) (by simpa using hb)⟩;have:=r.1;simp at this;exact this
theorem LRel.of_nil{φ:Map}{l':List Value}(r:LRel φ [] l'):l'=[]:=by
 cases l' with
 | nil=>rfl
 | cons y r'=>have:=r.1;simp at this
theorem LRel.append{φ:Map}{a b a' b':List Value}(h:LRel φ a a')(k:LRel φ b b'):LRel φ (a++b) (a'++b'):=by
 refine⟨by simp[h.1,k.1],fun j x y hx hy=>?_⟩;by_cases hj:j<a.length
 ·rw[ax₀ hj]at hx
  rw[ax₀ (h.1▸hj)]at hy;exact h.2 j x y hx hy
 ·rw[aw₀ byO]at hx
  rw[aw₀ (by rw[<-h.1];omega)]at hy;exact k.2 (j-a.length) x y hx (by rw[h.1];exact hy)
theorem LRel.take{φ:Map}{a a':List Value}(h:LRel φ a a')(n:Nat):LRel φ (a.take n) (a'.take n):=by
 refine⟨by simp[h.1],fun j x y hx hy=>?_⟩;rw[List.getElem?_take]at hx hy;split at hx
 ·rename_i hj;rw[if_pos hj]at hy;exact h.2 j x y hx hy
 ·simp at hx
theorem LRel.drop{φ:Map}{a a':List Value}(h:LRel φ a a')(n:Nat):LRel φ (a.drop n) (a'.drop n):=by
 refine⟨by simp[h.1],fun j x y hx hy=>?_⟩;rw[List.getElem?_drop]at hx hy;exact h.2 _ x y hx hy
theorem LRel.arr{φ:Map}{a a':Array Value}:LRel φ a.toList a'.toList↔(a.size=a'.size/\∀(j:Nat) x y,a[j]?=some x->a'[j]?=some y->VRel φ x y):=by
 simp[LRel]
theorem LRel.putCells{φ:Map}{c c' v v':List Value}(h:LRel φ c c')(k:LRel φ v v')(off:Nat):LRel φ (putCells c off v) (putCells c' off v'):=by
 unfold Abs.putCells;rw[<-k.1];exact(h.take off).append (k.append (h.drop _))
theorem LRel.map_left{α:Type}{φ:Map}(f g:α->Value)(l:List α)(h:∀x ∈ l,VRel φ (f x) (g x)):LRel φ (l.map f) (l.map g):=by
 refine⟨by simp,fun j x y hx hy=>?_⟩;simp only[az₀,aa₀]at hx hy;obtain⟨a,ha,rfl⟩:=hx;obtain⟨b,hb,rfl⟩:=hy;rw[ha]at hb;cases hb;exact h a (List.mem_of_getElem? ha)
theorem VRel.cells{φ:Map}{v c:Value}(h:VRel φ v c):LRel φ v.cells.toList c.cells.toList:=by
 have one:∀{v c:Value},VRel φ v c->LRel φ [v] [c]:=fun h=>LRel.cons h (LRel.nil φ);cases h with
 | agg a a' ha ra=>exact LRel.arr.2 ⟨ha,ra⟩
 | bool b=>exact one (.bool b)
 | int k n=>exact one (.int k n)
 | float k n=>exact one (.float k n)
 | string s=>exact one (.string s)
 | nilPtr=>exact one .nilPtr
 | ptr i o p e=>exact one (.ptr i o p e)
 | nilSlice l c=>exact one (.nilSlice l c)
 | slice i o l c p e=>exact one (.slice i o l c p e)
 | sliceIn i o l c z p o' c' e hc hl ho hn=>exact one (.sliceIn i o l c z p o' c' e hc hl ho hn)
 | nilMap=>exact one .nilMap
 | func f a b a' b' ha hb ra rb=>exact one (.func f a b a' b' ha hb ra rb)
 | nilFunc=>exact one .nilFunc
 | iface t v v' h=>exact one (.iface t v v' h)
 | nilIface=>exact one .nilIface
 | tuple a a' ha ra=>exact one (.tuple a a' ha ra)
theorem VRel.oneCell{φ:Map}{v c:Value}(h:VRel φ v c):c.oneCell'=v.oneCell':=by cases h<;>rfl
theorem LRel.oneCells{φ:Map}{l l':List Value}(r:LRel φ l l')(h:oneCells l=true):∀v ∈ l',v.oneCell'=true:=by
 intro v hv;obtain⟨j,hj⟩:=List.getElem?_of_mem hv;have hlt:j<l.length:=by rw[r.1];exact(List.getElem?_eq_some_iff.1 hj).1
 have:=r.2 j _ v (bb₀ hlt) hj;rw[this.oneCell];exact List.all_eq_true.1 h _ (List.getElem_mem hlt)
theorem gD(φ:Map){v:Value}(h:bO v=true):VRel φ v v:=by
 unfold bO at h;split at h
 ·exact .bool _
 ·exact .int _ _
 ·exact .string _
 ·exact .nilPtr
 ·exact .nilSlice _ _
 ·exact .nilMap
 ·exact .nilFunc
 ·exact .nilIface
 ·exact .float _ _
 ·rename_i f a b
  simp at h;exact .func f a b a b rfl rfl (fun j x y hx=>by simp[h.1]at hx) (fun j x y hx=>by simp[h.2]at hx)
 ·simp at h
theorem cW(φ:Map){l:List Value}(h:l.all bO=true):LRel φ l l:=by
 refine⟨rfl,fun j x y hx hy=>?_⟩;rw[hx]at hy;cases hy;exact gD φ (List.all_eq_true.1 h _ (List.mem_of_getElem? hx))
theorem mf(φ:Map){v:Value}(h:fO v=true):VRel φ v v:=by
 unfold fO at h;split at h
 ·rename_i cs;obtain⟨a,b⟩:=LRel.arr.1 (cW φ h);exact .agg cs cs a b
 ·rename_i cs;obtain⟨a,b⟩:=LRel.arr.1 (cW φ h);exact .tuple cs cs a b
 ·exact .iface _ _ _ (gD φ h)
 ·exact gD φ h
def NoFrz(n:Nat)(fr:Nat×Nat):Prop:=fr.1=fr.2\/n<=fr.1
theorem NoFrz.not{n:Nat}{fr:Nat×Nat}(h:NoFrz n fr)(o:Nat)(ho:o<n):¬ (fr.1<=o/\o<fr.2):=by
 rcases h with h|h<;>omega
structure HRel (φ:Map)(base G:Nat)(H:Heap)(w:World):Prop where
 cell:∀i c,H.get i=some c->∃p arr ty fr,φ i=some p/\w.heap[p.b]?=some (.cells arr ty fr)/\arr.size=p.s+p.n/\c.length<=p.n /\
  (∀(j:Nat) v,c[j]?=some v->∃u,arr[p.s+j]?=some u/\VRel φ v u)/\(base<=i->NoFrz arr.size fr)
 inj:∀i j c d p q,H.get i=some c->H.get j=some d->φ i=some p->φ j=some q->base<=i->p.b=q.b->i=j
 dom:∀i p,φ i=some p->i<H.length
 glob:∀g,g<G->∃n,φ g=some ⟨g,0,n⟩
 plc:∀i p,φ i=some p->p.b<w.heap.size
def CRel(φ:Map)(H:Heap)(w:World):Prop:=
 ∀i c p,H.get i=some c->φ i=some p->∃arr ty fr,w.heap[p.b]?=some (.cells arr ty fr)/\arr.size=p.s+p.n/\c.length<=p.n/\∀(j:Nat) v,c[j]?=some v->∃u,arr[p.s+j]?=some u/\VRel φ v u
theorem HRel.crel{φ:Map}{base G:Nat}{H:Heap}{w:World}(h:HRel φ base G H w):CRel φ H w:=by
 intro i c p hc hp;obtain⟨p',arr,ty,fr,e1,e2,e3,e4,e5,_⟩:=h.cell i c hc;rw[hp]at e1;cases e1;exact⟨arr,ty,fr,e2,e3,e4,e5⟩
theorem Heap.get_lt{H:Heap}{i:Nat}{c:List Value}(h:H.get i=some c):i<H.length:=by
 unfold Heap.get at h;split at h
 ·rename_i e;exact(List.getElem?_eq_some_iff.1 e).1
 ·simp at h
theorem CRel.cells{φ:Map}{H:Heap}{w:World}(h:CRel φ H w){i off n:Nat}{l:List Value}{p:Place}(hc:H.cells i off n=some l)(hp:φ i=some p) :
  l.length=n/\∃l',LRel φ l l'/\∀(j:Nat) v,l'[j]?=some v->w.cell? ((⟨p.b,p.s+off,none⟩:Addr).add j)=some v:=by
 unfold Heap.cells at hc;split at hc
 ·rename_i c hg
  split at hc
  ·rename_i hle
   cases hc;obtain⟨arr,ty,fr,e2,e3,e4,e5⟩:=h i c p hg hp;have hlen:((c.drop off).take n).length=n:=by simp;omega
   refine⟨hlen,(arr.toList.drop (p.s+off)).take n,⟨?_,?_⟩,?_⟩
   ·rw[hlen];simp;omega
   ·intro j x y hx hy
    rw[List.getElem?_take,List.getElem?_drop]at hx hy;split at hx
    ·rename_i hj
     rw[if_pos hj]at hy;obtain⟨u,hu,hv⟩:=e5 (off+j) x hx;rw[<-Nat.add_assoc]at hu;simp at hy;rw[hu]at hy;cases hy;exact hv
    ·simp at hx
   ·intro j v hv
    rw[List.getElem?_take,List.getElem?_drop]at hv;split at hv
    ·have hadd:(⟨p.b,p.s+off,none⟩:Addr).add j=⟨p.b,p.s+off+j,none⟩:=by unfold Addr.add;split<;>simp_all
     rw[hadd];simp[World.cell?,e2];simpa using hv
    ·simp at hv
  ·simp at hc
 ·simp at hc
theorem Heap.cells_get{H:Heap}{i off n:Nat}{l:List Value}(hc:H.cells i off n=some l):∃c,H.get i=some c:=by
 unfold Heap.cells at hc;split at hc
 ·rename_i c hg;exact⟨c,hg⟩
 ·simp at hc
theorem Ag{P:Program}{t:TypeId}{n:Nat}(h:eV P t=some n):∃i,P.info? t=some i/\i.size=n:=by
 unfold eV at h;simpa using h
theorem ay{P:Program}{t:TypeId}{n:Nat}(h:eV P t=some n)(w:World):(sizeOf t).run P w=.ok n w:=by
 obtain⟨i,hi,hn⟩:=Ag h;simp[Go.sizeOf,typeInfo,hi,hn]
theorem j8{P:Program}{t:TypeId}{b:Bool}(h:jB P t=some b)(w:World):(isAgg t).run P w=.ok b w:=by
 unfold jB at h;cases hu:P.underlying t with
 | none=>simp[hu]at h
 | some d=>
  rw[hu]at h;simp only[isAgg,Sem.run_bind,run_underlying hu,Result.andThen_ok];cases d<;>simp at h<;>subst h<;>rfl
theorem dK(b o j:Nat):(⟨b,o,none⟩:Addr).add j=⟨b,o+j,none⟩:=by unfold Addr.add;split<;>simp_all
section
variable {P:Program}{φ:Map}{base G:Nat}{H:Heap}{w:World}
theorem KN{op:BinOp}{t:TypeId}{x y:Value}{v:Value}(hs:bF op x y=some v):(binOp op t x y).run P w=.ok v w/\∀a b:Operand,(eqGuard op t a b x y).run P w=.ok () w:=by
 unfold bF at hs;split at hs
 ·rename_i k a k' b
  refine⟨?_,fun x y=>?_⟩
  ·cases op
   case shl|shr=>all_goals
    simp only[gX]at hs;split at hs
    ·simp at hs
    ·rename_i hb
     simp at hs;subst hs;simp[binOp,Op.shift,hb]
   case quo|rem=>all_goals
    simp only[bQ]at hs;split at hs
    ·rename_i hk;subst hk
     split at hs
     ·simp at hs
     ·rename_i hb;simp at hs;subst hs;simp[binOp,Op.intDiv,hb]
    ·simp at hs
   all_goals
    simp only[bQ]at hs;split at hs
    ·rename_i hk;subst hk
     simp at hs;subst hs;simp[binOp,Op.intArith,Op.intBits,Op.intCmp]
    ·simp at hs
  ·unfold eqGuard
   split<;>simp
 ·rename_i a b
  refine⟨?_,fun x y=>?_⟩
  ·unfold p4 at hs
   cases op<;>simp at hs
   case add=>obtain⟨h1,rfl⟩:=hs;simp[binOp,Op.stringOp];omega
   all_goals (subst hs;simp[binOp,Op.stringOp])
  ·unfold eqGuard
   split<;>simp
 ·simp at hs
theorem zZ{t:TypeId}{n:Nat}{agg:Bool}{cs:Array Value}{off:Nat}(hn:eV P t=some n)(ha:jB P t=some agg)
  {v:Value} (h:(if agg then(if off+n<=cs.size then some (Value.agg (cs.extract off (off+n))) else none) else cs[off]?)=some v) :
  (part t cs off).run P w=.ok v w:=by
 simp only[part,Sem.run_bind,j8 ha,Result.andThen_ok];cases agg
 ·simp at h;simp[h]
 ·simp at h;simp[ay hn,h.2]
theorem nL{t:TypeId}{k:Nat}(h:nz P t=some k):jB P t=some false:=by
 unfold nz at h;unfold jB;split at h<;>simp_all
theorem qK{t:TypeId}{k:Nat}(hk:nz P t=some k)(d:Nat){x y:Value}{b:Bool}(h:jN k x y=some b) :
  (Op.equalIn (d+1) t x y).run P w=.ok b w:=by
 unfold nz at hk;split at hk<;>simp at hk<;>subst hk
 all_goals
  rename_i hu;unfold jN at h;split at h<;>simp_all
 ·subst h;exact run_equalIn_bool w d t _ _ hu
 ·obtain⟨rfl,rfl⟩:=h;exact run_equalIn_int w d t _ _ _ _ hu
 ·subst h;exact run_equalIn_string w d t _ _ hu
theorem jI{t:TypeId}(ha:jB P t=some false){cs:Array Value}{off:Nat}{v:Value}(h:cs[off]?=some v):(part t cs off).run P w=.ok v w:=by
 simp[part,j8 ha,h]
theorem oc(d:Nat)(xs ys:Array Value):∀(fs:List Field) (n:Nat) (ks:List Nat) (b:Bool),im P n fs=some ks->aj ks (xs.toList.drop n) (ys.toList.drop n)=some b ->
  (Op.eqFields (d+1) xs ys fs).run P w=.ok b w
 | [],n,ks,b,hk,h=>by
  simp[im]at hk;subst hk;unfold aj at h;split at h<;>simp_all [Op.eqFields]
 | f::r,n,ks,b,hk,h=>by
  simp only[im]at hk;split at hk
  ·simp at hk
  ·rename_i hc
   split at hk
   ·rename_i k ks' h1 h2
    simp at hk;subst hk;have hname : f.name ≠ "_" := fun e => hc (.inl e);have hoff:f.offset=n:=Decidable.byContradiction fun e=>hc (.inr e);cases hx:xs.toList.drop n with
    | nil=>rw[hx]at h;simp[aj]at h
    | cons a x=>
     cases hy:ys.toList.drop n with
     | nil=>rw[hx,hy]at h;simp[aj]at h
     | cons c y=>
      rw[hx,hy]at h;simp only[aj]at h;split at h
      ·rename_i p q hp hq
       simp at h;subst h;have ex:xs[n]?=some a:=by have:=congrArg (·[0]?) hx;simpa using this
       have ey:ys[n]?=some c:=by have:=congrArg (·[0]?) hy;simpa using this
       have dx:xs.toList.drop (n+1)=x:=by have:=congrArg List.tail hx;simpa using this
       have dy:ys.toList.drop (n+1)=y:=by have:=congrArg List.tail hy;simpa using this
       have ih:=oc d xs ys r (n+1) ks' q h2 (by rw[dx,dy];exact hq);simp only[Op.eqFields,hname,ne_eq,not_false_eq_true,if_true,Sem.run_bind,hoff,jI (nL h1) ex,jI (nL h1) ey,qK h1 d hp,Result.andThen_ok];cases p
       ·simp
       ·simpa using ih
      ·simp at h
   ·simp at hk
theorem mH:∀(ks js:List Nat) (x y:List Value) (b:Bool),aj (ks++js) x y=some b->∃p q,aj ks (x.take ks.length) (y.take ks.length)=some p/\aj js (x.drop ks.length) (y.drop ks.length)=some q/\b=(p&&q)/\ks.length<=x.length/\ks.length<=y.length
 | [],js,x,y,b,h=>⟨true,b,by simp[aj],by simpa using h,by simp,by simp,by simp⟩
 | k::ks,js,[],y,b,h=>by simp[aj]at h
 | k::ks,js,a::x,[],b,h=>by simp[aj]at h
 | k::ks,js,a::x,c::y,b,h=>by
  simp only[am₀,aj]at h;split at h
  ·rename_i p q hp hq
   simp at h;subst h;obtain⟨p',q',h1,h2,h3,h4,h5⟩:=mH ks js x y q hq;refine⟨p&&p',q',by simp[aj,hp,h1],by simpa using h2,by rw[h3,Bool.and_assoc],by simpa using h4,by simpa using h5⟩
  ·simp at h
theorem DQ{t:TypeId}{js:List Nat}(h:iX P t=some js)(d:Nat){xs ys:Array Value}{b:Bool}(he:aj js xs.toList ys.toList=some b):eV P t=some js.length/\jB P t=some true/\(Op.equalIn (d+2) t (.agg xs) (.agg ys)).run P w=.ok b w:=by
 unfold iX at h;split at h
 ·rename_i fs hu
  split at h
  ·simp at h
  ·rename_i hc
   split at h
   ·rename_i ks hk
    split at h
    ·rename_i hs
     simp at h;subst h;have hf:P.fieldsOf t=fs:=by simp[Program.fieldsOf,hu]
     refine⟨hs.1,by simp[jB,hu],?_⟩;rw[run_equalIn_struct w (d+1) t xs ys (by rw[hf];exact hu) (by simpa using hc),hf];exact oc d xs ys fs.toList 0 ks b hk (by simpa using he)
    ·simp at h
   ·simp at h
 ·simp at h
theorem Ah{t:TypeId}{js:List Nat}(h:iX P t=some js):0<js.length:=by
 unfold iX at h;split at h
 ·split at h
  ·simp at h
  ·split at h
   ·split at h
    ·rename_i hs;simp at h;subst h;exact hs.2
    ·simp at h
   ·simp at h
 ·simp at h
theorem wP{t:TypeId}{n:Nat}(hn:eV P t=some n)(ha:jB P t=some true){cs:Array Value}{off:Nat}(h:off+n<=cs.size):(part t cs off).run P w=.ok (.agg (cs.extract off (off+n))) w:=by
 simp[part,j8 ha,ay hn,h]
theorem jm(d:Nat)(xs ys:Array Value):∀(fs:List Field) (n:Nat) (ks:List Nat) (b:Bool),fU P n fs=some ks->aj ks (xs.toList.drop n) (ys.toList.drop n)=some b ->
  (Op.eqFields (d+2) xs ys fs).run P w=.ok b w
 | [],n,ks,b,hk,h=>by
  simp[fU]at hk;subst hk;unfold aj at h;split at h<;>simp_all [Op.eqFields]
 | f::r,n,ks,b,hk,h=>by
  simp only[fU]at hk;split at hk
  ·simp at hk
  ·rename_i hc
   have hname : f.name ≠ "_" := fun e => hc (.inl e);have hoff:f.offset=n:=Decidable.byContradiction fun e=>hc (.inr e);split at hk
   ·rename_i k h1
    split at hk
    ·rename_i ks' h2
     simp at hk;subst hk;cases hx:xs.toList.drop n with
     | nil=>rw[hx]at h;simp[aj]at h
     | cons a x=>
      cases hy:ys.toList.drop n with
      | nil=>rw[hx,hy]at h;simp[aj]at h
      | cons c y=>
       rw[hx,hy]at h;simp only[aj]at h;split at h
       ·rename_i p q hp hq
        simp at h;subst h;have ex:xs[n]?=some a:=by have:=congrArg (·[0]?) hx;simpa using this
        have ey:ys[n]?=some c:=by have:=congrArg (·[0]?) hy;simpa using this
        have dx:xs.toList.drop (n+1)=x:=by have:=congrArg List.tail hx;simpa using this
        have dy:ys.toList.drop (n+1)=y:=by have:=congrArg List.tail hy;simpa using this
        have ih:=jm d xs ys r (n+1) ks' q h2 (by rw[dx,dy];exact hq);simp only[Op.eqFields,hname,ne_eq,not_false_eq_true,if_true,Sem.run_bind,hoff,jI (nL h1) ex,jI (nL h1) ey,qK h1 (d+1) hp,Result.andThen_ok];cases p
        ·simp
        ·simpa using ih
       ·simp at h
    ·simp at hk
   ·split at hk
    ·rename_i js h1
     split at hk
     ·rename_i ks' h2
      simp at hk;subst hk;obtain⟨p,q,hp,hq,rfl,lx,ly⟩:=mH js ks' _ _ b h;have hpos:=Ah h1;have hj:n+js.length<=xs.size/\n+js.length<=ys.size:=by simp at lx ly;omega
      ·have ex:(xs.extract n (n+js.length)).toList=(xs.toList.drop n).take js.length:=by simp[List.extract_eq_take_drop]
       have ey:(ys.extract n (n+js.length)).toList=(ys.toList.drop n).take js.length:=by simp[List.extract_eq_take_drop]
       obtain⟨i1,i2,i3⟩:=DQ (w:=w) h1 d (xs:=xs.extract n (n+js.length)) (ys:=ys.extract n (n+js.length)) (b:=p) (by rw[ex,ey];exact hp);have ih:=jm d xs ys r (n+js.length) ks' q h2 (by rw[List.drop_drop,List.drop_drop]at hq;exact hq);simp only[Op.eqFields,hname,ne_eq,not_false_eq_true,if_true,Sem.run_bind,hoff,wP i1 i2 hj.1,wP i1 i2 hj.2,i3,Result.andThen_ok];cases p
       ·simp
       ·simpa using ih
     ·simp at hk
    ·simp at hk
theorem Cr{t:TypeId}{ks:List Nat}{xs ys:Array Value}{b:Bool}(ht:l7 P t=some ks)(h:aj ks xs.toList ys.toList=some b) :
  (Op.equalIn 10000 t (.agg xs) (.agg ys)).run P w=.ok b w/\∀op x y,(eqGuard op t x y (.agg xs) (.agg ys)).run P w=.ok () w:=by
 unfold l7 at ht;split at ht
 ·rename_i fs hu
  split at ht
  ·simp at ht
  ·rename_i hc
   simp at hc;have hf:P.fieldsOf t=fs:=by simp[Program.fieldsOf,hu]
   refine⟨?_,fun op x y=>run_eqGuard_agg w op t x y xs ys hc.2⟩;rw[run_equalIn_struct w 9999 t xs ys (by rw[hf];exact hu) hc.1,hf];exact jm 9997 xs ys fs.toList 0 ks b ht (by simpa using h)
 ·simp at ht
theorem wz{k:Nat}{x y x' y':Value}{b:Bool}(h:jN k x y=some b)(hx:VRel φ x x')(hy:VRel φ y y'):x'=x/\y'=y:=by
 unfold jN at h;split at h<;>simp at h<;>(cases hx;cases hy;exact⟨rfl,rfl⟩)
theorem o0:∀{ks:List Nat} {x y x' y':List Value} {b:Bool},aj ks x y=some b->LRel φ x x'->LRel φ y y'->x'=x/\y'=y
 | [],[],[],x',y',b,_,hx,hy=>⟨hx.of_nil,hy.of_nil⟩
 | k::ks,a::x,c::y,x',y',b,h,hx,hy=>by
  obtain⟨a',x'',rfl,ha,hx2⟩:=hx.of_cons;obtain⟨c',y'',rfl,hc,hy2⟩:=hy.of_cons;simp only[aj]at h;split at h
  ·rename_i p q hp hq
   obtain⟨rfl,rfl⟩:=wz hp ha hc;obtain⟨rfl,rfl⟩:=o0 hq hx2 hy2;exact⟨rfl,rfl⟩
  ·simp at h
 | [],[],_::_,_,_,_,h,_,_=>by simp[aj]at h
 | [],_::_,_,_,_,_,h,_,_=>by simp[aj]at h
 | _::_,[],_,_,_,_,h,_,_=>by simp[aj]at h
 | _::_,_::_,[],_,_,_,h,_,_=>by simp[aj]at h
end
section
variable {P:Program}{φ:Map}{base G:Nat}{H:Heap}{w:World}
theorem kG{v c:Value}{y n:Nat}(h:toB v y=some n)(r:VRel φ v c)(code:BoundsCode){y':Nat}(hy:y<=y'):(Instr.sliceBound c y' code).run P w=.ok n w/\n<=y:=by
 unfold toB at h;split at h
 ·cases r
  split at h
  ·rename_i k i hb
   simp at h;subst h;have:0<=i/\i<=(y':Int):=byO;simp[Instr.sliceBound,asIntOf,this];omega
  ·simp at h
 ·simp at h
theorem jU{len cap cap':Nat}(hcap:cap<=cap'){lo hi mx:Option Operand}{ρa ρc:Operand->Value}(hρ:∀x ∈ opts [lo,hi,mx],VRel φ (ρa x) (ρc x)){l h m:Nat}(isSlice:Bool)
  (hb:bounds len cap lo.isSome hi.isSome mx.isSome ((opts [lo,hi,mx]).map ρa)=some (l,h,m)) :
  (Instr.sliceBounds isSlice len cap' (lo.map ρc) (hi.map ρc) (mx.map ρc)).run P w=.ok (l,h,if mx.isSome then m else cap') w/\l<=h/\(len<=cap->h<=m/\m<=cap)/\(mx=none->m=cap):=by
 cases lo<;>cases hi<;>cases mx<;>simp[bounds,opts,ae₀]at hb hρ
 ·obtain⟨rfl,rfl,rfl⟩:=hb
  simp[Instr.sliceBounds]
 ·rename_i x
  obtain⟨h',h1,rfl,rfl,rfl⟩:=hb;obtain⟨e1,e2⟩:=kG (P:=P) (w:=w) h1 hρ (if isSlice then .sliceAcap else .sliceAlen) hcap;simp[Instr.sliceBounds,e1,e2]
 ·rename_i x y
  obtain⟨m',h1,h',h2,rfl,rfl,rfl⟩:=hb;obtain⟨e1,e2⟩:=kG (P:=P) (w:=w) h1 hρ.2 (if isSlice then .slice3Acap else .slice3Alen) hcap;obtain⟨e3,e4⟩:=kG (P:=P) (w:=w) h2 hρ.1 .slice3B (Nat.le_refl _);simp[Instr.sliceBounds,e1,e2,e3,e4]
 ·rename_i x
  obtain⟨l',h1,rfl,rfl,rfl⟩:=hb;obtain⟨e1,e2⟩:=kG (P:=P) (w:=w) h1 hρ .sliceB (Nat.le_refl _);simp[Instr.sliceBounds,e1,e2]
 ·rename_i x y
  obtain⟨h',h2,l',h1,rfl,rfl,rfl⟩:=hb;obtain⟨e1,e2⟩:=kG (P:=P) (w:=w) h2 hρ.2 (if isSlice then .sliceAcap else .sliceAlen) hcap;obtain⟨e3,e4⟩:=kG (P:=P) (w:=w) h1 hρ.1 .sliceB (Nat.le_refl _);simp[Instr.sliceBounds,e1,e2,e3,e4]
 ·rename_i x y z
  obtain⟨m',h1,h',h2,l',h3,rfl,rfl,rfl⟩:=hb;obtain⟨e1,e2⟩:=kG (P:=P) (w:=w) h1 hρ.2.2 (if isSlice then .slice3Acap else .slice3Alen) hcap;obtain⟨e3,e4⟩:=kG (P:=P) (w:=w) h2 hρ.2.1 .slice3B (Nat.le_refl _);obtain⟨e5,e6⟩:=kG (P:=P) (w:=w) h3 hρ.1 .slice3C (Nat.le_refl _);simp[Instr.sliceBounds,e1,e2,e3,e4,e5,e6]
theorem nJ(off:Nat):∀(vs:List Value) (k:Nat) (cells:Array Value),off+k+vs.length<=cells.size ->
  (vs.zipIdx k).foldl (fun(cs:Array Value) (x:Value×Nat)=>cs.setIfInBounds (off+x.2) x.1) cells=(putCells cells.toList (off+k) vs).toArray
 | [],k,cells,_=>by simp[putCells]
 | v::vs,k,cells,h=>by
  simp only[List.zipIdx_cons,List.foldl_cons];simp at h;rw[nJ off vs (k+1) _ (by simp;omega)];congr 1;simp only[putCells,Array.toList_setIfInBounds];apply List.ext_getElem?;intro j;simp only[List.getElem?_append,List.length_take,List.length_set,List.getElem?_take,List.getElem?_drop,List.getElem?_set,Array.length_toList,ak₀];by_cases h1:j<off+k
  ·have h2:j<off+(k+1):=byO
   have h3:¬ (off+k=j):=byO;simp[h1,h2,h3,Nat.min_eq_left (show off+k<=cells.size by omega),Nat.min_eq_left (show off+(k+1)<=cells.size by omega)]
  ·by_cases h4:j=off+k
   ·subst h4
    simp[Nat.min_eq_left (show off+k<=cells.size by omega),Nat.min_eq_left (show off+(k+1)<=cells.size by omega)];omega
   ·have h2:¬ j<off+(k+1):=byO
    simp only[h1,h2,Nat.min_eq_left (show off+k<=cells.size by omega),Nat.min_eq_left (show off+(k+1)<=cells.size by omega),if_false];have e:j-(off+k)=(j-(off+(k+1)))+1:=byO;rw[e];simp only[List.getElem?_cons_succ,Nat.add_lt_add_iff_right];split
    ·rfl
    ·rename_i h5
     have h6:¬ (off+k=off+(k+1)+vs.length+(j-(off+(k+1))-vs.length)):=byO;simp only[h6,if_false];congr 1;omega
theorem nI(place:Nat->Option (Nat×Nat)):∀(pl:List (Nat×Nat)) (is:List Nat) (vs vs':List Value) (zero zero':List Value) (l:List Value),
  is.length=pl.length->(∀(j:Nat) i p,is[j]?=some i->pl[j]?=some p->place i=some p)->LRel φ vs vs'->LRel φ zero zero'->buildL zero pl vs=some l ->
  ∃l',Instr.fill place zero'.toArray (is.zip vs')=some l'.toArray/\LRel φ l l'
 | [],[],[],vs',zero,zero',l,_,_,hv,hz,h=>by
  simp[buildL]at h;subst h;exact⟨zero',by simp[Instr.fill],hz⟩
 | (off,sz)::pl,i::is,v::vs,vs',zero,zero',l,hl,hp,hv,hz,h=>by
  obtain⟨v',vs'',rfl,hv1,hv2⟩:=hv.of_cons;simp only[buildL]at h;split at h
  ·rename_i hc
   have hsz:v'.cells.size=sz:=by have:=hv1.cells.1;simp at this;omega
   have hlen:zero'.length=zero.length:=hz.1.symm;have hpl:place i=some (off,sz):=hp 0 i (off,sz) rfl rfl;obtain⟨l',e1,e2⟩:=nI place pl is vs vs'' (putCells zero off v.cells.toList) (putCells zero' off v'.cells.toList) l (by simpa using hl)
    (fun j a b ha hb=>hp (j+1) a b (by simpa using ha) (by simpa using hb)) hv2 (hz.putCells hv1.cells off) h
   refine⟨l',?_,e2⟩;simp only[List.zip_cons_cons,Instr.fill,hpl];rw[if_neg (by simp[hsz];omega)];have:=nJ off v'.cells.toList 0 zero'.toArray (by simp;omega);rw[<-Array.foldl_toList];simp only[Array.toList_zipIdx];rw[this];simpa using e1
  ·simp at h
 | [],[],_::_,_,_,_,_,_,_,_,_,h=>by simp[buildL]at h
 | _::_,_::_,[],_,_,_,_,_,_,_,_,h=>by simp[buildL]at h
 | [],_::_,_,_,_,_,_,hl,_,_,_,_=>by simp at hl
 | _::_,[],_,_,_,_,_,hl,_,_,_,_=>by simp at hl
theorem qQ(isMax:Bool):∀(vs vs':List Value) (x:Value) (v:Value),LRel φ vs vs'->vs.foldlM (oD isMax) x=some v->(∃k n,x=.int k n) ->
  (vs'.foldlM (if isMax then Builtin.max2 else Builtin.min2) x).run P w=.ok v w/\∃k n,v=.int k n
 | [],vs',x,v,hl,h,hx=>by
  rw[hl.of_nil];simp at h;subst h;exact⟨by cases isMax<;>simp,hx⟩
 | a::vs,vs',x,v,hl,h,hx=>by
  obtain⟨a',vs'',rfl,ha,hl2⟩:=hl.of_cons;simp only[List.foldlM_cons,Option.bind_eq_bind,ae₀]at h;obtain⟨m,hm,h⟩:=h;obtain⟨k,n,rfl⟩:=hx;unfold oD at hm;split at hm
  ·rename_i k1 n1 k2 n2 e
   cases ha;simp at e hm;obtain⟨rfl,rfl⟩:=e;subst hm;have ih:=qQ isMax vs vs'' _ v hl2 h ⟨_,_,rfl⟩;refine⟨?_,ih.2⟩;cases isMax
   ·simpa[Builtin.min2]using ih.1
   ·simpa[Builtin.max2]using ih.1
  ·simp at hm
theorem p9:∀(l:List Value) (bs:List UInt8),bytesOf l=some bs->∀l',LRel φ l l'->l'=l
 | [],_,_,l',h=>h.of_nil
 | v::r,bs,hb,l',h=>by
  obtain⟨v',r',rfl,hv,hr⟩:=h.of_cons;unfold bytesOf at hb;split at hb
  ·rename_i e;simp at e
  ·rename_i n r2 e
   simp at e;obtain⟨rfl,rfl⟩:=e;cases hv;simp at hb;obtain⟨a,ha,_⟩:=hb;rw[p9 r a ha r' hr]
  ·simp at hb
theorem pA(er:String):∀(l:List Value) (bs:List UInt8) (s:ByteArray),bytesOf l=some bs ->
  (forIn l s (fun c (s:ByteArray)=>(match c with | .int .u8 n=>pure (ForInStep.yield (s.push (UInt8.ofNat n.toNat)))|_=>do
    stuck er
    pure (ForInStep.yield s):Sem (ForInStep ByteArray)))).run P w=.ok ⟨s.data++bs.toArray⟩ w
 | [],bs,s,h=>by simp[bytesOf]at h;subst h;simp
 | v::r,bs,s,h=>by
  unfold bytesOf at h;split at h
  ·rename_i e;simp at e
  ·rename_i n r2 e
   simp at e;obtain⟨rfl,rfl⟩:=e;simp at h;obtain⟨a,ha,rfl⟩:=h;have ih:=pA er r a (s.push (UInt8.ofNat n.toNat)) ha;simp only[List.forIn_cons,Sem.run_bind,Sem.run_pure,Result.andThen_ok];rw[ih];simp[ByteArray.push]
  ·simp at h
end
section
variable {P:Program}{φ:Map}{H:Heap}{w:World}
theorem eg{t:TypeId}{z:List Value}(h:zeroOf P t=some z):∃i v,P.info? t=some i/\i.zero=some v/\v.cells.toList=z/\z.length=i.size/\z.all bO=true:=by
 unfold zeroOf at h;split at h
 ·rename_i i hi
  split at h
  ·rename_i v hv
   split at h
   ·rename_i hc;simp at h;subst h;exact⟨i,v,hi,hv,rfl,by simpa using hc.1,hc.2⟩
   ·simp at h
  ·simp at h
 ·simp at h
theorem cQ{t:TypeId}{i:TypeInfo}{v:Value}(hi:P.info? t=some i)(hv:i.zero=some v):(zeroValue t).run P w=.ok v w:=by
 simp[zeroValue,typeInfo,hi,hv]
theorem zL(hH:CRel φ H w){n:Nat}{agg:Bool}{t:TypeId}(ha:jB P t=some agg)(hn:eV P t=some n){a c v:Value}(r:VRel φ a c)(hs:aJ (.ld n agg) [a] H=some v) :
  ∃cv,(Instr.loadAt t c).run P w=.ok cv w/\VRel φ v cv:=by
 cases r<;>simp only[aJ]at hs<;>try (simp at hs;done)
 rename_i i o p hp;cases agg
 ·simp only[ah₀,if_false,ae₀]at hs
  obtain⟨l,hl,hh⟩:=hs;obtain⟨hlen,l',hr,hc⟩:=hH.cells hl hp;obtain⟨u,hu⟩:∃u,l'[0]?=some u:=by
   have:0<l'.length:=by rw[<-hr.1,hlen];omega
   exact⟨_,bb₀ this⟩
  have h0:l[0]?=some v:=by rw[<-hh];cases l<;>rfl
  refine⟨u,?_,hr.2 0 v u h0 hu⟩;have:=hc 0 u hu;rw[dK]at this;simp at this;simp[Instr.loadAt,Instr.sureAddr,loadVar,j8 ha,this]
 ·simp only[if_true,aa₀]at hs
  obtain⟨l,hl,rfl⟩:=hs;obtain⟨hlen,l',hr,hc⟩:=hH.cells hl hp;have hlc:=run_loadCells_list (P:=P) w ⟨p.b,p.s+o,none⟩ l' hc;rw[<-hr.1,hlen]at hlc;exact⟨.agg l'.toArray,by simp[Instr.loadAt,Instr.sureAddr,loadVar,j8 ha,ay hn,hlc],.agg _ _ (by simp[hr.1]) (by simpa using hr.2)⟩
theorem KJ(hH:CRel φ H w){a c v:Value}(r:VRel φ a c)(hs:aJ .b2s [a] H=some v):(Conv.bytesToString c).run P w=.ok v w/\VRel φ v v:=by
 have core:∀(i o len o' c':Nat) (p:Place),φ i=some p->(o'=o\/len=0)->((H.cells i o len).bind bytesOf).map (fun l=>Value.string ⟨l.toArray⟩)=some v ->
   (Conv.bytesToString (.slice (some ⟨p.b,p.s+o',none⟩) len c')).run P w=.ok v w/\VRel φ v v:=by
  intro i o len o' c' p hp ho hs;simp only[aa₀,ae₀]at hs;obtain⟨bs,⟨l,hl,hb⟩,rfl⟩:=hs;obtain⟨hlen,l',hr,hc⟩:=hH.cells hl hp;have hl':=p9 l bs hb l' hr;subst hl';have hc':∀(j:Nat) v,l'[j]?=some v->w.cell? ((⟨p.b,p.s+o',none⟩:Addr).add j)=some v:=by
   rcases ho with rfl|rfl
   ·exact hc
   ·intro j v hv
    have:l'=[]:=List.eq_nil_of_length_eq_zero hlen;subst this;simp at hv
  have hlc:=run_loadCells_list (P:=P) w ⟨p.b,p.s+o',none⟩ l' hc';rw[hlen]at hlc;refine⟨?_,.string _⟩;simp only[Conv.bytesToString,Sem.run_bind,hlc,Result.andThen_ok];simp only[List.forIn_toArray];refine Eq.trans (congrArg (fun x:Result ByteArray=>x.andThen _) (pA (P:=P) (w:=w) _ l' bs .empty hb)) ?_;simp
 cases r<;>simp only[aJ]at hs<;>try (simp at hs;done)
 ·simp at hs;subst hs;exact⟨by simp[Conv.bytesToString],.string _⟩
 ·rename_i i o l c p hp;exact core i o l o c p hp (.inl rfl) hs
 ·rename_i i o l c z p o' c' hp hc hl ho hn;exact core i o l o' c' p hp (ho.imp id (fun e=>by omega)) hs
theorem PO{t e:TypeId}{sz:Nat}{x:Operand}{lo hi mx:Option Operand}{ρa ρc:Operand->Value}(hu:P.underlying t=some (.slice e))(hz:eV P e=some sz)
  (hρ:∀y ∈ x::opts [lo,hi,mx],VRel φ (ρa y) (ρc y)) {v:Value} (hs:aJ (.sl sz lo.isSome hi.isSome mx.isSome) ((x::opts [lo,hi,mx]).map ρa) H=some v) :
  ∃cv,(Instr.sliceAt t (ρc x) (lo.map ρc) (hi.map ρc) (mx.map ρc)).run P w=.ok cv w/\VRel φ v cv:=by
 have hx:=hρ x (by simp);have hr:∀y ∈ opts [lo,hi,mx],VRel φ (ρa y) (ρc y):=fun y hy=>hρ y (List.mem_cons_of_mem _ hy);simp only[ag₀]at hs;generalize ρa x=a at hx hs;generalize ρc x=c at hx;clear hρ;simp only[Instr.sliceAt,Sem.run_bind,run_underlying hu,Result.andThen_ok,Instr.slice];cases hx<;>simp only[aJ]at hs<;>try (simp at hs;done)
 ·rename_i len cap
  simp only[aa₀]at hs;obtain⟨⟨l,h,m⟩,hb,rfl⟩:=hs;obtain⟨e1,e2,e3,e4⟩:=jU (P:=P) (w:=w) (Nat.le_refl cap) hr true hb;have hm:(if mx.isSome then m else cap)=m:=by
   cases mx with
   | none=>simp[e4 rfl]
   | some y=>rfl
  rw[hm]at e1;exact⟨_,by simp[e1,ay hz],.nilSlice _ _⟩
 ·rename_i i o len cap p hp
  simp only[aa₀]at hs;obtain⟨⟨l,h,m⟩,hb,rfl⟩:=hs;obtain⟨e1,e2,e3,e4⟩:=jU (P:=P) (w:=w) (Nat.le_refl cap) hr true hb;have hm:(if mx.isSome then m else cap)=m:=by
   cases mx with
   | none=>simp[e4 rfl]
   | some y=>rfl
  rw[hm]at e1;refine⟨.slice (some ⟨p.b,p.s+(if m=l then o else o+l*sz),none⟩) (h-l) (m-l),?_,.slice i _ _ _ p hp⟩;simp only[Sem.run_bind,e1,ay hz,Result.andThen_ok,Sem.run_pure];split<;>simp[dK,Nat.add_assoc]
 ·rename_i i o len cap z p o' c' hp hc hl ho hn
  split at hs
  ·rename_i hzz;subst hzz
   simp only[aa₀]at hs;obtain⟨⟨l,h,m⟩,hb,hv⟩:=hs;obtain⟨e1,e2,e3,e4⟩:=jU (P:=P) (w:=w) hc hr true hb;obtain⟨e5,e6⟩:=e3 hl;cases mx with
   | some y=>
    simp only[Option.isSome_some,if_true]at e1;by_cases h0:cap=0
    ·subst h0
     simp at hv;subst hv;obtain rfl:m=0:=byO;obtain rfl:h=0:=byO;obtain rfl:l=0:=byO;refine⟨.slice (some ⟨p.b,p.s+o',none⟩) 0 0,?_,?_⟩
     ·simp only[Sem.run_bind,e1,ay hz,Result.andThen_ok,Sem.run_pure,if_true,Nat.sub_self]
     ·simp;exact .sliceIn i o 0 0 z p o' 0 hp (Nat.le_refl _) (Nat.le_refl _) (.inr rfl) byO
    ·obtain rfl:o'=o:=ho.resolve_right h0
     simp[h0]at hv;subst hv;refine⟨.slice (some ⟨p.b,p.s+(if m=l then o' else o'+l*z),none⟩) (h-l) (m-l),?_,.slice i _ _ _ p hp⟩;simp only[Sem.run_bind,e1,ay hz,Result.andThen_ok,Sem.run_pure];split<;>simp[dK,Nat.add_assoc]
   | none=>
    obtain rfl:=e4 rfl;simp at hv e1;subst hv;refine⟨.slice (some ⟨p.b,p.s+(if c'=l then o' else o'+l*z),none⟩) (h-l) (c'-l),?_,?_⟩
    ·simp only[Option.map_none,Sem.run_bind,e1,ay hz,Result.andThen_ok,Sem.run_pure]
     split<;>simp[dK,Nat.add_assoc]
    ·refine .sliceIn i _ _ _ z p _ _ hp byO byO ?_ ?_
     ·by_cases hcl:c'=l
      ·right;omega
      ·rcases ho with rfl|h0
       ·left;simp[hcl]
       ·right;omega
     ·split
      ·rename_i hcl;subst hcl;simp;exact Nat.le_trans (Nat.le_add_right _ _) hn
      ·have:o'+l*z+(c'-l)*z=o'+c'*z:=by
        rw[Nat.add_assoc,<-Nat.add_mul];congr 2;omega
       omega
  ·simp at hs
theorem MX{t e:TypeId}{n sz:Nat}{x:Operand}{lo hi mx:Option Operand}{ρa ρc:Operand->Value}(hu:P.underlying t=some (.array n e))(hz:eV P e=some sz)
  (hρ:∀y ∈ x::opts [lo,hi,mx],VRel φ (ρa y) (ρc y)) {v:Value} (hs:aJ (.slA n sz lo.isSome hi.isSome mx.isSome) ((x::opts [lo,hi,mx]).map ρa) H=some v) :
  ∃cv,(Instr.sliceAt t (ρc x) (lo.map ρc) (hi.map ρc) (mx.map ρc)).run P w=.ok cv w/\VRel φ v cv:=by
 have hx:=hρ x (by simp);have hr:∀y ∈ opts [lo,hi,mx],VRel φ (ρa y) (ρc y):=fun y hy=>hρ y (List.mem_cons_of_mem _ hy);simp only[ag₀]at hs;generalize ρa x=a at hx hs;generalize ρc x=c at hx;clear hρ;simp only[Instr.sliceAt,Sem.run_bind,run_underlying hu,Result.andThen_ok];cases hx<;>simp only[aJ]at hs<;>try (simp at hs;done)
 rename_i i o p hp;simp only[aa₀]at hs;obtain⟨⟨l,h,m⟩,hb,rfl⟩:=hs;obtain⟨e1,e2,e3,e4⟩:=jU (P:=P) (w:=w) (Nat.le_refl n) hr false hb;have hm:(if mx.isSome then m else n)=m:=by
  cases mx with
  | none=>simp[e4 rfl]
  | some y=>rfl
 rw[hm]at e1;refine⟨.slice (some ⟨p.b,p.s+(if m=l then o else o+l*sz),none⟩) (h-l) (m-l),?_,.slice i _ _ _ p hp⟩;simp only[Instr.sureAddr,Sem.run_pure,e1,ay hz,Result.andThen_ok];split<;>simp[dK,Nat.add_assoc]
theorem MY{t:TypeId}{x:Operand}{lo hi:Option Operand}{ρa ρc:Operand->Value}(hu:P.underlying t=some .string)
  (hρ:∀y ∈ x::opts [lo,hi],VRel φ (ρa y) (ρc y)) {v:Value} (hs:aJ (.slS lo.isSome hi.isSome) ((x::opts [lo,hi]).map ρa) H=some v) :
  ∃cv,(Instr.sliceAt t (ρc x) (lo.map ρc) (hi.map ρc) none).run P w=.ok cv w/\VRel φ v cv:=by
 have hx:=hρ x (by simp);have hr:∀y ∈ opts [lo,hi,none],VRel φ (ρa y) (ρc y):=fun y hy=>hρ y (List.mem_cons_of_mem _ (by cases lo<;>cases hi<;>simp[opts]at hy ⊢<;>exact hy));simp only[ag₀]at hs;generalize ρa x=a at hx hs;generalize ρc x=c at hx;clear hρ;simp only[Instr.sliceAt,Sem.run_bind,run_underlying hu,Result.andThen_ok,Instr.slice];cases hx<;>simp only[aJ]at hs<;>try (simp at hs;done)
 rename_i s;simp only[aa₀]at hs;obtain⟨⟨l,h,m⟩,hb,rfl⟩:=hs;have hb':bounds s.size s.size lo.isSome hi.isSome (none:Option Operand).isSome ((opts [lo,hi,none]).map ρa)=some (l,h,m):=by cases lo<;>cases hi<;>simpa[opts]using hb
 obtain⟨e1,e2,e3,e4⟩:=jU (P:=P) (w:=w) (Nat.le_refl s.size) hr false hb';simp at e1;exact⟨_,by simp[e1],.string _⟩
end
section
variable {P:Program}{φ:Map}{H:Heap}{w:World}
theorem BL{fs:List Field}{ps:List (Nat×Nat)}(h:gR P fs=some ps) :
  (fs.mapM (fun f=>do pure (f.offset,<-sizeOf f.type):Field->Sem (Nat×Nat))).run P w=.ok ps w:=by
 induction fs generalizing ps with
 | nil=>simp[gR]at h;subst h;simp
 | cons f fs ih=>
  simp only[gR,ae₀,aa₀]at h;obtain⟨n,hn,r,hr,rfl⟩:=h;rw[List.mapM_cons];simp only[Sem.run_bind,ay hn,ih hr,Result.andThen_ok,Sem.run_pure]
theorem za{ps:List (Nat×Nat)}:∀{is:List Nat} {pl:List (Nat×Nat)},ij ps is=some pl->is.length=pl.length/\∀(j:Nat) i p,is[j]?=some i->pl[j]?=some p->ps[i]?=some p
 | [],pl,h=>by simp[ij]at h;subst h;simp
 | i::is,pl,h=>by
  simp only[ij]at h;split at h
  ·rename_i q hq
   simp only[aa₀]at h;obtain⟨r,hr,rfl⟩:=h;obtain⟨h1,h2⟩:=za hr;refine⟨by simp[h1],fun j a p ha hp=>?_⟩;cases j with
   | zero=>simp at ha hp;subst ha hp;exact hq
   | succ j=>exact h2 j a p (by simpa using ha) (by simpa using hp)
  ·simp at h
theorem oW(parts:List (Nat×Operand))(ρ:Operand->Value):parts.map (fun(p:Nat×Operand)=>(p.1,ρ p.2))=(parts.map (·.1)).zip ((parts.map (·.2)).map ρ):=by
 induction parts with
 | nil=>rfl
 | cons p r ih=>simp[ih]
theorem Bz{t:TypeId}{parts:Array (Nat×Operand)}{l:ROp}{xs:List Operand}(hr:bL P (.build t parts)=some (l,xs)){ρa ρc:Operand->Value}(hρ:∀x ∈ xs,VRel φ (ρa x) (ρc x)){v:Value} :
  ∃l',l=.l l'/\(aJ l' (xs.map ρa) H=some v->∃cv,(Instr.build t (parts.map fun(i,x)=>(i,ρc x))).run P w=.ok cv w/\VRel φ v cv):=by
 simp only[bL]at hr;have hparts:(parts.map fun(p:Nat×Operand)=>(p.1,ρc p.2)).toList=(parts.toList.map (·.1)).zip ((parts.toList.map (·.2)).map ρc):=by
  rw[Array.toList_map];exact oW parts.toList ρc
 split at hr
 ·rename_i fs z hu hz
  simp only[ae₀,aa₀,ad₀]at hr;obtain⟨ps,hps,pl,hpl,rfl,rfl⟩:=hr;refine⟨_,rfl,fun hs=>?_⟩;obtain⟨i,zv,hi,hzv,rfl,hlen,hpl1⟩:=eg hz;simp only[aJ,aa₀]at hs;obtain⟨l,hl,rfl⟩:=hs;obtain⟨q1,q2⟩:=za hpl;obtain⟨l',e1,e2⟩:=nI (fun i=>ps.toArray[i]?) pl _ _ _ _ _ l q1 (fun j a p ha hp=>by simpa using q2 j a p ha hp) (LRel.map_left ρa ρc _ hρ) (cW φ hpl1) hl;refine⟨.agg l'.toArray,?_,.agg _ _ (by simp[e2.1]) (by simpa using e2.2)⟩;have hm:(fs.mapM (fun f=>do pure (f.offset,<-sizeOf f.type):Field->Sem (Nat×Nat))).run P w=.ok ps.toArray w:=by
   rw[Array.mapM_eq_mapM_toList,Sem.run_map,BL hps];rfl
  simp only[Instr.build,Sem.run_bind,cQ hi hzv,Result.andThen_ok,run_underlying hu,hm,hparts];simp only[Array.toArray_toList]at e1;rw[e1];rfl
 ·rename_i n e z hu hz
  simp only[aa₀,ad₀]at hr;obtain⟨m,hm,rfl,rfl⟩:=hr;refine⟨_,rfl,fun hs=>?_⟩;obtain⟨i,zv,hi,hzv,rfl,hlen,hpl1⟩:=eg hz;simp only[aJ,aa₀]at hs;obtain⟨l,hl,rfl⟩:=hs;obtain⟨l',e1,e2⟩:=nI (fun i=>some (i*m,m)) _ (parts.toList.map (·.1)) _ _ _ _ l (by simp) (fun j a p ha hp=>by
    simp only[az₀,aa₀]at ha hp;obtain⟨x,hx,rfl⟩:=ha;obtain⟨y,hy,rfl⟩:=hp;rw[hx]at hy;cases hy;rfl) (LRel.map_left ρa ρc _ hρ) (cW φ hpl1) hl
  refine⟨.agg l'.toArray,?_,.agg _ _ (by simp[e2.1]) (by simpa using e2.2)⟩;simp only[Instr.build,Sem.run_bind,cQ hi hzv,Result.andThen_ok,run_underlying hu,ay hm,hparts];simp only[Array.toArray_toList]at e1;rw[e1];rfl
 ·simp at hr
theorem nu{t e:TypeId}(hu:P.underlying t=some (.slice e))(d:Nat)(a:Option Addr)(l c l' c':Nat) :
  (Op.equalIn (d+1) t (.slice a l c) (.slice none l' c')).run P w=.ok a.isNone w:=by
 simp only[Op.equalIn,Sem.run_bind,run_underlying hu,Result.andThen_ok];cases a<;>rfl
theorem qJ{t e:TypeId}(hu:P.underlying t=some (.pointer e))(d:Nat)(a:Option Addr) :
  (Op.equalIn (d+1) t (.pointer a) (.pointer none)).run P w=.ok a.isNone w:=by
 simp only[Op.equalIn,Sem.run_bind,run_underlying hu,Result.andThen_ok];cases a<;>rfl
theorem wR{cs cs':Array Value}{off n:Nat}{agg:Bool}{v:Value}(hsz:cs.size=cs'.size)(hrel:∀(j:Nat) x y,cs[j]?=some x->cs'[j]?=some y->VRel φ x y)
  (h:(if agg then(if off+n<=cs.size then some (Value.agg (cs.extract off (off+n))) else none) else cs[off]?)=some v) :
  ∃cv,(if agg then(if off+n<=cs'.size then some (Value.agg (cs'.extract off (off+n))) else none) else cs'[off]?)=some cv/\VRel φ v cv:=by
 cases agg
 ·simp only[ah₀,if_false]at h ⊢
  have hlt:off<cs'.size:=by rw[<-hsz];exact(Array.getElem?_eq_some_iff.1 h).1
  have h1:cs'[off]?=some cs'[off]:=Array.getElem?_eq_getElem hlt;exact⟨_,h1,hrel _ _ _ h h1⟩
 ·simp only[if_true]at h ⊢
  split at h
  ·rename_i hle
   rw[if_pos byO];simp at h;subst h;refine⟨_,rfl,.agg _ _ (by simp[hsz]) (fun j x y hx hy=>?_)⟩;rw[Array.getElem?_extract]at hx hy;split at hx
   ·split at hy
    ·exact hrel _ _ _ hx hy
    ·simp at hy
   ·simp at hx
  ·simp at h
theorem bJ{s:Sem Value}{cv:Value}(h:s.run P w=.ok cv w):(do pure (Next.value (<-s)):Sem Next).run P w=.ok (.value cv) w:=by
 simp only[Sem.run_bind,h,Result.andThen_ok,Sem.run_pure]
theorem sj{l l':List Value}(isMax:Bool)(hl:LRel φ l l'){v:Value}(hs:aJ (.minmax isMax) l H=some v) :
  ∃cv,((if isMax then Builtin.max_ #[] 0 l'.toArray else Builtin.min_ #[] 0 l'.toArray)).run P w=.ok cv w/\VRel φ v cv:=by
 cases l with
 | nil=>simp[aJ]at hs
 | cons x r=>
  obtain⟨x',r',rfl,hx,hr⟩:=hl.of_cons;simp only[aJ]at hs;split at hs
  ·cases hx
   obtain⟨h1,k,n,rfl⟩:=qQ (P:=P) (w:=w) isMax r r' _ v hr hs ⟨_,_,rfl⟩;refine⟨_,?_,.int _ _⟩;cases isMax
   ·simpa[Builtin.min_]using h1
   ·simpa[Builtin.max_]using h1
  ·simp at hs
theorem nG{ρ:Operand->Value}{dst:Option Tmp}{b:Builtin}{args:Array Operand}{argTypes:Array TypeId}{type:TypeId}{pos:String}{after:Array Edge}{guard:Option (Nat×Bool)} :
  (execOp ρ ⟨dst,.call ⟨.builtin b,args,argTypes⟩,type,pos,after,guard⟩).run P w =
   (builtin b argTypes type (args.map fun | .const _=>true|_=>false) (args.map ρ)).run P w:=by
 simp only[execOp,Go.resolve,Sem.run_bind,Sem.run_pure,Result.andThen_ok,invoke];rfl
set_option maxHeartbeats 1000000 in
theorem nO{o:Oper}{l:LOp}{xs:List Operand}(hr:bL P o.op=some (.l l,xs)){ρa ρc:Operand->Value}(hρ:∀x ∈ xs,VRel φ (ρa x) (ρc x))(hH:CRel φ H w)
  {v:Value} (hs:aJ l (xs.map ρa) H=some v):∃cv,(execOp ρc o).run P w=.ok (.value cv) w/\VRel φ v cv:=by
 obtain⟨dst,op,type,pos,after,guard⟩:=o;cases op<;>simp only[bL]at hr
 case move x=>
  simp at hr;obtain⟨rfl,rfl⟩:=hr;simp[aJ]at hs;subst hs;exact⟨_,by simp[execOp],hρ x (by simp)⟩
 case assign x=>
  simp at hr;obtain⟨rfl,rfl⟩:=hr;simp[aJ]at hs;subst hs;exact⟨_,by simp[execOp],hρ x (by simp)⟩
 case pick c a b=>
  simp at hr;obtain⟨rfl,rfl⟩:=hr;have hc:=hρ c (by simp);have ha:=hρ a (by simp);have hb:=hρ b (by simp);simp only[ag₀,al₀]at hs;generalize ρa c=cv at hc hs;cases hc':cv<;>subst hc'<;>simp[aJ]at hs;rename_i bv;cases hcc:ρc c<;>rw[hcc]at hc<;>cases hc;subst hs;cases bv
  ·exact⟨ρc b,by simp[execOp,hcc,asBool],by simpa using hb⟩
  ·exact⟨ρc a,by simp[execOp,hcc,asBool],by simpa using ha⟩
 case alloc t=>cases hz:zeroOf P t<;>simp[hz]at hr
 case box=>simp at hr
 case build t parts=>
  obtain⟨l',e1,e2⟩:=Bz (P:=P) (φ:=φ) (H:=H) (w:=w) (t:=t) (parts:=parts) (l:=.l l) (xs:=xs) (by simpa only[bL]using hr) hρ (v:=v);cases e1;obtain⟨cv,h1,h2⟩:=e2 hs;exact⟨cv,by simp only[execOp];exact bJ h1,h2⟩
 case buildSlice t len parts=>repeat' (first|(simp at hr;done)|split at hr|(simp only[ae₀]at hr;obtain⟨z,_,hr⟩:=hr))
 case load t a=>
  split at hr
  ·rename_i agg n ha hn
   simp at hr;obtain⟨rfl,rfl⟩:=hr;obtain⟨cv,h1,h2⟩:=zL hH ha hn (hρ a (by simp)) hs;exact⟨cv,by simp only[execOp];exact bJ h1,h2⟩
  ·simp at hr
 case store t a x=>cases hz:eV P t<;>simp[hz]at hr
 case nilCheck x=>
  simp at hr;obtain⟨rfl,rfl⟩:=hr;have hx:=hρ x (by simp);simp only[ag₀,al₀]at hs;simp only[execOp];generalize ρa x=a at hx hs;generalize ρc x=c at hx;cases hx<;>simp[aJ]at hs
  ·subst hs;rename_i i o p hp;exact⟨_,by simp,.ptr i o p hp⟩
  ·subst hs;rename_i f a b a' b' ha hb ra rb;exact⟨_,by simp,.func f a b a' b' ha hb ra rb⟩
 case binOp op t x y u=>
  simp only[aa₀,ad₀,ROp.l.injEq]at hr;obtain⟨l',hl,rfl,rfl⟩:=hr;have hx:=hρ x (by simp);have hy:=hρ y (by simp);simp only[ag₀,al₀]at hs;simp only[execOp];unfold EN at hl;have fin:∀{cv:Value},(eqGuard op t x y (ρc x) (ρc y)).run P w=.ok () w->(binOp op t (ρc x) (ρc y)).run P w=.ok cv w ->
    (do pure (Next.value (<-(do eqGuard op t x y (ρc x) (ρc y);binOp op t (ρc x) (ρc y)))):Sem Next).run P w=.ok (.value cv) w:=by
   intro cv h1 h2;simp only[Sem.run_bind,h1,h2,Result.andThen_ok,Sem.run_pure]
  have plainBin:aJ (.bin op) [ρa x,ρa y] H=some v->∃cv,(do pure (Next.value (<-(do eqGuard op t x y (ρc x) (ρc y);binOp op t (ρc x) (ρc y)))):Sem Next).run P w=.ok (.value cv) w/\VRel φ v cv:=by
   intro hs;simp only[aJ]at hs;have hb:=KN (P:=P) (w:=w) (t:=t) hs;have exy:ρc x=ρa x/\ρc y=ρa y:=by
    unfold bF at hs;split at hs
    ·rename_i e1 e2;rw[e1]at hx;rw[e2]at hy;rw[e1,e2]
     generalize ρc x=p' at hx ⊢;generalize ρc y=q' at hy ⊢;cases hx;cases hy;exact⟨rfl,rfl⟩
    ·rename_i e1 e2;rw[e1]at hx;rw[e2]at hy;rw[e1,e2]
     generalize ρc x=p' at hx ⊢;generalize ρc y=q' at hy ⊢;cases hx;cases hy;exact⟨rfl,rfl⟩
    ·simp at hs
   rw[exy.1,exy.2];refine⟨v,by rw[<-exy.1,<-exy.2];refine fin (by rw[exy.1,exy.2];exact hb.2 x y) (by rw[exy.1,exy.2];exact hb.1),?_⟩;unfold bF at hs;split at hs
   ·have:bO v=true:=by
     unfold gX bQ at hs;repeat' split at hs
     all_goals (first|(simp at hs;done)|(simp at hs;subst hs;rfl))
    exact gD φ this
   ·have:bO v=true:=by
     unfold p4 at hs;repeat' split at hs
     all_goals (first|(simp at hs;done)|(simp at hs;subst hs;rfl))
    exact gD φ this
   ·simp at hs
  split at hl
  ·simp at hl;subst hl;exact plainBin hs
  ·simp at hl;subst hl;exact plainBin hs
  ·rename_i hu
   have eqb:∀neg,aJ (.eqB neg) [ρa x,ρa y] H=some v->∃a b,ρc x=.bool a/\ρc y=.bool b/\v=.bool ((a==b) != neg):=by
    intro neg hs;generalize ρa x=p at hx hs;generalize ρa y=q at hy hs;generalize ρc x=p' at hx ⊢;generalize ρc y=q' at hy ⊢;cases hx<;>cases hy<;>simp[aJ]at hs;exact⟨_,_,rfl,rfl,hs.symm⟩
   split at hl<;>simp at hl<;>subst hl
   ·obtain⟨a,b,e1,e2,rfl⟩:=eqb _ hs
    exact⟨_,fin (by rw[e1,e2];simp[eqGuard]) (by rw[e1,e2];simp only[binOp,Sem.run_bind,run_equal_bool w t a b hu,Result.andThen_ok,Sem.run_pure];rfl),by simpa using .bool _⟩
   ·obtain⟨a,b,e1,e2,rfl⟩:=eqb _ hs
    exact⟨_,fin (by rw[e1,e2];simp[eqGuard]) (by rw[e1,e2];simp only[binOp,Sem.run_bind,run_equal_bool w t a b hu,Result.andThen_ok,Sem.run_pure];rfl),by simpa using .bool _⟩
  ·have eqa:∀neg ks,aJ (.eqA neg ks) [ρa x,ρa y] H=some v->∃a b r,ρc x=.agg a/\ρc y=.agg b/\aj ks a.toList b.toList=some r/\v=.bool (r != neg):=by
    intro neg ks hs;generalize ρa x=p at hx hs;generalize ρa y=q at hy hs;generalize ρc x=p' at hx ⊢;generalize ρc y=q' at hy ⊢;cases hx<;>cases hy<;>simp only[aJ]at hs<;>try (simp at hs;done)
    rename_i xs xs' h1 h2 ys ys' h3 h4;simp only[aa₀]at hs;obtain⟨r,hr,rfl⟩:=hs;obtain⟨e1,e2⟩:=o0 hr (LRel.arr.2 ⟨h1,h2⟩) (LRel.arr.2 ⟨h3,h4⟩);exact⟨xs',ys',r,rfl,rfl,by rw[e1,e2];exact hr,rfl⟩
   split at hl<;>try (simp at hl;done)
   all_goals simp only[aa₀]at hl
   ·obtain⟨ks,hk,rfl⟩:=hl
    obtain⟨a,b,r,e1,e2,e3,rfl⟩:=eqa _ _ hs;obtain⟨g1,g2⟩:=Cr (P:=P) (w:=w) hk e3;exact⟨_,fin (by rw[e1,e2];exact g2 _ _ _) (by rw[e1,e2,run_eql_struct,g1];rfl),by simpa using .bool _⟩
   ·obtain⟨ks,hk,rfl⟩:=hl
    obtain⟨a,b,r,e1,e2,e3,rfl⟩:=eqa _ _ hs;obtain⟨g1,g2⟩:=Cr (P:=P) (w:=w) hk e3;exact⟨_,fin (by rw[e1,e2];exact g2 _ _ _) (by rw[e1,e2,run_neq_struct,g1];rfl),by simpa using .bool _⟩
  ·rename_i n e hu
   have hnone:l7 P t=none:=by simp[l7,hu]
   split at hl<;>simp[hnone]at hl
  ·rename_i e hu
   have eqn:∀neg,aJ (.eqN neg) [ρa x,ρa y] H=some v->∃a l c l' c',ρc x=.slice a l c/\ρc y=.slice none l' c'/\v=.bool (a.isNone != neg):=by
    intro neg hs;generalize ρa x=p at hx hs;generalize ρa y=q at hy hs;generalize ρc x=p' at hx ⊢;generalize ρc y=q' at hy ⊢;cases hx<;>cases hy<;>simp[aJ]at hs<;>subst hs<;>simp
   have run:∀a l c l' c',(Op.equal t (.slice a l c) (.slice none l' c')).run P w=.ok a.isNone w:=by
    intro a l c l' c';exact nu hu 9999 a l c l' c'
   split at hl<;>simp at hl<;>subst hl
   ·obtain⟨a,l,c,l',c',e1,e2,rfl⟩:=eqn _ hs
    exact⟨_,fin (by rw[e1,e2];simp[eqGuard]) (by rw[e1,e2];simp only[binOp,Sem.run_bind,run,Result.andThen_ok,Sem.run_pure];rfl),by simpa using .bool _⟩
   ·obtain⟨a,l,c,l',c',e1,e2,rfl⟩:=eqn _ hs
    exact⟨_,fin (by rw[e1,e2];simp[eqGuard]) (by rw[e1,e2];simp only[binOp,Sem.run_bind,run,Result.andThen_ok,Sem.run_pure];rfl),by simpa using .bool _⟩
  ·rename_i e hu
   have eqn:∀neg,aJ (.eqP neg) [ρa x,ρa y] H=some v->∃a,ρc x=.pointer a/\ρc y=.pointer none/\v=.bool (a.isNone != neg):=by
    intro neg hs;generalize ρa x=p at hx hs;generalize ρa y=q at hy hs;generalize ρc x=p' at hx ⊢;generalize ρc y=q' at hy ⊢;cases hx<;>cases hy<;>simp[aJ]at hs<;>subst hs<;>simp
   have run:∀a,(Op.equal t (.pointer a) (.pointer none)).run P w=.ok a.isNone w:=by
    intro a;exact qJ hu 9999 a
   split at hl<;>simp at hl<;>subst hl
   ·obtain⟨a,e1,e2,rfl⟩:=eqn _ hs
    exact⟨_,fin (by rw[e1,e2];simp[eqGuard]) (by rw[e1,e2];simp only[binOp,Sem.run_bind,run,Result.andThen_ok,Sem.run_pure];rfl),by simpa using .bool _⟩
   ·obtain⟨a,e1,e2,rfl⟩:=eqn _ hs
    exact⟨_,fin (by rw[e1,e2];simp[eqGuard]) (by rw[e1,e2];simp only[binOp,Sem.run_bind,run,Result.andThen_ok,Sem.run_pure];rfl),by simpa using .bool _⟩
  ·simp at hl
 case unOp op t x=>
  simp at hr;obtain⟨rfl,rfl⟩:=hr;have hx:=hρ x (by simp);simp only[ag₀,al₀]at hs;simp only[execOp];generalize ρa x=a at hx hs;generalize ρc x=c at hx ⊢;cases op<;>cases hx<;>simp only[aJ]at hs<;>try (simp at hs;done)
  ·simp at hs;subst hs;exact⟨_,bJ (by simp[Op.unary,Op.intArith]),.int _ _⟩
  ·simp[bQ]at hs;subst hs;exact⟨_,bJ (by simp[Op.unary,Op.intBits]),.int _ _⟩
  ·simp at hs;subst hs;exact⟨_,bJ (by simp[Op.unary]),.bool _⟩
 case convert src dst x=>
  have hx:xs=[x]->VRel φ (ρa x) (ρc x):=fun e=>hρ x (by simp[e]);split at hr
  ·rename_i k k' hu1 hu2
   simp at hr;obtain⟨rfl,rfl⟩:=hr;have hx:=hx rfl;simp only[ag₀,al₀]at hs;simp only[execOp];generalize ρa x=a at hx hs;generalize ρc x=c at hx ⊢;cases hx<;>simp[aJ]at hs;subst hs;exact⟨_,bJ (by simp only[convert,Sem.run_bind,run_underlying hu1,run_underlying hu2,Result.andThen_ok];rfl),.int _ _⟩
  ·rename_i e hu1 hu2
   split at hr
   ·rename_i hu3
    simp at hr;obtain⟨rfl,rfl⟩:=hr;obtain⟨h1,h2⟩:=KJ (P:=P) hH (hx rfl) hs;have hx:=hx rfl;simp only[ag₀,al₀]at hs;simp only[execOp];refine⟨v,bJ ?_,h2⟩;simp only[convert,Sem.run_bind,run_underlying hu1,run_underlying hu2,Result.andThen_ok];generalize ρa x=a at hx hs;generalize ρc x=c at hx h1 ⊢;cases hx<;>simp only[aJ]at hs<;>try (simp at hs;done)
    all_goals simp only[Sem.run_bind,run_underlying hu3,Result.andThen_ok];exact h1
   ·simp at hr
  ·rename_i hu1 hu2
   simp at hr;obtain⟨rfl,rfl⟩:=hr;have hx:=hx rfl;simp only[ag₀,al₀]at hs;simp only[execOp];generalize ρa x=a at hx hs;generalize ρc x=c at hx ⊢;cases hx<;>simp[aJ]at hs;subst hs;exact⟨_,bJ (by simp only[convert,Sem.run_bind,run_underlying hu1,run_underlying hu2,Result.andThen_ok];rfl),.string _⟩
  ·split at hr<;>simp at hr
  ·split at hr
   ·split at hr<;>simp at hr
   ·simp at hr
  ·simp at hr
 case makeInterface t x=>
  split at hr
  ·simp at hr
  ·rename_i d hu1 hu
   simp at hr;obtain⟨rfl,rfl⟩:=hr;simp[aJ]at hs;subst hs;refine⟨.iface t (ρc x),?_,.iface _ _ _ (hρ x (by simp))⟩;simp only[execOp];refine bJ ?_;simp only[Instr.makeInterface,Sem.run_bind,run_underlying hu,Result.andThen_ok];rfl
  ·simp at hr
 case makeFunc fn first captured=>
  cases fn<;>simp at hr;rename_i f;obtain⟨rfl,rfl⟩:=hr;simp only[aJ,ab₀]at hs;subst hs;refine⟨.func (.func f) (first.map ρc) (captured.map ρc),by simp[execOp,Instr.makeFunc],?_⟩;have hl:=LRel.map_left ρa ρc _ hρ;have h1:=hl.take first.size
  have h2:=hl.drop first.size
  simp only[List.map_append]at h1 h2 ⊢;rw[List.take_left' (by simp),List.take_left' (by simp)]at h1;rw[List.drop_left' (by simp),List.drop_left' (by simp)]at h2;rw[List.take_left' (by simp),List.drop_left' (by simp)];exact .func f _ _ _ _ (by simp) (by simp) (by simpa using h1.2) (by simpa using h2.2)
 case makeSlice t l c=>repeat' (first|(simp at hr;done)|split at hr|(simp only[ae₀]at hr;obtain⟨z,_,hr⟩:=hr))
 case slice t x lo hi mx=>
  simp only[execOp];split at hr
  ·rename_i n e hu
   simp only[aa₀,ad₀,ROp.l.injEq]at hr;obtain⟨sz,hz,rfl,rfl⟩:=hr;obtain⟨cv,h1,h2⟩:=MX (P:=P) (w:=w) hu hz hρ hs;exact⟨cv,bJ h1,h2⟩
  ·rename_i e hu
   simp only[aa₀,ad₀,ROp.l.injEq]at hr;obtain⟨sz,hz,rfl,rfl⟩:=hr;obtain⟨cv,h1,h2⟩:=PO (P:=P) (w:=w) hu hz hρ hs;exact⟨cv,bJ h1,h2⟩
  ·rename_i hu
   split at hr
   ·simp at hr
   ·rename_i hm
    simp only[ab₀,ad₀,ROp.l.injEq]at hr;obtain⟨rfl,rfl⟩:=hr;obtain rfl:mx=none:=by cases mx<;>simp_all
    obtain⟨cv,h1,h2⟩:=MY (P:=P) (w:=w) hu hρ hs;exact⟨cv,bJ h1,h2⟩
  ·simp at hr
 case fieldAddr s x f=>
  simp only[execOp];split at hr<;>try (simp at hr;done)
  rename_i fs hu;split at hr<;>try (simp at hr;done)
  rename_i fl hf;split at hr<;>try (simp at hr;done)
  rename_i n hn;split at hr<;>try (simp at hr;done)
  rename_i hpos;simp at hr;obtain⟨rfl,rfl⟩:=hr;have hx:=hρ x (by simp);simp only[ag₀,al₀]at hs;generalize ρa x=a at hx hs;generalize ρc x=c at hx ⊢;cases hx<;>simp only[aJ]at hs<;>try (simp at hs;done)
  rename_i i o p hp;simp at hs;subst hs;refine⟨.pointer (some ⟨p.b,p.s+(o+fl.offset),none⟩),bJ ?_,.ptr i _ p hp⟩;simp only[Instr.fieldAt,Sem.run_bind,run_underlying hu,Result.andThen_ok,hf,Instr.sureAddr,Sem.run_pure,fieldPlace,ay hn,Sem.run_ite];rw[if_neg byO];simp[dK,Nat.add_assoc]
 case field t x f=>
  simp only[execOp];split at hr<;>try (simp at hr;done)
  rename_i fs hu;split at hr<;>try (simp at hr;done)
  rename_i fl hf;split at hr<;>try (simp at hr;done)
  rename_i n agg hn hagg;simp at hr;obtain⟨rfl,rfl⟩:=hr;have hx:=hρ x (by simp);simp only[ag₀,al₀]at hs;generalize ρa x=a at hx hs;generalize ρc x=c at hx ⊢;cases hx<;>simp only[aJ]at hs<;>try (simp at hs;done)
  rename_i cs cs' hsz hrel;obtain⟨cv,h1,h2⟩:∃cv,(if agg then(if fl.offset+n<=cs'.size then some (Value.agg (cs'.extract fl.offset (fl.offset+n))) else none) else cs'[fl.offset]?)=some cv/\VRel φ v cv:=wR hsz hrel hs;refine⟨cv,bJ ?_,h2⟩;simp only[Instr.field,Sem.run_bind,run_underlying hu,Result.andThen_ok,hf,asAgg,Sem.run_pure,zZ hn hagg h1]
 case indexAddr t x i=>
  simp only[execOp];split at hr
  ·rename_i e hu
   simp only[aa₀,ad₀,ROp.l.injEq]at hr;obtain⟨sz,hz,rfl,rfl⟩:=hr;have hx:=hρ x (by simp);have hi:=hρ i (by simp);simp only[ag₀,al₀]at hs;generalize ρa x=a at hx hs;generalize ρc x=c at hx ⊢;generalize ρa i=b at hi hs;generalize ρc i=d at hi ⊢;cases hi<;>cases hx<;>simp only[aJ]at hs<;>try (simp at hs;done)
   ·rename_i k n j o l c p hp
    split at hs
    ·rename_i hb
     simp at hs;subst hs;refine⟨.pointer (some ⟨p.b,p.s+(o+n.toNat*sz),none⟩),bJ ?_,.ptr j _ p hp⟩;simp only[Instr.indexAt,asIntOf,Sem.run_bind,Sem.run_pure,run_underlying hu,Result.andThen_ok,Sem.run_ite,if_pos hb,ay hz];simp[dK,Nat.add_assoc]
    ·simp at hs
   ·rename_i k n j o l c z p o' c' hp hc hl ho hn
    split at hs
    ·rename_i hb
     simp at hs;subst hs;obtain rfl:o'=o:=ho.resolve_right byO;refine⟨.pointer (some ⟨p.b,p.s+(o'+n.toNat*sz),none⟩),bJ ?_,.ptr j _ p hp⟩;simp only[Instr.indexAt,asIntOf,Sem.run_bind,Sem.run_pure,run_underlying hu,Result.andThen_ok,Sem.run_ite,if_pos hb,ay hz];simp[dK,Nat.add_assoc]
    ·simp at hs
  ·rename_i m e hu
   simp only[aa₀,ad₀,ROp.l.injEq]at hr;obtain⟨sz,hz,rfl,rfl⟩:=hr;have hx:=hρ x (by simp);have hi:=hρ i (by simp);simp only[ag₀,al₀]at hs;generalize ρa x=a at hx hs;generalize ρc x=c at hx ⊢;generalize ρa i=b at hi hs;generalize ρc i=d at hi ⊢;cases hi<;>cases hx<;>simp only[aJ]at hs<;>try (simp at hs;done)
   rename_i k n j o p hp;split at hs
   ·rename_i hb
    simp at hs;subst hs;refine⟨.pointer (some ⟨p.b,p.s+(o+n.toNat*sz),none⟩),bJ ?_,.ptr j _ p hp⟩;simp only[Instr.indexAt,asIntOf,Sem.run_bind,Sem.run_pure,run_underlying hu,Result.andThen_ok,Sem.run_ite,Instr.sureAddr,if_pos hb,ay hz];simp[dK,Nat.add_assoc]
   ·simp at hs
  ·simp at hr
 case index t x i=>
  simp only[execOp];split at hr
  ·rename_i m e hu
   split at hr<;>try (simp at hr;done)
   rename_i sz agg hz hagg;simp at hr;obtain⟨rfl,rfl⟩:=hr;have hx:=hρ x (by simp);have hi:=hρ i (by simp);simp only[ag₀,al₀]at hs;generalize ρa x=a at hx hs;generalize ρc x=c at hx ⊢;generalize ρa i=b at hi hs;generalize ρc i=d at hi ⊢;cases hi<;>cases hx<;>simp only[aJ]at hs<;>try (simp at hs;done)
   rename_i k n cs cs' hsz hrel;split at hs
   ·rename_i hb
    obtain⟨cv,h1,h2⟩:∃cv,(if agg then(if n.toNat*sz+sz<=cs'.size then some (Value.agg (cs'.extract (n.toNat*sz) (n.toNat*sz+sz))) else none) else cs'[n.toNat*sz]?)=some cv/\VRel φ v cv:=wR hsz hrel hs;refine⟨cv,bJ ?_,h2⟩;simp only[Instr.index,asIntOf,Sem.run_bind,Sem.run_pure,run_underlying hu,Result.andThen_ok,Sem.run_ite,if_pos hb,ay hz,zZ hz hagg h1]
   ·simp at hs
  ·rename_i hu
   simp at hr;obtain⟨rfl,rfl⟩:=hr;have hx:=hρ x (by simp);have hi:=hρ i (by simp);simp only[ag₀,al₀]at hs;generalize ρa x=a at hx hs;generalize ρc x=c at hx ⊢;generalize ρa i=b at hi hs;generalize ρc i=d at hi ⊢;cases hi<;>cases hx<;>simp only[aJ]at hs<;>try (simp at hs;done)
   rename_i k n s;split at hs
   ·rename_i hb
    simp only[aa₀]at hs;obtain⟨u,hu1,rfl⟩:=hs;refine⟨_,bJ ?_,.int _ _⟩;simp only[Instr.index,asIntOf,Sem.run_bind,Sem.run_pure,run_underlying hu,Result.andThen_ok,if_pos hb,hu1]
   ·simp at hs
  ·simp at hr
 case extract t i=>
  simp at hr;obtain⟨rfl,rfl⟩:=hr;simp only[execOp];have hx:=hρ t (by simp);simp only[ag₀,al₀]at hs;generalize ρa t=a at hx hs;generalize ρc t=c at hx ⊢;cases hx<;>simp only[aJ]at hs<;>try (simp at hs;done)
  rename_i cs cs' hsz hrel;have hlt:i<cs'.size:=by rw[<-hsz];exact(Array.getElem?_eq_some_iff.1 hs).1
  have h1:cs'[i]?=some cs'[i]:=Array.getElem?_eq_getElem hlt;exact⟨cs'[i],bJ (by simp[Instr.extract,h1]),hrel i _ _ hs h1⟩
 case typeAssert x xt t ok=>
  cases ok<;>try (simp at hr;done)
  split at hr<;>try (simp at hr;done)
  rename_i fs i hu hi;split at hr<;>try (simp at hr;done)
  rename_i cs hz;split at hr<;>try (simp at hr;done)
  rename_i hpl;simp at hr;obtain⟨rfl,rfl⟩:=hr;have hx:=hρ x (by simp);simp only[ag₀,al₀]at hs;simp only[execOp];generalize ρa x=xa at hs hx;generalize ρc x=xc at hx ⊢;have pair:∀{a b:Value} (y:Bool),VRel φ a b->VRel φ (.tuple #[a,.bool y]) (.tuple #[b,.bool y]):=by
   intro a b y hab;refine .tuple _ _ rfl (fun j u v hu hv=>?_)
   match j,hu,hv with
   | 0,hu,hv=>simp at hu hv;subst hu hv;exact hab
   | 1,hu,hv=>simp at hu hv;subst hu hv;exact .bool y
   | j+2,hu,_=>simp at hu
  cases hx<;>simp only[aJ]at hs<;>try (simp at hs;done)
  ·rename_i u v v' hv
   cases v<;>simp only[aJ]at hs<;>try (simp at hs;done)
   split at hs
   ·rename_i e;subst e
    simp at hs;subst hs;refine⟨_,bJ ?_,pair true hv⟩;simp only[Instr.typeAssert,Sem.run_bind,run_underlying hu,Result.andThen_ok,if_true,Sem.run_pure]
   ·simp at hs
  ·simp at hs;subst hs
   refine⟨_,bJ ?_,pair false (b:=.agg cs) (.agg _ _ rfl (fun j x y h1 h2=>?_))⟩
   ·simp only[Instr.typeAssert,Sem.run_bind,run_underlying hu,Result.andThen_ok,if_true,cQ hi hz,Sem.run_pure]
   ·rw[h1]at h2;cases h2
    exact(LRel.arr.1 (cW φ hpl)).2 j x x h1 h1
 case call c=>
  obtain⟨callee,args,argTypes⟩:=c;cases callee<;>try (simp at hr;done)
  rename_i b;rw[nG];cases b<;>try (simp at hr;done)
  case append=>simp only at hr;repeat' (first|(simp at hr;done)|split at hr)
  case copy=>simp only at hr;repeat' (first|(simp at hr;done)|split at hr|(simp only[aa₀]at hr;obtain⟨z,_,hr⟩:=hr))
  case len=>
   simp only at hr;split at hr<;>try (simp at hr;done)
   rename_i t x ht hx;have hargs:args.map ρc=#[ρc x]:=by
    have:args=#[x]:=by rw[<-Array.toArray_toList (xs:=args),hx]
    rw[this];simp
   rw[hargs];simp only[builtin];split at hr<;>try (simp at hr;done)
   ·rename_i hu
    simp at hr;obtain⟨rfl,rfl⟩:=hr;have hxr:=hρ x (by simp);simp only[ag₀,al₀]at hs;generalize ρa x=a at hxr hs;generalize ρc x=c at hxr ⊢;cases hxr<;>simp only[aJ]at hs<;>try (simp at hs;done)
    simp at hs;subst hs;exact⟨_,bJ (by simp[Builtin.len_,ht,run_underlying hu,goInt]),.int _ _⟩
   ·rename_i e hu
    simp at hr;obtain⟨rfl,rfl⟩:=hr;have hxr:=hρ x (by simp);simp only[ag₀,al₀]at hs;generalize ρa x=a at hxr hs;generalize ρc x=c at hxr ⊢;cases hxr<;>simp only[aJ]at hs<;>try (simp at hs;done)
    all_goals (simp at hs;subst hs;exact⟨_,bJ (by simp[Builtin.len_,ht,run_underlying hu,goInt]),.int _ _⟩)
   ·rename_i n e hu
    simp at hr;obtain⟨rfl,rfl⟩:=hr;simp only[ag₀,al₀,aJ,ab₀]at hs;subst hs;exact⟨_,bJ (by simp[Builtin.len_,ht,run_underlying hu,goInt]),.int _ _⟩
  case min=>
   simp at hr;obtain⟨rfl,rfl⟩:=hr;simp only[builtin];have hl:=LRel.map_left ρa ρc args.toList hρ;obtain⟨cv,h1,h2⟩:=sj (P:=P) (w:=w) false hl hs;have em:(args.toList.map ρc).toArray=args.map ρc:=by rw[<-Array.toList_map,Array.toArray_toList]
   rw[em]at h1;exact⟨cv,bJ h1,h2⟩
  case max=>
   simp at hr;obtain⟨rfl,rfl⟩:=hr;simp only[builtin];have hl:=LRel.map_left ρa ρc args.toList hρ;obtain⟨cv,h1,h2⟩:=sj (P:=P) (w:=w) true hl hs;have em:(args.toList.map ρc).toArray=args.map ρc:=by rw[<-Array.toList_map,Array.toArray_toList]
   rw[em]at h1;exact⟨cv,bJ h1,h2⟩
 all_goals simp at hr
end
end Go.Abs
