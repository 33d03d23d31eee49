/- Lemmas. -/
import Derived.WalkKit
set_option linter.all false
def aa₀:=@Option.map_eq_some_iff
def ab₀:=@Option.some.injEq
def ac₀:=@Bool.and_eq_true
def ad₀:=@Prod.mk.injEq
def ae₀:=@Option.bind_eq_some_iff
def af₀:=@decide_eq_true_eq
def ag₀:=@List.map_cons
def ah₀:=@Bool.false_eq_true
def ai₀:=@decide_eq_false_iff_not
def aj₀:=@List.getElem?_toArray
def ak₀:=@List.length_cons
def al₀:=@List.map_nil
def am₀:=@List.cons_append
def an₀:=@List.length_nil
def ao₀:=@Option.bind_some
def ap₀:=@Int.natCast_add
def aq₀:=@Option.getD_some
def ar₀:=@Bool.or_eq_true
def as₀:=@List.length_append
def at₀:=@Array.getD_eq_getD_getElem?
def au₀:=@List.getD_eq_getElem?_getD
def av₀:=@List.getElem?_eq_none
def aw₀:=@List.getElem?_append_right
def ax₀:=@List.getElem?_append_left
def ay₀:=@List.length_map
def az₀:=@List.getElem?_map
def ba₀:=@List.append_assoc
def bb₀:=@Nat.mul_comm
def bc₀:=@List.getElem?_eq_getElem
def bd₀:=@Nat.lt_of_lt_of_le
def be₀:=@List.mem_append
theorem zzi{a b:Prop}(x:a)(y:b):a/\b:=⟨x,y⟩
namespace Go.Abs
theorem _root_.byO{P:Prop}(h:P:=by omega):P:=h
abbrev Heap:=List<|Option<|List Value
def Heap.get(H:Heap)(i:Nat):Option<|List Value:=
 match H[i]? with
 | some (some c)=>some c
 | _=>none
def Heap.cells(H:Heap)(i off n:Nat):Option<|List Value:=
 match H.get i with
 | some c=>if off+n<=c.length then some ((c.drop off).take n) else none
 | none=>none
def putCells(c:List Value)(off:Nat)(vs:List Value):List Value:=c.take off++(vs++c.drop (off+vs.length))
def Heap.put(lo:Nat)(H:Heap)(i off:Nat)(vs:List Value):Option Heap:=
 match H.get i with
 | some c=>if lo<=i/\off+vs.length<=c.length then some (H.set i<|some<|putCells c off vs) else none
 | none=>none
def bN:Value->Bool
 | .bool _ | .int _ _ | .string _ | .pointer none | .slice none _ _ | .map none | .nilFunc | .nilIface | .float _ _=>true
 | .func (.func _) a b=>a.size==0&&b.size==0
 | _=>false
def fX:Value->Bool
 | .agg cs=>cs.toList.all bN
 | .tuple cs=>cs.toList.all bN
 | .iface _ v=>bN v
 | v=>bN v
def oneCells(l:List Value):Bool:=l.all (·.oneCell')
inductive LOp where
 | mv
 | bin (op:BinOp)
 | eqB (neg:Bool)
 | eqA (neg:Bool) (ks:List Nat)
 | eqN (neg:Bool)
 | eqP (neg:Bool)
 | un (op:UnOp)
 | cvt (k:IntKind)
 | b2s
 | cvtS
 | nilChk
 | fAddr (off:Nat)
 | fld (off n:Nat) (agg:Bool)
 | iAddr (sz:Nat)
 | iAddrA (len sz:Nat)
 | idx (len sz:Nat) (agg:Bool)
 | idxS
 | ld (n:Nat) (agg:Bool)
 | len
 | lenS
 | lenC (n:Nat)
 | sl (sz:Nat) (lo hi mx:Bool)
 | slA (len sz:Nat) (lo hi mx:Bool)
 | slS (lo hi:Bool)
 | ext (i:Nat)
 | build (zero:List Value) (places:List<|Nat×Nat)
 | mkF (f:FuncId) (n:Nat)
 | mkI (t:TypeId)
 | minmax (isMax:Bool)
 | pk
 | tas (t:TypeId) (zero:List Value)
inductive HOp where
 | call (raise:Bool)
 | alloc (zero:List Value)
 | box
 | mkSl (zero:List Value)
 | bSl (zero:List Value) (len:Nat) (idx:List Nat)
 | st (n:Nat)
 | app (sz:Nat) (zero:List Value)
 | appS (zero:List Value)
 | cpy (sz:Nat)
 | s2b
 | fail
 | callC
 | pan
 | frz
def jc:Nat->Value->Value->Option Bool
 | 0,.bool a,.bool b=>some<|a==b
 | 1,.int k a,.int k' b=>if k=k' then some (a==b) else none
 | 2,.string a,.string b=>some<|a.toList==b.toList
 | _,_,_=>none
def ag:List Nat->List Value->List Value->Option Bool
 | [],[],[]=>some true
 | k::ks,a::x,b::y=>match jc k a b,ag ks x y with
  | some p,some q=>some<|p&&q
  | _,_=>none
 | _,_,_=>none
def bQ(op:BinOp)(k:IntKind)(a b:Int):Option Value:=
 match op with
 | .add=>some<|.int k<|k.wrap<|a+b
 | .sub=>some<|.int k<|k.wrap<|a-b
 | .mul=>some<|.int k<|k.wrap<|a*b
 | .quo=>if b=0 then none else some (.int k<|k.wrap<|a.tdiv b)
 | .rem=>if b=0 then none else some (.int k<|a.tmod b)
 | .and=>some<|.int k<|k.wrap (BitVec.ofInt k.bits a &&& BitVec.ofInt k.bits b).toNat
 | .or=>some<|.int k<|k.wrap (BitVec.ofInt k.bits a ||| BitVec.ofInt k.bits b).toNat
 | .xor=>some<|.int k<|k.wrap (BitVec.ofInt k.bits a ^^^ BitVec.ofInt k.bits b).toNat
 | .andNot=>some<|.int k<|k.wrap (BitVec.ofInt k.bits a &&& ~~~(BitVec.ofInt k.bits b)).toNat
 | .eql=>some<|.bool<|a==b
 | .neq=>some<|.bool<|a != b
 | .lss=>some<|.bool<|a<b
 | .leq=>some<|.bool<|a<=b
 | .gtr=>some<|.bool<|a>b
 | .geq=>some<|.bool<|a>=b
 | .shl | .shr=>none
def gz(op:BinOp)(k:IntKind)(a b:Int):Option Value:=
 if b<0 then none else
 match op with
 | .shl=>some<|.int k<|k.wrap<|a*2^(min b.toNat k.bits)
 | .shr=>some<|.int k<|a.fdiv<|2^(min b.toNat k.bits)
 | _=>none
def vI(op:BinOp)(x y:ByteArray):Option Value:=
 match op with
 | .add=>if ((x.size+y.size:Nat):Int)>IntKind.i64.max then none else some (.string<|x++y)
 | .eql=>some<|.bool<|x.toList==y.toList
 | .neq=>some<|.bool !(x.toList==y.toList)
 | .lss=>some<|.bool<|Op.bytesLess x.toList y.toList
 | .leq=>some<|.bool<|Op.bytesLess x.toList y.toList || x.toList==y.toList
 | .gtr=>some<|.bool !(Op.bytesLess x.toList y.toList || x.toList==y.toList)
 | .geq=>some<|.bool !(Op.bytesLess x.toList y.toList)
 | _=>none
def bD(op:BinOp)(x y:Value):Option Value:=
 match x,y with
 | .int k a,.int k' b=>
  match op with
  | .shl | .shr=>gz op k a b
  | _=>if k=k' then bQ op k a b else none
 | .string a,.string b=>vI op a b
 | _,_=>none
def toB(v:Value)(y:Nat):Option Nat:=
 match v with
 | .int _ i=>if 0<=i/\i<=y then some i.toNat else none
 | _=>none
def bounds(len cap:Nat)(lo hi mx:Bool)(args:List Value):Option<|Nat×Nat×Nat:=
 let loV:=if lo then args.head? else none
 let a1:=if lo then args.tail else args
 let hiV:=if hi then a1.head? else none
 let a2:=if hi then a1.tail else a1
 let mxV:=if mx then a2.head? else none
 let m:=if mx then mxV.bind (toB · cap) else some cap
 m.bind λm=>
 let h:=if hi then hiV.bind (toB · m) else(if mx then none else some len)
 h.bind λh=>
 let l:=if lo then loV.bind (toB · h) else some 0
 l.bind λl=>some (l,h,m)
def buildL:List Value->List (Nat×Nat)->List Value->Option (List Value)
 | zero,[],[]=>some zero
 | zero,(off,sz)::ps,v::vs=>if v.cells.size=sz/\off+sz<=zero.length then buildL (putCells zero off v.cells.toList) ps vs else none
 | _,_,_=>none
def pS(isMax:Bool):Value->Value->Option Value
 | .int k x,.int _ y=>some<|.int k (if isMax then(if y>x then y else x) else(if y<x then y else x))
 | _,_=>none
def bytesOf:List Value->Option (List UInt8)
 | []=>some []
 | .int .u8 n::r=>(bytesOf r).map (UInt8.ofNat n.toNat::·)
 | _=>none
def aJ:LOp->List Value->Heap->Option Value
 | .mv,[x],_=>some x
 | .bin op,[x,y],_=>bD op x y
 | .eqB neg,[.bool a,.bool b],_=>some<|.bool<|(a==b) != neg
 | .eqA neg ks,[.agg xs,.agg ys],_=>(ag ks xs.toList ys.toList).map λb=>.bool<|b != neg
 | .eqN neg,[.slice a _ _,.slice none _ _],_=>some<|.bool<|a.isNone != neg
 | .eqP neg,[.pointer a,.pointer none],_=>some<|.bool<|a.isNone != neg
 | .un .not,[.bool b],_=>some<|.bool !b
 | .un .neg,[.int k n],_=>some<|.int k<|k.wrap<|0-n
 | .un .xor,[.int k n],_=>bQ .xor k (if k.signed then -1 else k.max) n
 | .cvt k,[.int _ n],_=>some<|.int k<|k.wrap n
 | .cvtS,[.string s],_=>some<|.string s
 | .b2s,[.slice none _ _],_=>some<|.string .empty
 | .b2s,[.slice (some a) len _],H=>((H.cells a.block a.off len).bind bytesOf).map λl=>.string ⟨l.toArray⟩
 | .nilChk,[.pointer<|some a],_=>some<|.pointer<|some a
 | .nilChk,[.func (.func f) x y],_=>some<|.func (.func f) x y
 | .fAddr off,[.pointer<|some ⟨i,o,none⟩],_=>some<|.pointer<|some ⟨i,o+off,none⟩
 | .fld off n agg,[.agg cs],_=>if agg then(if off+n<=cs.size then some (.agg<|cs.extract off<|off+n) else none) else cs[off]?
 | .iAddr sz,[.slice (some ⟨b,o,_⟩) l _,.int _ i],_=>if 0<=i/\i<l then some (.pointer<|some ⟨b,o+i.toNat*sz,none⟩) else none
 | .iAddrA len sz,[.pointer<|some ⟨b,o,none⟩,.int _ i],_=>if 0<=i/\i<len then some (.pointer<|some ⟨b,o+i.toNat*sz,none⟩) else none
 | .idx len sz agg,[.agg cs,.int _ i],_=>
  if 0<=i/\i<len then(if agg then(if i.toNat*sz+sz<=cs.size then some (.agg<|cs.extract (i.toNat*sz)<|i.toNat*sz+sz) else none) else cs[i.toNat*sz]?) else none
 | .idxS,[.string s,.int _ i],_=>if 0<=i then(s[i.toNat]?).map λb=>.int .u8 b.toNat else none
 | .ld n agg,[.pointer<|some ⟨b,o,none⟩],H=>if agg then(H.cells b o n).map λl=>.agg l.toArray else(H.cells b o 1).bind (·.head?)
 | .len,[.slice _ n _],_=>some<|.int .i64 n
 | .lenS,[.string s],_=>some<|.int .i64 s.size
 | .lenC n,[_],_=>some<|.int .i64 n
 | .sl _ lo hi mx,.slice none len cap::args,_=>(bounds len cap lo hi mx args).map λ(l,h,m)=>.slice none (h-l)<|m-l
 | .sl sz lo hi mx,.slice (some ⟨b,o,none⟩) len cap::args,_=>
  (bounds len cap lo hi mx args).map λ(l,h,m)=>.slice (some ⟨b,if m=l then o else o+l*sz,none⟩) (h-l)<|m-l
 | .sl sz lo hi mx,.slice (some ⟨b,o,some z⟩) len cap::args,_=>
  if z=sz then(bounds len cap lo hi mx args).map λ(l,h,m)=>
   if mx&&cap != 0 then .slice (some ⟨b,if m=l then o else o+l*sz,none⟩) (h-l) (m-l) else .slice (some ⟨b,o+l*sz,some z⟩) (h-l) (m-l)
  else none
 | .slA len sz lo hi mx,.pointer (some ⟨b,o,none⟩)::args,_=>
  (bounds len len lo hi mx args).map λ(l,h,m)=>.slice (some ⟨b,if m=l then o else o+l*sz,none⟩) (h-l)<|m-l
 | .slS lo hi,.string s::args,_=>(bounds s.size s.size lo hi false args).map λ(l,h,_)=>.string<|s.extract l h
 | .ext i,[.tuple vs],_=>vs[i]?
 | .build zero places,vs,_=>(buildL zero places vs).map λl=>.agg l.toArray
 | .mkF f n,vs,_=>some<|.func (.func f) (vs.take n).toArray (vs.drop n).toArray
 | .mkI t,[x],_=>some<|.iface t x
 | .minmax isMax,x::r,_=>match x with
  | .int _ _=>r.foldlM (pS isMax) x
  | _=>none
 | .pk,[.bool c,a,b],_=>some (if c then a else b)
 | .tas t _,[.iface u<|.agg cs],_=>if t=u then some (.tuple #[.agg cs,.bool true]) else none
 | .tas _ z,[.nilIface],_=>some<|.tuple #[.agg z.toArray,.bool false]
 | _,_,_=>none
abbrev dq:=Nat->FuncId->List Value->Heap->Option (Value×Heap)
def br:Nat:=4294967296
def bH(zero:List Value)(n:Nat):List Value:=(List.replicate n zero).flatten
def aZ(lo:Nat)(sz:Nat)(s:Value)(new:List Value)(n:Nat)(H:Heap):Option<|Value×Heap:=
 match s with
 | .slice base len cap=>
  if len+n<=cap then
   match base with
   | none=>some (.slice none (len+n) cap,H)
   | some ⟨b,o,sp⟩=>if sp=none\/sp=some sz then(H.put lo b (o+len*sz) new).map λH'=>(.slice (some ⟨b,o,sp⟩) (len+n) cap,H') else none
  else if br<len+n then none
  else match base with
   | none=>if len=0 then some (.slice (some ⟨H.length,0,some sz⟩) n n,H++[some new]) else none
   | some ⟨b,o,none⟩=>(H.cells b o<|len*sz).map λold=>(.slice (some ⟨H.length,0,some sz⟩) (len+n)<|len+n,H++[some<|old++new])
   | some ⟨b,o,some z⟩=>
    if z=sz/\lo<=b then(H.cells b o<|len*sz).map λold=>(.slice (some ⟨H.length,0,some sz⟩) (len+n)<|len+n,(H.set b none)++[some<|old++new])
    else none
 | _=>none
def k9(lo:Nat):List Value->Heap->Option (Value×Heap)
 | [.slice (some ⟨b,o,none⟩) n c],H=>match H.get b with
  | some _=>if lo<=b then some (.slice (some ⟨b,o,none⟩) n c,H) else none
  | none=>none
 | _,_=>none
def hsem(callA:dq)(lo:Nat):HOp->List Value->Heap->Option (Value×Heap)
 | .call raise,.func (.func f) first cap::args,H=>callA (if raise then H.length else lo) f (first.toList++args++cap.toList) H
 | .callC,.func (.func f) first cap::args,H=>callA lo f (first.toList++args++cap.toList) H
 | .alloc zero,[],H=>some (.pointer<|some ⟨H.length,0,none⟩,H++[some zero])
 | .box,[v],H=>some (.pointer<|some ⟨H.length,0,none⟩,H++[some v.cells.toList])
 | .mkSl zero,[.int _ l,.int _ c],H=>
  if 0<=l/\l<=c/\c<=br then some (.slice (some ⟨H.length,0,none⟩) l.toNat c.toNat,H++[some<|bH zero c.toNat]) else none
 | .bSl zero len idx,vs,H=>
  (buildL (bH zero len) (idx.map λi=>(i*zero.length,zero.length)) vs).map λl=>(.slice (some ⟨H.length,0,none⟩) len len,H++[some l])
 | .st n,[.pointer<|some ⟨b,o,none⟩,v],H=>if v.cells.size=n/\oneCells v.cells.toList then(H.put lo b o v.cells.toList).map λH'=>(undef,H') else none
 | .app sz _,[s,.slice none n _],H=>if n=0 then aZ lo sz s [] 0 H else none
 | .app sz _,[s,.slice (some a) n _],H=>(H.cells a.block a.off<|n*sz).bind λnew=>if oneCells new then aZ lo sz s new n H else none
 | .appS _,[s,.string x],H=>aZ lo 1 s (x.data.toList.map λb=>.int .u8 b.toNat) x.size H
 | .s2b,[.string x],H=>some (.slice (some ⟨H.length,0,some 1⟩) x.size x.size,H++[some<|x.data.toList.map λb=>.int .u8 b.toNat])
 | .frz,vs,H=>k9 lo vs H
 | .cpy _,[.slice none n _,.slice _ _ _],H=>if n=0 then some (.int .i64 0,H) else none
 | .cpy _,[.slice (some _) _ _,.slice none m _],H=>if m=0 then some (.int .i64 0,H) else none
 | .cpy sz,[.slice (some d) n _,.slice (some a) m _],H=>
  (H.cells a.block a.off<|min m n*sz).bind λnew=>if oneCells new then(H.put lo d.block d.off new).map λH'=>(.int .i64 (min m n:Nat),H') else none
 | _,_,_=>none
inductive ROp where
 | l (o:LOp)
 | h (o:HOp)
def eW(P:Program)(t:TypeId):Option Nat:=(P.info? t).map (·.size)
def zeroOf(P:Program)(t:TypeId):Option<|List Value:=
 match P.info? t with
 | some i=>match i.zero with
  | some z=>if z.cells.size=i.size/\z.cells.toList.all bN then some z.cells.toList else none
  | none=>none
 | none=>none
def kt(P:Program)(t:TypeId):Bool:=
 match P.info? t with
 | some i=>i.bytes<=4096
 | none=>false
def jR(P:Program)(t:TypeId):Option Bool:=
 match P.underlying t with
 | some (.struct _)|some (.array _ _)=>some true
 | some _=>some false
 | none=>none
def pP(P:Program)(t:TypeId):Option Nat:=
 match P.underlying t with
 | some .bool=>some 0
 | some (.int _)=>some 1
 | some .string=>some 2
 | _=>none
def jL(P:Program):Nat->List Field->Option (List Nat)
 | _,[]=>some []
 | n, f :: r => if f.name = "_" ∨ f.offset ≠ n then none else
  match pP P f.type,jL P (n+1) r with
  | some k,some ks=>some (k::ks)
  | _,_=>none
def jD(P:Program)(t:TypeId):Option<|List Nat:=
 match P.underlying t with
 | some (.struct fs)=>if P.stoodInHeld t then none else
  match jL P 0 fs.toList with
  | some ks=>if eW P t=some ks.length/\0<ks.length then some ks else none
  | none=>none
 | _=>none
def ff(P:Program):Nat->List Field->Option (List Nat)
 | _,[]=>some []
 | n, f :: r => if f.name = "_" ∨ f.offset ≠ n then none else
  match pP P f.type with
  | some k=>match ff P (n+1) r with
   | some ks=>some (k::ks)
   | none=>none
  | none=>match jD P f.type with
   | some js=>match ff P (n+js.length) r with
    | some ks=>some (js++ks)
    | none=>none
   | none=>none
def mU(P:Program)(t:TypeId):Option<|List Nat:=
 match P.underlying t with
 | some (.struct fs)=>if P.stoodInHeld t || P.eqGuardType P.depth t then none else ff P 0 fs.toList
 | _=>none
def Gq(P:Program)(op:BinOp)(t:TypeId):Option LOp:=
 match P.underlying t with
 | some (.int _)|some .string=>some<|.bin op
 | some .bool=>match op with | .eql=>some (.eqB false) | .neq=>some (.eqB true)|_=>none
 | some (.struct _)|some (.array _ _)=>
  match op with
  | .eql=>(mU P t).map<|.eqA false
  | .neq=>(mU P t).map<|.eqA true
  | _=>none
 | some (.slice _)=>match op with | .eql=>some (.eqN false) | .neq=>some (.eqN true)|_=>none
 | some (.pointer _)=>match op with | .eql=>some (.eqP false) | .neq=>some (.eqP true)|_=>none
 | _=>none
def opts(l:List<|Option Operand):List Operand:=l.filterMap id
def gh(P:Program):List Field->Option (List<|Nat×Nat)
 | []=>some []
 | f::r=>(eW P f.type).bind λn=>(gh P r).map ((f.offset,n)::·)
def jK(ps:List<|Nat×Nat):List Nat->Option (List<|Nat×Nat)
 | []=>some []
 | i::r=>match ps[i]? with
  | some p=>(jK ps r).map (p::·)
  | none=>none
def bJ(P:Program)(op:Op):Option<|ROp×List Operand:=
 match op with
 | .move x | .assign x=>some (.l .mv,[x])
 | .pick c a b=>some (.l .pk,[c,a,b])
 | .alloc t=>(zeroOf P t).map λz=>(.h<|.alloc z,[])
 | .box _ x=>some (.h .box,[x])
 | .build t parts=>
  match P.underlying t,zeroOf P t with
  | some<|.struct fs,some z=>(gh P fs.toList).bind λps=>(jK ps (parts.toList.map (·.1))).map λpl=>(.l<|.build z pl,parts.toList.map (·.2))
  | some<|.array _ e,some z=>(eW P e).map λn=>(.l<|.build z<|parts.toList.map λp=>(p.1*n,n),parts.toList.map (·.2))
  | _,_=>none
 | .buildSlice t len parts=>
  match P.underlying t with
  | some (.slice e)=>(zeroOf P e).bind λz=>if 0<z.length/\len*z.length<=2^24 then some (.h (.bSl z len (parts.toList.map (·.1))),parts.toList.map (·.2)) else none
  | _=>none
 | .load t a=>match jR P t,eW P t with
  | some agg,some n=>some (.l<|.ld n agg,[a])
  | _,_=>none
 | .store t a x=>(eW P t).map λn=>(.h<|.st n,[a,x])
 | .nilCheck x=>some (.l .nilChk,[x])
 | .binOp op t x y _=>(Gq P op t).map λl=>(.l l,[x,y])
 | .unOp op _ x=>some (.l<|.un op,[x])
 | .convert src dst x=>
  match P.underlying src,P.underlying dst with
  | some<|.int _,some (.int k)=>some (.l<|.cvt k,[x])
  | some<|.slice e,some .string=>match P.underlying e with
   | some (.int .u8)=>some (.l .b2s,[x])
   | _=>none
  | some .string,some .string=>some (.l .cvtS,[x])
  | some .string,some (.slice e)=>match P.underlying e with
   | some (.int .u8)=>some (.h .s2b,[x])
   | _=>none
  | some<|.slice _,some (.slice e)=>match P.underlying e with
   | some (.int .u8)=>if src=dst then some (.h .frz,[x]) else none
   | _=>none
  | _,_=>none
 | .makeInterface t x=>match P.underlying t with
  | some (.interface _)=>none
  | some _=>some (.l<|.mkI t,[x])
  | none=>none
 | .makeFunc (.func f) first captured=>some (.l<|.mkF f first.size,first.toList++captured.toList)
 | .makeSlice t l c=>
  match P.underlying t with
  | some (.slice e)=>(zeroOf P e).bind λz=>if 0<z.length/\kt P e=true then some (.h<|.mkSl z,[l,c]) else none
  | _=>none
 | .slice t x lo hi mx=>
  match P.underlying t with
  | some (.array n e)=>(eW P e).map λsz=>(.l<|.slA n sz lo.isSome hi.isSome mx.isSome,x::opts [lo,hi,mx])
  | some (.slice e)=>(eW P e).map λsz=>(.l<|.sl sz lo.isSome hi.isSome mx.isSome,x::opts [lo,hi,mx])
  | some .string=>if mx.isSome then none else some (.l<|.slS lo.isSome hi.isSome,x::opts [lo,hi])
  | _=>none
 | .fieldAddr s x f=>
  match P.underlying s with
  | some (.struct fs)=>match fs[f]? with
   | some fl=>match eW P fl.type with
    | some n=>if 0<n then some (.l<|.fAddr fl.offset,[x]) else none
    | none=>none
   | none=>none
  | _=>none
 | .field t x f=>
  match P.underlying t with
  | some (.struct fs)=>match fs[f]? with
   | some fl=>match eW P fl.type,jR P fl.type with
    | some n,some agg=>some (.l<|.fld fl.offset n agg,[x])
    | _,_=>none
   | none=>none
  | _=>none
 | .indexAddr t x i=>
  match P.underlying t with
  | some (.slice e)=>(eW P e).map λsz=>(.l<|.iAddr sz,[x,i])
  | some (.array n e)=>(eW P e).map λsz=>(.l<|.iAddrA n sz,[x,i])
  | _=>none
 | .index t x i=>
  match P.underlying t with
  | some (.array n e)=>match eW P e,jR P e with
   | some sz,some agg=>some (.l<|.idx n sz agg,[x,i])
   | _,_=>none
  | some .string=>some (.l .idxS,[x,i])
  | _=>none
 | .extract t i=>some (.l<|.ext i,[t])
 | .call c=>
  match c.callee with
  | .value f=>some (.h<|.call false,f::c.args.toList)
  | .builtin .len=>
   match c.argTypes[0]?,c.args.toList with
   | some t,[x]=>match P.underlying t with
    | some .string=>some (.l .lenS,[x])
    | some (.slice _)=>some (.l .len,[x])
    | some (.array n _)=>some (.l<|.lenC n,[x])
    | _=>none
   | _,_=>none
  | .builtin .append=>
   match c.argTypes[0]?,c.argTypes[1]?,c.args.toList with
   | some t,some u,[s,x]=>match P.underlying t,P.underlying u with
    | some<|.slice e,some (.slice _)=>match eW P e,zeroOf P e with
     | some sz,some z=>if 0<sz/\z.length=sz/\kt P e=true then some (.h<|.app sz z,[s,x]) else none
     | _,_=>none
    | some<|.slice e,some .string=>match eW P e,zeroOf P e with
     | some 1,some z=>if z.length=1/\kt P e=true then some (.h<|.appS z,[s,x]) else none
     | _,_=>none
    | _,_=>none
   | _,_,_=>none
  | .builtin .copy=>
   match c.argTypes[0]?,c.args.toList with
   | some t,[d,s]=>match P.underlying t with
    | some (.slice e)=>(eW P e).map λsz=>(.h<|.cpy sz,[d,s])
    | _=>none
   | _,_=>none
  | .builtin .min=>some (.l<|.minmax false,c.args.toList)
  | .builtin .max=>some (.l<|.minmax true,c.args.toList)
  | _=>none
 | .panic x=>some (.h .pan,[x])
 | .typeAssert x _ t ok=>match ok,P.underlying t,P.info? t with
  | true,some<|.struct _,some i=>match i.zero with
   | some (.agg cs)=>if cs.toList.all bN then some (.l<|.tas t cs.toList,[x]) else none
   | _=>none
  | _,_,_=>none
 | _=>none
def resolve(P:Program)(op:Op):ROp×List Operand:=(bJ P op).getD (.h .fail,[])
structure Place where
 b:Nat
 s:Nat
 n:Nat
abbrev Map:=Nat->Option Place
def Map.le(φ ψ:Map):Prop:=∀i p,φ i=some p->ψ i=some p
theorem Map.le_refl(φ:Map):φ.le φ:=λ_ _ h=>h
theorem Map.le_trans{φ b a:Map}(h:φ.le b)(k:b.le a):φ.le a:=λi p e=>k i p<|h i p e
inductive VRel (φ:Map):Value->Value->Prop where
 | bool (b:Bool):VRel φ (.bool b)<|.bool b
 | int (k:IntKind) (n:Int):VRel φ (.int k n)<|.int k n
 | float (k:FloatKind) (n:Nat):VRel φ (.float k n)<|.float k n
 | string (s:ByteArray):VRel φ (.string s)<|.string s
 | nilPtr:VRel φ (.pointer none)<|.pointer none
 | ptr (i o:Nat) (p:Place) (h:φ i=some p):VRel φ (.pointer<|some ⟨i,o,none⟩)<|.pointer<|some ⟨p.b,p.s+o,none⟩
 | nilSlice (l c:Nat):VRel φ (.slice none l c)<|.slice none l c
 | slice (i o l c:Nat) (p:Place) (h:φ i=some p):VRel φ (.slice (some ⟨i,o,none⟩) l c)<|.slice (some ⟨p.b,p.s+o,none⟩) l c
 | sliceIn (i o l c z:Nat) (p:Place) (o' c':Nat) (h:φ i=some p) (hc:c<=c') (hl:l<=c) (ho:o'=o\/c=0) (hn:o'+c'*z<=p.n) :
   VRel φ (.slice (some ⟨i,o,some z⟩) l c)<|.slice (some ⟨p.b,p.s+o',none⟩) l c'
 | nilMap:VRel φ (.map none)<|.map none
 | func (f:FuncId) (a b a' b':Array Value) (ha:a.size=a'.size) (hb:b.size=b'.size)
   (ra:∀(j:Nat) x y,a[j]?=some x->a'[j]?=some y->VRel φ x y) (rb:∀(j:Nat) x y,b[j]?=some x->b'[j]?=some y->VRel φ x y) :
   VRel φ (.func (.func f) a b)<|.func (.func f) a' b'
 | nilFunc:VRel φ .nilFunc .nilFunc
 | iface (t:TypeId) (v v':Value) (h:VRel φ v v'):VRel φ (.iface t v)<|.iface t v'
 | nilIface:VRel φ .nilIface .nilIface
 | agg (a a':Array Value) (ha:a.size=a'.size) (ra:∀(j:Nat) x y,a[j]?=some x->a'[j]?=some y->VRel φ x y):VRel φ (.agg a)<|.agg a'
 | tuple (a a':Array Value) (ha:a.size=a'.size) (ra:∀(j:Nat) x y,a[j]?=some x->a'[j]?=some y->VRel φ x y):VRel φ (.tuple a)<|.tuple a'
theorem VRel.mono{φ j:Map}(h:φ.le j){v c:Value}(r:VRel φ v c):VRel j v c:=by
 induction r with
 | bool b=>exact .bool b
 | int k n=>exact .int k n
 | float k n=>exact .float k n
 | string s=>exact .string s
 | nilPtr=>exact .nilPtr
 | ptr i o p e=>exact .ptr i o p<|h _ _ e
 | nilSlice l c=>exact .nilSlice l c
 | slice i o l c p e=>exact .slice i o l c p<|h _ _ e
 | sliceIn i o l c z p o' c' e u w y x=>exact .sliceIn i o l c z p o' c' (h _ _ e) u w y x
 | nilMap=>exact .nilMap
 | func f a b a' m d q _ _ g A=>exact .func f a b a' m d q g A
 | nilFunc=>exact .nilFunc
 | iface t v C _ B=>exact .iface t v C B
 | nilIface=>exact .nilIface
 | agg a a' d _ g=>exact .agg a a' d g
 | tuple a a' d _ g=>exact .tuple a a' d g
def LRel(φ:Map)(l l':List Value):Prop:=l.length=l'.length/\∀(j:Nat) x y,l[j]?=some x->l'[j]?=some y->VRel φ x y
theorem LRel.mono{φ d:Map}(h:φ.le d){v c:List Value}(r:LRel φ v c):LRel d v c:=⟨r.1,λj x y a b=>(r.2 j x y a b).mono h⟩
theorem LRel.nil(φ:Map):LRel φ [] []:=⟨rfl,λj x y a=>by simp at a⟩
theorem LRel.cons{φ:Map}{x y:Value}{l l':List Value}(h:VRel φ x y)(r:LRel φ l l'):LRel φ (x::l) (y::l'):=by
 refine⟨by simp[r.1],λj a b c d=>?_⟩;cases j with
 | zero=>simp at c d;subst c d;exact h
 | succ j=>simp at c d;exact r.2 j a b c d
theorem LRel.of_cons{φ:Map}{x:Value}{l l':List Value}(r:LRel φ (x::l) l'):∃y r',l'=y::r'/\VRel φ x y/\LRel φ l r':=by
 cases l' with
 | nil=>have:=r.1;simp at this
 | cons y r'=>
  refine⟨y,r',rfl,r.2 0 x y rfl rfl,?_,λj a b c d=>r.2 (j+1) a b (by simpa using c) (by simpa using d)⟩;have:=r.1;simp at this;exact this
theorem LRel.of_nil{φ:Map}{l':List Value}(r:LRel φ [] l'):l'=[]:=by
 cases l' with
 | nil=>rfl
 | cons y r'=>have:=r.1;simp at this
theorem LRel.append{φ:Map}{a b a' e:List Value}(h:LRel φ a a')(k:LRel φ b e):LRel φ (a++b)<|a'++e:=by
 refine⟨by simp[h.1,k.1],λj x y c d=>?_⟩;by_cases f:j<a.length
 .rw[ax₀ f]at c
  rw[ax₀<|h.1▸f]at d;exact h.2 j x y c d
 .rw[aw₀ byO]at c
  rw[aw₀ (by rw[<-h.1];omega)]at d;exact k.2 (j-a.length) x y c (by rw[h.1];exact d)
theorem LRel.take{φ:Map}{a a':List Value}(h:LRel φ a a')(n:Nat):LRel φ (a.take n)<|a'.take n:=by
 refine⟨by simp[h.1],λj x y b c=>?_⟩;rw[List.getElem?_take]at b c;split at b
 next d=>rw[if_pos d]at c;exact h.2 j x y b c
 .simp at b
theorem LRel.drop{φ:Map}{a a':List Value}(h:LRel φ a a')(n:Nat):LRel φ (a.drop n)<|a'.drop n:=by refine⟨by simp[h.1],λj x y b c=>?_⟩;rw[List.getElem?_drop]at b c;exact h.2 _ x y b c
theorem LRel.arr{φ:Map}{a a':Array Value}:LRel φ a.toList a'.toList↔(a.size=a'.size/\∀(j:Nat) x y,a[j]?=some x->a'[j]?=some y->VRel φ x y):=by simp[LRel]
theorem LRel.putCells{φ:Map}{c c' v b:List Value}(h:LRel φ c c')(k:LRel φ v b)(a:Nat):LRel φ (putCells c a v)<|putCells c' a b:=by unfold Abs.putCells;rw[<-k.1];exact(h.take a).append<|k.append<|h.drop _
theorem LRel.map_left{k:Type}{φ:Map}(f g:k->Value)(l:List k)(h:∀x ∈ l,VRel φ (f x)<|g x):LRel φ (l.map f)<|l.map g:=by refine⟨by simp,λj x y e i=>?_⟩;simp[az₀,aa₀]at e i;obtain⟨a,c,rfl⟩:=e;obtain⟨b,d,rfl⟩:=i;rw[c]at d;cases d;exact h a<|List.mem_of_getElem? c
theorem VRel.cells{φ:Map}{v c:Value}(h:VRel φ v c):LRel φ v.cells.toList c.cells.toList:=by
 have d:∀{v c:Value},VRel φ v c->LRel φ [v] [c]:=λh=>LRel.cons h<|LRel.nil φ;cases h with
 | agg a a' g j=>exact LRel.arr.2 ⟨g,j⟩
 | bool b=>exact d<|.bool b
 | int k n=>exact d<|.int k n
 | float k n=>exact d<|.float k n
 | string s=>exact d<|.string s
 | nilPtr=>exact d .nilPtr
 | ptr i o p e=>exact d<|.ptr i o p e
 | nilSlice l c=>exact d<|.nilSlice l c
 | slice i o l c p e=>exact d<|.slice i o l c p e
 | sliceIn i o l c z p o' c' e r u x w=>exact d<|.sliceIn i o l c z p o' c' e r u x w
 | nilMap=>exact d .nilMap
 | func f a b a' m g q j y=>exact d<|.func f a b a' m g q j y
 | nilFunc=>exact d .nilFunc
 | iface t v A h=>exact d<|.iface t v A h
 | nilIface=>exact d .nilIface
 | tuple a a' g j=>exact d<|.tuple a a' g j
theorem VRel.oneCell{φ:Map}{v c:Value}(h:VRel φ v c):c.oneCell'=v.oneCell':=by cases h<;>rfl
theorem LRel.oneCells{φ:Map}{l l':List Value}(r:LRel φ l l')(h:oneCells l=true):∀v ∈ l',v.oneCell'=true:=by
 intro v c;have⟨j,b⟩:=List.getElem?_of_mem c;have a:j<l.length:=by rw[r.1];exact(List.getElem?_eq_some_iff.1 b).1
 have:=r.2 j _ v (bc₀ a) b;rw[this.oneCell];exact List.all_eq_true.1 h _<|List.getElem_mem a
theorem gT(φ:Map){v:Value}(h:bN v=true):VRel φ v v:=by
 unfold bN at h;split at h
 .exact .bool _
 .exact .int _ _
 .exact .string _
 .exact .nilPtr
 .exact .nilSlice _ _
 .exact .nilMap
 .exact .nilFunc
 .exact .nilIface
 .exact .float _ _
 next f a b=>
  simp at h;exact .func f a b a b rfl rfl (λj x y c=>by simp[h.1]at c) (λj x y c=>by simp[h.2]at c)
 .simp at h
theorem cT(φ:Map){l:List Value}(h:l.all bN=true):LRel φ l l:=by refine⟨rfl,λj x y a b=>?_⟩;rw[a]at b;cases b;exact gT φ<|List.all_eq_true.1 h _<|List.mem_of_getElem? a
theorem nV(φ:Map){v:Value}(h:fX v=true):VRel φ v v:=by
 unfold fX at h;split at h
 next cs=>have⟨a,b⟩:=LRel.arr.1<|cT φ h;exact .agg cs cs a b
 next cs=>have⟨a,b⟩:=LRel.arr.1<|cT φ h;exact .tuple cs cs a b
 .exact .iface _ _ _<|gT φ h
 .exact gT φ h
def NoFrz(n:Nat)(fr:Nat×Nat):Prop:=fr.1=fr.2\/n<=fr.1
theorem NoFrz.not{n:Nat}{a:Nat×Nat}(h:NoFrz n a)(o:Nat)(b:o<n):¬ (a.1<=o/\o<a.2):=by rcases h with h|h<;>omega
structure HRel (φ:Map)(base G:Nat)(H:Heap)(w:World):Prop where
 cell:∀i c,H.get i=some c->∃p arr ty fr,φ i=some p/\w.heap[p.b]?=some (.cells arr ty fr)/\arr.size=p.s+p.n/\c.length<=p.n /\
  (∀(j:Nat) v,c[j]?=some v->∃u,arr[p.s+j]?=some u/\VRel φ v u)/\(base<=i->NoFrz arr.size fr)
 inj:∀i j c d p q,H.get i=some c->H.get j=some d->φ i=some p->φ j=some q->base<=i->p.b=q.b->i=j
 dom:∀i p,φ i=some p->i<H.length
 glob:∀g,g<G->∃n,φ g=some ⟨g,0,n⟩
 plc:∀i p,φ i=some p->p.b<w.heap.size
def CRel(φ:Map)(H:Heap)(w:World):Prop:=
 ∀i c p,H.get i=some c->φ i=some p->∃arr ty fr,w.heap[p.b]?=some (.cells arr ty fr)/\arr.size=p.s+p.n/\c.length<=p.n/\∀(j:Nat) v,c[j]?=some v->∃u,arr[p.s+j]?=some u/\VRel φ v u
theorem HRel.crel{φ:Map}{base G:Nat}{H:Heap}{w:World}(h:HRel φ base G H w):CRel φ H w:=by intro i c p j k;have⟨l,arr,ty,g,a,b,d,e,f,_⟩:=h.cell i c j;rw[k]at a;cases a;exact⟨arr,ty,g,b,d,e,f⟩
theorem Heap.get_lt{H:Heap}{i:Nat}{c:List Value}(h:H.get i=some c):i<H.length:=by
 unfold Heap.get at h;split at h
 next e=>exact(List.getElem?_eq_some_iff.1 e).1
 .simp at h
theorem CRel.cells{φ:Map}{H:Heap}{w:World}(h:CRel φ H w){i a n:Nat}{l:List Value}{p:Place}(d:H.cells i a n=some l)(z:φ i=some p) :
  l.length=n/\∃l',LRel φ l l'/\∀(j:Nat) v,l'[j]?=some v->w.cell? ((⟨p.b,p.s+a,none⟩:Addr).add j)=some v:=by
 unfold Heap.cells at d;split at d
 next c r=>
  split at d
  next t=>
   cases d;have⟨arr,ty,C,o,A,B,q⟩:=h i c p r z;have b:((c.drop a).take n).length=n:=by simp;omega
   refine⟨b,(arr.toList.drop<|p.s+a).take n,⟨?_,?_⟩,?_⟩
   .rw[b];simp;omega
   .intro j x y k g
    rw[List.getElem?_take,List.getElem?_drop]at k g;split at k
    next s=>
     rw[if_pos s]at g;have⟨u,m,e⟩:=q (a+j) x k;rw[<-Nat.add_assoc]at m;simp at g;rw[m]at g;cases g;exact e
    .simp at k
   .intro j v e
    rw[List.getElem?_take,List.getElem?_drop]at e;split at e
    .have f:(⟨p.b,p.s+a,none⟩:Addr).add j=⟨p.b,p.s+a+j,none⟩:=by unfold Addr.add;split<;>simp_all
     rw[f];simp[World.cell?,o];simpa using e
    .simp at e
  .simp at d
 .simp at d
theorem Heap.cells_get{H:Heap}{i b n:Nat}{l:List Value}(a:H.cells i b n=some l):∃c,H.get i=some c:=by
 unfold Heap.cells at a;split at a
 next c d=>exact⟨c,d⟩
 .simp at a
theorem Cy{P:Program}{t:TypeId}{n:Nat}(h:eW P t=some n):∃i,P.info? t=some i/\i.size=n:=by unfold eW at h;simpa using h
theorem aj{P:Program}{t:TypeId}{n:Nat}(h:eW P t=some n)(w:World):(sizeOf t).run P w=.ok n w:=by have⟨i,a,b⟩:=Cy h;simp[Go.sizeOf,typeInfo,a,b]
theorem kH{P:Program}{t:TypeId}{b:Bool}(h:jR P t=some b)(w:World):(isAgg t).run P w=.ok b w:=by
 unfold jR at h;cases a:P.underlying t with
 | none=>simp[a]at h
 | some d=>
  rw[a]at h;simp[isAgg,Sem.run_bind,run_underlying a,Result.andThen_ok];cases d<;>simp at h<;>subst h<;>rfl
theorem dM(b o j:Nat):(⟨b,o,none⟩:Addr).add j=⟨b,o+j,none⟩:=by unfold Addr.add;split<;>simp_all
section
variable {P:Program}{φ:Map}{base G:Nat}{H:Heap}{w:World}
theorem ND{d:BinOp}{t:TypeId}{x y:Value}{v:Value}(c:bD d x y=some v):(binOp d t x y).run P w=.ok v w/\∀a b:Operand,(eqGuard d t a b x y).run P w=.ok () w:=by
 unfold bD at c;split at c
 next k a h b=>
  refine⟨?_,λx y=>?_⟩
  .cases d
   case shl|shr=>all_goals
    simp only[gz]at c;split at c
    .simp at c
    next e=>
     simp at c;subst c;simp[binOp,Op.shift,e]
   case quo|rem=>all_goals
    simp only[bQ]at c;split at c
    .rename_i f;subst f
     split at c
     .simp at c
     next e=>simp at c;subst c;simp[binOp,Op.intDiv,e]
    .simp at c
   all_goals
    simp only[bQ]at c;split at c
    .rename_i f;subst f
     simp at c;subst c;simp[binOp,Op.intArith,Op.intBits,Op.intCmp]
    .simp at c
  .unfold eqGuard
   split<;>simp
 next a b=>
  refine⟨?_,λx y=>?_⟩
  .unfold vI at c
   cases d<;>simp at c
   case add=>obtain⟨g,rfl⟩:=c;simp[binOp,Op.stringOp];omega
   all_goals (subst c;simp[binOp,Op.stringOp])
  .unfold eqGuard
   split<;>simp
 .simp at c
theorem Bu{t:TypeId}{n:Nat}{agg:Bool}{cs:Array Value}{a:Nat}(c:eW P t=some n)(b:jR P t=some agg)
  {v:Value} (h:(if agg then(if a+n<=cs.size then some (Value.agg<|cs.extract a<|a+n) else none) else cs[a]?)=some v) :
  (part t cs a).run P w=.ok v w:=by
 simp[part,Sem.run_bind,kH b,Result.andThen_ok];cases agg
 .simp at h;simp[h]
 .simp at h;simp[aj c,h.2]
theorem oP{t:TypeId}{k:Nat}(h:pP P t=some k):jR P t=some false:=by unfold pP at h;unfold jR;split at h<;>simp_all
theorem rY{t:TypeId}{k:Nat}(a:pP P t=some k)(d:Nat){x y:Value}{b:Bool}(h:jc k x y=some b) :
  (Op.equalIn (d+1) t x y).run P w=.ok b w:=by
 unfold pP at a;split at a<;>simp at a<;>subst a
 all_goals
  rename_i c;unfold jc at h;split at h<;>simp_all
 .subst h;exact run_equalIn_bool w d t _ _ c
 .obtain⟨rfl,rfl⟩:=h;exact run_equalIn_int w d t _ _ _ _ c
 .subst h;exact run_equalIn_string w d t _ _ c
theorem j3{t:TypeId}(b:jR P t=some false){cs:Array Value}{a:Nat}{v:Value}(h:cs[a]?=some v):(part t cs a).run P w=.ok v w:=by simp[part,kH b,h]
theorem qF(d:Nat)(xs ys:Array Value):∀(u:List Field) (n:Nat) (o:List Nat) (b:Bool),jL P n u=some o->ag o (xs.toList.drop n) (ys.toList.drop n)=some b ->
  (Op.eqFields (d+1) xs ys u).run P w=.ok b w
 | [],n,o,b,g,h=>by
  simp[jL]at g;subst g;unfold ag at h;split at h<;>simp_all [Op.eqFields]
 | f::r,n,o,b,g,h=>by
  simp only[jL]at g;split at g
  ·simp at g
  ·rename_i v
   split at g
   ·rename_i k t s D
    simp at g;subst g;have i : f.name ≠ "_" := fun e => v (.inl e);have j:f.offset=n:=Decidable.byContradiction fun e=>v (.inr e);cases l:xs.toList.drop n with
    | nil=>rw[l]at h;simp[ag]at h
    | cons a x=>
     cases m:ys.toList.drop n with
     | nil=>rw[l,m]at h;simp[ag]at h
     | cons c y=>
      rw[l,m]at h;simp only[ag]at h;split at h
      ·rename_i p q E F
       simp at h;subst h;have B:xs[n]?=some a:=by have:=congrArg (·[0]?) l;simpa using this
       have C:ys[n]?=some c:=by have:=congrArg (·[0]?) m;simpa using this
       have z:xs.toList.drop (n+1)=x:=by have:=congrArg List.tail l;simpa using this
       have A:ys.toList.drop (n+1)=y:=by have:=congrArg List.tail m;simpa using this
       have I:=qF d xs ys r (n+1) t q D (by rw[z,A];exact F);simp only[Op.eqFields,i,ne_eq,not_false_eq_true,if_true,Sem.run_bind,j,j3 (oP s) B,j3 (oP s) C,rY s d E,Result.andThen_ok];cases p
       ·simp
       ·simpa using I
      ·simp at h
   ·simp at g
theorem ml:∀(d e:List Nat) (x y:List Value) (b:Bool),ag (d++e) x y=some b->∃p q,ag d (x.take d.length) (y.take d.length)=some p/\ag e (x.drop d.length) (y.drop d.length)=some q/\b=(p&&q)/\d.length<=x.length/\d.length<=y.length
 | [],e,x,y,b,h=>⟨true,b,by simp[ag],by simpa using h,by simp,by simp,by simp⟩
 | k::d,e,[],y,b,h=>by simp[ag]at h
 | k::d,e,a::x,[],b,h=>by simp[ag]at h
 | k::d,e,a::x,c::y,b,h=>by
  simp[am₀,ag]at h;split at h
  next p q m n=>
   simp at h;subst h;have⟨o,r,f,g,i,j,l⟩:=ml d e x y q n;refine⟨p&&o,r,by simp[ag,m,f],by simpa using g,by rw[i,Bool.and_assoc],by simpa using j,by simpa using l⟩
  .simp at h
theorem Fh{t:TypeId}{c:List Nat}(h:jD P t=some c)(d:Nat){xs ys:Array Value}{b:Bool}(i:ag c xs.toList ys.toList=some b):eW P t=some c.length/\jR P t=some true/\(Op.equalIn (d+2) t (.agg xs)<|.agg ys).run P w=.ok b w:=by
 unfold jD at h;split at h
 next e a=>
  split at h
  .simp at h
  next g=>
   split at h
   next l j=>
    split at h
    next k=>
     simp at h;subst h;have f:P.fieldsOf t=e:=by simp[Program.fieldsOf,a]
     refine⟨k.1,by simp[jR,a],?_⟩;rw[run_equalIn_struct w (d+1) t xs ys (by rw[f];exact a) (by simpa using g),f];exact qF d xs ys e.toList 0 l b j (by simpa using i)
    .simp at h
   .simp at h
 .simp at h
theorem Cz{t:TypeId}{a:List Nat}(h:jD P t=some a):0<a.length:=by
 unfold jD at h;split at h
 .split at h
  .simp at h
  .split at h
   .split at h
    next b=>simp at h;subst h;exact b.2
    .simp at h
   .simp at h
 .simp at h
theorem ya{t:TypeId}{n:Nat}(c:eW P t=some n)(b:jR P t=some true){cs:Array Value}{a:Nat}(h:a+n<=cs.size):(part t cs a).run P w=.ok (.agg<|cs.extract a<|a+n) w:=by simp[part,kH b,aj c,h]
theorem kX(d:Nat)(xs ys:Array Value):∀(E:List Field) (n:Nat) (v:List Nat) (b:Bool),ff P n E=some v->ag v (xs.toList.drop n) (ys.toList.drop n)=some b ->
  (Op.eqFields (d+2) xs ys E).run P w=.ok b w
 | [],n,v,b,g,h=>by
  simp[ff]at g;subst g;unfold ag at h;split at h<;>simp_all [Op.eqFields]
 | f::r,n,v,b,g,h=>by
  simp only[ff]at g;split at g
  ·simp at g
  ·rename_i F
   have i : f.name ≠ "_" := fun e => F (.inl e);have m:f.offset=n:=Decidable.byContradiction fun e=>F (.inr e);split at g
   ·rename_i k o
    split at g
    ·rename_i l B
     simp at g;subst g;cases s:xs.toList.drop n with
     | nil=>rw[s]at h;simp[ag]at h
     | cons a x=>
      cases u:ys.toList.drop n with
      | nil=>rw[s,u]at h;simp[ag]at h
      | cons c y=>
       rw[s,u]at h;simp only[ag]at h;split at h
       ·rename_i p q C t
        simp at h;subst h;have z:xs[n]?=some a:=by have:=congrArg (·[0]?) s;simpa using this
        have A:ys[n]?=some c:=by have:=congrArg (·[0]?) u;simpa using this
        have M:xs.toList.drop (n+1)=x:=by have:=congrArg List.tail s;simpa using this
        have N:ys.toList.drop (n+1)=y:=by have:=congrArg List.tail u;simpa using this
        have D:=kX d xs ys r (n+1) l q B (by rw[M,N];exact t);simp only[Op.eqFields,i,ne_eq,not_false_eq_true,if_true,Sem.run_bind,m,j3 (oP o) z,j3 (oP o) A,rY o (d+1) C,Result.andThen_ok];cases p
        ·simp
        ·simpa using D
       ·simp at h
    ·simp at g
   ·split at g
    ·rename_i j o
     split at g
     ·rename_i l B
      simp at g;subst g;obtain⟨p,q,C,t,rfl,Q,R⟩:=ml j l _ _ b h;have J:=Cz o;have I:n+j.length<=xs.size/\n+j.length<=ys.size:=by simp at Q R;omega
      ·have z:(xs.extract n (n+j.length)).toList=(xs.toList.drop n).take j.length:=by simp[List.extract_eq_take_drop]
       have A:(ys.extract n (n+j.length)).toList=(ys.toList.drop n).take j.length:=by simp[List.extract_eq_take_drop]
       obtain⟨K,L,O⟩:=Fh (w:=w) o d (xs:=xs.extract n (n+j.length)) (ys:=ys.extract n (n+j.length)) (b:=p) (by rw[z,A];exact C);have D:=kX d xs ys r (n+j.length) l q B (by rw[List.drop_drop,List.drop_drop]at t;exact t);simp only[Op.eqFields,i,ne_eq,not_false_eq_true,if_true,Sem.run_bind,m,ya K L I.1,ya K L I.2,O,Result.andThen_ok];cases p
       ·simp
       ·simpa using D
     ·simp at g
    ·simp at g
theorem FL{t:TypeId}{d:List Nat}{xs ys:Array Value}{b:Bool}(a:mU P t=some d)(h:ag d xs.toList ys.toList=some b) :
  (Op.equalIn 10000 t (.agg xs)<|.agg ys).run P w=.ok b w/\∀e x y,(eqGuard e t x y (.agg xs)<|.agg ys).run P w=.ok () w:=by
 unfold mU at a;split at a
 next f i=>
  split at a
  .simp at a
  next c=>
   simp at c;have g:P.fieldsOf t=f:=by simp[Program.fieldsOf,i]
   refine⟨?_,λe x y=>run_eqGuard_agg w e t x y xs ys c.2⟩;rw[run_equalIn_struct w 9999 t xs ys (by rw[g];exact i) c.1,g];exact kX 9997 xs ys f.toList 0 d b a (by simpa using h)
 .simp at a
theorem zP{k:Nat}{x y x' y':Value}{b:Bool}(h:jc k x y=some b)(a:VRel φ x x')(c:VRel φ y y'):x'=x/\y'=y:=by unfold jc at h;split at h<;>simp at h<;>(cases a;cases c;exact⟨rfl,rfl⟩)
theorem qC:∀{i:List Nat} {x y x' y':List Value} {b:Bool},ag i x y=some b->LRel φ x x'->LRel φ y y'->x'=x/\y'=y
 | [],[],[],x',y',b,_,d,f=>⟨d.of_nil,f.of_nil⟩
 | k::i,a::x,c::y,x',y',b,h,d,f=>by
  obtain⟨a',o,rfl,j,e⟩:=d.of_cons;obtain⟨c',r,rfl,l,g⟩:=f.of_cons;simp[ag]at h;split at h
  next p q m n=>
   obtain⟨rfl,rfl⟩:=zP m j l;obtain⟨rfl,rfl⟩:=qC n e g;exact⟨rfl,rfl⟩
  .simp at h
 | [],[],_::_,_,_,_,h,_,_=>by simp[ag]at h
 | [],_::_,_,_,_,_,h,_,_=>by simp[ag]at h
 | _::_,[],_,_,_,_,h,_,_=>by simp[ag]at h
 | _::_,_::_,[],_,_,_,h,_,_=>by simp[ag]at h
end
section
variable {P:Program}{φ:Map}{base G:Nat}{H:Heap}{w:World}
theorem ku{v c:Value}{y n:Nat}(h:toB v y=some n)(r:VRel φ v c)(a:BoundsCode){y':Nat}(d:y<=y'):(Instr.sliceBound c y' a).run P w=.ok n w/\n<=y:=by
 unfold toB at h;split at h
 .cases r
  split at h
  next k i b=>
   simp at h;subst h;have:0<=i/\i<=(y':Int):=byO;simp[Instr.sliceBound,asIntOf,this];omega
  .simp at h
 .simp at h
theorem jm{len cap d:Nat}(c:cap<=d){lo q k:Option Operand}{r i:Operand->Value}(b:∀x ∈ opts [lo,q,k],VRel φ (r x)<|i x){l h m:Nat}(a:Bool)
  (j:bounds len cap lo.isSome q.isSome k.isSome ((opts [lo,q,k]).map r)=some (l,h,m)) :
  (Instr.sliceBounds a len d (lo.map i) (q.map i)<|k.map i).run P w=.ok (l,h,if k.isSome then m else d) w/\l<=h/\(len<=cap->h<=m/\m<=cap)/\(k=none->m=cap):=by
 cases lo<;>cases q<;>cases k<;>simp[bounds,opts,ae₀]at j b
 .obtain⟨rfl,rfl,rfl⟩:=j
  simp[Instr.sliceBounds]
 next x=>
  obtain⟨s,g,rfl,rfl,rfl⟩:=j;have⟨e,f⟩:=ku (P:=P) (w:=w) g b (if a then .sliceAcap else .sliceAlen) c;simp[Instr.sliceBounds,e,f]
 next x y=>
  obtain⟨A,g,s,p,rfl,rfl,rfl⟩:=j;have⟨e,f⟩:=ku (P:=P) (w:=w) g b.2 (if a then .slice3Acap else .slice3Alen) c;have⟨n,o⟩:=ku (P:=P) (w:=w) p b.1 .slice3B<|Nat.le_refl _;simp[Instr.sliceBounds,e,f,n,o]
 next x=>
  obtain⟨l',g,rfl,rfl,rfl⟩:=j;have⟨e,f⟩:=ku (P:=P) (w:=w) g b .sliceB<|Nat.le_refl _;simp[Instr.sliceBounds,e,f]
 next x y=>
  obtain⟨s,p,l',g,rfl,rfl,rfl⟩:=j;have⟨e,f⟩:=ku (P:=P) (w:=w) p b.2 (if a then .sliceAcap else .sliceAlen) c;have⟨n,o⟩:=ku (P:=P) (w:=w) g b.1 .sliceB<|Nat.le_refl _;simp[Instr.sliceBounds,e,f,n,o]
 next x y z=>
  obtain⟨A,g,s,p,l',v,rfl,rfl,rfl⟩:=j;have⟨e,f⟩:=ku (P:=P) (w:=w) g b.2.2 (if a then .slice3Acap else .slice3Alen) c;have⟨n,o⟩:=ku (P:=P) (w:=w) p b.2.1 .slice3B<|Nat.le_refl _;have⟨t,u⟩:=ku (P:=P) (w:=w) v b.1 .slice3C<|Nat.le_refl _;simp[Instr.sliceBounds,e,f,n,o,t,u]
theorem oM(a:Nat):∀(vs:List Value) (k:Nat) (cells:Array Value),a+k+vs.length<=cells.size ->
  (vs.zipIdx k).foldl (λ(cs:Array Value) (x:Value×Nat)=>cs.setIfInBounds (a+x.2) x.1) cells=(putCells cells.toList (a+k) vs).toArray
 | [],k,cells,_=>by simp[putCells]
 | v::vs,k,cells,h=>by
  simp[List.zipIdx_cons,List.foldl_cons];simp at h;rw[oM a vs (k+1) _ (by simp;omega)];congr 1;simp only[putCells,Array.toList_setIfInBounds];apply List.ext_getElem?;intro j;simp only[List.getElem?_append,List.length_take,List.length_set,List.getElem?_take,List.getElem?_drop,List.getElem?_set,Array.length_toList,ak₀];by_cases c:j<a+k
  .have b:j<a+(k+1):=byO
   have d:¬ (a+k=j):=byO;simp[c,b,d,Nat.min_eq_left (show a+k<=cells.size by omega),Nat.min_eq_left (show a+(k+1)<=cells.size by omega)]
  .by_cases f:j=a+k
   .subst f
    simp[Nat.min_eq_left (show a+k<=cells.size by omega),Nat.min_eq_left (show a+(k+1)<=cells.size by omega)];omega
   .have b:¬ j<a+(k+1):=byO
    simp[c,b,Nat.min_eq_left (show a+k<=cells.size by omega),Nat.min_eq_left (show a+(k+1)<=cells.size by omega),if_false];have e:j-(a+k)=(j-(a+(k+1)))+1:=byO;rw[e];simp[List.getElem?_cons_succ,Nat.add_lt_add_iff_right];split
    .rfl
    next i=>
     have g:¬ (a+k=a+(k+1)+vs.length+(j-(a+(k+1))-vs.length)):=byO;simp[g,if_false];congr 1;omega
theorem oL(e:Nat->Option (Nat×Nat)):∀(o:List<|Nat×Nat) (n:List Nat) (vs g:List Value) (d c:List Value) (l:List Value),
  n.length=o.length->(∀(j:Nat) i p,n[j]?=some i->o[j]?=some p->e i=some p)->LRel φ vs g->LRel φ d c->buildL d o vs=some l ->
  ∃l',Instr.fill e c.toArray (n.zip g)=some l'.toArray/\LRel φ l l'
 | [],[],[],g,d,c,l,_,_,A,r,h=>by
  simp[buildL]at h;subst h;exact⟨c,by simp[Instr.fill],r⟩
 | (f,sz)::o,i::n,v::vs,g,d,c,l,k,z,A,r,h=>by
  obtain⟨x,q,rfl,m,u⟩:=A.of_cons;simp only[buildL]at h;split at h
  next F=>
   have t:x.cells.size=sz:=by have:=m.cells.1;simp at this;omega
   have y:c.length=d.length:=r.1.symm;have s:e i=some (f,sz):=z 0 i (f,sz) rfl rfl;have⟨l',B,C⟩:=oL e o n vs q (putCells d f v.cells.toList) (putCells c f x.cells.toList) l (by simpa using k)
    (λj a b D E=>z (j+1) a b (by simpa using D) (by simpa using E)) u (r.putCells m.cells f) h
   refine⟨l',?_,C⟩;simp only[List.zip_cons_cons,Instr.fill,s];rw[if_neg (by simp[t];omega)];have:=oM f x.cells.toList 0 c.toArray (by simp;omega);rw[<-Array.foldl_toList];simp[Array.toList_zipIdx];rw[this];simpa using B
  .simp at h
 | [],[],_::_,_,_,_,_,_,_,_,_,h=>by simp[buildL]at h
 | _::_,_::_,[],_,_,_,_,_,_,_,_,h=>by simp[buildL]at h
 | [],_::_,_,_,_,_,_,k,_,_,_,_=>by simp at k
 | _::_,[],_,_,_,_,_,k,_,_,_,_=>by simp at k
theorem rk(b:Bool):∀(vs c:List Value) (x:Value) (v:Value),LRel φ vs c->vs.foldlM (pS b) x=some v->(∃k n,x=.int k n) ->
  (c.foldlM (if b then Builtin.max2 else Builtin.min2) x).run P w=.ok v w/\∃k n,v=.int k n
 | [],c,x,v,g,h,j=>by
  rw[g.of_nil];simp at h;subst h;exact⟨by cases b<;>simp,j⟩
 | a::vs,c,x,v,g,h,j=>by
  obtain⟨a',f,rfl,o,i⟩:=g.of_cons;simp[List.foldlM_cons,Option.bind_eq_bind,ae₀]at h;have⟨m,d,h⟩:=h;obtain⟨k,n,rfl⟩:=j;unfold pS at d;split at d
  next p r q s e=>
   cases o;simp at e d;obtain⟨rfl,rfl⟩:=e;subst d;have l:=rk b vs f _ v i h ⟨_,_,rfl⟩;refine⟨?_,l.2⟩;cases b
   .simpa[Builtin.min2]using l.1
   .simpa[Builtin.max2]using l.1
  .simp at d
theorem rE:∀(l:List Value) (c:List UInt8),bytesOf l=some c->∀l',LRel φ l l'->l'=l
 | [],_,_,l',h=>h.of_nil
 | v::r,c,b,l',h=>by
  obtain⟨j,r',rfl,g,f⟩:=h.of_cons;unfold bytesOf at b;split at b
  next e=>simp at e
  next n i e=>
   simp at e;obtain⟨rfl,rfl⟩:=e;cases g;simp at b;have⟨a,d,_⟩:=b;rw[rE r a d r' f]
  .simp at b
theorem qQ(d:String):∀(l:List Value) (b:List UInt8) (s:ByteArray),bytesOf l=some b ->
  (forIn l s (λc (s:ByteArray)=>(match c with | .int .u8 n=>pure (ForInStep.yield<|s.push<|UInt8.ofNat n.toNat)|_=>do
    stuck d
    pure (ForInStep.yield s):Sem<|ForInStep ByteArray))).run P w=.ok ⟨s.data++b.toArray⟩ w
 | [],b,s,h=>by simp[bytesOf]at h;subst h;simp
 | v::r,b,s,h=>by
  unfold bytesOf at h;split at h
  next e=>simp at e
  next n i e=>
   simp at e;obtain⟨rfl,rfl⟩:=e;simp at h;obtain⟨a,f,rfl⟩:=h;have g:=qQ d r a (s.push<|UInt8.ofNat n.toNat) f;simp only[List.forIn_cons,Sem.run_bind,Sem.run_pure,Result.andThen_ok];rw[g];simp[ByteArray.push]
  .simp at h
end
section
variable {P:Program}{φ:Map}{H:Heap}{w:World}
theorem ep{t:TypeId}{z:List Value}(h:zeroOf P t=some z):∃i v,P.info? t=some i/\i.zero=some v/\v.cells.toList=z/\z.length=i.size/\z.all bN=true:=by
 unfold zeroOf at h;split at h
 next i b=>
  split at h
  next v c=>
   split at h
   next a=>simp at h;subst h;exact⟨i,v,b,c,rfl,by simpa using a.1,a.2⟩
   .simp at h
  .simp at h
 .simp at h
theorem cL{t:TypeId}{i:TypeInfo}{v:Value}(a:P.info? t=some i)(b:i.zero=some v):(zeroValue t).run P w=.ok v w:=by simp[zeroValue,typeInfo,a,b]
theorem Bf(k:CRel φ H w){n:Nat}{agg:Bool}{t:TypeId}(m:jR P t=some agg)(z:eW P t=some n){a c v:Value}(r:VRel φ a c)(e:aJ (.ld n agg) [a] H=some v) :
  ∃j,(Instr.loadAt t c).run P w=.ok j w/\VRel φ v j:=by
 cases r<;>simp[aJ]at e<;>try (simp at e;done)
 rename_i i o p q;cases agg
 .simp[ah₀,if_false,ae₀]at e
  have⟨l,h,y⟩:=e;have⟨b,l',d,g⟩:=k.cells h q;obtain⟨u,s⟩:∃u,l'[0]?=some u:=by
   have:0<l'.length:=by rw[<-d.1,b];omega
   exact⟨_,bc₀ this⟩
  have x:l[0]?=some v:=by rw[<-y];cases l<;>rfl
  refine⟨u,?_,d.2 0 v u x s⟩;have:=g 0 u s;rw[dM]at this;simp at this;simp[Instr.loadAt,Instr.sureAddr,loadVar,kH m,this]
 .simp[if_true,aa₀]at e
  obtain⟨l,h,rfl⟩:=e;have⟨b,l',d,g⟩:=k.cells h q;have f:=run_loadCells_list (P:=P) w ⟨p.b,p.s+o,none⟩ l' g;rw[<-d.1,b]at f;exact⟨.agg l'.toArray,by simp[Instr.loadAt,Instr.sureAddr,loadVar,kH m,aj z,f],.agg _ _ (by simp[d.1]) (by simpa using d.2)⟩
theorem Mx(y:CRel φ H w){a c v:Value}(r:VRel φ a c)(b:aJ .b2s [a] H=some v):(Conv.bytesToString c).run P w=.ok v w/\VRel φ v v:=by
 have d:∀(i o len o' c':Nat) (p:Place),φ i=some p->(o'=o\/len=0)->((H.cells i o len).bind bytesOf).map (λl=>Value.string ⟨l.toArray⟩)=some v ->
   (Conv.bytesToString<|.slice (some ⟨p.b,p.s+o',none⟩) len c').run P w=.ok v w/\VRel φ v v:=by
  intro i o len o' c' p h n b;simp only[aa₀,ae₀]at b;obtain⟨q,⟨l,u,s⟩,rfl⟩:=b;have⟨f,l',A,t⟩:=y.cells u h;have m:=rE l q s l' A;subst m;have k:∀(j:Nat) v,l'[j]?=some v->w.cell? ((⟨p.b,p.s+o',none⟩:Addr).add j)=some v:=by
   rcases n with rfl|rfl
   .exact t
   .intro j v B
    have:l'=[]:=List.eq_nil_of_length_eq_zero f;subst this;simp at B
  have g:=run_loadCells_list (P:=P) w ⟨p.b,p.s+o',none⟩ l' k;rw[f]at g;refine⟨?_,.string _⟩;simp only[Conv.bytesToString,Sem.run_bind,g,Result.andThen_ok];simp[List.forIn_toArray];apply Eq.trans (congrArg (λx:Result ByteArray=>x.andThen _)<|qQ (P:=P) (w:=w) _ l' q .empty s);simp
 cases r<;>simp only[aJ]at b<;>try (simp at b;done)
 .simp at b;subst b;exact⟨by simp[Conv.bytesToString],.string _⟩
 next i o l c p h=>exact d i o l o c p h (.inl rfl) b
 next i o l c z p o' c' h t u n C=>exact d i o l o' c' p h (n.imp id λe=>by omega) b
theorem Si{t e:TypeId}{sz:Nat}{x:Operand}{lo u g:Option Operand}{j b:Operand->Value}(Q:P.underlying t=some (.slice e))(B:eW P e=some sz)
  (n:∀y ∈ x::opts [lo,u,g],VRel φ (j y)<|b y) {v:Value} (d:aJ (.sl sz lo.isSome u.isSome g.isSome) ((x::opts [lo,u,g]).map j) H=some v) :
  ∃J,(Instr.sliceAt t (b x) (lo.map b) (u.map b)<|g.map b).run P w=.ok J w/\VRel φ v J:=by
 have G:=n x (by simp);have F:∀y ∈ opts [lo,u,g],VRel φ (j y)<|b y:=λy R=>n y<|List.mem_cons_of_mem _ R;simp[ag₀]at d;generalize j x=a at G d;generalize b x=c at G;simp only[Instr.sliceAt,Sem.run_bind,run_underlying Q,Result.andThen_ok,Instr.slice];cases G<;>simp only[aJ]at d<;>try (simp at d;done)
 next len cap=>
  simp only[aa₀]at d;obtain⟨⟨l,h,m⟩,s,rfl⟩:=d;have⟨f,K,D,r⟩:=jm (P:=P) (w:=w) (Nat.le_refl cap) F true s;have E:(if g.isSome then m else cap)=m:=by
   cases g with
   | none=>simp[r rfl]
   | some y=>rfl
  rw[E]at f;exact⟨_,by simp[f,aj B],.nilSlice _ _⟩
 next i o len cap p A=>
  simp only[aa₀]at d;obtain⟨⟨l,h,m⟩,s,rfl⟩:=d;have⟨f,K,D,r⟩:=jm (P:=P) (w:=w) (Nat.le_refl cap) F true s;have E:(if g.isSome then m else cap)=m:=by
   cases g with
   | none=>simp[r rfl]
   | some y=>rfl
  rw[E]at f;refine⟨.slice (some ⟨p.b,p.s+(if m=l then o else o+l*sz),none⟩) (h-l)<|m-l,?_,.slice i _ _ _ p A⟩;simp[Sem.run_bind,f,aj B,Result.andThen_ok,Sem.run_pure];split<;>simp[dM,Nat.add_assoc]
 next i o len cap z p o' c' A M N L O=>
  split at d
  next I=>
   subst I
   simp only[aa₀]at d;have⟨⟨l,h,m⟩,s,q⟩:=d;have⟨f,K,D,r⟩:=jm (P:=P) (w:=w) M F true s;have⟨S,T⟩:=D N;cases g with
   | some y=>
    simp only[Option.isSome_some,if_true]at f;by_cases C:cap=0
    .subst C
     simp at q;subst q;obtain rfl:m=0:=byO;obtain rfl:h=0:=byO;obtain rfl:l=0:=byO;refine⟨.slice (some ⟨p.b,p.s+o',none⟩) 0 0,?_,?_⟩
     .simp only[Sem.run_bind,f,aj B,Result.andThen_ok,Sem.run_pure,if_true,Nat.sub_self]
     .simp;exact .sliceIn i o 0 0 z p o' 0 A (Nat.le_refl _) (Nat.le_refl _) (.inr rfl) byO
    .obtain rfl:o'=o:=L.resolve_right C
     simp[C]at q;subst q;refine⟨.slice (some ⟨p.b,p.s+(if m=l then o' else o'+l*z),none⟩) (h-l)<|m-l,?_,.slice i _ _ _ p A⟩;simp only[Sem.run_bind,f,aj B,Result.andThen_ok,Sem.run_pure];split<;>simp[dM,Nat.add_assoc]
   | none=>
    obtain rfl:=r rfl;simp at q f;subst q;refine⟨.slice (some ⟨p.b,p.s+(if c'=l then o' else o'+l*z),none⟩) (h-l)<|c'-l,?_,?_⟩
    .simp[Option.map_none,Sem.run_bind,f,aj B,Result.andThen_ok,Sem.run_pure]
     split<;>simp[dM,Nat.add_assoc]
    .refine .sliceIn i _ _ _ z p _ _ A byO byO ?_ ?_
     .by_cases k:c'=l
      .right;omega
      .rcases L with rfl|C
       .left;simp[k]
       .right;omega
     .split
      next k=>subst k;simp;exact Nat.le_trans (Nat.le_add_right _ _) O
      .have:o'+l*z+(c'-l)*z=o'+c'*z:=by
        rw[Nat.add_assoc,<-Nat.add_mul];congr 2;omega
       omega
  .simp at d
theorem P4{t e:TypeId}{n sz:Nat}{x:Operand}{lo k g:Option Operand}{d b:Operand->Value}(D:P.underlying t=some (.array n e))(F:eW P e=some sz)
  (f:∀y ∈ x::opts [lo,k,g],VRel φ (d y)<|b y) {v:Value} (j:aJ (.slA n sz lo.isSome k.isSome g.isSome) ((x::opts [lo,k,g]).map d) H=some v) :
  ∃r,(Instr.sliceAt t (b x) (lo.map b) (k.map b)<|g.map b).run P w=.ok r w/\VRel φ v r:=by
 have q:=f x (by simp);have C:∀y ∈ opts [lo,k,g],VRel φ (d y)<|b y:=λy E=>f y<|List.mem_cons_of_mem _ E;simp[ag₀]at j;generalize d x=a at q j;generalize b x=c at q;simp[Instr.sliceAt,Sem.run_bind,run_underlying D,Result.andThen_ok];cases q<;>simp only[aJ]at j<;>try (simp at j;done)
 rename_i i o p B;simp only[aa₀]at j;obtain⟨⟨l,h,m⟩,z,rfl⟩:=j;have⟨s,G,I,u⟩:=jm (P:=P) (w:=w) (Nat.le_refl n) C false z;have A:(if g.isSome then m else n)=m:=by
  cases g with
  | none=>simp[u rfl]
  | some y=>rfl
 rw[A]at s;refine⟨.slice (some ⟨p.b,p.s+(if m=l then o else o+l*sz),none⟩) (h-l)<|m-l,?_,.slice i _ _ _ p B⟩;simp[Instr.sureAddr,Sem.run_pure,s,aj F,Result.andThen_ok];split<;>simp[dM,Nat.add_assoc]
theorem P5{t:TypeId}{x:Operand}{lo e:Option Operand}{d b:Operand->Value}(r:P.underlying t=some .string)
  (f:∀y ∈ x::opts [lo,e],VRel φ (d y)<|b y) {v:Value} (g:aJ (.slS lo.isSome e.isSome) ((x::opts [lo,e]).map d) H=some v) :
  ∃k,(Instr.sliceAt t (b x) (lo.map b) (e.map b) none).run P w=.ok k w/\VRel φ v k:=by
 have j:=f x (by simp);have q:∀y ∈ opts [lo,e,none],VRel φ (d y)<|b y:=λy o=>f y<|List.mem_cons_of_mem _ (by cases lo<;>cases e<;>simp[opts]at o ⊢<;>exact o);simp[ag₀]at g;generalize d x=a at j g;generalize b x=c at j;simp[Instr.sliceAt,Sem.run_bind,run_underlying r,Result.andThen_ok,Instr.slice];cases j<;>simp only[aJ]at g<;>try (simp at g;done)
 rename_i s;simp only[aa₀]at g;obtain⟨⟨l,h,m⟩,p,rfl⟩:=g;have i:bounds s.size s.size lo.isSome e.isSome (none:Option Operand).isSome ((opts [lo,e,none]).map d)=some (l,h,m):=by cases lo<;>cases e<;>simpa[opts]using p
 have⟨n,u,z,A⟩:=jm (P:=P) (w:=w) (Nat.le_refl s.size) q false i;simp at n;exact⟨_,by simp[n],.string _⟩
end
section
variable {P:Program}{φ:Map}{H:Heap}{w:World}
theorem D1{a:List Field}{b:List<|Nat×Nat}(h:gh P a=some b) :
  (a.mapM (λf=>do pure (f.offset,<-sizeOf f.type):Field->Sem (Nat×Nat))).run P w=.ok b w:=by
 induction a generalizing b with
 | nil=>simp[gh]at h;subst h;simp
 | cons f a e=>
  simp[gh,ae₀,aa₀]at h;obtain⟨n,c,r,d,rfl⟩:=h;rw[List.mapM_cons];simp only[Sem.run_bind,aj c,e d,Result.andThen_ok,Sem.run_pure]
theorem Bv{f:List<|Nat×Nat}:∀{c:List Nat} {b:List<|Nat×Nat},jK f c=some b->c.length=b.length/\∀(j:Nat) i p,c[j]?=some i->b[j]?=some p->f[i]?=some p
 | [],b,h=>by simp[jK]at h;subst h;simp
 | i::c,b,h=>by
  simp[jK]at h;split at h
  next q l=>
   simp[aa₀]at h;obtain⟨r,m,rfl⟩:=h;have⟨g,k⟩:=Bv m;refine⟨by simp[g],λj a p d e=>?_⟩;cases j with
   | zero=>simp at d e;subst d e;exact l
   | succ j=>exact k j a p (by simpa using d) (by simpa using e)
  .simp at h
theorem pz(parts:List<|Nat×Operand)(a:Operand->Value):parts.map (λ(p:Nat×Operand)=>(p.1,a p.2))=(parts.map (·.1)).zip ((parts.map (·.2)).map a):=by
 induction parts with
 | nil=>rfl
 | cons p r b=>simp[b]
theorem EW{t:TypeId}{parts:Array<|Nat×Operand}{l:ROp}{xs:List Operand}(h:bJ P (.build t parts)=some (l,xs)){g b:Operand->Value}(u:∀x ∈ xs,VRel φ (g x)<|b x){v:Value} :
  ∃l',l=.l l'/\(aJ l' (xs.map g) H=some v->∃K,(Instr.build t<|parts.map λ(i,x)=>(i,b x)).run P w=.ok K w/\VRel φ v K):=by
 simp[bJ]at h;have c:(parts.map λ(p:Nat×Operand)=>(p.1,b p.2)).toList=(parts.toList.map (·.1)).zip ((parts.toList.map (·.2)).map b):=by
  rw[Array.toList_map];exact pz parts.toList b
 split at h
 next N z I J=>
  simp[ae₀,aa₀,ad₀]at h;obtain⟨M,G,Q,F,rfl,rfl⟩:=h;refine⟨_,rfl,λs=>?_⟩;obtain⟨i,T,C,k,rfl,r,d⟩:=ep J;simp only[aJ,aa₀]at s;obtain⟨l,D,rfl⟩:=s;have⟨R,S⟩:=Bv F;have⟨l',o,q⟩:=oL (λi=>M.toArray[i]?) Q _ _ _ _ _ l R (λj a p A B=>by simpa using S j a p A B) (LRel.map_left g b _ u) (cT φ d) D;refine⟨.agg l'.toArray,?_,.agg _ _ (by simp[q.1]) (by simpa using q.2)⟩;have E:(N.mapM (λf=>do pure (f.offset,<-sizeOf f.type):Field->Sem (Nat×Nat))).run P w=.ok M.toArray w:=by
   rw[Array.mapM_eq_mapM_toList,Sem.run_map,D1 G];rfl
  simp only[Instr.build,Sem.run_bind,cL C k,Result.andThen_ok,run_underlying I,E,c];simp only[Array.toArray_toList]at o;rw[o];rfl
 next n e z I J=>
  simp[aa₀,ad₀]at h;obtain⟨m,E,rfl,rfl⟩:=h;refine⟨_,rfl,λs=>?_⟩;obtain⟨i,T,C,k,rfl,r,d⟩:=ep J;simp only[aJ,aa₀]at s;obtain⟨l,D,rfl⟩:=s;have⟨l',o,q⟩:=oL (λi=>some (i*m,m)) _ (parts.toList.map (·.1)) _ _ _ _ l (by simp) (λj a p A B=>by
    simp only[az₀,aa₀]at A B;obtain⟨x,O,rfl⟩:=A;obtain⟨y,L,rfl⟩:=B;rw[O]at L;cases L;rfl) (LRel.map_left g b _ u) (cT φ d) D
  refine⟨.agg l'.toArray,?_,.agg _ _ (by simp[q.1]) (by simpa using q.2)⟩;simp only[Instr.build,Sem.run_bind,cL C k,Result.andThen_ok,run_underlying I,aj E,c];simp only[Array.toArray_toList]at o;rw[o];rfl
 .simp at h
theorem pM{t e:TypeId}(b:P.underlying t=some (.slice e))(d:Nat)(a:Option Addr)(l c l' c':Nat) :
  (Op.equalIn (d+1) t (.slice a l c)<|.slice none l' c').run P w=.ok a.isNone w:=by simp[Op.equalIn,Sem.run_bind,run_underlying b,Result.andThen_ok];cases a<;>rfl
theorem rX{t e:TypeId}(b:P.underlying t=some (.pointer e))(d:Nat)(a:Option Addr) :
  (Op.equalIn (d+1) t (.pointer a)<|.pointer none).run P w=.ok a.isNone w:=by simp[Op.equalIn,Sem.run_bind,run_underlying b,Result.andThen_ok];cases a<;>rfl
theorem yd{cs b:Array Value}{a n:Nat}{agg:Bool}{v:Value}(d:cs.size=b.size)(c:∀(j:Nat) x y,cs[j]?=some x->b[j]?=some y->VRel φ x y)
  (h:(if agg then(if a+n<=cs.size then some (Value.agg<|cs.extract a<|a+n) else none) else cs[a]?)=some v) :
  ∃i,(if agg then(if a+n<=b.size then some (Value.agg<|b.extract a<|a+n) else none) else b[a]?)=some i/\VRel φ v i:=by
 cases agg
 .simp[ah₀,if_false]at h ⊢
  have g:a<b.size:=by rw[<-d];exact(Array.getElem?_eq_some_iff.1 h).1
  have k:b[a]?=some b[a]:=Array.getElem?_eq_getElem g;exact⟨_,k,c _ _ _ h k⟩
 .simp only[if_true]at h ⊢
  split at h
  next l=>
   rw[if_pos byO];simp at h;subst h;refine⟨_,rfl,.agg _ _ (by simp[d]) λj x y e f=>?_⟩;rw[Array.getElem?_extract]at e f;split at e
   .split at f
    .exact c _ _ _ e f
    .simp at f
   .simp at e
  .simp at h
theorem bG{s:Sem Value}{a:Value}(h:s.run P w=.ok a w):(do pure (Next.value<|<-s):Sem Next).run P w=.ok (.value a) w:=by simp[Sem.run_bind,h,Result.andThen_ok,Sem.run_pure]
theorem uY{l l':List Value}(a:Bool)(e:LRel φ l l'){v:Value}(b:aJ (.minmax a) l H=some v) :
  ∃c,((if a then Builtin.max_ #[] 0 l'.toArray else Builtin.min_ #[] 0 l'.toArray)).run P w=.ok c w/\VRel φ v c:=by
 cases l with
 | nil=>simp[aJ]at b
 | cons x r=>
  obtain⟨x',r',rfl,g,f⟩:=e.of_cons;simp[aJ]at b;split at b
  .cases g
   obtain⟨d,k,n,rfl⟩:=rk (P:=P) (w:=w) a r r' _ v f b ⟨_,_,rfl⟩;refine⟨_,?_,.int _ _⟩;cases a
   .simpa[Builtin.min_]using d
   .simpa[Builtin.max_]using d
  .simp at b
theorem oJ{f:Operand->Value}{dst:Option Tmp}{b:Builtin}{args:Array Operand}{a:Array TypeId}{c:TypeId}{e:String}{d:Array Edge}{guard:Option<|Nat×Bool} :
  (execOp f ⟨dst,.call ⟨.builtin b,args,a⟩,c,e,d,guard⟩).run P w =
   (builtin b a c (args.map λ| .const _=>true|_=>false)<|args.map f).run P w:=by simp[execOp,Go.resolve,Sem.run_bind,Sem.run_pure,Result.andThen_ok,invoke];rfl
set_option maxHeartbeats 1000000 in
theorem oS{o:Oper}{l:LOp}{xs:List Operand}(A:bJ P o.op=some (.l l,xs)){B h:Operand->Value}(D:∀x ∈ xs,VRel φ (B x)<|h x)(hH:CRel φ H w)
  {v:Value} (g:aJ l (xs.map B) H=some v):∃G,(execOp h o).run P w=.ok (.value G) w/\VRel φ v G:=by
 obtain⟨dst,op,T0,W0,r0,guard⟩:=o;cases op<;>simp only[bJ]at A
 case move x=>
  simp at A;obtain⟨rfl,rfl⟩:=A;simp[aJ]at g;subst g;exact⟨_,by simp[execOp],D x (by simp)⟩
 case assign x=>
  simp at A;obtain⟨rfl,rfl⟩:=A;simp[aJ]at g;subst g;exact⟨_,by simp[execOp],D x (by simp)⟩
 case pick c a b=>
  simp at A;obtain⟨rfl,rfl⟩:=A;have hc:=D c (by simp);have ha:=D a (by simp);have W:=D b (by simp);simp only[ag₀,al₀]at g;generalize B c=G at hc g;cases w0:G<;>subst w0<;>simp[aJ]at g;rename_i bv;cases m0:h c<;>rw[m0]at hc<;>cases hc;subst g;cases bv
  .exact⟨h b,by simp[execOp,m0,asBool],by simpa using W⟩
  .exact⟨h a,by simp[execOp,m0,asBool],by simpa using ha⟩
 case alloc t=>cases V:zeroOf P t<;>simp[V]at A
 case box=>simp at A
 case build t parts=>
  obtain⟨l',I,J⟩:=EW (P:=P) (φ:=φ) (H:=H) (w:=w) (t:=t) (parts:=parts) (l:=.l l) (xs:=xs) (by simpa only[bJ]using A) D (v:=v);cases I;obtain⟨G,F,L⟩:=J g;exact⟨G,by simp only[execOp];exact bG F,L⟩
 case buildSlice t len parts=>repeat' (first|(simp at A;done)|split at A|(simp only[ae₀]at A;obtain⟨z,_,A⟩:=A))
 case load t a=>
  split at A
  next agg n ha hn=>
   simp at A;obtain⟨rfl,rfl⟩:=A;obtain⟨G,F,L⟩:=Bf hH ha hn (D a (by simp)) g;exact⟨G,by simp only[execOp];exact bG F,L⟩
  .simp at A
 case store t a x=>cases V:eW P t<;>simp[V]at A
 case nilCheck x=>
  simp at A;obtain⟨rfl,rfl⟩:=A;have C:=D x (by simp);simp only[ag₀,al₀]at g;simp only[execOp];generalize B x=a at C g;generalize h x=c at C;cases C<;>simp[aJ]at g
  .subst g;rename_i i o p hp;exact⟨_,by simp,.ptr i o p hp⟩
  .subst g;rename_i f a b a' b' ha W ra rb;exact⟨_,by simp,.func f a b a' b' ha W ra rb⟩
 case binOp op t x y u=>
  simp only[aa₀,ad₀,ROp.l.injEq]at A;obtain⟨l',K,rfl,rfl⟩:=A;have C:=D x (by simp);have R:=D y (by simp);simp only[ag₀,al₀]at g;simp only[execOp];unfold Gq at K;have O:∀{G:Value},(eqGuard op t x y (h x)<|h y).run P w=.ok () w->(binOp op t (h x)<|h y).run P w=.ok G w ->
    (do pure (Next.value<|<-(do eqGuard op t x y (h x) (h y);binOp op t (h x)<|h y)):Sem Next).run P w=.ok (.value G) w:=by
   intro G F L;simp only[Sem.run_bind,F,L,Result.andThen_ok,Sem.run_pure]
  have N:aJ (.bin op) [B x,B y] H=some v->∃G,(do pure (Next.value<|<-(do eqGuard op t x y (h x) (h y);binOp op t (h x)<|h y)):Sem Next).run P w=.ok (.value G) w/\VRel φ v G:=by
   intro g;simp only[aJ]at g;have W:=ND (P:=P) (w:=w) (t:=t) g;have S:h x=B x/\h y=B y:=by
    unfold bD at g;split at g
    .rename_i I J;rw[I]at C;rw[J]at R;rw[I,J]
     generalize h x=p' at C ⊢;generalize h y=q' at R ⊢;cases C;cases R;exact⟨rfl,rfl⟩
    .rename_i I J;rw[I]at C;rw[J]at R;rw[I,J]
     generalize h x=p' at C ⊢;generalize h y=q' at R ⊢;cases C;cases R;exact⟨rfl,rfl⟩
    .simp at g
   rw[S.1,S.2];refine⟨v,by rw[<-S.1,<-S.2];refine O (by rw[S.1,S.2];exact W.2 x y) (by rw[S.1,S.2];exact W.1),?_⟩;unfold bD at g;split at g
   .have:bN v=true:=by
     unfold gz bQ at g;repeat' split at g
     all_goals (first|(simp at g;done)|(simp at g;subst g;rfl))
    exact gT φ this
   .have:bN v=true:=by
     unfold vI at g;repeat' split at g
     all_goals (first|(simp at g;done)|(simp at g;subst g;rfl))
    exact gT φ this
   .simp at g
  split at K
  .simp at K;subst K;exact N g
  .simp at K;subst K;exact N g
  next E=>
   have q0:∀neg,aJ (.eqB neg) [B x,B y] H=some v->∃a b,h x=.bool a/\h y=.bool b/\v=.bool ((a==b) != neg):=by
    intro neg g;generalize B x=p at C g;generalize B y=q at R g;generalize h x=p' at C ⊢;generalize h y=q' at R ⊢;cases C<;>cases R<;>simp[aJ]at g;exact⟨_,_,rfl,rfl,g.symm⟩
   split at K<;>simp at K<;>subst K
   .obtain⟨a,b,I,J,rfl⟩:=q0 _ g
    exact⟨_,O (by rw[I,J];simp[eqGuard]) (by rw[I,J];simp only[binOp,Sem.run_bind,run_equal_bool w t a b E,Result.andThen_ok,Sem.run_pure];rfl),by simpa using .bool _⟩
   .obtain⟨a,b,I,J,rfl⟩:=q0 _ g
    exact⟨_,O (by rw[I,J];simp[eqGuard]) (by rw[I,J];simp only[binOp,Sem.run_bind,run_equal_bool w t a b E,Result.andThen_ok,Sem.run_pure];rfl),by simpa using .bool _⟩
  .have p0:∀neg ks,aJ (.eqA neg ks) [B x,B y] H=some v->∃a b r,h x=.agg a/\h y=.agg b/\ag ks a.toList b.toList=some r/\v=.bool (r != neg):=by
    intro neg ks g;generalize B x=p at C g;generalize B y=q at R g;generalize h x=p' at C ⊢;generalize h y=q' at R ⊢;cases C<;>cases R<;>simp only[aJ]at g<;>try (simp at g;done)
    rename_i xs H0 F L ys R0 h3 h4;simp only[aa₀]at g;obtain⟨r,A,rfl⟩:=g;obtain⟨I,J⟩:=qC A (LRel.arr.2 ⟨F,L⟩)<|LRel.arr.2 ⟨h3,h4⟩;exact⟨H0,R0,r,rfl,rfl,by rw[I,J];exact A,rfl⟩
   split at K<;>try (simp at K;done)
   all_goals simp only[aa₀]at K
   .obtain⟨ks,hk,rfl⟩:=K
    obtain⟨a,b,r,I,J,e3,rfl⟩:=p0 _ _ g;obtain⟨g1,g2⟩:=FL (P:=P) (w:=w) hk e3;exact⟨_,O (by rw[I,J];exact g2 _ _ _) (by rw[I,J,run_eql_struct,g1];rfl),by simpa using .bool _⟩
   .obtain⟨ks,hk,rfl⟩:=K
    obtain⟨a,b,r,I,J,e3,rfl⟩:=p0 _ _ g;obtain⟨g1,g2⟩:=FL (P:=P) (w:=w) hk e3;exact⟨_,O (by rw[I,J];exact g2 _ _ _) (by rw[I,J,run_neq_struct,g1];rfl),by simpa using .bool _⟩
  next n e E=>
   have n0:mU P t=none:=by simp[mU,E]
   split at K<;>simp[n0]at K
  next e E=>
   have Z:∀neg,aJ (.eqN neg) [B x,B y] H=some v->∃a l c l' c',h x=.slice a l c/\h y=.slice none l' c'/\v=.bool (a.isNone != neg):=by
    intro neg g;generalize B x=p at C g;generalize B y=q at R g;generalize h x=p' at C ⊢;generalize h y=q' at R ⊢;cases C<;>cases R<;>simp[aJ]at g<;>subst g<;>simp
   have g0:∀a l c l' c',(Op.equal t (.slice a l c)<|.slice none l' c').run P w=.ok a.isNone w:=by
    intro a l c l' c';exact pM E 9999 a l c l' c'
   split at K<;>simp at K<;>subst K
   .obtain⟨a,l,c,l',c',I,J,rfl⟩:=Z _ g
    exact⟨_,O (by rw[I,J];simp[eqGuard]) (by rw[I,J];simp only[binOp,Sem.run_bind,g0,Result.andThen_ok,Sem.run_pure];rfl),by simpa using .bool _⟩
   .obtain⟨a,l,c,l',c',I,J,rfl⟩:=Z _ g
    exact⟨_,O (by rw[I,J];simp[eqGuard]) (by rw[I,J];simp only[binOp,Sem.run_bind,g0,Result.andThen_ok,Sem.run_pure];rfl),by simpa using .bool _⟩
  next e E=>
   have Z:∀neg,aJ (.eqP neg) [B x,B y] H=some v->∃a,h x=.pointer a/\h y=.pointer none/\v=.bool (a.isNone != neg):=by
    intro neg g;generalize B x=p at C g;generalize B y=q at R g;generalize h x=p' at C ⊢;generalize h y=q' at R ⊢;cases C<;>cases R<;>simp[aJ]at g<;>subst g<;>simp
   have g0:∀a,(Op.equal t (.pointer a)<|.pointer none).run P w=.ok a.isNone w:=by
    intro a;exact rX E 9999 a
   split at K<;>simp at K<;>subst K
   .obtain⟨a,I,J,rfl⟩:=Z _ g
    exact⟨_,O (by rw[I,J];simp[eqGuard]) (by rw[I,J];simp only[binOp,Sem.run_bind,g0,Result.andThen_ok,Sem.run_pure];rfl),by simpa using .bool _⟩
   .obtain⟨a,I,J,rfl⟩:=Z _ g
    exact⟨_,O (by rw[I,J];simp[eqGuard]) (by rw[I,J];simp only[binOp,Sem.run_bind,g0,Result.andThen_ok,Sem.run_pure];rfl),by simpa using .bool _⟩
  .simp at K
 case unOp op t x=>
  simp at A;obtain⟨rfl,rfl⟩:=A;have C:=D x (by simp);simp only[ag₀,al₀]at g;simp only[execOp];generalize B x=a at C g;generalize h x=c at C ⊢;cases op<;>cases C<;>simp only[aJ]at g<;>try (simp at g;done)
  .simp at g;subst g;exact⟨_,bG (by simp[Op.unary,Op.intArith]),.int _ _⟩
  .simp[bQ]at g;subst g;exact⟨_,bG (by simp[Op.unary,Op.intBits]),.int _ _⟩
  .simp at g;subst g;exact⟨_,bG (by simp[Op.unary]),.bool _⟩
 case convert X0 dst x=>
  have C:xs=[x]->VRel φ (B x) (h x):=λe=>D x (by simp[e]);split at A
  next k k' U e0=>
   simp at A;obtain⟨rfl,rfl⟩:=A;have C:=C rfl;simp only[ag₀,al₀]at g;simp only[execOp];generalize B x=a at C g;generalize h x=c at C ⊢;cases C<;>simp[aJ]at g;subst g;exact⟨_,bG (by simp only[convert,Sem.run_bind,run_underlying U,run_underlying e0,Result.andThen_ok];rfl),.int _ _⟩
  next e U e0=>
   split at A
   next z0=>
    simp at A;obtain⟨rfl,rfl⟩:=A;obtain⟨F,L⟩:=Mx (P:=P) hH (C rfl) g;have C:=C rfl;simp only[ag₀,al₀]at g;simp only[execOp];refine⟨v,bG ?_,L⟩;simp only[convert,Sem.run_bind,run_underlying U,run_underlying e0,Result.andThen_ok];generalize B x=a at C g;generalize h x=c at C F ⊢;cases C<;>simp only[aJ]at g<;>try (simp at g;done)
    all_goals simp only[Sem.run_bind,run_underlying z0,Result.andThen_ok];exact F
   .simp at A
  next U e0=>
   simp at A;obtain⟨rfl,rfl⟩:=A;have C:=C rfl;simp only[ag₀,al₀]at g;simp only[execOp];generalize B x=a at C g;generalize h x=c at C ⊢;cases C<;>simp[aJ]at g;subst g;exact⟨_,bG (by simp only[convert,Sem.run_bind,run_underlying U,run_underlying e0,Result.andThen_ok];rfl),.string _⟩
  .split at A<;>simp at A
  .split at A
   .split at A<;>simp at A
   .simp at A
  .simp at A
 case makeInterface t x=>
  split at A
  .simp at A
  next d U E=>
   simp at A;obtain⟨rfl,rfl⟩:=A;simp[aJ]at g;subst g;refine⟨.iface t<|h x,?_,.iface _ _ _<|D x (by simp)⟩;simp only[execOp];apply bG;simp only[Instr.makeInterface,Sem.run_bind,run_underlying E,Result.andThen_ok];rfl
  .simp at A
 case makeFunc fn first Y=>
  cases fn<;>simp at A;rename_i f;obtain⟨rfl,rfl⟩:=A;simp only[aJ,ab₀]at g;subst g;refine⟨.func (.func f) (first.map h)<|Y.map h,by simp[execOp,Instr.makeFunc],?_⟩;have K:=LRel.map_left B h _ D;have F:=K.take first.size
  have L:=K.drop first.size
  simp only[List.map_append]at F L ⊢;rw[List.take_left' (by simp),List.take_left' (by simp)]at F;rw[List.drop_left' (by simp),List.drop_left' (by simp)]at L;rw[List.take_left' (by simp),List.drop_left' (by simp)];exact .func f _ _ _ _ (by simp) (by simp) (by simpa using F.2) (by simpa using L.2)
 case makeSlice t l c=>repeat' (first|(simp at A;done)|split at A|(simp only[ae₀]at A;obtain⟨z,_,A⟩:=A))
 case slice t x lo Q mx=>
  simp only[execOp];split at A
  next n e E=>
   simp only[aa₀,ad₀,ROp.l.injEq]at A;obtain⟨sz,V,rfl,rfl⟩:=A;obtain⟨G,F,L⟩:=P4 (P:=P) (w:=w) E V D g;exact⟨G,bG F,L⟩
  next e E=>
   simp only[aa₀,ad₀,ROp.l.injEq]at A;obtain⟨sz,V,rfl,rfl⟩:=A;obtain⟨G,F,L⟩:=Si (P:=P) (w:=w) E V D g;exact⟨G,bG F,L⟩
  next E=>
   split at A
   .simp at A
   next hm=>
    simp only[ab₀,ad₀,ROp.l.injEq]at A;obtain⟨rfl,rfl⟩:=A;obtain rfl:mx=none:=by cases mx<;>simp_all
    obtain⟨G,F,L⟩:=P5 (P:=P) (w:=w) E D g;exact⟨G,bG F,L⟩
  .simp at A
 case fieldAddr s x f=>
  simp only[execOp];split at A<;>try (simp at A;done)
  rename_i fs E;split at A<;>try (simp at A;done)
  rename_i fl hf;split at A<;>try (simp at A;done)
  rename_i n hn;split at A<;>try (simp at A;done)
  rename_i S0;simp at A;obtain⟨rfl,rfl⟩:=A;have C:=D x (by simp);simp only[ag₀,al₀]at g;generalize B x=a at C g;generalize h x=c at C ⊢;cases C<;>simp only[aJ]at g<;>try (simp at g;done)
  rename_i i o p hp;simp at g;subst g;refine⟨.pointer<|some ⟨p.b,p.s+(o+fl.offset),none⟩,bG ?_,.ptr i _ p hp⟩;simp only[Instr.fieldAt,Sem.run_bind,run_underlying E,Result.andThen_ok,hf,Instr.sureAddr,Sem.run_pure,fieldPlace,aj hn,Sem.run_ite];rw[if_neg byO];simp[dM,Nat.add_assoc]
 case field t x f=>
  simp only[execOp];split at A<;>try (simp at A;done)
  rename_i fs E;split at A<;>try (simp at A;done)
  rename_i fl hf;split at A<;>try (simp at A;done)
  rename_i n agg hn b0;simp at A;obtain⟨rfl,rfl⟩:=A;have C:=D x (by simp);simp only[ag₀,al₀]at g;generalize B x=a at C g;generalize h x=c at C ⊢;cases C<;>simp only[aJ]at g<;>try (simp at g;done)
  rename_i cs M c0 T;obtain⟨G,F,L⟩:∃G,(if agg then(if fl.offset+n<=M.size then some (Value.agg<|M.extract fl.offset<|fl.offset+n) else none) else M[fl.offset]?)=some G/\VRel φ v G:=yd c0 T g;refine⟨G,bG ?_,L⟩;simp only[Instr.field,Sem.run_bind,run_underlying E,Result.andThen_ok,hf,asAgg,Sem.run_pure,Bu hn b0 F]
 case indexAddr t x i=>
  simp only[execOp];split at A
  next e E=>
   simp only[aa₀,ad₀,ROp.l.injEq]at A;obtain⟨sz,V,rfl,rfl⟩:=A;have C:=D x (by simp);have Q:=D i (by simp);simp only[ag₀,al₀]at g;generalize B x=a at C g;generalize h x=c at C ⊢;generalize B i=b at Q g;generalize h i=d at Q ⊢;cases Q<;>cases C<;>simp only[aJ]at g<;>try (simp at g;done)
   next k n j o l c p hp=>
    split at g
    next W=>
     simp at g;subst g;refine⟨.pointer<|some ⟨p.b,p.s+(o+n.toNat*sz),none⟩,bG ?_,.ptr j _ p hp⟩;simp only[Instr.indexAt,asIntOf,Sem.run_bind,Sem.run_pure,run_underlying E,Result.andThen_ok,Sem.run_ite,if_pos W,aj V];simp[dM,Nat.add_assoc]
    .simp at g
   next k n j o l c z p o' c' hp hc K ho hn=>
    split at g
    next W=>
     simp at g;subst g;obtain rfl:o'=o:=ho.resolve_right byO;refine⟨.pointer<|some ⟨p.b,p.s+(o'+n.toNat*sz),none⟩,bG ?_,.ptr j _ p hp⟩;simp only[Instr.indexAt,asIntOf,Sem.run_bind,Sem.run_pure,run_underlying E,Result.andThen_ok,Sem.run_ite,if_pos W,aj V];simp[dM,Nat.add_assoc]
    .simp at g
  next m e E=>
   simp only[aa₀,ad₀,ROp.l.injEq]at A;obtain⟨sz,V,rfl,rfl⟩:=A;have C:=D x (by simp);have Q:=D i (by simp);simp only[ag₀,al₀]at g;generalize B x=a at C g;generalize h x=c at C ⊢;generalize B i=b at Q g;generalize h i=d at Q ⊢;cases Q<;>cases C<;>simp only[aJ]at g<;>try (simp at g;done)
   rename_i k n j o p hp;split at g
   next W=>
    simp at g;subst g;refine⟨.pointer<|some ⟨p.b,p.s+(o+n.toNat*sz),none⟩,bG ?_,.ptr j _ p hp⟩;simp only[Instr.indexAt,asIntOf,Sem.run_bind,Sem.run_pure,run_underlying E,Result.andThen_ok,Sem.run_ite,Instr.sureAddr,if_pos W,aj V];simp[dM,Nat.add_assoc]
   .simp at g
  .simp at A
 case index t x i=>
  simp only[execOp];split at A
  next m e E=>
   split at A<;>try (simp at A;done)
   rename_i sz agg V b0;simp at A;obtain⟨rfl,rfl⟩:=A;have C:=D x (by simp);have Q:=D i (by simp);simp only[ag₀,al₀]at g;generalize B x=a at C g;generalize h x=c at C ⊢;generalize B i=b at Q g;generalize h i=d at Q ⊢;cases Q<;>cases C<;>simp only[aJ]at g<;>try (simp at g;done)
   rename_i k n cs M c0 T;split at g
   next W=>
    obtain⟨G,F,L⟩:∃G,(if agg then(if n.toNat*sz+sz<=M.size then some (Value.agg<|M.extract (n.toNat*sz)<|n.toNat*sz+sz) else none) else M[n.toNat*sz]?)=some G/\VRel φ v G:=yd c0 T g;refine⟨G,bG ?_,L⟩;simp only[Instr.index,asIntOf,Sem.run_bind,Sem.run_pure,run_underlying E,Result.andThen_ok,Sem.run_ite,if_pos W,aj V,Bu V b0 F]
   .simp at g
  next E=>
   simp at A;obtain⟨rfl,rfl⟩:=A;have C:=D x (by simp);have Q:=D i (by simp);simp only[ag₀,al₀]at g;generalize B x=a at C g;generalize h x=c at C ⊢;generalize B i=b at Q g;generalize h i=d at Q ⊢;cases Q<;>cases C<;>simp only[aJ]at g<;>try (simp at g;done)
   rename_i k n s;split at g
   next W=>
    simp only[aa₀]at g;obtain⟨u,U,rfl⟩:=g;refine⟨_,bG ?_,.int _ _⟩;simp only[Instr.index,asIntOf,Sem.run_bind,Sem.run_pure,run_underlying E,Result.andThen_ok,if_pos W,U]
   .simp at g
  .simp at A
 case extract t i=>
  simp at A;obtain⟨rfl,rfl⟩:=A;simp only[execOp];have C:=D t (by simp);simp only[ag₀,al₀]at g;generalize B t=a at C g;generalize h t=c at C ⊢;cases C<;>simp only[aJ]at g<;>try (simp at g;done)
  rename_i cs M c0 T;have x0:i<M.size:=by rw[<-c0];exact(Array.getElem?_eq_some_iff.1 g).1
  have F:M[i]?=some M[i]:=Array.getElem?_eq_getElem x0;exact⟨M[i],bG (by simp[Instr.extract,F]),T i _ _ g F⟩
 case typeAssert x xt t ok=>
  cases ok<;>try (simp at A;done)
  split at A<;>try (simp at A;done)
  rename_i fs i E Q;split at A<;>try (simp at A;done)
  rename_i cs V;split at A<;>try (simp at A;done)
  rename_i y0;simp at A;obtain⟨rfl,rfl⟩:=A;have C:=D x (by simp);simp only[ag₀,al₀]at g;simp only[execOp];generalize B x=xa at g C;generalize h x=xc at C ⊢;have k0:∀{a b:Value} (y:Bool),VRel φ a b->VRel φ (.tuple #[a,.bool y]) (.tuple #[b,.bool y]):=by
   intro a b y s0;refine .tuple _ _ rfl (λj u v E hv=>?_)
   match j,E,hv with
   | 0,E,hv=>simp at E hv;subst E hv;exact s0
   | 1,E,hv=>simp at E hv;subst E hv;exact .bool y
   | j+2,E,_=>simp at E
  cases C<;>simp only[aJ]at g<;>try (simp at g;done)
  next u v v' hv=>
   cases v<;>simp only[aJ]at g<;>try (simp at g;done)
   split at g
   .rename_i e;subst e
    simp at g;subst g;refine⟨_,bG ?_,k0 true hv⟩;simp only[Instr.typeAssert,Sem.run_bind,run_underlying E,Result.andThen_ok,if_true,Sem.run_pure]
   .simp at g
  .simp at g;subst g
   refine⟨_,bG ?_,k0 false (b:=.agg cs)<|.agg _ _ rfl λj x y F L=>?_⟩
   .simp only[Instr.typeAssert,Sem.run_bind,run_underlying E,Result.andThen_ok,if_true,cL Q V,Sem.run_pure]
   .rw[F]at L;cases L
    exact(LRel.arr.1<|cT φ y0).2 j x x F F
 case call c=>
  obtain⟨h0,args,o0⟩:=c;cases h0<;>try (simp at A;done)
  rename_i b;rw[oJ];cases b<;>try (simp at A;done)
  case append=>simp only at A;repeat' (first|(simp at A;done)|split at A)
  case copy=>simp only at A;repeat' (first|(simp at A;done)|split at A|(simp only[aa₀]at A;obtain⟨z,_,A⟩:=A))
  case len=>
   simp only at A;split at A<;>try (simp at A;done)
   rename_i t x ht C;have l0:args.map h=#[h x]:=by
    have:args=#[x]:=by rw[<-Array.toArray_toList (xs:=args),C]
    rw[this];simp
   rw[l0];simp only[builtin];split at A<;>try (simp at A;done)
   next E=>
    simp at A;obtain⟨rfl,rfl⟩:=A;have X:=D x (by simp);simp only[ag₀,al₀]at g;generalize B x=a at X g;generalize h x=c at X ⊢;cases X<;>simp only[aJ]at g<;>try (simp at g;done)
    simp at g;subst g;exact⟨_,bG (by simp[Builtin.len_,ht,run_underlying E,goInt]),.int _ _⟩
   next e E=>
    simp at A;obtain⟨rfl,rfl⟩:=A;have X:=D x (by simp);simp only[ag₀,al₀]at g;generalize B x=a at X g;generalize h x=c at X ⊢;cases X<;>simp only[aJ]at g<;>try (simp at g;done)
    all_goals (simp at g;subst g;exact⟨_,bG (by simp[Builtin.len_,ht,run_underlying E,goInt]),.int _ _⟩)
   next n e E=>
    simp at A;obtain⟨rfl,rfl⟩:=A;simp only[ag₀,al₀,aJ,ab₀]at g;subst g;exact⟨_,bG (by simp[Builtin.len_,ht,run_underlying E,goInt]),.int _ _⟩
  case min=>
   simp at A;obtain⟨rfl,rfl⟩:=A;simp only[builtin];have K:=LRel.map_left B h args.toList D;obtain⟨G,F,L⟩:=uY (P:=P) (w:=w) false K g;have em:(args.toList.map h).toArray=args.map h:=by rw[<-Array.toList_map,Array.toArray_toList]
   rw[em]at F;exact⟨G,bG F,L⟩
  case max=>
   simp at A;obtain⟨rfl,rfl⟩:=A;simp only[builtin];have K:=LRel.map_left B h args.toList D;obtain⟨G,F,L⟩:=uY (P:=P) (w:=w) true K g;have em:(args.toList.map h).toArray=args.map h:=by rw[<-Array.toList_map,Array.toArray_toList]
   rw[em]at F;exact⟨G,bG F,L⟩
 all_goals simp at A
end
end Go.Abs
