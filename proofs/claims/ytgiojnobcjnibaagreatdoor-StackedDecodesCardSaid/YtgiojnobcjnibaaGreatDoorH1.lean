/- Lemmas. -/
import Derived.WalkKit
set_option linter.all false
def aa₀:=@Option.map_eq_some_iff
def ab₀:=@Option.some.injEq
def ac₀:=@Bool.and_eq_true
def ad₀:=@Prod.mk.injEq
def ae₀:=@Option.bind_eq_some_iff
def af₀:=@decide_eq_true_eq
def ag₀:=@List.map_cons
def ah₀:=@Bool.false_eq_true
def ai₀:=@decide_eq_false_iff_not
def aj₀:=@List.getElem?_toArray
def ak₀:=@List.length_cons
def al₀:=@List.map_nil
def am₀:=@List.cons_append
def an₀:=@List.length_nil
def ao₀:=@Option.bind_some
def ap₀:=@Int.natCast_add
def aq₀:=@Option.getD_some
def ar₀:=@Bool.or_eq_true
def as₀:=@List.length_append
def at₀:=@Array.getD_eq_getD_getElem?
def au₀:=@List.getD_eq_getElem?_getD
def av₀:=@List.getElem?_eq_none
def aw₀:=@List.getElem?_append_right
def ax₀:=@List.getElem?_append_left
def ay₀:=@List.length_map
def az₀:=@List.getElem?_map
def ba₀:=@List.append_assoc
def bb₀:=@Nat.mul_comm
def bc₀:=@List.getElem?_eq_getElem
def bd₀:=@Nat.lt_of_lt_of_le
theorem zzi{a b:Prop}(x:a)(y:b):a/\b:=⟨x,y⟩
abbrev XV:=List Go.Value
abbrev XN:=List Nat
abbrev XI:=List Int
abbrev XU:=List UInt8
theorem Wr{P:Prop}(h:P:=by simp;omega):P:=h
theorem Wc{P:Prop}(h:P:=by simp):P:=h
def Wy{P:Prop}(h:P:=by simpa using h):P:=h
def Xd{P:Prop}(h:P:=by rw[I,J];simp only[binOp,Sem.run_bind,g0,Result.andThen_ok,Sem.run_pure];rfl):P:=h
def Xj{P:Prop}(h:P:=by simpa using .bool _):P:=h
def Xu{P:Prop}(h:P:=by grind):P:=h
def Xn{P:Prop}(h:P:=by rw[I,J];simp[eqGuard]):P:=h
def Xo{P:Prop}(h:P:=by simp[Builtin.len_,ht,run_underlying E,goInt]):P:=h
theorem Wd{P:Prop}(h:P:=by decide):P:=h
def XL{P:Prop}(h:P:=by simpa using d):P:=h
def XQ{P:Prop}(h:P:=by simp only[execOp];exact bG F):P:=h
theorem XP{P:Prop}(h:P:=by simpa using g):P:=h
def XK{P:Prop}(h:P:=by simpa using c):P:=h
def X6{P:Prop}(h:P:=by simpa using b):P:=h
theorem Yf{P:Prop}(h:P:=by simp[e]):P:=h
def Ya{P:Prop}(h:P:=by simp[h.1]):P:=h
theorem Yb{P:Prop}(h:P:=by simp[d]):P:=h
theorem Yc{P:Prop}(h:P:=by simpa using e):P:=h
theorem Yk{P:Prop}(h:P:=by simpa using f):P:=h
def Yg{P:Prop}(h:P:=by simpa using l):P:=h
instance:Coe Nat Go.Value:=⟨fun n=>.int .i64 n⟩
instance:Coe Int Go.Value:=⟨fun n=>.int .i64 n⟩
instance:Coe Bool Go.Value:=⟨fun n=>.bool n⟩
namespace Go.Abs
theorem _root_.byO{P:Prop}(h:P:=by omega):P:=h
abbrev Heap:=List<|Option XV
abbrev Wq:=Value->Heap->Prop
def Heap.get(H:Heap)(i:Nat):Option XV:=
 match H[i]? with
 | some (some c)=>some c
 | _=>none
def Heap.cells(H:Heap)(i off n:Nat):Option XV:=
 match H.get i with
 | some c=>if off+n<=c.length then some ((c.drop off).take n) else none
 | none=>none
def putCells(c:XV)(off:Nat)(vs:XV):XV:=c.take off++(vs++c.drop (off+vs.length))
def Heap.put(lo:Nat)(H:Heap)(i off:Nat)(vs:XV):Option Heap:=
 match H.get i with
 | some c=>if lo<=i/\off+vs.length<=c.length then some (H.set i<|some<|putCells c off vs) else none
 | none=>none
def bU:Value->Bool
 | .bool _ | .int _ _ | .string _ | .pointer none | .slice none _ _ | .map none | .nilFunc | .nilIface | .float _ _=>true
 | .func (.func _) a b=>a.size==0&&b.size==0
 | _=>false
def gT:Value->Bool
 | .agg cs=>cs.toList.all bU
 | .tuple cs=>cs.toList.all bU
 | .iface _ v=>bU v
 | v=>bU v
def oneCells(l:XV):Bool:=l.all (·.oneCell')
inductive LOp where
 | mv
 | bin (op:BinOp)
 | eqB (neg:Bool)
 | eqA (neg:Bool) (ks:XN)
 | eqN (neg:Bool)
 | eqP (neg:Bool)
 | un (op:UnOp)
 | cvt (k:IntKind)
 | b2s
 | cvtS
 | nilChk
 | fAddr (off:Nat)
 | fld (off n:Nat) (agg:Bool)
 | iAddr (sz:Nat)
 | iAddrA (len sz:Nat)
 | idx (len sz:Nat) (agg:Bool)
 | idxS
 | ld (n:Nat) (agg:Bool)
 | len
 | lenS
 | lenC (n:Nat)
 | sl (sz:Nat) (lo hi mx:Bool)
 | slA (len sz:Nat) (lo hi mx:Bool)
 | slS (lo hi:Bool)
 | ext (i:Nat)
 | build (zero:XV) (places:List<|Nat×Nat)
 | mkF (f:FuncId) (n:Nat)
 | mkI (t:TypeId)
 | minmax (isMax:Bool)
 | pk
 | tas (t:TypeId) (zero:XV)
 | mget (ks:XN) (agg:Bool) (zero:Value) (ok:Bool)
inductive HOp where
 | call (raise:Bool)
 | callK (n:Nat)
 | alloc (zero:XV)
 | box
 | mkSl (zero:XV)
 | bSl (zero:XV) (len:Nat) (idx:XN)
 | st (n:Nat)
 | app (sz:Nat) (zero:XV)
 | appS (zero:XV)
 | cpy (sz:Nat)
 | s2b
 | fail
 | callC
 | pan
 | frz
 | mkMap
 | mset (ks:XN) (agg:Bool)
 | mclr
 | sit
 | snx
 | appN (sz:Nat) (zero:XV)
def gp:Nat->Value->Value->Option Bool
 | 0,.bool a,.bool b=>some<|a==b
 | 1,.int k a,.int k' b=>if k=k' then some (a==b) else none
 | 2,.string a,.string b=>some<|a.toList==b.toList
 | _,_,_=>none
def aN:XN->XV->XV->Option Bool
 | [],[],[]=>some true
 | k::ks,a::x,b::y=>match gp k a b,aN ks x y with
  | some p,some q=>some<|p&&q
  | _,_=>none
 | _,_,_=>none
def az(op:BinOp)(k:IntKind)(a b:Int):Option Value:=
 match op with
 | .add=>some<|.int k<|k.wrap<|a+b
 | .sub=>some<|.int k<|k.wrap<|a-b
 | .mul=>some<|.int k<|k.wrap<|a*b
 | .quo=>if b=0 then none else some (.int k<|k.wrap<|a.tdiv b)
 | .rem=>if b=0 then none else some (.int k<|a.tmod b)
 | .and=>some<|.int k<|k.wrap (BitVec.ofInt k.bits a &&& BitVec.ofInt k.bits b).toNat
 | .or=>some<|.int k<|k.wrap (BitVec.ofInt k.bits a ||| BitVec.ofInt k.bits b).toNat
 | .xor=>some<|.int k<|k.wrap (BitVec.ofInt k.bits a ^^^ BitVec.ofInt k.bits b).toNat
 | .andNot=>some<|.int k<|k.wrap (BitVec.ofInt k.bits a &&& ~~~(BitVec.ofInt k.bits b)).toNat
 | .eql=>some<|.bool<|a==b
 | .neq=>some<|.bool<|a != b
 | .lss=>some<|.bool<|a<b
 | .leq=>some<|.bool<|a<=b
 | .gtr=>some<|.bool<|a>b
 | .geq=>some<|.bool<|a>=b
 | .shl | .shr=>none
def iE(op:BinOp)(k:IntKind)(a b:Int):Option Value:=
 if b<0 then none else
 match op with
 | .shl=>some<|.int k<|k.wrap<|a*2^(min b.toNat k.bits)
 | .shr=>some<|.int k<|a.fdiv<|2^(min b.toNat k.bits)
 | _=>none
def oP(op:BinOp)(x y:ByteArray):Option Value:=
 match op with
 | .add=>if ((x.size+y.size:Nat):Int)>IntKind.i64.max then none else some (.string<|x++y)
 | .eql=>some<|.bool<|x.toList==y.toList
 | .neq=>some<|.bool !(x.toList==y.toList)
 | .lss=>some<|.bool<|Op.bytesLess x.toList y.toList
 | .leq=>some<|.bool<|Op.bytesLess x.toList y.toList || x.toList==y.toList
 | .gtr=>some<|.bool !(Op.bytesLess x.toList y.toList || x.toList==y.toList)
 | .geq=>some<|.bool !(Op.bytesLess x.toList y.toList)
 | _=>none
def aZ(op:BinOp)(x y:Value):Option Value:=
 match x,y with
 | .int k a,.int k' b=>
  match op with
  | .shl | .shr=>iE op k a b
  | _=>if k=k' then az op k a b else none
 | .string a,.string b=>oP op a b
 | _,_=>none
def toB(v:Value)(y:Nat):Option Nat:=
 match v with
 | .int _ i=>if 0<=i/\i<=y then some i.toNat else none
 | _=>none
def bounds(len cap:Nat)(lo hi mx:Bool)(args:XV):Option<|Nat×Nat×Nat:=
 let loV:=if lo then args.head? else none
 let a1:=if lo then args.tail else args
 let hiV:=if hi then a1.head? else none
 let a2:=if hi then a1.tail else a1
 let mxV:=if mx then a2.head? else none
 let m:=if mx then mxV.bind (toB · cap) else some cap
 m.bind λm=>
 let h:=if hi then hiV.bind (toB · m) else(if mx then none else some len)
 h.bind λh=>
 let l:=if lo then loV.bind (toB · h) else some 0
 l.bind λl=>some (l,h,m)
def buildL:XV->List (Nat×Nat)->XV->Option XV
 | zero,[],[]=>some zero
 | zero,(off,sz)::ps,v::vs=>if v.cells.size=sz/\off+sz<=zero.length then buildL (putCells zero off v.cells.toList) ps vs else none
 | _,_,_=>none
def ml(isMax:Bool):Value->Value->Option Value
 | .int k x,.int _ y=>some<|.int k (if isMax then(if y>x then y else x) else(if y<x then y else x))
 | _,_=>none
def bytesOf:XV->Option XU
 | []=>some []
 | .int .u8 n::r=>(bytesOf r).map (UInt8.ofNat n.toNat::·)
 | _=>none
def iJ(ks:XN)(agg:Bool):Value->Value->Option Bool
 | .agg xs,.agg ys=>if agg then aN ks xs.toList ys.toList else none
 | x,y=>if agg then none else aN ks [x] [y]
def eJ(ks:XN)(agg:Bool)(k:Value):XV->Nat->Option (Option<|Nat×Value)
 | k'::v::r,i=>match iJ ks agg k k' with
  | some true=>some<|some (i,v)
  | some false=>eJ ks agg k r<|i+1
  | none=>none
 | [],_=>some none
 | [_],_=>none
def getM(zero:Value)(ok:Bool)(r:Option<|Nat×Value):Value:=
 match r with
 | some (_,v)=>if ok then .tuple #[v,.bool true] else v
 | none=>if ok then .tuple #[zero,.bool false] else zero
def Iu(c:XV)(k v:Value):Option (Nat×Value)->XV
 | some (i,_)=>putCells c (2*i) [k,v]
 | none=>c++[k,v]
def aG:LOp->XV->Heap->Option Value
 | .mv,[x],_=>some x
 | .bin op,[x,y],_=>aZ op x y
 | .eqB neg,[.bool a,.bool b],_=>some<|.bool<|(a==b) != neg
 | .eqA neg ks,[.agg xs,.agg ys],_=>(aN ks xs.toList ys.toList).map λb=>.bool<|b != neg
 | .eqN neg,[.slice a _ _,.slice none _ _],_=>some<|.bool<|a.isNone != neg
 | .eqP neg,[.pointer a,.pointer none],_=>some<|.bool<|a.isNone != neg
 | .un .not,[.bool b],_=>some<|.bool !b
 | .un .neg,[.int k n],_=>some<|.int k<|k.wrap<|0-n
 | .un .xor,[.int k n],_=>az .xor k (if k.signed then -1 else k.max) n
 | .cvt k,[.int _ n],_=>some<|.int k<|k.wrap n
 | .cvtS,[.string s],_=>some<|.string s
 | .b2s,[.slice none _ _],_=>some<|.string .empty
 | .b2s,[.slice (some a) len _],H=>((H.cells a.block a.off len).bind bytesOf).map λl=>.string ⟨l.toArray⟩
 | .nilChk,[.pointer<|some a],_=>some<|.pointer<|some a
 | .nilChk,[.func (.func f) x y],_=>some<|.func (.func f) x y
 | .fAddr off,[.pointer<|some ⟨i,o,none⟩],_=>some<|.pointer<|some ⟨i,o+off,none⟩
 | .fld off n agg,[.agg cs],_=>if agg then(if off+n<=cs.size then some (.agg<|cs.extract off<|off+n) else none) else cs[off]?
 | .iAddr sz,[.slice (some ⟨b,o,_⟩) l _,.int _ i],_=>if 0<=i/\i<l then some (.pointer<|some ⟨b,o+i.toNat*sz,none⟩) else none
 | .iAddrA len sz,[.pointer<|some ⟨b,o,none⟩,.int _ i],_=>if 0<=i/\i<len then some (.pointer<|some ⟨b,o+i.toNat*sz,none⟩) else none
 | .idx len sz agg,[.agg cs,.int _ i],_=>
  if 0<=i/\i<len then(if agg then(if i.toNat*sz+sz<=cs.size then some (.agg<|cs.extract (i.toNat*sz)<|i.toNat*sz+sz) else none) else cs[i.toNat*sz]?) else none
 | .idxS,[.string s,.int _ i],_=>if 0<=i then(s[i.toNat]?).map λb=>.int .u8 b.toNat else none
 | .ld n agg,[.pointer<|some ⟨b,o,none⟩],H=>if agg then(H.cells b o n).map λl=>.agg l.toArray else(H.cells b o 1).bind (·.head?)
 | .len,[.slice _ n _],_=>some<|.int .i64 n
 | .lenS,[.string s],_=>some<|.int .i64 s.size
 | .lenC n,[_],_=>some<|.int .i64 n
 | .sl _ lo hi mx,.slice none len cap::args,_=>(bounds len cap lo hi mx args).map λ(l,h,m)=>.slice none (h-l)<|m-l
 | .sl sz lo hi mx,.slice (some ⟨b,o,none⟩) len cap::args,_=>
  (bounds len cap lo hi mx args).map λ(l,h,m)=>.slice (some ⟨b,if m=l then o else o+l*sz,none⟩) (h-l)<|m-l
 | .sl sz lo hi mx,.slice (some ⟨b,o,some z⟩) len cap::args,_=>
  if z=sz then(bounds len cap lo hi mx args).map λ(l,h,m)=>
   if mx&&cap != 0 then .slice (some ⟨b,if m=l then o else o+l*sz,none⟩) (h-l) (m-l) else .slice (some ⟨b,o+l*sz,some z⟩) (h-l) (m-l)
  else none
 | .slA len sz lo hi mx,.pointer (some ⟨b,o,none⟩)::args,_=>
  (bounds len len lo hi mx args).map λ(l,h,m)=>.slice (some ⟨b,if m=l then o else o+l*sz,none⟩) (h-l)<|m-l
 | .slS lo hi,.string s::args,_=>(bounds s.size s.size lo hi false args).map λ(l,h,_)=>.string<|s.extract l h
 | .ext i,[.tuple vs],_=>vs[i]?
 | .build zero places,vs,_=>(buildL zero places vs).map λl=>.agg l.toArray
 | .mkF f n,vs,_=>some<|.func (.func f) (vs.take n).toArray (vs.drop n).toArray
 | .mkI t,[x],_=>some<|.iface t x
 | .minmax isMax,x::r,_=>match x with
  | .int _ _=>r.foldlM (ml isMax) x
  | _=>none
 | .pk,[.bool c,a,b],_=>some (if c then a else b)
 | .tas t z,[.iface u<|.agg cs],_=>some (if t=u then .tuple #[.agg cs,.bool true] else .tuple #[.agg z.toArray,.bool false])
 | .tas _ z,[.nilIface],_=>some<|.tuple #[.agg z.toArray,.bool false]
 | .mget ks agg z ok,[.map none,k],_=>(iJ ks agg k k).map λ_=>getM z ok none
 | .mget ks agg z ok,[.map<|some i,k],H=>(H.get i).bind λc=>(iJ ks agg k k).bind λ_=>(eJ ks agg k c 0).map<|getM z ok
 | _,_,_=>none
abbrev dd:=Nat->FuncId->XV->Heap->Option (Value×Heap)
def cT:Nat:=4294967296
def bK(zero:XV)(n:Nat):XV:=(List.replicate n zero).flatten
def aV(lo:Nat)(sz:Nat)(s:Value)(new:XV)(n:Nat)(H:Heap):Option<|Value×Heap:=
 match s with
 | .slice base len cap=>
  if len+n<=cap then
   match base with
   | none=>some (.slice none (len+n) cap,H)
   | some ⟨b,o,sp⟩=>if sp=none\/sp=some sz then(H.put lo b (o+len*sz) new).map λH'=>(.slice (some ⟨b,o,sp⟩) (len+n) cap,H') else none
  else if cT<len+n then none
  else match base with
   | none=>if len=0 then some (.slice (some ⟨H.length,0,some sz⟩) n n,H++[some new]) else none
   | some ⟨b,o,none⟩=>(H.cells b o<|len*sz).map λold=>(.slice (some ⟨H.length,0,some sz⟩) (len+n)<|len+n,H++[some<|old++new])
   | some ⟨b,o,some z⟩=>
    if z=sz/\lo<=b then(H.cells b o<|len*sz).map λold=>(.slice (some ⟨H.length,0,some sz⟩) (len+n)<|len+n,(H.set b none)++[some<|old++new])
    else none
 | _=>none
def lT(lo:Nat):XV->Heap->Option (Value×Heap)
 | [.slice (some ⟨b,o,none⟩) n c],H=>match H.get b with
  | some _=>if lo<=b then some (.slice (some ⟨b,o,none⟩) n c,H) else none
  | none=>none
 | _,_=>none
def lX(lo:Nat)(ks:XN)(agg:Bool):XV->Heap->Option (Value×Heap)
 | [.map<|some i,k,v],H=>if lo<=i then
   match H.get i with
   | some c=>match iJ ks agg k k with
    | some _=>match eJ ks agg k c 0 with
     | some r=>some (undef,H.set i<|some<|Iu c k v r)
     | none=>none
    | none=>none
   | none=>none
  else none
 | _,_=>none
def lW(lo:Nat):XV->Heap->Option (Value×Heap)
 | [.map none],H=>some (undef,H)
 | [.map<|some i],H=>if lo<=i then
   match H.get i with
   | some _=>some (undef,H.set i<|some [])
   | none=>none
  else none
 | _,_=>none
def oe(lo:Nat):XV->Heap->Option (Value×Heap)
 | [.pointer<|some ⟨i,_,some _⟩],H=>if lo<=i then
   match H.get i with
   | some [.string s,.int .i64<|.ofNat p]=>
    if p<s.size then some (.tuple #[.bool true,.int .i64 p,.int .i32 (Utf8.decode s p).1],H.set i<|some [.string s,.int .i64<|.ofNat<|p+(Utf8.decode s p).2])
    else some (.tuple #[.bool false],H)
   | _=>none
  else none
 | _,_=>none
def aT:Value->Option Nat
 | .pointer (some a)=>some a.block
 | .slice (some a) _ _=>some a.block
 | .map (some i)=>some i
 | _=>none
noncomputable def yes(p:Prop):Bool:=@decide p<|Classical.propDecidable p
theorem oi{p:Prop}:yes p=true↔p:=by unfold yes;exact @decide_eq_true_iff p<|Classical.propDecidable p
noncomputable def iI(H H':Heap)(v:Value):Bool:=match aT v with
 | some i=>yes (∃c,H.get i=some c/\H'.get i=some c)
 | none=>true
noncomputable def di(callA:dd)(lo n:Nat)(vs:XV)(H:Heap):Option<|Value×Heap:=match vs.drop n with
 | .func (.func f) first cap::args=>match callA lo f (first.toList++args++cap.toList) H with
  | some (v,H')=>if (vs.take n).all (iI H H') then some (v,H') else none
  | none=>none
 | _=>none
def IL{H H':Heap}{v:Value}{i:Nat}(h:iI H H' v=true)(d:aT v=some i):H'.get i=H.get i:=by unfold iI at h;rw[d]at h;have⟨c,a,b⟩:=oi.1 h;rw[a,b]
noncomputable def hsem(callA:dd)(lo:Nat):HOp->XV->Heap->Option (Value×Heap)
 | .callK n,vs,H=>di callA lo n vs H
 | .call raise,.func (.func f) first cap::args,H=>callA (if raise then H.length else lo) f (first.toList++args++cap.toList) H
 | .callC,.func (.func f) first cap::args,H=>callA lo f (first.toList++args++cap.toList) H
 | .alloc zero,[],H=>some (.pointer<|some ⟨H.length,0,none⟩,H++[some zero])
 | .box,[v],H=>some (.pointer<|some ⟨H.length,0,none⟩,H++[some v.cells.toList])
 | .mkSl zero,[.int _ l,.int _ c],H=>
  if 0<=l/\l<=c/\c<=cT then some (.slice (some ⟨H.length,0,none⟩) l.toNat c.toNat,H++[some<|bK zero c.toNat]) else none
 | .bSl zero len idx,vs,H=>
  (buildL (bK zero len) (idx.map λi=>(i*zero.length,zero.length)) vs).map λl=>(.slice (some ⟨H.length,0,none⟩) len len,H++[some l])
 | .st n,[.pointer<|some ⟨b,o,none⟩,v],H=>if v.cells.size=n/\oneCells v.cells.toList then(H.put lo b o v.cells.toList).map λH'=>(undef,H') else none
 | .app sz _,[s,.slice none n _],H=>if n=0 then aV lo sz s [] 0 H else none
 | .app sz _,[s,.slice (some a) n _],H=>(H.cells a.block a.off<|n*sz).bind λnew=>if oneCells new then aV lo sz s new n H else none
 | .appS _,[s,.string x],H=>aV lo 1 s (x.data.toList.map λb=>.int .u8 b.toNat) x.size H
 | .appN sz zero,[s,.int _ n],H=>if 0<=n/\n<=1048576 then aV lo sz s (bK zero n.toNat) n.toNat H else none
 | .s2b,[.string x],H=>some (.slice (some ⟨H.length,0,some 1⟩) x.size x.size,H++[some<|x.data.toList.map λb=>.int .u8 b.toNat])
 | .frz,vs,H=>lT lo vs H
 | .mkMap,vs,H=>if vs.length<=1 then some (.map<|some H.length,H++[some []]) else none
 | .mset ks agg,vs,H=>lX lo ks agg vs H
 | .mclr,vs,H=>lW lo vs H
 | .sit,[.string s],H=>some (.pointer<|some ⟨H.length,0,some 0⟩,H++[some [.string s,.int .i64<|.ofNat 0]])
 | .snx,vs,H=>oe lo vs H
 | .cpy _,[.slice none n _,.slice _ _ _],H=>if n=0 then some (.int .i64 0,H) else none
 | .cpy _,[.slice (some _) _ _,.slice none m _],H=>if m=0 then some (.int .i64 0,H) else none
 | .cpy sz,[.slice (some d) n _,.slice (some a) m _],H=>
  (H.cells a.block a.off<|min m n*sz).bind λnew=>if oneCells new then(H.put lo d.block d.off new).map λH'=>(.int .i64 (min m n:Nat),H') else none
 | _,_,_=>none
inductive ROp where
 | l (o:LOp)
 | h (o:HOp)
def fB(P:Program)(t:TypeId):Option Nat:=(P.info? t).map (·.size)
def zeroOf(P:Program)(t:TypeId):Option XV:=
 match P.info? t with
 | some i=>match i.zero with
  | some z=>if z.cells.size=i.size/\z.cells.toList.all bU then some z.cells.toList else none
  | none=>none
 | none=>none
def kL(P:Program)(t:TypeId):Bool:=
 match P.info? t with
 | some i=>i.bytes<=4096
 | none=>false
def jz(P:Program)(t:TypeId):Option Bool:=
 match P.underlying t with
 | some (.struct _)|some (.array _ _)=>some true
 | some _=>some false
 | none=>none
def iP(P:Program)(t:TypeId):Option Nat:=
 match P.underlying t with
 | some .bool=>some 0
 | some (.int _)=>some 1
 | some .string=>some 2
 | _=>none
def fY(P:Program):Nat->List Field->Option XN
 | _,[]=>some []
 | n, f :: r => if f.name = "_" ∨ f.offset ≠ n then none else
  match iP P f.type,fY P (n+1) r with
  | some k,some ks=>some (k::ks)
  | _,_=>none
def jl(P:Program)(t:TypeId):Option XN:=
 match P.underlying t with
 | some (.struct fs)=>if P.stoodInHeld t then none else
  match fY P 0 fs.toList with
  | some ks=>if fB P t=some ks.length/\0<ks.length then some ks else none
  | none=>none
 | _=>none
def gi(P:Program):Nat->List Field->Option XN
 | _,[]=>some []
 | n, f :: r => if f.name = "_" ∨ f.offset ≠ n then none else
  match iP P f.type with
  | some k=>match gi P (n+1) r with
   | some ks=>some (k::ks)
   | none=>none
  | none=>match jl P f.type with
   | some js=>match gi P (n+js.length) r with
    | some ks=>some (js++ks)
    | none=>none
   | none=>none
def nb(P:Program)(t:TypeId):Option XN:=
 match P.underlying t with
 | some (.struct fs)=>if P.stoodInHeld t || P.eqGuardType P.depth t then none else gi P 0 fs.toList
 | _=>none
def keyOf(P:Program)(t:TypeId):Option<|XN×Bool:=
 match iP P t with
 | some k=>some ([k],false)
 | none=>match P.underlying t with
  | some (.struct fs)=>if P.stoodInHeld t then none else(fY P 0 fs.toList).map λks=>(ks,true)
  | some (.array n e)=>match iP P e with
   | some k=>if fB P e=some 1 then some (List.replicate n k,true) else none
   | none=>none
  | _=>none
def zeroV(P:Program)(t:TypeId):Option Value:=
 match P.info? t with
 | some i=>match i.zero with
  | some z=>if gT z=true then some z else none
  | none=>none
 | none=>none
def JF(P:Program)(op:BinOp)(t:TypeId):Option LOp:=
 match P.underlying t with
 | some (.int _)|some .string=>some<|.bin op
 | some .bool=>match op with | .eql=>some (.eqB false) | .neq=>some (.eqB true)|_=>none
 | some (.struct _)|some (.array _ _)=>
  match op with
  | .eql=>(nb P t).map<|.eqA false
  | .neq=>(nb P t).map<|.eqA true
  | _=>none
 | some (.slice _)=>match op with | .eql=>some (.eqN false) | .neq=>some (.eqN true)|_=>none
 | some (.pointer _)=>match op with | .eql=>some (.eqP false) | .neq=>some (.eqP true)|_=>none
 | _=>none
def opts(l:List<|Option Operand):List Operand:=l.filterMap id
def iq(P:Program):List Field->Option (List<|Nat×Nat)
 | []=>some []
 | f::r=>(fB P f.type).bind λn=>(iq P r).map ((f.offset,n)::·)
def jr(ps:List<|Nat×Nat):XN->Option (List<|Nat×Nat)
 | []=>some []
 | i::r=>match ps[i]? with
  | some p=>(jr ps r).map (p::·)
  | none=>none
def an(P:Program)(op:Op):Option<|ROp×List Operand:=
 match op with
 | .move x | .assign x=>some (.l .mv,[x])
 | .pick c a b=>some (.l .pk,[c,a,b])
 | .alloc t=>(zeroOf P t).map λz=>(.h<|.alloc z,[])
 | .box _ x=>some (.h .box,[x])
 | .build t parts=>
  match P.underlying t,zeroOf P t with
  | some<|.struct fs,some z=>(iq P fs.toList).bind λps=>(jr ps (parts.toList.map (·.1))).map λpl=>(.l<|.build z pl,parts.toList.map (·.2))
  | some<|.array _ e,some z=>(fB P e).map λn=>(.l<|.build z<|parts.toList.map λp=>(p.1*n,n),parts.toList.map (·.2))
  | _,_=>none
 | .buildSlice t len parts=>
  match P.underlying t with
  | some (.slice e)=>(zeroOf P e).bind λz=>if 0<z.length/\len*z.length<=2^24 then some (.h (.bSl z len (parts.toList.map (·.1))),parts.toList.map (·.2)) else none
  | _=>none
 | .load t a=>match jz P t,fB P t with
  | some agg,some n=>some (.l<|.ld n agg,[a])
  | _,_=>none
 | .store t a x=>(fB P t).map λn=>(.h<|.st n,[a,x])
 | .nilCheck x=>some (.l .nilChk,[x])
 | .binOp op t x y _=>(JF P op t).map λl=>(.l l,[x,y])
 | .unOp op _ x=>some (.l<|.un op,[x])
 | .convert src dst x=>
  match P.underlying src,P.underlying dst with
  | some<|.int _,some (.int k)=>some (.l<|.cvt k,[x])
  | some<|.slice e,some .string=>match P.underlying e with
   | some (.int .u8)=>some (.l .b2s,[x])
   | _=>none
  | some .string,some .string=>some (.l .cvtS,[x])
  | some .string,some (.slice e)=>match P.underlying e with
   | some (.int .u8)=>some (.h .s2b,[x])
   | _=>none
  | some<|.slice _,some (.slice e)=>match P.underlying e with
   | some (.int .u8)=>if src=dst then some (.h .frz,[x]) else none
   | _=>none
  | _,_=>none
 | .makeInterface t x=>match P.underlying t with
  | some (.interface _)=>none
  | some _=>some (.l<|.mkI t,[x])
  | none=>none
 | .makeFunc (.func f) first captured=>some (.l<|.mkF f first.size,first.toList++captured.toList)
 | .makeSlice t l c=>
  match P.underlying t with
  | some (.slice e)=>(zeroOf P e).bind λz=>if 0<z.length/\kL P e=true then some (.h<|.mkSl z,[l,c]) else none
  | _=>none
 | .slice t x lo hi mx=>
  match P.underlying t with
  | some (.array n e)=>(fB P e).map λsz=>(.l<|.slA n sz lo.isSome hi.isSome mx.isSome,x::opts [lo,hi,mx])
  | some (.slice e)=>(fB P e).map λsz=>(.l<|.sl sz lo.isSome hi.isSome mx.isSome,x::opts [lo,hi,mx])
  | some .string=>if mx.isSome then none else some (.l<|.slS lo.isSome hi.isSome,x::opts [lo,hi])
  | _=>none
 | .fieldAddr s x f=>
  match P.underlying s with
  | some (.struct fs)=>match fs[f]? with
   | some fl=>match fB P fl.type with
    | some n=>if 0<n then some (.l<|.fAddr fl.offset,[x]) else none
    | none=>none
   | none=>none
  | _=>none
 | .field t x f=>
  match P.underlying t with
  | some (.struct fs)=>match fs[f]? with
   | some fl=>match fB P fl.type,jz P fl.type with
    | some n,some agg=>some (.l<|.fld fl.offset n agg,[x])
    | _,_=>none
   | none=>none
  | _=>none
 | .indexAddr t x i=>
  match P.underlying t with
  | some (.slice e)=>(fB P e).map λsz=>(.l<|.iAddr sz,[x,i])
  | some (.array n e)=>(fB P e).map λsz=>(.l<|.iAddrA n sz,[x,i])
  | _=>none
 | .index t x i=>
  match P.underlying t with
  | some (.array n e)=>match fB P e,jz P e with
   | some sz,some agg=>some (.l<|.idx n sz agg,[x,i])
   | _,_=>none
  | some .string=>some (.l .idxS,[x,i])
  | _=>none
 | .extract t i=>some (.l<|.ext i,[t])
 | .call c=>
  match c.callee with
  | .value f=>some (.h<|.call false,f::c.args.toList)
  | .builtin .len=>
   match c.argTypes[0]?,c.args.toList with
   | some t,[x]=>match P.underlying t with
    | some .string=>some (.l .lenS,[x])
    | some (.slice _)=>some (.l .len,[x])
    | some (.array n _)=>some (.l<|.lenC n,[x])
    | _=>none
   | _,_=>none
  | .builtin .append=>
   match c.argTypes[0]?,c.argTypes[1]?,c.args.toList with
   | some t,some u,[s,x]=>match P.underlying t,P.underlying u with
    | some<|.slice e,some (.slice _)=>match fB P e,zeroOf P e with
     | some sz,some z=>if 0<sz/\z.length=sz/\kL P e=true then some (.h<|.app sz z,[s,x]) else none
     | _,_=>none
    | some<|.slice e,some .string=>match fB P e,zeroOf P e with
     | some 1,some z=>if z.length=1/\kL P e=true then some (.h<|.appS z,[s,x]) else none
     | _,_=>none
    | some<|.slice e,some (.int _)=>match fB P e,zeroOf P e with
     | some sz,some z=>if 0<sz/\z.length=sz/\kL P e=true/\oneCells z=true then some (.h<|.appN sz z,[s,x]) else none
     | _,_=>none
    | _,_=>none
   | _,_,_=>none
  | .builtin .copy=>
   match c.argTypes[0]?,c.args.toList with
   | some t,[d,s]=>match P.underlying t with
    | some (.slice e)=>(fB P e).map λsz=>(.h<|.cpy sz,[d,s])
    | _=>none
   | _,_=>none
  | .builtin .clear=>
   match c.argTypes[0]?,c.args.toList with
   | some t,[m]=>match P.underlying t with
    | some (.map _ _)=>some (.h .mclr,[m])
    | _=>none
   | _,_=>none
  | .builtin .min=>some (.l<|.minmax false,c.args.toList)
  | .builtin .max=>some (.l<|.minmax true,c.args.toList)
  | _=>none
 | .panic x=>some (.h .pan,[x])
 | .makeMap t r=>match r with
  | none=>match P.underlying t with
   | some (.map _ _)=>some (.h .mkMap,[])
   | _=>none
  | some _=>none
 | .lookup t x i ok=>match P.underlying t with
  | some (.map k e)=>match keyOf P k,zeroV P e with
   | some (ks,agg),some z=>some (.l<|.mget ks agg z ok,[x,i])
   | _,_=>none
  | _=>none
 | .mapUpdate t m k v=>match P.underlying t with
  | some (.map kt _)=>match keyOf P kt with
   | some (ks,agg)=>some (.h<|.mset ks agg,[m,k,v])
   | none=>none
  | _=>none
 | .range t x=>match P.underlying t with
  | some .string=>some (.h .sit,[x])
  | _=>none
 | .next x isS=>if isS then some (.h .snx,[x]) else none
 | .typeAssert x _ t ok=>match ok,P.underlying t,P.info? t with
  | true,some<|.struct _,some i=>match i.zero with
   | some (.agg cs)=>if cs.toList.all bU then some (.l<|.tas t cs.toList,[x]) else none
   | _=>none
  | _,_,_=>none
 | _=>none
def resolve(P:Program)(op:Op):ROp×List Operand:=(an P op).getD (.h .fail,[])
structure Place where
 b:Nat
 s:Nat
 n:Nat
 k:Nat
abbrev Map:=Nat->Option Place
def Place.is(p:Place)(k:Nat):Option Place:=if p.k=k then some p else none
def Map.of(φ:Map)(k:Nat):Map:=λi=>(φ i).bind (Place.is · k)
theorem Map.of_some{φ:Map}{k i:Nat}{p:Place}:φ.of k i=some p↔φ i=some p/\p.k=k:=by
 unfold Map.of Place.is;cases h:φ i with
 | none=>simp
 | some q=>
  simp only[ao₀];by_cases e:q.k=k
  .rw[if_pos e];simp;rintro rfl;exact e
  .rw[if_neg e];simp;rintro rfl;exact e
theorem Map.of_lt{φ:Map}{k i:Nat}{p:Place}(h:φ.of k i=some p):φ i=some p:=(Map.of_some.1 h).1
abbrev Map.c(φ:Map):Map:=φ.of 0
def Map.le(φ ψ:Map):Prop:=∀i p,φ i=some p->ψ i=some p
theorem Map.le_refl(φ:Map):φ.le φ:=λ_ _ h=>h
theorem Map.of_le{φ ψ:Map}(h:φ.le ψ)(k:Nat):(φ.of k).le<|ψ.of k:=λi p e=>by
 have⟨a,b⟩:=Map.of_some.1 e;exact Map.of_some.2 ⟨h i p a,b⟩
theorem Map.le_trans{φ ψ a:Map}(h:φ.le ψ)(k:ψ.le a):φ.le a:=λi p e=>k i p<|h i p e
inductive VRel (φ:Map):Value->Value->Prop where
 | bool (b:Bool):VRel φ (.bool b)<|.bool b
 | int (k:IntKind) (n:Int):VRel φ (.int k n)<|.int k n
 | float (k:FloatKind) (n:Nat):VRel φ (.float k n)<|.float k n
 | string (s:ByteArray):VRel φ (.string s)<|.string s
 | nilPtr:VRel φ (.pointer none)<|.pointer none
 | ptr (i o:Nat) (p:Place) (h:φ.c i=some p):VRel φ (.pointer<|some ⟨i,o,none⟩)<|.pointer<|some ⟨p.b,p.s+o,none⟩
 | nilSlice (l c:Nat):VRel φ (.slice none l c)<|.slice none l c
 | slice (i o l c:Nat) (p:Place) (h:φ.c i=some p):VRel φ (.slice (some ⟨i,o,none⟩) l c)<|.slice (some ⟨p.b,p.s+o,none⟩) l c
 | sliceIn (i o l c z:Nat) (p:Place) (o' c':Nat) (h:φ.c i=some p) (hc:c<=c') (hl:l<=c) (ho:o'=o\/c=0) (hn:o'+c'*z<=p.n) :
   VRel φ (.slice (some ⟨i,o,some z⟩) l c)<|.slice (some ⟨p.b,p.s+o',none⟩) l c'
 | empty (i o z:Nat) (p:Place) (a:Addr) (h:φ.c i=some p):VRel φ (.slice (some ⟨i,o,some z⟩) 0 0)<|.slice (some a) 0 0
 | nilMap:VRel φ (.map none)<|.map none
 | map (i:Nat) (p:Place) (h:φ.of 1 i=some p):VRel φ (.map<|some i)<|.map<|some p.b
 | iter (i z:Nat) (p:Place) (h:φ.of 2 i=some p):VRel φ (.pointer<|some ⟨i,0,some z⟩)<|.pointer<|some ⟨p.b,0,none⟩
 | func (f:FuncId) (a b a' b':Array Value) (ha:a.size=a'.size) (hb:b.size=b'.size)
   (ra:∀(j:Nat) x y,a[j]?=some x->a'[j]?=some y->VRel φ x y) (rb:∀(j:Nat) x y,b[j]?=some x->b'[j]?=some y->VRel φ x y) :
   VRel φ (.func (.func f) a b)<|.func (.func f) a' b'
 | nilFunc:VRel φ .nilFunc .nilFunc
 | iface (t:TypeId) (v v':Value) (h:VRel φ v v'):VRel φ (.iface t v)<|.iface t v'
 | nilIface:VRel φ .nilIface .nilIface
 | agg (a a':Array Value) (ha:a.size=a'.size) (ra:∀(j:Nat) x y,a[j]?=some x->a'[j]?=some y->VRel φ x y):VRel φ (.agg a)<|.agg a'
 | tuple (a a':Array Value) (ha:a.size=a'.size) (ra:∀(j:Nat) x y,a[j]?=some x->a'[j]?=some y->VRel φ x y):VRel φ (.tuple a)<|.tuple a'
theorem VRel.mono{φ ψ:Map}(h:φ.le ψ){v c:Value}(r:VRel φ v c):VRel ψ v c:=by
 induction r with
 | bool b=>exact .bool b
 | int k n=>exact .int k n
 | float k n=>exact .float k n
 | string s=>exact .string s
 | nilPtr=>exact .nilPtr
 | ptr i o p e=>exact .ptr i o p<|Map.of_le h 0 _ _ e
 | nilSlice l c=>exact .nilSlice l c
 | slice i o l c p e=>exact .slice i o l c p<|Map.of_le h 0 _ _ e
 | sliceIn i o l c z p o' c' e q u x w=>exact .sliceIn i o l c z p o' c' (Map.of_le h 0 _ _ e) q u x w
 | empty i o z p a e=>exact .empty i o z p a<|Map.of_le h 0 _ _ e
 | nilMap=>exact .nilMap
 | map i p e=>exact .map i p<|Map.of_le h 1 _ _ e
 | iter i z p e=>exact .iter i z p<|Map.of_le h 2 _ _ e
 | func f a b a' j d m _ _ g y=>exact .func f a b a' j d m g y
 | nilFunc=>exact .nilFunc
 | iface t v B _ A=>exact .iface t v B A
 | nilIface=>exact .nilIface
 | agg a a' d _ g=>exact .agg a a' d g
 | tuple a a' d _ g=>exact .tuple a a' d g
def LRel(φ:Map)(l l':XV):Prop:=l.length=l'.length/\∀(j:Nat) x y,l[j]?=some x->l'[j]?=some y->VRel φ x y
theorem LRel.mono{φ ψ:Map}(h:φ.le ψ){v c:XV}(r:LRel φ v c):LRel ψ v c:=⟨r.1,λj x y a b=>(r.2 j x y a b).mono h⟩
theorem LRel.nil(φ:Map):LRel φ [] []:=⟨rfl,λj x y a=>by simp at a⟩
theorem LRel.cons{φ:Map}{x y:Value}{l l':XV}(h:VRel φ x y)(r:LRel φ l l'):LRel φ (x::l) (y::l'):=by
 refine⟨by simp[r.1],λj a b c d=>?_⟩;cases j with
 | zero=>simp at c d;subst c d;exact h
 | succ j=>simp at c d;exact r.2 j a b c d
theorem LRel.of_cons{φ:Map}{x:Value}{l l':XV}(r:LRel φ (x::l) l'):∃y r',l'=y::r'/\VRel φ x y/\LRel φ l r':=by
 cases l' with
 | nil=>have:=r.1;simp at this
 | cons y r'=>
  refine⟨y,r',rfl,r.2 0 x y rfl rfl,?_,λj a b c d=>r.2 (j+1) a b XK XL⟩;have:=r.1;simp at this;exact this
theorem LRel.of_nil{φ:Map}{l':XV}(r:LRel φ [] l'):l'=[]:=by
 cases l' with
 | nil=>rfl
 | cons y r'=>have:=r.1;simp at this
theorem LRel.append{φ:Map}{a b a' e:XV}(h:LRel φ a a')(k:LRel φ b e):LRel φ (a++b)<|a'++e:=by
 refine⟨by simp[h.1,k.1],λj x y c d=>?_⟩;by_cases f:j<a.length
 .rw[ax₀ f]at c
  rw[ax₀<|h.1▸f]at d;exact h.2 j x y c d
 .rw[aw₀ byO]at c
  rw[aw₀ (by rw[<-h.1];omega)]at d;exact k.2 (j-a.length) x y c (by rw[h.1];exact d)
theorem LRel.take{φ:Map}{a a':XV}(h:LRel φ a a')(n:Nat):LRel φ (a.take n)<|a'.take n:=by
 refine⟨Ya,λj x y b c=>?_⟩;rw[List.getElem?_take]at b c;split at b
 next d=>rw[if_pos d]at c;exact h.2 j x y b c
 .simp at b
theorem LRel.drop{φ:Map}{a a':XV}(h:LRel φ a a')(n:Nat):LRel φ (a.drop n)<|a'.drop n:=by refine⟨Ya,λj x y b c=>?_⟩;rw[List.getElem?_drop]at b c;exact h.2 _ x y b c
theorem LRel.arr{φ:Map}{a a':Array Value}:LRel φ a.toList a'.toList↔(a.size=a'.size/\∀(j:Nat) x y,a[j]?=some x->a'[j]?=some y->VRel φ x y):=by simp[LRel]
theorem LRel.putCells{φ:Map}{c c' v b:XV}(h:LRel φ c c')(k:LRel φ v b)(a:Nat):LRel φ (putCells c a v)<|putCells c' a b:=by unfold Abs.putCells;rw[<-k.1];exact(h.take a).append<|k.append<|h.drop _
theorem LRel.map_left{k:Type}{φ:Map}(f g:k->Value)(l:List k)(h:∀x ∈ l,VRel φ (f x)<|g x):LRel φ (l.map f)<|l.map g:=by refine⟨Wc,λj x y e i=>?_⟩;simp[az₀,aa₀]at e i;obtain⟨a,c,rfl⟩:=e;obtain⟨b,d,rfl⟩:=i;rw[c]at d;cases d;exact h a<|List.mem_of_getElem? c
theorem VRel.cells{φ:Map}{v c:Value}(h:VRel φ v c):LRel φ v.cells.toList c.cells.toList:=by
 have d:∀{v c:Value},VRel φ v c->LRel φ [v] [c]:=λh=>LRel.cons h<|LRel.nil φ;cases h with
 | agg a a' g j=>exact LRel.arr.2 ⟨g,j⟩
 | bool b=>exact d<|.bool b
 | int k n=>exact d<|.int k n
 | float k n=>exact d<|.float k n
 | string s=>exact d<|.string s
 | nilPtr=>exact d .nilPtr
 | ptr i o p e=>exact d<|.ptr i o p e
 | nilSlice l c=>exact d<|.nilSlice l c
 | slice i o l c p e=>exact d<|.slice i o l c p e
 | sliceIn i o l c z p o' c' e r u x w=>exact d<|.sliceIn i o l c z p o' c' e r u x w
 | empty i o z p a e=>exact d<|.empty i o z p a e
 | nilMap=>exact d .nilMap
 | map i p e=>exact d<|.map i p e
 | iter i z p e=>exact d<|.iter i z p e
 | func f a b a' m g q j y=>exact d<|.func f a b a' m g q j y
 | nilFunc=>exact d .nilFunc
 | iface t v A h=>exact d<|.iface t v A h
 | nilIface=>exact d .nilIface
 | tuple a a' g j=>exact d<|.tuple a a' g j
theorem VRel.oneCell{φ:Map}{v c:Value}(h:VRel φ v c):c.oneCell'=v.oneCell':=by cases h<;>rfl
theorem LRel.oneCells{φ:Map}{l l':XV}(r:LRel φ l l')(h:oneCells l=true):∀v ∈ l',v.oneCell'=true:=by
 intro v c;have⟨j,b⟩:=List.getElem?_of_mem c;have a:j<l.length:=by rw[r.1];exact(List.getElem?_eq_some_iff.1 b).1
 have:=r.2 j _ v (bc₀ a) b;rw[this.oneCell];exact List.all_eq_true.1 h _<|List.getElem_mem a
theorem gS(φ:Map){v:Value}(h:bU v=true):VRel φ v v:=by
 unfold bU at h;split at h
 .exact .bool _
 .exact .int _ _
 .exact .string _
 .exact .nilPtr
 .exact .nilSlice _ _
 .exact .nilMap
 .exact .nilFunc
 .exact .nilIface
 .exact .float _ _
 next f a b=>
  simp at h;exact .func f a b a b rfl rfl (λj x y c=>by simp[h.1]at c) (λj x y c=>by simp[h.2]at c)
 .simp at h
theorem cK(φ:Map){l:XV}(h:l.all bU=true):LRel φ l l:=by refine⟨rfl,λj x y a b=>?_⟩;rw[a]at b;cases b;exact gS φ<|List.all_eq_true.1 h _<|List.mem_of_getElem? a
def iS(φ:Map){v:Value}(h:gT v=true):VRel φ v v:=by
 unfold gT at h;split at h
 next c=>have⟨a,b⟩:=LRel.arr.1<|cK φ h;exact .agg c c a b
 next c=>have⟨a,b⟩:=LRel.arr.1<|cK φ h;exact .tuple c c a b
 .exact .iface _ _ _<|gS φ h
 .exact gS φ h
def NoFrz(n:Nat)(fr:Nat×Nat):Prop:=fr.1=fr.2\/n<=fr.1
theorem NoFrz.not{n:Nat}{a:Nat×Nat}(h:NoFrz n a)(o:Nat)(b:o<n):¬ (a.1<=o/\o<a.2):=by rcases h with h|h<;>omega
def iz(es:Array MapEntry):XV:=es.toList.flatMap λe=>[e.key,e.val]
def Odd(φ:Map)(k:Nat)(c:XV)(o:Option Obj):Prop:=
 (k=1/\∃es clock,o=some (.map es clock)/\LRel φ c (iz es))\/(k=2/\∃s q,o=some (.stringIter s q)/\c=[.string s,.int .i64<|.ofNat q])
theorem Odd.mono{φ ψ:Map}(h:φ.le ψ){k:Nat}{c:XV}{o:Option Obj}(r:Odd φ k c o):Odd ψ k c o:=by
 rcases r with ⟨a,d,b,e,r⟩|r
 .exact .inl ⟨a,d,b,e,r.mono h⟩
 .exact .inr r
theorem Odd.pos{φ:Map}{k:Nat}{c:XV}{o:Option Obj}(r:Odd φ k c o):k≠0:=by rcases r with ⟨rfl,_⟩|⟨rfl,_⟩<;>simp
theorem Odd.some{φ:Map}{k:Nat}{c:XV}{o:Option Obj}(r:Odd φ k c o):∃x,o=some x:=by rcases r with ⟨_,b,a,e,_⟩|⟨_,s,q,e,_⟩<;>exact⟨_,e⟩
def At(φ:Map)(frz:Prop)(c:XV)(p:Place)(o:Option Obj):Prop:=
 (p.k=0/\∃arr ty fr,o=some (.cells arr ty fr)/\arr.size=p.s+p.n/\c.length<=p.n/\(∀(j:Nat) v,c[j]?=some v->∃u,arr[p.s+j]?=some u/\VRel φ v u)/\(frz->NoFrz arr.size fr))\/Odd φ p.k c o
theorem At.mono{φ ψ:Map}(h:φ.le ψ){frz a:Prop}(l:a->frz){c:XV}{p:Place}{o:Option Obj}(r:At φ frz c p o):At ψ a c p o:=by
 rcases r with ⟨m,arr,ty,k,b,d,e,g,i⟩|r
 .exact .inl ⟨m,arr,ty,k,b,d,e,λj v s=>by have⟨u,q,n⟩:=g j v s;exact⟨u,q,n.mono h⟩,λf=>i<|l f⟩
 .exact .inr<|r.mono h
theorem At.some{φ:Map}{frz:Prop}{c:XV}{p:Place}{o:Option Obj}(r:At φ frz c p o):∃x,o=some x:=by
 rcases r with ⟨_,arr,ty,a,e,_⟩|r
 .exact⟨_,e⟩
 .exact r.some
structure HRel (φ:Map)(base G:Nat)(H:Heap)(w:World):Prop where
 cell:∀i c,H.get i=some c->∃p,φ i=some p/\At φ (base<=i) c p w.heap[p.b]?
 inj:∀i j c d p q,H.get i=some c->H.get j=some d->φ i=some p->φ j=some q->base<=i->p.b=q.b->i=j
 dom:∀i p,φ i=some p->i<H.length
 glob:∀g,g<G->∃n,φ g=some ⟨g,0,n,0⟩
 plc:∀i p,φ i=some p->p.b<w.heap.size
def CRel(φ:Map)(H:Heap)(w:World):Prop:=
 ∀i c p,H.get i=some c->φ i=some p->(p.k=0/\∃arr ty fr,w.heap[p.b]?=some (.cells arr ty fr)/\arr.size=p.s+p.n/\c.length<=p.n/\∀(j:Nat) v,c[j]?=some v->∃u,arr[p.s+j]?=some u/\VRel φ v u)\/Odd φ p.k c w.heap[p.b]?
theorem HRel.crel{φ:Map}{a G:Nat}{H:Heap}{w:World}(h:HRel φ a G H w):CRel φ H w:=by
 intro i c p l d;obtain⟨o,b,⟨m,arr,ty,k,e,f,g,j,_⟩|n⟩:=h.cell i c l
 .rw[d]at b;cases b
  exact .inl ⟨m,arr,ty,k,e,f,g,j⟩
 .rw[d]at b;cases b
  exact .inr n
theorem HRel.cellC{φ:Map}{a G:Nat}{H:Heap}{w:World}(h:HRel φ a G H w){i:Nat}{c:XV}{p:Place}(f:H.get i=some c)(d:φ.c i=some p) :
  ∃arr ty e,w.heap[p.b]?=some (.cells arr ty e)/\arr.size=p.s+p.n/\c.length<=p.n/\(∀(j:Nat) v,c[j]?=some v->∃u,arr[p.s+j]?=some u/\VRel φ v u)/\(a<=i->NoFrz arr.size e):=by
 have⟨d,g⟩:=Map.of_some.1 d;obtain⟨l,b,⟨_,h⟩|k⟩:=h.cell i c f
 .rw[d]at b;cases b;exact h
 .rw[d]at b;cases b;exact absurd g k.pos
theorem CRel.cell{φ:Map}{H:Heap}{w:World}(h:CRel φ H w){i:Nat}{c:XV}{p:Place}(d:H.get i=some c)(a:φ.c i=some p) :
  ∃arr ty b,w.heap[p.b]?=some (.cells arr ty b)/\arr.size=p.s+p.n/\c.length<=p.n/\∀(j:Nat) v,c[j]?=some v->∃u,arr[p.s+j]?=some u/\VRel φ v u:=by
 have⟨a,e⟩:=Map.of_some.1 a;rcases h i c p d a with ⟨_,h⟩|f
 .exact h
 .exact absurd e f.pos
theorem HRel.odd{φ:Map}{a G:Nat}{H:Heap}{w:World}(h:HRel φ a G H w){i k:Nat}{c:XV}{p:Place}(j:H.get i=some c)(m:φ.of k i=some p)(l:k≠0):Odd φ k c w.heap[p.b]?:=by
 have⟨b,d⟩:=Map.of_some.1 m;obtain⟨n,e,⟨f,_⟩|g⟩:=h.cell i c j
 .rw[b]at e;cases e;exact absurd (d.symm.trans f) l
 .rw[b]at e;cases e;rw[d]at g;exact g
theorem Heap.get_lt{H:Heap}{i:Nat}{c:XV}(h:H.get i=some c):i<H.length:=by
 unfold Heap.get at h;split at h
 next e=>exact(List.getElem?_eq_some_iff.1 e).1
 .simp at h
theorem CRel.cells{φ:Map}{H:Heap}{w:World}(h:CRel φ H w){i a n:Nat}{l:XV}{p:Place}(d:H.cells i a n=some l)(z:φ.c i=some p) :
  l.length=n/\∃l',LRel φ l l'/\∀(j:Nat) v,l'[j]?=some v->w.cell? ((⟨p.b,p.s+a,none⟩:Addr).add j)=some v:=by
 unfold Heap.cells at d;split at d
 next c r=>
  split at d
  next t=>
   cases d;have⟨arr,ty,C,o,A,B,q⟩:=h.cell r z;have b:((c.drop a).take n).length=n:=Wr
   refine⟨b,(arr.toList.drop<|p.s+a).take n,⟨?_,?_⟩,?_⟩
   .rw[b];simp;omega
   .intro j x y k g
    rw[List.getElem?_take,List.getElem?_drop]at k g;split at k
    next s=>
     rw[if_pos s]at g;have⟨u,m,e⟩:=q (a+j) x k;rw[<-Nat.add_assoc]at m;simp at g;rw[m]at g;cases g;exact e
    .simp at k
   .intro j v e
    rw[List.getElem?_take,List.getElem?_drop]at e;split at e
    .have f:(⟨p.b,p.s+a,none⟩:Addr).add j=⟨p.b,p.s+a+j,none⟩:=by unfold Addr.add;split<;>simp_all
     rw[f];simp[World.cell?,o];simpa using e
    .simp at e
  .simp at d
 .simp at d
theorem Heap.cells_get{H:Heap}{i b n:Nat}{l:XV}(a:H.cells i b n=some l):∃c,H.get i=some c:=by
 unfold Heap.cells at a;split at a
 next c d=>exact⟨c,d⟩
 .simp at a
def ES{P:Program}{t:TypeId}{n:Nat}(h:fB P t=some n):∃i,P.info? t=some i/\i.size=n:=by unfold fB at h;simpa using h
theorem aW{P:Program}{t:TypeId}{n:Nat}(h:fB P t=some n)(w:World):(sizeOf t).run P w=.ok n w:=by have⟨i,a,b⟩:=ES h;simp[Go.sizeOf,typeInfo,a,b]
theorem ky{P:Program}{t:TypeId}{b:Bool}(h:jz P t=some b)(w:World):(isAgg t).run P w=.ok b w:=by
 unfold jz at h;cases a:P.underlying t with
 | none=>simp[a]at h
 | some d=>
  rw[a]at h;simp[isAgg,Sem.run_bind,run_underlying a,Result.andThen_ok];cases d<;>simp at h<;>subst h<;>rfl
theorem de(b o j:Nat):(⟨b,o,none⟩:Addr).add j=⟨b,o+j,none⟩:=by unfold Addr.add;split<;>simp_all
section
variable {P:Program}{φ:Map}{base G:Nat}{H:Heap}{w:World}
def Oe{d:BinOp}{t:TypeId}{x y:Value}{v:Value}(c:aZ d x y=some v):(binOp d t x y).run P w=.ok v w/\∀a b:Operand,(eqGuard d t a b x y).run P w=.ok () w:=by
 unfold aZ at c;split at c
 next k a h b=>
  refine⟨?_,λx y=>?_⟩
  .cases d
   case shl|shr=>all_goals
    simp only[iE]at c;split at c
    .simp at c
    next e=>
     simp at c;subst c;simp[binOp,Op.shift,e]
   case quo|rem=>all_goals
    simp only[az]at c;split at c
    .rename_i f;subst f
     split at c
     .simp at c
     next e=>simp at c;subst c;simp[binOp,Op.intDiv,e]
    .simp at c
   all_goals
    simp only[az]at c;split at c
    .rename_i f;subst f
     simp at c;subst c;simp[binOp,Op.intArith,Op.intBits,Op.intCmp]
    .simp at c
  .unfold eqGuard
   split<;>simp
 next a b=>
  refine⟨?_,λx y=>?_⟩
  .unfold oP at c
   cases d<;>simp at c
   case add=>obtain⟨g,rfl⟩:=c;simp[binOp,Op.stringOp];omega
   all_goals (subst c;simp[binOp,Op.stringOp])
  .unfold eqGuard
   split<;>simp
 .simp at c
theorem DM{t:TypeId}{n:Nat}{agg:Bool}{b:Array Value}{a:Nat}(d:fB P t=some n)(c:jz P t=some agg)
  {v:Value} (h:(if agg then(if a+n<=b.size then some (Value.agg<|b.extract a<|a+n) else none) else b[a]?)=some v) :
  (part t b a).run P w=.ok v w:=by
 simp[part,Sem.run_bind,ky c,Result.andThen_ok];cases agg
 .simp at h;simp[h]
 .simp at h;simp[aW d,h.2]
theorem iv{t:TypeId}{k:Nat}(h:iP P t=some k):jz P t=some false:=by unfold iP at h;unfold jz;split at h<;>simp_all
theorem lQ{t:TypeId}{k:Nat}(a:iP P t=some k)(d:Nat){x y:Value}{b:Bool}(h:gp k x y=some b) :
  (Op.equalIn (d+1) t x y).run P w=.ok b w:=by
 unfold iP at a;split at a<;>simp at a<;>subst a
 all_goals
  rename_i c;unfold gp at h;split at h<;>simp_all
 .subst h;exact run_equalIn_bool w d t _ _ c
 .obtain⟨rfl,rfl⟩:=h;exact run_equalIn_int w d t _ _ _ _ c
 .subst h;exact run_equalIn_string w d t _ _ c
theorem eX{t:TypeId}(c:jz P t=some false){b:Array Value}{a:Nat}{v:Value}(h:b[a]?=some v):(part t b a).run P w=.ok v w:=by simp[part,ky c,h]
def mX(d:Nat)(xs ys:Array Value):∀(u:List Field) (n:Nat) (o:XN) (b:Bool),fY P n u=some o->aN o (xs.toList.drop n) (ys.toList.drop n)=some b ->
  (Op.eqFields (d+1) xs ys u).run P w=.ok b w
 | [],n,o,b,g,h=>by
  simp[fY]at g;subst g;unfold aN at h;split at h<;>simp_all [Op.eqFields]
 | f::r,n,o,b,g,h=>by
  simp only[fY]at g;split at g
  ·simp at g
  ·rename_i v
   split at g
   ·rename_i k t s D
    simp at g;subst g;have i : f.name ≠ "_" := fun e => v (.inl e);have j:f.offset=n:=Decidable.byContradiction fun e=>v (.inr e);cases l:xs.toList.drop n with
    | nil=>rw[l]at h;simp[aN]at h
    | cons a x=>
     cases m:ys.toList.drop n with
     | nil=>rw[l,m]at h;simp[aN]at h
     | cons c y=>
      rw[l,m]at h;simp only[aN]at h;split at h
      ·rename_i p q E F
       simp at h;subst h;have B:xs[n]?=some a:=by have:=congrArg (·[0]?) l;simpa using this
       have C:ys[n]?=some c:=by have:=congrArg (·[0]?) m;simpa using this
       have z:xs.toList.drop (n+1)=x:=by have:=congrArg List.tail l;simpa using this
       have A:ys.toList.drop (n+1)=y:=by have:=congrArg List.tail m;simpa using this
       have I:=mX d xs ys r (n+1) t q D (by rw[z,A];exact F);simp only[Op.eqFields,i,ne_eq,not_false_eq_true,if_true,Sem.run_bind,j,eX (iv s) B,eX (iv s) C,lQ s d E,Result.andThen_ok];cases p
       ·simp
       ·simpa using I
      ·simp at h
   ·simp at g
def oF:∀(d e:XN) (x y:XV) (b:Bool),aN (d++e) x y=some b->∃p q,aN d (x.take d.length) (y.take d.length)=some p/\aN e (x.drop d.length) (y.drop d.length)=some q/\b=(p&&q)/\d.length<=x.length/\d.length<=y.length
 | [],e,x,y,b,h=>⟨true,b,by simp[aN],Wy,Wc,Wc,Wc⟩
 | k::d,e,[],y,b,h=>by simp[aN]at h
 | k::d,e,a::x,[],b,h=>by simp[aN]at h
 | k::d,e,a::x,c::y,b,h=>by
  simp[am₀,aN]at h;split at h
  next p q m n=>
   simp at h;subst h;have⟨o,r,f,g,i,j,l⟩:=oF d e x y q n;refine⟨p&&o,r,by simp[aN,m,f],XP,by rw[i,Bool.and_assoc],by simpa using j,Yg⟩
  .simp at h
def ID{t:TypeId}{c:XN}(h:jl P t=some c)(d:Nat){xs ys:Array Value}{b:Bool}(i:aN c xs.toList ys.toList=some b):fB P t=some c.length/\jz P t=some true/\(Op.equalIn (d+2) t (.agg xs)<|.agg ys).run P w=.ok b w:=by
 unfold jl at h;split at h
 next e a=>
  split at h
  .simp at h
  next g=>
   split at h
   next l j=>
    split at h
    next k=>
     simp at h;subst h;have f:P.fieldsOf t=e:=by simp[Program.fieldsOf,a]
     refine⟨k.1,by simp[jz,a],?_⟩;rw[run_equalIn_struct w (d+1) t xs ys (by rw[f];exact a) XP,f];exact mX d xs ys e.toList 0 l b j (by simpa using i)
    .simp at h
   .simp at h
 .simp at h
def ET{t:TypeId}{a:XN}(h:jl P t=some a):0<a.length:=by
 unfold jl at h;split at h
 .split at h
  .simp at h
  .split at h
   .split at h
    next b=>simp at h;subst h;exact b.2
    .simp at h
   .simp at h
 .simp at h
theorem zy{t:TypeId}{n:Nat}(d:fB P t=some n)(c:jz P t=some true){b:Array Value}{a:Nat}(h:a+n<=b.size):(part t b a).run P w=.ok (.agg<|b.extract a<|a+n) w:=by simp[part,ky c,aW d,h]
def lO(d:Nat)(xs ys:Array Value):∀(E:List Field) (n:Nat) (v:XN) (b:Bool),gi P n E=some v->aN v (xs.toList.drop n) (ys.toList.drop n)=some b ->
  (Op.eqFields (d+2) xs ys E).run P w=.ok b w
 | [],n,v,b,g,h=>by
  simp[gi]at g;subst g;unfold aN at h;split at h<;>simp_all [Op.eqFields]
 | f::r,n,v,b,g,h=>by
  simp only[gi]at g;split at g
  ·simp at g
  ·rename_i F
   have i : f.name ≠ "_" := fun e => F (.inl e);have m:f.offset=n:=Decidable.byContradiction fun e=>F (.inr e);split at g
   ·rename_i k o
    split at g
    ·rename_i l B
     simp at g;subst g;cases s:xs.toList.drop n with
     | nil=>rw[s]at h;simp[aN]at h
     | cons a x=>
      cases u:ys.toList.drop n with
      | nil=>rw[s,u]at h;simp[aN]at h
      | cons c y=>
       rw[s,u]at h;simp only[aN]at h;split at h
       ·rename_i p q C t
        simp at h;subst h;have z:xs[n]?=some a:=by have:=congrArg (·[0]?) s;simpa using this
        have A:ys[n]?=some c:=by have:=congrArg (·[0]?) u;simpa using this
        have M:xs.toList.drop (n+1)=x:=by have:=congrArg List.tail s;simpa using this
        have N:ys.toList.drop (n+1)=y:=by have:=congrArg List.tail u;simpa using this
        have D:=lO d xs ys r (n+1) l q B (by rw[M,N];exact t);simp only[Op.eqFields,i,ne_eq,not_false_eq_true,if_true,Sem.run_bind,m,eX (iv o) z,eX (iv o) A,lQ o (d+1) C,Result.andThen_ok];cases p
        ·simp
        ·simpa using D
       ·simp at h
    ·simp at g
   ·split at g
    ·rename_i j o
     split at g
     ·rename_i l B
      simp at g;subst g;obtain⟨p,q,C,t,rfl,Q,R⟩:=oF j l _ _ b h;have J:=ET o;have I:n+j.length<=xs.size/\n+j.length<=ys.size:=by simp at Q R;omega
      ·have z:(xs.extract n (n+j.length)).toList=(xs.toList.drop n).take j.length:=by simp[List.extract_eq_take_drop]
       have A:(ys.extract n (n+j.length)).toList=(ys.toList.drop n).take j.length:=by simp[List.extract_eq_take_drop]
       obtain⟨K,L,O⟩:=ID (w:=w) o d (xs:=xs.extract n (n+j.length)) (ys:=ys.extract n (n+j.length)) (b:=p) (by rw[z,A];exact C);have D:=lO d xs ys r (n+j.length) l q B (by rw[List.drop_drop,List.drop_drop]at t;exact t);simp only[Op.eqFields,i,ne_eq,not_false_eq_true,if_true,Sem.run_bind,m,zy K L I.1,zy K L I.2,O,Result.andThen_ok];cases p
       ·simp
       ·simpa using D
     ·simp at g
    ·simp at g
def HY{t:TypeId}{d:XN}{xs ys:Array Value}{b:Bool}(a:nb P t=some d)(h:aN d xs.toList ys.toList=some b) :
  (Op.equalIn 10000 t (.agg xs)<|.agg ys).run P w=.ok b w/\∀e x y,(eqGuard e t x y (.agg xs)<|.agg ys).run P w=.ok () w:=by
 unfold nb at a;split at a
 next f i=>
  split at a
  .simp at a
  next c=>
   simp at c;have g:P.fieldsOf t=f:=by simp[Program.fieldsOf,i]
   refine⟨?_,λe x y=>run_eqGuard_agg w e t x y xs ys c.2⟩;rw[run_equalIn_struct w 9999 t xs ys (by rw[g];exact i) c.1,g];exact lO 9997 xs ys f.toList 0 d b a Wy
 .simp at a
def se{k:Nat}{x y x' a:Value}{b:Bool}(h:gp k x y=some b)(c:VRel φ x x')(d:VRel φ y a):x'=x/\a=y:=by unfold gp at h;split at h<;>simp at h<;>(cases c;cases d;exact⟨rfl,rfl⟩)
def mL:∀{j:XN} {x y x' d:XV} {b:Bool},aN j x y=some b->LRel φ x x'->LRel φ y d->x'=x/\d=y
 | [],[],[],x',d,b,_,e,g=>⟨e.of_nil,g.of_nil⟩
 | k::j,a::x,c::y,x',d,b,h,e,g=>by
  obtain⟨a',r,rfl,l,f⟩:=e.of_cons;obtain⟨c',s,rfl,m,i⟩:=g.of_cons;simp[aN]at h;split at h
  next p q n o=>
   obtain⟨rfl,rfl⟩:=se n l m;obtain⟨rfl,rfl⟩:=mL o f i;exact⟨rfl,rfl⟩
  .simp at h
 | [],[],_::_,_,_,_,h,_,_=>by simp[aN]at h
 | [],_::_,_,_,_,_,h,_,_=>by simp[aN]at h
 | _::_,[],_,_,_,_,h,_,_=>by simp[aN]at h
 | _::_,_::_,[],_,_,_,h,_,_=>by simp[aN]at h
end
section
variable {P:Program}{φ:Map}{base G:Nat}{H:Heap}{w:World}
def lr{v c:Value}{y n:Nat}(h:toB v y=some n)(r:VRel φ v c)(a:BoundsCode){b:Nat}(e:y<=b):(Instr.sliceBound c b a).run P w=.ok n w/\n<=y:=by
 unfold toB at h;split at h
 .cases r
  split at h
  next k i d=>
   simp at h;subst h;have:0<=i/\i<=(b:Int):=byO;simp[Instr.sliceBound,asIntOf,this];omega
  .simp at h
 .simp at h
def jV{len d e:Nat}(c:d<=e){lo r n:Option Operand}{s j:Operand->Value}(b:∀x ∈ opts [lo,r,n],VRel φ (s x)<|j x){l h m:Nat}(a:Bool)
  (k:bounds len d lo.isSome r.isSome n.isSome ((opts [lo,r,n]).map s)=some (l,h,m)) :
  (Instr.sliceBounds a len e (lo.map j) (r.map j)<|n.map j).run P w=.ok (l,h,if n.isSome then m else e) w/\l<=h/\(len<=d->h<=m/\m<=d)/\(n=none->m=d):=by
 cases lo<;>cases r<;>cases n<;>simp[bounds,opts,ae₀]at k b
 .obtain⟨rfl,rfl,rfl⟩:=k
  simp[Instr.sliceBounds]
 next x=>
  obtain⟨t,i,rfl,rfl,rfl⟩:=k;have⟨f,g⟩:=lr (P:=P) (w:=w) i b (if a then .sliceAcap else .sliceAlen) c;simp[Instr.sliceBounds,f,g]
 next x y=>
  obtain⟨B,i,t,q,rfl,rfl,rfl⟩:=k;have⟨f,g⟩:=lr (P:=P) (w:=w) i b.2 (if a then .slice3Acap else .slice3Alen) c;have⟨o,p⟩:=lr (P:=P) (w:=w) q b.1 .slice3B<|Nat.le_refl _;simp[Instr.sliceBounds,f,g,o,p]
 next x=>
  obtain⟨l',i,rfl,rfl,rfl⟩:=k;have⟨f,g⟩:=lr (P:=P) (w:=w) i b .sliceB<|Nat.le_refl _;simp[Instr.sliceBounds,f,g]
 next x y=>
  obtain⟨t,q,l',i,rfl,rfl,rfl⟩:=k;have⟨f,g⟩:=lr (P:=P) (w:=w) q b.2 (if a then .sliceAcap else .sliceAlen) c;have⟨o,p⟩:=lr (P:=P) (w:=w) i b.1 .sliceB<|Nat.le_refl _;simp[Instr.sliceBounds,f,g,o,p]
 next x y z=>
  obtain⟨B,i,t,q,l',A,rfl,rfl,rfl⟩:=k;have⟨f,g⟩:=lr (P:=P) (w:=w) i b.2.2 (if a then .slice3Acap else .slice3Alen) c;have⟨o,p⟩:=lr (P:=P) (w:=w) q b.2.1 .slice3B<|Nat.le_refl _;have⟨u,v⟩:=lr (P:=P) (w:=w) A b.1 .slice3C<|Nat.le_refl _;simp[Instr.sliceBounds,f,g,o,p,u,v]
theorem pJ(b:Nat):∀(vs:XV) (k:Nat) (a:Array Value),b+k+vs.length<=a.size ->
  (vs.zipIdx k).foldl (λ(f:Array Value) (x:Value×Nat)=>f.setIfInBounds (b+x.2) x.1) a=(putCells a.toList (b+k) vs).toArray
 | [],k,a,_=>by simp[putCells]
 | v::vs,k,a,h=>by
  simp[List.zipIdx_cons,List.foldl_cons];simp at h;rw[pJ b vs (k+1) _ Wr];congr 1;simp only[putCells,Array.toList_setIfInBounds];apply List.ext_getElem?;intro j;simp only[List.getElem?_append,List.length_take,List.length_set,List.getElem?_take,List.getElem?_drop,List.getElem?_set,Array.length_toList,ak₀];by_cases d:j<b+k
  .have c:j<b+(k+1):=byO
   have g:¬ (b+k=j):=byO;simp[d,c,g,Nat.min_eq_left (show b+k<=a.size by omega),Nat.min_eq_left (show b+(k+1)<=a.size by omega)]
  .by_cases i:j=b+k
   .subst i
    simp[Nat.min_eq_left (show b+k<=a.size by omega),Nat.min_eq_left (show b+(k+1)<=a.size by omega)];omega
   .have c:¬ j<b+(k+1):=byO
    simp[d,c,Nat.min_eq_left (show b+k<=a.size by omega),Nat.min_eq_left (show b+(k+1)<=a.size by omega),if_false];have e:j-(b+k)=(j-(b+(k+1)))+1:=byO;rw[e];simp[List.getElem?_cons_succ,Nat.add_lt_add_iff_right];split
    .rfl
    next m=>
     have l:¬ (b+k=b+(k+1)+vs.length+(j-(b+(k+1))-vs.length)):=byO;simp[l,if_false];congr 1;omega
def pI(e:Nat->Option (Nat×Nat)):∀(o:List<|Nat×Nat) (n:XN) (vs g:XV) (d c:XV) (l:XV),
  n.length=o.length->(∀(j:Nat) i p,n[j]?=some i->o[j]?=some p->e i=some p)->LRel φ vs g->LRel φ d c->buildL d o vs=some l ->
  ∃l',Instr.fill e c.toArray (n.zip g)=some l'.toArray/\LRel φ l l'
 | [],[],[],g,d,c,l,_,_,A,r,h=>by
  simp[buildL]at h;subst h;exact⟨c,by simp[Instr.fill],r⟩
 | (f,sz)::o,i::n,v::vs,g,d,c,l,k,z,A,r,h=>by
  obtain⟨x,q,rfl,m,u⟩:=A.of_cons;simp only[buildL]at h;split at h
  next F=>
   have t:x.cells.size=sz:=by have:=m.cells.1;simp at this;omega
   have y:c.length=d.length:=r.1.symm;have s:e i=some (f,sz):=z 0 i (f,sz) rfl rfl;have⟨l',B,C⟩:=pI e o n vs q (putCells d f v.cells.toList) (putCells c f x.cells.toList) l (by simpa using k)
    (λj a b D E=>z (j+1) a b (by simpa using D) (by simpa using E)) u (r.putCells m.cells f) h
   refine⟨l',?_,C⟩;simp only[List.zip_cons_cons,Instr.fill,s];rw[if_neg (by simp[t];omega)];have:=pJ f x.cells.toList 0 c.toArray Wr;rw[<-Array.foldl_toList];simp[Array.toList_zipIdx];rw[this];simpa using B
  .simp at h
 | [],[],_::_,_,_,_,_,_,_,_,_,h=>by simp[buildL]at h
 | _::_,_::_,[],_,_,_,_,_,_,_,_,h=>by simp[buildL]at h
 | [],_::_,_,_,_,_,_,k,_,_,_,_=>by simp at k
 | _::_,[],_,_,_,_,_,k,_,_,_,_=>by simp at k
def tb(b:Bool):∀(vs c:XV) (x:Value) (v:Value),LRel φ vs c->vs.foldlM (ml b) x=some v->(∃k n,x=.int k n) ->
  (c.foldlM (if b then Builtin.max2 else Builtin.min2) x).run P w=.ok v w/\∃k n,v=.int k n
 | [],c,x,v,g,h,j=>by
  rw[g.of_nil];simp at h;subst h;exact⟨by cases b<;>simp,j⟩
 | a::vs,c,x,v,g,h,j=>by
  obtain⟨a',f,rfl,o,i⟩:=g.of_cons;simp[List.foldlM_cons,Option.bind_eq_bind,ae₀]at h;have⟨m,d,h⟩:=h;obtain⟨k,n,rfl⟩:=j;unfold ml at d;split at d
  next p r q s e=>
   cases o;simp at e d;obtain⟨rfl,rfl⟩:=e;subst d;have l:=tb b vs f _ v i h ⟨_,_,rfl⟩;refine⟨?_,l.2⟩;cases b
   .simpa[Builtin.min2]using l.1
   .simpa[Builtin.max2]using l.1
  .simp at d
theorem sX:∀(l:XV) (c:XU),bytesOf l=some c->∀l',LRel φ l l'->l'=l
 | [],_,_,l',h=>h.of_nil
 | v::r,c,b,l',h=>by
  obtain⟨j,r',rfl,g,f⟩:=h.of_cons;unfold bytesOf at b;split at b
  next e=>simp at e
  next n i e=>
   simp at e;obtain⟨rfl,rfl⟩:=e;cases g;simp at b;have⟨a,d,_⟩:=b;rw[sX r a d r' f]
  .simp at b
def rQ(er:String):∀(l:XV) (b:XU) (s:ByteArray),bytesOf l=some b ->
  (forIn l s (λc (s:ByteArray)=>(match c with | .int .u8 n=>pure (ForInStep.yield<|s.push<|UInt8.ofNat n.toNat)|_=>do
    stuck er
    pure (ForInStep.yield s):Sem<|ForInStep ByteArray))).run P w=.ok ⟨s.data++b.toArray⟩ w
 | [],b,s,h=>by simp[bytesOf]at h;subst h;simp
 | v::r,b,s,h=>by
  unfold bytesOf at h;split at h
  next e=>simp at e
  next n g e=>
   simp at e;obtain⟨rfl,rfl⟩:=e;simp at h;obtain⟨a,d,rfl⟩:=h;have f:=rQ er r a (s.push<|UInt8.ofNat n.toNat) d;simp only[List.forIn_cons,Sem.run_bind,Sem.run_pure,Result.andThen_ok];rw[f];simp[ByteArray.push]
  .simp at h
end
section
variable {P:Program}{φ:Map}{H:Heap}{w:World}
def fG{t:TypeId}{z:XV}(h:zeroOf P t=some z):∃i v,P.info? t=some i/\i.zero=some v/\v.cells.toList=z/\z.length=i.size/\z.all bU=true:=by
 unfold zeroOf at h;split at h
 next i b=>
  split at h
  next v c=>
   split at h
   next a=>simp at h;subst h;exact⟨i,v,b,c,rfl,by simpa using a.1,a.2⟩
   .simp at h
  .simp at h
 .simp at h
theorem bP{t:TypeId}{i:TypeInfo}{v:Value}(a:P.info? t=some i)(b:i.zero=some v):(zeroValue t).run P w=.ok v w:=by simp[zeroValue,typeInfo,a,b]
def Ct(k:CRel φ H w){n:Nat}{agg:Bool}{t:TypeId}(m:jz P t=some agg)(z:fB P t=some n){a c v:Value}(r:VRel φ a c)(e:aG (.ld n agg) [a] H=some v) :
  ∃j,(Instr.loadAt t c).run P w=.ok j w/\VRel φ v j:=by
 cases r<;>simp[aG]at e<;>try (simp at e;done)
 rename_i i o p q;cases agg
 .simp[ah₀,if_false,ae₀]at e
  have⟨l,h,y⟩:=e;have⟨b,l',d,g⟩:=k.cells h q;obtain⟨u,s⟩:∃u,l'[0]?=some u:=by
   have:0<l'.length:=by rw[<-d.1,b];omega
   exact⟨_,bc₀ this⟩
  have x:l[0]?=some v:=by rw[<-y];cases l<;>rfl
  refine⟨u,?_,d.2 0 v u x s⟩;have:=g 0 u s;rw[de]at this;simp at this;simp[Instr.loadAt,Instr.sureAddr,loadVar,ky m,this]
 .simp[if_true,aa₀]at e
  obtain⟨l,h,rfl⟩:=e;have⟨b,l',d,g⟩:=k.cells h q;have f:=run_loadCells_list (P:=P) w ⟨p.b,p.s+o,none⟩ l' g;rw[<-d.1,b]at f;exact⟨.agg l'.toArray,by simp[Instr.loadAt,Instr.sureAddr,loadVar,ky m,aW z,f],.agg _ _ (by simp[d.1]) (by simpa using d.2)⟩
def O1(C:CRel φ H w){a c v:Value}(r:VRel φ a c)(d:aG .b2s [a] H=some v):(Conv.bytesToString c).run P w=.ok v w/\VRel φ v v:=by
 have g:∀(i o len o' c':Nat) (p:Place),φ.c i=some p->(o'=o\/len=0)->((H.cells i o len).bind bytesOf).map (λl=>Value.string ⟨l.toArray⟩)=some v ->
   (Conv.bytesToString<|.slice (some ⟨p.b,p.s+o',none⟩) len c').run P w=.ok v w/\VRel φ v v:=by
  intro i o len o' c' p k u d;simp only[aa₀,ae₀]at d;obtain⟨m,⟨l,f,n⟩,rfl⟩:=d;have⟨h,l',D,A⟩:=C.cells f k;have t:=sX l m n l' D;subst t;have s:∀(j:Nat) v,l'[j]?=some v->w.cell? ((⟨p.b,p.s+o',none⟩:Addr).add j)=some v:=by
   rcases u with rfl|rfl
   .exact A
   .intro j v y
    have:l'=[]:=List.eq_nil_of_length_eq_zero h;subst this;simp at y
  have b:=run_loadCells_list (P:=P) w ⟨p.b,p.s+o',none⟩ l' s;rw[h]at b;refine⟨?_,.string _⟩;simp only[Conv.bytesToString,Sem.run_bind,b,Result.andThen_ok];simp[List.forIn_toArray];apply Eq.trans (congrArg (λx:Result ByteArray=>x.andThen _)<|rQ (P:=P) (w:=w) _ l' m .empty n);simp
 cases r<;>simp only[aG]at d<;>try (simp at d;done)
 .simp at d;subst d;exact⟨by simp[Conv.bytesToString],.string _⟩
 next i o l c p k=>exact g i o l o c p k (.inl rfl) d
 next i o l c z p o' c' k A f u E=>exact g i o l o' c' p k (u.imp id λe=>by omega) d
 next i o z p a k=>
  simp only[aa₀,ae₀]at d;obtain⟨m,⟨l,f,n⟩,rfl⟩:=d;have B:l=[]:=by
   unfold Heap.cells at f;split at f
   .split at f
    .simp at f;exact f
    .simp at f
   .simp at f
  subst B;have b:=run_loadCells_list (P:=P) w a [] (λj v y=>by simp at y);have q:m=[]:=by simpa[bytesOf]using n.symm
  subst q;refine⟨?_,.string _⟩;simp[an₀]at b;simp[Conv.bytesToString,b];rfl
def TK{t e:TypeId}{sz:Nat}{x:Operand}{lo E j:Option Operand}{n f:Operand->Value}(T:P.underlying t=some (.slice e))(C:fB P e=some sz)
  (B:∀y ∈ x::opts [lo,E,j],VRel φ (n y)<|f y) {v:Value} (b:aG (.sl sz lo.isSome E.isSome j.isSome) ((x::opts [lo,E,j]).map n) H=some v) :
  ∃L,(Instr.sliceAt t (f x) (lo.map f) (E.map f)<|j.map f).run P w=.ok L w/\VRel φ v L:=by
 have K:=B x Wc;have I:∀y ∈ opts [lo,E,j],VRel φ (n y)<|f y:=λy U=>B y<|List.mem_cons_of_mem _ U;simp[ag₀]at b;generalize n x=a at K b;generalize f x=c at K;simp only[Instr.sliceAt,Sem.run_bind,run_underlying T,Result.andThen_ok,Instr.slice];cases K<;>simp only[aG]at b<;>try (simp at b;done)
 next len d=>
  simp only[aa₀]at b;obtain⟨⟨l,h,m⟩,r,rfl⟩:=b;have⟨g,J,D,q⟩:=jV (P:=P) (w:=w) (Nat.le_refl d) I true r;have F:(if j.isSome then m else d)=m:=by
   cases j with
   | none=>simp[q rfl]
   | some y=>rfl
  rw[F]at g;exact⟨_,by simp[g,aW C],.nilSlice _ _⟩
 next i o len d p u=>
  simp only[aa₀]at b;obtain⟨⟨l,h,m⟩,r,rfl⟩:=b;have⟨g,J,D,q⟩:=jV (P:=P) (w:=w) (Nat.le_refl d) I true r;have F:(if j.isSome then m else d)=m:=by
   cases j with
   | none=>simp[q rfl]
   | some y=>rfl
  rw[F]at g;refine⟨.slice (some ⟨p.b,p.s+(if m=l then o else o+l*sz),none⟩) (h-l)<|m-l,?_,.slice i _ _ _ p u⟩;simp[Sem.run_bind,g,aW C,Result.andThen_ok,Sem.run_pure];split<;>simp[de,Nat.add_assoc]
 next i o len d z p o' c' u Q R M S=>
  split at b
  next A=>
   subst A
   simp only[aa₀]at b;have⟨⟨l,h,m⟩,r,k⟩:=b;have⟨g,J,D,q⟩:=jV (P:=P) (w:=w) Q I true r;have⟨N,O⟩:=D R;cases j with
   | some y=>
    simp only[Option.isSome_some,if_true]at g;by_cases G:d=0
    .subst G
     simp at k;subst k;obtain rfl:m=0:=byO;obtain rfl:h=0:=byO;obtain rfl:l=0:=byO;refine⟨.slice (some ⟨p.b,p.s+o',none⟩) 0 0,?_,?_⟩
     .simp only[Sem.run_bind,g,aW C,Result.andThen_ok,Sem.run_pure,if_true,Nat.sub_self]
     .simp;exact .sliceIn i o 0 0 z p o' 0 u (Nat.le_refl _) (Nat.le_refl _) (.inr rfl) byO
    .obtain rfl:o'=o:=M.resolve_right G
     simp[G]at k;subst k;refine⟨.slice (some ⟨p.b,p.s+(if m=l then o' else o'+l*z),none⟩) (h-l)<|m-l,?_,.slice i _ _ _ p u⟩;simp only[Sem.run_bind,g,aW C,Result.andThen_ok,Sem.run_pure];split<;>simp[de,Nat.add_assoc]
   | none=>
    obtain rfl:=q rfl;simp at k g;subst k;refine⟨.slice (some ⟨p.b,p.s+(if c'=l then o' else o'+l*z),none⟩) (h-l)<|c'-l,?_,?_⟩
    .simp[Option.map_none,Sem.run_bind,g,aW C,Result.andThen_ok,Sem.run_pure]
     split<;>simp[de,Nat.add_assoc]
    .refine .sliceIn i _ _ _ z p _ _ u byO byO ?_ ?_
     .by_cases s:c'=l
      .right;omega
      .rcases M with rfl|G
       .left;simp[s]
       .right;omega
     .split
      next s=>subst s;simp;exact Nat.le_trans (Nat.le_add_right _ _) S
      .have:o'+l*z+(c'-l)*z=o'+c'*z:=by
        rw[Nat.add_assoc,<-Nat.add_mul];congr 2;omega
       omega
  .simp at b
 next i o z p a u=>
  split at b
  next A=>
   subst A
   simp only[aa₀]at b;have⟨⟨l,h,m⟩,r,k⟩:=b;have⟨g,J,D,q⟩:=jV (P:=P) (w:=w) (Nat.le_refl 0) I true r;have⟨N,O⟩:=D<|Nat.le_refl 0;have F:(if j.isSome then m else 0)=m:=by
    cases j with
    | none=>simp[q rfl]
    | some y=>rfl
   rw[F]at g;obtain rfl:m=0:=byO;obtain rfl:h=0:=byO;obtain rfl:l=0:=byO;refine⟨.slice (some a) 0 0,?_,?_⟩
   .simp[Sem.run_bind,g,aW C,Result.andThen_ok,Sem.run_pure,if_true,Nat.sub_self]
   .cases j<;>(simp at k;subst k;exact .empty i _ z p a u)
  .simp at b
def RA{t e:TypeId}{n sz:Nat}{x:Operand}{lo k g:Option Operand}{d b:Operand->Value}(D:P.underlying t=some (.array n e))(F:fB P e=some sz)
  (f:∀y ∈ x::opts [lo,k,g],VRel φ (d y)<|b y) {v:Value} (j:aG (.slA n sz lo.isSome k.isSome g.isSome) ((x::opts [lo,k,g]).map d) H=some v) :
  ∃r,(Instr.sliceAt t (b x) (lo.map b) (k.map b)<|g.map b).run P w=.ok r w/\VRel φ v r:=by
 have q:=f x Wc;have C:∀y ∈ opts [lo,k,g],VRel φ (d y)<|b y:=λy E=>f y<|List.mem_cons_of_mem _ E;simp[ag₀]at j;generalize d x=a at q j;generalize b x=c at q;simp[Instr.sliceAt,Sem.run_bind,run_underlying D,Result.andThen_ok];cases q<;>simp only[aG]at j<;>try (simp at j;done)
 rename_i i o p B;simp only[aa₀]at j;obtain⟨⟨l,h,m⟩,z,rfl⟩:=j;have⟨s,G,I,u⟩:=jV (P:=P) (w:=w) (Nat.le_refl n) C false z;have A:(if g.isSome then m else n)=m:=by
  cases g with
  | none=>simp[u rfl]
  | some y=>rfl
 rw[A]at s;refine⟨.slice (some ⟨p.b,p.s+(if m=l then o else o+l*sz),none⟩) (h-l)<|m-l,?_,.slice i _ _ _ p B⟩;simp[Instr.sureAddr,Sem.run_pure,s,aW F,Result.andThen_ok];split<;>simp[de,Nat.add_assoc]
def RB{t:TypeId}{x:Operand}{lo e:Option Operand}{d b:Operand->Value}(r:P.underlying t=some .string)
  (f:∀y ∈ x::opts [lo,e],VRel φ (d y)<|b y) {v:Value} (g:aG (.slS lo.isSome e.isSome) ((x::opts [lo,e]).map d) H=some v) :
  ∃k,(Instr.sliceAt t (b x) (lo.map b) (e.map b) none).run P w=.ok k w/\VRel φ v k:=by
 have j:=f x Wc;have q:∀y ∈ opts [lo,e,none],VRel φ (d y)<|b y:=λy o=>f y<|List.mem_cons_of_mem _ (by cases lo<;>cases e<;>simp[opts]at o ⊢<;>exact o);simp[ag₀]at g;generalize d x=a at j g;generalize b x=c at j;simp[Instr.sliceAt,Sem.run_bind,run_underlying r,Result.andThen_ok,Instr.slice];cases j<;>simp only[aG]at g<;>try (simp at g;done)
 rename_i s;simp only[aa₀]at g;obtain⟨⟨l,h,m⟩,p,rfl⟩:=g;have i:bounds s.size s.size lo.isSome e.isSome (none:Option Operand).isSome ((opts [lo,e,none]).map d)=some (l,h,m):=by cases lo<;>cases e<;>simpa[opts]using p
 have⟨n,u,z,A⟩:=jV (P:=P) (w:=w) (Nat.le_refl s.size) q false i;simp at n;exact⟨_,by simp[n],.string _⟩
end
section
variable {P:Program}{φ:Map}{H:Heap}{w:World}
theorem qo{k:Nat}{x y:Value}(h:gp k x y=some true)(n:Nat):Instr.sameBits n y x=true:=by
 unfold gp at h;split at h<;>simp at h
 .subst h;cases n<;>simp[Instr.sameBits]
 .obtain⟨rfl,rfl⟩:=h;cases n<;>simp[Instr.sameBits]
 next a b=>
  cases n<;>(simp[Instr.sameBits];rw[beq_toListBytes];simp[h])
def ox(n:Nat):∀{c:XN} {x y:XV},aN c x y=some true->y.length=x.length/\(y.zip x).all (λ(a,b)=>Instr.sameBits n a b)=true
 | [],[],[],_=>by simp
 | k::c,a::x,b::y,h=>by
  simp[aN]at h;split at h
  next p q f g=>
   simp at h;obtain⟨rfl,rfl⟩:=h;have⟨d,e⟩:=ox n g;exact⟨Yb,by simp only[List.zip_cons_cons,List.all_cons,qo f n,e];rfl⟩
  .simp at h
 | [],[],_::_,h=>by simp[aN]at h
 | [],_::_,_,h=>by simp[aN]at h
 | _::_,[],_,h=>by simp[aN]at h
 | _::_,_::_,[],h=>by simp[aN]at h
def dL{a:XN}{agg:Bool}{x y:Value}{b:Bool}(h:iJ a agg x y=some b) :
  (∃xs ys,x=.agg xs/\y=.agg ys/\agg=true/\aN a xs.toList ys.toList=some b)\/(agg=false/\aN a [x] [y]=some b):=by
 unfold iJ at h;split at h
 next xs ys=>
  cases agg<;>simp at h;exact .inl ⟨xs,ys,rfl,rfl,rfl,h⟩
 .cases agg<;>simp at h
  exact .inr ⟨rfl,h⟩
def fQ{a:XN}{x y:Value}{b:Bool}(h:aN a [x] [y]=some b):∃k,a=[k]/\gp k x y=some b:=by
 cases a with
 | nil=>simp[aN]at h
 | cons k r=>
  cases r with
  | nil=>
   simp[aN]at h;split at h
   next p q d c=>simp at c;subst c;simp at h;subst h;exact⟨k,rfl,d⟩
   .simp at h
  | cons j r=>simp[aN]at h
theorem BO{c:XN}{agg:Bool}{x y:Value}(h:iJ c agg x y=some true):Instr.sameBits 10000 y x=true:=by
 rcases dL h with ⟨xs,ys,rfl,rfl,_,h⟩|⟨_,h⟩
 .have⟨a,b⟩:=ox 9999 h
  show(ys.size==xs.size&&(ys.toList.zip xs.toList).all λ(x,y)=>Instr.sameBits 9999 x y)=true;simp only[ac₀,beq_iff_eq];exact⟨by simpa using a,b⟩
 .have⟨k,_,h⟩:=fQ h
  exact qo h _
def qO{m:XN}{agg:Bool}{x y x' f:Value}{b:Bool}(h:iJ m agg x y=some b)(d:VRel φ x x')(e:VRel φ y f):x'=x/\f=y:=by
 rcases dL h with ⟨xs,ys,rfl,rfl,_,h⟩|⟨_,h⟩
 .cases d;cases e
  rename_i n g i o j l;have⟨a,c⟩:=mL h (LRel.arr.2 ⟨g,i⟩)<|LRel.arr.2 ⟨j,l⟩;rw[Array.toList_inj]at a c;rw[a,c];exact⟨rfl,rfl⟩
 .have⟨k,_,h⟩:=fQ h
  exact se h d e
def lP(d:Nat)(e:TypeId)(xs ys:Array Value):XN->Sem Bool
 | []=>pure true
 | i::is=>do
  let a<-part e xs (i*1)
  let b<-part e ys (i*1)
  let r<-Op.equalIn d e a b
  if (!r)=true then pure false else lP d e xs ys is
theorem rk(d:Nat){t e:TypeId}{n:Nat}(xs ys:Array Value)(i:P.underlying t=some (.array n e))(h:fB P e=some 1) :
  (Op.equalIn (d+1) t (.agg xs)<|.agg ys).run P w=(lP d e xs ys<|List.range n).run P w:=by
 simp only[Op.equalIn,Sem.run_bind,run_underlying i,Result.andThen_ok,aW h];simp only[Std.Legacy.Range.forIn_eq_forIn_range',Std.Legacy.Range.size,Nat.sub_zero,Nat.add_one_sub_one,Nat.div_one,List.range_eq_range'];generalize List.range' 0 n=c
 induction c generalizing w with
 | nil=>simp[lP]
 | cons j c k=>
  simp only[List.forIn_cons,lP,Sem.run_bind];generalize (part e xs<|j*1).run P w=l;cases l with
  | ok a f=>
   simp only[Result.andThen_ok];generalize (part e ys<|j*1).run P f=m;cases m with
   | ok b g=>
    simp only[Result.andThen_ok];generalize (Op.equalIn d e a b).run P g=o;cases o with
    | ok r p=>
     cases r
     .simp[Result.andThen_ok,Bool.not_false,if_true,Sem.run_pure]
     .simp only[Result.andThen_ok,Bool.not_true,ah₀,if_false,Sem.run_pure]
      exact k
    | halt x p=>simp[Result.andThen]
   | halt x g=>simp[Result.andThen]
  | halt x f=>simp[Result.andThen]
def tO(d:Nat){e:TypeId}{k:Nat}(g:iP P e=some k)(xs ys:Array Value):∀(m n:Nat) (b:Bool),aN (List.replicate m k) (xs.toList.drop n) (ys.toList.drop n)=some b ->
  (lP (d+1) e xs ys<|List.range' n m).run P w=.ok b w
 | 0,n,b,h=>by
  simp[List.replicate_zero]at h;unfold aN at h;split at h<;>simp_all [lP]
 | m+1,n,b,h=>by
  cases f:xs.toList.drop n with
  | nil=>rw[f]at h;simp[List.replicate_succ,aN]at h
  | cons a x=>
   cases i:ys.toList.drop n with
   | nil=>rw[f,i]at h;simp[List.replicate_succ,aN]at h
   | cons c y=>
    rw[f,i]at h;simp[List.replicate_succ,aN]at h;split at h
    next p q s t=>
     simp at h;subst h;have o:xs[n]?=some a:=by have:=congrArg (·[0]?) f;simpa using this
     have r:ys[n]?=some c:=by have:=congrArg (·[0]?) i;simpa using this
     have j:xs.toList.drop (n+1)=x:=by have:=congrArg List.tail f;simpa using this
     have l:ys.toList.drop (n+1)=y:=by have:=congrArg List.tail i;simpa using this
     have u:=tO d g xs ys m (n+1) q (by rw[j,l];exact t);simp[List.range'_succ,lP,Sem.run_bind,Nat.mul_one,eX (iv g) o,eX (iv g) r,lQ g d s,Result.andThen_ok];cases p
     .simp
     .simpa using u
    .simp at h
theorem rK{t:TypeId}{l:XN}{agg:Bool}(a:keyOf P t=some (l,agg)){x y:Value}{b:Bool}(h:iJ l agg x y=some b):(Op.equal t x y).run P w=.ok b w:=by
 unfold Op.equal;unfold keyOf at a;split at a
 next k c=>
  simp[ab₀,ad₀]at a;obtain⟨rfl,rfl⟩:=a;rcases dL h with ⟨_,_,_,_,e,_⟩|⟨_,h⟩
  .simp at e
  .have⟨p,e,h⟩:=fQ h
   simp at e;subst e;exact lQ c 9999 h
 .split at a
  next i d=>
   split at a
   .simp at a
   next m=>
    simp[aa₀,ad₀]at a;obtain⟨g,o,rfl,rfl⟩:=a;rcases dL h with ⟨xs,ys,rfl,rfl,_,h⟩|⟨e,_⟩
    .have j:P.fieldsOf t=i:=by simp[Program.fieldsOf,d]
     show(Op.equalIn (9999+1) t (.agg xs)<|.agg ys).run P w=_;rw[run_equalIn_struct w 9999 t xs ys (by rw[j];exact d) (by simpa using m),j];exact mX 9998 xs ys i.toList 0 g b o Wy
    .simp at e
  next n e d=>
   split at a
   next k c=>
    split at a
    next f=>
     simp[ab₀,ad₀]at a;obtain⟨rfl,rfl⟩:=a;rcases dL h with ⟨xs,ys,rfl,rfl,_,h⟩|⟨e,_⟩
     .show(Op.equalIn (9999+1) t (.agg xs)<|.agg ys).run P w=_
      rw[rk 9999 xs ys d f,List.range_eq_range'];exact tO 9998 c xs ys n 0 b Wy
     .simp at e
    .simp at a
   .simp at a
  .simp at a
theorem lJ{t:TypeId}{k:Nat}(a:iP P t=some k)(b:Bool)(d:Nat)(v:Value):(Instr.checkKey b (d+1) t v).run P w=.ok () w:=by
 unfold iP at a;split at a<;>simp at a
 all_goals
  rename_i c;simp[Instr.checkKey,run_underlying c]
def rF(xs:Array Value):∀(s:List Field) (n:Nat) (l:XN) (b:Bool),fY P n s=some l->aN l (xs.toList.drop n) (xs.toList.drop n)=some b ->
  ∀ f ∈ s, f.name ≠ "_" ∧ ∃ a k, iP P f.type = some k ∧ xs[f.offset]? = some a
 | [],n,l,b,c,h=>by simp
 | f::r,n,l,b,c,h=>by
  simp only[fY]at c;split at c
  ·simp at c
  ·rename_i t
   split at c
   ·rename_i k o y z
    simp at c;subst c;have d : f.name ≠ "_" := fun e => t (.inl e);have i:f.offset=n:=Decidable.byContradiction fun e=>t (.inr e);cases j:xs.toList.drop n with
    | nil=>rw[j]at h;simp[aN]at h
    | cons a x=>
     rw[j]at h;simp only[aN]at h;split at h
     ·rename_i p q C A
      have v:xs[n]?=some a:=by have:=congrArg (·[0]?) j;simpa using this
      have u:xs.toList.drop (n+1)=x:=by have:=congrArg List.tail j;simpa using this
      have B:=rF xs r (n+1) o q z (by rw[u];exact A);intro g m;rcases List.mem_cons.1 m with rfl|m
      ·exact⟨d,a,k,y,by rw[i];exact v⟩
      ·exact B g m
     ·simp at h
   ·simp at c
theorem qp:∀{d:XN} {x y:XV} {b:Bool},aN d x y=some b->x.length=d.length
 | [],[],[],_,_=>rfl
 | k::d,a::x,c::y,b,h=>by
  simp[aN]at h;split at h
  next p q f e=>simp[qp e]
  .simp at h
 | [],[],_::_,_,h=>by simp[aN]at h
 | [],_::_,_,_,h=>by simp[aN]at h
 | _::_,[],_,_,h=>by simp[aN]at h
 | _::_,_::_,[],_,h=>by simp[aN]at h
theorem mg{t:TypeId}{A:XN}{agg:Bool}(g:keyOf P t=some (A,agg)){x:Value}{b:Bool}(h:iJ A agg x x=some b)(l:Bool):(Instr.checkKey l 10000 t x).run P w=.ok () w:=by
 unfold keyOf at g;split at g
 next k d=>
  exact lJ d l 9999 x
 .split at g
  next u p=>
   split at g
   .simp at g
   next G=>
    simp[aa₀,ad₀]at g;obtain⟨s,F,rfl,rfl⟩:=g;rcases dL h with ⟨xs,ys,rfl,m,_,h⟩|⟨e,_⟩
    .cases m
     show(Instr.checkKey l (9999+1) t<|.agg xs).run P w=_;rw[Instr.checkKey];simp[Sem.run_bind,run_underlying p,Result.andThen_ok];rw[<-Array.forIn_toList];have c:=rF (P:=P) xs u.toList 0 s b F Wy;generalize u.toList=L at c
     induction L with
     | nil=>simp
     | cons f L r=>
      have⟨E,a,k,v,B⟩:=c f Wc;simp[List.forIn_cons,Sem.run_bind,E,ne_eq,not_false_eq_true,if_true,eX (iv v) B,lJ v l 9998,Result.andThen_ok,Sem.run_pure];exact r (λy q=>c y (by simp[q]))
    .simp at e
  next n e p=>
   split at g
   next k d=>
    split at g
    next o=>
     simp[ab₀,ad₀]at g;obtain⟨rfl,rfl⟩:=g;rcases dL h with ⟨xs,ys,rfl,m,_,h⟩|⟨e,_⟩
     .cases m
      show(Instr.checkKey l (9999+1) t<|.agg xs).run P w=_;rw[Instr.checkKey];simp only[Sem.run_bind,run_underlying p,Result.andThen_ok];simp[Std.Legacy.Range.forIn_eq_forIn_range',Std.Legacy.Range.size,Nat.sub_zero,Nat.add_one_sub_one,Nat.div_one];have I:xs.size=n:=by have:=qp h;simpa using this
      have c:∀i ∈ List.range' 0 n,∃a,xs[i]?=some a:=λi D=>by
       simp at D;exact⟨_,Array.getElem?_eq_getElem byO⟩
      generalize List.range' 0 n=z at c
      induction z with
      | nil=>simp
      | cons j z r=>
       have⟨a,C⟩:=c j Wc;simp[List.forIn_cons,Sem.run_bind,aW o,Nat.mul_one,eX (iv d) C,lJ d l 9998,Result.andThen_ok,Sem.run_pure];exact r (λy q=>c y (by simp[q]))
     .simp at e
    .simp at g
   .simp at g
  .simp at g
def oI{t:TypeId}{d:XN}{agg:Bool}(c:keyOf P t=some (d,agg))(k:Value):∀(a:List MapEntry) (i:Nat) (r:Option<|Nat×Value),eJ d agg k (a.flatMap λe=>[e.key,e.val]) i=some r ->
  (Instr.findAsking t k a i).run P w=.ok r w
 | [],i,r,h=>by simp[eJ]at h;subst h;simp[Instr.findAsking]
 | e::a,i,r,h=>by
  simp[List.flatMap_cons,am₀,List.nil_append,eJ]at h;split at h
  next b=>
   simp at h;subst h
   simp[Instr.findAsking,Sem.run_bind,rK c b,Result.andThen_ok,if_true,Sem.run_pure]
  next b=>
   simp[Instr.findAsking,Sem.run_bind,rK c b,Result.andThen_ok,ah₀,if_false];exact oI c k a (i+1) r h
  .simp at h
def rR{g:XN}{agg:Bool}{d:TypeDesc}{x y:Value}{b c:Bool}(h:iJ g agg x y=some b)(f:Instr.sameNow d x y=some c):c=b:=by
 unfold Instr.sameNow at f;split at f
 next k a i a'=>
  split at f
  next e=>
   subst e
   simp at f;subst f;rcases dL h with ⟨_,_,e,_⟩|⟨_,h⟩
   .simp at e
   .have⟨q,_,h⟩:=fQ h
    unfold gp at h;split at h<;>simp_all
  .simp at f
 next a a'=>
  simp at f;subst f;rcases dL h with ⟨_,_,e,_⟩|⟨_,h⟩
  .simp at e
  .have⟨q,_,h⟩:=fQ h
   rw[beq_toListBytes];unfold gp at h;split at h<;>simp_all
 next a a'=>
  simp at f;subst f;rcases dL h with ⟨_,_,e,_⟩|⟨_,h⟩
  .simp at e
  .have⟨q,_,h⟩:=fQ h
   unfold gp at h;split at h<;>simp_all
 .simp at f
theorem rG{g:XN}{agg:Bool}(d:TypeDesc)(k:Value):∀(b:List MapEntry) (i:Nat) (r r':Option<|Nat×Value),eJ g agg k (b.flatMap λe=>[e.key,e.val]) i=some r->Instr.findNow d k b i=some r'->r'=r
 | [],i,r,r',h,a=>by simp[eJ]at h;simp[Instr.findNow]at a;rw[<-h,<-a]
 | e::b,i,r,r',h,a=>by
  simp[List.flatMap_cons,am₀,List.nil_append,eJ]at h;simp[Instr.findNow]at a;split at a
  next f=>
   split at h
   .simp at h a;rw[<-h,<-a]
   next c=>exact absurd (rR c f) Wc
   .simp at h
  next f=>
   split at h
   next c=>exact absurd (rR c f) Wc
   .exact rG d k b (i+1) r r' h a
   .simp at h
  .simp at a
def ze{t:TypeId}{q:XN×Bool}(a:keyOf P t=some q):∃d,P.underlying t=some d:=by
 cases h:P.underlying t with
 | some d=>exact⟨d,rfl⟩
 | none=>simp[keyOf,iP,h]at a
theorem oZ{t:TypeId}{c:XN}{agg:Bool}(b:keyOf P t=some (c,agg)){k:Value}{a:Array MapEntry}{r:Option<|Nat×Value}(h:eJ c agg k (iz a) 0=some r) :
  (Instr.findKey t k a.toList).run P w=.ok r w:=by
 have⟨d,e⟩:=ze b;simp[Instr.findKey,Sem.run_bind,run_underlying e,Result.andThen_ok];split
 next r' f=>
  rw[rG d k a.toList 0 r r' h f];simp
 .exact oI b k a.toList 0 r h
inductive FRel (φ:Map):Option (Nat×Value)->Option (Nat×Value)->Prop where
 | none:FRel φ none none
 | some (i:Nat) (v v':Value) (h:VRel φ v v'):FRel φ (some (i,v))<|some (i,v')
def qJ{l:XN}{agg:Bool}{k:Value}(d:VRel φ k k):∀(n:Nat) (c c':XV) (i:Nat) (r:Option<|Nat×Value),c.length<=n->LRel φ c c'->eJ l agg k c i=some r->∃r',eJ l agg k c' i=some r'/\FRel φ r r'
 | _,[],c',i,r,_,b,h=>by rw[b.of_nil];simp[eJ]at h;subst h;exact⟨none,rfl,.none⟩
 | _,[_],c',i,r,_,b,h=>by simp[eJ]at h
 | 0,x::y::c,c',i,r,e,b,h=>by simp at e
 | n+1,x::y::c,c',i,r,e,b,h=>by
  obtain⟨x',p,rfl,j,f⟩:=b.of_cons;obtain⟨o,t,rfl,m,g⟩:=f.of_cons;simp[eJ]at h ⊢;split at h
  next a=>
   obtain⟨_,rfl⟩:=qO a d j;rw[a];simp at h;subst h;exact⟨_,rfl,.some i y o m⟩
  next a=>
   obtain⟨_,rfl⟩:=qO a d j;rw[a];exact qJ d n c t (i+1) r (by simp at e;omega) g h
  .simp at h
def o6{d:XN}{agg:Bool}{k c:Value}{b:Bool}(h:iJ d agg k k=some b)(a:VRel φ k c):c=k:=(qO h a a).1
def Jp{t:TypeId}{z:Value}(h:zeroV P t=some z):(zeroValue t).run P w=.ok z w/\VRel φ z z:=by
 unfold zeroV at h;split at h
 next i a=>
  split at h
  next v c=>
   split at h
   next b=>simp at h;subst h;exact⟨bP a c,iS φ b⟩
   .simp at h
  .simp at h
 .simp at h
def zS{z:Value}{f:Bool}{r r':Option<|Nat×Value}(g:VRel φ z z)(h:FRel φ r r'):VRel φ (getM z f r)<|getM z f r':=by
 have d:∀{a b:Value} (q:Bool),VRel φ a b->VRel φ (.tuple #[a,.bool q]) (.tuple #[b,.bool q]):=λq h=>by
  refine .tuple _ _ rfl λj x y c e=>?_
  match j,c,e with
  | 0,c,e=>simp at c e;subst c e;exact h
  | 1,c,e=>simp at c e;subst c e;exact .bool q
  | j+2,c,_=>simp at c
 cases h with
 | none=>cases f<;>simp[getM,ah₀,if_false,if_true];exact g;exact d false g
 | some i v k h=>cases f<;>simp[getM,ah₀,if_false,if_true];exact h;exact d true h
def Ec(L:CRel φ H w){t u y:TypeId}{B:XN}{agg j:Bool}{z:Value}(A:P.underlying t=some (.map u y))(h:keyOf P u=some (B,agg))(R:zeroV P y=some z)
  {m C k s v:Value} (O:VRel φ m C) (e:VRel φ k s) (f:aG (.mget B agg z j) [m,k] H=some v):∃x,(Instr.lookup t C s j).run P w=.ok x w/\VRel φ v x:=by
 have⟨D,E⟩:=Jp (φ:=φ) (w:=w) R;cases O<;>simp only[aG]at f<;>try (simp at f;done)
 .simp only[aa₀]at f
  obtain⟨b,g,rfl⟩:=f;obtain rfl:=o6 g e;refine⟨getM z j none,?_,zS E .none⟩;have n:(Instr.findKey u s (#[]:Array MapEntry).toList).run P w=.ok none w:=oZ h (by simp[iz,eJ]);simp[Instr.lookup,Sem.run_bind,run_underlying A,Result.andThen_ok,Sem.run_pure,mg h g,n,D];rfl
 next i p Q=>
  simp only[ae₀,aa₀]at f;obtain⟨c,M,b,g,r,n,rfl⟩:=f;obtain rfl:=o6 g e;have⟨o,a⟩:=Map.of_some.1 Q;rcases L i c p M o with ⟨J,_⟩|⟨_,I,d,F,G⟩|⟨l,_⟩
  .rw[J]at a;simp at a
  .have⟨r',K,l⟩:=qJ e c.length c _ 0 r (Nat.le_refl _) G n
   refine⟨getM z j r',?_,zS E l⟩;have N:(getObj p.b).run P w=.ok (.map I d) w:=by simp[getObj,Sem.run,F]
   simp only[Instr.lookup,Sem.run_bind,run_underlying A,Result.andThen_ok,Sem.run_pure,N,mg h g,oZ h K];cases r' with
   | none=>simp[Sem.run_bind,D,Result.andThen_ok,Sem.run_pure];rfl
   | some q=>simp[Sem.run_pure,Result.andThen_ok];rfl
  .rw[l]at a;simp at a
end
section
variable {P:Program}{φ:Map}{H:Heap}{w:World}
theorem FB{a:List Field}{b:List<|Nat×Nat}(h:iq P a=some b) :
  (a.mapM (λf=>do pure (f.offset,<-sizeOf f.type):Field->Sem (Nat×Nat))).run P w=.ok b w:=by
 induction a generalizing b with
 | nil=>simp[iq]at h;subst h;simp
 | cons f a e=>
  simp[iq,ae₀,aa₀]at h;obtain⟨n,c,r,d,rfl⟩:=h;rw[List.mapM_cons];simp only[Sem.run_bind,aW c,e d,Result.andThen_ok,Sem.run_pure]
def DN{f:List<|Nat×Nat}:∀{c:XN} {b:List<|Nat×Nat},jr f c=some b->c.length=b.length/\∀(j:Nat) i p,c[j]?=some i->b[j]?=some p->f[i]?=some p
 | [],b,h=>by simp[jr]at h;subst h;simp
 | i::c,b,h=>by
  simp[jr]at h;split at h
  next q l=>
   simp[aa₀]at h;obtain⟨r,m,rfl⟩:=h;have⟨g,k⟩:=DN m;refine⟨by simp[g],λj a p d e=>?_⟩;cases j with
   | zero=>simp at d e;subst d e;exact l
   | succ j=>exact k j a p XL Yc
  .simp at h
def qi(parts:List<|Nat×Operand)(a:Operand->Value):parts.map (λ(p:Nat×Operand)=>(p.1,a p.2))=(parts.map (·.1)).zip ((parts.map (·.2)).map a):=by
 induction parts with
 | nil=>rfl
 | cons p r b=>simp[b]
def GN{t:TypeId}{parts:Array<|Nat×Operand}{l:ROp}{xs:List Operand}(h:an P (.build t parts)=some (l,xs)){g b:Operand->Value}(u:∀x ∈ xs,VRel φ (g x)<|b x){v:Value} :
  ∃l',l=.l l'/\(aG l' (xs.map g) H=some v->∃K,(Instr.build t<|parts.map λ(i,x)=>(i,b x)).run P w=.ok K w/\VRel φ v K):=by
 simp[an]at h;have c:(parts.map λ(p:Nat×Operand)=>(p.1,b p.2)).toList=(parts.toList.map (·.1)).zip ((parts.toList.map (·.2)).map b):=by
  rw[Array.toList_map];exact qi parts.toList b
 split at h
 next N z I J=>
  simp[ae₀,aa₀,ad₀]at h;obtain⟨M,G,Q,F,rfl,rfl⟩:=h;refine⟨_,rfl,λs=>?_⟩;obtain⟨i,T,C,k,rfl,r,d⟩:=fG J;simp only[aG,aa₀]at s;obtain⟨l,D,rfl⟩:=s;have⟨R,S⟩:=DN F;have⟨l',o,q⟩:=pI (λi=>M.toArray[i]?) Q _ _ _ _ _ l R (λj a p A B=>by simpa using S j a p A B) (LRel.map_left g b _ u) (cK φ d) D;refine⟨.agg l'.toArray,?_,.agg _ _ (by simp[q.1]) (by simpa using q.2)⟩;have E:(N.mapM (λf=>do pure (f.offset,<-sizeOf f.type):Field->Sem (Nat×Nat))).run P w=.ok M.toArray w:=by
   rw[Array.mapM_eq_mapM_toList,Sem.run_map,FB G];rfl
  simp only[Instr.build,Sem.run_bind,bP C k,Result.andThen_ok,run_underlying I,E,c];simp only[Array.toArray_toList]at o;rw[o];rfl
 next n e z I J=>
  simp[aa₀,ad₀]at h;obtain⟨m,E,rfl,rfl⟩:=h;refine⟨_,rfl,λs=>?_⟩;obtain⟨i,T,C,k,rfl,r,d⟩:=fG J;simp only[aG,aa₀]at s;obtain⟨l,D,rfl⟩:=s;have⟨l',o,q⟩:=pI (λi=>some (i*m,m)) _ (parts.toList.map (·.1)) _ _ _ _ l Wc (λj a p A B=>by
    simp only[az₀,aa₀]at A B;obtain⟨x,O,rfl⟩:=A;obtain⟨y,L,rfl⟩:=B;rw[O]at L;cases L;rfl) (LRel.map_left g b _ u) (cK φ d) D
  refine⟨.agg l'.toArray,?_,.agg _ _ (by simp[q.1]) (by simpa using q.2)⟩;simp only[Instr.build,Sem.run_bind,bP C k,Result.andThen_ok,run_underlying I,aW E,c];simp only[Array.toArray_toList]at o;rw[o];rfl
 .simp at h
def qH{t e:TypeId}(b:P.underlying t=some (.slice e))(d:Nat)(a:Option Addr)(l c l' c':Nat) :
  (Op.equalIn (d+1) t (.slice a l c)<|.slice none l' c').run P w=.ok a.isNone w:=by simp[Op.equalIn,Sem.run_bind,run_underlying b,Result.andThen_ok];cases a<;>rfl
def tP{t e:TypeId}(b:P.underlying t=some (.pointer e))(d:Nat)(a:Option Addr) :
  (Op.equalIn (d+1) t (.pointer a)<|.pointer none).run P w=.ok a.isNone w:=by simp[Op.equalIn,Sem.run_bind,run_underlying b,Result.andThen_ok];cases a<;>rfl
def AA{d b:Array Value}{a n:Nat}{agg:Bool}{v:Value}(e:d.size=b.size)(c:∀(j:Nat) x y,d[j]?=some x->b[j]?=some y->VRel φ x y)
  (h:(if agg then(if a+n<=d.size then some (Value.agg<|d.extract a<|a+n) else none) else d[a]?)=some v) :
  ∃k,(if agg then(if a+n<=b.size then some (Value.agg<|b.extract a<|a+n) else none) else b[a]?)=some k/\VRel φ v k:=by
 cases agg
 .simp[ah₀,if_false]at h ⊢
  have i:a<b.size:=by rw[<-e];exact(Array.getElem?_eq_some_iff.1 h).1
  have l:b[a]?=some b[a]:=Array.getElem?_eq_getElem i;exact⟨_,l,c _ _ _ h l⟩
 .simp only[if_true]at h ⊢
  split at h
  next m=>
   rw[if_pos byO];simp at h;subst h;refine⟨_,rfl,.agg _ _ Yf λj x y f g=>?_⟩;rw[Array.getElem?_extract]at f g;split at f
   .split at g
    .exact c _ _ _ f g
    .simp at g
   .simp at f
  .simp at h
def bG{s:Sem Value}{a:Value}(h:s.run P w=.ok a w):(do pure (Next.value<|<-s):Sem Next).run P w=.ok (.value a) w:=by simp[Sem.run_bind,h,Result.andThen_ok,Sem.run_pure]
def wS{l l':XV}(a:Bool)(e:LRel φ l l'){v:Value}(b:aG (.minmax a) l H=some v) :
  ∃c,((if a then Builtin.max_ #[] 0 l'.toArray else Builtin.min_ #[] 0 l'.toArray)).run P w=.ok c w/\VRel φ v c:=by
 cases l with
 | nil=>simp[aG]at b
 | cons x r=>
  obtain⟨x',r',rfl,g,f⟩:=e.of_cons;simp[aG]at b;split at b
  .cases g
   obtain⟨d,k,n,rfl⟩:=tb (P:=P) (w:=w) a r r' _ v f b ⟨_,_,rfl⟩;refine⟨_,?_,.int _ _⟩;cases a
   .simpa[Builtin.min_]using d
   .simpa[Builtin.max_]using d
  .simp at b
theorem pG{c:Operand->Value}{dst:Option Tmp}{b:Builtin}{args:Array Operand}{argTypes:Array TypeId}{type:TypeId}{pos:String}{a:Array Edge}{guard:Option<|Nat×Bool} :
  (execOp c ⟨dst,.call ⟨.builtin b,args,argTypes⟩,type,pos,a,guard⟩).run P w =
   (builtin b argTypes type (args.map λ| .const _=>true|_=>false)<|args.map c).run P w:=by simp[execOp,Go.resolve,Sem.run_bind,Sem.run_pure,Result.andThen_ok,invoke];rfl
set_option maxHeartbeats 1000000 in
def pN{o:Oper}{l:LOp}{xs:List Operand}(h:an P o.op=some (.l l,xs)){B A:Operand->Value}(D:∀x ∈ xs,VRel φ (B x)<|A x)(hH:CRel φ H w)
  {v:Value} (g:aG l (xs.map B) H=some v):∃G,(execOp A o).run P w=.ok (.value G) w/\VRel φ v G:=by
 obtain⟨dst,op,type,pos,x0,guard⟩:=o;cases op<;>simp only[an]at h
 case move x=>
  simp at h;obtain⟨rfl,rfl⟩:=h;simp[aG]at g;subst g;exact⟨_,by simp[execOp],D x Wc⟩
 case assign x=>
  simp at h;obtain⟨rfl,rfl⟩:=h;simp[aG]at g;subst g;exact⟨_,by simp[execOp],D x Wc⟩
 case pick c a b=>
  simp at h;obtain⟨rfl,rfl⟩:=h;have hc:=D c Wc;have ha:=D a Wc;have R:=D b Wc;simp only[ag₀,al₀]at g;generalize B c=G at hc g;cases z0:G<;>subst z0<;>simp[aG]at g;rename_i bv;cases q0:A c<;>rw[q0]at hc<;>cases hc;subst g;cases bv
  .exact⟨A b,by simp[execOp,q0,asBool],by simpa using R⟩
  .exact⟨A a,by simp[execOp,q0,asBool],by simpa using ha⟩
 case alloc t=>cases N:zeroOf P t<;>simp[N]at h
 case box=>simp at h
 case build t parts=>
  obtain⟨l',I,J⟩:=GN (P:=P) (φ:=φ) (H:=H) (w:=w) (t:=t) (parts:=parts) (l:=.l l) (xs:=xs) (by simpa only[an]using h) D (v:=v);cases I;obtain⟨G,F,K⟩:=J g;exact⟨G,XQ,K⟩
 case buildSlice t len parts=>repeat' (first|(simp at h;done)|split at h|(simp only[ae₀]at h;obtain⟨z,_,h⟩:=h))
 case load t a=>
  split at h
  next agg n ha hn=>
   simp at h;obtain⟨rfl,rfl⟩:=h;obtain⟨G,F,K⟩:=Ct hH ha hn (D a Wc) g;exact⟨G,XQ,K⟩
  .simp at h
 case store t a x=>cases N:fB P t<;>simp[N]at h
 case nilCheck x=>
  simp at h;obtain⟨rfl,rfl⟩:=h;have C:=D x Wc;simp only[ag₀,al₀]at g;simp only[execOp];generalize B x=a at C g;generalize A x=c at C;cases C<;>simp[aG]at g
  .subst g;rename_i i o p hp;exact⟨_,Wc,.ptr i o p hp⟩
  .subst g;rename_i i z p hp;exact⟨_,Wc,.iter i z p hp⟩
  .subst g;rename_i f a b a' b' ha R ra rb;exact⟨_,Wc,.func f a b a' b' ha R ra rb⟩
 case binOp op t x y u=>
  simp only[aa₀,ad₀,ROp.l.injEq]at h;obtain⟨l',L,rfl,rfl⟩:=h;have C:=D x Wc;have T:=D y Wc;simp only[ag₀,al₀]at g;simp only[execOp];unfold JF at L;have Q:∀{G:Value},(eqGuard op t x y (A x)<|A y).run P w=.ok () w->(binOp op t (A x)<|A y).run P w=.ok G w ->
    (do pure (Next.value<|<-(do eqGuard op t x y (A x) (A y);binOp op t (A x)<|A y)):Sem Next).run P w=.ok (.value G) w:=by
   intro G F K;simp only[Sem.run_bind,F,K,Result.andThen_ok,Sem.run_pure]
  have O:aG (.bin op) [B x,B y] H=some v->∃G,(do pure (Next.value<|<-(do eqGuard op t x y (A x) (A y);binOp op t (A x)<|A y)):Sem Next).run P w=.ok (.value G) w/\VRel φ v G:=by
   intro g;simp only[aG]at g;have R:=Oe (P:=P) (w:=w) (t:=t) g;have U:A x=B x/\A y=B y:=by
    unfold aZ at g;split at g
    .rename_i I J;rw[I]at C;rw[J]at T;rw[I,J]
     generalize A x=p' at C ⊢;generalize A y=q' at T ⊢;cases C;cases T;exact⟨rfl,rfl⟩
    .rename_i I J;rw[I]at C;rw[J]at T;rw[I,J]
     generalize A x=p' at C ⊢;generalize A y=q' at T ⊢;cases C;cases T;exact⟨rfl,rfl⟩
    .simp at g
   rw[U.1,U.2];refine⟨v,by rw[<-U.1,<-U.2];refine Q (by rw[U.1,U.2];exact R.2 x y) (by rw[U.1,U.2];exact R.1),?_⟩;unfold aZ at g;split at g
   .have:bU v=true:=by
     unfold iE az at g;repeat' split at g
     all_goals (first|(simp at g;done)|(simp at g;subst g;rfl))
    exact gS φ this
   .have:bU v=true:=by
     unfold oP at g;repeat' split at g
     all_goals (first|(simp at g;done)|(simp at g;subst g;rfl))
    exact gS φ this
   .simp at g
  split at L
  .simp at L;subst L;exact O g
  .simp at L;subst L;exact O g
  next E=>
   have w0:∀neg,aG (.eqB neg) [B x,B y] H=some v->∃a b,A x=.bool a/\A y=.bool b/\v=.bool ((a==b) != neg):=by
    intro neg g;generalize B x=p at C g;generalize B y=q at T g;generalize A x=p' at C ⊢;generalize A y=q' at T ⊢;cases C<;>cases T<;>simp[aG]at g;exact⟨_,_,rfl,rfl,g.symm⟩
   split at L<;>simp at L<;>subst L
   .obtain⟨a,b,I,J,rfl⟩:=w0 _ g
    exact⟨_,Q Xn (by rw[I,J];simp only[binOp,Sem.run_bind,run_equal_bool w t a b E,Result.andThen_ok,Sem.run_pure];rfl),Xj⟩
   .obtain⟨a,b,I,J,rfl⟩:=w0 _ g
    exact⟨_,Q Xn (by rw[I,J];simp only[binOp,Sem.run_bind,run_equal_bool w t a b E,Result.andThen_ok,Sem.run_pure];rfl),Xj⟩
  .have s0:∀neg ks,aG (.eqA neg ks) [B x,B y] H=some v->∃a b r,A x=.agg a/\A y=.agg b/\aN ks a.toList b.toList=some r/\v=.bool (r != neg):=by
    intro neg ks g;generalize B x=p at C g;generalize B y=q at T g;generalize A x=p' at C ⊢;generalize A y=q' at T ⊢;cases C<;>cases T<;>simp only[aG]at g<;>try (simp at g;done)
    rename_i xs X0 F K ys Y0 h3 h4;simp only[aa₀]at g;obtain⟨r,h,rfl⟩:=g;obtain⟨I,J⟩:=mL h (LRel.arr.2 ⟨F,K⟩)<|LRel.arr.2 ⟨h3,h4⟩;exact⟨X0,Y0,r,rfl,rfl,by rw[I,J];exact h,rfl⟩
   split at L<;>try (simp at L;done)
   all_goals simp only[aa₀]at L
   .obtain⟨ks,hk,rfl⟩:=L
    obtain⟨a,b,r,I,J,e3,rfl⟩:=s0 _ _ g;obtain⟨g1,g2⟩:=HY (P:=P) (w:=w) hk e3;exact⟨_,Q (by rw[I,J];exact g2 _ _ _) (by rw[I,J,run_eql_struct,g1];rfl),Xj⟩
   .obtain⟨ks,hk,rfl⟩:=L
    obtain⟨a,b,r,I,J,e3,rfl⟩:=s0 _ _ g;obtain⟨g1,g2⟩:=HY (P:=P) (w:=w) hk e3;exact⟨_,Q (by rw[I,J];exact g2 _ _ _) (by rw[I,J,run_neq_struct,g1];rfl),Xj⟩
  next n e E=>
   have r0:nb P t=none:=by simp[nb,E]
   split at L<;>simp[r0]at L
  next e E=>
   have a0:∀neg,aG (.eqN neg) [B x,B y] H=some v->∃a l c l' c',A x=.slice a l c/\A y=.slice none l' c'/\v=.bool (a.isNone != neg):=by
    intro neg g;generalize B x=p at C g;generalize B y=q at T g;generalize A x=p' at C ⊢;generalize A y=q' at T ⊢;cases C<;>cases T<;>simp[aG]at g<;>subst g<;>simp
   have g0:∀a l c l' c',(Op.equal t (.slice a l c)<|.slice none l' c').run P w=.ok a.isNone w:=by
    intro a l c l' c';exact qH E 9999 a l c l' c'
   split at L<;>simp at L<;>subst L
   .obtain⟨a,l,c,l',c',I,J,rfl⟩:=a0 _ g
    exact⟨_,Q Xn Xd,Xj⟩
   .obtain⟨a,l,c,l',c',I,J,rfl⟩:=a0 _ g
    exact⟨_,Q Xn Xd,Xj⟩
  next e E=>
   have a0:∀neg,aG (.eqP neg) [B x,B y] H=some v->∃a,A x=.pointer a/\A y=.pointer none/\v=.bool (a.isNone != neg):=by
    intro neg g;generalize B x=p at C g;generalize B y=q at T g;generalize A x=p' at C ⊢;generalize A y=q' at T ⊢;cases C<;>cases T<;>simp[aG]at g<;>subst g<;>simp
   have g0:∀a,(Op.equal t (.pointer a)<|.pointer none).run P w=.ok a.isNone w:=by
    intro a;exact tP E 9999 a
   split at L<;>simp at L<;>subst L
   .obtain⟨a,I,J,rfl⟩:=a0 _ g
    exact⟨_,Q Xn Xd,Xj⟩
   .obtain⟨a,I,J,rfl⟩:=a0 _ g
    exact⟨_,Q Xn Xd,Xj⟩
  .simp at L
 case unOp op t x=>
  simp at h;obtain⟨rfl,rfl⟩:=h;have C:=D x Wc;simp only[ag₀,al₀]at g;simp only[execOp];generalize B x=a at C g;generalize A x=c at C ⊢;cases op<;>cases C<;>simp only[aG]at g<;>try (simp at g;done)
  .simp at g;subst g;exact⟨_,bG (by simp[Op.unary,Op.intArith]),.int _ _⟩
  .simp[az]at g;subst g;exact⟨_,bG (by simp[Op.unary,Op.intBits]),.int _ _⟩
  .simp at g;subst g;exact⟨_,bG (by simp[Op.unary]),.bool _⟩
 case convert a1 dst x=>
  have C:xs=[x]->VRel φ (B x) (A x):=λe=>D x Yf;split at h
  next k k' W e0=>
   simp at h;obtain⟨rfl,rfl⟩:=h;have C:=C rfl;simp only[ag₀,al₀]at g;simp only[execOp];generalize B x=a at C g;generalize A x=c at C ⊢;cases C<;>simp[aG]at g;subst g;exact⟨_,bG (by simp only[convert,Sem.run_bind,run_underlying W,run_underlying e0,Result.andThen_ok];rfl),.int _ _⟩
  next e W e0=>
   split at h
   next T0=>
    simp at h;obtain⟨rfl,rfl⟩:=h;obtain⟨F,K⟩:=O1 (P:=P) hH (C rfl) g;have C:=C rfl;simp only[ag₀,al₀]at g;simp only[execOp];refine⟨v,bG ?_,K⟩;simp only[convert,Sem.run_bind,run_underlying W,run_underlying e0,Result.andThen_ok];generalize B x=a at C g;generalize A x=c at C F ⊢;cases C<;>simp only[aG]at g<;>try (simp at g;done)
    all_goals simp only[Sem.run_bind,run_underlying T0,Result.andThen_ok];exact F
   .simp at h
  next W e0=>
   simp at h;obtain⟨rfl,rfl⟩:=h;have C:=C rfl;simp only[ag₀,al₀]at g;simp only[execOp];generalize B x=a at C g;generalize A x=c at C ⊢;cases C<;>simp[aG]at g;subst g;exact⟨_,bG (by simp only[convert,Sem.run_bind,run_underlying W,run_underlying e0,Result.andThen_ok];rfl),.string _⟩
  .split at h<;>simp at h
  .split at h
   .split at h<;>simp at h
   .simp at h
  .simp at h
 case makeInterface t x=>
  split at h
  .simp at h
  next d W E=>
   simp at h;obtain⟨rfl,rfl⟩:=h;simp[aG]at g;subst g;refine⟨.iface t<|A x,?_,.iface _ _ _<|D x Wc⟩;simp only[execOp];apply bG;simp only[Instr.makeInterface,Sem.run_bind,run_underlying E,Result.andThen_ok];rfl
  .simp at h
 case makeFunc fn X Z=>
  cases fn<;>simp at h;rename_i f;obtain⟨rfl,rfl⟩:=h;simp only[aG,ab₀]at g;subst g;refine⟨.func (.func f) (X.map A)<|Z.map A,by simp[execOp,Instr.makeFunc],?_⟩;have L:=LRel.map_left B A _ D;have F:=L.take X.size
  have K:=L.drop X.size
  simp only[List.map_append]at F K ⊢;rw[List.take_left' Wc,List.take_left' Wc]at F;rw[List.drop_left' Wc,List.drop_left' Wc]at K;rw[List.take_left' Wc,List.drop_left' Wc];exact .func f _ _ _ _ Wc Wc (by simpa using F.2) (by simpa using K.2)
 case makeSlice t l c=>repeat' (first|(simp at h;done)|split at h|(simp only[ae₀]at h;obtain⟨z,_,h⟩:=h))
 case slice t x lo S mx=>
  simp only[execOp];split at h
  next n e E=>
   simp only[aa₀,ad₀,ROp.l.injEq]at h;obtain⟨sz,N,rfl,rfl⟩:=h;obtain⟨G,F,K⟩:=RA (P:=P) (w:=w) E N D g;exact⟨G,bG F,K⟩
  next e E=>
   simp only[aa₀,ad₀,ROp.l.injEq]at h;obtain⟨sz,N,rfl,rfl⟩:=h;obtain⟨G,F,K⟩:=TK (P:=P) (w:=w) E N D g;exact⟨G,bG F,K⟩
  next E=>
   split at h
   .simp at h
   next hm=>
    simp only[ab₀,ad₀,ROp.l.injEq]at h;obtain⟨rfl,rfl⟩:=h;obtain rfl:mx=none:=by cases mx<;>simp_all
    obtain⟨G,F,K⟩:=RB (P:=P) (w:=w) E D g;exact⟨G,bG F,K⟩
  .simp at h
 case fieldAddr s x f=>
  simp only[execOp];split at h<;>try (simp at h;done)
  rename_i fs E;split at h<;>try (simp at h;done)
  rename_i fl hf;split at h<;>try (simp at h;done)
  rename_i n hn;split at h<;>try (simp at h;done)
  rename_i Z0;simp at h;obtain⟨rfl,rfl⟩:=h;have C:=D x Wc;simp only[ag₀,al₀]at g;generalize B x=a at C g;generalize A x=c at C ⊢;cases C<;>simp only[aG]at g<;>try (simp at g;done)
  rename_i i o p hp;simp at g;subst g;refine⟨.pointer<|some ⟨p.b,p.s+(o+fl.offset),none⟩,bG ?_,.ptr i _ p hp⟩;simp only[Instr.fieldAt,Sem.run_bind,run_underlying E,Result.andThen_ok,hf,Instr.sureAddr,Sem.run_pure,fieldPlace,aW hn,Sem.run_ite];rw[if_neg byO];simp[de,Nat.add_assoc]
 case field t x f=>
  simp only[execOp];split at h<;>try (simp at h;done)
  rename_i fs E;split at h<;>try (simp at h;done)
  rename_i fl hf;split at h<;>try (simp at h;done)
  rename_i n agg hn b0;simp at h;obtain⟨rfl,rfl⟩:=h;have C:=D x Wc;simp only[ag₀,al₀]at g;generalize B x=a at C g;generalize A x=c at C ⊢;cases C<;>simp only[aG]at g<;>try (simp at g;done)
  rename_i cs M c0 V;obtain⟨G,F,K⟩:∃G,(if agg then(if fl.offset+n<=M.size then some (Value.agg<|M.extract fl.offset<|fl.offset+n) else none) else M[fl.offset]?)=some G/\VRel φ v G:=AA c0 V g;refine⟨G,bG ?_,K⟩;simp only[Instr.field,Sem.run_bind,run_underlying E,Result.andThen_ok,hf,asAgg,Sem.run_pure,DM hn b0 F]
 case indexAddr t x i=>
  simp only[execOp];split at h
  next e E=>
   simp only[aa₀,ad₀,ROp.l.injEq]at h;obtain⟨sz,N,rfl,rfl⟩:=h;have C:=D x Wc;have S:=D i Wc;simp only[ag₀,al₀]at g;generalize B x=a at C g;generalize A x=c at C ⊢;generalize B i=b at S g;generalize A i=d at S ⊢;cases S<;>cases C<;>simp only[aG]at g<;>try (simp at g;done)
   next k n j o l c p hp=>
    split at g
    next R=>
     simp at g;subst g;refine⟨.pointer<|some ⟨p.b,p.s+(o+n.toNat*sz),none⟩,bG ?_,.ptr j _ p hp⟩;simp only[Instr.indexAt,asIntOf,Sem.run_bind,Sem.run_pure,run_underlying E,Result.andThen_ok,Sem.run_ite,if_pos R,aW N];simp[de,Nat.add_assoc]
    .simp at g
   next k n j o l c z p o' c' hp hc L ho hn=>
    split at g
    next R=>
     simp at g;subst g;obtain rfl:o'=o:=ho.resolve_right byO;refine⟨.pointer<|some ⟨p.b,p.s+(o'+n.toNat*sz),none⟩,bG ?_,.ptr j _ p hp⟩;simp only[Instr.indexAt,asIntOf,Sem.run_bind,Sem.run_pure,run_underlying E,Result.andThen_ok,Sem.run_ite,if_pos R,aW N];simp[de,Nat.add_assoc]
    .simp at g
   .split at g
    next R=>
     exact absurd R.2 (by have:=R.1;simp;omega)
    .simp at g
  next m e E=>
   simp only[aa₀,ad₀,ROp.l.injEq]at h;obtain⟨sz,N,rfl,rfl⟩:=h;have C:=D x Wc;have S:=D i Wc;simp only[ag₀,al₀]at g;generalize B x=a at C g;generalize A x=c at C ⊢;generalize B i=b at S g;generalize A i=d at S ⊢;cases S<;>cases C<;>simp only[aG]at g<;>try (simp at g;done)
   rename_i k n j o p hp;split at g
   next R=>
    simp at g;subst g;refine⟨.pointer<|some ⟨p.b,p.s+(o+n.toNat*sz),none⟩,bG ?_,.ptr j _ p hp⟩;simp only[Instr.indexAt,asIntOf,Sem.run_bind,Sem.run_pure,run_underlying E,Result.andThen_ok,Sem.run_ite,Instr.sureAddr,if_pos R,aW N];simp[de,Nat.add_assoc]
   .simp at g
  .simp at h
 case index t x i=>
  simp only[execOp];split at h
  next m e E=>
   split at h<;>try (simp at h;done)
   rename_i sz agg N b0;simp at h;obtain⟨rfl,rfl⟩:=h;have C:=D x Wc;have S:=D i Wc;simp only[ag₀,al₀]at g;generalize B x=a at C g;generalize A x=c at C ⊢;generalize B i=b at S g;generalize A i=d at S ⊢;cases S<;>cases C<;>simp only[aG]at g<;>try (simp at g;done)
   rename_i k n cs M c0 V;split at g
   next R=>
    obtain⟨G,F,K⟩:∃G,(if agg then(if n.toNat*sz+sz<=M.size then some (Value.agg<|M.extract (n.toNat*sz)<|n.toNat*sz+sz) else none) else M[n.toNat*sz]?)=some G/\VRel φ v G:=AA c0 V g;refine⟨G,bG ?_,K⟩;simp only[Instr.index,asIntOf,Sem.run_bind,Sem.run_pure,run_underlying E,Result.andThen_ok,Sem.run_ite,if_pos R,aW N,DM N b0 F]
   .simp at g
  next E=>
   simp at h;obtain⟨rfl,rfl⟩:=h;have C:=D x Wc;have S:=D i Wc;simp only[ag₀,al₀]at g;generalize B x=a at C g;generalize A x=c at C ⊢;generalize B i=b at S g;generalize A i=d at S ⊢;cases S<;>cases C<;>simp only[aG]at g<;>try (simp at g;done)
   rename_i k n s;split at g
   next R=>
    simp only[aa₀]at g;obtain⟨u,W,rfl⟩:=g;refine⟨_,bG ?_,.int _ _⟩;simp only[Instr.index,asIntOf,Sem.run_bind,Sem.run_pure,run_underlying E,Result.andThen_ok,if_pos R,W]
   .simp at g
  .simp at h
 case extract t i=>
  simp at h;obtain⟨rfl,rfl⟩:=h;simp only[execOp];have C:=D t Wc;simp only[ag₀,al₀]at g;generalize B t=a at C g;generalize A t=c at C ⊢;cases C<;>simp only[aG]at g<;>try (simp at g;done)
  rename_i cs M c0 V;have H0:i<M.size:=by rw[<-c0];exact(Array.getElem?_eq_some_iff.1 g).1
  have F:M[i]?=some M[i]:=Array.getElem?_eq_getElem H0;exact⟨M[i],bG (by simp[Instr.extract,F]),V i _ _ g F⟩
 case typeAssert x xt t ok=>
  cases ok<;>try (simp at h;done)
  split at h<;>try (simp at h;done)
  rename_i fs i E S;split at h<;>try (simp at h;done)
  rename_i cs N;split at h<;>try (simp at h;done)
  rename_i S0;simp at h;obtain⟨rfl,rfl⟩:=h;have C:=D x Wc;simp only[ag₀,al₀]at g;simp only[execOp];generalize B x=xa at g C;generalize A x=xc at C ⊢;have j0:∀{a b:Value} (y:Bool),VRel φ a b->VRel φ (.tuple #[a,.bool y]) (.tuple #[b,.bool y]):=by
   intro a b y y0;refine .tuple _ _ rfl (λj u v E hv=>?_)
   match j,E,hv with
   | 0,E,hv=>simp at E hv;subst E hv;exact y0
   | 1,E,hv=>simp at E hv;subst E hv;exact .bool y
   | j+2,E,_=>simp at E
  have l0:VRel φ (.tuple #[.agg cs.toList.toArray,.bool false])<|.tuple #[.agg cs,.bool false]:=j0 false<|.agg _ _ rfl (λj x y F K=>by
   rw[F]at K;cases K;exact(LRel.arr.1<|cK φ S0).2 j x x F F)
  cases C<;>simp only[aG]at g<;>try (simp at g;done)
  next u v v' hv=>
   cases v<;>simp only[aG]at g<;>try (simp at g;done)
   split at g
   .rename_i e;subst e
    simp at g;subst g;refine⟨_,bG ?_,j0 true hv⟩;simp only[Instr.typeAssert,Sem.run_bind,run_underlying E,Result.andThen_ok,if_true,Sem.run_pure]
   next e=>
    simp at g;subst g;refine⟨_,bG ?_,l0⟩;simp only[Instr.typeAssert,Sem.run_bind,run_underlying E,Result.andThen_ok,if_neg λq=>e<|Eq.symm q,if_true,bP S N,Sem.run_pure]
  .simp at g;subst g
   refine⟨_,bG ?_,l0⟩;simp only[Instr.typeAssert,Sem.run_bind,run_underlying E,Result.andThen_ok,if_true,bP S N,Sem.run_pure]
 case call c=>
  obtain⟨h0,args,argTypes⟩:=c;cases h0<;>try (simp at h;done)
  rename_i b;rw[pG];cases b<;>try (simp at h;done)
  case append=>simp only at h;repeat' (first|(simp at h;done)|split at h)
  case clear=>simp only at h;repeat' (first|(simp at h;done)|split at h)
  case copy=>simp only at h;repeat' (first|(simp at h;done)|split at h|(simp only[aa₀]at h;obtain⟨z,_,h⟩:=h))
  case len=>
   simp only at h;split at h<;>try (simp at h;done)
   rename_i t x ht C;have o0:args.map A=#[A x]:=by
    have:args=#[x]:=by rw[<-Array.toArray_toList (xs:=args),C]
    rw[this];simp
   rw[o0];simp only[builtin];split at h<;>try (simp at h;done)
   next E=>
    simp at h;obtain⟨rfl,rfl⟩:=h;have Y:=D x Wc;simp only[ag₀,al₀]at g;generalize B x=a at Y g;generalize A x=c at Y ⊢;cases Y<;>simp only[aG]at g<;>try (simp at g;done)
    simp at g;subst g;exact⟨_,bG Xo,.int _ _⟩
   next e E=>
    simp at h;obtain⟨rfl,rfl⟩:=h;have Y:=D x Wc;simp only[ag₀,al₀]at g;generalize B x=a at Y g;generalize A x=c at Y ⊢;cases Y<;>simp only[aG]at g<;>try (simp at g;done)
    all_goals (simp at g;subst g;exact⟨_,bG Xo,.int _ _⟩)
   next n e E=>
    simp at h;obtain⟨rfl,rfl⟩:=h;simp only[ag₀,al₀,aG,ab₀]at g;subst g;exact⟨_,bG Xo,.int _ _⟩
  case min=>
   simp at h;obtain⟨rfl,rfl⟩:=h;simp only[builtin];have L:=LRel.map_left B A args.toList D;obtain⟨G,F,K⟩:=wS (P:=P) (w:=w) false L g;have em:(args.toList.map A).toArray=args.map A:=by rw[<-Array.toList_map,Array.toArray_toList]
   rw[em]at F;exact⟨G,bG F,K⟩
  case max=>
   simp at h;obtain⟨rfl,rfl⟩:=h;simp only[builtin];have L:=LRel.map_left B A args.toList D;obtain⟨G,F,K⟩:=wS (P:=P) (w:=w) true L g;have em:(args.toList.map A).toArray=args.map A:=by rw[<-Array.toList_map,Array.toArray_toList]
   rw[em]at F;exact⟨G,bG F,K⟩
 case lookup t x i ok=>
  split at h<;>try (simp at h;done)
  rename_i kt et E;split at h<;>try (simp at h;done)
  rename_i ks agg z hk N;simp at h;obtain⟨rfl,rfl⟩:=h;simp only[ag₀,al₀]at g;obtain⟨G,F,K⟩:=Ec (P:=P) hH E hk N (D x Wc) (D i Wc) g;exact⟨G,XQ,K⟩
 case makeMap t r=>cases r<;>simp only at h<;>(repeat' (first|(simp at h;done)|split at h))
 all_goals (repeat' (first|(simp at h;done)|split at h))
end
end Go.Abs
