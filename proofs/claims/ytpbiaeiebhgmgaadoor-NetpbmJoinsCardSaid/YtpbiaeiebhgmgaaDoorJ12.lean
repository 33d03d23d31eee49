/- Strings and bytes in the abstract machine. What every law of this seat needs of the program: its variables, and the arguments of the laws. Netpbm: decimal digits, as strconv has them for small numbers, and as the reference has them. Netpbm: the digits of small numbers as strconv writes them. Netpbm: strconv.AppendInt for numbers up to 4096. -/
import Derived.Test.YtpbiaeiebhgmgaaDoorJ11
import Derived.Test.YtpbiaeiebhgmgaaDoorRows
import Derived.Test.YtpbiaeiebhgmgaaDoorTie
import Derived.Test.YtpbiaeiebhgmgaaDoorCards
import Derived.Lay
set_option linter.unusedVariables false
set_option linter.unusedSimpArgs false
set_option linter.unusedSectionVars false
namespace Go.Proofs.YtpbiaeiebhgmgaaDoor
open Go.Abs
set_option linter.unusedSimpArgs false
set_option linter.unusedVariables false
theorem uL_one(l:List UInt8):oneCells (uL l)=true:=by
 simp[oneCells,uL,encU,Value.oneCell']
section
variable {lo:Nat}{H:Heap}
theorem str_size(l:List UInt8):(ByteArray.mk l.toArray).size=l.length:=by simp[ByteArray.size]
theorem wpH_appS{cp:FuncId→Option CF}{z:List Value}{v:Value}{b:Nat}{cells:List Value}{l:List UInt8}{R:Value→Heap→Prop}(ho:Own lo 1 H v b cells)(hlo:lo≤H.length)(hl:0<l.length)(hbig:cells.length+l.length≤4294967296)
  (k:∀v' H',Own lo 1 H' v' H.length (cells++uL l)→Keep b H H'→H'.length=H.length+1→R v' H'):wpH cp lo (.appS z) [v,strV l] H R:=by
 have hu:(List.map (fun b:UInt8=>Value.int .u8 (b.toNat:Nat)) l).length=l.length:=by simp
 obtain⟨hb,⟨rfl,rfl⟩|⟨n,hn0,hn1,rfl,hg⟩⟩:=ho
 ·simp only[wpH,hsem0,hsem,str_size,appendSem,Nat.zero_add]
  rw[if_neg (by omega),if_neg (by simp only[List.length_nil]at hbig;show ¬ mostNeed<_;unfold mostNeed;omega)]
  simp only[if_true]
  exact k _ (H++[some (uL l)]) ⟨hlo,.inr ⟨l.length,hl,by simp[uL],rfl,get_app0⟩⟩ ⟨by simp,fun i hi _=>get_app_lt hi⟩ (by simp)
 ·simp only[wpH,hsem0,hsem,str_size,appendSem]
  rw[if_neg (by omega),if_neg (by show ¬ mostNeed<_;unfold mostNeed;omega)]
  have hc:H.cells b 0 (n*1)=some cells:=by
   rw[cells_get hg (by omega),List.drop_zero,List.take_of_length_le (by omega)]
  simp only[true_and,if_pos hb,hc,Option.map_some]
  refine k _ (H.set b none++[some (cells++uL l)]) ⟨hlo,.inr ⟨n+l.length,by omega,by rw[List.length_append,←hn1];simp[uL],rfl,?_⟩⟩ ⟨by simp,fun i hi hne=>?_⟩ (by simp)
  ·have:(H.set b none).length=H.length:=by simp
   rw[←this,get_app0]
  ·rw[get_app_lt (by simpa using hi),get_set_ne (fun e=>hne e.symm)]
def OwnL(lo:Nat)(H:Heap)(v:Value)(b:Nat)(X:List Value):Prop:=Own lo 1 H v b X∨(lo≤b∧v=.slice (some ⟨b,0,none⟩) X.length X.length∧0<X.length∧H.get b=some X)
theorem OwnL.mono{lo b:Nat}{H H':Heap}{v:Value}{X:List Value}(h:OwnL lo H v b X)(e:Ext H H'):OwnL lo H' v b X:=by
 rcases h with h|⟨h1,h2,h3,h4⟩
 ·exact .inl (h.mono e)
 ·exact .inr ⟨h1,h2,h3,e.get h4⟩
theorem wpH_appL{cp:FuncId→Option CF}{z:List Value}{v:Value}{b:Nat}{X c c':List Value}{t o n m:Nat}{sp:Option Nat}{R:Value→Heap→Prop}(ho:OwnL lo H v b X)(hlo:lo≤H.length)(hn:0<n)(hbig:X.length+n≤4294967296)(ht:H.get t=some c')(hlen:o+n*1≤c'.length)(hc:(c'.drop o).take (n*1)=c)(h1:oneCells c=true)
  (k:∀v' H',Own lo 1 H' v' H.length (X++c)→Keep b H H'→H'.length=H.length+1→R v' H'):wpH cp lo (.app 1 z) [v,.slice (some ⟨t,o,sp⟩) n m] H R:=by
 rcases ho with ho|⟨hb,rfl,hp,hg⟩
 ·exact wpH_app ho hlo (by omega) hn hbig ht hlen hc h1 k
 have hcl:c.length=n*1:=by rw[←hc];simp;omega
 have e1:H.cells t o (n*1)=some c:=by rw[cells_get ht (by omega),hc]
 have e2:H.cells b 0 (X.length*1)=some X:=by rw[cells_get hg (by omega),List.drop_zero,List.take_of_length_le (by omega)]
 simp only[wpH,hsem0,hsem,e1,Option.bind_some,h1,if_true,appendSem]
 rw[if_neg (by omega),if_neg (by show ¬ mostNeed<_;unfold mostNeed;omega),e2]
 exact k _ (H++[some (X++c)]) ⟨hlo,.inr ⟨X.length+n,by omega,by simp;omega,rfl,get_app0⟩⟩ ⟨by simp,fun i hi _=>get_app_lt hi⟩ (by simp)
theorem wpH_appSL{cp:FuncId→Option CF}{z:List Value}{v:Value}{b:Nat}{X:List Value}{l:List UInt8}{R:Value→Heap→Prop}(ho:OwnL lo H v b X)(hlo:lo≤H.length)(hl:0<l.length)(hbig:X.length+l.length≤4294967296)
  (k:∀v' H',Own lo 1 H' v' H.length (X++uL l)→Keep b H H'→H'.length=H.length+1→R v' H'):wpH cp lo (.appS z) [v,strV l] H R:=by
 rcases ho with ho|⟨hb,rfl,hp,hg⟩
 ·exact wpH_appS ho hlo hl hbig k
 have e2:H.cells b 0 (X.length*1)=some X:=by rw[cells_get hg (by omega),List.drop_zero,List.take_of_length_le (by omega)]
 simp only[wpH,hsem0,hsem,str_size,appendSem]
 rw[if_neg (by omega),if_neg (by show ¬ mostNeed<_;unfold mostNeed;omega),e2]
 exact k _ (H++[some (X++uL l)]) ⟨hlo,.inr ⟨X.length+l.length,by omega,by simp[uL],rfl,get_app0⟩⟩ ⟨by simp,fun i hi _=>get_app_lt hi⟩ (by simp)
end
end Go.Proofs.YtpbiaeiebhgmgaaDoor
namespace Go.Proofs.YtpbiaeiebhgmgaaDoor
open Go.Abs
theorem own:ownKnob Tryd.prog.godebug=none:=by kernel_rfl
theorem laidOut:laidOutB Tryd.prog=true:=by kernel_rfl
theorem threeGlobals:Tryd.prog.globals.size=3:=by kernel_rfl
def powT:List Int:=[1,10,100,1000,10000,100000,1000000,10000000,100000000,1000000000,10000000000,100000000000,1000000000000,10000000000000,100000000000000,1000000000000000,10000000000000000,100000000000000000,1000000000000000000,10000000000000000000]
def gaV:List (Option (List Value)):=[some (powT.map (Value.int .u64)),none,none]
abbrev lds : List (String × DataW Unit) := [("math/bits.deBruijn32tab", Rows.laid_math_bits_deBruijn32tab), ("math/bits.deBruijn64tab", Rows.laid_math_bits_deBruijn64tab), ("internal/strconv.uint64pow10", Rows.laid_internal_strconv_uint64pow10)]
theorem powG : Tryd.prog.globalNamed "internal/strconv.uint64pow10" = some 0 := by kernel_rfl
theorem known{W:World}(hL:laidMetH Tryd.prog lds W):Known gaV W:=by
 intro g c hg
 match g,hg with
 | 0,hg=>
  simp[gaV]at hg;subst hg
  refine⟨by decide,?_⟩
  exact laid_ints (name := "internal/strconv.uint64pow10") (l := powT) (t := 93) (n := 20) (e := 78) hL (by rfl) powG (by kernel_rfl) (by kernel_rfl) (by kernel_rfl) (by kernel_rfl) (by kernel_rfl)
 | 1,hg=>simp[gaV]at hg
 | 2,hg=>simp[gaV]at hg
 | g+3,hg=>simp[gaV]at hg
theorem sizeG{W:World}(hL:laidMetH Tryd.prog lds W):Tryd.prog.globals.size≤W.heap.size:=by
 have := laid_size (name := "math/bits.deBruijn64tab") (g := 2) hL (by rfl) (by rfl) (by kernel_rfl)
 rw[threeGlobals];omega
theorem laidWorld(os:Os)(args:Array Value):laidMetH Tryd.prog lds ((World.laidAll Tryd.prog os lds).forCall (fun _ _=>0) ⟨#[],args,[]⟩).memory:=
 laidMetH_iff.2 ⟨laidMet_laidAll args (by kernel_rfl) (by kernel_rfl),fun x hx=>by simp[DataW.handleName?,Rows.laid_math_bits_deBruijn32tab,Rows.laid_math_bits_deBruijn64tab,Rows.laid_internal_strconv_uint64pow10]at hx⟩
theorem wantsNone{l:List TypeId}(h:l.all (fun t=>!Tryd.prog.wantsStandIn t)=true){j:Nat}{t:TypeId}(ht:l[j]?=some t):Tryd.prog.wantsStandIn t=false:=by
 have:=List.all_eq_true.1 h t (List.mem_of_getElem? ht)
 simpa using this
end Go.Proofs.YtpbiaeiebhgmgaaDoor
namespace Go.Proofs.YtpbiaeiebhgmgaaDoor
open Go.Abs
set_option linter.unusedSimpArgs false
set_option linter.unusedVariables false
set_option maxRecDepth 20000
def dig(n:Nat):UInt8:=UInt8.ofNat (48+n)
def decF:Nat→Nat→List UInt8
 | 0,n=>[dig n]
 | k+1,n=>if n<10 then[dig n] else decF k (n/10)++[dig (n%10)]
def decL(n:Nat):List UInt8:=decF n n
theorem decF_eq:∀(k m n:Nat),n≤k→n≤m→decF k n=decF m n
 | 0,m,n,h1,h2=>by
  obtain rfl:n=0:=by omega
  cases m with
  | zero=>rfl
  | succ m=>simp[decF]
 | k+1,0,n,h1,h2=>by
  obtain rfl:n=0:=by omega
  simp[decF]
 | k+1,m+1,n,h1,h2=>by
  simp only[decF]
  split
  ·rfl
  ·rw[decF_eq k m (n/10) (by omega) (by omega)]
theorem decL_lt{n:Nat}(h:n<10):decL n=[dig n]:=by
 unfold decL
 cases n with
 | zero=>rfl
 | succ n=>simp only[decF];rw[if_pos h]
theorem decL_ge{n:Nat}(h:10≤n):decL n=decL (n/10)++[dig (n%10)]:=by
 unfold decL
 cases n with
 | zero=>omega
 | succ n=>simp only[decF];rw[if_neg (by omega),decF_eq n ((n+1)/10) _ (by omega) (Nat.le_refl _)]
theorem dig_nat{n:Nat}(h:n<10):((dig n).toNat:Int)=48+(n:Int):=by
 have:(dig n).toNat=48+n:=by
  unfold dig
  rw[UInt8.toNat_ofNat_of_lt' (by show 48+n<256;omega)]
 rw[this];omega
section
variable {lo:Nat}{H:Heap}
theorem dig_wrap{n:Nat}(h:n<10):IntKind.u8.wrap (48+(n:Int))=((dig n).toNat:Int):=by
 rw[dig_nat h,wrap_u8 (by omega) (by omega)]
end
end Go.Proofs.YtpbiaeiebhgmgaaDoor
namespace Go.Proofs.YtpbiaeiebhgmgaaDoor
open Go.Abs
set_option linter.unusedSimpArgs false
set_option linter.unusedVariables false
set_option maxRecDepth 20000
section
variable {lo:Nat}{H:Heap}
def isStr(l:List UInt8):Option (Value×Heap)→Bool
 | some (.string s,_)=>s.data.toList==l
 | _=>false
theorem isStr_eq{l:List UInt8}{r:Option (Value×Heap)}(h:isStr l r=true):r.map (·.1)=some (strV l):=by
 match r,h with
 | some (.string s,_),h=>
  have h':s.data.toList=l:=by simpa[isStr]using h
  simp only[Option.map_some,strV]
  rw[←h']
def isInt(n:Int):Option (Value×Heap)→Bool
 | some (.int .i64 m,_)=>m==n
 | _=>false
theorem isInt_eq{n:Int}{r:Option (Value×Heap)}(h:isInt n r=true):r.map (·.1)=some (.int .i64 n):=by
 match r,h with
 | some (.int .i64 m,_),h=>
  have h':m=n:=by simpa[isInt]using h
  rw[h'];rfl
theorem smallT:(List.range 100).all (fun k=>isStr (decL k) ((run cpC 4).ret 0 62 [.int .i64 (k:Nat)] []))=true:=by kernel_rfl
theorem smallP{k:Nat}(hk:k<100)(hlo:lo≤H.length):Ev cp lo 62 [.int .i64 (k:Nat)] H (fun v H'=>v=strV (decL k)∧Ext H H'):=
 Ev.sub cpC_sub (ev_closed cpC_plain (n:=4) (v:=strV (decL k)) rfl (isStr_eq (List.all_eq_true.1 smallT k (List.mem_range.2 hk))) rfl hlo)
def len8(n:Nat):Nat:=if n=0 then 0 else n.log2+1
def bl(n:Nat):Nat:=if n<256 then len8 n else 8+len8 (n/256)
theorem blT:(List.range 4097).all (fun k=>decide (k<100) || (decide (7≤bl k)&&decide (bl k≤13)&&(decide (bl k<10)==decide (k<512))))=true:=by kernel_rfl
theorem bl_in{k:Nat}(h1:100≤k)(h2:k≤4096):7≤bl k∧bl k≤13∧(bl k<10↔k<512):=by
 have:=List.all_eq_true.1 blT k (List.mem_range.2 (by omega))
 simp only[Bool.or_eq_true,Bool.and_eq_true,decide_eq_true_eq,beq_iff_eq,decide_eq_decide]at this
 rcases this with h|⟨⟨a,b⟩,c⟩
 ·omega
 ·exact⟨a,b,c⟩
def isU8(n:Int):Option Value→Bool
 | some (.int .u8 m)=>m==n
 | _=>false
theorem isU8_eq{n:Int}{r:Option Value}(h:isU8 n r=true):r=some (.int .u8 n):=by
 match r,h with
 | some (.int .u8 m),h=>
  have h':m=n:=by simpa[isU8]using h
  rw[h']
theorem len8T:(List.range 256).all (fun k=>isU8 (len8 k:Nat) (lsem .idxS [.string lit0,.int .u8 (k:Nat)] []))=true:=by kernel_rfl
theorem len8L{k:Nat}(h:k<256)(H:Heap):lsem .idxS [.string lit0,.int .u8 (k:Nat)] H=some (.int .u8 (len8 k:Nat)):=isU8_eq (List.all_eq_true.1 len8T k (List.mem_range.2 h))
theorem len64P{k:Nat}(h1:100≤k)(h2:k≤4096)(hlo:lo≤H.length):Ev cp lo 69 [.int .u64 (k:Nat)] H (fun v H'=>v=.int .i64 (bl k:Nat)∧Ext H H'):=by
 refine st69 ?_;unfold bd69 cf69;simp only[kB,ctlB]
 repeat' ((first|refine xSNb ?_|refine xONb rfl ?_);(try simp only[ctlB]))
 refine xCNb (fun h=>?_) (fun h=>?_)
 ·exfalso;simp at h;omega
 clear h
 (try simp only[ctlB])
 refine xCNb (fun h=>?_) (fun h=>?_)
 ·exfalso;simp at h;omega
 clear h
 (try simp only[ctlB])
 refine xCNb (fun h=>?_) (fun h=>?_)
 ·have hk:256≤k:=by simp at h;omega
  clear h
  have e:(k:Int).fdiv (2^min (Int.toNat 8) IntKind.u64.bits)=((k/256:Nat):Int):=by
   rw[Int.fdiv_eq_ediv_of_nonneg _ (by decide)];rfl
  have hw:IntKind.u8.wrap ((k/256:Nat):Int)=((k/256:Nat):Int):=wrap_u8 (by omega) (by omega)
  have hL:=len8L (k:=k/256) (by omega)
  have hl:len8 (k/256)≤13:=by have:=bl_in h1 h2;unfold bl at this;rw[if_neg (by omega)]at this;omega
  (try simp only[ctlB])
  repeat' ((first|refine xSNb ?_|refine xONb rfl ?_);(try simp only[ctlB]))
  refine xRNb ?_
  refine⟨?_,Ext.refl _⟩
  unfold bl;rw[if_neg (by omega)];rfl
 ·have hk:k<256:=by simp at h;omega
  clear h
  have hw:IntKind.u8.wrap (k:Int)=(k:Int):=wrap_u8 (by omega) (by omega)
  have hL:=len8L (k:=k) (by omega)
  have hl:len8 k≤13:=by have:=bl_in h1 h2;unfold bl at this;rw[if_pos (by omega)]at this;omega
  (try simp only[ctlB])
  repeat' ((first|refine xSNb ?_|refine xONb rfl ?_);(try simp only[ctlB]))
  refine xRNb ?_
  refine⟨?_,Ext.refl _⟩
  unfold bl;rw[if_pos (by omega)];simp[resultOf]
theorem log10T:(List.range 7).all (fun k=>isInt (if k<3 then 2 else 3) ((run cpC 4).ret 0 68 [.int .i64 (k+7:Nat)] []))=true:=by kernel_rfl
theorem log10P{k:Nat}(h1:7≤k)(h2:k≤13)(hlo:lo≤H.length):Ev cp lo 68 [.int .i64 (k:Nat)] H (fun v H'=>v=.int .i64 (if k<10 then 2 else 3)∧Ext H H'):=by
 obtain⟨j,rfl⟩:∃j,k=j+7:=⟨k-7,by omega⟩
 have h:=Ev.sub cpC_sub (ev_closed (lo:=lo) (H:=H) cpC_plain (n:=4) (v:=.int .i64 (if j<3 then 2 else 3)) rfl (isInt_eq (List.all_eq_true.1 log10T j (List.mem_range.2 (by omega)))) rfl hlo)
 rw[show(if j+7<10 then(2:Int) else 3)=if j<3 then 2 else 3 by split<;>split<;>first|rfl|omega]
 exact h
theorem b2P{b:Bool}:Ev cp lo 70 [.bool b] H (fun v H'=>H=H'∧v=.int .i64 (if b then 1 else 0)):=by
 refine st70 ?_;unfold bd70 cf70;simp only[kB,ctlB]
 repeat' ((first|refine xSNb ?_|refine xONb rfl ?_);(try simp only[ctlB]))
 cases b with
 | true=>
  refine xCNb (fun h=>?_) (fun h=>?_)
  ·(try simp only[ctlB])
   repeat' ((first|refine xSNb ?_|refine xONb rfl ?_);(try simp only[ctlB]))
   refine xRNb ?_
   exact⟨rfl,rfl⟩
  ·simp at h
 | false=>
  refine xCNb (fun h=>?_) (fun h=>?_)
  ·simp at h
  ·(try simp only[ctlB])
   repeat' ((first|refine xSNb ?_|refine xONb rfl ?_);(try simp only[ctlB]))
   refine xRNb ?_
   exact⟨rfl,rfl⟩
def powC:List Value:=powT.map (Value.int .u64)
theorem ndP{k:Nat}(h1:100≤k)(h2:k≤4096)(hlo:lo≤H.length)(hg:H.get 0=some powC):Ev cp lo 63 [.int .u64 (k:Nat)] H (fun v H'=>v=.int .i64 (if k<1000 then 3 else 4)∧Ext H H'):=by
 obtain⟨b1,b2,b3⟩:=bl_in h1 h2
 refine st63 ?_;unfold bd63 cf63;simp only[kB,ctlB]
 repeat' ((first|refine xSNb ?_|refine xONb rfl ?_);(try simp only[ctlB]))
 refine xHNb ?_
 refine wpH_call0 (len64P h1 h2 hlo) ?_
 rintro v H1 ⟨rfl,hx1⟩
 (try simp only[ctlB])
 refine xHNb ?_
 refine wpH_call0 (log10P b1 b2 (Nat.le_trans hlo hx1.1)) ?_
 rintro v H2 ⟨rfl,hx2⟩
 have hg2:=hx2.get (hx1.get hg)
 have hp2:powC[2]?=some (.int .u64 100):=rfl
 have hp3:powC[3]?=some (.int .u64 1000):=rfl
 have hpl:powC.length=20:=rfl
 by_cases hk:k<512
 ·have hk10:(if bl k<10 then(2:Int) else 3)=2:=if_pos (b3.2 hk)
  rw[hk10]
  (try simp only[ctlB])
  repeat' ((first|refine xSNb ?_|refine xONb rfl ?_);(try simp only[ctlB]))
  refine xHNb ?_
  refine wpH_call0 b2P ?_
  rintro v H3 ⟨rfl,rfl⟩
  (try simp only[ctlB])
  repeat' ((first|refine xSNb ?_|refine xONb rfl ?_);(try simp only[ctlB]))
  refine xRNb ?_
  exact⟨by rw[if_pos (by omega)];rfl,hx1.trans hx2⟩
 ·have hk10:(if bl k<10 then(2:Int) else 3)=3:=if_neg (fun e=>hk (b3.1 e))
  rw[hk10]
  (try simp only[ctlB])
  repeat' ((first|refine xSNb ?_|refine xONb rfl ?_);(try simp only[ctlB]))
  refine xHNb ?_
  refine wpH_call0 b2P ?_
  rintro v H3 ⟨rfl,rfl⟩
  (try simp only[ctlB])
  repeat' ((first|refine xSNb ?_|refine xONb rfl ?_);(try simp only[ctlB]))
  refine xRNb ?_
  refine⟨?_,hx1.trans hx2⟩
  by_cases h:k<1000
  ·rw[if_pos h,if_neg (by omega)];rfl
  ·rw[if_neg h,if_pos (by omega)];rfl
end
end Go.Proofs.YtpbiaeiebhgmgaaDoor
namespace Go.Proofs.YtpbiaeiebhgmgaaDoor
open Go.Abs
set_option linter.unusedSimpArgs false
set_option linter.unusedVariables false
set_option maxRecDepth 20000
section
variable {lo:Nat}{H:Heap}
def smD(k:Nat):Nat:=if k%2=0 then k/20 else k/2%10
theorem smT:(List.range 200).all (fun k=>isU8 ((dig (smD k)).toNat:Nat) (lsem .idxS [.string lit2,.int .u32 (k:Nat)] []))=true:=by kernel_rfl
theorem smL{k:Nat}(h:k<200)(H:Heap):lsem .idxS [.string lit2,.int .u32 (k:Nat)] H=some (encU (dig (smD k))):=isU8_eq (List.all_eq_true.1 smT k (List.mem_range.2 h))
theorem smD0(k:Nat):smD (k*2)=k/10:=by
 unfold smD;rw[if_pos (by omega)];omega
theorem smD1(k:Nat):smD (k*2+1)=k%10:=by
 unfold smD;rw[if_neg (by omega)];omega
set_option linter.defProp false in
def xBNe:=And.intro @List.set_set (And.intro @Int.cast_ofNat_Int @ite_self.{1})
theorem xENe{P:Prop}(h:P:=by simp(disch:=first|omega|(simp only[lenB];omega))only[evB,xBNe,Nat.reduceAdd,Nat.reduceBEq, *];rfl):P:=h
theorem xSNe{cp:FuncId→Option CF}{lo:Nat}{l:List (Nat×E)}{chk:List E}{Q:Post}{S:List Value}{H:Heap}{vs:List (Nat×Value)}{S':List Value}(k:Q .normal S' H)(h:evSets S H l=some vs:=by exact xENe)(hc:evChk S H chk=true:=by simp(disch:=first|omega|(simp only[lenB];omega))only[evB,xBNe,Nat.reduceAdd,Nat.reduceBEq, *])(hS:setAll S vs=S':=by exact xENe):wpS cp lo (.sets l chk) Q S H:=aw_sets h hc hS k
theorem xHNe{cp:FuncId→Option CF}{lo:Nat}{l:List (Nat×E)}{chk:List E}{Q:Post}{S:List Value}{H:Heap}{vs:List (Nat×Value)}{dst:Option Nat}{o:HOp}{a:E}{xs:List Value}(k:wpH cp lo o xs H fun v H'=>Q .normal (setD (setAll S vs) dst v) H')(h:evSets S H l=some vs:=by exact xENe)(hc:evChk S H chk=true:=by simp(disch:=first|omega|(simp only[lenB];omega))only[evB,xBNe,Nat.reduceAdd,Nat.reduceBEq, *])(ha:ev S H a=some xs:=by exact xENe):wpS cp lo (.hv l chk [] dst o a) Q S H:=aw_hv h hc ha k
theorem xONe{cp:FuncId→Option CF}{lo:Nat}{l:List (Nat×E)}{chk:List E}{Q:Post}{S:List Value}{H:Heap}{vs:List (Nat×Value)}{dst:Option Nat}{o:HOp}{a:E}{xs:List Value}{S':List Value}{H':Heap}{v:Value}(hcall:o.isCall=false)(k:Q .normal S' H')(h:evSets S H l=some vs:=by exact xENe)(hc:evChk S H chk=true:=by simp(disch:=first|omega|(simp only[lenB];omega))only[evB,xBNe,Nat.reduceAdd,Nat.reduceBEq, *])(ha:ev S H a=some xs:=by exact xENe)(ho:hsem0 lo o xs H=some (v,H'):=by exact xENe)(hS:setD (setAll S vs) dst v=S':=by exact xENe):wpS cp lo (.hv l chk [] dst o a) Q S H:=aw_op hcall h hc ha ho hS k
theorem xCNe{cp:FuncId→Option CF}{lo:Nat}{c:E}{a b:Stm}{Q:Post}{S:List Value}{H:Heap}{t:Bool}(k1:t=true→wpS cp lo a Q S H)(k2:t=false→wpS cp lo b Q S H)(h:ev1 S H c=some (.bool t):=by exact xENe):wpS cp lo (.cond c a b) Q S H:=aw_cond h k1 k2
theorem xRNe{cf:CF}{R:Value→Heap→Prop}{S:List Value}{H:Heap}{vs:List Value}(k:R (resultOf vs) H)(h:evList S H cf.res=some vs:=by exact xENe):bodyQ cf R .ret S H:=body_ret h k
theorem fbP{k d:Nat}{a:Nat}{sp:Option Nat}{c:List Value}(h1:100≤k)(h2:k≤4096)(hd:d=if k<1000 then 3 else 4)(hlo:lo≤a)(hg:H.get a=some c)(hc:c.length=24) :
  Ev cp lo 64 [.slice (some ⟨a,0,sp⟩) d 24,.int .u64 (k:Nat)] H (fun v H'=>H'=H.set a (some (uL (decL k)++c.drop d))):=by
 have haL:a<List.length H:=Heap.get_lt hg
 have hk0:IntKind.u32.wrap (k:Int)=(k:Nat):=wrap_u32 (by omega) (by omega)
 have t11:IntKind.u32.wrap ((k/100:Nat):Int)=((k/100:Nat):Int):=wrap_u32 (by omega) (by omega)
 have t1:(k:Int).tmod 10000=k:=by rw[Int.tmod_eq_emod_of_nonneg (by omega)];omega
 have t2:(k:Int).tdiv 10000=0:=by rw[Int.tdiv_eq_ediv_of_nonneg (by omega)];omega
 have t3:(k:Int).tmod 100=((k%100:Nat):Int):=by rw[Int.tmod_eq_emod_of_nonneg (by omega)];omega
 have t4:(k:Int).tdiv 100=((k/100:Nat):Int):=by rw[Int.tdiv_eq_ediv_of_nonneg (by omega)];omega
 have t5:IntKind.u32.wrap (((k%100:Nat):Int)*2)=((k%100*2:Nat):Int):=by rw[wrap_u32 (by omega) (by omega)];omega
 have t6:IntKind.u32.wrap (((k/100:Nat):Int)*2)=((k/100*2:Nat):Int):=by rw[wrap_u32 (by omega) (by omega)];omega
 have t7:IntKind.u32.wrap (((k%100*2:Nat):Int)+1)=((k%100*2+1:Nat):Int):=by rw[wrap_u32 (by omega) (by omega)];omega
 have t8:IntKind.u32.wrap (((k/100*2:Nat):Int)+1)=((k/100*2+1:Nat):Int):=by rw[wrap_u32 (by omega) (by omega)];omega
 have e1:=smL (k:=k%100*2) (by omega)
 have e2:=smL (k:=k%100*2+1) (by omega)
 have e3:=smL (k:=k/100*2) (by omega)
 have e4:=smL (k:=k/100*2+1) (by omega)
 rw[smD0]at e1 e3
 rw[smD1]at e2 e4
 by_cases hk:k<1000
 ·rw[if_pos hk]at hd
  subst hd
  have t9:IntKind.u32.wrap (48+((k/100:Nat):Int))=((48+k/100:Nat):Int):=by rw[wrap_u32 (by omega) (by omega)];omega
  have t10:IntKind.u8.wrap ((48+k/100:Nat):Int)=((dig (k/100)).toNat:Int):=by rw[dig_nat (by omega),wrap_u8 (by omega) (by omega)];omega
  refine st64 ?_;unfold bd64 cf64;simp only[kB,ctlB]
  repeat' ((first|refine xSNe ?_|refine xONe rfl ?_);(try simp only[ctlB]))
  refine aw_loop' (fun m S H'=>S=_∧H=H') 0 ⟨rfl,rfl⟩ ?_
  rintro m S H' ⟨rfl,rfl⟩
  (try simp only[ctlB])
  refine xCNe (fun h=>?_) (fun h=>?_)
  ·exfalso;simp at h
  (try simp only[ctlB])
  repeat' ((first|refine xSNe ?_|refine xONe rfl ?_);(try simp only[ctlB]))
  refine xCNe (fun h=>?_) (fun h=>?_)
  ·exfalso;simp at h
  (try simp only[ctlB])
  repeat' ((first|refine xSNe ?_|refine xONe rfl ?_);(try simp only[ctlB]))
  refine xCNe (fun h=>?_) (fun h=>?_)
  ·(try simp only[ctlB])
   repeat' ((first|refine xSNe ?_|refine xONe rfl ?_);(try simp only[ctlB]))
   refine xCNe (fun h=>?_) (fun h=>?_)
   ·(try simp only[ctlB])
    repeat' ((first|refine xSNe ?_|refine xONe rfl ?_);(try simp only[ctlB]))
    refine body_normal (by simp only[cf64];simp(disch:=first|omega|(simp only[lenB];omega))only[evB,xBNe,Nat.reduceAdd,Nat.reduceBEq, *];rfl) ?_
    congr 2
    match c,hc with
    | x0::x1::x2::c',_=>
     rw[decL_ge (n:=k) (by omega),decL_ge (n:=k/10) (by omega),decL_lt (n:=k/10/10) (by omega),show k/10/10=k/100 by omega,show k/10%10=k%100/10 by omega,show k%10=k%100%10 by omega]
     rfl
   ·exfalso;simp at h
  ·exfalso;simp at h
 ·rw[if_neg hk]at hd
  subst hd
  refine st64 ?_;unfold bd64 cf64;simp only[kB,ctlB]
  repeat' ((first|refine xSNe ?_|refine xONe rfl ?_);(try simp only[ctlB]))
  refine aw_loop' (fun m S H'=>S=_∧H=H') 0 ⟨rfl,rfl⟩ ?_
  rintro m S H' ⟨rfl,rfl⟩
  (try simp only[ctlB])
  refine xCNe (fun h=>?_) (fun h=>?_)
  ·exfalso;simp at h
  (try simp only[ctlB])
  repeat' ((first|refine xSNe ?_|refine xONe rfl ?_);(try simp only[ctlB]))
  refine xCNe (fun h=>?_) (fun h=>?_)
  ·(try simp only[ctlB])
   repeat' ((first|refine xSNe ?_|refine xONe rfl ?_);(try simp only[ctlB]))
   refine xCNe (fun h=>?_) (fun h=>?_)
   ·simp at h
   (try simp only[ctlB])
   refine xCNe (fun h=>?_) (fun h=>?_)
   ·simp at h
   refine body_normal (by simp only[cf64];simp(disch:=first|omega|(simp only[lenB];omega))only[evB,xBNe,Nat.reduceAdd,Nat.reduceBEq, *];rfl) ?_
   congr 2
   match c,hc with
   | x0::x1::x2::x3::c',_=>
    rw[decL_ge (n:=k) (by omega),decL_ge (n:=k/10) (by omega),decL_ge (n:=k/10/10) (by omega),decL_lt (n:=k/10/10/10) (by omega),show k/10/10/10=k/100/10 by omega,show k/10/10%10=k/100%10 by omega,show k/10%10=k%100/10 by omega,show k%10=k%100%10 by omega]
    rfl
  ·exfalso;simp at h
theorem decL_pos(n:Nat):0<(decL n).length:=by
 by_cases h:n<10
 ·rw[decL_lt h];simp
 ·rw[decL_ge (by omega)];simp
theorem decL_len{n:Nat}(h1:100≤n)(h2:n≤4096):(decL n).length=if n<1000 then 3 else 4:=by
 rw[decL_ge (n:=n) (by omega),decL_ge (n:=n/10) (by omega)]
 by_cases h:n<1000
 ·rw[if_pos h,decL_lt (by omega)];rfl
 ·rw[if_neg h,decL_ge (n:=n/10/10) (by omega),decL_lt (by omega)];rfl
theorem decL_4{n:Nat}(h2:n≤4096):(decL n).length≤4:=by
 by_cases h:100≤n
 ·rw[decL_len h h2];split<;>omega
 ·by_cases h10:n<10
  ·rw[decL_lt h10];simp
  ·rw[decL_ge (by omega),decL_lt (by omega)];simp
def App(lo:Nat)(H:Heap)(b:Nat)(cells:List Value)(v':Value)(H':Heap):Prop:=∃b',(b'=b∨H.length≤b')∧b'<H'.length∧Own lo 1 H' v' b' cells∧Keep b H H'
theorem keepTrans{b b':Nat}{H H1 H2:Heap}(h:Keep b H H1)(hb:b'=b∨H.length≤b')(h2:Keep b' H1 H2):Keep b H H2:=
 ⟨Nat.le_trans h.len h2.len,fun i hi hne=>by rw[h2.eq i (Nat.lt_of_lt_of_le hi h.len) (by omega),h.eq i hi hne]⟩
theorem Ext.keep{b:Nat}{H H1:Heap}(h:Ext H H1):Keep b H H1:=⟨h.1,fun i hi _=>h.2 i hi⟩
theorem auP{k b:Nat}{v:Value}{cells:List Value}(h2:k≤4096)(ho:OwnL lo H v b cells)(hlo:lo≤H.length)(hg:H.get 0=some powC)(hbl:b<H.length)(hbig:cells.length≤4000000000) :
  Ev cp lo 50 [v,.int .u64 (k:Nat),.int .i64 10] H (App lo H b (cells++uL (decL k))):=by
 have hk0:IntKind.i64.wrap (k:Int)=(k:Nat):=wrap_i64 (by omega) (by omega)
 have h4:=decL_4 h2
 refine st50 ?_;unfold bd50 cf50;simp only[kB,ctlB]
 repeat' ((first|refine xSNe ?_|refine xONe rfl ?_);(try simp only[ctlB]))
 refine xCNe (fun h=>?_) (fun h=>?_)
 ·(try simp only[ctlB])
  refine xCNe (fun h=>?_) (fun h=>?_)
  ·have hk:k<100:=by simp at h;omega
   clear h
   (try simp only[ctlB])
   repeat' ((first|refine xSNe ?_|refine xONe rfl ?_);(try simp only[ctlB]))
   refine xHNe ?_
   refine wpH_call0 (smallP hk hlo) ?_
   rintro v1 H1 ⟨rfl,hx⟩
   (try simp only[ctlB])
   refine xHNe ?_
   refine wpH_appSL (ho.mono hx) (Nat.le_trans hlo hx.1) (decL_pos k) (by omega) ?_
   rintro v2 H2 ho2 hk2 hl2
   (try simp only[ctlB])
   repeat' ((first|refine xSNe ?_|refine xONe rfl ?_);(try simp only[ctlB]))
   refine xRNe ?_
   exact⟨_,.inr hx.1,by omega,ho2,keepTrans (Ext.keep hx) (.inl rfl) hk2⟩
  ·have hk:100≤k:=by simp at h;omega
   clear h
   (try simp only[ctlB])
   repeat' ((first|refine xSNe ?_|refine xONe rfl ?_);(try simp only[ctlB]))
   generalize hz:[Value.int IntKind.u8 0,Value.int IntKind.u8 0,Value.int IntKind.u8 0,Value.int IntKind.u8 0,Value.int IntKind.u8 0,Value.int IntKind.u8 0,Value.int IntKind.u8 0,Value.int IntKind.u8 0,Value.int IntKind.u8 0,Value.int IntKind.u8 0,Value.int IntKind.u8 0,Value.int IntKind.u8 0,Value.int IntKind.u8 0,Value.int IntKind.u8 0,Value.int IntKind.u8 0,Value.int IntKind.u8 0,Value.int IntKind.u8 0,Value.int IntKind.u8 0,Value.int IntKind.u8 0,Value.int IntKind.u8 0,Value.int IntKind.u8 0,Value.int IntKind.u8 0,Value.int IntKind.u8 0,Value.int IntKind.u8 0]=c
   have hc:c.length=24:=by rw[←hz];rfl
   clear hz
   have hx1:Ext H (H++[some c]):=Ext.app _ _
   have hgc:(H++[some c]).get H.length=some c:=get_app0
   have hll:H.length<(H++[some c]).length:=by simp
   generalize H++[some c]=H1 at hx1 hgc hll
   obtain⟨d,hd⟩:∃d:Nat,False∨d=if k<1000 then 3 else 4:=⟨_,.inr rfl⟩
   have hdI:(if k<1000 then(3:Int) else 4)=(d:Nat):=by rw[hd.resolve_left id];split<;>rfl
   have hd34:3≤d∧d≤4:=by rw[hd.resolve_left id];split<;>omega
   obtain⟨hd3,hd4⟩:=hd34
   have hdl:=decL_len hk h2
   rw[←hd.resolve_left id]at hdl
   refine xHNe ?_
   refine wpH_call0 (ndP hk h2 (Nat.le_trans hlo hx1.1) (hx1.get hg)) ?_
   rw[hdI]
   clear hdI
   rintro v1 H2 ⟨rfl,hx2⟩
   have hgc2:=hx2.get hgc
   (try simp only[ctlB])
   repeat' ((first|refine xSNe ?_|refine xONe rfl ?_);(try simp only[ctlB]))
   refine xHNe ?_
   refine wpH_call0 (fbP hk h2 (hd.resolve_left id) hlo hgc2 hc) ?_
   rintro v2 H3 hH3
   have hgu:H3.get H.length=some (uL (decL k)++c.drop d):=by rw[hH3];exact get_set_self (Nat.lt_of_lt_of_le hll hx2.1)
   have hx3:Ext H H3:=⟨by rw[hH3,List.length_set];exact Nat.le_trans hx1.1 hx2.1,fun i hi=>by rw[hH3,get_set_ne (by omega)];exact(hx1.trans hx2).2 i hi⟩
   clear hH3
   (try simp only[ctlB])
   refine xHNe ?_
   refine wpH_appL (c:=uL (decL k)) (ho.mono hx3) (Nat.le_trans hlo hx3.1) (by omega) (by omega) hgu (by simp[hc,hdl]) (by simp[hdl]) (uL_one _) ?_
   rintro v4 H4 ho4 hk4 hl4
   (try simp only[ctlB])
   repeat' ((first|refine xSNe ?_|refine xONe rfl ?_);(try simp only[ctlB]))
   refine xRNe ?_
   exact⟨_,.inr hx3.1,by omega,ho4,keepTrans (Ext.keep hx3) (.inl rfl) hk4⟩
 ·simp at h
theorem aiP{k b:Nat}{v:Value}{cells:List Value}(h2:k≤4096)(ho:OwnL lo H v b cells)(hlo:lo≤H.length)(hg:H.get 0=some powC)(hbl:b<H.length)(hbig:cells.length≤4000000000) :
  Ev cp lo 36 [v,.int .i64 (k:Nat),.int .i64 10] H (App lo H b (cells++uL (decL k))):=by
 have hk0:IntKind.u64.wrap (k:Int)=(k:Nat):=wrap_u64 (by omega) (by omega)
 refine st36 ?_;unfold bd36 cf36;simp only[kB,ctlB]
 repeat' ((first|refine xSNe ?_|refine xONe rfl ?_);(try simp only[ctlB]))
 refine xCNe (fun h=>?_) (fun h=>?_)
 ·exfalso;simp at h;omega
 (try simp only[ctlB])
 refine xHNe ?_
 refine wpH_call0 (auP h2 ho hlo hg hbl hbig) ?_
 intro v1 H1 hA
 (try simp only[ctlB])
 repeat' ((first|refine xSNe ?_|refine xONe rfl ?_);(try simp only[ctlB]))
 refine xRNe ?_
 exact hA
theorem saiP{k b:Nat}{v:Value}{cells:List Value}(h2:k≤4096)(ho:OwnL lo H v b cells)(hlo:lo≤H.length)(hg:H.get 0=some powC)(hbl:b<H.length)(hbig:cells.length≤4000000000) :
  Ev cp lo 21 [v,.int .i64 (k:Nat),.int .i64 10] H (App lo H b (cells++uL (decL k))):=by
 refine st21 ?_;unfold bd21 cf21;simp only[kB,ctlB]
 repeat' ((first|refine xSNe ?_|refine xONe rfl ?_);(try simp only[ctlB]))
 refine xHNe ?_
 refine wpH_call0 (aiP h2 ho hlo hg hbl hbig) ?_
 intro v1 H1 hA
 (try simp only[ctlB])
 repeat' ((first|refine xSNe ?_|refine xONe rfl ?_);(try simp only[ctlB]))
 refine xRNe ?_
 exact hA
end
end Go.Proofs.YtpbiaeiebhgmgaaDoor
