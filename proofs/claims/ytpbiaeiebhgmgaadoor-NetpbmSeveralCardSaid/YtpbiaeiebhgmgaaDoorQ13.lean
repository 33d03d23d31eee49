/- Netpbm: rows, as the program writes them. Netpbm: bits packed into bytes. Netpbm: a row of any format, as the program writes it. -/
import Derived.Test.YtpbiaeiebhgmgaaDoorQ12
set_option linter.unusedVariables false
set_option linter.unusedSimpArgs false
set_option linter.unusedSectionVars false
namespace Go.Proofs.YtpbiaeiebhgmgaaDoor
open Go.Abs
set_option linter.unusedSimpArgs false
set_option linter.unusedVariables false
set_option maxRecDepth 20000
section
variable {lo:Nat}{G H:Heap}
theorem uL_app(a b:List UInt8):uL (a++b)=uL a++uL b:=List.map_append
theorem uL_len(a:List UInt8):(uL a).length=a.length:=List.length_map _
theorem wpH_app1{z:List Value}{v:Value}{b:Nat}{X:List Value}{c:UInt8}{R:Value→Heap→Prop}(ho:Own lo 1 H v b X)(hlo:lo≤H.length)(hbig:X.length≤4294967000)
  (k:∀v' H',Own lo 1 H' v' (H.length+1) (X++[encU c])→Keep b H H'→H'.length=H.length+2→R v' H'):wpH cp lo (.app 1 z) [v,.slice (some ⟨H.length,0,none⟩) 1 1] (H++[some [encU c]]) R:=by
 refine wpH_app (c:=[encU c]) (ho.mono (Ext.app _ _)) (by simp;omega) (by omega) (by omega) (by omega) get_app0 (by simp) rfl rfl ?_
 intro v' H' h1 h2 h3
 simp only[List.length_append,List.length_cons,List.length_nil]at h1 h3
 exact k v' H' h1 (keepTrans (Ext.keep (Ext.app _ _)) (.inl rfl) h2) (by omega)
theorem exZNf{S:List Value}{F:(Nat→Value)→List Value}(h:S=F (fun k=>S.getD k undef)):∃z,S=F z:=⟨_,h⟩
end
end Go.Proofs.YtpbiaeiebhgmgaaDoor
namespace Go.Proofs.YtpbiaeiebhgmgaaDoor
open Go.Abs
set_option linter.unusedSimpArgs false
set_option linter.unusedVariables false
set_option maxRecDepth 20000
def bt(l:List UInt8)(k i:Nat):Nat:=if i<k∧l.getD i 1=0 then 1 else 0
theorem shr8:∀t,t<8→(128:Int).fdiv (2^min t IntKind.u8.bits)=((128/2^t:Nat):Int):=by decide +kernel
section
variable {lo:Nat}{G H:Heap}
end
end Go.Proofs.YtpbiaeiebhgmgaaDoor
namespace Go.Proofs.YtpbiaeiebhgmgaaDoor
open Go.Abs
set_option linter.unusedSimpArgs false
set_option linter.unusedVariables false
set_option maxRecDepth 20000
section
variable {lo:Nat}{G H:Heap}
def kindF(f:Nat):Value:=.agg #[.int .i64 (f:Nat),.bool (f==2 || f==5),.bool (f==4 || f==5)]
end
end Go.Proofs.YtpbiaeiebhgmgaaDoor
