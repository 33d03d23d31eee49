/- Data Matrix: Correct of the reference. -/
import Derived.Test.YtmnlgdpdgjbfgaaGreatD18
import Derived.Test.YtmnlgdpdgjbfgaaGreatD19
import Derived.Test.YtmnlgdpdgjbfgaaGreatD25
set_option linter.unusedVariables false
set_option linter.unusedSimpArgs false
set_option linter.unusedSectionVars false
namespace Go.Proofs.YtmnlgdpdgjbfgaaGreat
open Go.Abs Go.RS
set_option linter.unusedSimpArgs false
set_option linter.unusedVariables false
set_option maxRecDepth 20000
section
variable {lo:Nat}{H:Heap}
theorem codeQ{i:Nat}(hi:i<30)(hlo:lo≤H.length):Ev cp lo 34 [(dz i).sz.val] H (fun r H'=>Ext H H'∧r=cdV (fB 301) (dz i).ck 1):=by
 have hz:=dz_ok hi
 generalize dz i=z at *
 obtain⟨n1,n2,dn,d2,c2,-,k1,k2,al⟩:=hz
 have hok:OkCd 2 256 301 (z.ck:Nat) 1:=⟨⟨_,okF301⟩,by omega,by omega,by omega,by omega⟩
 have hdiv:(z.c:Int).tdiv (z.n:Int)=(z.ck:Nat):=(Int.ofNat_tdiv z.c z.n).symm
 unfold Dz.sz Sz.val
 refine st34 ?_;unfold bd34 cf34;simp only[kB,ctlB]
 repeat' ((first|refine xSYf ?_|refine xOYf rfl ?_);(try simp only[ctlB]))
 generalize hG:H++_=G at *
 obtain⟨g0,hxG⟩:=box_facts hG
 have g1:Heap.get G (H.length+1)=some (List.replicate 5 (Value.int .i64 0)):=by rw[←hG,get_appS];rfl
 clear hG
 have hlG:=Heap.get_lt g1
 refine xHYf ?_
 refine wpH_call0 (newV (ch:=2) (sz:=256) (po:=301) (r:=(z.ck:Nat)) (b:=1) (by omega) (by omega)) ?_
 rintro r H1 ⟨hx1,-,-,hv⟩
 rw[hv hok]
 clear hv
 have g0:=(hx1).get g0;have g1:=(hx1).get g1
 have hx1:=hxG.trans hx1
 have hl1:=Heap.get_lt g1
 unfold cdI
 (try simp only[ctlB])
 repeat' ((first|refine xSYf ?_|refine xOYf rfl ?_);(try simp only[ctlB]))
 refine xRYf ?_
 exact⟨(hx1.set (by omega)).trans (Ext.app _ _),rfl⟩
end
end Go.Proofs.YtmnlgdpdgjbfgaaGreat
