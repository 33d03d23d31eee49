/- Lemmas. -/
import Derived.Test.YtmnlgdpdgjbfgaaGreatW34
import Derived.Test.YtmnlgdpdgjbfgaaGreatW36
set_option linter.all false
namespace Go.Proofs.YtmnlgdpdgjbfgaaGreat
open Go.Abs
structure Grd (H:Heap)(p q:Nat)(R C:Int)(g:G):Prop where
 fp:H.get p=some [.int .i64 R,.int .i64 C,.int .i64 g.next,.slice (some ⟨q,0,some 1⟩) g.cells.length g.cells.length]
 fq:H.get q=some (ak g.cells)
 ne:p≠q
theorem Grd.mono{H H':Heap}{p q:Nat}{R C:Int}{g:G}(h:Grd H p q R C g)(e:Ext H H'):Grd H' p q R C g:=⟨e.get h.fp,e.get h.fq,h.ne⟩
theorem Grd.setq{H:Heap}{p q:Nat}{R C:Int}{g g':G}(h:Grd H p q R C g)(hl:g'.cells.length=g.cells.length)(hn:g'.next=g.next):Grd (H.set q (some (ak g'.cells))) p q R C g':=
 ⟨by rw[aF (fun e=>h.ne e.symm),h.fp,hl,hn],by rw[aE (Heap.get_lt h.fq)],h.ne⟩
open XJWfit
end Go.Proofs.YtmnlgdpdgjbfgaaGreat
