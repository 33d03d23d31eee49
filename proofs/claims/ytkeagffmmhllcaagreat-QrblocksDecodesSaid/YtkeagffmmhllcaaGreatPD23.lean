/- What every law of this seat needs of the program, and the arguments of the laws. QR blocks: small facts for the laws. The arguments of the laws of QR blocks. -/
import Derived.Test.YtkeagffmmhllcaaGreatPD18
import Derived.Test.YtkeagffmmhllcaaGreatPD22
import Derived.Test.YtkeagffmmhllcaaGreatRows
set_option linter.unusedVariables false
set_option linter.unusedSimpArgs false
set_option linter.unusedSectionVars false
namespace Go.Proofs.YtkeagffmmhllcaaGreat
open Go.Abs
theorem own:ownKnob Tryz.prog.godebug=none:=by kernel_rfl
theorem laidOut:laidOutB Tryz.prog=true:=by kernel_rfl
theorem noGlobals:Tryz.prog.globals.size=0:=by kernel_rfl
theorem has_int{B:Nat}{H:Heap}{vs:List Value}(h:Has B H (.int .i64) vs):∃n:Int,vs=[.int .i64 n]∧-9223372036854775808≤n∧n≤9223372036854775807:=by
 simp only[Has]at h
 exact h
theorem all_cons{B:Nat}{H:Heap}{t:Ty}{r:List Ty}{vs:List Value}(h:HasAll B H (t::r) vs):∃a b,vs=a++b∧Has B H t a∧HasAll B H r b:=by simpa only[HasAll]using h
theorem all_nil{B:Nat}{H:Heap}{vs:List Value}(h:HasAll B H [] vs):vs=[]:=by simpa only[HasAll]using h
theorem sl_one{B:Nat}{H:Heap}{vs:List Value}(h:Has B H (.sl (.int .i64)) vs):∃v l,vs=[v]∧SlI H v l∧l.length≤B:=by
 obtain⟨v,rfl,h⟩:=has_one h (by intro l e;cases e) (by intro n l e;cases e)
 obtain⟨l,h1,h2,_⟩:=has_slI h
 exact⟨v,l,rfl,h1,h2⟩
end Go.Proofs.YtkeagffmmhllcaaGreat
namespace Go.Proofs.YtkeagffmmhllcaaGreat
open Go.Abs Go.RS
set_option linter.unusedSimpArgs false
set_option linter.unusedVariables false
theorem Bk.Ok.pos{b:Bk}(hb:b.Ok):0<b.all∧b.n≤b.all∧0<b.cap:=by
 have h1:=hb.sh
 have h3:=hb.da
 have h4:=hb.ck
 have hn:b.n*1≤b.n*b.ck:=Nat.mul_le_mul_left _ h4
 have hn2:b.n*1≤b.n*b.da:=Nat.mul_le_mul_left _ h3
 have:b.sh≤b.n:=by unfold Bk.n;omega
 unfold Bk.all Bk.cap
 omega
end Go.Proofs.YtkeagffmmhllcaaGreat
namespace Go.Proofs.YtkeagffmmhllcaaGreat
open Go.Abs
theorem sl_b{B:Nat}{H:Heap}{vs:List Value}(h:Has B H (.sl .bool) vs):∃a l c,vs=[.slice a l.length c]∧SlB H (.slice a l.length c) l∧l.length≤B:=by
 obtain⟨v,rfl,h⟩:=has_one h (by intro l e;cases e) (by intro n l e;cases e)
 obtain⟨l,h1,h2⟩:=has_slB h
 obtain⟨a,c,rfl⟩:=h1.len
 exact⟨a,l,c,rfl,h1,h2⟩
end Go.Proofs.YtkeagffmmhllcaaGreat
