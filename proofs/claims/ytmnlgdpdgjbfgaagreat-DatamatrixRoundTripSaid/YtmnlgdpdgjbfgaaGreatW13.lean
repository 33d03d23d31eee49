/- Lemmas. -/
import Derived.Test.YtmnlgdpdgjbfgaaGreatW11
import Derived.Test.YtmnlgdpdgjbfgaaGreatW12
import Derived.KernelRfl
set_option linter.all false
namespace Go.Proofs.YtmnlgdpdgjbfgaaGreat
open Go.Abs
set_option maxHeartbeats 0
def zN:Value:=.agg #[.int .i64 2,.int .i64 256,.int .i64 301]
theorem SM:zV cp Nn 0 1000 0 150 [.i .i64 301] (.mk 0 .e) (AW (.bool true) 0)=true:=by kernel_rfl
noncomputable def scA:SC:=scF Nn 150 0 (.int .i64 301) (.b true)
theorem Gd:qi cp scA 1000:=Gf (N':=1000) (c:=.int .i64 301) (v:=.b true) (BK cp) (nN mQ (BK cp) SM rfl rfl fun _=>rfl)
theorem SK:zV cp scA 1000 1000 0 161 [.o zN] (.mk 0 .e) (AW (.int .i64 2) 257)=true:=by kernel_rfl
noncomputable def scB:SC:=scF scA 161 257 zN (.i .i64 2)
theorem Ge:qi cp scB 2000:=Gf (N':=2000) (c:=zN) (v:=.i .i64 2) Gd (nN mQ Gd SK rfl rfl fun _=>rfl)
def E2(a:Nat):Nat:=if Nat.ble a 127 then 2*a else Nat.xor (2*a) 301
theorem Nk:((List.range 256).all fun a=>zV cp scB 2000 300 0 115 [.o zN,.i .i64 a,.i .i64 2] (.mk 0 .e) (AW (.tuple #[.int .i64 (.ofNat (E2 a)),.int .i64 0]) 5))=true:=by kernel_rfl
theorem CJ(a:Nat):eq3 (.tuple #[.int .i64 (.ofNat a),.int .i64 0]) (.tuple #[.int .i64 (.ofNat a),.int .i64 0])=true:=by
 unfold eq3;simp[eqL,eq2,eq1]
noncomputable def scC:SC:=scM scB 115 5 255 zN (.int .i64 2) E2
theorem O2:qi cp scC 2300:=O3 (N':=2300) (c:=zN) (c2:=.int .i64 2) Ge fun a ha=>nN (args:=[.o zN,.i .i64 a,.i .i64 2]) mQ Ge (List.all_eq_true.1 Nk a (List.mem_range.2 byO)) rfl (CJ _) fun _=>rfl
end Go.Proofs.YtmnlgdpdgjbfgaaGreat
