/- Lemmas. -/
import Derived.Test.YtmnlgdpdgjbfgaaGreatW22
import Derived.Test.YtmnlgdpdgjbfgaaGreatRows
set_option linter.all false
namespace Go.Proofs.YtmnlgdpdgjbfgaaGreat
open Go.Abs
variable{H:Heap}{v:Value}
theorem own:ownKnob Tryz.prog.godebug=none:=by kernel_rfl
theorem laidOut:laidOutB Tryz.prog=true:=by kernel_rfl
theorem Cc:Tryz.prog.globals.size=0:=by kernel_rfl
theorem RV{l:List Int}(h:∀x ∈ l,IntKind.u8.min<=x/\x<=IntKind.u8.max):∃r:List UInt8,l.map (Value.int .u8)=r.map vD/\r.length=l.length:=by
 refine⟨l.map (fun x=>UInt8.ofNat x.toNat),?_,by simp⟩;rw[List.map_map];refine List.map_congr_left fun x hx=>?_;have hm:IntKind.u8.min=0:=by decide
 have hM:IntKind.u8.max=255:=by decide
 show Value.int .u8 x=.int .u8 ((UInt8.ofNat x.toNat).toNat:Nat)
 grind[UInt8.toNat_ofNat_of_lt']
theorem I7{B:Nat}(h:Has B H (.sl (.int .u8)) [v]):∃l:List UInt8,SlU H v l/\l.length<=B:=by
 simp only[Has]at h;rcases h with h|⟨i,len,cap,c,h1,h2,h3,h4,h5,h6⟩
 ·cases h
  exact⟨[],.inl ⟨rfl,rfl⟩,by simp⟩
 ·cases h1
  obtain⟨xs,hl,rfl,hr⟩:=xe (B:=B) (H:=H) _ _ h6;obtain⟨us,e,hul⟩:=RV hr;have hlen:(us.take len).length=len:=by simp;omega
  exact⟨us.take len,.inr ⟨i,0,none,cap,_,by rw[hlen],h5,by rw[List.drop_zero,hlen,e,List.map_take],by simp;omega,.inl rfl,by simp;omega⟩,byO⟩
theorem Dr{B:Nat}(h:HasArg B H (.sl (.int .u8)) v):∃l:List UInt8,SlU H v l:=by
 simp only[HasArg]at h;obtain⟨l,h1,_⟩:=I7 h;exact⟨l,h1⟩
theorem Dl{B:Nat}(h:HasArg B H .bool v):∃b,v=.bool b:=by
 simp only[HasArg,Has]at h;obtain⟨b,e⟩:=h;cases e;exact⟨b,rfl⟩
end Go.Proofs.YtmnlgdpdgjbfgaaGreat
