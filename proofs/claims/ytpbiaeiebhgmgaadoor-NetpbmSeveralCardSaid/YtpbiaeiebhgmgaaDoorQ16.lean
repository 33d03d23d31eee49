/- Netpbm: what the laws are handed; both Writes. -/
import Derived.Test.YtpbiaeiebhgmgaaDoorQ15
set_option linter.unusedVariables false
set_option linter.unusedSimpArgs false
set_option linter.unusedSectionVars false
namespace Go.Proofs.YtpbiaeiebhgmgaaDoor
open Go.Abs
set_option linter.unusedSimpArgs false
set_option linter.unusedVariables false
set_option maxRecDepth 20000
theorem u8_of{l:List Int}(h:∀x ∈ l,IntKind.u8.min≤x∧x≤IntKind.u8.max):∃r:List UInt8,l.map (Value.int .u8)=r.map encU∧r.length=l.length:=by
 refine⟨l.map (fun x=>UInt8.ofNat x.toNat),?_,by simp⟩
 rw[List.map_map]
 refine List.map_congr_left fun x hx=>?_
 have hm:IntKind.u8.min=0:=by decide
 have hM:IntKind.u8.max=255:=by decide
 have:=h x hx
 rw[hm,hM]at this
 show Value.int .u8 x=.int .u8 ((UInt8.ofNat x.toNat).toNat:Nat)
 rw[UInt8.toNat_ofNat_of_lt' (by show x.toNat<256;omega)]
 congr 1;omega
theorem has_slU{B:Nat}{H:Heap}{v:Value}(h:Has B H (.sl (.int .u8)) [v]):∃l:List UInt8,SlU H v l∧l.length≤B:=by
 simp only[Has]at h
 rcases h with h|⟨i,len,cap,c,h1,h2,h3,h4,h5,h6⟩
 ·cases h
  exact⟨[],.inl ⟨rfl,rfl⟩,by simp⟩
 ·cases h1
  obtain⟨xs,hl,rfl,hr⟩:=hasN_int (B:=B) (H:=H) _ _ h6
  obtain⟨us,e,hul⟩:=u8_of hr
  have hlen:(us.take len).length=len:=by simp;omega
  exact⟨us.take len,.inr ⟨i,0,none,cap,_,by rw[hlen],h5,by rw[List.drop_zero,hlen,e,List.map_take],by simp;omega,.inl rfl,by simp;omega⟩,by omega⟩
theorem all_cons{B:Nat}{H:Heap}{t:Ty}{r:List Ty}{vs:List Value}(h:HasAll B H (t::r) vs):∃a b,vs=a++b∧Has B H t a∧HasAll B H r b:=by simpa only[HasAll]using h
theorem all_nil{B:Nat}{H:Heap}{vs:List Value}(h:HasAll B H [] vs):vs=[]:=by simpa only[HasAll]using h
theorem bytes_of{B:Nat}{H:Heap}{v:Value}(h:HasArg B H (.sl (.int .u8)) v):∃l:List UInt8,SlU H v l∧l.length≤B:=by
 simp only[HasArg]at h
 exact has_slU h
open Classical in
section
variable {lo:Nat}{G H:Heap}
end
end Go.Proofs.YtpbiaeiebhgmgaaDoor
