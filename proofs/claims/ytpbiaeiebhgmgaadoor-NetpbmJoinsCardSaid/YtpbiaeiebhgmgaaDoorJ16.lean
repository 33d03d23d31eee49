/- Netpbm: what the laws are handed; both Writes. -/
import Derived.Test.YtpbiaeiebhgmgaaDoorJ15
set_option linter.unusedVariables false
set_option linter.unusedSimpArgs false
set_option linter.unusedSectionVars false
namespace Go.Proofs.YtpbiaeiebhgmgaaDoor
open Go.Abs
set_option linter.unusedSimpArgs false
set_option linter.unusedVariables false
set_option maxRecDepth 20000
theorem u8_of{l:List Int}(h:∀x ∈ l,IntKind.u8.min≤x∧x≤IntKind.u8.max):∃r:List UInt8,l.map (Value.int .u8)=r.map encU∧r.length=l.length:=by
 refine⟨l.map (fun x=>UInt8.ofNat x.toNat),?_,by simp⟩
 rw[List.map_map]
 refine List.map_congr_left fun x hx=>?_
 have hm:IntKind.u8.min=0:=by decide
 have hM:IntKind.u8.max=255:=by decide
 have:=h x hx
 rw[hm,hM]at this
 show Value.int .u8 x=.int .u8 ((UInt8.ofNat x.toNat).toNat:Nat)
 rw[UInt8.toNat_ofNat_of_lt' (by show x.toNat<256;omega)]
 congr 1;omega
theorem has_slU{B:Nat}{H:Heap}{v:Value}(h:Has B H (.sl (.int .u8)) [v]):∃l:List UInt8,SlU H v l∧l.length≤B:=by
 simp only[Has]at h
 rcases h with h|⟨i,len,cap,c,h1,h2,h3,h4,h5,h6⟩
 ·cases h
  exact⟨[],.inl ⟨rfl,rfl⟩,by simp⟩
 ·cases h1
  obtain⟨xs,hl,rfl,hr⟩:=hasN_int (B:=B) (H:=H) _ _ h6
  obtain⟨us,e,hul⟩:=u8_of hr
  have hlen:(us.take len).length=len:=by simp;omega
  exact⟨us.take len,.inr ⟨i,0,none,cap,_,by rw[hlen],h5,by rw[List.drop_zero,hlen,e,List.map_take],by simp;omega,.inl rfl,by simp;omega⟩,by omega⟩
theorem all_cons{B:Nat}{H:Heap}{t:Ty}{r:List Ty}{vs:List Value}(h:HasAll B H (t::r) vs):∃a b,vs=a++b∧Has B H t a∧HasAll B H r b:=by simpa only[HasAll]using h
theorem all_nil{B:Nat}{H:Heap}{vs:List Value}(h:HasAll B H [] vs):vs=[]:=by simpa only[HasAll]using h
theorem slU_one{B:Nat}{H:Heap}{vs:List Value}(h:Has B H (.sl (.int .u8)) vs):∃v l,vs=[v]∧SlU H v l∧l.length≤B:=by
 obtain⟨v,rfl,h⟩:=has_one h (by intro l e;cases e) (by intro n l e;cases e)
 obtain⟨l,h1,h2⟩:=has_slU h
 exact⟨v,l,rfl,h1,h2⟩
theorem bytes_of{B:Nat}{H:Heap}{v:Value}(h:HasArg B H (.sl (.int .u8)) v):∃l:List UInt8,SlU H v l∧l.length≤B:=by
 simp only[HasArg]at h
 exact has_slU h
open Classical in
noncomputable def wres(w ht f:Int)(l:List UInt8):List UInt8×Int:=
 if ¬ (f=1∨f=2∨f=4∨f=5)∨valB w ht l.length=false then([],1) else if badPx f.toNat l then([],3) else(outB f.toNat w.toNat ht.toNat l,0)
def isRes(H':Heap)(r:Value)(p:List UInt8×Int):Prop:=∃u,r=.tuple #[u,.int .i64 p.2]∧SlU H' u p.1
section
variable {lo:Nat}{G H:Heap}
theorem isRes_err{H':Heap}{n:Int}:isRes H' (errV n) ([],n):=⟨_,rfl,.inl ⟨rfl,rfl⟩⟩
theorem wresOk{w ht f:Nat}{l:List UInt8}{r:Value}{H':Heap}(hf:f=1∨f=2∨f=4∨f=5)(hv:valB w ht l.length=true)(h:(badPx f l∧r=errV 3)∨(¬ badPx f l∧∃u b,r=.tuple #[u,.int .i64 0]∧Own lo 1 H' u b (uL (outB f w ht l)))):isRes H' r (wres w ht f l):=by
 unfold wres
 rw[if_neg (by rintro(h|h);omega;rw[hv]at h;cases h)]
 simp only[Int.toNat_natCast]
 rcases h with ⟨hb,rfl⟩|⟨hb,u,b,rfl,ho⟩
 ·rw[if_pos hb];exact isRes_err
 ·rw[if_neg hb];exact⟨u,rfl,Sl.ofOwn ho⟩
theorem val_pos{w ht:Int}{n:Nat}(hv:valB w ht n=true):∃a b:Nat,w=a∧ht=b:=by
 unfold valB at hv
 simp only[Bool.and_eq_true,decide_eq_true_eq]at hv
 obtain⟨h1,h2,h3,h4,h5⟩:=posB_iff.1 hv.1
 exact⟨w.toNat,ht.toNat,by omega,by omega⟩
theorem wrP{w ht f:Int}{v:Value}{l:List UInt8}(hG:G.length≤lo)(hG2:lo≤G.length)(hg:G.get 0=some powC)(hx:Ext G H)(hl:SlU G v l):Ev cp lo 10 [.agg #[.int .i64 w,.int .i64 ht,v],.int .i64 f] H (fun r H'=>Ext H H'∧isRes H' r (wres w ht f l)):=by
 by_cases hb:¬ (f=1∨f=2∨f=4∨f=5)∨valB w ht l.length=false
 ·refine(wrBad (hl.mono hx) (by have:=hx.1;omega) hb).mono ?_
  rintro r H' ⟨h1,rfl⟩
  refine⟨h1,?_⟩
  unfold wres
  rw[if_pos hb]
  exact isRes_err
 ·simp only[not_or,Bool.not_eq_false,Decidable.not_not]at hb
  obtain⟨hf,hv⟩:=hb
  obtain⟨a,b,rfl,rfl⟩:=val_pos hv
  obtain⟨g,rfl⟩:∃g:Nat,f=g:=⟨f.toNat,by omega⟩
  have hf':g=1∨g=2∨g=4∨g=5:=by omega
  refine(wrOk hf' hG hG2 hg hx hl hv).mono ?_
  rintro r H' ⟨h1,h2⟩
  exact⟨h1,wresOk hf' hv h2⟩
theorem powG0(h:Longer gaV H):H.get 0=some powC:=h.get rfl
end
end Go.Proofs.YtpbiaeiebhgmgaaDoor
