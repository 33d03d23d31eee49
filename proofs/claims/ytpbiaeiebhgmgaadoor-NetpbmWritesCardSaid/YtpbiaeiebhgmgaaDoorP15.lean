/- Netpbm: rows, as the reference writes them. Netpbm: Write of the reference. -/
import Derived.Test.YtpbiaeiebhgmgaaDoorP14
set_option linter.unusedVariables false
set_option linter.unusedSimpArgs false
set_option linter.unusedSectionVars false
namespace Go.Proofs.YtpbiaeiebhgmgaaDoor
open Go.Abs
set_option linter.unusedSimpArgs false
set_option linter.unusedVariables false
set_option maxRecDepth 20000
section
variable {lo:Nat}{G H:Heap}
theorem rowB_succ(f:Nat)(l:List UInt8)(k:Nat):rowB f l (k+1)=rowB f l k++sepB f k++itemB f (l.getD k 0):=rfl
theorem lineV1{v:Value}{l:List UInt8}(hl:SlU H v l)(hlo:lo≤H.length)(hne:0<l.length)(hlen:l.length≤4096):Ev cp lo 28 [v,.int .i64 1] H (fun r H'=>Ext H H'∧r=strV (rowW 1 l)):=by
 obtain⟨bw,ow,spw,capw,xs,rfl,gw,hat,hxl⟩:=hl.els 0 hne
 have gwl:=Heap.get_lt gw
 refine st28 ?_;unfold bd28 cf28;simp only[kB,ctlB]
 repeat' ((first|refine xSNb ?_|refine xONb rfl ?_);(try simp only[ctlB]))
 refine aw_for (fun k S H'=>Ext H H'∧∃(z:Nat→Value),S=[.slice (some ⟨bw,ow,spw⟩) l.length capw,.int .i64 1,z 2,strV (rowB 1 l k),.int .i64 (k:Nat),z 5,z 6]) l.length ?_ ?_ ?_ ?_
 ·exact⟨Ext.refl _,exZNf rfl⟩
 ·rintro k S H' hk ⟨_,z,rfl⟩
  exact⟨_,xENb,by simp⟩
 ·rintro k S H1 hk ⟨hx1,z,rfl⟩
  have hatk:=hat k hk
  have gw1:=hx1.get gw
  generalize hc:l.getD k 0=c at hatk
  have hcl:=c.toNat_lt
  have hmod:(k:Int).tmod 70=((k%70:Nat):Int):=by rw[Int.tmod_eq_emod_of_nonneg (by omega)];rfl
  have hmod2:(k:Int).tmod 17=((k%17:Nat):Int):=by rw[Int.tmod_eq_emod_of_nonneg (by omega)];rfl
  have hrl:=rowB_len 1 l k
  have hsl:=sep_len 1 k
  have ha1:=fun H=>ls_strAdd (H:=H) (a:=rowB 1 l k) (b:=[10]) (by simp;omega)
  have ha2:=fun H c=>ls_strAdd (H:=H) (a:=rowB 1 l k++sepB 1 k) (b:=[c]) (by simp;omega)
  (try simp only[ctlB])
  repeat' ((first|refine xSNb ?_|refine xONb rfl ?_);(try simp only[ctlB]))
  refine aw_midX (fun S' H'=>H1=H'∧∃(z:Nat→Value),S'=[.slice (some ⟨bw,ow,spw⟩) l.length capw,.int .i64 1,z 2,strV (rowB 1 l k++sepB 1 k),.int .i64 (k:Nat),z 5,z 6]) ?_ ?_
  ·refine xCNb (fun h=>?_) (fun h=>?_)
   ·have he:0<k∧k%70=0:=by simp at h;omega
    have es:sepB 1 k=[10]:=by unfold sepB;rw[if_neg (by omega),if_pos rfl,if_pos he.2]
    clear h
    rw[es]
    (try simp only[ctlB])
    repeat' ((first|refine xSNb ?_|refine xONb rfl ?_);(try simp only[ctlB]))
    exact⟨by trivial,exZNf rfl⟩
   ·have he:k=0∨k%70≠0:=by simp at h;omega
    have es:sepB 1 k=[]:=by
     unfold sepB
     rcases he with he|he
     ·rw[if_pos he]
     ·rw[if_neg (by omega),if_pos rfl,if_neg he]
    clear h
    rw[es,List.append_nil]
    (try simp only[ctlB])
    refine xCNb (fun h=>?_) (fun h=>?_)
    ·simp at h
    (try simp only[ctlB])
    exact⟨by trivial,exZNf rfl⟩
  ·rintro S' H2 ⟨rfl,z,rfl⟩
   (try simp only[ctlB])
   refine xCNb (fun h=>?_) (fun h=>?_)
   ·simp at h
   (try simp only[ctlB])
   refine xCNb (fun h=>?_) (fun h=>?_)
   ·have hc0:c=0:=by
     have:c.toNat=0:=by simp at h;exact h
     exact UInt8.toNat_inj.1 (by rw[this];rfl)
    clear h
    (try simp only[ctlB])
    repeat' ((first|refine xSNb ?_|refine xONb rfl ?_);(try simp only[ctlB]))
    refine⟨hx1,exZNf ?_⟩
    rw[rowB_succ,hc,show itemB 1 c=[49] by unfold itemB;rw[if_neg (by decide),if_pos hc0],List.append_assoc]
    exact(by first|rfl|(simp only[Int.natCast_add,Int.natCast_one];rfl)|simp only[Int.natCast_add,Int.natCast_one])
   ·have hc0:c≠0:=by rintro rfl;simp at h
    clear h
    (try simp only[ctlB])
    repeat' ((first|refine xSNb ?_|refine xONb rfl ?_);(try simp only[ctlB]))
    refine⟨hx1,exZNf ?_⟩
    rw[rowB_succ,hc,show itemB 1 c=[48] by unfold itemB;rw[if_neg (by decide),if_neg hc0],List.append_assoc]
    exact(by first|rfl|(simp only[Int.natCast_add,Int.natCast_one];rfl)|simp only[Int.natCast_add,Int.natCast_one])
 ·rintro S H' ⟨hx',z,rfl⟩
  have hrl:=rowB_len 1 l l.length
  have ha1:=fun H=>ls_strAdd (H:=H) (a:=rowB 1 l l.length) (b:=[10]) (by simp;omega)
  (try simp only[ctlB])
  repeat' ((first|refine xSNb ?_|refine xONb rfl ?_);(try simp only[ctlB]))
  refine xRNb ?_
  refine⟨hx',?_⟩
  unfold rowW rowP
  rw[if_pos (by omega),if_pos ⟨rfl,hne⟩]
  rfl
theorem lineV2{v:Value}{l:List UInt8}(hl:SlU H v l)(hlo:lo≤H.length)(hne:0<l.length)(hlen:l.length≤4096):Ev cp lo 28 [v,.int .i64 2] H (fun r H'=>Ext H H'∧r=strV (rowW 2 l)):=by
 obtain⟨bw,ow,spw,capw,xs,rfl,gw,hat,hxl⟩:=hl.els 0 hne
 have gwl:=Heap.get_lt gw
 refine st28 ?_;unfold bd28 cf28;simp only[kB,ctlB]
 repeat' ((first|refine xSNb ?_|refine xONb rfl ?_);(try simp only[ctlB]))
 refine aw_for (fun k S H'=>Ext H H'∧∃(z:Nat→Value),S=[.slice (some ⟨bw,ow,spw⟩) l.length capw,.int .i64 2,z 2,strV (rowB 2 l k),.int .i64 (k:Nat),z 5,z 6]) l.length ?_ ?_ ?_ ?_
 ·exact⟨Ext.refl _,exZNf rfl⟩
 ·rintro k S H' hk ⟨_,z,rfl⟩
  exact⟨_,xENb,by simp⟩
 ·rintro k S H1 hk ⟨hx1,z,rfl⟩
  have hatk:=hat k hk
  have gw1:=hx1.get gw
  generalize hc:l.getD k 0=c at hatk
  have hcl:=c.toNat_lt
  have hmod:(k:Int).tmod 70=((k%70:Nat):Int):=by rw[Int.tmod_eq_emod_of_nonneg (by omega)];rfl
  have hmod2:(k:Int).tmod 17=((k%17:Nat):Int):=by rw[Int.tmod_eq_emod_of_nonneg (by omega)];rfl
  have hrl:=rowB_len 2 l k
  have hsl:=sep_len 2 k
  have ha1:=fun H=>ls_strAdd (H:=H) (a:=rowB 2 l k) (b:=[10]) (by simp;omega)
  have ha2:=fun H c=>ls_strAdd (H:=H) (a:=rowB 2 l k++sepB 2 k) (b:=[c]) (by simp;omega)
  have ha3:=fun H=>ls_strAdd (H:=H) (a:=rowB 2 l k) (b:=[32]) (by simp;omega)
  (try simp only[ctlB])
  repeat' ((first|refine xSNb ?_|refine xONb rfl ?_);(try simp only[ctlB]))
  refine aw_midX (fun S' H'=>H1=H'∧∃(z:Nat→Value),S'=[.slice (some ⟨bw,ow,spw⟩) l.length capw,.int .i64 2,z 2,strV (rowB 2 l k++sepB 2 k),.int .i64 (k:Nat),z 5,z 6]) ?_ ?_
  ·refine xCNb (fun h=>?_) (fun h=>?_)
   ·have he:0<k∧k%17=0:=by simp at h;omega
    have es:sepB 2 k=[10]:=by unfold sepB;rw[if_neg (by omega),if_neg (by decide),if_pos he.2]
    clear h
    rw[es]
    (try simp only[ctlB])
    repeat' ((first|refine xSNb ?_|refine xONb rfl ?_);(try simp only[ctlB]))
    exact⟨by trivial,exZNf rfl⟩
   ·have he:k=0∨k%17≠0:=by simp at h;omega
    clear h
    (try simp only[ctlB])
    refine xCNb (fun h=>?_) (fun h=>?_)
    ·have hk0:0<k:=by simp at h;omega
     have es:sepB 2 k=[32]:=by unfold sepB;rw[if_neg (by omega),if_neg (by decide),if_neg (by omega)]
     clear h
     rw[es]
     (try simp only[ctlB])
     repeat' ((first|refine xSNb ?_|refine xONb rfl ?_);(try simp only[ctlB]))
     exact⟨by trivial,exZNf rfl⟩
    ·have hk0:k=0:=by simp at h;omega
     have es:sepB 2 k=[]:=by unfold sepB;rw[if_pos hk0]
     clear h
     rw[es,List.append_nil]
     (try simp only[ctlB])
     exact⟨by trivial,exZNf rfl⟩
  ·rintro S' H2 ⟨rfl,z,rfl⟩
   have hlo1:lo≤H1.length:=by have:=hx1.1;omega
   have hdl:=decL_4 (n:=c.toNat) (by omega)
   (try simp only[ctlB])
   refine xCNb (fun h=>?_) (fun h=>?_)
   ·(try simp only[ctlB])
    repeat' ((first|refine xSNb ?_|refine xONb rfl ?_);(try simp only[ctlB]))
    refine xHNb ?_
    refine wpH_call0 (decV (n:=c.toNat) (by omega) hlo1) ?_
    rintro r H2 ⟨hx2,rfl⟩
    have ha4:=fun H=>ls_strAdd (H:=H) (a:=rowB 2 l k++sepB 2 k) (b:=decL c.toNat) (by simp;omega)
    (try simp only[ctlB])
    repeat' ((first|refine xSNb ?_|refine xONb rfl ?_);(try simp only[ctlB]))
    refine⟨hx1.trans hx2,exZNf ?_⟩
    rw[rowB_succ,hc,show itemB 2 c=decL c.toNat by unfold itemB;rw[if_pos rfl],List.append_assoc]
    exact(by first|rfl|(simp only[Int.natCast_add,Int.natCast_one];rfl)|simp only[Int.natCast_add,Int.natCast_one])
   ·simp at h
 ·rintro S H' ⟨hx',z,rfl⟩
  have hrl:=rowB_len 2 l l.length
  have ha1:=fun H=>ls_strAdd (H:=H) (a:=rowB 2 l l.length) (b:=[10]) (by simp;omega)
  (try simp only[ctlB])
  repeat' ((first|refine xSNb ?_|refine xONb rfl ?_);(try simp only[ctlB]))
  refine xRNb ?_
  refine⟨hx',?_⟩
  unfold rowW rowP
  rw[if_pos (by omega),if_pos ⟨rfl,hne⟩]
  rfl
def pfB(l:List UInt8)(j:Nat):Nat→Nat
 | 0=>0
 | t+1=>2*pfB l j t+bt l l.length (8*j+t)
theorem pfB_lt(l:List UInt8)(j:Nat):∀t,pfB l j t<2^t
 | 0=>by simp[pfB]
 | t+1=>by
  have:=pfB_lt l j t
  have:=bt_le l l.length (8*j+t)
  rw[Nat.pow_succ]
  simp only[pfB];omega
theorem pfB_8(l:List UInt8)(j:Nat):pfB l j 8=byK l l.length j:=by
 simp only[pfB,byK,Nat.add_zero];omega
theorem packV{v:Value}{l:List UInt8}(hl:SlU H v l)(hlo:lo≤H.length)(hne:0<l.length)(hlen:l.length≤4096):Ev cp lo 29 [v] H (fun r H'=>Ext H H'∧∃b,Own lo 1 H' r b (uL (pkI l l.length ((l.length+7)/8)))):=by
 obtain⟨bw,ow,spw,capw,xs,rfl,gw,hat,hxl⟩:=hl.els 1 hne
 have gwl:=Heap.get_lt gw
 refine st29 ?_;unfold bd29 cf29;simp only[kB,ctlB]
 repeat' ((first|refine xSNb ?_|refine xONb rfl ?_);(try simp only[ctlB]))
 refine aw_for (fun j S H'=>Ext H H'∧∃u b,H.length≤b∧Own lo 1 H' u b (uL (pkI l l.length j))∧∃(z:Nat→Value),S=[.slice (some ⟨bw,ow,spw⟩) l.length capw,z 1,u,.int .i64 (8*j:Nat),z 4,z 5,z 6,z 7,z 8]) ((l.length+7)/8) ?_ ?_ ?_ ?_
 ·exact⟨Ext.refl _,_,H.length,Nat.le_refl _,Own.nil hlo,exZNf rfl⟩
 ·rintro j S H' hk ⟨_,u,b,_,_,z,rfl⟩
  exact⟨_,xENb,by simp;omega⟩
 ·rintro j S H1 hj ⟨hx1,u,b1,hb1,ho1,z,rfl⟩
  have gw1:=hx1.get gw
  have hlo1:lo≤H1.length:=by have:=hx1.1;omega
  (try simp only[ctlB])
  repeat' ((first|refine xSNb ?_|refine xONb rfl ?_);(try simp only[ctlB]))
  refine aw_for (fun t S H'=>H1=H'∧∃(z:Nat→Value),S=[.slice (some ⟨bw,ow,spw⟩) l.length capw,z 1,u,.int .i64 (8*j:Nat),.int .i64 (pfB l j t:Nat),.int .i64 (8*j+t:Nat),z 6,z 7,z 8]) 8 ?_ ?_ ?_ ?_
  ·exact⟨rfl,exZNf rfl⟩
  ·rintro t S H' hk ⟨rfl,z,rfl⟩
   exact⟨_,xENb,by simp;omega⟩
  ·rintro t S H' ht ⟨rfl,z,rfl⟩
   have hpl:=pfB_lt l j t
   have hp8:2^t≤2^8:=Nat.pow_le_pow_right (by omega) (by omega)
   have e5:((8*j+(t+1):Nat):Int)=((8*j+t:Nat):Int)+1:=by omega
   by_cases hlt:8*j+t<l.length
   ·have hatk:=hat (8*j+t) hlt
    generalize hc:l.getD (8*j+t) 1=c at hatk
    have hcl:=c.toNat_lt
    have hdc:((8*j+t:Nat):Int)<(l.length:Nat):=by omega
    (try simp only[ctlB])
    repeat' ((first|refine xSNb ?_|refine xONb rfl ?_);(try simp only[ctlB]))
    refine xCNb (fun h=>?_) (fun h=>?_)
    ·have hc0:c=0:=by
      have:c.toNat=0:=by simp at h;exact h
      exact UInt8.toNat_inj.1 (by rw[this];rfl)
     have e:((pfB l j (t+1):Nat):Int)=2*((pfB l j t:Nat):Int)+1:=by
      simp only[pfB,bt];rw[if_pos ⟨hlt,by rw[hc];exact hc0⟩];omega
     clear h
     (try simp only[ctlB])
     repeat' ((first|refine xSNb ?_|refine xONb rfl ?_);(try simp only[ctlB]))
     refine⟨by trivial,exZNf ?_⟩
     rw[e,e5];rfl
    ·have hc0:c≠0:=by rintro rfl;simp at h
     have e:((pfB l j (t+1):Nat):Int)=2*((pfB l j t:Nat):Int):=by
      simp only[pfB,bt];rw[if_neg (by rw[hc];exact fun h=>hc0 h.2)];omega
     clear h
     (try simp only[ctlB])
     repeat' ((first|refine xSNb ?_|refine xONb rfl ?_);(try simp only[ctlB]))
     refine⟨by trivial,exZNf ?_⟩
     rw[e,e5];rfl
   ·have hdc:decide (((8*j+t:Nat):Int)<(l.length:Nat))=false:=by simp;omega
    have e:((pfB l j (t+1):Nat):Int)=2*((pfB l j t:Nat):Int):=by
     simp only[pfB,bt];rw[if_neg (by omega)];omega
    (try simp only[ctlB])
    repeat' ((first|refine xSNb ?_|refine xONb rfl ?_);(try simp only[ctlB]))
    refine xCNb (fun h=>?_) (fun h=>?_)
    ·simp at h
    (try simp only[ctlB])
    repeat' ((first|refine xSNb ?_|refine xONb rfl ?_);(try simp only[ctlB]))
    refine⟨by trivial,exZNf ?_⟩
    rw[e,e5];rfl
  ·rintro S H' ⟨rfl,z,rfl⟩
   have hpl:=pfB_lt l j 8
   have h8:=pfB_8 l j
   obtain⟨c,hc⟩:∃c:UInt8,pfB l j 8=c.toNat:=⟨UInt8.ofNat _,(UInt8.toNat_ofNat_of_lt' hpl).symm⟩
   rw[hc]at h8 ⊢
   have hcl:=c.toNat_lt
   replace h8:False∨_:=.inr h8
   clear hc
   (try simp only[ctlB])
   repeat' ((first|refine xSNb ?_|refine xONb rfl ?_);(try simp only[ctlB]))
   refine xHNb ?_
   refine wpH_app1 (c:=c) ho1 hlo1 (by rw[uL_len,pkI_len];omega) ?_
   rintro v3 H3 ho3 hk3 hl3
   have e8:((8*(j+1):Nat):Int)=((8*j:Nat):Int)+8:=by omega
   (try simp only[ctlB])
   repeat' ((first|refine xSNb ?_|refine xONb rfl ?_);(try simp only[ctlB]))
   refine⟨hk3.ext hx1 hb1,v3,H1.length+1,by have:=hx1.1;omega,?_,exZNf ?_⟩
   ·rw[pkI_succ,uL_app,←h8.resolve_left id,UInt8.ofNat_toNat];exact ho3
   ·rw[e8];rfl
 ·rintro S H' ⟨hx',u,b,hb,ho,z,rfl⟩
  (try simp only[ctlB])
  repeat' ((first|refine xSNb ?_|refine xONb rfl ?_);(try simp only[ctlB]))
  refine xRNb ?_
  exact⟨hx',b,ho⟩
end
end Go.Proofs.YtpbiaeiebhgmgaaDoor
namespace Go.Proofs.YtpbiaeiebhgmgaaDoor
open Go.Abs
set_option linter.unusedSimpArgs false
set_option linter.unusedVariables false
set_option maxRecDepth 20000
section
variable {lo:Nat}{G H:Heap}
set_option linter.defProp false in
def xBNk:=And.intro @ls_strAdd (And.intro @hs_s2bU (And.intro @Int.cast_ofNat_Int @ite_self.{1}))
theorem xENk{P:Prop}(h:P:=by simp(disch:=first|omega|(simp only[lenB];omega))only[evB,xBNk,Nat.reduceAdd,Nat.reduceBEq, *];rfl):P:=h
theorem xSNk{cp:FuncId→Option CF}{lo:Nat}{l:List (Nat×E)}{chk:List E}{Q:Post}{S:List Value}{H:Heap}{vs:List (Nat×Value)}{S':List Value}(k:Q .normal S' H)(h:evSets S H l=some vs:=by exact xENk)(hc:evChk S H chk=true:=by simp(disch:=first|omega|(simp only[lenB];omega))only[evB,xBNk,Nat.reduceAdd,Nat.reduceBEq, *])(hS:setAll S vs=S':=by exact xENk):wpS cp lo (.sets l chk) Q S H:=aw_sets h hc hS k
theorem xHNk{cp:FuncId→Option CF}{lo:Nat}{l:List (Nat×E)}{chk:List E}{Q:Post}{S:List Value}{H:Heap}{vs:List (Nat×Value)}{dst:Option Nat}{o:HOp}{a:E}{xs:List Value}(k:wpH cp lo o xs H fun v H'=>Q .normal (setD (setAll S vs) dst v) H')(h:evSets S H l=some vs:=by exact xENk)(hc:evChk S H chk=true:=by simp(disch:=first|omega|(simp only[lenB];omega))only[evB,xBNk,Nat.reduceAdd,Nat.reduceBEq, *])(ha:ev S H a=some xs:=by exact xENk):wpS cp lo (.hv l chk [] dst o a) Q S H:=aw_hv h hc ha k
theorem xONk{cp:FuncId→Option CF}{lo:Nat}{l:List (Nat×E)}{chk:List E}{Q:Post}{S:List Value}{H:Heap}{vs:List (Nat×Value)}{dst:Option Nat}{o:HOp}{a:E}{xs:List Value}{S':List Value}{H':Heap}{v:Value}(hcall:o.isCall=false)(k:Q .normal S' H')(h:evSets S H l=some vs:=by exact xENk)(hc:evChk S H chk=true:=by simp(disch:=first|omega|(simp only[lenB];omega))only[evB,xBNk,Nat.reduceAdd,Nat.reduceBEq, *])(ha:ev S H a=some xs:=by exact xENk)(ho:hsem0 lo o xs H=some (v,H'):=by exact xENk)(hS:setD (setAll S vs) dst v=S':=by exact xENk):wpS cp lo (.hv l chk [] dst o a) Q S H:=aw_op hcall h hc ha ho hS k
theorem xCNk{cp:FuncId→Option CF}{lo:Nat}{c:E}{a b:Stm}{Q:Post}{S:List Value}{H:Heap}{t:Bool}(k1:t=true→wpS cp lo a Q S H)(k2:t=false→wpS cp lo b Q S H)(h:ev1 S H c=some (.bool t):=by exact xENk):wpS cp lo (.cond c a b) Q S H:=aw_cond h k1 k2
theorem xRNk{cf:CF}{R:Value→Heap→Prop}{S:List Value}{H:Heap}{vs:List Value}(k:R (resultOf vs) H)(h:evList S H cf.res=some vs:=by exact xENk):bodyQ cf R .ret S H:=body_ret h k
theorem wvBad{w ht f:Int}{v:Value}{l:List UInt8}(hl:SlU H v l)(hlo:lo≤H.length)(hb:¬ (f=1∨f=2∨f=4∨f=5)∨valB w ht l.length=false):Ev cp lo 11 [.agg #[.int .i64 w,.int .i64 ht,v],.int .i64 f] H (fun r H'=>Ext H H'∧r=errV 1):=by
 obtain⟨ad,c,rfl⟩:=hl.len
 refine st11 ?_;unfold bd11 cf11;simp only[kB,ctlB]
 repeat' ((first|refine xSNk ?_|refine xONk rfl ?_);(try simp only[ctlB]))
 have hxb:Ext H (H++[some [Value.int IntKind.i64 w,Value.int IntKind.i64 ht,Value.slice ad l.length c]]):=Ext.app _ _
 refine xHNk ?_
 refine wpH_call0 (ckV (hl.mono (Ext.app _ _))) ?_
 rintro r H1 ⟨hx1,rfl⟩
 have hxx:Ext H H1:=hxb.trans hx1
 cases hv:valB w ht l.length with
 | false=>
  (try simp only[ctlB])
  refine aw_hv_if (t:=false) (xENk) (by simp(disch:=first|omega|(simp only[lenB];omega))only[evB,xBNk,Nat.reduceAdd,Nat.reduceBEq, *]) (by simp(disch:=first|omega|(simp only[lenB];omega))only[evB,xBNk,Nat.reduceAdd,Nat.reduceBEq, *];try rfl) (fun h=>by cases h) (fun _=>?_)
  (try simp only[ctlB])
  refine xCNk (fun h=>?_) (fun h=>?_)
  ·(try simp only[ctlB])
   repeat' ((first|refine xSNk ?_|refine xONk rfl ?_);(try simp only[ctlB]))
   refine xRNk ?_
   exact⟨hxx,rfl⟩
  ·exfalso;simp at h
 | true=>
  have hnk:¬ (f=1∨f=2∨f=4∨f=5):=by
   rcases hb with hb|hb
   ·exact hb
   ·rw[hv]at hb;cases hb
  have hkn:(f==1 || f==2 || f==4 || f==5)=false:=by simp;omega
  (try simp only[ctlB])
  refine aw_hv_if (t:=true) (xENk) (by simp(disch:=first|omega|(simp only[lenB];omega))only[evB,xBNk,Nat.reduceAdd,Nat.reduceBEq, *]) (by simp(disch:=first|omega|(simp only[lenB];omega))only[evB,xBNk,Nat.reduceAdd,Nat.reduceBEq, *];try rfl) (fun _=>⟨_,xENk,?_⟩) (fun h=>by cases h)
  refine wpH_call0 knownV ?_
  rw[hkn]
  rintro r H2 ⟨rfl,rfl⟩
  (try simp only[ctlB])
  refine xCNk (fun h=>?_) (fun h=>?_)
  ·(try simp only[ctlB])
   repeat' ((first|refine xSNk ?_|refine xONk rfl ?_);(try simp only[ctlB]))
   refine xRNk ?_
   exact⟨hxx,rfl⟩
  ·exfalso;simp at h
theorem lineV{f:Nat}{v:Value}{l:List UInt8}(hf:f=1∨f=2)(hl:SlU H v l)(hlo:lo≤H.length)(hne:0<l.length)(hlen:l.length≤4096):Ev cp lo 28 [v,.int .i64 f] H (fun r H'=>Ext H H'∧r=strV (rowW f l)):=by
 rcases hf with rfl|rfl
 ·exact lineV1 hl hlo hne hlen
 ·exact lineV2 hl hlo hne hlen
theorem wvOk{w ht f:Nat}{v:Value}{l:List UInt8}(hf:f=1∨f=2∨f=4∨f=5)(hG:G.length≤lo)(hG2:lo≤G.length)(hx:Ext G H)(hl:SlU G v l)(hv:valB w ht l.length=true):Ev cp lo 11 [.agg #[.int .i64 w,.int .i64 ht,v],.int .i64 f] H (fun r H'=>Ext H H'∧((badPx f l∧r=errV 3)∨(¬ badPx f l∧∃u b,r=.tuple #[u,.int .i64 0]∧Own lo 1 H' u b (uL (outB f w ht l))))):=by
 have hlo:lo≤H.length:=by have:=hx.1;omega
 obtain⟨hw1,hw2,hh1,hh2,hlw1,hlw2,hpos,hlw⟩:=val_nat hv
 obtain⟨bw,ow,spw,capw,xs,rfl,gw,hat,hxl⟩:=hl.els 0 hpos
 have gwl:=Heap.get_lt gw
 have hkn:((f:Int)==1 || (f:Int)==2 || (f:Int)==4 || (f:Int)==5)=true:=by simp;omega
 refine st11 ?_;unfold bd11 cf11;simp only[kB,ctlB]
 repeat' ((first|refine xSNk ?_|refine xONk rfl ?_);(try simp only[ctlB]))
 have hxb:Ext H (H++[some [Value.int IntKind.i64 w,Value.int IntKind.i64 ht,Value.slice (some ⟨bw,ow,spw⟩) l.length capw]]):=Ext.app _ _
 have hgb:(H++[some [Value.int IntKind.i64 w,Value.int IntKind.i64 ht,Value.slice (some ⟨bw,ow,spw⟩) l.length capw]]).get H.length=some [Value.int IntKind.i64 w,Value.int IntKind.i64 ht,Value.slice (some ⟨bw,ow,spw⟩) l.length capw]:=get_app0
 generalize H++[some [Value.int IntKind.i64 w,Value.int IntKind.i64 ht,Value.slice (some ⟨bw,ow,spw⟩) l.length capw]]=Hb at hxb hgb
 refine xHNk ?_
 refine wpH_call0 (ckV (hl.mono (hx.trans hxb))) ?_
 rw[if_pos hv]
 rintro r H3 ⟨hx1,rfl⟩
 replace hgb:=hx1.get hgb
 have hx3:Ext H H3:=hxb.trans hx1
 have gw3:=(hx.trans hx3).get gw
 clear hx1 hxb
 (try simp only[ctlB])
 refine aw_hv_if (t:=true) (xENk) (by simp(disch:=first|omega|(simp only[lenB];omega))only[evB,xBNk,Nat.reduceAdd,Nat.reduceBEq, *]) (by simp(disch:=first|omega|(simp only[lenB];omega))only[evB,xBNk,Nat.reduceAdd,Nat.reduceBEq, *];try rfl) (fun _=>⟨_,xENk,?_⟩) (fun h=>by cases h)
 refine wpH_call0 knownV ?_
 rw[hkn]
 rintro r H2 ⟨rfl,rfl⟩
 (try simp only[ctlB])
 refine xCNk (fun h=>?_) (fun h=>?_)
 ·exfalso;simp at h
 (try simp only[ctlB])
 repeat' ((first|refine xSNk ?_|refine xONk rfl ?_);(try simp only[ctlB]))
 have hgr:False∨((f:Int)==2 || (f:Int)==5)=decide (f=2∨f=5):=.inr (by rcases hf with rfl|rfl|rfl|rfl<;>rfl)
 refine aw_midXB (fun S' H'=>H3=H'∧¬ badPx f l∧∃(z:Nat→Value),S'=[z 0,.int .i64 (f:Nat),.pointer (some ⟨H.length,0,none⟩),z 3,z 4,z 5,z 6,z 7,z 8,z 9,z 10,z 11,z 12,z 13,z 14,z 15,z 16,z 17,z 18,z 19,z 20,z 21,z 22,z 23,z 24,z 25,z 26,z 27,z 28,z 29,z 30,z 31,z 32]) ?_ ?_
 ·refine aw_loop' (fun m S H'=>H3=H'∧∃k:Nat,m+k=l.length∧(∀i,i<k→l.getD i 0=0∨l.getD i 0=255)∧∃(z:Nat→Value),S=[z 0,.int .i64 (f:Nat),.pointer (some ⟨H.length,0,none⟩),z 3,z 4,.int .i64 (k:Nat),z 6,z 7,z 8,z 9,z 10,z 11,z 12,z 13,z 14,z 15,z 16,z 17,z 18,z 19,z 20,z 21,z 22,z 23,z 24,z 25,z 26,z 27,z 28,z 29,z 30,z 31,z 32]) l.length ⟨rfl,0,by simp,fun i h=>by omega,exZNf rfl⟩ ?_
  rintro m S H' ⟨rfl,k,hm,hall,z,rfl⟩
  replace hm:m+k≤l.length∧l.length≤m+k:=by omega
  replace hall:False∨_:=.inr hall
  (try simp only[ctlB])
  by_cases hk:k<l.length
  ·have hdc:decide ((k:Int)<(l.length:Nat))=true:=by simpa using hk
   have hatk:=hat k hk
   generalize hc:l.getD k 0=c at hatk
   have hcl:=c.toNat_lt
   refine aw_hv_if (t:=true) (xENk) (by simp(disch:=first|omega|(simp only[lenB];omega))only[evB,xBNk,Nat.reduceAdd,Nat.reduceBEq, *]) (by simp(disch:=first|omega|(simp only[lenB];omega))only[evB,xBNk,Nat.reduceAdd,Nat.reduceBEq, *];try rfl) (fun _=>⟨_,xENk,?_⟩) (fun h=>by cases h)
   refine wpH_call0 grayV ?_
   rw[hgr.resolve_left id]
   rintro r H2 ⟨rfl,rfl⟩
   by_cases hg2:f=2∨f=5
   ·have hd2:decide (f=2∨f=5)=true:=decide_eq_true hg2
    rw[hd2]
    (try simp only[ctlB])
    refine xCNk (fun h=>?_) (fun h=>?_)
    ·exfalso;simp at h
    (try simp only[ctlB])
    refine⟨by trivial,?_,exZNf rfl⟩
    rintro⟨h1,_⟩
    omega
   ·have hd2:decide (f=2∨f=5)=false:=decide_eq_false hg2
    rw[hd2]
    (try simp only[ctlB])
    refine xCNk (fun h=>?_) (fun h=>?_)
    ·(try simp only[ctlB])
     refine xCNk (fun h=>?_) (fun h=>?_)
     ·have hcb:c≠0∧c≠255:=by constructor<;>(rintro rfl;simp at h)
      (try simp only[ctlB])
      repeat' ((first|refine xSNk ?_|refine xONk rfl ?_);(try simp only[ctlB]))
      refine xRNk ?_
      exact⟨hx3,.inl ⟨⟨by omega,k,hk,by rw[hc];exact hcb⟩,rfl⟩⟩
     ·have hcb:c=0∨c=255:=by
       have:c.toNat=0∨c.toNat=255:=by simp at h;omega
       rcases this with e|e
       ·exact .inl (UInt8.toNat_inj.1 (by rw[e];rfl))
       ·exact .inr (UInt8.toNat_inj.1 (by rw[e];rfl))
      clear h
      (try simp only[ctlB])
      repeat' ((first|refine xSNk ?_|refine xONk rfl ?_);(try simp only[ctlB]))
      simp only[loopQ_n]
      refine⟨m-1,by omega,by trivial,k+1,by omega,fun i hi=>?_,exZNf (by first|rfl|(simp only[Int.natCast_add,Int.natCast_one];rfl)|simp only[Int.natCast_add,Int.natCast_one])⟩
      by_cases e:i=k
      ·rw[e,hc];exact hcb
      ·exact hall.resolve_left id i (by omega)
    ·exfalso;simp at h
  ·have hdc:decide ((k:Int)<(l.length:Nat))=false:=by simpa using hk
   refine aw_hv_if (t:=false) (xENk) (by simp(disch:=first|omega|(simp only[lenB];omega))only[evB,xBNk,Nat.reduceAdd,Nat.reduceBEq, *]) (by simp(disch:=first|omega|(simp only[lenB];omega))only[evB,xBNk,Nat.reduceAdd,Nat.reduceBEq, *];try rfl) (fun h=>by cases h) (fun _=>?_)
   (try simp only[ctlB])
   refine xCNk (fun h=>?_) (fun h=>?_)
   ·exfalso;simp at h
   (try simp only[ctlB])
   refine⟨by trivial,?_,exZNf rfl⟩
   rintro⟨_,i,hi,h1,h2⟩
   rcases hall.resolve_left id i (by omega)with e|e
   ·exact h1 e
   ·exact h2 e
 ·rintro S' H' ⟨rfl,hbad,z,rfl⟩
  have hlo3:lo≤H3.length:=by have:=hx3.1;omega
  have hdf:=decL_4 (n:=f) (by omega)
  have hdw:=decL_4 hw2
  have hdh:=decL_4 hh2
  (try simp only[ctlB])
  repeat' ((first|refine xSNk ?_|refine xONk rfl ?_);(try simp only[ctlB]))
  refine xHNk ?_
  refine wpH_call1 (decV (n:=f) (by omega) (Nat.le_refl _)) ?_
  rintro r H4 ⟨hE4,rfl⟩
  have gb4:=hE4.get hgb
  (try simp only[ctlB])
  refine xHNk ?_
  refine wpH_call1 (decV (n:=w) (by omega) (Nat.le_refl _)) ?_
  rintro r H5 ⟨hE5,rfl⟩
  replace hE5:=hE4.trans hE5
  have gb5:=hE5.get hgb
  (try simp only[ctlB])
  refine xHNk ?_
  refine wpH_callC (decV (n:=ht) (by omega) (by have:=hE5.1;omega)) ?_
  rintro r H6 ⟨hE6,rfl⟩
  replace hE6:=hE5.trans hE6
  have gb6:=hE6.get hgb
  (try simp only[ctlB])
  repeat' ((first|refine xSNk ?_|refine xONk rfl ?_);(try simp only[ctlB]))
  refine xHNk ?_
  refine wpH_call0 grayV ?_
  rw[hgr.resolve_left id]
  rintro r H7 ⟨rfl,rfl⟩
  refine aw_midX (fun S' H'=>H6=H'∧∃s,s=headB f w ht∧∃(z:Nat→Value),S'=[z 0,.int .i64 (f:Nat),.pointer (some ⟨H.length,0,none⟩),z 3,z 4,z 5,strV s,z 7,z 8,z 9,z 10,z 11,z 12,z 13,z 14,z 15,z 16,z 17,z 18,z 19,z 20,z 21,z 22,z 23,z 24,z 25,z 26,z 27,z 28,z 29,z 30,z 31,z 32]) ?_ ?_
  ·by_cases hg2:f=2∨f=5
   ·have hd2:decide (f=2∨f=5)=true:=decide_eq_true hg2
    rw[hd2]
    (try simp only[ctlB])
    refine xCNk (fun h=>?_) (fun h=>?_)
    ·(try simp only[ctlB])
     repeat' ((first|refine xSNk ?_|refine xONk rfl ?_);(try simp only[ctlB]))
     refine⟨by trivial,_,?_,exZNf rfl⟩
     unfold headB
     rw[if_pos hg2,decL_lt (n:=f) (by omega)]
     simp
    ·exfalso;simp at h
   ·have hd2:decide (f=2∨f=5)=false:=decide_eq_false hg2
    rw[hd2]
    (try simp only[ctlB])
    refine xCNk (fun h=>?_) (fun h=>?_)
    ·exfalso;simp at h
    (try simp only[ctlB])
    refine⟨by trivial,_,?_,exZNf rfl⟩
    unfold headB
    rw[if_neg hg2,decL_lt (n:=f) (by omega)]
    simp
  ·rintro S' H7 ⟨rfl,s,hs,z,rfl⟩
   have hhl:=headB_len (f:=f) hw2 hh2
   rw[←hs]at hhl
   have hsp:0<s.length:=by rw[hs];unfold headB;simp
   replace hs:False∨s=headB f w ht:=.inr hs
   (try simp only[ctlB])
   repeat' ((first|refine xSNk ?_|refine xONk rfl ?_);(try simp only[ctlB]))
   have hE9:Ext H3 (H6++[some (uL s)]):=hE6.trans (Ext.app _ _)
   have ho9:Own lo 1 (H6++[some (uL s)]) (.slice (some ⟨H6.length,0,some 1⟩) s.length s.length) H6.length (uL s):=⟨by have:=hE6.1;omega,.inr ⟨_,hsp,by simp[uL],rfl,get_app0⟩⟩
   have hbl9:H6.length<(H6++[some (uL s)]).length:=by simp
   have hb9:H3.length≤H6.length:=hE6.1
   generalize H6++[some (uL s)]=H9 at hE9 ho9 hbl9
   generalize H6.length=b9 at ho9 hbl9 hb9
   clear gb4 gb5 gb6 hE4 hE5 hE6
   refine aw_for (fun y S H'=>∃u b,Ext H3 H'∧H3.length≤b∧b<H'.length∧Own lo 1 H' u b (uL (s++rowsW f w l y))∧∃(z:Nat→Value),S=[z 0,.int .i64 (f:Nat),.pointer (some ⟨H.length,0,none⟩),z 3,z 4,z 5,z 6,u,.int .i64 (y:Nat),z 9,z 10,z 11,z 12,z 13,z 14,z 15,z 16,z 17,z 18,z 19,z 20,z 21,z 22,z 23,z 24,z 25,z 26,z 27,z 28,z 29,z 30,z 31,z 32]) ht ?_ ?_ ?_ ?_
   ·exact⟨_,b9,hE9,hb9,hbl9,by rw[rowsW,List.append_nil];exact ho9,exZNf rfl⟩
   ·rintro y S H' hk ⟨u,b,hE,_,_,_,z,rfl⟩
    have gb:=hE.get hgb
    exact⟨_,xENk,by simp⟩
   ·rintro y S H10 hy ⟨u,b10,hE10,hb10,hbl10,ho10,z,rfl⟩
    have gb10:=hE10.get hgb
    have hyw:y*w+w≤w*ht:=by
     have:(y+1)*w≤ht*w:=Nat.mul_le_mul_right w hy
     rw[Nat.succ_mul]at this
     rw[Nat.mul_comm w ht];exact this
    have hp1:(y:Int)*(w:Int)=((y*w:Nat):Int):=by simp
    have hp2:((y*w:Nat):Int)+(w:Int)=((y*w+w:Nat):Int):=by simp
    obtain⟨r,hr,hrs⟩:=sl_sub (a:=y*w) (b:=y*w+w) hl rfl rfl (by omega) (by omega)
    rw[show y*w+w-y*w=w by omega]at hrs
    have hrl:((l.drop (y*w)).take w).length=w:=by simp;omega
    generalize hrow:(l.drop (y*w)).take w=row at hrs hrl
    replace hrow:False∨_:=.inr hrow
    have hrl1:0<row.length:=by omega
    have hrl2:row.length≤4096:=by omega
    have hsl:=rowsW_len (f:=f) (l:=l) hw2 y
    have hwl:=rowW_len f row
    have hyw2:y*w+w≤4194304:=by omega
    clear hrl
    generalize hN:y*w=N at hp1 hp2 hr hyw hyw2
    clear hN
    have hlo10:lo≤H10.length:=by have:=hE10.1;omega
    have hr10:SlU H10 r row:=hrs.mono (hx.trans (hx3.trans hE10))
    have hrW:∀y',rowsW f w l (y'+1)=rowsW f w l y'++rowW f ((l.drop (y'*w)).take w):=fun _=>rfl
    (try simp only[ctlB])
    repeat' ((first|refine xSNk ?_|refine xONk rfl ?_);(try simp only[ctlB]))
    refine xHNk ?_
    refine wpH_call0 plainV' ?_
    rintro r1 H11 ⟨rfl,rfl⟩
    by_cases hp:f=1∨f=2
    ·have hd:((f:Int)==1 || (f:Int)==2)=true:=by simp;omega
     rw[hd]
     (try simp only[ctlB])
     refine xCNk (fun h=>?_) (fun h=>?_)
     ·(try simp only[ctlB])
      repeat' ((first|refine xSNk ?_|refine xONk rfl ?_);(try simp only[ctlB]))
      refine xHNk ?_
      refine wpH_call0 (lineV hp hr10 hlo10 hrl1 hrl2) ?_
      rintro r2 H12 ⟨hx12,rfl⟩
      (try simp only[ctlB])
      refine xHNk ?_
      refine wpH_appS (ho10.mono hx12) (by have:=hx12.1;omega) (by unfold rowW rowP;rw[if_pos (by omega),if_pos ⟨rfl,hrl1⟩];simp) (by simp[uL];omega) ?_
      rintro v13 H13 ho13 hk13 hl13
      (try simp only[ctlB])
      repeat' ((first|refine xSNk ?_|refine xONk rfl ?_);(try simp only[ctlB]))
      refine⟨_,H12.length,hk13.ext (hE10.trans hx12) hb10,(hE10.trans hx12).1,by omega,?_,exZNf (by first|rfl|(simp only[Int.natCast_add,Int.natCast_one];rfl)|simp only[Int.natCast_add,Int.natCast_one])⟩
      rw[hrW,hrow.resolve_left id,←List.append_assoc,uL_app]
      exact ho13
     ·exfalso;simp at h
    ·have hd:((f:Int)==1 || (f:Int)==2)=false:=by simp;omega
     rw[hd]
     (try simp only[ctlB])
     refine xCNk (fun h=>?_) (fun h=>?_)
     ·exfalso;simp at h
     (try simp only[ctlB])
     refine xHNk ?_
     refine wpH_call0 grayV ?_
     rw[hgr.resolve_left id]
     rintro r1 H11 ⟨rfl,rfl⟩
     by_cases hg2:f=2∨f=5
     ·have hd2:decide (f=2∨f=5)=true:=decide_eq_true hg2
      have eW:rowW f row=row:=by unfold rowW;rw[if_neg (by omega),if_pos (by omega)]
      rw[hd2]
      (try simp only[ctlB])
      refine xCNk (fun h=>?_) (fun h=>?_)
      ·(try simp only[ctlB])
       refine xHNk ?_
       refine own_appU ho10 hlo10 hr10 hrl1 (by simp[uL];omega) ?_
       rintro v13 H13 ho13 hk13 hl13
       (try simp only[ctlB])
       repeat' ((first|refine xSNk ?_|refine xONk rfl ?_);(try simp only[ctlB]))
       refine⟨_,H10.length,hk13.ext hE10 hb10,hE10.1,by omega,?_,exZNf (by first|rfl|(simp only[Int.natCast_add,Int.natCast_one];rfl)|simp only[Int.natCast_add,Int.natCast_one])⟩
       rw[hrW,hrow.resolve_left id,eW,←List.append_assoc,uL_app]
       exact ho13
      ·exfalso;simp at h
     ·have hd2:decide (f=2∨f=5)=false:=decide_eq_false hg2
      have eW:rowW f row=pkI row row.length ((row.length+7)/8):=by unfold rowW;rw[if_neg (by omega),if_neg (by omega)]
      rw[hd2]
      (try simp only[ctlB])
      refine xCNk (fun h=>?_) (fun h=>?_)
      ·exfalso;simp at h
      (try simp only[ctlB])
      repeat' ((first|refine xSNk ?_|refine xONk rfl ?_);(try simp only[ctlB]))
      refine xHNk ?_
      refine wpH_call0 (packV hr10 hlo10 hrl1 hrl2) ?_
      rintro r2 H12 ⟨hx12,b12,ho12⟩
      (try simp only[ctlB])
      refine xHNk ?_
      refine own_appU (ho10.mono hx12) (by have:=hx12.1;omega) (Sl.ofOwn ho12) (by rw[pkI_len];omega) (by rw[pkI_len];simp[uL];omega) ?_
      rintro v13 H13 ho13 hk13 hl13
      (try simp only[ctlB])
      repeat' ((first|refine xSNk ?_|refine xONk rfl ?_);(try simp only[ctlB]))
      refine⟨_,H12.length,hk13.ext (hE10.trans hx12) hb10,(hE10.trans hx12).1,by omega,?_,exZNf (by first|rfl|(simp only[Int.natCast_add,Int.natCast_one];rfl)|simp only[Int.natCast_add,Int.natCast_one])⟩
      rw[hrW,hrow.resolve_left id,eW,←List.append_assoc,uL_app]
      exact ho13
   ·rintro S H10 ⟨u,b10,hE10,hb10,hbl10,ho10,z,rfl⟩
    (try simp only[ctlB])
    repeat' ((first|refine xSNk ?_|refine xONk rfl ?_);(try simp only[ctlB]))
    refine xRNk ?_
    exact⟨hx3.trans hE10,.inr ⟨hbad,u,b10,rfl,by unfold outB;rw[←hs.resolve_left id];exact ho10⟩⟩
end
end Go.Proofs.YtpbiaeiebhgmgaaDoor
