/- Dmtext: EDIFACT is read. Dmtext: how long what is read may be. Dmtext: Decode. -/
import Derived.Test.YthnflhimcmdnbaaT18
import Derived.Test.YthnflhimcmdnbaaT19
set_option linter.unusedVariables false
set_option linter.unusedSimpArgs false
set_option linter.unusedSectionVars false
namespace Go.Proofs.Ythnflhimcmdnbaa
open Go.Abs
set_option linter.unusedSimpArgs false
set_option linter.unusedVariables false
set_option maxRecDepth 20000
theorem or256{g c:Nat}(hc:c<256):256*g ||| c=256*g+c:=(Nat.two_pow_add_eq_or_of_lt (i:=8) hc g).symm
section
variable {A H:Heap}{db:Nat}{wv:Value}{ws:List Nat}{a:Nat}{out:List UInt8}{lo:Nat}
theorem edidP{f:Nat}(hd:Dc A H db wv ws a out)(hlo:lo≤A.length)(hB:out.length+2*(ws.length-a)≤16400)(hf:8*ws.length+6≤6*f):Ev cp lo 37 [ptr db] H (fun r H'=>isRd A db wv ws r H' (ediD ws a f 0 out)):=by
 have hlen:=hd.len
 have hle:=hd.le
 have hbyt:=hd.byt
 refine st37 ?_;unfold bd37 cf37;simp only[kB,ctlB]
 repeat' ((first|refine xSDg ?_|refine xODg rfl ?_);(try simp only[ctlB]))
 generalize hR:ediD ws a f 0 out=R
 refine aw_loop' (fun m S H'=>∃(bit f:Nat) (o:List UInt8),((Dc A H' db wv ws a o∧6*o.length≤6*out.length+bit)∧(bit%2=0∧bit<8*ws.length+6∧8*ws.length+6≤6*f+bit∧m=8*ws.length+6-bit))∧(False∨ediD ws a f bit o=R)∧∃(z:Nat→Value),S=[ptr db,z 1,.int .i64 (bit:Nat),z 3,z 4,z 5,z 6,z 7,z 8,z 9,z 10,z 11]) (8*ws.length+6) ⟨0,f,out,⟨⟨hd,by omega⟩,by omega,by omega,by omega,by omega⟩,.inr hR,exZDe rfl⟩ ?_
 clear hR hf hd
 rintro m S H1 ⟨bit,f,o,⟨⟨hd,ho6⟩,hb2,hbl,hf,hm⟩,hR,z,rfl⟩
 obtain⟨g,rfl⟩:∃g,f=g+1:=⟨f-1,by omega⟩
 replace hm:m≤8*ws.length+6-bit∧8*ws.length+6-bit≤m:=by omega
 have hlA:=hd.ext.1
 have hdA:=hd.dbA
 have hx0:=hd.ext
 obtain⟨aw,cw,ew⟩:=hd.w.len
 subst ew
 obtain⟨ov,b,⟨hg,hne⟩,hoo⟩:=hd.g
 have hdl:=Heap.get_lt hg
 clear hoo
 have hR2:False∨(if ws.length≤a+(bit+5)/8 then .inl 10 else if sixS ws a bit=31 then(if wd ws (a+(bit+5)/8)%2^((8-(bit+6)%8)%8)≠0 then .inl 22 else .inr (a+(bit+5)/8+1,o)) else ediD ws a g (bit+6) (o++[UInt8.ofNat (if sixS ws a bit<32 then sixS ws a bit+64 else sixS ws a bit)]))=R:=hR
 clear hR
 have q1:(bit:Int).tdiv 8=((bit/8:Nat):Int):=by rw[Int.tdiv_eq_ediv_of_nonneg (by omega)];omega
 have q2:((bit:Int)+5).tdiv 8=(((bit+5)/8:Nat):Int):=by rw[Int.tdiv_eq_ediv_of_nonneg (by omega)];omega
 have q3:(bit:Int).tmod 8=((bit%8:Nat):Int):=by rw[Int.tmod_eq_emod_of_nonneg (by omega)];omega
 have q4:((bit:Int)+6).tmod 8=(((bit+6)%8:Nat):Int):=by rw[Int.tmod_eq_emod_of_nonneg (by omega)];omega
 have hs6:sixS ws a bit=(256*wd ws (a+bit/8)+if bit/8<(bit+5)/8 then wd ws (a+(bit+5)/8) else 0)/2^(10-bit%8)%64:=rfl
 have hpos:bit/8≤(bit+5)/8∧8*((bit+5)/8)≤bit+5:=by omega
 have ht:bit%8<8∧(bit%8)%2=0:=by omega
 have h68:(bit+6)%8≤7:=by omega
 have hinj:bit+5<8*((bit+5)/8)+8:=by omega
 generalize hi0:bit/8=i0 at q1 hs6 hpos
 generalize hi1:(bit+5)/8=i1 at q2 hs6 hpos hR2 hinj
 generalize hit:bit%8=t at q3 hs6 ht
 generalize hir:(bit+6)%8=r6 at q4 h68 hR2
 clear hi0 hi1 hit hir
 (try simp only[ctlB])
 repeat' ((first|refine xSDg ?_|refine xODg rfl ?_);(try simp only[ctlB]))
 by_cases hae:ws.length≤a+i1
 ·have hdd:decide ((a:Int)+(i1:Nat)≥(ws.length:Nat))=true:=decide_eq_true (by omega)
  have hdd2:decide ((ws.length:Int)≤(a:Nat)+(i1:Nat))=true:=decide_eq_true (by omega)
  have h2:=hR2.resolve_left id
  rw[if_pos hae]at h2
  subst h2
  refine xCDg (fun h=>?_) (fun h=>?_)
  ·(try simp only[ctlB])
   repeat' ((first|refine xSDg ?_|refine xODg rfl ?_);(try simp only[ctlB]))
   refine xRDg ?_
   exact⟨rfl,hx0,by omega⟩
  ·exfalso;simp at h
 have hdd:decide ((a:Int)+(i1:Nat)≥(ws.length:Nat))=false:=decide_eq_false (by omega)
 have hdd2:decide ((ws.length:Int)≤(a:Nat)+(i1:Nat))=false:=decide_eq_false (by omega)
 have h2:=hR2.resolve_left id
 rw[if_neg hae]at h2
 replace h2:False∨_:=.inr h2
 clear hR2
 refine xCDg (fun h=>?_) (fun h=>?_)
 ·exfalso;simp at h
 clear h hdd hdd2
 obtain⟨b1,o1,x1,ia,g1,e1⟩:=hd.at (k:=a+i0) (by omega)
 obtain⟨b2,o2,x2,ib,g2,e2⟩:=hd.at (k:=a+i1) (by omega)
 have hy1:=hbyt (a+i0)
 have hy2:=hbyt (a+i1)
 generalize hw1:wd ws (a+i0)=w1 at e1 hs6
 generalize hw2:wd ws (a+i1)=w2 at e2 hs6 h2
 replace hy1:w1≤255:=by rw[←hw1];exact hy1
 replace hy2:w2≤255:=by rw[←hw2];exact hy2
 clear hw1 hw2
 simp only[Int.natCast_add]at ia ib
 have hsh:IntKind.i64.wrap ((w1:Int)*2^(min 8 IntKind.i64.bits))=((256*w1:Nat):Int):=by
  have e:min 8 IntKind.i64.bits=8:=by decide
  rw[e,show(w1:Int)*2^8=((256*w1:Nat):Int) by omega]
  exact wrapN (by omega)
 obtain⟨pr,hpr,hprl⟩:∃pr,(False∨256*w1+(if i0<i1 then w2 else 0)=pr)∧pr≤65535:=⟨_,.inr rfl,by split<;>omega⟩
 rw[hpr.resolve_left id]at hs6
 (try simp only[ctlB])
 repeat' ((first|refine xSDg ?_|refine xODg rfl ?_);(try simp only[ctlB]))
 refine aw_midX (fun S' H'=>H1=H'∧∃(z:Nat→Value),S'=[ptr db,z 1,.int .i64 (bit:Nat),z 3,.int .i64 ((a:Int)+(i1:Nat)),encN pr,z 6,z 7,z 8,z 9,z 10,z 11]) ?_ ?_
 ·by_cases hii:i0<i1
  ·have hdd:decide ((a:Int)+(i1:Nat)>(a:Nat)+(i0:Nat))=true:=decide_eq_true (by omega)
   have hdd2:decide ((a:Int)+(i0:Nat)<(a:Nat)+(i1:Nat))=true:=decide_eq_true (by omega)
   have h3:=hpr.resolve_left id
   rw[if_pos hii]at h3
   subst h3
   have hor:IntKind.i64.wrap ((BitVec.ofInt IntKind.i64.bits ((256*w1:Nat):Int) ||| BitVec.ofInt IntKind.i64.bits ((w2:Nat):Int)).toNat:Int)=((256*w1+w2:Nat):Int):=by rw[or_int (by omega) (by omega),or256 (by omega)]
   refine xCDg (fun h=>?_) (fun h=>?_)
   ·clear h hdd hdd2
    (try simp only[ctlB])
    repeat' ((first|refine xSDg ?_|refine xODg rfl ?_);(try simp only[ctlB]))
    exact⟨by trivial,exZDe rfl⟩
   ·exfalso;simp at h
  ·have hdd:decide ((a:Int)+(i1:Nat)>(a:Nat)+(i0:Nat))=false:=decide_eq_false (by omega)
   have hdd2:decide ((a:Int)+(i0:Nat)<(a:Nat)+(i1:Nat))=false:=decide_eq_false (by omega)
   have h3:=hpr.resolve_left id
   rw[if_neg hii,Nat.add_zero]at h3
   subst h3
   refine xCDg (fun h=>?_) (fun h=>?_)
   ·exfalso;simp at h
   ·clear h hdd hdd2
    (try simp only[ctlB])
    exact⟨by trivial,exZDe rfl⟩
 rintro S' H2 ⟨rfl,z,rfl⟩
 have hf10:(10:Int)-(t:Nat)=((10-t:Nat):Int):=by omega
 have hfd:=fdivN (a:=pr) (b:=2^(10-t)) (10-t) rfl (by omega)
 simp only[Int.toNat_natCast]at hfd
 obtain⟨s6,hs6e⟩:∃s6,pr/2^(10-t)=s6:=⟨_,rfl⟩
 have hs6l:s6≤65535:=by rw[←hs6e];exact Nat.le_trans (Nat.div_le_self _ _) hprl
 rw[hs6e]at hfd hs6
 have hand:IntKind.i64.wrap ((BitVec.ofInt IntKind.i64.bits ((s6:Nat):Int) &&& BitVec.ofInt IntKind.i64.bits ((63:Nat):Int)).toNat:Int)=((s6%64:Nat):Int):=by rw[and_int (by omega) (by omega),and63]
 simp only[Int.cast_ofNat_Int]at hand
 clear hs6e hsh hpr
 rw[hs6]at h2
 have hvl:s6%64≤63:=by omega
 generalize s6%64=x at hand h2 hvl
 (try simp only[ctlB])
 repeat' ((first|refine xSDg ?_|refine xODg rfl ?_);(try simp only[ctlB]))
 by_cases hx31:x=31
 ·have hdd:decide ((x:Int)=31)=true:=decide_eq_true (by omega)
  have h3:=h2.resolve_left id
  rw[if_pos hx31]at h3
  replace h3:False∨_:=.inr h3
  replace hx31:x≤31∧31≤x:=by omega
  clear h2 hand hfd
  have e8:(8:Int)-(r6:Nat)=((8-r6:Nat):Int):=by omega
  have q5:((8-r6:Nat):Int).tmod 8=(((8-r6)%8:Nat):Int):=by rw[Int.tmod_eq_emod_of_nonneg (by omega)];omega
  have hrs:(8-r6)%8≤7:=by omega
  generalize (8-r6)%8=rs at q5 hrs h3
  have hp1:1≤2^rs:=Nat.one_le_two_pow
  have hp2:2^rs≤128:=Nat.le_trans (Nat.pow_le_pow_right (by decide) hrs) (by decide)
  have hs1:IntKind.i64.wrap (1*2^(min rs IntKind.i64.bits))=((2^rs:Nat):Int):=by
   have e:min rs IntKind.i64.bits=rs:=by show min rs 64=rs;omega
   rw[e,show(1:Int)*2^rs=((2^rs:Nat):Int) by simp]
   exact wrapN (by omega)
  have hs1':IntKind.i64.wrap (2^(min rs IntKind.i64.bits))=((2^rs:Nat):Int):=by rw[←hs1,Int.one_mul]
  have hmsk:w2 &&& (2^rs-1)=w2%2^rs:=Nat.and_two_pow_sub_one_eq_mod w2 rs
  have hand2:IntKind.i64.wrap ((BitVec.ofInt IntKind.i64.bits ((w2:Nat):Int) &&& BitVec.ofInt IntKind.i64.bits (((2^rs-1:Nat):Nat):Int)).toNat:Int)=((w2%2^rs:Nat):Int):=by rw[and_int (by omega) (by omega),hmsk]
  have epw:((2^rs:Nat):Int)-1=((2^rs-1:Nat):Int):=by omega
  obtain⟨pw,hpw⟩:∃pw,2^rs=pw:=⟨_,rfl⟩
  rw[hpw]at hs1 hs1' hand2 epw hp1 hp2 h3
  obtain⟨z2,hz2⟩:∃z2,w2%pw=z2:=⟨_,rfl⟩
  rw[hz2]at hand2 h3
  clear hpw hz2 hmsk
  refine xCDg (fun h=>?_) (fun h=>?_)
  ·clear h hdd
   (try simp only[ctlB])
   repeat' ((first|refine xSDg ?_|refine xODg rfl ?_);(try simp only[ctlB]))
   by_cases hz:z2=0
   ·have hdd:decide ((z2:Int)=0)=true:=decide_eq_true (by omega)
    have h4:=h3.resolve_left id
    rw[if_neg (by omega)]at h4
    subst h4
    clear h3
    have hmv:=hd.move (a':=a+i1+1) hg (by omega)
    replace hz:z2≤0:=by omega
    refine xCDg (fun h=>?_) (fun h=>?_)
    ·exfalso;first|(simp at h;omega)|(simp at h;done)
    clear h hdd
    (try simp only[ctlB])
    repeat' ((first|refine xSDg ?_|refine xODg rfl ?_);(try simp only[ctlB]))
    refine xRDg ?_
    exact⟨rfl,hmv⟩
   ·have hdd:decide ((z2:Int)=0)=false:=decide_eq_false (by omega)
    have h4:=h3.resolve_left id
    rw[if_pos hz]at h4
    subst h4
    clear h3
    refine xCDg (fun h=>?_) (fun h=>?_)
    ·(try simp only[ctlB])
     repeat' ((first|refine xSDg ?_|refine xODg rfl ?_);(try simp only[ctlB]))
     refine xRDg ?_
     exact⟨rfl,hx0,by omega⟩
    ·exfalso;simp at h;omega
  ·exfalso;simp at h
 ·have hdd:decide ((x:Int)=31)=false:=decide_eq_false (by omega)
  have h3:=h2.resolve_left id
  rw[if_neg hx31]at h3
  obtain⟨y,hy,hyl⟩:∃y,(False∨(if x<32 then x+64 else x)=y)∧y≤255:=⟨_,.inr rfl,by split<;>omega⟩
  rw[hy.resolve_left id]at h3
  replace h3:False∨_:=.inr h3
  clear h2 hand hfd
  refine xCDg (fun h=>?_) (fun h=>?_)
  ·exfalso;simp at h
  clear h hdd
  (try simp only[ctlB])
  refine aw_midX (fun S' H'=>H1=H'∧∃(z:Nat→Value),S'=[ptr db,z 1,.int .i64 (bit:Nat),z 3,z 4,z 5,encN y,z 7,z 8,z 9,z 10,z 11]) ?_ ?_
  ·by_cases h32:x<32
   ·have hdd:decide ((x:Int)<32)=true:=decide_eq_true (by omega)
    have h4:=hy.resolve_left id
    rw[if_pos h32]at h4
    subst h4
    refine xCDg (fun h=>?_) (fun h=>?_)
    ·clear h hdd
     (try simp only[ctlB])
     repeat' ((first|refine xSDg ?_|refine xODg rfl ?_);(try simp only[ctlB]))
     exact⟨by trivial,exZDe rfl⟩
    ·exfalso;simp at h
   ·have hdd:decide ((x:Int)<32)=false:=decide_eq_false (by omega)
    have h4:=hy.resolve_left id
    rw[if_neg h32]at h4
    subst h4
    refine xCDg (fun h=>?_) (fun h=>?_)
    ·exfalso;simp at h
    ·clear h hdd
     (try simp only[ctlB])
     exact⟨by trivial,exZDe rfl⟩
  rintro S' H2 ⟨rfl,z,rfl⟩
  (try simp only[ctlB])
  repeat' ((first|refine xSDg ?_|refine xODg rfl ?_);(try simp only[ctlB]))
  rw[←encU_of (n:=y) (by omega)]
  refine xHDg ?_
  refine dcApp (n:=1) (l:=[UInt8.ofNat y]) hd hg hlo rfl (by omega) (by omega) ?_
  intro ad m' H6 hg6 hl6 hd6
  (try simp only[ctlB])
  repeat' ((first|refine xSDg ?_|refine xODg rfl ?_);(try simp only[ctlB]))
  exact⟨8*ws.length+6-(bit+6),by omega,bit+6,g,o++[UInt8.ofNat y],⟨⟨hd6,by simp;omega⟩,by omega,by omega,by omega,rfl⟩,h3,exZDe (by first|rfl|(simp only[Int.natCast_add,Int.natCast_one];rfl)|simp only[Int.natCast_add,Int.natCast_one])⟩
end
end Go.Proofs.Ythnflhimcmdnbaa
namespace Go.Proofs.Ythnflhimcmdnbaa
open Go.Abs
set_option linter.unusedSimpArgs false
set_option linter.unusedVariables false
set_option maxRecDepth 20000
theorem triS_none{ws:List Nat}{a:Nat}(h:triS ws a=.inr none):a<ws.length∧wd ws a=254:=by
 unfold triS at h
 split at h
 ·cases h
 ·split at h
  ·exact⟨by omega,by assumption⟩
  ·split at h
   ·cases h
   ·split at h<;>cases h
theorem triS_some{ws:List Nat}{a:Nat}{u:Nat×Nat×Nat}(h:triS ws a=.inr (some u)):a+1<ws.length∧wd ws a≠254∧1≤256*wd ws a+wd ws (a+1)∧256*wd ws a+wd ws (a+1)≤64000∧u=((256*wd ws a+wd ws (a+1)-1)/1600,(256*wd ws a+wd ws (a+1)-1)/40%40,(256*wd ws a+wd ws (a+1)-1)%40):=by
 unfold triS at h
 split at h
 ·cases h
 ·split at h
  ·cases h
  ·split at h
   ·cases h
   ·split at h
    ·cases h
    ·refine⟨by omega,by assumption,by omega,by omega,?_⟩
     cases h;rfl
theorem valS_len{lower:Bool}{s t:Nat×Bool×List UInt8}{v:Nat}(h:valS lower s v=.inr t):t.2.2.length≤s.2.2.length+1:=by
 unfold valS at h
 split at h
 ·cases h;exact Nat.le_succ _
 ·split at h
  ·cases h;exact Nat.le_succ _
  ·split at h
   ·cases h
   ·cases h;simp
theorem val3_some{lower:Bool}{s t:Nat×Bool×List UInt8}{u:Nat×Nat×Nat}(h:val3 lower s u=.inr t):∃s1 s2,valS lower s u.1=.inr s1∧valS lower s1 u.2.1=.inr s2∧valS lower s2 u.2.2=.inr t:=by
 unfold val3 at h
 cases h1:valS lower s u.1 with
 | inl e=>rw[h1]at h;cases h
 | inr s1=>
  rw[h1]at h
  simp only at h
  cases h2:valS lower s1 u.2.1 with
  | inl e=>rw[h2]at h;cases h
  | inr s2=>rw[h2]at h;exact⟨s1,s2,rfl,h2,h⟩
theorem val3_len{lower:Bool}{s t:Nat×Bool×List UInt8}{u:Nat×Nat×Nat}(h:val3 lower s u=.inr t):t.2.2.length≤s.2.2.length+3:=by
 obtain⟨s1,s2,h1,h2,h3⟩:=val3_some h
 have:=valS_len h1
 have:=valS_len h2
 have:=valS_len h3
 omega
theorem valsS_len{ws:List Nat}{lower:Bool}:∀(f a:Nat) (s:Nat×Bool×List UInt8) {a':Nat} {o:List UInt8},valsS ws lower f a s=.inr (a',o)→a<a'∧a'≤ws.length∧o.length+2*(ws.length-a')≤s.2.2.length+2*(ws.length-a)
 | 0,a,s,a',o,h=>by cases h
 | f+1,a,s,a',o,h=>by
  simp only[valsS]at h
  cases ht:triS ws a with
  | inl e=>rw[ht]at h;cases h
  | inr t=>
   rw[ht]at h
   cases t with
   | none=>
    have:=triS_none ht
    cases h
    omega
   | some u=>
    have:=triS_some ht
    simp only at h
    cases hv:val3 lower s u with
    | inl e=>rw[hv]at h;cases h
    | inr s'=>
     rw[hv]at h
     have:=valsS_len f (a+2) s' h
     have:=val3_len hv
     omega
theorem x12S'_len{ws:List Nat}:∀(f a:Nat) (s:List UInt8) {a':Nat} {o:List UInt8},x12S' ws f a s=.inr (a',o)→a<a'∧a'≤ws.length∧o.length+2*(ws.length-a')≤s.length+2*(ws.length-a)
 | 0,a,s,a',o,h=>by cases h
 | f+1,a,s,a',o,h=>by
  simp only[x12S']at h
  cases ht:triS ws a with
  | inl e=>rw[ht]at h;cases h
  | inr t=>
   rw[ht]at h
   cases t with
   | none=>
    have:=triS_none ht
    cases h
    omega
   | some u=>
    have:=triS_some ht
    have:=x12S'_len f (a+2) _ h
    simp at this
    omega
theorem ediD_len{ws:List Nat}{a:Nat}:∀(f bit:Nat) (s:List UInt8) {a':Nat} {o:List UInt8},ediD ws a f bit s=.inr (a',o)→a<a'∧a'≤ws.length∧6*o.length+bit≤6*s.length+8*(a'-a)
 | 0,bit,s,a',o,h=>by cases h
 | f+1,bit,s,a',o,h=>by
  simp only[ediD]at h
  split at h
  ·cases h
  ·split at h
   ·split at h
    ·cases h
    ·cases h;omega
   ·have:=ediD_len f (bit+6) _ h
    simp at this
    omega
theorem runS_len{ws:List Nat}:∀(n a:Nat) (s:List UInt8) {a':Nat} {o:List UInt8},a≤ws.length→runS ws n a s=.inr (a',o)→a≤a'∧a'≤ws.length∧a'=a+n∧o.length=s.length+n
 | 0,a,s,a',o,ha,h=>by cases h;omega
 | n+1,a,s,a',o,ha,h=>by
  simp only[runS]at h
  split at h
  ·cases h
  ·have:=runS_len n (a+1) _ (by omega) h
   simp at this
   omega
theorem binD_len{ws:List Nat}{a:Nat}{s:List UInt8}{a':Nat}{o:List UInt8}(h:binD ws a s=.inr (a',o)):a<a'∧a'≤ws.length∧o.length+2*(ws.length-a')≤s.length+2*(ws.length-a):=by
 unfold binD at h
 split at h
 ·cases h
 ·split at h
  ·cases h
  ·split at h
   ·have:=runS_len _ _ _ (by omega) h;omega
   ·split at h
    ·cases h
    ·split at h
     ·cases h
     ·have:=runS_len _ _ _ (by omega) h;omega
theorem ascD_len{ws:List Nat}{w a:Nat}{s:List UInt8}{a':Nat}{o:List UInt8}(ha:a≤ws.length)(h:ascD ws w a s=.inr (a',o)):a≤a'∧a'≤ws.length∧o.length+2*(ws.length-a')≤s.length+2*(ws.length-a)+2:=by
 unfold ascD at h
 split at h
 ·cases h;simp;omega
 ·split at h
  ·cases h;simp;omega
  ·split at h
   ·unfold upS at h
    split at h
    ·cases h
    ·split at h
     ·cases h
     ·cases h;simp;omega
   ·split at h
    ·have:=valsS_len _ _ _ h;simp only at this;omega
    ·split at h
     ·have:=valsS_len _ _ _ h;simp only at this;omega
     ·split at h
      ·have:=binD_len h;omega
      ·split at h
       ·have:=x12S'_len _ _ _ h;omega
       ·split at h
        ·have:=ediD_len _ _ _ h;omega
        ·cases h
end Go.Proofs.Ythnflhimcmdnbaa
namespace Go.Proofs.Ythnflhimcmdnbaa
open Go.Abs
set_option linter.unusedSimpArgs false
set_option linter.unusedVariables false
set_option maxRecDepth 20000
section
variable {A H:Heap}{db:Nat}{wv:Value}{ws:List Nat}{a:Nat}{out:List UInt8}{lo:Nat}
theorem ascdP{w:Nat}(hd:Dc A H db wv ws a out)(hlo:lo≤A.length)(hw:w≤255)(hB:out.length+2*(ws.length-a)≤16398):Ev cp lo 24 [ptr db,encN w] H (fun r H'=>isRd A db wv ws r H' (ascD ws w a out)):=by
 have hlen:=hd.len
 have hle:=hd.le
 obtain⟨ov,b,⟨hg,hne⟩,hoo⟩:=hd.g
 have hdl:=Heap.get_lt hg
 have hlA:=hd.ext.1
 have hdA:=hd.dbA
 clear hoo
 unfold ascD
 refine st24 ?_;unfold bd24 cf24;simp only[kB,ctlB]
 repeat' ((first|refine xSDg ?_|refine xODg rfl ?_);(try simp only[ctlB]))
 by_cases h1:1≤w∧w≤128
 ·have e1:decide ((w:Int)≥1)=true:=decide_eq_true (by omega)
  have e1':decide ((1:Int)≤(w:Nat))=true:=decide_eq_true (by omega)
  have e2:decide ((w:Int)≤128)=true:=decide_eq_true (by omega)
  rw[if_pos h1]
  obtain⟨h1,h2⟩:=h1
  have e3:(w:Int)-1=((w-1:Nat):Int):=by omega
  refine xCDg (fun h=>?_) (fun h=>?_)
  ·clear h e1 e1' e2
   (try simp only[ctlB])
   repeat' ((first|refine xSDg ?_|refine xODg rfl ?_);(try simp only[ctlB]))
   generalize hx:w-1=x at e3 ⊢
   rw[←encU_of (n:=x) (by omega)]
   refine xHDg ?_
   refine dcApp (n:=1) (l:=[UInt8.ofNat x]) hd hg hlo rfl (by omega) (by omega) ?_
   intro ad m' H6 hg6 hl6 hd6
   (try simp only[ctlB])
   repeat' ((first|refine xSDg ?_|refine xODg rfl ?_);(try simp only[ctlB]))
   refine xRDg ?_
   exact⟨rfl,hd6⟩
  ·cases h
 have e1:(decide ((w:Int)≥1)&&decide ((w:Int)≤128))=false:=by
  simp only[Bool.and_eq_false_iff,decide_eq_false_iff_not];omega
 rw[if_neg h1]
 refine xCDg (fun h=>?_) (fun h=>?_)
 ·exfalso;first|(rw[e1]at h;cases h)|cases h
 clear h e1 h1
 (try simp only[ctlB])
 by_cases h1:130≤w∧w<230
 ·have e1:decide ((w:Int)≥130)=true:=decide_eq_true (by omega)
  have e1':decide ((130:Int)≤(w:Nat))=true:=decide_eq_true (by omega)
  have e2:decide ((w:Int)<230)=true:=decide_eq_true (by omega)
  rw[if_pos h1]
  obtain⟨h1,h2⟩:=h1
  have e3:(w:Int)-130=((w-130:Nat):Int):=by omega
  have hx99:w-130≤99:=by omega
  refine xCDg (fun h=>?_) (fun h=>?_)
  ·clear h e1 e1' e2
   generalize w-130=x at e3 hx99 ⊢
   have q1:(x:Int).tdiv 10=((x/10:Nat):Int):=by rw[Int.tdiv_eq_ediv_of_nonneg (by omega)];omega
   have q2:(x:Int).tmod 10=((x%10:Nat):Int):=by rw[Int.tmod_eq_emod_of_nonneg (by omega)];omega
   have r1:x/10≤9:=by omega
   have r2:x%10≤9:=by omega
   generalize x/10=y1 at q1 r1 ⊢
   generalize x%10=y2 at q2 r2 ⊢
   (try simp only[ctlB])
   repeat' ((first|refine xSDg ?_|refine xODg rfl ?_);(try simp only[ctlB]))
   change wpS cp lo _ _ _ (H++[some [Value.int .u8 ((48+y1:Nat):Int),Value.int .u8 ((48+y2:Nat):Int)]])
   rw[←encU_of (n:=48+y1) (by omega),←encU_of (n:=48+y2) (by omega)]
   refine xHDg ?_
   refine dcApp (n:=2) (l:=[UInt8.ofNat (48+y1),UInt8.ofNat (48+y2)]) hd hg hlo rfl (by omega) (by omega) ?_
   intro ad m' H6 hg6 hl6 hd6
   (try simp only[ctlB])
   repeat' ((first|refine xSDg ?_|refine xODg rfl ?_);(try simp only[ctlB]))
   refine xRDg ?_
   exact⟨rfl,hd6⟩
  ·cases h
 have e1:(decide ((w:Int)≥130)&&decide ((w:Int)<230))=false:=by
  simp only[Bool.and_eq_false_iff,decide_eq_false_iff_not];omega
 rw[if_neg h1]
 refine xCDg (fun h=>?_) (fun h=>?_)
 ·exfalso;first|(rw[e1]at h;cases h)|cases h
 clear h e1 h1
 (try simp only[ctlB])
 repeat' ((first|refine xSDg ?_|refine xODg rfl ?_);(try simp only[ctlB]))
 have hX:∀{r:Value} {H':Heap} {q:Rd},isRd A db wv ws r H' q→isRd A db wv ws (resultOf [r]) H' q:=fun h=>h
 by_cases hc:w=235
 ·have e1:decide ((w:Int)=235)=true:=decide_eq_true (by omega)
  rw[if_pos hc]
  replace hc:w≤235∧235≤w:=by omega
  refine xCDg (fun h=>?_) (fun h=>?_)
  ·clear h e1
   (try simp only[ctlB])
   refine xHDg ?_
   refine wpH_call0 (upP hd hlo (by omega)) ?_
   intro r H1 hr
   (try simp only[ctlB])
   repeat' ((first|refine xSDg ?_|refine xODg rfl ?_);(try simp only[ctlB]))
   refine xRDg ?_
   exact hX hr
  ·exfalso;simp at h
 have e1:decide ((w:Int)=235)=false:=decide_eq_false (by omega)
 rw[if_neg hc]
 refine xCDg (fun h=>?_) (fun h=>?_)
 ·exfalso;simp at h
 clear h e1
 (try simp only[ctlB])
 by_cases hc:w=230
 ·have e1:decide ((w:Int)=230)=true:=decide_eq_true (by omega)
  rw[if_pos hc]
  replace hc:w≤230∧230≤w:=by omega
  refine xCDg (fun h=>?_) (fun h=>?_)
  ·clear h e1
   (try simp only[ctlB])
   refine xHDg ?_
   refine wpH_call0 (valsP (lower:=false) (f:=ws.length+1) hd hlo (by omega) (by omega)) ?_
   intro r H1 hr
   (try simp only[ctlB])
   repeat' ((first|refine xSDg ?_|refine xODg rfl ?_);(try simp only[ctlB]))
   refine xRDg ?_
   exact hX hr
  ·exfalso;simp at h
 have e1:decide ((w:Int)=230)=false:=decide_eq_false (by omega)
 rw[if_neg hc]
 refine xCDg (fun h=>?_) (fun h=>?_)
 ·exfalso;simp at h
 clear h e1
 (try simp only[ctlB])
 by_cases hc:w=239
 ·have e1:decide ((w:Int)=239)=true:=decide_eq_true (by omega)
  rw[if_pos hc]
  replace hc:w≤239∧239≤w:=by omega
  refine xCDg (fun h=>?_) (fun h=>?_)
  ·clear h e1
   (try simp only[ctlB])
   refine xHDg ?_
   refine wpH_call0 (valsP (lower:=true) (f:=ws.length+1) hd hlo (by omega) (by omega)) ?_
   intro r H1 hr
   (try simp only[ctlB])
   repeat' ((first|refine xSDg ?_|refine xODg rfl ?_);(try simp only[ctlB]))
   refine xRDg ?_
   exact hX hr
  ·exfalso;simp at h
 have e1:decide ((w:Int)=239)=false:=decide_eq_false (by omega)
 rw[if_neg hc]
 refine xCDg (fun h=>?_) (fun h=>?_)
 ·exfalso;simp at h
 clear h e1
 (try simp only[ctlB])
 by_cases hc:w=231
 ·have e1:decide ((w:Int)=231)=true:=decide_eq_true (by omega)
  rw[if_pos hc]
  replace hc:w≤231∧231≤w:=by omega
  refine xCDg (fun h=>?_) (fun h=>?_)
  ·clear h e1
   (try simp only[ctlB])
   refine xHDg ?_
   refine wpH_call0 (bindP hd hlo (by omega)) ?_
   intro r H1 hr
   (try simp only[ctlB])
   repeat' ((first|refine xSDg ?_|refine xODg rfl ?_);(try simp only[ctlB]))
   refine xRDg ?_
   exact hX hr
  ·exfalso;simp at h
 have e1:decide ((w:Int)=231)=false:=decide_eq_false (by omega)
 rw[if_neg hc]
 refine xCDg (fun h=>?_) (fun h=>?_)
 ·exfalso;simp at h
 clear h e1
 (try simp only[ctlB])
 by_cases hc:w=238
 ·have e1:decide ((w:Int)=238)=true:=decide_eq_true (by omega)
  rw[if_pos hc]
  replace hc:w≤238∧238≤w:=by omega
  refine xCDg (fun h=>?_) (fun h=>?_)
  ·clear h e1
   (try simp only[ctlB])
   refine xHDg ?_
   refine wpH_call0 (x12dP (f:=ws.length+1) hd hlo (by omega) (by omega)) ?_
   intro r H1 hr
   (try simp only[ctlB])
   repeat' ((first|refine xSDg ?_|refine xODg rfl ?_);(try simp only[ctlB]))
   refine xRDg ?_
   exact hX hr
  ·exfalso;simp at h
 have e1:decide ((w:Int)=238)=false:=decide_eq_false (by omega)
 rw[if_neg hc]
 refine xCDg (fun h=>?_) (fun h=>?_)
 ·exfalso;simp at h
 clear h e1
 (try simp only[ctlB])
 by_cases hc:w=240
 ·have e1:decide ((w:Int)=240)=true:=decide_eq_true (by omega)
  rw[if_pos hc]
  replace hc:w≤240∧240≤w:=by omega
  refine xCDg (fun h=>?_) (fun h=>?_)
  ·clear h e1
   (try simp only[ctlB])
   refine xHDg ?_
   refine wpH_call0 (edidP (f:=2*ws.length+2) hd hlo (by omega) (by omega)) ?_
   intro r H1 hr
   (try simp only[ctlB])
   repeat' ((first|refine xSDg ?_|refine xODg rfl ?_);(try simp only[ctlB]))
   refine xRDg ?_
   exact hX hr
  ·exfalso;simp at h
 have e1:decide ((w:Int)=240)=false:=decide_eq_false (by omega)
 rw[if_neg hc]
 refine xCDg (fun h=>?_) (fun h=>?_)
 ·exfalso;simp at h
 clear h e1
 (try simp only[ctlB])
 repeat' ((first|refine xSDg ?_|refine xODg rfl ?_);(try simp only[ctlB]))
 refine xRDg ?_
 exact⟨rfl,hd.ext,by omega⟩
end
def decT(l:List Int):Nat ⊕ List UInt8:=if cwB l=false then .inl 3 else if 8192<l.length then .inl 4 else decS (l.map Int.toNat)
def isDec(H':Heap)(r:Value):Nat ⊕ List UInt8→Prop
 | .inl e=>r=.tuple #[.slice none 0 0,.int .i64 (e:Nat)]∧e≠0
 | .inr out=>∃u,r=.tuple #[u,.int .i64 0]∧SlU H' u out
theorem cwB_nat{H:Heap}{v:Value}{l:List Int}(h:SlI H v l)(hc:cwB l=true):SlN H v (l.map Int.toNat)∧∀k,(l.map Int.toNat).getD k 0≤255:=by
 have hall:=List.all_eq_true.1 hc
 have hm:(l.map Int.toNat).map encN=l.map (Value.int .i64):=by
  rw[List.map_map]
  refine List.map_congr_left fun x hx=>?_
  have:=hall x hx
  simp only[Bool.and_eq_true,decide_eq_true_eq]at this
  show Value.int .i64 _=_
  rw[Int.toNat_of_nonneg this.1]
 refine⟨?_,fun k=>?_⟩
 ·rcases h with ⟨rfl,rfl⟩|⟨b,o,sp,cap,xs,h1,h2,h3,h4⟩
  ·exact .inl ⟨rfl,rfl⟩
  ·refine .inr ⟨b,o,sp,cap,xs,by simpa using h1,h2,?_,by simpa using h4⟩
   rw[List.length_map,hm];exact h3
 ·by_cases hk:k<l.length
  ·have:=hall l[k] (List.getElem_mem hk)
   simp only[Bool.and_eq_true,decide_eq_true_eq]at this
   simp[List.getD_eq_getElem?_getD,hk]
   omega
  ·simp[List.getD_eq_getElem?_getD,hk]
section
variable {lo:Nat}{H:Heap}{v:Value}{l:List Int}
theorem decP(hv:SlI H v l)(hl:l.length≤100000)(hlo:lo≤H.length):Ev cp lo 16 [v] H (fun r H'=>Ext H H'∧isDec H' r (decT l)):=by
 obtain⟨ad,c,ev⟩:=hv.len
 rw[ev]at hv ⊢
 refine st16 ?_;unfold bd16 cf16;simp only[kB,ctlB]
 repeat' ((first|refine xSDg ?_|refine xODg rfl ?_);(try simp only[ctlB]))
 refine aw_for (fun k S H'=>(H=H'∧cwB (l.take k)=true)∧∃(z:Nat→Value),S=[.slice ad l.length c,z 1,z 2,z 3,z 4,z 5,z 6,.slice ad l.length c,.int .i64 (l.length:Nat),.int .i64 (k:Nat),z 10,z 11]) l.length ⟨⟨rfl,rfl⟩,exZDe rfl⟩ ?_ ?_ ?_
 ·rintro k S H' hk ⟨_,z,rfl⟩
  exact⟨decide ((k:Int)<(l.length:Nat)),by simp(disch:=first|omega|(simp only[lenB];omega))only[evB,xBDc,Nat.reduceAdd,Nat.reduceBEq,Int.reduceToNat, *],by simp⟩
 ·rintro k S H' hk ⟨⟨rfl,hcw⟩,z,rfl⟩
  have hcw2:=cwB_take hk hcw
  have hno:=cwB_no hk
  obtain⟨b1,o1,x1,i1,g1,e1⟩:=slI_at hv hk
  generalize l.getD k 0=x at e1 hcw2 hno
  replace hno:False∨_:=.inr hno
  clear hcw
  (try simp only[ctlB])
  repeat' ((first|refine xSDg ?_|refine xODg rfl ?_);(try simp only[ctlB]))
  by_cases hx:0≤x∧x≤255
  ·obtain⟨hx1,hx2⟩:=hx
   rw[decide_eq_true hx1,decide_eq_true hx2]at hcw2
   have hd1:decide (x<0)=false:=decide_eq_false (by omega)
   have hd2:decide (x>255)=false:=decide_eq_false (by omega)
   have hd3:decide (255<x)=false:=decide_eq_false (by omega)
   refine xCDg (fun h=>?_) (fun h=>?_)
   ·exfalso;first|(simp at h;done)|cases h
   clear h hd1 hd2 hd3
   (try simp only[ctlB])
   repeat' ((first|refine xSDg ?_|refine xODg rfl ?_);(try simp only[ctlB]))
   exact⟨⟨trivial,hcw2⟩,exZDe (by first|rfl|(simp only[Int.natCast_add,Int.natCast_one];rfl)|simp only[Int.natCast_add,Int.natCast_one])⟩
  ·have hc:cwB l=false:=hno.resolve_left id (by
    simp only[Bool.and_eq_false_iff,decide_eq_false_iff_not];omega)
   have hd:(decide (x<0) || decide (x>255))=true:=by simp;omega
   refine xCDg (fun h=>?_) (fun h=>?_)
   ·(try simp only[ctlB])
    repeat' ((first|refine xSDg ?_|refine xODg rfl ?_);(try simp only[ctlB]))
    refine xRDg ?_
    exact⟨Ext.refl _,by unfold decT;rw[hc];exact⟨rfl,by decide⟩⟩
   ·exfalso;first|(simp at h;omega)|cases h
 ·rintro S H' ⟨⟨rfl,hcw⟩,z,rfl⟩
  rw[List.take_length]at hcw
  unfold decT
  rw[hcw]
  simp only[Bool.true_eq_false,if_false]
  obtain⟨hws,hby⟩:=cwB_nat hv hcw
  clear hcw
  (try simp only[ctlB])
  by_cases h8:8192<l.length
  ·have hd:decide ((l.length:Int)>8192)=true:=decide_eq_true (by omega)
   rw[if_pos h8]
   refine xCDg (fun h=>?_) (fun h=>?_)
   ·(try simp only[ctlB])
    repeat' ((first|refine xSDg ?_|refine xODg rfl ?_);(try simp only[ctlB]))
    refine xRDg ?_
    exact⟨Ext.refl _,rfl,by decide⟩
   ·exfalso;simp at h
  have hd:decide ((l.length:Int)>8192)=false:=decide_eq_false (by omega)
  rw[if_neg h8]
  refine xCDg (fun h=>?_) (fun h=>?_)
  ·exfalso;simp at h
  clear h hd
  have hwl:(l.map Int.toNat).length=l.length:=by simp
  generalize l.map Int.toNat=ws at hws hby hwl ⊢
  have hwl':ws.length≤l.length∧l.length≤ws.length:=by omega
  obtain⟨wv,hwv⟩:∃wv,False∨Value.slice ad l.length c=wv:=⟨_,.inr rfl⟩
  (try simp only[ctlB])
  repeat' ((first|refine xSDg ?_|refine xODg rfl ?_);(try simp only[ctlB]))
  have hdc:Dc H (H++[some [Value.slice ad l.length c,encN 0,.slice none 0 0]]) H.length (.slice ad l.length c) ws 0 []:=
   ⟨Ext.app _ _,hws,⟨_,H.length+1,⟨get_app0,by omega⟩,Own.nil (by omega)⟩,Nat.le_refl _,by omega,hby,Nat.zero_le _,by simp⟩
  change wpS cp lo _ _ _ (H++[some [Value.slice ad l.length c,encN 0,.slice none 0 0]])
  generalize H++[some [Value.slice ad l.length c,encN 0,.slice none 0 0]]=H0 at hdc
  obtain⟨R,hR⟩:∃R,False∨decS ws=R:=⟨_,.inr rfl⟩
  rw[hR.resolve_left id]
  have hR0:False∨decL ws (ws.length+1) 0 []=R:=.inr (hR.resolve_left id)
  clear hR
  refine aw_midXB (fun S' H'=>∃a out,(Dc H H' H.length (.slice ad l.length c) ws a out∧(False∨R=.inr out))∧∃(z:Nat→Value),S'=[.slice ad l.length c,z 1,z 2,z 3,ptr H.length,z 5,z 6,z 7,z 8,z 9,z 10,z 11]) ?_ ?_
  ·refine aw_loop' (fun m S H'=>∃a f out,(Dc H H' H.length (.slice ad l.length c) ws a out∧out.length+2*(ws.length-a)≤16384)∧(ws.length-a<f∧m=ws.length-a)∧(False∨decL ws f a out=R)∧∃(z:Nat→Value),S=[.slice ad l.length c,z 1,z 2,z 3,ptr H.length,z 5,z 6,z 7,z 8,z 9,z 10,z 11]) ws.length ⟨0,_,[],⟨hdc,by simp;omega⟩,⟨by omega,by omega⟩,hR0,exZDe rfl⟩ ?_
   clear hR0 hdc
   rintro m S H1 ⟨a,f,out,⟨hd,hB⟩,⟨hf,hm⟩,hR,z,rfl⟩
   obtain⟨g,rfl⟩:∃g,f=g+1:=⟨f-1,by omega⟩
   have hR2:False∨(if ws.length≤a then .inr out else if wd ws a=129 then .inr out else match ascD ws (wd ws a) (a+1) out with | .inl e=>.inl e | .inr (a',out')=>decL ws g a' out')=R:=hR
   clear hR
   replace hm:m≤ws.length-a∧ws.length-a≤m:=by omega
   obtain⟨ov,b,⟨hg,hne⟩,hoo⟩:=hd.g
   have hdl:=Heap.get_lt hg
   clear hoo
   (try simp only[ctlB])
   by_cases ha:ws.length≤a
   ·have hdd:decide ((a:Int)<(l.length:Nat))=false:=decide_eq_false (by omega)
    have h2:=hR2.resolve_left id
    rw[if_pos ha]at h2
    subst h2
    refine xCDg (fun h=>?_) (fun h=>?_)
    ·exfalso;simp at h
    ·(try simp only[ctlB])
     exact⟨a,out,⟨hd,.inr rfl⟩,exZDe rfl⟩
   have hdd:decide ((a:Int)<(l.length:Nat))=true:=decide_eq_true (by omega)
   have h2:=hR2.resolve_left id
   rw[if_neg ha]at h2
   replace h2:False∨_:=.inr h2
   clear hR2
   refine xCDg (fun h=>?_) (fun h=>?_)
   rotate_left
   ·exfalso;simp at h
   clear h hdd
   obtain⟨b1,o1,x1,i1,g1,e1⟩:=hd.at (k:=a) (by omega)
   have hbx:=hby a
   have hmv:=hd.move (a':=a+1) hg (by omega)
   obtain⟨x,hx⟩:∃x,False∨wd ws a=x:=⟨_,.inr rfl⟩
   rw[hx.resolve_left id]at e1 h2
   replace hbx:x≤255:=by rw[←hx.resolve_left id];exact hbx
   (try simp only[ctlB])
   repeat' ((first|refine xSDg ?_|refine xODg rfl ?_);(try simp only[ctlB]))
   change wpS cp lo _ _ _ (List.set H1 H.length (some [.slice ad l.length c,encN (a+1),ov]))
   generalize List.set H1 H.length (some [.slice ad l.length c,encN (a+1),ov])=H2 at hmv
   clear hd hg g1 i1 e1
   by_cases h129:x=129
   ·have hdd:decide ((x:Int)=129)=true:=decide_eq_true (by omega)
    have h3:=h2.resolve_left id
    rw[if_pos h129]at h3
    subst h3
    clear h2
    replace h129:x≤129∧129≤x:=by omega
    refine xCDg (fun h=>?_) (fun h=>?_)
    ·(try simp only[ctlB])
     exact⟨a+1,out,⟨hmv,.inr rfl⟩,exZDe rfl⟩
    ·exfalso;simp at h
   have hdd:decide ((x:Int)=129)=false:=decide_eq_false (by omega)
   have h3:=h2.resolve_left id
   rw[if_neg h129]at h3
   refine xCDg (fun h=>?_) (fun h=>?_)
   ·exfalso;simp at h
   clear h hdd h2
   replace h3:False∨_:=.inr h3
   (try simp only[ctlB])
   refine xHDg ?_
   refine wpH_call0 (ascdP hmv hlo hbx (by omega)) ?_
   intro r H3 hr
   cases hq:ascD ws x (a+1) out with
   | inl e=>
    rw[hq]at hr h3
    obtain⟨rfl,hxx,he⟩:=hr
    have h4:=h3.resolve_left id
    simp only at h4
    subst h4
    clear h3
    (try simp only[ctlB])
    repeat' ((first|refine xSDg ?_|refine xODg rfl ?_);(try simp only[ctlB]))
    refine xCDg (fun h=>?_) (fun h=>?_)
    ·(try simp only[ctlB])
     repeat' ((first|refine xSDg ?_|refine xODg rfl ?_);(try simp only[ctlB]))
     refine xRDg ?_
     exact⟨hxx,rfl,he⟩
    ·exfalso;simp at h;exact he h
   | inr q=>
    obtain⟨a',out'⟩:=q
    have hql:=ascD_len (by omega) hq
    rw[hq]at hr h3
    obtain⟨rfl,hd3⟩:=hr
    simp only at h3
    clear hmv
    (try simp only[ctlB])
    repeat' ((first|refine xSDg ?_|refine xODg rfl ?_);(try simp only[ctlB]))
    refine xCDg (fun h=>?_) (fun h=>?_)
    ·exfalso;simp at h
    ·clear h
     (try simp only[ctlB])
     exact⟨ws.length-a',by omega,a',g,out',⟨hd3,by omega⟩,⟨by omega,rfl⟩,h3,exZDe rfl⟩
  ·rintro S' H1 ⟨a,out,⟨hd,hR⟩,z,rfl⟩
   have h2:=hR.resolve_left id
   subst h2
   obtain⟨ov,b,⟨hg,hne⟩,hoo⟩:=hd.g
   have hsl:SlU H1 ov out:=Sl.ofOwn hoo
   have hx:=hd.ext
   clear hoo hd hR0 hdc
   (try simp only[ctlB])
   repeat' ((first|refine xSDg ?_|refine xODg rfl ?_);(try simp only[ctlB]))
   refine xRDg ?_
   exact⟨hx,_,rfl,hsl⟩
end
end Go.Proofs.Ythnflhimcmdnbaa
