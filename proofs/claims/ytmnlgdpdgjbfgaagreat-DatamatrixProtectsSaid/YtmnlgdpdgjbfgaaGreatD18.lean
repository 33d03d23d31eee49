/- The laws' helper alive: the examples of the chapter. Binary fields with 256 elements, reckoned. The error values as the reference reckons them. Reed-Solomon codes in the reference: the marks of erasures, the places, the error values. Reed-Solomon codes in the reference: the error values. Reed-Solomon codes in the reference: repair. Reed-Solomon codes: Encode and Generator where the code or the data are not valid. Reed-Solomon codes: the laws Locates and Encodes. Reed-Solomon codes: the law Makes. -/
import Derived.Test.YtmnlgdpdgjbfgaaGreatD10
import Derived.Test.YtmnlgdpdgjbfgaaGreatD17
set_option linter.unusedVariables false
set_option linter.unusedSimpArgs false
set_option linter.unusedSectionVars false
namespace Go.Proofs.YtmnlgdpdgjbfgaaGreat
open Go.Abs Go.RS
set_option linter.unusedSimpArgs false
set_option linter.unusedVariables false
set_option maxRecDepth 20000
section
variable {lo:Nat}{H:Heap}{ch sz po r b:Int}
theorem newR(hlo:lo≤H.length)(hb:po≤9223372036854775807):Ev cp lo 57 [fv ch sz po,.int .i64 r,.int .i64 b] H (fun v H'=>Ext H H'∧((¬ ∃f,OkF ch sz po f)→v=.tuple #[cdI 0 0 0 0 0,.int .i64 1])∧((∃f,OkF ch sz po f)→¬ OkCd ch sz po r b→v=.tuple #[cdI 0 0 0 0 0,.int .i64 3])∧(OkCd ch sz po r b→v=.tuple #[cdI ch sz po r b,.int .i64 0])):=by
 unfold fv
 refine st57 ?_;unfold bd57 cf57;simp only[kB,ctlB]
 repeat' ((first|refine xSSa ?_|refine xOSa rfl ?_);(try simp only[ctlB]))
 refine xHSa ?_
 refine wpH_call0 (valid (ch:=ch) (sz:=sz) (po:=po) hb) ?_
 rintro v H1 ⟨hx1,t1,rfl,ht1⟩
 have g0:H1.get H.length=some _:=hx1.get (xESa)
 have g1:H1.get (H.length+1)=some _:=hx1.get (xESa)
 have hx1:=hx1.of_app
 have hl1:=Heap.get_lt g1
 cases t1 with
 | false=>
  have hno:¬ ∃f,OkF ch sz po f:=fun h=>by have:=ht1.2 h;cases this
  (try simp only[ctlB])
  refine xCSa (fun h=>?_) (fun h=>?_)
  case refine_2=>cases h
  clear h
  (try simp only[ctlB])
  repeat' ((first|refine xSSa ?_|refine xOSa rfl ?_);(try simp only[ctlB]))
  refine xRSa ?_
  exact⟨hx1.set (by omega),fun _=>rfl,fun h=>absurd h hno,fun h=>absurd h.1 hno⟩
 | true=>
  have hf:=ht1.1 rfl
  have hsz:=okF_sz hf
  (try simp only[ctlB])
  refine xCSa (fun h=>?_) (fun h=>?_)
  ·cases h
  clear h
  (try simp only[ctlB])
  refine xHSa ?_
  refine wpH_call0 (fits (ch:=ch) (sz:=sz) (po:=po) (r:=r) (b:=b) (by omega) (by omega)) ?_
  rintro v H2 ⟨hx2,rfl⟩
  have g0:=(hx2).get g0;have g1:=(hx2).get g1
  have hx2:=hx1.trans hx2
  have hl2:=Heap.get_lt g1
  generalize ht2:(((decide (1≤r)&&decide (r≤sz-2))&&decide (0≤b))&&decide (b≤sz-2))=t2
  have ht2':t2=true↔1≤r∧r≤sz-2∧0≤b∧b≤sz-2:=by
   rw[←ht2];simp only[Bool.and_eq_true,decide_eq_true_eq];omega
  clear ht2
  cases t2 with
  | false=>
   have hno:¬ OkCd ch sz po r b:=fun h=>by have:=ht2'.2 h.2;cases this
   (try simp only[ctlB])
   refine xCSa (fun h=>?_) (fun h=>?_)
   case refine_2=>cases h
   clear h
   (try simp only[ctlB])
   repeat' ((first|refine xSSa ?_|refine xOSa rfl ?_);(try simp only[ctlB]))
   refine xRSa ?_
   exact⟨hx2.set (by omega),fun h=>absurd hf h,fun _ _=>rfl,fun h=>absurd h hno⟩
  | true=>
   have hok:OkCd ch sz po r b:=⟨hf,ht2'.1 rfl⟩
   (try simp only[ctlB])
   refine xCSa (fun h=>?_) (fun h=>?_)
   ·cases h
   clear h
   (try simp only[ctlB])
   repeat' ((first|refine xSSa ?_|refine xOSa rfl ?_);(try simp only[ctlB]))
   refine xRSa ?_
   exact⟨hx2.set (by omega),fun h=>absurd hf h,fun _ h=>absurd hok h,fun _=>rfl⟩
end
end Go.Proofs.YtmnlgdpdgjbfgaaGreat
namespace Go.RS
def clB:Nat→Nat→Nat→Nat
 | 0,_,_=>0
 | k+1,a,b=>clB k a b ^^^ (if b.testBit k then a <<< k else 0)
theorem modp_xor(b k:Nat):b%2^(k+1)=b%2^k ^^^ (if b.testBit k then 2^k else 0):=by
 refine Nat.eq_of_testBit_eq fun i=>?_
 rw[Nat.testBit_mod_two_pow,Nat.testBit_xor,Nat.testBit_mod_two_pow]
 by_cases h1:i<k
 ·have:(if b.testBit k=true then 2^k else 0).testBit i=false:=by
   split
   ·rw[Nat.testBit_two_pow];simp;omega
   ·exact Nat.zero_testBit i
  rw[this];simp[h1,Nat.lt_succ_of_lt h1]
 ·by_cases h2:i=k
  ·subst h2
   cases hb:b.testBit i<;>simp
  ·have:(if b.testBit k=true then 2^k else 0).testBit i=false:=by
    split
    ·rw[Nat.testBit_two_pow];simp;omega
    ·exact Nat.zero_testBit i
   rw[this]
   have:¬ i<k+1:=by omega
   simp[h1,this]
theorem clB_ok(a b:Nat):∀k,cl a (b%2^k)=clB k a b
 | 0=>by rw[Nat.pow_zero,Nat.mod_one,cl_zero];rfl
 | k+1=>by
  have h:cl a (if b.testBit k=true then 2^k else 0)=if b.testBit k=true then a <<< k else 0:=by
   split
   ·exact cl_pow a k
   ·exact cl_zero a
  rw[modp_xor,cl_xor,clB_ok a b k,h];rfl
theorem clB_lt{a b n:Nat}(ha:a<2^n):∀k,clB k a b<2^(n+k)
 | 0=>Nat.two_pow_pos _
 | k+1=>by
  show clB k a b ^^^ (if b.testBit k then a <<< k else 0)<_
  refine Nat.xor_lt_two_pow (Nat.lt_of_lt_of_le (clB_lt ha k) (Nat.pow_le_pow_right (by omega) (by omega))) ?_
  split
  ·rw[Nat.shiftLeft_eq,show n+(k+1)=(n+1)+k by omega,Nat.pow_add]
   exact Nat.mul_lt_mul_of_pos_right (Nat.lt_of_lt_of_le ha (Nat.pow_le_pow_right (by omega) (by omega))) (Nat.two_pow_pos _)
  ·exact Nat.two_pow_pos _
def rdG(q d:Nat):Nat→Nat→Nat
 | 0,p=>p
 | k+1,p=>rdG q d k (if p.testBit (d+k) then p ^^^ (q <<< k) else p)
theorem rdG_rm{q d:Nat}(hq:q≠0):∀(k p:Nat),rm (rdG q d k p) q=rm p q
 | 0,_=>rfl
 | k+1,p=>by
  show rm (rdG q d k _) q=_
  rw[rdG_rm hq k]
  split
  ·rw[←cl_pow,rm_add hq]
  ·rfl
theorem xor_top{p r n:Nat}(hp:p<2^(n+1))(hr:r<2^(n+1))(h1:p.testBit n=true)(h2:r.testBit n=true):p ^^^ r<2^n:=by
 refine Nat.lt_pow_two_of_testBit _ fun i hi=>?_
 rw[Nat.testBit_xor]
 by_cases e:i=n
 ·rw[e,h1,h2];rfl
 ·rw[Nat.testBit_lt_two_pow (Nat.lt_of_lt_of_le hp (Nat.pow_le_pow_right (by omega) (by omega))),Nat.testBit_lt_two_pow (Nat.lt_of_lt_of_le hr (Nat.pow_le_pow_right (by omega) (by omega)))];rfl
theorem lt_notop{p n:Nat}(hp:p<2^(n+1))(h1:¬ p.testBit n=true):p<2^n:=by
 refine Nat.lt_pow_two_of_testBit _ fun i hi=>?_
 by_cases e:i=n
 ·rw[e];simpa using h1
 ·exact Nat.testBit_lt_two_pow (Nat.lt_of_lt_of_le hp (Nat.pow_le_pow_right (by omega) (by omega)))
theorem rdG_lt{q d:Nat}(hq:q≠0)(hd:q.log2=d):∀(k p:Nat),p<2^(d+k)→rdG q d k p<2^d
 | 0,p,h=>h
 | k+1,p,h=>by
  show rdG q d k _<_
  refine rdG_lt hq hd k _ ?_
  split
  ·rename_i hb
   refine xor_top h ?_ hb ?_
   ·have h1:=lt_log q
    rw[hd]at h1
    rw[Nat.shiftLeft_eq,show d+k+1=(d+1)+k by omega,Nat.pow_add]
    exact Nat.mul_lt_mul_of_pos_right h1 (Nat.two_pow_pos _)
   ·have h1:=log_bit hq
    rw[hd]at h1
    rw[Nat.testBit_shiftLeft]
    simp[h1]
  ·rename_i hb
   exact lt_notop h hb
theorem rm_rdG{q d k p:Nat}(hq:q≠0)(hd:q.log2=d)(hp:p<2^(d+k)):rm p q=rdG q d k p:=by
 rw[←rdG_rm (d:=d) hq k p]
 exact rm_self hq (by rw[hd];exact rdG_lt hq hd k p hp)
def mulB(q a b:Nat):Nat:=rdG q 8 8 (clB 8 a b)
theorem mulB_ok{q a b:Nat}(hq:q≠0)(hd:q.log2=8)(ha:a<256)(hb:b<256):fmul ⟨256,q⟩ a b=mulB q a b:=by
 unfold fmul
 rw[if_neg hq]
 have h1:cl a b=clB 8 a b:=by
  have:=clB_ok a b 8
  rwa [Nat.mod_eq_of_lt hb]at this
 show rm (cl a b) q=_
 rw[h1,rm_rdG hq hd (k:=8) (clB_lt (n:=8) ha 8)]
 rfl
def irrB(q:Nat):Bool:=(List.range 32).all fun t=>decide (t<2) || decide (rdG t t.log2 9 q≠0)
theorem irr_of{q:Nat}(hd:q.log2=8)(hq:q<512)(h:irrB q=true):Irr q:=by
 intro t ht hl
 rintro⟨m,hm⟩
 have ht0:t≠0:=by omega
 have hlt:t<32:=by
  have:=lt_log t
  have h5:2^(t.log2+1)≤2^5:=Nat.pow_le_pow_right (by omega) (by omega)
  omega
 have h2:=List.all_eq_true.1 h t (List.mem_range.2 hlt)
 simp only[Bool.or_eq_true,decide_eq_true_eq]at h2
 have h3:rdG t t.log2 9 q≠0:=h2.resolve_left (by omega)
 apply h3
 rw[←rm_rdG ht0 rfl (k:=9) (Nat.lt_of_lt_of_le hq (Nat.pow_le_pow_right (n:=2) (by omega) (by omega:9≤t.log2+9)))]
 exact rm_of ht0 (m:=m) (Nat.two_pow_pos _) (by rw[hm,Nat.xor_zero])
structure BF (q:Nat):Prop where
 lg:q.log2=8
 lt:q<512
 ne:q≠0
 two:2≤q
 irr:irrB q=true
def fB(q:Nat):FD:=⟨256,q⟩
theorem BF.ok{q:Nat}(h:BF q):(fB q).Ok:=.inr ⟨h.ne,h.two,by show q.log2≤12;have:=h.lg;omega,by show 256=2^q.log2;rw[h.lg],irr_of h.lg h.lt h.irr⟩
def eB(q n:Nat):El (fB q):=⟨n%256,Nat.mod_lt _ (by decide)⟩
section
variable {q:Nat}[h:OkC (fB q)]
theorem mulB_val(hb:BF q)(x y:El (fB q)):(x*y).val=mulB q x.val y.val:=by
 rw[val_mul];exact mulB_ok hb.ne hb.lg x.lt y.lt
theorem addB_val(hb:BF q)(x y:El (fB q)):(x+y).val=x.val ^^^ y.val:=by
 rw[val_add]
 unfold fadd
 rw[if_neg (show(fB q).poly≠0 from hb.ne)]
def pwB(q x:Nat):Nat→Nat
 | 0=>1
 | n+1=>mulB q (pwB q x n) x
theorem pwB_val(hb:BF q)(x:El (fB q)):∀n,(pw x n).val=pwB q x.val n
 | 0=>rfl
 | n+1=>by rw[pw_succ,mulB_val hb,pwB_val hb x n];rfl
def hvB(q:Nat)(l:List Nat)(x:Nat):Nat:=l.foldl (fun v c=>mulB q v x ^^^ c) 0
theorem hvB_fold(hb:BF q)(x:El (fB q)):∀(l:List (El (fB q))) (v:El (fB q)),(l.foldl (fun v c=>v*x+c) v).val=(l.map El.val).foldl (fun v c=>mulB q v x.val ^^^ c) v.val
 | [],v=>rfl
 | c::l,v=>by
  rw[List.foldl_cons,hvB_fold hb x l,List.map_cons,List.foldl_cons,addB_val hb,mulB_val hb]
theorem hvB_val(hb:BF q)(x:El (fB q))(l:List (El (fB q))):(hval l x).val=hvB q (l.map El.val) x.val:=hvB_fold hb x l 0
def chainB(q:Nat):Nat→List Nat→Bool
 | _,[]=>true
 | v,w::l=>Nat.beq (mulB q v 2) w&&chainB q w l
theorem chain_ok(q:Nat):∀(l:List Nat) (v n:Nat),pwB q 2 n=v→chainB q v l=true→∀i,i<l.length→pwB q 2 (n+1+i)=l.getD i 0
 | [],_,_,_,_,i,hi=>by simp at hi
 | w::l,v,n,hv,h,i,hi=>by
  unfold chainB at h
  simp only[Bool.and_eq_true]at h
  have h1:pwB q 2 (n+1)=w:=by
   show mulB q (pwB q 2 n) 2=w
   rw[hv];exact Nat.eq_of_beq_eq_true h.1
  match i with
  | 0=>exact h1
  | i+1=>
   have:=chain_ok q l w (n+1) h1 h.2 i (by simpa using hi)
   rw[show n+1+(i+1)=n+1+1+i by omega,this]
   rfl
def genB(q:Nat)(l:List Nat):Bool:=chainB q 1 l&&(decide (l.length=255)&&(decide (l.getD 254 0=1)&&(l.take 254).all fun x=>!Nat.beq x 1))
theorem ord_two(hb:BF q){l:List Nat}(hg:genB q l=true):Ord (eB q 2) 255:=by
 unfold genB at hg
 simp only[Bool.and_eq_true,decide_eq_true_eq]at hg
 obtain⟨h1,h2,h3,h4⟩:=hg
 have hc:=chain_ok q l 1 0 rfl h1
 refine⟨by decide,El.ext ?_,fun m h5 h6 e=>?_⟩
 ·rw[pwB_val hb]
  have:=hc 254 (by omega)
  rw[h3]at this
  exact this
 ·have h7:=hc (m-1) (by omega)
  rw[show 0+1+(m-1)=m by omega]at h7
  have h8:pwB q 2 m=1:=by
   have:=pwB_val hb (eB q 2) m
   rw[e]at this
   exact this.symm
  have hm:l.getD (m-1) 0 ∈ l.take 254:=by
   rw[List.getD_eq_getElem?_getD,List.getElem?_eq_getElem (by omega:m-1<l.length)]
   show l[m-1] ∈ _
   rw[List.mem_take_iff_getElem]
   exact⟨m-1,by omega,rfl⟩
  have h9:=List.all_eq_true.1 h4 _ hm
  rw[←h7,h8]at h9
  exact absurd h9 (by decide)
theorem one_not_ord:¬ Ord (eB q 1) 255:=fun h=>by
 have:eB q 1=1:=El.ext rfl
 rw[this]at h
 exact h.2.2 1 (by decide) (by decide) (by rw[pw_one])
def cwB(q:Nat)(l:List Nat)(r b:Nat):Bool:=(List.range r).all fun i=>decide (hvB q l (pwB q 2 (b+i))=0)
theorem cwB_ok(hb:BF q){l:List (El (fB q))}{r b:Nat}(h:cwB q (l.map El.val) r b=true):isCw (eB q 2) r b l:=by
 intro k hk
 have:=List.all_eq_true.1 h k (List.mem_range.2 hk)
 simp only[decide_eq_true_eq]at this
 refine El.ext ?_
 rw[hvB_val hb,pwB_val hb]
 exact this
end
theorem bf285:BF 285:=⟨by decide +kernel,by decide,by decide,by decide,by decide +kernel⟩
theorem bf301:BF 301:=⟨by decide +kernel,by decide,by decide,by decide,by decide +kernel⟩
def pow301:List Nat:=[2,4,8,16,32,64,128,45,90,180,69,138,57,114,228,229,231,227,235,251,219,155,27,54,108,216,157,23,46,92,184,93,186,89,178,73,146,9,18,36,72,144,13,26,52,104,208,141,55,110,220,149,7,14,28,56,112,224,237,247,195,171,123,246,193,175,115,230,225,239,243,203,187,91,182,65,130,41,82,164,101,202,185,95,190,81,162,105,210,137,63,126,252,213,135,35,70,140,53,106,212,133,39,78,156,21,42,84,168,125,250,217,159,19,38,76,152,29,58,116,232,253,215,131,43,86,172,117,234,249,223,147,11,22,44,88,176,77,154,25,50,100,200,189,87,174,113,226,233,255,211,139,59,118,236,245,199,163,107,214,129,47,94,188,85,170,121,242,201,191,83,166,97,194,169,127,254,209,143,51,102,204,181,71,142,49,98,196,165,103,206,177,79,158,17,34,68,136,61,122,244,197,167,99,198,161,111,222,145,15,30,60,120,240,205,183,67,134,33,66,132,37,74,148,5,10,20,40,80,160,109,218,153,31,62,124,248,221,151,3,6,12,24,48,96,192,173,119,238,241,207,179,75,150,1]
theorem gen301:genB 301 pow301=true:=by decide +kernel
instance ok285:OkC (fB 285):=⟨bf285.ok⟩
instance ok301:OkC (fB 301):=⟨bf301.ok⟩
end Go.RS
namespace Go.RS
section
variable {K:Type}[Fd K]
end
end Go.RS
namespace Go.Proofs.YtmnlgdpdgjbfgaaGreat
open Go.Abs Go.RS
set_option linter.unusedSimpArgs false
set_option linter.unusedVariables false
set_option maxRecDepth 20000
section
variable {f:FD}[OkC f]
end
end Go.Proofs.YtmnlgdpdgjbfgaaGreat
namespace Go.Proofs.YtmnlgdpdgjbfgaaGreat
open Go.Abs Go.RS
set_option linter.unusedSimpArgs false
set_option linter.unusedVariables false
set_option maxRecDepth 20000
section
variable {f:FD}[OkC f]
end
end Go.Proofs.YtmnlgdpdgjbfgaaGreat
namespace Go.Proofs.YtmnlgdpdgjbfgaaGreat
open Go.Abs Go.RS
set_option linter.unusedSimpArgs false
set_option linter.unusedVariables false
set_option maxRecDepth 20000
structure Keep2 (b c:Nat)(H H':Heap):Prop where
 len:H.length≤H'.length
 eq:∀i,i<H.length→i≠b→i≠c→H'.get i=H.get i
theorem Keep2.refl(b c:Nat)(H:Heap):Keep2 b c H H:=⟨Nat.le_refl _,fun _ _ _ _=>rfl⟩
theorem Keep2.get{b c:Nat}{H H':Heap}(h:Keep2 b c H H'){i:Nat}{x:List Value}(hx:H.get i=some x)(h1:i≠b)(h2:i≠c):H'.get i=some x:=(h.eq i (Heap.get_lt hx) h1 h2).trans hx
theorem Keep2.ext{b c:Nat}{H A B:Heap}(h:Keep2 b c H A)(e:Ext A B):Keep2 b c H B:=⟨Nat.le_trans h.len e.1,fun i hi h1 h2=>(e.2 i (Nat.lt_of_lt_of_le hi h.len)).trans (h.eq i hi h1 h2)⟩
theorem Keep2.own{b c d:Nat}{H A B:Heap}(h:Keep2 b c H A)(k:Keep d A B)(hd:H.length≤d):Keep2 b c H B:=⟨Nat.le_trans h.len k.len,fun i hi h1 h2=>(k.eq i (Nat.lt_of_lt_of_le hi h.len) (by omega)).trans (h.eq i hi h1 h2)⟩
theorem Keep2.toExt{b c:Nat}{A H H':Heap}(h:Keep2 b c H H')(e:Ext A H)(hb:A.length≤b)(hc:A.length≤c):Ext A H':=⟨Nat.le_trans e.1 h.len,fun i hi=>(h.eq i (Nat.lt_of_lt_of_le hi e.1) (by omega) (by omega)).trans (e.2 i hi)⟩
section
variable {f:FD}[OkC f]
end
end Go.Proofs.YtmnlgdpdgjbfgaaGreat
namespace Go.Proofs.YtmnlgdpdgjbfgaaGreat
open Go.Abs Go.RS
set_option linter.unusedSimpArgs false
set_option linter.unusedVariables false
set_option maxRecDepth 20000
section
variable {ch sz po r b:Int}{v:Value}{l:List Int}{lo:Nat}{H:Heap}
end
section
variable {lo:Nat}{H0:Heap}{ch sz po r b:Int}{v:Value}{l:List Int}
end
end Go.Proofs.YtmnlgdpdgjbfgaaGreat
namespace Go.Proofs.YtmnlgdpdgjbfgaaGreat
open Go.Abs Go.RS
set_option linter.unusedSimpArgs false
set_option linter.unusedVariables false
set_option maxRecDepth 20000
end Go.Proofs.YtmnlgdpdgjbfgaaGreat
namespace Go.Proofs.YtmnlgdpdgjbfgaaGreat
open Go.Abs Go.RS
set_option linter.unusedSimpArgs false
set_option linter.unusedVariables false
set_option maxRecDepth 20000
theorem ceq5(a b c d e:Int):cellsEq [1,1,1,1,1] [.int .i64 a,.int .i64 b,.int .i64 c,.int .i64 d,.int .i64 e] [.int .i64 a,.int .i64 b,.int .i64 c,.int .i64 d,.int .i64 e]=some true:=by simp[cellsEq,cellEq]
def NewIs(ch sz po r b:Int)(v:Value):Prop:=((¬ ∃f,OkF ch sz po f)→v=.tuple #[cdI 0 0 0 0 0,.int .i64 1])∧((∃f,OkF ch sz po f)→¬ OkCd ch sz po r b→v=.tuple #[cdI 0 0 0 0 0,.int .i64 3])∧(OkCd ch sz po r b→v=.tuple #[cdI ch sz po r b,.int .i64 0])
section
variable {lo:Nat}{H:Heap}{ch sz po r b:Int}
set_option linter.defProp false in
def xBTd:=And.intro @Int.cast_ofNat_Int (And.intro @fv.eq_1 (And.intro @fvf.eq_1 (And.intro @ite_self.{1} (And.intro @ite_st (And.intro @ite_sf (And.intro @ite_nt (And.intro @cdC.eq_1 (And.intro @arC.eq_1 (And.intro @elL_at (And.intro @elL_len (And.intro @elL_set' (And.intro @zerosEl @ceq5))))))))))))
theorem xETd{P:Prop}(h:P:=by simp(disch:=first|omega|(simp only[lenB];omega))only[evB,xBTd,Nat.reduceAdd,Nat.reduceBEq, *];rfl):P:=h
theorem xSTd{cp:FuncId→Option CF}{lo:Nat}{l:List (Nat×E)}{chk:List E}{Q:Post}{S:List Value}{H:Heap}{vs:List (Nat×Value)}{S':List Value}(k:Q .normal S' H)(h:evSets S H l=some vs:=by exact xETd)(hc:evChk S H chk=true:=by simp(disch:=first|omega|(simp only[lenB];omega))only[evB,xBTd,Nat.reduceAdd,Nat.reduceBEq, *])(hS:setAll S vs=S':=by exact xETd):wpS cp lo (.sets l chk) Q S H:=aw_sets h hc hS k
theorem xHTd{cp:FuncId→Option CF}{lo:Nat}{l:List (Nat×E)}{chk:List E}{Q:Post}{S:List Value}{H:Heap}{vs:List (Nat×Value)}{dst:Option Nat}{o:HOp}{a:E}{xs:List Value}(k:wpH cp lo o xs H fun v H'=>Q .normal (setD (setAll S vs) dst v) H')(h:evSets S H l=some vs:=by exact xETd)(hc:evChk S H chk=true:=by simp(disch:=first|omega|(simp only[lenB];omega))only[evB,xBTd,Nat.reduceAdd,Nat.reduceBEq, *])(ha:ev S H a=some xs:=by exact xETd):wpS cp lo (.hv l chk [] dst o a) Q S H:=aw_hv h hc ha k
theorem xOTd{cp:FuncId→Option CF}{lo:Nat}{l:List (Nat×E)}{chk:List E}{Q:Post}{S:List Value}{H:Heap}{vs:List (Nat×Value)}{dst:Option Nat}{o:HOp}{a:E}{xs:List Value}{S':List Value}{H':Heap}{v:Value}(hcall:o.isCall=false)(k:Q .normal S' H')(h:evSets S H l=some vs:=by exact xETd)(hc:evChk S H chk=true:=by simp(disch:=first|omega|(simp only[lenB];omega))only[evB,xBTd,Nat.reduceAdd,Nat.reduceBEq, *])(ha:ev S H a=some xs:=by exact xETd)(ho:hsem0 lo o xs H=some (v,H'):=by exact xETd)(hS:setD (setAll S vs) dst v=S':=by exact xETd):wpS cp lo (.hv l chk [] dst o a) Q S H:=aw_op hcall h hc ha ho hS k
theorem xCTd{cp:FuncId→Option CF}{lo:Nat}{c:E}{a b:Stm}{Q:Post}{S:List Value}{H:Heap}{t:Bool}(k1:t=true→wpS cp lo a Q S H)(k2:t=false→wpS cp lo b Q S H)(h:ev1 S H c=some (.bool t):=by exact xETd):wpS cp lo (.cond c a b) Q S H:=aw_cond h k1 k2
theorem xRTd{cf:CF}{R:Value→Heap→Prop}{S:List Value}{H:Heap}{vs:List Value}(k:R (resultOf vs) H)(h:evList S H cf.res=some vs:=by exact xETd):bodyQ cf R .ret S H:=body_ret h k
theorem newV(hlo:lo≤H.length)(hs2:sz≤9223372036854775807):Ev cp lo 70 [fv ch sz po,.int .i64 r,.int .i64 b] H (fun v H'=>Ext H H'∧NewIs ch sz po r b v):=by
 unfold fv
 refine st70 ?_;unfold bd70 cf70;simp only[kB,ctlB]
 repeat' ((first|refine xSTd ?_|refine xOTd rfl ?_);(try simp only[ctlB]))
 refine xHTd ?_
 refine wpH_call0 (rvalid (ch:=ch) (sz:=sz) (po:=po) hs2) ?_
 rintro v H1 ⟨hx1,t1,rfl,ht1⟩
 have g0:H1.get H.length=some _:=hx1.get (xETd)
 have g1:H1.get (H.length+1)=some _:=hx1.get (xETd)
 have hx1:=hx1.of_app
 have hl1:=Heap.get_lt g1
 cases t1 with
 | false=>
  have hno:¬ ∃f,OkF ch sz po f:=fun h=>by have:=ht1.2 h;cases this
  (try simp only[ctlB])
  refine xCTd (fun h=>?_) (fun h=>?_)
  case refine_2=>cases h
  clear h
  (try simp only[ctlB])
  repeat' ((first|refine xSTd ?_|refine xOTd rfl ?_);(try simp only[ctlB]))
  refine xRTd ?_
  exact⟨hx1.set (by omega),fun _=>rfl,fun h=>absurd h hno,fun h=>absurd h.1 hno⟩
 | true=>
  have hf:=ht1.1 rfl
  have hsz:=okF_sz hf
  (try simp only[ctlB])
  refine xCTd (fun h=>?_) (fun h=>?_)
  ·cases h
  clear h
  (try simp only[ctlB])
  repeat' ((first|refine xSTd ?_|refine xOTd rfl ?_);(try simp only[ctlB]))
  generalize hG:H1++_=G at *
  obtain⟨g2,hxG⟩:=box_facts hG
  clear hG
  have g0:=(hxG).get g0;have g1:=(hxG).get g1
  have hxG:=hx1.trans hxG
  have hlG:=Heap.get_lt g2
  refine xHTd ?_
  refine wpH_call0 (rValid (ch:=ch) (sz:=sz) (po:=po) (r:=r) (b:=b) hs2) ?_
  rintro v H2 ⟨hx2,t2,rfl,ht2⟩
  have g0:=(hx2).get g0;have g1:=(hx2).get g1;have g2:=(hx2).get g2
  have hx2:=hxG.trans hx2
  have hl2:=Heap.get_lt g1
  cases t2 with
  | false=>
   have hno:¬ OkCd ch sz po r b:=fun h=>by have:=ht2.2 h;cases this
   (try simp only[ctlB])
   refine xCTd (fun h=>?_) (fun h=>?_)
   case refine_2=>cases h
   clear h
   (try simp only[ctlB])
   repeat' ((first|refine xSTd ?_|refine xOTd rfl ?_);(try simp only[ctlB]))
   refine xRTd ?_
   exact⟨hx2.set (by omega),fun h=>absurd hf h,fun _ _=>rfl,fun h=>absurd h hno⟩
  | true=>
   have hok:OkCd ch sz po r b:=ht2.1 rfl
   (try simp only[ctlB])
   refine xCTd (fun h=>?_) (fun h=>?_)
   ·cases h
   clear h
   (try simp only[ctlB])
   repeat' ((first|refine xSTd ?_|refine xOTd rfl ?_);(try simp only[ctlB]))
   refine xRTd ?_
   exact⟨hx2.set (by omega),fun h=>absurd hf h,fun _ h=>absurd hok h,fun _=>rfl⟩
end
end Go.Proofs.YtmnlgdpdgjbfgaaGreat
