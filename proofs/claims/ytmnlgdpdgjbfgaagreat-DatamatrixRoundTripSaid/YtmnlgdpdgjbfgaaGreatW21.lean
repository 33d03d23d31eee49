/- Lemmas. -/
import Derived.Test.YtmnlgdpdgjbfgaaGreatW10
import Derived.Test.YtmnlgdpdgjbfgaaGreatW20
set_option linter.all false
namespace Go.Proofs.YtmnlgdpdgjbfgaaGreat
open Go.Abs Go.RS
set_option maxRecDepth 20000
section
variable {lo:Nat}{H:Heap}{ch sz po r b:Int}
open XSa
theorem Sf(hlo:lo<=H.length)(hb:po<=9223372036854775807):Ev cp lo 57 [fv ch sz po,.int .i64 r,.int .i64 b] H (fun v H'=>Ext H H'/\((¬ ∃f,OkF ch sz po f)->v=.tuple #[cdI 0 0 0 0 0,.int .i64 1])/\((∃f,OkF ch sz po f)->¬ yh ch sz po r b->v=.tuple #[cdI 0 0 0 0 0,.int .i64 3])/\(yh ch sz po r b->v=.tuple #[cdI ch sz po r b,.int .i64 0])):=by
 unfold fv;refine stG rfl rfl ?_;unfold PV;simp only[kB,aC];refine aD ?_;refine aV ?_;refine aA (valid (ch:=ch) (sz:=sz) (po:=po) hb) ?_;rintro v H1 ⟨hx1,t1,rfl,ht1⟩;have g0:H1.get H.length=some _:=hx1.get bD;have g1:H1.get (H.length+1)=some _:=hx1.get bD;have hx1:=hx1.of_app;have hl1:=Heap.get_lt g1;cases t1 with
 | false=>
  have hno:¬ ∃f,OkF ch sz po f:=fun h=>by have:=ht1.2 h;cases this
  (try simp only[aC]);refine ah ?_ ?_<;>intro h
  case refine_2=>cases h
  clear h;refine aD ?_;refine az ?_;exact⟨hx1.set byO,fun _=>rfl,fun h=>absurd h hno,fun h=>absurd h.1 hno⟩
 | true=>
  have hf:=ht1.1 rfl;have hsz:=GC hf;(try simp only[aC]);refine ah ?_ ?_<;>intro h
  ·cases h
  clear h;(try simp only[aC]);refine aV ?_;refine aA (fits (ch:=ch) (sz:=sz) (po:=po) (r:=r) (b:=b) byO byO) ?_;rintro v H2 ⟨hx2,rfl⟩;have g0:=(hx2).get g0;have g1:=(hx2).get g1;have hx2:=hx1.trans hx2;have hl2:=Heap.get_lt g1;generalize ht2:(((decide (1<=r)&&decide (r<=sz-2))&&decide (0<=b))&&decide (b<=sz-2))=t2;have ht2':t2=true↔1<=r/\r<=sz-2/\0<=b/\b<=sz-2:=by
   rw[<-ht2];simp only[ac₀,af₀];omega
  clear ht2;cases t2 with
  | false=>
   have hno:¬ yh ch sz po r b:=fun h=>by have:=ht2'.2 h.2;cases this
   (try simp only[aC]);refine ah ?_ ?_<;>intro h
   case refine_2=>cases h
   clear h;refine aD ?_;refine az ?_;exact⟨hx2.set byO,fun h=>absurd hf h,fun _ _=>rfl,fun h=>absurd h hno⟩
  | true=>
   have hok:yh ch sz po r b:=⟨hf,ht2'.1 rfl⟩;(try simp only[aC]);refine ah ?_ ?_<;>intro h
   ·cases h
   clear h;refine aD ?_;refine az ?_;exact⟨hx2.set byO,fun h=>absurd hf h,fun _ h=>absurd hok h,fun _=>rfl⟩
end
end Go.Proofs.YtmnlgdpdgjbfgaaGreat
namespace Go.RS
def clB:Nat->Nat->Nat->Nat
 | 0,_,_=>0
 | k+1,a,b=>clB k a b ^^^ (if b.testBit k then a <<< k else 0)
theorem Fo(b k:Nat):b%2^(k+1)=b%2^k ^^^ (if b.testBit k then 2^k else 0):=by
 refine Nat.eq_of_testBit_eq fun i=>?_;rw[Nat.testBit_mod_two_pow,Nat.testBit_xor,Nat.testBit_mod_two_pow];by_cases h1:i<k
 ·have:(if b.testBit k=true then 2^k else 0).testBit i=false:=by
   split
   ·rw[Nat.testBit_two_pow];simp;omega
   ·exact Nat.zero_testBit i
  rw[this];simp[h1,Nat.lt_succ_of_lt h1]
 ·by_cases h2:i=k
  ·subst h2
   cases hb:b.testBit i<;>simp
  ·have:(if b.testBit k=true then 2^k else 0).testBit i=false:=by
    split
    ·rw[Nat.testBit_two_pow];simp;omega
    ·exact Nat.zero_testBit i
   rw[this];have:¬ i<k+1:=byO;simp[h1,this]
theorem EB(a b:Nat):∀k,cl a (b%2^k)=clB k a b
 | 0=>by rw[Nat.pow_zero,Nat.mod_one,gJ];rfl
 | k+1=>by
  have h:cl a (if b.testBit k=true then 2^k else 0)=if b.testBit k=true then a <<< k else 0:=by
   split
   ·exact iX a k
   ·exact gJ a
  rw[Fo,kC,EB a b k,h];rfl
theorem EA{a b n:Nat}(ha:a<2^n):∀k,clB k a b<2^(n+k)
 | 0=>Nat.two_pow_pos _
 | k+1=>by
  show clB k a b ^^^ (if b.testBit k then a <<< k else 0)<_;refine Nat.xor_lt_two_pow (bd₀ (EA ha k) (Nat.pow_le_pow_right byO byO)) ?_;split
  ·rw[Nat.shiftLeft_eq,show n+(k+1)=(n+1)+k by omega,Nat.pow_add]
   exact Nat.mul_lt_mul_of_pos_right (bd₀ ha (Nat.pow_le_pow_right byO byO)) (Nat.two_pow_pos _)
  ·exact Nat.two_pow_pos _
def rdG(q d:Nat):Nat->Nat->Nat
 | 0,p=>p
 | k+1,p=>rdG q d k (if p.testBit (d+k) then p ^^^ (q <<< k) else p)
theorem GW{q d:Nat}(hq:q≠0):∀(k p:Nat),rm (rdG q d k p) q=rm p q
 | 0,_=>rfl
 | k+1,p=>by
  show rm (rdG q d k _) q=_;rw[GW hq k];split
  ·rw[<-iX,AH hq]
  ·rfl
theorem KL{p r n:Nat}(hp:p<2^(n+1))(hr:r<2^(n+1))(h1:p.testBit n=true)(h2:r.testBit n=true):p ^^^ r<2^n:=by
 refine Nat.lt_pow_two_of_testBit _ fun i hi=>?_;rw[Nat.testBit_xor];by_cases e:i=n
 ·rw[e,h1,h2];rfl
 ·rw[Nat.testBit_lt_two_pow (bd₀ hp (Nat.pow_le_pow_right byO byO)),Nat.testBit_lt_two_pow (bd₀ hr (Nat.pow_le_pow_right byO byO))];rfl
theorem Fb{p n:Nat}(hp:p<2^(n+1))(h1:¬ p.testBit n=true):p<2^n:=by
 refine Nat.lt_pow_two_of_testBit _ fun i hi=>?_;by_cases e:i=n
 ·rw[e];simpa using h1
 ·exact Nat.testBit_lt_two_pow (bd₀ hp (Nat.pow_le_pow_right byO byO))
theorem GV{q d:Nat}(hq:q≠0)(hd:q.log2=d):∀(k p:Nat),p<2^(d+k)->rdG q d k p<2^d
 | 0,p,h=>h
 | k+1,p,h=>by
  show rdG q d k _<_;refine GV hq hd k _ ?_;split
  ·rename_i hb
   refine KL h ?_ hb ?_
   ·have h1:=dR q
    rw[hd]at h1;rw[Nat.shiftLeft_eq,show d+k+1=(d+1)+k by omega,Nat.pow_add];exact Nat.mul_lt_mul_of_pos_right h1 (Nat.two_pow_pos _)
   ·have h1:=kM hq
    rw[hd]at h1;rw[Nat.testBit_shiftLeft];simp[h1]
  ·rename_i hb
   exact Fb h hb
theorem G7{q d k p:Nat}(hq:q≠0)(hd:q.log2=d)(hp:p<2^(d+k)):rm p q=rdG q d k p:=by
 rw[<-GW (d:=d) hq k p];exact jU hq (by rw[hd];exact GV hq hd k p hp)
def Fp(q a b:Nat):Nat:=rdG q 8 8 (clB 8 a b)
theorem JQ{q a b:Nat}(hq:q≠0)(hd:q.log2=8)(ha:a<256)(hb:b<256):eX ⟨256,q⟩ a b=Fp q a b:=by
 unfold eX;rw[if_neg hq];have h1:cl a b=clB 8 a b:=by
  have:=EB a b 8;rwa [Nat.mod_eq_of_lt hb]at this
 show rm (cl a b) q=_;rw[h1,G7 hq hd (k:=8) (EA (n:=8) ha 8)];rfl
def QJ(q:Nat):Bool:=(List.range 32).all fun t=>decide (t<2) || decide (rdG t t.log2 9 q≠0)
theorem Mw{q:Nat}(hd:q.log2=8)(hq:q<512)(h:QJ q=true):Irr q:=by
 intro t ht hl;rintro⟨m,hm⟩;have ht0:t≠0:=byO;have hlt:t<32:=by
  have:=dR t;have h5:2^(t.log2+1)<=2^5:=Nat.pow_le_pow_right byO byO;omega
 have h2:=List.all_eq_true.1 h t (List.mem_range.2 hlt);simp only[ar₀,af₀]at h2;have h3:rdG t t.log2 9 q≠0:=h2.resolve_left byO;apply h3;rw[<-G7 ht0 rfl (k:=9) (bd₀ hq (Nat.pow_le_pow_right (n:=2) byO (by omega:9<=t.log2+9)))];exact uV ht0 (m:=m) (Nat.two_pow_pos _) (by rw[hm,Nat.xor_zero])
structure BF (q:Nat):Prop where
 lg:q.log2=8
 lt:q<512
 ne:q≠0
 two:2<=q
 irr:QJ q=true
def fB(q:Nat):FD:=⟨256,q⟩
theorem BF.ok{q:Nat}(h:BF q):(fB q).Ok:=.inr ⟨h.ne,h.two,by show q.log2<=12;have:=h.lg;omega,by show 256=2^q.log2;rw[h.lg],Mw h.lg h.lt h.irr⟩
def eB(q n:Nat):El (fB q):=⟨n%256,Nat.mod_lt _ (by decide)⟩
section
variable {q:Nat}[h:OkC (fB q)]
theorem Fq(hb:BF q)(x y:El (fB q)):(x*y).val=Fp q x.val y.val:=by
 rw[val_mul];exact JQ hb.ne hb.lg x.lt y.lt
def pwB(q x:Nat):Nat->Nat
 | 0=>1
 | n+1=>Fp q (pwB q x n) x
theorem wK(hb:BF q)(x:El (fB q)):∀n,(pw x n).val=pwB q x.val n
 | 0=>rfl
 | n+1=>by rw[fi,Fq hb,wK hb x n];rfl
def uq(q:Nat):Nat->List Nat->Bool
 | _,[]=>true
 | v,w::l=>Nat.beq (Fp q v 2) w&&uq q w l
theorem wu(q:Nat):∀(l:List Nat) (v n:Nat),pwB q 2 n=v->uq q v l=true->∀i,i<l.length->pwB q 2 (n+1+i)=l.getD i 0
 | [],_,_,_,_,i,hi=>by simp at hi
 | w::l,v,n,hv,h,i,hi=>by
  unfold uq at h;simp only[ac₀]at h;have h1:pwB q 2 (n+1)=w:=by
   show Fp q (pwB q 2 n) 2=w;rw[hv];exact Nat.eq_of_beq_eq_true h.1
  match i with
  | 0=>exact h1
  | i+1=>
   have:=wu q l w (n+1) h1 h.2 i (by simpa using hi);rw[show n+1+(i+1)=n+1+1+i by omega,this];rfl
def Mo(q:Nat)(l:List Nat):Bool:=uq q 1 l&&(decide (l.length=255)&&(decide (l.getD 254 0=1)&&(l.take 254).all fun x=>!Nat.beq x 1))
theorem JW(hb:BF q){l:List Nat}(hg:Mo q l=true):Ord (eB q 2) 255:=by
 unfold Mo at hg;simp only[ac₀,af₀]at hg;obtain⟨h1,h2,h3,h4⟩:=hg;have hc:=wu q l 1 0 rfl h1;refine⟨by decide,El.ext ?_,fun m h5 h6 e=>?_⟩
 ·rw[wK hb]
  have:=hc 254 byO;rw[h3]at this;exact this
 ·have h7:=hc (m-1) byO
  rw[show 0+1+(m-1)=m by omega]at h7;have h8:pwB q 2 m=1:=by
   have:=wK hb (eB q 2) m;rw[e]at this;exact this.symm
  have hm:l.getD (m-1) 0 ∈ l.take 254:=by
   rw[au₀,bc₀ (by omega:m-1<l.length)];show l[m-1] ∈ _;rw[List.mem_take_iff_getElem];exact⟨m-1,byO,rfl⟩
  have h9:=List.all_eq_true.1 h4 _ hm;rw[<-h7,h8]at h9;exact absurd h9 (by decide)
theorem yB:¬ Ord (eB q 1) 255:=fun h=>by
 have:eB q 1=1:=El.ext rfl;rw[this]at h;exact h.2.2 1 (by decide) (by decide) (by rw[wM])
end
theorem bf285:BF 285:=⟨by decide +kernel,by decide,by decide,by decide,by decide +kernel⟩
theorem bf301:BF 301:=⟨by decide +kernel,by decide,by decide,by decide,by decide +kernel⟩
def OV:List Nat:=[2,4,8,16,32,64,128,45,90,180,69,138,57,114,228,229,231,227,235,251,219,155,27,54,108,216,157,23,46,92,184,93,186,89,178,73,146,9,18,36,72,144,13,26,52,104,208,141,55,110,220,149,7,14,28,56,112,224,237,247,195,171,123,246,193,175,115,230,225,239,243,203,187,91,182,65,130,41,82,164,101,202,185,95,190,81,162,105,210,137,63,126,252,213,135,35,70,140,53,106,212,133,39,78,156,21,42,84,168,125,250,217,159,19,38,76,152,29,58,116,232,253,215,131,43,86,172,117,234,249,223,147,11,22,44,88,176,77,154,25,50,100,200,189,87,174,113,226,233,255,211,139,59,118,236,245,199,163,107,214,129,47,94,188,85,170,121,242,201,191,83,166,97,194,169,127,254,209,143,51,102,204,181,71,142,49,98,196,165,103,206,177,79,158,17,34,68,136,61,122,244,197,167,99,198,161,111,222,145,15,30,60,120,240,205,183,67,134,33,66,132,37,74,148,5,10,20,40,80,160,109,218,153,31,62,124,248,221,151,3,6,12,24,48,96,192,173,119,238,241,207,179,75,150,1]
theorem Mn:Mo 301 OV=true:=by decide +kernel
instance ok285:OkC (fB 285):=⟨bf285.ok⟩
instance ok301:OkC (fB 301):=⟨bf301.ok⟩
section
variable {K:Type}[Fd K]
end
end Go.RS
