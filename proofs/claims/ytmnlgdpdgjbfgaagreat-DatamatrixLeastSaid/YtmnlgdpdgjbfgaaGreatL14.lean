/- Lemmas. -/
import Derived.Test.YtmnlgdpdgjbfgaaGreatL9
import Derived.Test.YtmnlgdpdgjbfgaaGreatL10
import Derived.Test.YtmnlgdpdgjbfgaaGreatL11
import Derived.Test.YtmnlgdpdgjbfgaaGreatL13
import Derived.KernelRfl
set_option linter.all false
namespace Go.Abs
noncomputable def scF(sc:SC)(f0 g:Nat)(c:Value)(v:FV):SC:=fun f args k d=>bB (Nat.beq f f0) (l1 args (fun x=>bB (eq3 (toV x) c) (k v g) d) d) (sc f args k d)
noncomputable def scM(sc:SC)(f0 g K:Nat)(c c2:Value)(v:Nat->Nat):SC:=fun f args k d=>bB (Nat.beq f f0)
 (l3' args (fun x y z=>bB (eq3 (toV x) c) (cI y (fun ka a=>bB (Nat.beq (idI ka) 3) (bB (Nat.ble a K) (bB (eq3 (toV z) c2) (fN (v a) fun n=>k (.o (.tuple #[.int .i64 (.ofNat n),.int .i64 0])) g) d) d) d) d) d) d) (sc f args k d)
where l3' {α β:Type} (l:List β) (f:β->β->β->α) (d:α):α:=List.casesOn l d fun x r=>List.casesOn r d fun y r=>List.casesOn r d fun z r=>List.casesOn r (f x y z) fun _ _=>d
def Ir(cp:FuncId->Option CF)(N f:Nat)(args:List Value)(v:Value)(g:Nat):Prop:=∀m,N<=m->∀(lo:Nat) (H:Heap),lo<=H.length->∃G:Heap,G.length=g/\run cp m lo f args H=some (.inl v,H++G)
theorem R5{k:IntKind}(h:Nat.beq (idI k) 3=true):k=.i64:=by cases k<;>first|rfl|cases h
theorem bBs{b x y:Bool}(h:bB b x y=true):b=true/\x=true\/y=true:=by
 cases b
 ·exact .inr h
 ·exact .inl ⟨rfl,h⟩
theorem FK{cp:FuncId->Option CF}{sc:SC}{N N' f0 g:Nat}{c:Value}{v:FV}(h:qG cp sc N)(hr:Ir cp N' f0 [c] (toV v) g):qG cp (scF sc f0 g c v) (max N N'):=by
 intro f args k d hk;rcases hf:Nat.beq f f0 with _|_
 ·unfold scF at hk;rw[hf]at hk
  rcases h f args k d hk with h1|⟨v',g',h1,h2⟩
  ·exact .inl h1
  ·exact .inr ⟨v',g',h1,fun m hm=>h2 m byO⟩
 ·unfold scF at hk;rw[hf]at hk
  have e:=Nat.eq_of_beq_eq_true hf;subst e
  match args,hk with
  | [],hk=>exact .inl hk
  | x::y::r,hk=>exact .inl hk
  | [x],hk=>
   rcases bBs (show bB (eq3 (toV x) c) (k v g) d=true from hk)with ⟨h0,h1⟩|h1
   ·have hx:toV x=c:=qd h0
    refine .inr ⟨_,_,h1,fun m hm lo H hlo=>?_⟩;show ∃G:Heap,G.length=g/\run cp m lo f [toV x] H=_;rw[hx];exact hr m byO lo H hlo
   ·exact .inl h1
theorem NL{cp:FuncId->Option CF}{sc:SC}{N N' f0 g K:Nat}{c c2:Value}{v:Nat->Nat}(h:qG cp sc N)(hr:∀a,a<=K->Ir cp N' f0 [c,.int .i64 a,c2] (.tuple #[.int .i64 (v a:Nat),.int .i64 0]) g):qG cp (scM sc f0 g K c c2 v) (max N N'):=by
 intro f args k d hk;rcases hf:Nat.beq f f0 with _|_
 ·unfold scM at hk;rw[hf]at hk
  rcases h f args k d hk with h1|⟨v',g',h1,h2⟩
  ·exact .inl h1
  ·exact .inr ⟨v',g',h1,fun m hm=>h2 m byO⟩
 ·unfold scM at hk;rw[hf]at hk
  have e:=Nat.eq_of_beq_eq_true hf;subst e
  match args,hk with
  | [],hk=>exact .inl hk
  | [x],hk=>exact .inl hk
  | [x,y],hk=>exact .inl hk
  | x::y::z::w::r,hk=>exact .inl hk
  | [x,y,z],hk=>
   rcases bBs (show bB (eq3 (toV x) c) (cI y (fun ka a=>bB (Nat.beq (idI ka) 3) (bB (Nat.ble a K) (bB (eq3 (toV z) c2) (fN (v a) fun n=>k (.o (.tuple #[.int .i64 (.ofNat n),.int .i64 0])) g) d) d) d) d) d=true from hk)with ⟨h0,h1⟩|h1
   ·cases y with
    | i ka a=>
     rcases bBs (show bB (Nat.beq (idI ka) 3) (bB (Nat.ble a K) (bB (eq3 (toV z) c2) (fN (v a) fun n=>k (.o (.tuple #[.int .i64 (.ofNat n),.int .i64 0])) g) d) d) d=true from h1)with ⟨h2,h3⟩|h3
     ·rcases bBs h3 with ⟨h4,h5⟩|h5
      ·rcases bBs h5 with ⟨h6,h7⟩|h7
       ·rw[eU]at h7
        have hx:toV x=c:=qd h0;have hz:toV z=c2:=qd h6;have hka:=R5 h2;subst hka;refine .inr ⟨_,_,h7,fun m hm lo H hlo=>?_⟩;show ∃G:Heap,G.length=g/\run cp m lo f [toV x,.int .i64 a,toV z] H=_;rw[hx,hz];exact hr a (Nat.le_of_ble_eq_true h4) m byO lo H hlo
       ·exact .inl h7
      ·exact .inl h5
     ·exact .inl h3
    | _=>exact .inl h1
   ·exact .inl h1
end Go.Abs
namespace Go.Proofs.YtmnlgdpdgjbfgaaGreat
open Go.Abs
set_option maxHeartbeats 0
def yO:Value:=.agg #[.int .i64 2,.int .i64 256,.int .i64 301]
theorem R6:yU cp M4 0 1000 0 150 [.i .i64 301] (.mk 0 .e) (zN (.bool true) 0)=true:=by kernel_rfl
noncomputable def scA:SC:=scF M4 150 0 (.int .i64 301) (.b true)
theorem FI:qG cp scA 1000:=FK (N':=1000) (c:=.int .i64 301) (v:=.b true) (AU cp) (mf lk (AU cp) R6 rfl rfl fun _=>rfl)
theorem R4:yU cp scA 1000 1000 0 161 [.o yO] (.mk 0 .e) (zN (.int .i64 2) 257)=true:=by kernel_rfl
noncomputable def scB:SC:=scF scA 161 257 yO (.i .i64 2)
theorem FJ:qG cp scB 2000:=FK (N':=2000) (c:=yO) (v:=.i .i64 2) FI (mf lk FI R4 rfl rfl fun _=>rfl)
def DQ(a:Nat):Nat:=if Nat.ble a 127 then 2*a else Nat.xor (2*a) 301
theorem M1:((List.range 256).all fun a=>yU cp scB 2000 300 0 115 [.o yO,.i .i64 a,.i .i64 2] (.mk 0 .e) (zN (.tuple #[.int .i64 (.ofNat (DQ a)),.int .i64 0]) 5))=true:=by kernel_rfl
theorem BO(a:Nat):eq3 (.tuple #[.int .i64 (.ofNat a),.int .i64 0]) (.tuple #[.int .i64 (.ofNat a),.int .i64 0])=true:=by
 unfold eq3;simp[eqL,eq2,eq1]
noncomputable def scC:SC:=scM scB 115 5 255 yO (.int .i64 2) DQ
theorem NK:qG cp scC 2300:=NL (N':=2300) (c:=yO) (c2:=.int .i64 2) FJ fun a ha=>mf (args:=[.o yO,.i .i64 a,.i .i64 2]) lk FJ (List.all_eq_true.1 M1 a (List.mem_range.2 byO)) rfl (BO _) fun _=>rfl
set_option maxHeartbeats 0 in
theorem exR:yU cp scC 2300 100000 0 12 [] (.mk 0 .e) (It (.bool true))=true:=by kernel_rfl
theorem zi{lo:Nat}{H:Heap}(hlo:lo<=H.length):Ev cp lo 12 [] H (fun v H'=>Ext H H'/\v=.bool true):=DZ (args:=[]) lk NK exR rfl rfl hlo
end Go.Proofs.YtmnlgdpdgjbfgaaGreat
namespace Go.RS
section
variable {K:Type}[Fd K]
end
def clB:Nat->Nat->Nat->Nat
 | 0,_,_=>0
 | k+1,a,b=>clB k a b ^^^ (if b.testBit k then a <<< k else 0)
theorem EM(b k:Nat):b%2^(k+1)=b%2^k ^^^ (if b.testBit k then 2^k else 0):=by
 refine Nat.eq_of_testBit_eq fun i=>?_;rw[Nat.testBit_mod_two_pow,Nat.testBit_xor,Nat.testBit_mod_two_pow];by_cases h1:i<k
 ·have:(if b.testBit k=true then 2^k else 0).testBit i=false:=by
   split
   ·rw[Nat.testBit_two_pow];simp;omega
   ·exact Nat.zero_testBit i
  rw[this];simp[h1,Nat.lt_succ_of_lt h1]
 ·by_cases h2:i=k
  ·subst h2
   cases hb:b.testBit i<;>simp
  ·have:(if b.testBit k=true then 2^k else 0).testBit i=false:=by
    split
    ·rw[Nat.testBit_two_pow];simp;omega
    ·exact Nat.zero_testBit i
   rw[this];have:¬ i<k+1:=byO;simp[h1,this]
theorem Ct(a b:Nat):∀k,cl a (b%2^k)=clB k a b
 | 0=>by rw[Nat.pow_zero,Nat.mod_one,fy];rfl
 | k+1=>by
  have h:cl a (if b.testBit k=true then 2^k else 0)=if b.testBit k=true then a <<< k else 0:=by
   split
   ·exact iM a k
   ·exact fy a
  rw[EM,jy,Ct a b k,h];rfl
theorem Cs{a b n:Nat}(ha:a<2^n):∀k,clB k a b<2^(n+k)
 | 0=>Nat.two_pow_pos _
 | k+1=>by
  show clB k a b ^^^ (if b.testBit k then a <<< k else 0)<_;refine Nat.xor_lt_two_pow (bc₀ (Cs ha k) (Nat.pow_le_pow_right byO byO)) ?_;split
  ·rw[Nat.shiftLeft_eq,show n+(k+1)=(n+1)+k by omega,Nat.pow_add]
   exact Nat.mul_lt_mul_of_pos_right (bc₀ ha (Nat.pow_le_pow_right byO byO)) (Nat.two_pow_pos _)
  ·exact Nat.two_pow_pos _
def rdG(q d:Nat):Nat->Nat->Nat
 | 0,p=>p
 | k+1,p=>rdG q d k (if p.testBit (d+k) then p ^^^ (q <<< k) else p)
theorem Er{q d:Nat}(hq:q≠0):∀(k p:Nat),rm (rdG q d k p) q=rm p q
 | 0,_=>rfl
 | k+1,p=>by
  show rm (rdG q d k _) q=_;rw[Er hq k];split
  ·rw[<-iM,yz hq]
  ·rfl
theorem Ip{p r n:Nat}(hp:p<2^(n+1))(hr:r<2^(n+1))(h1:p.testBit n=true)(h2:r.testBit n=true):p ^^^ r<2^n:=by
 refine Nat.lt_pow_two_of_testBit _ fun i hi=>?_;rw[Nat.testBit_xor];by_cases e:i=n
 ·rw[e,h1,h2];rfl
 ·rw[Nat.testBit_lt_two_pow (bc₀ hp (Nat.pow_le_pow_right byO byO)),Nat.testBit_lt_two_pow (bc₀ hr (Nat.pow_le_pow_right byO byO))];rfl
theorem EF{p n:Nat}(hp:p<2^(n+1))(h1:¬ p.testBit n=true):p<2^n:=by
 refine Nat.lt_pow_two_of_testBit _ fun i hi=>?_;by_cases e:i=n
 ·rw[e];simpa using h1
 ·exact Nat.testBit_lt_two_pow (bc₀ hp (Nat.pow_le_pow_right byO byO))
theorem Ep{q d:Nat}(hq:q≠0)(hd:q.log2=d):∀(k p:Nat),p<2^(d+k)->rdG q d k p<2^d
 | 0,p,h=>h
 | k+1,p,h=>by
  show rdG q d k _<_;refine Ep hq hd k _ ?_;split
  ·rename_i hb
   refine Ip h ?_ hb ?_
   ·have h1:=dI q
    rw[hd]at h1;rw[Nat.shiftLeft_eq,show d+k+1=(d+1)+k by omega,Nat.pow_add];exact Nat.mul_lt_mul_of_pos_right h1 (Nat.two_pow_pos _)
   ·have h1:=kH hq
    rw[hd]at h1;rw[Nat.testBit_shiftLeft];simp[h1]
  ·rename_i hb
   exact EF h hb
theorem FA{q d k p:Nat}(hq:q≠0)(hd:q.log2=d)(hp:p<2^(d+k)):rm p q=rdG q d k p:=by
 rw[<-Er (d:=d) hq k p];exact jJ hq (by rw[hd];exact Ep hq hd k p hp)
def EN(q a b:Nat):Nat:=rdG q 8 8 (clB 8 a b)
theorem Hi{q a b:Nat}(hq:q≠0)(hd:q.log2=8)(ha:a<256)(hb:b<256):eL ⟨256,q⟩ a b=EN q a b:=by
 unfold eL;rw[if_neg hq];have h1:cl a b=clB 8 a b:=by
  have:=Ct a b 8;rwa [Nat.mod_eq_of_lt hb]at this
 show rm (cl a b) q=_;rw[h1,FA hq hd (k:=8) (Cs (n:=8) ha 8)];rfl
def Ol(q:Nat):Bool:=(List.range 32).all fun t=>decide (t<2) || decide (rdG t t.log2 9 q≠0)
theorem Ll{q:Nat}(hd:q.log2=8)(hq:q<512)(h:Ol q=true):Irr q:=by
 intro t ht hl;rintro⟨m,hm⟩;have ht0:t≠0:=byO;have hlt:t<32:=by
  have:=dI t;have h5:2^(t.log2+1)<=2^5:=Nat.pow_le_pow_right byO byO;omega
 have h2:=List.all_eq_true.1 h t (List.mem_range.2 hlt);simp only[ar₀,af₀]at h2;have h3:rdG t t.log2 9 q≠0:=h2.resolve_left byO;apply h3;rw[<-FA ht0 rfl (k:=9) (bc₀ hq (Nat.pow_le_pow_right (n:=2) byO (by omega:9<=t.log2+9)))];exact tk ht0 (m:=m) (Nat.two_pow_pos _) (by rw[hm,Nat.xor_zero])
structure BF (q:Nat):Prop where
 lg:q.log2=8
 lt:q<512
 ne:q≠0
 two:2<=q
 irr:Ol q=true
def fB(q:Nat):FD:=⟨256,q⟩
theorem BF.ok{q:Nat}(h:BF q):(fB q).Ok:=.inr ⟨h.ne,h.two,by show q.log2<=12;have:=h.lg;omega,by show 256=2^q.log2;rw[h.lg],Ll h.lg h.lt h.irr⟩
def eB(q n:Nat):El (fB q):=⟨n%256,Nat.mod_lt _ (by decide)⟩
section
variable {q:Nat}[h:OkC (fB q)]
theorem EO(hb:BF q)(x y:El (fB q)):(x*y).val=EN q x.val y.val:=by
 rw[val_mul];exact Hi hb.ne hb.lg x.lt y.lt
def pwB(q x:Nat):Nat->Nat
 | 0=>1
 | n+1=>EN q (pwB q x n) x
theorem uz(hb:BF q)(x:El (fB q)):∀n,(pw x n).val=pwB q x.val n
 | 0=>rfl
 | n+1=>by rw[gC,EO hb,uz hb x n];rfl
def uJ(q:Nat):Nat->List Nat->Bool
 | _,[]=>true
 | v,w::l=>Nat.beq (EN q v 2) w&&uJ q w l
theorem vd(q:Nat):∀(l:List Nat) (v n:Nat),pwB q 2 n=v->uJ q v l=true->∀i,i<l.length->pwB q 2 (n+1+i)=l.getD i 0
 | [],_,_,_,_,i,hi=>by simp at hi
 | w::l,v,n,hv,h,i,hi=>by
  unfold uJ at h;simp only[ac₀]at h;have h1:pwB q 2 (n+1)=w:=by
   show EN q (pwB q 2 n) 2=w;rw[hv];exact Nat.eq_of_beq_eq_true h.1
  match i with
  | 0=>exact h1
  | i+1=>
   have:=vd q l w (n+1) h1 h.2 i (by simpa using hi);rw[show n+1+(i+1)=n+1+1+i by omega,this];rfl
def Lf(q:Nat)(l:List Nat):Bool:=uJ q 1 l&&(decide (l.length=255)&&(decide (l.getD 254 0=1)&&(l.take 254).all fun x=>!Nat.beq x 1))
theorem Hu(hb:BF q){l:List Nat}(hg:Lf q l=true):Ord (eB q 2) 255:=by
 unfold Lf at hg;simp only[ac₀,af₀]at hg;obtain⟨h1,h2,h3,h4⟩:=hg;have hc:=vd q l 1 0 rfl h1;refine⟨by decide,El.ext ?_,fun m h5 h6 e=>?_⟩
 ·rw[uz hb]
  have:=hc 254 byO;rw[h3]at this;exact this
 ·have h7:=hc (m-1) byO
  rw[show 0+1+(m-1)=m by omega]at h7;have h8:pwB q 2 m=1:=by
   have:=uz hb (eB q 2) m;rw[e]at this;exact this.symm
  have hm:l.getD (m-1) 0 ∈ l.take 254:=by
   rw[au₀,bb₀ (by omega:m-1<l.length)];show l[m-1] ∈ _;rw[List.mem_take_iff_getElem];exact⟨m-1,byO,rfl⟩
  have h9:=List.all_eq_true.1 h4 _ hm;rw[<-h7,h8]at h9;exact absurd h9 (by decide)
theorem wi:¬ Ord (eB q 1) 255:=fun h=>by
 have:eB q 1=1:=El.ext rfl;rw[this]at h;exact h.2.2 1 (by decide) (by decide) (by rw[vC])
end
theorem bf285:BF 285:=⟨by decide +kernel,by decide,by decide,by decide,by decide +kernel⟩
theorem bf301:BF 301:=⟨by decide +kernel,by decide,by decide,by decide,by decide +kernel⟩
def ND:List Nat:=[2,4,8,16,32,64,128,45,90,180,69,138,57,114,228,229,231,227,235,251,219,155,27,54,108,216,157,23,46,92,184,93,186,89,178,73,146,9,18,36,72,144,13,26,52,104,208,141,55,110,220,149,7,14,28,56,112,224,237,247,195,171,123,246,193,175,115,230,225,239,243,203,187,91,182,65,130,41,82,164,101,202,185,95,190,81,162,105,210,137,63,126,252,213,135,35,70,140,53,106,212,133,39,78,156,21,42,84,168,125,250,217,159,19,38,76,152,29,58,116,232,253,215,131,43,86,172,117,234,249,223,147,11,22,44,88,176,77,154,25,50,100,200,189,87,174,113,226,233,255,211,139,59,118,236,245,199,163,107,214,129,47,94,188,85,170,121,242,201,191,83,166,97,194,169,127,254,209,143,51,102,204,181,71,142,49,98,196,165,103,206,177,79,158,17,34,68,136,61,122,244,197,167,99,198,161,111,222,145,15,30,60,120,240,205,183,67,134,33,66,132,37,74,148,5,10,20,40,80,160,109,218,153,31,62,124,248,221,151,3,6,12,24,48,96,192,173,119,238,241,207,179,75,150,1]
theorem Le:Lf 301 ND=true:=by decide +kernel
instance ok285:OkC (fB 285):=⟨bf285.ok⟩
instance ok301:OkC (fB 301):=⟨bf301.ok⟩
end Go.RS
namespace Go.Proofs.YtmnlgdpdgjbfgaaGreat
open Go.Abs Go.RS
variable{H:Heap}{lo:Nat}{n:Nat}
set_option maxRecDepth 20000
theorem EP{a b A B:Int}(h1:-A<=a)(h2:a<=A)(h3:0<=b)(h4:b<=B)(hA:0<=A):-(A*B)<=a*b/\a*b<=A*B:=by
 have e1:a*b<=A*b:=Int.mul_le_mul_of_nonneg_right h2 h3;have e2:A*b<=A*B:=Int.mul_le_mul_of_nonneg_left h4 hA;have e3:-A*b<=a*b:=Int.mul_le_mul_of_nonneg_right h1 h3;rw[Int.neg_mul]at e3;omega
theorem HW{s:ByteArray}{k:IntKind}{i:Int}{b:UInt8}(h0:0<=i)(hs:s[i.toNat]?=some b):aH .idxS [.string s,.int k i] H=some (.int .u8 b.toNat):=by
 simp[aH,h0,hs]
def eW(n:Nat):Nat:=if n=0 then 0 else n.log2+1
theorem rF{x k:Nat}(h:2^k<=x):eW x=k+eW (x/2^k):=by
 have hp:0<2^k:=Nat.pow_pos byO;have hy:x/2^k≠0:=by
  have:=(Nat.le_div_iff_mul_le hp).2 (show 1*2^k<=x by omega);omega
 have hx:x≠0:=byO;unfold eW;rw[if_neg hx,if_neg hy];have h1:=jU hy;have h2:=dI (x/2^k);have h3:2^((x/2^k).log2+k)<=x:=by
  rw[Nat.pow_add];exact Nat.le_trans (Nat.mul_le_mul_right _ h1) (Nat.div_mul_le_self x _)
 have h4:x<2^((x/2^k).log2+k+1):=by
  have:x<(x/2^k+1)*2^k:=Nat.lt_mul_of_div_lt byO hp;have h5:(x/2^k+1)*2^k<=2^((x/2^k).log2+1)*2^k:=Nat.mul_le_mul_right _ byO;rw[<-Nat.pow_add,show(x/2^k).log2+1+k=(x/2^k).log2+k+1 by omega]at h5;omega
 rw[rJ h3 h4];omega
theorem gq{n k:Nat}(h:n<2^k):eW n<=k:=by
 unfold eW;split
 ·omega
 ·rename_i hn
  have:=Nat.lt_of_le_of_lt (jU hn) h;have:=(Nat.pow_lt_pow_iff_right (by omega:1<2)).1 this;omega
set_option maxRecDepth 100000 in
theorem Lp:((List.range 256).all fun i=>match HK[i]? with|some b=>b.toNat==eW i|none=>false)=true:=by kernel_rfl
theorem Lo{i:Nat}(h:i<256):∃b,HK[i]?=some b/\b.toNat=eW i:=by
 have:=List.all_eq_true.1 Lp i (by simpa using h);split at this
 ·rename_i b hb;exact⟨b,hb,by simpa using this⟩
 ·cases this
theorem qD(n:Nat)(k:Nat)(ik:IntKind)(hk:k<=ik.bits):(n:Int).fdiv (2^(min k ik.bits))=((n/2^k:Nat):Int):=by
 rw[Nat.min_eq_left hk,Int.fdiv_eq_ediv_of_nonneg _ (Int.le_of_lt (Int.pow_pos byO))];simp
namespace XGa
def xtr:=@Int.cast_ofNat_Int
end XGa
open XGa
theorem Oo(hn:n<2^64):Ev cp lo 204 [.int .u64 n] H (fun v H'=>H'=H/\v=.int .i64 (eW n:Nat)):=by
 refine stG rfl rfl ?_;unfold Je;simp only[kB,aC];refine aj ?_;have s32:=qD n 32 .u64 (by decide);refine iI (fun S' H'=>H=H'/\∃x s:Nat,x<2^32/\s<=32/\eW n=s+eW x/\S'=[.int .u64 x,.int .i64 s]) ?_ ?_
 ·refine dK ?_ ?_<;>intro h
  ·have hc:4294967296<=n:=by simp at h;omega
   clear h;refine aj ?_;exact⟨by trivial,n/2^32,32,byO,byO,rF byO,by simp only[show Int.toNat 32=32 from rfl,s32];rfl⟩
  ·have hc:n<4294967296:=by simp at h;omega
   clear h;(try simp only[aC]);exact⟨by trivial,n,0,byO,byO,byO,rfl⟩
 rintro S' H' ⟨rfl,x,s,hx,hs,he,rfl⟩;(try simp only[aC]);have s16:=qD x 16 .u64 (by decide);refine iI (fun S' H'=>H=H'/\∃x s:Nat,x<2^16/\s<=48/\eW n=s+eW x/\S'=[.int .u64 x,.int .i64 s]) ?_ ?_
 ·refine dK ?_ ?_<;>intro h
  ·have hc:65536<=x:=by simp at h;omega
   clear h;refine aj ?_;exact⟨by trivial,x/2^16,s+16,byO,byO,by rw[he,rF (k:=16) (x:=x) byO];omega,by simp only[show Int.toNat 16=16 from rfl,s16,ap₀];rfl⟩
  ·have hc:x<65536:=by simp at h;omega
   clear h;(try simp only[aC]);exact⟨by trivial,x,s,byO,byO,byO,rfl⟩
 clear s32 s16 hx hs he;rintro S' H' ⟨rfl,x,s,hx,hs,he,rfl⟩;(try simp only[aC]);have s8:=qD x 8 .u64 (by decide);refine iI (fun S' H'=>H=H'/\∃x s:Nat,x<2^8/\s<=56/\eW n=s+eW x/\S'=[.int .u64 x,.int .i64 s]) ?_ ?_
 ·refine dK ?_ ?_<;>intro h
  ·have hc:256<=x:=by simp at h;omega
   clear h;refine aj ?_;exact⟨by trivial,x/2^8,s+8,byO,byO,by rw[he,rF (k:=8) (x:=x) byO];omega,by simp only[show Int.toNat 8=8 from rfl,s8,ap₀];rfl⟩
  ·have hc:x<256:=by simp at h;omega
   clear h;(try simp only[aC]);exact⟨by trivial,x,s,byO,byO,byO,rfl⟩
 clear s8 hx hs he;rintro S' H' ⟨rfl,x,s,hx,hs,he,rfl⟩;obtain⟨b,hb,hbl⟩:=Lo (show x<256 by omega);have hbl2:=gq hx;have hb2:HK[(x:Int).toNat]?=some b:=hb;have hidx:=HW (H:=H) (k:=.u8) (i:=(x:Int)) byO hb2;clear hb hb2;refine aj ?_;refine eP ?_;refine⟨rfl,?_⟩;rw[he,<-hbl];rfl
theorem Qt(hn:n<2^64):Ev cp lo 189 [.int .u64 n] H (fun v H'=>H'=H/\v=.int .i64 (eW n:Nat)):=by
 refine stG rfl rfl ?_;unfold J4;simp only[kB,aC];refine aj ?_;refine dK ?_ ?_<;>intro h
 ·cases h
 clear h;(try simp only[aC]);refine e9 ?_;refine aB (Oo hn) ?_;rintro v H1 ⟨rfl,rfl⟩;refine aj ?_;refine eP ?_;exact⟨rfl,rfl⟩
theorem degree(hn:n<2^63):Ev cp lo 149 [.int .i64 n] H (fun v H'=>H'=H/\v=.int .i64 ((eW n:Nat)-1)):=by
 have hl:=gq hn;refine stG rfl rfl ?_;unfold JQ;simp only[kB,aC];refine aj ?_;refine e9 ?_;refine aB (Qt (n:=n) byO) ?_;rintro v H1 ⟨rfl,rfl⟩;refine aj ?_;refine eP ?_;exact⟨rfl,rfl⟩
def PrN(n:Nat):Prop:=∀d,2<=d->d*d<=n->n%d≠0
theorem IU(h:2<=n):PrN n↔Pr n:=by
 constructor
 ·intro hp
  refine⟨h,fun d hd hlt hdvd=>?_⟩;obtain⟨e,he⟩:=hdvd;have he2:2<=e:=by
   rcases Nat.lt_or_ge e 2 with h1|h1
   ·exfalso
    have:e=0\/e=1:=byO;rcases this with rfl|rfl
    ·simp at he;omega
    ·simp at he;omega
   ·exact h1
  rcases Nat.le_total d e with h1|h1
  ·exact hp d hd (by rw[he];exact Nat.mul_le_mul_left d h1) (by rw[he];exact Nat.mul_mod_right d e)
  ·exact hp e he2 (by rw[he];exact Nat.mul_le_mul_right e h1) (by rw[he];exact Nat.mul_mod_left d e)
 ·intro hp d hd hle hmod
  have:d*2<=d*d:=Nat.mul_le_mul_left d hd;exact hp.2 d hd byO (Nat.dvd_of_mod_eq_zero hmod)
theorem Pv(hn:n<=4096):Ev cp lo 148 [.int .i64 n] H (fun v H'=>H'=H/\∃b,v=.bool b/\(b=true↔PrN n)):=by
 refine stG rfl rfl ?_;unfold JP;simp only[kB,aC];refine aj ?_;refine bH (fun m S H'=>∃(d:Nat),2<=d/\d<=n+2/\m=n+3-d/\H=H'/\(∀e,2<=e->e<d->e*e<=n->n%e≠0)/\S=[.int .i64 n,.bool false,.int .i64 d]) (n+1) ?_ ?_
 ·exact⟨2,byO,byO,byO,rfl,fun e h1 h2=>byO,rfl⟩
 rintro m S H' ⟨d,h2,hle,rfl,rfl,hno,rfl⟩;have hm:=EP (a:=(d:Int)) (b:=(d:Int)) (A:=5000) (B:=5000) byO byO byO byO byO;(try simp only[aC]);refine dK ?_ ?_<;>intro h
 ·have hc:d*d<=n:=by simp at h;omega
  clear h;have hdn:d<=n:=Nat.le_trans (Nat.le_mul_of_pos_left d byO) hc;have hmod:(n:Int).tmod (d:Int)=((n%d:Nat):Int):=by rw[Int.tmod_eq_emod_of_nonneg byO];rfl
  (try simp only[aC]);refine dK ?_ ?_<;>intro h
  ·have hz:n%d=0:=by simp at h;omega
   clear h hmod;refine aj ?_;refine eP ?_;exact⟨rfl,false,rfl,by simp;exact fun hp=>hp d h2 hc hz⟩
  ·have hz:n%d≠0:=by simp at h;omega
   clear h hmod;refine aj ?_;simp only[cN];refine⟨n+3-(d+1),byO,d+1,byO,byO,rfl,by trivial,fun e h1 h3=>?_,ncM⟩;by_cases e2:e=d
   ·subst e2;exact fun _=>hz
   ·exact hno e h1 byO
 ·have hc:¬ d*d<=n:=by simp at h;omega
  clear h;refine aj ?_;refine eP ?_;refine⟨rfl,true,rfl,?_⟩;simp only[true_iff];intro e h1 h3;refine hno e h1 ?_ h3;apply Decidable.byContradiction;intro hge;exact hc (Nat.le_trans (Nat.mul_le_mul (show d<=e by omega) (show d<=e by omega)) h3)
theorem je(h:n≠0):eW n=n.log2+1:=by unfold eW;rw[if_neg h]
theorem Ln:eW 0=0:=rfl
theorem Es{p q:Nat}(hq:q≠0)(hp:p≠0)(hle:q.log2<=p.log2):p ^^^ q <<< (p.log2-q.log2)<2^p.log2:=by
 have hp2:(2:Nat)^(p.log2-q.log2)≠0:=Nat.pos_iff_ne_zero.1 (Nat.pow_pos byO);have hs:(q <<< (p.log2-q.log2)).log2=p.log2:=by
  rw[<-iM,xn hq hp2,rJ (Nat.le_refl _) (Nat.pow_lt_pow_right byO byO)];omega
 have hs0:q <<< (p.log2-q.log2)≠0:=by rw[<-iM];exact qT hq hp2
 refine Nat.lt_pow_two_of_testBit _ fun i hi=>?_;rw[Nat.testBit_xor];by_cases e:i=p.log2
 ·have:=kH hs0
  rw[hs]at this;rw[e,kH hp,this];rfl
 ·have h1:p.testBit i=false:=mL (dI p) i byO
  have h2:(q <<< (p.log2-q.log2)).testBit i=false:=mL (dI (q <<< (p.log2-q.log2))) i byO;rw[h1,h2];rfl
theorem oM{a b:Nat}(ha:a<2^63)(hb:b<2^63):IntKind.i64.wrap ((BitVec.ofInt IntKind.i64.bits (a:Int) ^^^ BitVec.ofInt IntKind.i64.bits (b:Int)).toNat:Int)=((a ^^^ b:Nat):Int):=by
 rw[show IntKind.i64.bits=64 from rfl,BitVec.ofInt_natCast,BitVec.ofInt_natCast,BitVec.toNat_xor,BitVec.toNat_ofNat,BitVec.toNat_ofNat,Nat.mod_eq_of_lt byO,Nat.mod_eq_of_lt byO];have:a ^^^ b<2^63:=Nat.xor_lt_two_pow ha hb;rw[lJ byO byO]
theorem vM{a k:Nat}(h:a*2^k<2^63)(hk:k<=62):IntKind.i64.wrap ((a:Int)*2^(min k IntKind.i64.bits))=((a <<< k:Nat):Int):=by
 rw[show IntKind.i64.bits=64 from rfl,Nat.min_eq_left byO,Nat.shiftLeft_eq];have e:(a:Int)*2^k=((a*2^k:Nat):Int):=by simp
 rw[e,lJ byO byO]
theorem NR{q a b:Nat}(h:q<2^b):q <<< a<2^(b+a):=by
 rw[Nat.shiftLeft_eq,Nat.pow_add];exact Nat.mul_lt_mul_of_pos_right h (Nat.pow_pos byO)
theorem Bz{p q:Nat}(hp:p<2^62)(hq:q<2^62)(hq0:q≠0):Ev cp lo 190 [.int .i64 p,.int .i64 q] H (fun v H'=>H'=H/\v=.int .i64 (rm p q:Nat)):=by
 have hlq:=je hq0;have hlq2:=gq hq;refine stG rfl rfl ?_;unfold J5;simp only[kB,aC];refine aj ?_;refine bH (fun m S H'=>∃(x:Nat) (z3 z4 z5 z6 z7 z8:Value),x<2^62/\m=x/\H=H'/\rm x q=rm p q/\S=[.int .i64 (x:Nat),.int .i64 (q:Nat),.int .i64 0,z3,z4,z5,z6,z7,z8]) p ?_ ?_
 ·exact⟨p,_,_,_,_,_,_,hp,rfl,rfl,rfl,rfl⟩
 rintro m S H' ⟨x,z3,z4,z5,z6,z7,z8,hx,rfl,rfl,hrm,rfl⟩;have hlx:=gq hx;(try simp only[aC]);refine e9 ?_;refine aB (degree (n:=m) byO) ?_;rintro v H1 ⟨rfl,rfl⟩;(try simp only[aC]);refine e9 ?_;refine aB (degree (n:=q) byO) ?_;rintro v H2 ⟨rfl,rfl⟩;(try simp only[aC]);refine dK ?_ ?_<;>intro h
 ·have hc:eW q<=eW m:=by simp at h;omega
  clear h;have hm0:m≠0:=by rintro rfl;rw[Ln]at hc;omega
  have hlm:=je hm0;have hred:=Es hq0 hm0 byO;have hml:=jU hm0;have e1:((eW m:Nat):Int)-1-((eW q:Nat)-1)=((m.log2-q.log2:Nat):Int):=byO;have hsl:q <<< (m.log2-q.log2)<2^(q.log2+1+(m.log2-q.log2)):=NR (dI q);have hpw:2^(q.log2+1+(m.log2-q.log2))<=2^62:=Nat.pow_le_pow_right byO byO;have hsl2:=hsl;rw[Nat.shiftLeft_eq]at hsl2;have e2:=vM (a:=q) (k:=m.log2-q.log2) byO byO;have e3:=oM (a:=m) (b:=q <<< (m.log2-q.log2)) byO byO;(try simp only[aC]);refine e9 ?_;refine aB (degree (n:=m) byO) ?_;rintro v H1 ⟨rfl,rfl⟩;(try simp only[aC]);refine e9 ?_;refine aB (degree (n:=q) byO) ?_;rintro v H2 ⟨rfl,rfl⟩;clear hlm hlq;refine aj ?_;simp only[cN];exact⟨m ^^^ q <<< (m.log2-q.log2),byO,_,_,_,_,_,_,_,byO,rfl,by trivial,by rw[<-hrm,<-iM,yz hq0],rfl⟩
 ·have hc:eW m<eW q:=by simp at h;omega
  clear h;have hmr:rm m q=m:=by
   apply jJ hq0;by_cases hm0:m=0
   ·rw[hm0];exact Nat.pow_pos byO
   ·rw[je hm0]at hc
    exact bc₀ (dI m) (Nat.pow_le_pow_right byO byO)
  rw[hmr]at hrm;refine aj ?_;refine eP ?_;exact⟨rfl,by rw[<-hrm];rfl⟩
theorem I1{p t:Nat}(ht:t≠0):rm p t=0↔∃m,p=cl t m:=by
 constructor
 ·intro h
  obtain⟨m,hm⟩:=rj ht p;rw[h,Nat.xor_zero]at hm;exact⟨m,hm⟩
 ·rintro⟨m,rfl⟩
  exact tk ht (Nat.pow_pos byO) (m:=m) (by rw[Nat.xor_zero])
theorem EB{a b:Nat}(h:a<=b)(ha:a≠0):a.log2<=b.log2:=by
 have h1:=jU ha;have h2:=dI b;have:2^a.log2<2^(b.log2+1):=byO;have:=(Nat.pow_lt_pow_iff_right (by omega:1<2)).1 this;omega
theorem irreducible{p:Nat}(hp:p<2^62)(h2:2<=p):Ev cp lo 150 [.int .i64 p] H (fun v H'=>H'=H/\∃b,v=.bool b/\(b=true↔Irr p)):=by
 have hlp:=je (n:=p) byO;have hlp2:=gq hp;refine stG rfl rfl ?_;unfold JR;simp only[kB,aC];refine aj ?_;refine bH (fun m S H'=>∃(q:Nat) (z3 z4 z5 z6:Value),2<=q/\q<=p+1/\m=p+2-q/\H=H'/\(∀t,2<=t->t<q->2*t.log2<=p.log2->¬ ∃m,p=cl t m)/\S=[.int .i64 (p:Nat),.bool false,.int .i64 (q:Nat),z3,z4,z5,z6]) p ?_ ?_
 ·exact⟨2,_,_,_,_,byO,byO,byO,rfl,fun t h1 h2=>byO,rfl⟩
 rintro m S H' ⟨q,z3,z4,z5,z6,hq2,hqp,rfl,rfl,hno,rfl⟩;have hq0:q≠0:=byO;have hlq:=je hq0;have hlq2:=gq (show q<2^63 by omega);(try simp only[aC]);refine e9 ?_;refine aB (degree (n:=q) byO) ?_;rintro v H1 ⟨rfl,rfl⟩;(try simp only[aC]);refine e9 ?_;refine aB (degree (n:=p) byO) ?_;rintro v H2 ⟨rfl,rfl⟩;clear hlq2 hlp2;have hlq':eW q<=q.log2+1/\q.log2+1<=eW q:=byO;have hlp':eW p<=p.log2+1/\p.log2+1<=eW p:=byO;have hlq3:=gq (show q<2^63 by omega);have hlp3:=gq (show p<2^63 by omega);clear hlq hlp;(try simp only[aC]);refine dK ?_ ?_<;>intro h
 ·have hc:2*q.log2<=p.log2:=by simp at h;omega
  clear h;have hlt:q<p:=by
   have h1:=ua hq2;have h3:=dI q;have h4:2^(q.log2+1)<=2^p.log2:=Nat.pow_le_pow_right byO byO;have h5:=jU (show p≠0 by omega);omega
  (try simp only[aC]);refine e9 ?_;refine aB (Bz (p:=p) (q:=q) hp byO hq0) ?_;rintro v H1 ⟨rfl,rfl⟩;have hz:=I1 (p:=p) hq0;(try simp only[aC]);refine dK ?_ ?_<;>intro h
  ·have hr:rm p q=0:=by simp at h;omega
   clear h;refine aj ?_;refine eP ?_;exact⟨rfl,false,rfl,by simp;exact fun hi=>hi q hq2 hc (hz.1 hr)⟩
  ·have hr:rm p q≠0:=by simp at h;omega
   clear h;refine aj ?_;simp only[cN];refine⟨p+2-(q+1),byO,q+1,_,_,_,_,byO,byO,rfl,by trivial,fun t h1 h3=>?_,ncM⟩;by_cases e:t=q
   ·subst e;exact fun _ hm=>hr (hz.2 hm)
   ·exact hno t h1 byO
 ·have hc:p.log2<2*q.log2:=by simp at h;omega
  clear h;refine aj ?_;refine eP ?_;refine⟨rfl,true,rfl,?_⟩;simp only[true_iff];intro t h1 h3;refine hno t h1 ?_ h3;apply Decidable.byContradiction;intro hge;have:=EB (show q<=t by omega) hq0;omega
end Go.Proofs.YtmnlgdpdgjbfgaaGreat
namespace Go.Proofs.YtmnlgdpdgjbfgaaGreat
open Go.Abs Go.RS
theorem LL(k:IntKind)(a b c a' b' c':Int):aZ [1,1,1] [.int k a,.int k b,.int k c] [.int k a',.int k b',.int k c']=some (decide (a=a')&&(decide (b=b')&&decide (c=c'))):=by
 have e:∀x y:Int,(x==y)=decide (x=y):=fun x y=>by rw[Bool.eq_iff_iff];simp
 simp[aZ,jw,e]
theorem lA(b:Bool):(if b=true then some true else some false)=some b:=by cases b<;>rfl
theorem kz(b:Bool):(if b=false then some true else some false)=some (!b):=by cases b<;>rfl
theorem ky{p:Prop}[Decidable p]:(if p then some false else some true)=some (!decide p):=by by_cases h:p<;>simp[h]
def fv(ch sz po:Int):Value:=.agg #[.int .i64 ch,.int .i64 sz,.int .i64 po]
def FD.ch(f:FD):Nat:=if f.poly=0 then f.q else 2
def fvf(f:FD):Value:=fv (FD.ch f) f.q f.poly
def OkF(ch sz po:Int)(f:FD):Prop:=f.Ok/\sz=f.q/\po=f.poly/\ch=FD.ch f
namespace XGb
def xtr:=zzi @Int.cast_ofNat_Int (zzi @LL (zzi @lA (zzi @kz @ky)))
end XGb
open XGb
set_option maxHeartbeats 1000000 in
theorem valid{lo:Nat}{H:Heap}{ch sz po:Int}(hb:po<=9223372036854775807):Ev cp lo 100 [fv ch sz po] H (fun v H'=>Ext H H'/\∃b,v=.bool b/\(b=true↔∃f,OkF ch sz po f)):=by
 unfold fv;refine stG rfl rfl ?_;unfold Iu;simp only[kB,aC];refine aL ?_;refine bQ ?_ ?_<;>intro h
 ·have hpo:po=0:=by simpa using h
  clear h;subst hpo;(try simp only[aC]);refine aW bJ lK bJ ?_ ?_<;>intro h
  ·have hc:2<sz/\sz<=4096/\ch=sz:=by simp at h;omega
   obtain⟨n,hn⟩:∃n:Nat,(n:Int)=sz:=⟨sz.toNat,byO⟩;refine⟨_,bJ,?_⟩;refine aB (by rw[<-hn];exact Pv (n:=n) byO) ?_;rintro v H1 ⟨rfl,b,rfl,hb⟩;clear h;refine aL ?_;refine bU ?_;refine⟨Ext.app _ _,b,?_,?_⟩
   ·have hT:((decide (2<sz)&&decide (sz<=4096))&&((decide (ch=sz)&&(decide (sz=sz)&&decide ((0:Int)=0))) != false))=true:=by simp;omega
    simp[aP,hc]
   ·rw[hb,IU byO]
    constructor
    ·intro hp
     exact⟨⟨n,0⟩,.inl ⟨rfl,by simp;omega,by simp;omega,hp⟩,by simp;omega,rfl,by simp[FD.ch];omega⟩
    ·rintro⟨f,hf,h1,h2,h3⟩
     rcases hf with ⟨e0,e1,e2,e3⟩|⟨e0,e1,_⟩
     ·have:f.q=n:=byO
      rw[<-this];exact e3
     ·exfalso;omega
  ·have hc:¬ (2<sz/\sz<=4096/\ch=sz):=by
    rintro⟨h1,h2,h3⟩;simp[h1,h2,h3]at h
   refine aL ?_;refine bU ?_;refine⟨Ext.app _ _,false,rfl,?_⟩;simp only[ah₀,false_iff];rintro⟨f,hf,h1,h2,h3⟩;apply hc;rcases hf with ⟨e0,e1,e2,e3⟩|⟨e0,e1,_⟩
   ·unfold FD.ch at h3;rw[if_pos e0]at h3;omega
   ·omega
 have hpo:¬ po=0:=by simpa using h
 clear h;(try simp only[aC]);by_cases hp2:po<2
 ·refine aW bJ lK bJ (fun h=>by simp[hp2]at h) (fun h=>?_)
  clear h;(try simp only[aC]);refine bQ ?_ ?_<;>intro h
  ·clear h
   refine aL ?_;refine bU ?_;refine⟨Ext.app _ _,false,rfl,?_⟩;simp only[ah₀,false_iff];rintro⟨f,hf,h1,h2,h3⟩;rcases hf with ⟨e0,e1,e2,e3⟩|⟨e0,e1,_⟩
   ·omega
   ·omega
  ·simp at h
 obtain⟨p,hp⟩:∃p:Nat,(p:Int)=po:=⟨po.toNat,byO⟩;have hlp:=je (n:=p) byO;have hlp2:=gq (show p<2^63 by omega);have hlp':eW p<=p.log2+1/\p.log2+1<=eW p:=byO;have hl1:=ua (p:=p) byO;clear hlp;refine aW bJ lK bJ (fun h=>⟨_,bJ,?_⟩) (fun h=>by simp[hp2]at h);clear h;refine aB (by rw[<-hp];exact degree (n:=p) byO) ?_;rintro v H1 ⟨rfl,rfl⟩;(try simp only[aC]);refine bQ ?_ ?_<;>intro h
 ·have hc:12<p.log2:=by simp at h;omega
  clear h;refine aL ?_;refine bU ?_;refine⟨Ext.app _ _,false,rfl,?_⟩;simp only[ah₀,false_iff];rintro⟨f,hf,h1,h2,h3⟩;rcases hf with ⟨e0,e1,e2,e3⟩|⟨e0,e1,e2,_⟩
  ·omega
  ·have:f.poly=p:=byO
   rw[this]at e2;omega
 have hc:p.log2<=12:=by simp at h;omega
 clear h;(try simp only[aC]);refine bY ?_;refine cU (by rw[<-hp];exact degree (n:=p) byO) ?_;rintro v H2 ⟨rfl,rfl⟩;have e1:(((eW p:Nat):Int)-1).toNat=p.log2:=byO;have e2:=vM (a:=1) (k:=p.log2) (by
  have:2^p.log2<=2^12:=Nat.pow_le_pow_right byO hc;omega) byO
 have e3:IntKind.i64.wrap (1*2^min p.log2 IntKind.i64.bits)=((2^p.log2:Nat):Int):=by
  rw[show(1:Int)=((1:Nat):Int) from rfl,e2,Nat.shiftLeft_eq,Nat.one_mul]
 have hpw:2^p.log2<=2^12:=Nat.pow_le_pow_right byO hc;have hpb:p<2^13:=bc₀ (dI p) (Nat.pow_le_pow_right byO byO);generalize hQ:2^p.log2=Q at *;(try simp only[aC]);refine aW bJ lK bJ ?_ ?_<;>intro h
 ·have hcc:ch=2/\sz=(Q:Int):=by simp at h;omega
  refine⟨_,bJ,?_⟩;refine aB (by rw[<-hp];exact irreducible (p:=p) byO byO) ?_;rintro v H3 ⟨rfl,b,rfl,hbb⟩;refine aL ?_;refine bU ?_;refine⟨Ext.app _ _,b,by simp[aP],?_⟩;rw[hbb];constructor
  ·intro hi
   exact⟨⟨Q,p⟩,.inr ⟨by simp;omega,by simp;omega,hc,hQ.symm,hi⟩,by simp;omega,by simp;omega,by show ch=((if p=0 then Q else 2:Nat):Int);rw[if_neg byO];omega⟩
  ·rintro⟨f,hf,h1,h2,h3⟩
   rcases hf with ⟨e0,_⟩|⟨_,_,_,_,hi⟩
   ·omega
   ·have:f.poly=p:=byO
    rw[<-this];exact hi
 ·have hcc:¬ (ch=2/\sz=(Q:Int)):=by
   rintro⟨h1,h2⟩;simp[h1,h2,hp]at h
  refine aL ?_;refine bU ?_;refine⟨Ext.app _ _,false,by simp[aP],?_⟩;simp only[ah₀,false_iff];rintro⟨f,hf,h1,h2,h3⟩;apply hcc;rcases hf with ⟨e0,_⟩|⟨e0,_,_,e4,_⟩
  ·omega
  ·have:f.poly=p:=byO
   rw[this,hQ]at e4;unfold FD.ch at h3;rw[if_neg e0]at h3;omega
end Go.Proofs.YtmnlgdpdgjbfgaaGreat
namespace Go.Proofs.YtmnlgdpdgjbfgaaGreat
open Go.Abs Go.RS
theorem ft{p:Int->Bool}{l:List Int}{i:Nat}(h:i<l.length):(l.take (i+1)).all p=((l.take i).all p&&p (l.getD i 0)):=by
 rw[List.take_add_one,bb₀ h,List.all_append,au₀,bb₀ h];simp
def inF(sz:Int)(l:List Int):Bool:=l.all fun x=>!(decide (x<0) || decide (sz<=x))
theorem jF{sz:Int}{l:List Int}:inF sz l=true↔∀x ∈ l,0<=x/\x<sz:=by
 unfold inF;rw[List.all_eq_true];constructor
 ·intro h x hx
  have:=h x hx;simp at this;omega
 ·intro h x hx
  have:=h x hx;simp;omega
namespace XGc
def xtr:=zzi @Int.cast_ofNat_Int (zzi @LL (zzi @lA (zzi @kz (zzi @ky @fv.eq_1))))
end XGc
open XGc
theorem has{lo:Nat}{H:Heap}{ch sz po:Int}{v:Value}{l:List Int}(hb:po<=9223372036854775807)(hl:SlI H v l)(hll:l.length<=1000000000):Ev cp lo 108 [fv ch sz po,v] H (fun v H'=>Ext H H'/\∃b,v=.bool b/\(b=true↔(∃f,OkF ch sz po f)/\inF sz l=true)):=by
 have hl0:=hl;obtain⟨ad,c,rfl⟩:=hl.len;unfold fv;refine stG rfl rfl ?_;unfold JB;simp only[kB,aC];refine aL ?_;refine bY ?_;refine aB (valid (ch:=ch) (sz:=sz) (po:=po) hb) ?_;rintro v H1 ⟨hx1,b,rfl,hbv⟩;have g0:H1.get H.length=some _:=hx1.get bJ;have hx1:=hx1.of_app;have hl1:=Heap.get_lt g0;(try simp only[aC]);refine bQ ?_ ?_<;>intro h
 ·have hbf:b=false:=by simpa using h
  clear h;subst hbf;refine aL ?_;refine bU ?_;exact⟨hx1,false,rfl,by simp at hbv ⊢;intro f hf;exact absurd hf (hbv f)⟩
 have hbt:b=true:=by simpa using h
 clear h;subst hbt;have hv:=hbv.1 rfl;refine aL ?_;refine aa (fun i S H'=>H1=H'/\inF sz (l.take i)=true/\∃(z:Nat->Value),S=[z 0,z 1,.pointer (some ⟨H.length,0,none⟩),.bool false,z 4,z 5,.slice ad l.length c,.int .i64 (l.length:Nat),.int .i64 (i:Nat)]) l.length ?_ ?_ ?_ ?_
 ·exact⟨rfl,rfl,aJ rfl⟩
 ·rintro i S H' hi ⟨rfl,-,z,rfl⟩
  exact⟨_,bJ,by simp⟩
 ·rintro i S H' hi ⟨rfl,hin,z,rfl⟩
  obtain⟨b,o,sp,cap,xs,e,g,hat,hxl⟩:=hl0.els 0 byO;cases e;have g:=hx1.get g;have hati:=hat i hi;have hs:=ft (p:=fun x=>!(decide (x<0) || decide (sz<=x))) hi;clear hat;refine aL ?_;refine bQ ?_ ?_<;>intro h
  ·have hno:¬ inF sz l=true:=by
    intro hin2;have:=jF.1 hin2 (l.getD i 0) (by rw[au₀,bb₀ hi];exact List.getElem_mem hi);simp at h;simp at this;omega
   clear h hs;refine aL ?_;refine bU ?_;exact⟨hx1,false,rfl,by simp[hno]⟩
  ·have hin2:inF sz (l.take (i+1))=true:=by
    unfold inF at hin ⊢;rw[hs,hin,h];rfl
   clear h hs;refine aL ?_;exact⟨by trivial,hin2,aJ ncM⟩
 ·rintro S H' ⟨rfl,hin,z,rfl⟩
  rw[List.take_of_length_le (Nat.le_refl _)]at hin;refine aL ?_;refine bU ?_;exact⟨hx1,true,rfl,by simp only[true_iff];exact⟨hv,hin⟩⟩
theorem CY{b:Nat}(hb:b<2^63):IntKind.i64.wrap ((BitVec.ofInt IntKind.i64.bits (b:Int) &&& BitVec.ofInt IntKind.i64.bits 1).toNat:Int)=((b%2:Nat):Int):=by
 rw[show IntKind.i64.bits=64 from rfl,BitVec.toNat_and,BitVec.ofInt_natCast,show BitVec.ofInt 64 1=BitVec.ofNat 64 1 by rfl,BitVec.toNat_ofNat,BitVec.toNat_ofNat,Nat.mod_eq_of_lt byO];show IntKind.i64.wrap ((b &&& 1:Nat):Int)=_;rw[Nat.and_one_is_mod,lJ byO byO]
theorem LU(a b:Nat):cl a b=(if b%2=1 then a else 0) ^^^ cl (2*a) (b/2):=by
 have e:b=(b%2) ^^^ ((b/2) <<< 1):=by
  apply Nat.eq_of_testBit_eq;intro i;rw[Nat.testBit_xor,Nat.testBit_shiftLeft];cases i with
  | zero=>simp
  | succ i=>
   have:(b%2).testBit (i+1)=false:=Nat.testBit_lt_two_pow (by have:=Nat.mod_lt b (show 2>0 by omega);have:2^1<=2^(i+1):=Nat.pow_le_pow_right byO byO;omega);rw[this];simp[Nat.testBit_add_one]
 have e2:cl a ((b/2) <<< 1)=cl (2*a) (b/2):=by
  rw[<-iM,ef (b/2),<-j5,iM,Nat.shiftLeft_eq,Nat.mul_comm]
 conv=>lhs;rw[e]
 rw[jy,e2];congr 1;split
 ·rename_i h;rw[h,uM]
 ·rename_i h;rw[show b%2=0 by omega,fy]
theorem dbl{P a:Nat}(hP:2<=P)(ha:a<2^P.log2):rm (2*a) P=(if 2^P.log2<=2*a then 2*a ^^^ P else 2*a)/\(if 2^P.log2<=2*a then 2*a ^^^ P else 2*a)<2^P.log2:=by
 have hP0:P≠0:=byO;split
 ·rename_i h
  have hlt:2*a ^^^ P<2^P.log2:=by
   have hl:(2*a).log2=P.log2:=rJ h (by rw[Nat.pow_succ];omega);have h0:2*a≠0:=by have:0<2^P.log2:=Nat.pow_pos byO;omega
   have:=Es hP0 h0 byO;rw[hl,Nat.sub_self]at this;simpa using this
  refine⟨tk hP0 hlt (m:=1) ?_,hlt⟩;rw[uM,Nat.xor_comm,Nat.xor_assoc,Nat.xor_self,Nat.xor_zero]
 ·rename_i h
  exact⟨jJ hP0 byO,byO⟩
theorem product{lo:Nat}{H:Heap}{f:FD}(hf:f.Ok){a b:Nat}(ha:a<f.q)(hb:b<f.q):Ev cp lo 162 [fvf f,.int .i64 a,.int .i64 b] H (fun v H'=>Ext H H'/\v=.int .i64 (eL f a b:Nat)):=by
 have h2:=hf.two;unfold fvf fv;refine stG rfl rfl ?_;unfold JY;simp only[kB,aC];refine aL ?_;refine bQ ?_ ?_<;>intro h
 ·have hp:f.poly=0:=by simp at h;omega
  clear h;have hm:=EP (a:=(a:Int)) (b:=(b:Int)) (A:=4096) (B:=4096) byO byO byO byO byO;have hmod:((a:Int)*(b:Int)).tmod (f.q:Int)=((a*b%f.q:Nat):Int):=by
   rw[<-Int.natCast_mul,Int.tmod_eq_emod_of_nonneg byO];rfl
  refine aL ?_;refine bU ?_;refine⟨Ext.app _ _,?_⟩;unfold eL;rw[if_pos hp];rfl
 have hp:f.poly≠0:=by simp at h;omega
 clear h;rcases hf with ⟨e,_⟩|⟨_,hP,hP12,hq,hi⟩
 ·exact absurd e hp
 replace hq:=hq.symm;have hpb:f.poly<2^13:=bc₀ (dI f.poly) (Nat.pow_le_pow_right byO byO);have hfm:eL f a b=rm (cl a b) f.poly:=by unfold eL;rw[if_neg hp]
 rw[hfm];clear hfm;generalize hG:H++[some [Value.int .i64 (FD.ch f:Nat),Value.int .i64 (f.q:Nat),Value.int .i64 (f.poly:Nat)]]=G at *;have g0:G.get H.length=some [Value.int .i64 (FD.ch f:Nat),Value.int .i64 (f.q:Nat),Value.int .i64 (f.poly:Nat)]:=by rw[<-hG];exact aG
 have hxG:Ext H G:=by rw[<-hG];exact Ext.app _ _
 clear hG;refine aL ?_;refine bH (fun m S H'=>∃(x y s:Nat) (z0:Value),x<f.q/\y<f.q/\s<f.q/\m=y/\G=H'/\s ^^^ rm (cl x y) f.poly=rm (cl a b) f.poly/\S=[z0,.int .i64 (x:Nat),.int .i64 (y:Nat),.pointer (some ⟨H.length,0,none⟩),.int .i64 0,.int .i64 (s:Nat)]) b ?_ ?_
 ·exact⟨a,b,0,_,ha,hb,byO,rfl,rfl,by rw[Nat.zero_xor],rfl⟩
 rintro m S H' ⟨x,y,s,z0,hx,hy,hs,rfl,rfl,hinv,rfl⟩;(try simp only[aC]);refine bQ ?_ ?_<;>intro h
 ·have hm0:0<m:=by simpa using h
  clear h;have a1:=CY (b:=m) byO;have a2:=qD m 1 .i64 (by decide);have a3:=vM (a:=x) (k:=1) byO byO;have a4:=oM (a:=s) (b:=x) byO byO;have a5:=oM (a:=x <<< 1) (b:=f.poly) (by rw[Nat.shiftLeft_eq];omega) byO;have e1:x <<< 1=2*x:=by rw[Nat.shiftLeft_eq];omega
  rw[e1]at a3 a5;have hd:=dbl hP (a:=x) (by rw[hq];exact hx);rw[hq]at hd;have hc2:=LU x m;have i1:(Int.toNat 1)=1:=rfl;have hsx:s ^^^ x<f.q:=by rw[<-hq];exact Nat.xor_lt_two_pow (by rw[hq];exact hs) (by rw[hq];exact hx)
  clear e1;(try simp only[aC]);refine iI (fun S' H'=>G=H'/\∃(z0:Value),S'=[z0,.int .i64 (x:Nat),.int .i64 (m:Nat),.pointer (some ⟨H.length,0,none⟩),.int .i64 0,.int .i64 ((if m%2=1 then s ^^^ x else s:Nat):Int)]) ?_ ?_
  ·refine bQ ?_ ?_<;>intro h
   ·have ho:m%2=1:=by simp at h;omega
    clear h;refine aL ?_;exact⟨by trivial,_,by rw[if_pos ho]⟩
   ·have ho:¬ m%2=1:=by simp at h;omega
    clear h;(try simp only[aC]);exact⟨by trivial,_,by rw[if_neg ho]⟩
  rintro S' H' ⟨rfl,z0,rfl⟩;generalize hsE:(if m%2=1 then s ^^^ x else s:Nat)=s';have hs':s'<f.q:=by rw[<-hsE];split<;>assumption
  refine aL ?_;refine eS (fun S' H'=>G=H'/\∃(z0:Value),S'=[z0,.int .i64 ((if f.q<=2*x then 2*x ^^^ f.poly else 2*x:Nat):Int),.int .i64 (m:Nat),.pointer (some ⟨H.length,0,none⟩),.int .i64 0,.int .i64 (s':Nat)]) ?_ ?_
  ·refine bQ ?_ ?_<;>intro h
   ·have ho:f.q<=2*x:=by simp at h;omega
    clear h;refine aL ?_;exact⟨by trivial,_,by rw[if_pos ho]⟩
   ·have ho:¬ f.q<=2*x:=by simp at h;omega
    clear h;(try simp only[aC]);exact⟨by trivial,_,by rw[if_neg ho]⟩
  rintro S' H' ⟨rfl,z0,rfl⟩;obtain⟨hd1,hd2⟩:=hd;generalize (if f.q<=2*x then 2*x ^^^ f.poly else 2*x:Nat)=x' at *;refine aL ?_;simp only[cN];refine⟨m/2,byO,x',m/2,s',_,hd2,byO,hs',rfl,by trivial,?_,by first|rfl|(simp only[i1,a2];rfl)⟩;rw[<-hinv,hc2,FB hp,<-vF hp (2*x),hd1,<-hsE];split
  ·rw[jJ (r:=x) hp (by rw[hq];exact hx),Nat.xor_assoc]
  ·rw[jJ (r:=0) hp (Nat.pow_pos byO),Nat.zero_xor]
 ·have hm0:m=0:=by simp at h;omega
  clear h;rw[hm0,fy,jJ hp (Nat.pow_pos byO),Nat.xor_zero]at hinv;refine aL ?_;refine bU ?_;exact⟨hxG,by rw[<-hinv];rfl⟩
end Go.Proofs.YtmnlgdpdgjbfgaaGreat
