/- Lemmas. -/
import Derived.Test.YtmnlgdpdgjbfgaaGreatE10
import Derived.Test.YtmnlgdpdgjbfgaaGreatE17
set_option linter.unusedVariables false
set_option linter.unusedSimpArgs false
set_option linter.unusedSectionVars false
namespace Go.Proofs.YtmnlgdpdgjbfgaaGreat
open Go.Abs Go.RS
set_option maxRecDepth 20000
section
variable {lo:Nat}{H:Heap}{ch sz po r b:Int}
theorem UE(hlo:lo≤H.length)(hb:po≤9223372036854775807):Ev cp lo 57 [fv ch sz po,.int .i64 r,.int .i64 b] H (fun v H'=>Ext H H'∧((¬ ∃f,OkF ch sz po f)→v=.tuple #[cdI 0 0 0 0 0,.int .i64 1])∧((∃f,OkF ch sz po f)→¬ nL ch sz po r b→v=.tuple #[cdI 0 0 0 0 0,.int .i64 3])∧(nL ch sz po r b→v=.tuple #[cdI ch sz po r b,.int .i64 0])):=by
 unfold fv
 refine TZ ?_;unfold M8 Gt;simp only[kB,aA]
 repeat' ((first|refine br ?_|refine bq rfl ?_);(try simp only[aA]))
 refine eX ?_
 refine aC (valid (ch:=ch) (sz:=sz) (po:=po) hb) ?_
 rintro v H1 ⟨hx1,t1,rfl,ht1⟩
 have g0:H1.get H.length=some _:=hx1.get (fi)
 have g1:H1.get (H.length+1)=some _:=hx1.get (fi)
 have hx1:=hx1.of_app
 have hl1:=Heap.get_lt g1
 cases t1 with
 | false=>
  have hno:¬ ∃f,OkF ch sz po f:=fun h=>by have:=ht1.2 h;cases this
  (try simp only[aA])
  refine iB (fun h=>?_) (fun h=>?_)
  case refine_2=>cases h
  clear h
  (try simp only[aA])
  repeat' ((first|refine br ?_|refine bq rfl ?_);(try simp only[aA]))
  refine kY ?_
  exact⟨hx1.set (by omega),fun _=>rfl,fun h=>absurd h hno,fun h=>absurd h.1 hno⟩
 | true=>
  have hf:=ht1.1 rfl
  have hsz:=tG hf
  (try simp only[aA])
  refine iB (fun h=>?_) (fun h=>?_)
  ·cases h
  clear h
  (try simp only[aA])
  refine eX ?_
  refine aC (fits (ch:=ch) (sz:=sz) (po:=po) (r:=r) (b:=b) (by omega) (by omega)) ?_
  rintro v H2 ⟨hx2,rfl⟩
  have g0:=(hx2).get g0;have g1:=(hx2).get g1
  have hx2:=hx1.trans hx2
  have hl2:=Heap.get_lt g1
  generalize ht2:(((decide (1≤r)&&decide (r≤sz-2))&&decide (0≤b))&&decide (b≤sz-2))=t2
  have ht2':t2=true↔1≤r∧r≤sz-2∧0≤b∧b≤sz-2:=by
   rw[←ht2];simp only[Bool.and_eq_true,decide_eq_true_eq];omega
  clear ht2
  cases t2 with
  | false=>
   have hno:¬ nL ch sz po r b:=fun h=>by have:=ht2'.2 h.2;cases this
   (try simp only[aA])
   refine iB (fun h=>?_) (fun h=>?_)
   case refine_2=>cases h
   clear h
   (try simp only[aA])
   repeat' ((first|refine br ?_|refine bq rfl ?_);(try simp only[aA]))
   refine kY ?_
   exact⟨hx2.set (by omega),fun h=>absurd hf h,fun _ _=>rfl,fun h=>absurd h hno⟩
  | true=>
   have hok:nL ch sz po r b:=⟨hf,ht2'.1 rfl⟩
   (try simp only[aA])
   refine iB (fun h=>?_) (fun h=>?_)
   ·cases h
   clear h
   (try simp only[aA])
   repeat' ((first|refine br ?_|refine bq rfl ?_);(try simp only[aA]))
   refine kY ?_
   exact⟨hx2.set (by omega),fun h=>absurd hf h,fun _ h=>absurd hok h,fun _=>rfl⟩
end
end Go.Proofs.YtmnlgdpdgjbfgaaGreat
namespace Go.RS
def clB:Nat→Nat→Nat→Nat
 | 0,_,_=>0
 | k+1,a,b=>clB k a b ^^^ (if b.testBit k then a <<< k else 0)
theorem Dw(b k:Nat):b%2^(k+1)=b%2^k ^^^ (if b.testBit k then 2^k else 0):=by
 refine Nat.eq_of_testBit_eq fun i=>?_
 rw[Nat.testBit_mod_two_pow,Nat.testBit_xor,Nat.testBit_mod_two_pow]
 by_cases h1:i<k
 ·have:(if b.testBit k=true then 2^k else 0).testBit i=false:=by
   split
   ·rw[Nat.testBit_two_pow];simp;omega
   ·exact Nat.zero_testBit i
  rw[this];simp[h1,Nat.lt_succ_of_lt h1]
 ·by_cases h2:i=k
  ·subst h2
   cases hb:b.testBit i<;>simp
  ·have:(if b.testBit k=true then 2^k else 0).testBit i=false:=by
    split
    ·rw[Nat.testBit_two_pow];simp;omega
    ·exact Nat.zero_testBit i
   rw[this]
   have:¬ i<k+1:=by omega
   simp[h1,this]
theorem CM(a b:Nat):∀k,cl a (b%2^k)=clB k a b
 | 0=>by rw[Nat.pow_zero,Nat.mod_one,fP];rfl
 | k+1=>by
  have h:cl a (if b.testBit k=true then 2^k else 0)=if b.testBit k=true then a <<< k else 0:=by
   split
   ·exact fe a k
   ·exact fP a
  rw[Dw,jB,CM a b k,h];rfl
theorem Fc{a b n:Nat}(ha:a<2^n):∀k,clB k a b<2^(n+k)
 | 0=>Nat.two_pow_pos _
 | k+1=>by
  show clB k a b ^^^ (if b.testBit k then a <<< k else 0)<_
  refine Nat.xor_lt_two_pow (Nat.lt_of_lt_of_le (Fc ha k) (Nat.pow_le_pow_right (by omega) (by omega))) ?_
  split
  ·rw[Nat.shiftLeft_eq,show n+(k+1)=(n+1)+k by omega,Nat.pow_add]
   exact Nat.mul_lt_mul_of_pos_right (Nat.lt_of_lt_of_le ha (Nat.pow_le_pow_right (by omega) (by omega))) (Nat.two_pow_pos _)
  ·exact Nat.two_pow_pos _
def rdG(q d:Nat):Nat→Nat→Nat
 | 0,p=>p
 | k+1,p=>rdG q d k (if p.testBit (d+k) then p ^^^ (q <<< k) else p)
theorem Df{q d:Nat}(hq:q≠0):∀(k p:Nat),rm (rdG q d k p) q=rm p q
 | 0,_=>rfl
 | k+1,p=>by
  show rm (rdG q d k _) q=_
  rw[Df hq k]
  split
  ·rw[←fe,uL hq]
  ·rfl
theorem Ie{p r n:Nat}(hp:p<2^(n+1))(hr:r<2^(n+1))(h1:p.testBit n=true)(h2:r.testBit n=true):p ^^^ r<2^n:=by
 refine Nat.lt_pow_two_of_testBit _ fun i hi=>?_
 rw[Nat.testBit_xor]
 by_cases e:i=n
 ·rw[e,h1,h2];rfl
 ·rw[Nat.testBit_lt_two_pow (Nat.lt_of_lt_of_le hp (Nat.pow_le_pow_right (by omega) (by omega))),Nat.testBit_lt_two_pow (Nat.lt_of_lt_of_le hr (Nat.pow_le_pow_right (by omega) (by omega)))];rfl
theorem Fj{p n:Nat}(hp:p<2^(n+1))(h1:¬ p.testBit n=true):p<2^n:=by
 refine Nat.lt_pow_two_of_testBit _ fun i hi=>?_
 by_cases e:i=n
 ·rw[e];simpa using h1
 ·exact Nat.testBit_lt_two_pow (Nat.lt_of_lt_of_le hp (Nat.pow_le_pow_right (by omega) (by omega)))
theorem Eb{q d:Nat}(hq:q≠0)(hd:q.log2=d):∀(k p:Nat),p<2^(d+k)→rdG q d k p<2^d
 | 0,p,h=>h
 | k+1,p,h=>by
  show rdG q d k _<_
  refine Eb hq hd k _ ?_
  split
  ·rename_i hb
   refine Ie h ?_ hb ?_
   ·have h1:=cV q
    rw[hd]at h1
    rw[Nat.shiftLeft_eq,show d+k+1=(d+1)+k by omega,Nat.pow_add]
    exact Nat.mul_lt_mul_of_pos_right h1 (Nat.two_pow_pos _)
   ·have h1:=ij hq
    rw[hd]at h1
    rw[Nat.testBit_shiftLeft]
    simp[h1]
  ·rename_i hb
   exact Fj h hb
theorem F3{q d k p:Nat}(hq:q≠0)(hd:q.log2=d)(hp:p<2^(d+k)):rm p q=rdG q d k p:=by
 rw[←Df (d:=d) hq k p]
 exact gV hq (by rw[hd];exact Eb hq hd k p hp)
def yT(q a b:Nat):Nat:=rdG q 8 8 (clB 8 a b)
theorem Hw{q a b:Nat}(hq:q≠0)(hd:q.log2=8)(ha:a<256)(hb:b<256):dw ⟨256,q⟩ a b=yT q a b:=by
 unfold dw
 rw[if_neg hq]
 have h1:cl a b=clB 8 a b:=by
  have:=CM a b 8
  rwa [Nat.mod_eq_of_lt hb]at this
 show rm (cl a b) q=_
 rw[h1,F3 hq hd (k:=8) (Fc (n:=8) ha 8)]
 rfl
def PS(q:Nat):Bool:=(List.range 32).all fun t=>decide (t<2) || decide (rdG t t.log2 9 q≠0)
theorem Ld{q:Nat}(hd:q.log2=8)(hq:q<512)(h:PS q=true):Irr q:=by
 intro t ht hl
 rintro⟨m,hm⟩
 have ht0:t≠0:=by omega
 have hlt:t<32:=by
  have:=cV t
  have h5:2^(t.log2+1)≤2^5:=Nat.pow_le_pow_right (by omega) (by omega)
  omega
 have h2:=List.all_eq_true.1 h t (List.mem_range.2 hlt)
 simp only[Bool.or_eq_true,decide_eq_true_eq]at h2
 have h3:rdG t t.log2 9 q≠0:=h2.resolve_left (by omega)
 apply h3
 rw[←F3 ht0 rfl (k:=9) (Nat.lt_of_lt_of_le hq (Nat.pow_le_pow_right (n:=2) (by omega) (by omega:9≤t.log2+9)))]
 exact ri ht0 (m:=m) (Nat.two_pow_pos _) (by rw[hm,Nat.xor_zero])
structure BF (q:Nat):Prop where
 lg:q.log2=8
 lt:q<512
 ne:q≠0
 two:2≤q
 irr:PS q=true
def fB(q:Nat):FD:=⟨256,q⟩
theorem BF.ok{q:Nat}(h:BF q):(fB q).Ok:=.inr ⟨h.ne,h.two,by show q.log2≤12;have:=h.lg;omega,by show 256=2^q.log2;rw[h.lg],Ld h.lg h.lt h.irr⟩
def eB(q n:Nat):El (fB q):=⟨n%256,Nat.mod_lt _ (by decide)⟩
section
variable {q:Nat}[h:OkC (fB q)]
theorem wJ(hb:BF q)(x y:El (fB q)):(x*y).val=yT q x.val y.val:=by
 rw[val_mul];exact Hw hb.ne hb.lg x.lt y.lt
theorem D6(hb:BF q)(x y:El (fB q)):(x+y).val=x.val ^^^ y.val:=by
 rw[val_add]
 unfold eJ
 rw[if_neg (show(fB q).poly≠0 from hb.ne)]
def pwB(q x:Nat):Nat→Nat
 | 0=>1
 | n+1=>yT q (pwB q x n) x
theorem pK(hb:BF q)(x:El (fB q)):∀n,(pw x n).val=pwB q x.val n
 | 0=>rfl
 | n+1=>by rw[dq,wJ hb,pK hb x n];rfl
def hvB(q:Nat)(l:List Nat)(x:Nat):Nat:=l.foldl (fun v c=>yT q v x ^^^ c) 0
theorem wy(hb:BF q)(x:El (fB q)):∀(l:List (El (fB q))) (v:El (fB q)),(l.foldl (fun v c=>v*x+c) v).val=(l.map El.val).foldl (fun v c=>yT q v x.val ^^^ c) v.val
 | [],v=>rfl
 | c::l,v=>by
  rw[List.foldl_cons,wy hb x l,List.map_cons,List.foldl_cons,D6 hb,wJ hb]
theorem IP(hb:BF q)(x:El (fB q))(l:List (El (fB q))):(cZ l x).val=hvB q (l.map El.val) x.val:=wy hb x l 0
def uO(q:Nat):Nat→List Nat→Bool
 | _,[]=>true
 | v,w::l=>Nat.beq (yT q v 2) w&&uO q w l
theorem uZ(q:Nat):∀(l:List Nat) (v n:Nat),pwB q 2 n=v→uO q v l=true→∀i,i<l.length→pwB q 2 (n+1+i)=l.getD i 0
 | [],_,_,_,_,i,hi=>by simp at hi
 | w::l,v,n,hv,h,i,hi=>by
  unfold uO at h
  simp only[Bool.and_eq_true]at h
  have h1:pwB q 2 (n+1)=w:=by
   show yT q (pwB q 2 n) 2=w
   rw[hv];exact Nat.eq_of_beq_eq_true h.1
  match i with
  | 0=>exact h1
  | i+1=>
   have:=uZ q l w (n+1) h1 h.2 i (by simpa using hi)
   rw[show n+1+(i+1)=n+1+1+i by omega,this]
   rfl
def Kb(q:Nat)(l:List Nat):Bool:=uO q 1 l&&(decide (l.length=255)&&(decide (l.getD 254 0=1)&&(l.take 254).all fun x=>!Nat.beq x 1))
theorem HQ(hb:BF q){l:List Nat}(hg:Kb q l=true):Ord (eB q 2) 255:=by
 unfold Kb at hg
 simp only[Bool.and_eq_true,decide_eq_true_eq]at hg
 obtain⟨h1,h2,h3,h4⟩:=hg
 have hc:=uZ q l 1 0 rfl h1
 refine⟨by decide,El.ext ?_,fun m h5 h6 e=>?_⟩
 ·rw[pK hb]
  have:=hc 254 (by omega)
  rw[h3]at this
  exact this
 ·have h7:=hc (m-1) (by omega)
  rw[show 0+1+(m-1)=m by omega]at h7
  have h8:pwB q 2 m=1:=by
   have:=pK hb (eB q 2) m
   rw[e]at this
   exact this.symm
  have hm:l.getD (m-1) 0 ∈ l.take 254:=by
   rw[List.getD_eq_getElem?_getD,List.getElem?_eq_getElem (by omega:m-1<l.length)]
   show l[m-1] ∈ _
   rw[List.mem_take_iff_getElem]
   exact⟨m-1,by omega,rfl⟩
  have h9:=List.all_eq_true.1 h4 _ hm
  rw[←h7,h8]at h9
  exact absurd h9 (by decide)
theorem wX:¬ Ord (eB q 1) 255:=fun h=>by
 have:eB q 1=1:=El.ext rfl
 rw[this]at h
 exact h.2.2 1 (by decide) (by decide) (by rw[mP])
def cwB(q:Nat)(l:List Nat)(r b:Nat):Bool:=(List.range r).all fun i=>decide (hvB q l (pwB q 2 (b+i))=0)
theorem ET(hb:BF q){l:List (El (fB q))}{r b:Nat}(h:cwB q (l.map El.val) r b=true):kL (eB q 2) r b l:=by
 intro k hk
 have:=List.all_eq_true.1 h k (List.mem_range.2 hk)
 simp only[decide_eq_true_eq]at this
 refine El.ext ?_
 rw[IP hb,pK hb]
 exact this
end
theorem bf285:BF 285:=⟨by decide +kernel,by decide,by decide,by decide,by decide +kernel⟩
theorem bf301:BF 301:=⟨by decide +kernel,by decide,by decide,by decide,by decide +kernel⟩
def Kt:List Nat:=[2,4,8,16,32,64,128,45,90,180,69,138,57,114,228,229,231,227,235,251,219,155,27,54,108,216,157,23,46,92,184,93,186,89,178,73,146,9,18,36,72,144,13,26,52,104,208,141,55,110,220,149,7,14,28,56,112,224,237,247,195,171,123,246,193,175,115,230,225,239,243,203,187,91,182,65,130,41,82,164,101,202,185,95,190,81,162,105,210,137,63,126,252,213,135,35,70,140,53,106,212,133,39,78,156,21,42,84,168,125,250,217,159,19,38,76,152,29,58,116,232,253,215,131,43,86,172,117,234,249,223,147,11,22,44,88,176,77,154,25,50,100,200,189,87,174,113,226,233,255,211,139,59,118,236,245,199,163,107,214,129,47,94,188,85,170,121,242,201,191,83,166,97,194,169,127,254,209,143,51,102,204,181,71,142,49,98,196,165,103,206,177,79,158,17,34,68,136,61,122,244,197,167,99,198,161,111,222,145,15,30,60,120,240,205,183,67,134,33,66,132,37,74,148,5,10,20,40,80,160,109,218,153,31,62,124,248,221,151,3,6,12,24,48,96,192,173,119,238,241,207,179,75,150,1]
theorem KQ:Kb 301 Kt=true:=by decide +kernel
instance ok285:OkC (fB 285):=⟨bf285.ok⟩
instance ok301:OkC (fB 301):=⟨bf301.ok⟩
section
variable {K:Type}[Fd K]
theorem sn(X:K)(l:List K)(x:K):pv (aT (l++[X])) (l.length+1) x=pv (aT l) l.length x*(1-X*x):=by
 have:=kI (kq X) (dS l) x
 rw[qi,show 1+l.length=l.length+1 by omega]at this
 rw[eu,this,mul_comm]
def dnm(X:Nat→K)(P:List Nat)(p:Nat)(y:K)(j:Nat):K:=pv (aT (((P.take j).filter fun k=>decide (k≠p)).map X)) ((P.take j).filter fun k=>decide (k≠p)).length y
theorem Gs(X:Nat→K)(P:List Nat)(p:Nat)(y:K):dnm X P p y 0=1:=by
 unfold dnm
 rw[List.take_zero,List.filter_nil,List.map_nil,List.length_nil,aT,J9]
theorem kt{P:List Nat}{j:Nat}(hj:j<P.length):P.take (j+1)=P.take j++[P.getD j 0]:=by
 rw[List.take_add_one,List.getElem?_eq_getElem hj,List.getD_eq_getElem?_getD,List.getElem?_eq_getElem hj];rfl
theorem GZ{X:Nat→K}{P:List Nat}{p:Nat}{y:K}{j:Nat}(hj:j<P.length)(h:P.getD j 0=p):dnm X P p y (j+1)=dnm X P p y j:=by
 unfold dnm
 have e:(P.take (j+1)).filter (fun k=>decide (k≠p))=(P.take j).filter (fun k=>decide (k≠p)):=by
  rw[kt hj,List.filter_append,List.filter_cons_of_neg (by rw[h];simp),List.filter_nil,List.append_nil]
 rw[e]
theorem DG{X:Nat→K}{P:List Nat}{p:Nat}{y:K}{j:Nat}(hj:j<P.length)(h:P.getD j 0≠p):dnm X P p y (j+1)=dnm X P p y j*(1-X (P.getD j 0)*y):=by
 unfold dnm
 have e:(P.take (j+1)).filter (fun k=>decide (k≠p))=(P.take j).filter (fun k=>decide (k≠p))++[P.getD j 0]:=by
  rw[kt hj,List.filter_append,List.filter_cons_of_pos (by rw[decide_eq_true_eq];exact h),List.filter_nil]
 rw[e,List.map_append,List.length_append,List.map_cons,List.map_nil,List.length_cons,List.length_nil]
 have:=sn (X (P.getD j 0)) (((P.take j).filter fun k=>decide (k≠p)).map X) y
 rw[List.length_map]at this
 exact this
theorem xg{P:List Nat}(hP:P.Nodup){p:Nat}(hp:p ∈ P):(P.filter fun k=>decide (k≠p)).length=P.length-1:=by
 obtain⟨j,hj,rfl⟩:=List.getElem_of_mem hp
 have:=congrArg List.length (erase_filter (K:=Bool) hP hj (fun _=>true))
 rw[List.length_eraseIdx_of_lt (by simpa using hj),List.length_map,List.length_map]at this
 exact this.symm
theorem zt{X:Nat→K}{P:List Nat}(hP:P.Nodup){p:Nat}(hp:p ∈ P)(y:K):dnm X P p y P.length=pv (aT ((P.filter fun k=>decide (k≠p)).map X)) (P.length-1) y:=by
 unfold dnm
 rw[List.take_length,xg hP hp]
theorem Dv{X:Nat→K}{P:List Nat}(hP:P.Nodup){p:Nat}(hp:p ∈ P)(b r:Nat)(S:Ser K):nH X b r S P p=hor (tab r (cv S (aT (P.map X)))) (inv (X p))*inv (pw (X p) b*dnm X P p (inv (X p)) P.length):=by
 rw[zt hP hp];rfl
theorem Kr{X:Nat→K}{n b:Nat}(hX:Places X n){P:List Nat}(hP:P.Nodup)(hb:∀i ∈ P,i<n){p:Nat}(hp:p ∈ P):pw (X p) b*dnm X P p (inv (X p)) P.length≠0:=by
 rw[zt hP hp]
 exact mul_ne_zero (bL (hX.ne p (hb p hp)) b) (vQ hX hP hb hp).2
theorem DR(X:K):co [1,-X]=lin X:=by
 funext i
 match i with
 | 0=>rfl
 | 1=>rfl
 | i+2=>rfl
theorem Fh(l:List K):co (tab (l.length+1) (aT l))=aT l:=by
 funext i
 rw[bS]
 split
 ·rfl
 ·exact(dS l i (by omega)).symm
theorem Bh(l:List K)(X:K):cv (aT l) (lin X)=aT (l++[X]):=by rw[eu,cX]
end
end Go.RS
namespace Go.Proofs.YtmnlgdpdgjbfgaaGreat
open Go.Abs Go.RS
set_option linter.defProp false in
def BQ:=And.intro @Int.cast_ofNat_Int (And.intro @fv.eq_1 (And.intro @fvf.eq_1 (And.intro @ite_self.{1} (And.intro @iI (And.intro @iE (And.intro @iA (And.intro @cdC.eq_1 (And.intro @arC.eq_1 (And.intro @iL (And.intro @bM (And.intro @eI (And.intro @fJ (And.intro @yP @th)))))))))))))
theorem gu{P:Prop}(h:P:=by simp(disch:=first|omega|(simp only[aK];omega))only[evB,BQ,Nat.reduceAdd,Nat.reduceBEq, *];rfl):P:=h
theorem dD{cp:FuncId→Option CF}{lo:Nat}{l:List (Nat×E)}{chk:List E}{Q:aS}{S:List Value}{H:Heap}{vs:List (Nat×Value)}{S':List Value}(k:Q .normal S' H)(h:evSets S H l=some vs:=by exact gu)(hc:evChk S H chk=true:=by simp(disch:=first|omega|(simp only[aK];omega))only[evB,BQ,Nat.reduceAdd,Nat.reduceBEq, *])(hS:setAll S vs=S':=by exact gu):wpS cp lo (.sets l chk) Q S H:=cL h hc hS k
theorem iS{cp:FuncId→Option CF}{lo:Nat}{l:List (Nat×E)}{chk:List E}{Q:aS}{S:List Value}{H:Heap}{vs:List (Nat×Value)}{dst:Option Nat}{o:HOp}{a:E}{xs:List Value}(k:wpH cp lo o xs H fun v H'=>Q .normal (setD (setAll S vs) dst v) H')(h:evSets S H l=some vs:=by exact gu)(hc:evChk S H chk=true:=by simp(disch:=first|omega|(simp only[aK];omega))only[evB,BQ,Nat.reduceAdd,Nat.reduceBEq, *])(ha:ev S H a=some xs:=by exact gu):wpS cp lo (.hv l chk [] dst o a) Q S H:=eC h hc ha k
theorem dB{cp:FuncId→Option CF}{lo:Nat}{l:List (Nat×E)}{chk:List E}{Q:aS}{S:List Value}{H:Heap}{vs:List (Nat×Value)}{dst:Option Nat}{o:HOp}{a:E}{xs:List Value}{S':List Value}{H':Heap}{v:Value}(hcall:o.isCall=false)(k:Q .normal S' H')(h:evSets S H l=some vs:=by exact gu)(hc:evChk S H chk=true:=by simp(disch:=first|omega|(simp only[aK];omega))only[evB,BQ,Nat.reduceAdd,Nat.reduceBEq, *])(ha:ev S H a=some xs:=by exact gu)(ho:bG lo o xs H=some (v,H'):=by exact gu)(hS:setD (setAll S vs) dst v=S':=by exact gu):wpS cp lo (.hv l chk [] dst o a) Q S H:=eG hcall h hc ha ho hS k
theorem m9{cp:FuncId→Option CF}{lo:Nat}{c:E}{a b:Stm}{Q:aS}{S:List Value}{H:Heap}{t:Bool}(k1:t=true→wpS cp lo a Q S H)(k2:t=false→wpS cp lo b Q S H)(h:ev1 S H c=some (.bool t):=by exact gu):wpS cp lo (.cond c a b) Q S H:=cJ h k1 k2
theorem rE{cf:CF}{R:Value→Heap→Prop}{S:List Value}{H:Heap}{vs:List Value}(k:R (aJ vs) H)(h:evList S H cf.res=some vs:=by exact gu):aG cf R .ret S H:=bT h k
theorem MS{lo:Nat}{H:Heap}{ve:Value}{e:List Int}{n:Nat}(hlo:lo≤H.length)(hn:n≤100000000)(he:SlI H ve e)(hel:e.length≤100000000)(hin:inR n e) :
  Ev cp lo 73 [.int .i64 (n:Nat),ve] H (fun v H'=>Ext H H'∧∃b,H.length≤b∧v=.tuple #[.slice (some ⟨b,0,none⟩) n n,.int .i64 (sC (erI e) n:Nat)]∧H'.get b=some (erL n (erI e))):=by
 have he0:=he
 obtain⟨ae,ce,rfl⟩:=he.len
 refine UK ?_;unfold MQ F5;simp only[kB,aA]
 repeat' ((first|refine dD ?_|refine dB rfl ?_);(try simp only[aA]))
 have hbl:iO (List.replicate n false)=erL n (erI (e.take 0)):=by
  simp[iO,erL,erI,List.map_const']
 rw[hbl]
 generalize hG:H++_=G at *
 obtain⟨ge,hxG⟩:=aV hG
 clear hG hbl
 have hlb:=Heap.get_lt ge
 refine aU (fun i S H'=>Keep H.length G H'∧Heap.get H' H.length=some (erL n (erI (e.take i)))∧∃(z:Nat→Value),S=[z 0,.slice ae e.length ce,z 2,z 3,.slice (some ⟨H.length,0,none⟩) n n,.int .i64 (sC (erI (e.take i)) n:Nat),.int .i64 (i:Nat),z 7]) e.length ?_ ?_ ?_ ?_
 ·exact⟨cY (Ext.refl _),ge,aL (by rw[xn];rfl)⟩
 ·rintro i S H' hi ⟨-,-,z,rfl⟩
  exact⟨_,gu,by simp⟩
 ·clear ge
  rintro i S H6 hi ⟨k1,k2,z,rfl⟩
  have hx6:Ext H H6:=k1.ext hxG (Nat.le_refl _)
  obtain⟨yb,yo,ysp,yc,ys,ee,gy,hat,hyl⟩:=(he0.mono hx6).els 0 (by omega)
  cases ee
  have hati:=hat i hi
  have hm:e.getD i 0 ∈ e:=by rw[List.getD_eq_getElem?_getD,List.getElem?_eq_getElem hi];exact List.getElem_mem hi
  have hxr:=hin _ hm
  obtain⟨k,hk⟩:∃k:Nat,e.getD i 0=(k:Int):=⟨(e.getD i 0).toNat,by omega⟩
  have hsu:=uc hi hk
  have hkl:k<n:=by omega
  rw[hk]at hati
  clear hat hk hxr hm
  have hsl:=fS (erI (e.take i)) n
  have hl6:=Heap.get_lt k2
  have hse:=zw (erI (e.take i)) hkl
  rw[←hsu]at hse
  (try simp only[aA])
  repeat' ((first|refine dD ?_|refine dB rfl ?_);(try simp only[aA]))
  cases hek:erI (e.take i) k with
  | true=>
   rw[zH hek]at hsu
   rw[hsu]at hse ⊢
   clear hsu
   refine m9 (fun h=>?_) (fun h=>?_)
   ·cases h
   clear h hek
   (try simp only[aA])
   repeat' ((first|refine dD ?_|refine dB rfl ?_);(try simp only[aA]))
   exact⟨k1,k2,aL (by first|rfl|(simp only[Int.natCast_add,Int.natCast_one];rfl)|simp only[Int.natCast_add,Int.natCast_one])⟩
  | false=>
   have hca:=C6 hek n hkl
   rw[←hsu]at hca
   clear hsu
   refine m9 (fun h=>?_) (fun h=>?_)
   case refine_2=>cases h
   clear h hek
   generalize hq1:sC (erI (e.take (i+1))) n=q1 at *
   subst hca
   generalize sC (erI (e.take i)) n=q0 at *
   (try simp only[aA])
   repeat' ((first|refine dD ?_|refine dB rfl ?_);(try simp only[aA]))
   refine⟨fj k1 _,?_,aL (by first|rfl|(simp only[Int.natCast_add,Int.natCast_one];rfl)|simp only[Int.natCast_add,Int.natCast_one])⟩
   rw[aI (by omega)]
 ·rintro S H6 ⟨k1,k2,z,rfl⟩
  rw[List.take_length]at k2 ⊢
  have hx6:Ext H H6:=k1.ext hxG (Nat.le_refl _)
  (try simp only[aA])
  repeat' ((first|refine dD ?_|refine dB rfl ?_);(try simp only[aA]))
  refine rE ?_
  exact⟨hx6,_,Nat.le_refl _,rfl,k2⟩
section
variable {f:FD}[OkC f]
theorem I7{lo:Nat}{H:Heap}{g:El f}{n:Nat}(hlo:lo≤H.length)(hg:Gn (OkC.ok (f:=f)) g)(hn:n≤100000000) :
  Ev cp lo 123 [fvf f,.int .i64 (n:Nat)] H (fun v H'=>Ext H H'∧∃b,H.length≤b∧v=.slice (some ⟨b,0,none⟩) n n∧H'.get b=some (elL (tab n (plc g n)))):=by
 unfold fvf fv
 refine Nb ?_;unfold FM uX;simp only[kB,aA]
 repeat' ((first|refine dD ?_|refine dB rfl ?_);(try simp only[aA]))
 refine iS ?_
 refine aC (qd (f:=f) hg) ?_
 rintro v H1 ⟨hx1,rfl⟩
 have g0:H1.get H.length=some _:=hx1.get (gu)
 have hx1:=hx1.of_app
 have hl1:=Heap.get_lt g0
 (try simp only[aA])
 repeat' ((first|refine dD ?_|refine dB rfl ?_);(try simp only[aA]))
 have hz:elL (List.replicate n (0:El f))=elL (tab n (fun i=>if n-0≤i then plc g n i else 0)):=by
  rw[dK]
  refine congrArg elL (aP fun i hi=>?_)
  rw[if_neg (by omega)]
 rw[hz]
 generalize hG:H1++_=G at *
 obtain⟨gb,hxG⟩:=aV hG
 clear hG hz
 have g0:=(hxG).get g0
 have hx2:=hx1.trans hxG
 have hlb:=Heap.get_lt gb
 have hl2:=hxG.1
 refine aU (fun k S H'=>Keep H1.length G H'∧Heap.get H' H1.length=some (elL (tab n (fun i=>if n-k≤i then plc g n i else 0)))∧∃(z:Nat→Value),S=[z 0,z 1,.pointer (some ⟨H.length,0,none⟩),z 3,.int .i64 (g.val:Nat),.slice (some ⟨H1.length,0,none⟩) n n,.int .i64 ((pw g k).val:Nat),.int .i64 ((n:Int)-1-((k:Nat):Int)),z 8,z 9,z 10]) n ?_ ?_ ?_ ?_
 ·exact⟨cY (Ext.refl _),gb,aL (by rw[eK,Es,show((n:Int)-1-((0:Nat):Int))=(n:Int)-1 by omega];rfl)⟩
 ·rintro k S H' hi ⟨-,-,z,rfl⟩
  exact⟨_,gu,by simp;omega⟩
 ·clear gb
  rintro k S H2 hk ⟨k1,k2,z,rfl⟩
  have g0:=k1.get g0 (by omega)
  have hl3:=Heap.get_lt k2
  have hj:(n:Int)-1-(k:Int)=((n-1-k:Nat):Int):=by omega
  have hj2:(n:Int)-1-((k+1:Nat):Int)=((n-1-k:Nat):Int)-1:=by omega
  rw[hj,hj2]
  clear hj hj2
  have hset:(tab n (fun i=>if n-k≤i then plc g n i else 0)).set (n-1-k) (pw g k)=tab n (fun i=>if n-(k+1)≤i then plc g n i else 0):=by
   rw[eQ]
   refine aP fun i hi=>?_
   by_cases h1:i=n-1-k
   ·rw[if_pos h1,if_pos (by omega)]
    unfold plc
    rw[h1,show n-1-(n-1-k)=k by omega]
   ·rw[if_neg h1]
    by_cases h2:n-k≤i
    ·rw[if_pos h2,if_pos (by omega)]
    ·rw[if_neg h2,if_neg (by omega)]
  have htl:=aE n (fun i=>if n-k≤i then plc g n i else 0)
  generalize tab n (fun i=>if n-(k+1)≤i then plc g n i else 0)=T2 at *
  generalize tab n (fun i=>if n-k≤i then plc g n i else 0)=T1 at *
  (try simp only[aA])
  repeat' ((first|refine dD ?_|refine dB rfl ?_);(try simp only[aA]))
  generalize hG3:H2.set H1.length _=G3 at *
  have k3:Keep H1.length G G3:=by rw[←hG3];exact fj k1 _
  have gb3:Heap.get G3 H1.length=some (elL T2):=by rw[←hG3,aI (by omega)]
  have g0:=(show Heap.get G3 H.length=Heap.get H2 H.length by rw[←hG3,aM (by omega)]).trans g0
  clear hG3 hset
  refine iS ?_
  refine aC (fF (f:=f) (pw g k) g) ?_
  rintro v H4 ⟨hx4,rfl⟩
  rw[←dq]
  (try simp only[aA])
  repeat' ((first|refine dD ?_|refine dB rfl ?_);(try simp only[aA]))
  exact⟨cT k3 (cY hx4),hx4.get gb3,aL (by first|rfl|(simp only[Int.natCast_add,Int.natCast_one];rfl)|simp only[Int.natCast_add,Int.natCast_one])⟩
 ·rintro S H2 ⟨k1,k2,z,rfl⟩
  have hfin:tab n (fun i=>if n-n≤i then plc g n i else 0)=tab n (plc g n):=aP fun i hi=>by rw[if_pos (by omega)]
  rw[hfin]at k2
  (try simp only[aA])
  repeat' ((first|refine dD ?_|refine dB rfl ?_);(try simp only[aA]))
  refine rE ?_
  exact⟨k1.ext hx2 (by omega),_,by omega,rfl,k2⟩
end
section
variable {f:FD}[OkC f]
theorem yO{P:List Nat}{X:Nat→El f}{i:Nat}(hi:i<P.length):co (P.map X) i=X (P.getD i 0):=by
 unfold co
 rw[List.getD_eq_getElem?_getD,List.getElem?_map,List.getD_eq_getElem?_getD,List.getElem?_eq_getElem hi];rfl
theorem xE{P:List Nat}{i:Nat}(hi:i<P.length):P.getD i 0 ∈ P:=by
 rw[List.getD_eq_getElem?_getD,List.getElem?_eq_getElem hi];exact List.getElem_mem hi
theorem getD_inj{P:List Nat}(hP:P.Nodup){i j:Nat}(hi:i<P.length)(hj:j<P.length)(h:P.getD i 0=P.getD j 0):i=j:=by
 rw[List.getD_eq_getElem?_getD,List.getElem?_eq_getElem hi,List.getD_eq_getElem?_getD,List.getElem?_eq_getElem hj]at h
 have hw:=List.pairwise_iff_getElem.1 hP
 rcases Nat.lt_trichotomy i j with h1|h1|h1
 ·exact absurd h (hw i j hi hj h1)
 ·exact h1
 ·exact absurd h.symm (hw j i hj hi h1)
theorem rn(P:List Nat)(X:Nat→El f){i:Nat}(hi:i≤P.length):co (tab (i+1) (aT ((P.take i).map X)))=aT ((P.take i).map X):=by
 have:=Fh ((P.take i).map X)
 rw[List.length_map,List.length_take,Nat.min_eq_left hi]at this
 exact this
set_option maxHeartbeats 4000000 in
theorem LK{lo:Nat}{H:Heap}{X:Nat→El f}{n b:Nat}{P:List Nat}{s:List (El f)}{vs vx:Value}(hlo:lo≤H.length)(hs:SlE H vs s)(hsl:s.length≤10000000)(hX:Places X n)(hP:P.Nodup)(hb:∀i ∈ P,i<n)(hx:SlE H vx (P.map X))(hpl:P.length≤10000000)(hbb:b≤10000000) :
  Ev cp lo 127 [fvf f,vs,vx,.int .i64 (b:Nat)] H (fun v H'=>Ext H H'∧SlE H' v (P.map (nH X b s.length (co s) P))∧NewV H.length v):=by
 have hs0:=hs
 have hx0:=hx
 have hml:(P.map X).length=P.length:=List.length_map _
 obtain⟨sa,cs,rfl⟩:=hs.len
 obtain⟨ax,cx,rfl⟩:=hx.len
 rw[hml]at hx0 ⊢
 unfold fvf fv
 refine PI ?_;unfold CR xH;simp only[kB,aA]
 repeat' ((first|refine dD ?_|refine dB rfl ?_);(try simp only[aA]))
 generalize hG:H++_=G at *
 obtain⟨g0,hxG⟩:=aV hG
 have g1:G.get (H.length+1)=some (elL (tab (0+1) (aT ((P.take 0).map X)))):=by rw[←hG,az];rfl
 clear hG
 have hl0:=hxG.1
 have hs1:=hs0.mono hxG
 have hx1:=hx0.mono hxG
 refine aU (fun i S H'=>Ext G H'∧∃bb,H'.get bb=some (elL (tab (i+1) (aT ((P.take i).map X))))∧∃(z:Nat→Value),S=[z 0,.slice sa s.length cs,.slice ax P.length cx,.int .i64 (b:Nat),.pointer (some ⟨H.length,0,none⟩),z 5,.slice (some ⟨bb,0,none⟩) (i+1) (i+1),.int .i64 (i:Nat),z 8,z 9,z 10,z 11,z 12,z 13,z 14,z 15,z 16,z 17,z 18,z 19,z 20,z 21,z 22,z 23,z 24,z 25,z 26,z 27,z 28,z 29,z 30,z 31,z 32,z 33,z 34,z 35,z 36,z 37,z 38]) P.length ?_ ?_ ?_ ?_
 ·exact⟨Ext.refl _,H.length+1,g1,aL rfl⟩
 ·rintro i S H' hi ⟨hx,bb,fb,z,rfl⟩
  exact⟨_,gu,by simp⟩
 ·clear g1
  rintro i S H2 hi ⟨hx2,bb,fb,z,rfl⟩
  have hl2:=hx2.1
  obtain⟨b',o,sp,cap,xs,e,gx,hat,hxl⟩:=cK (hx1.mono hx2) (by rw[hml];omega)
  rw[hml]at hat hxl e
  cases e
  have f0:=hx2.get g0
  have hati:=hat i hi
  rw[yO hi]at hati
  have hi1:(((i+1:Nat):Int)+1)=((i+2:Nat):Int):=by omega
  have htk:(P.take (i+1)).map X=(P.take i).map X++[X (P.getD i 0)]:=by rw[kt hi,List.map_append];rfl
  have hnx:cv (co (tab (i+1) (aT ((P.take i).map X)))) (co [1,-X (P.getD i 0)])=aT ((P.take (i+1)).map X):=by rw[rn P X (by omega),DR,Bh,htk]
  have htl:=aE (i+1) (aT ((P.take i).map X))
  clear hat htk
  generalize tab (i+1) (aT ((P.take i).map X))=A at *
  generalize aT ((P.take (i+1)).map X)=L2 at *
  generalize X (P.getD i 0)=x at *
  (try simp only[aA])
  repeat' ((first|refine dD ?_|refine dB rfl ?_);(try simp only[aA]))
  refine iS ?_
  refine aQ (qV (0:El f) x) ?_
  rintro v H3 ⟨hx3,rfl⟩
  rw[mm]
  have fb:=hx3.get fb
  have hx3:=hx2.trans hx3
  have hl3:=hx3.1
  (try simp only[aA])
  repeat' ((first|refine dD ?_|refine dB rfl ?_);(try simp only[aA]))
  refine iS ?_
  have hs1:=aY (sp:=none) fb htl
  have hs2:SlE (H3++[some [Value.int .i64 1,Value.int .i64 ((-x).val:Nat)]]) (.slice (some ⟨H3.length,0,none⟩) 2 2) [(1:El f),-x]:=aY (l:=[(1:El f),-x]) aN rfl
  refine aC (nX (by simp;omega) (hs1.mono (Ext.app _ _)) hs2 (by rw[htl];omega) (by simp) (i+2) (by omega)) ?_
  rintro v H4 ⟨hx4,b4,hb4,rfl,f4⟩
  have hmin:min (i+2) (A.length+[(1:El f),-x].length-1)=i+2:=by rw[htl];simp
  rw[hmin]at f4 ⊢
  rw[hnx]at f4
  have hx4:=hx3.trans hx4.of_app
  clear hi1
  (try simp only[aA])
  repeat' ((first|refine dD ?_|refine dB rfl ?_);(try simp only[aA]))
  exact⟨hx4,b4,f4,aL (by first|rfl|(simp only[Int.natCast_add,Int.natCast_one];rfl)|simp only[Int.natCast_add,Int.natCast_one])⟩
 ·rintro S H2 ⟨hx2,bb,fb,z,rfl⟩
  rw[List.take_length]at fb
  have g0:=hx2.get g0
  have hx1:=hx1.mono hx2
  have hs1:=hs1.mono hx2
  have hx2:=hxG.trans hx2
  have hl2:=hx2.1
  have htl:=aE (P.length+1) (aT (P.map X))
  have hal:=aY (sp:=none) fb htl
  have hct:=rn P X (Nat.le_refl _)
  rw[List.take_length]at hct
  (try simp only[aA])
  refine iS ?_
  refine aC (nX (f:=f) (by exact Nat.le_trans hlo hl2) hs1 hal (by omega) (by rw[htl];omega) s.length (by omega)) ?_
  rintro v H3 ⟨hx3,b3,hb3,rfl,f3⟩
  rw[hct]at f3
  have hmin:min s.length (s.length+(tab (P.length+1) (aT (P.map X))).length-1)=s.length:=by rw[htl];omega
  rw[hmin]at f3 ⊢
  have g0:=hx3.get g0
  have hx1:=hx1.mono hx3
  have hx3:=hx2.trans hx3
  have hl3:=hx3.1
  clear hct hmin hal htl fb hs1 hx2
  have hom:=aY (sp:=none) f3 (aE _ _)
  (try simp only[aA])
  repeat' ((first|refine dD ?_|refine dB rfl ?_);(try simp only[aA]))
  generalize hE:nH X b s.length (co s) P=E at *
  have hEp:∀p,p ∈ P→hor (tab s.length (cv (co s) (aT (P.map X)))) (inv (X p))*inv (pw (X p) b*dnm X P p (inv (X p)) P.length)=E p:=fun p hp=>by rw[←hE,Dv hP hp]
  clear hE
  have hol:=aE s.length (cv (co s) (aT (P.map X)))
  generalize tab s.length (cv (co s) (aT (P.map X)))=om at *
  refine aU (fun i S H'=>Ext H3 H'∧∃vo bo,H3.length≤bo∧Own lo 1 H' vo bo (elL ((P.take i).map E))∧∃(z:Nat→Value),S=[z 0,z 1,.slice ax P.length cx,.int .i64 (b:Nat),.pointer (some ⟨H.length,0,none⟩),z 5,z 6,z 7,.slice (some ⟨b3,0,none⟩) s.length s.length,vo,.int .i64 (i:Nat),z 11,z 12,z 13,z 14,z 15,z 16,z 17,z 18,z 19,z 20,z 21,z 22,z 23,z 24,z 25,z 26,z 27,z 28,z 29,z 30,z 31,z 32,z 33,z 34,z 35,z 36,z 37,z 38]) P.length ?_ ?_ ?_ ?_
  ·exact⟨Ext.refl _,_,H3.length,Nat.le_refl _,Own.nil (by omega),aL rfl⟩
  ·rintro i S H' hi ⟨hx,vo,bo,hbo,hown,z,rfl⟩
   exact⟨_,gu,by simp⟩
  ·rintro i S H4 hi ⟨hx4,vo,bo,hbo,hown,z,rfl⟩
   have hp:=xE hi
   have hinj:∀j,j<P.length→(P.getD j 0=P.getD i 0↔j=i):=fun j hj=>⟨fun h=>getD_inj hP hj hi h,fun h=>by rw[h]⟩
   have hx4':=hx1.mono hx4
   obtain⟨yb,yo,ysp,yc,ys,ee,gy,hat,hyl⟩:=cK hx4' (by rw[hml];omega)
   rw[hml]at ee hat hyl
   cases ee
   have hatj:False∨∀j,j<P.length→ys[yo+j]?=some (.int .i64 ((X (P.getD j 0)).val:Nat)):=.inr fun j hj=>by rw[hat j hj,yO hj]
   have hati:=hatj.resolve_left id i hi
   clear hat
   have hlt:(P.take (i+1)).map E=(P.take i).map E++[E (P.getD i 0)]:=by rw[kt hi,List.map_append];rfl
   have hll:((P.take i).map E).length≤i:=by rw[List.length_map,List.length_take];omega
   generalize P.getD i 0=p at *
   have hne:=hX.ne p (hb p hp)
   have hnz:=Kr (b:=b) hX hP hb hp
   have hEp:=hEp p hp
   have g0:=hx4.get g0
   have hom:=hom.mono hx4
   have hl4:=hx4.1
   (try simp only[aA])
   repeat' ((first|refine dD ?_|refine dB rfl ?_);(try simp only[aA]))
   refine iS ?_
   refine aC (kg (f:=f) (X p) hne) ?_
   rintro v H5 ⟨hx5,rfl⟩
   have g0:=(hx5).get g0;have gy:=(hx5).get gy
   have hom:=hom.mono hx5
   have hown:=hown.mono hx5
   have hx5:=hx4.trans hx5
   (try simp only[aA])
   repeat' ((first|refine dD ?_|refine dB rfl ?_);(try simp only[aA]))
   refine iS ?_
   refine aC (xm (f:=f) (X p) b (by omega)) ?_
   rintro v H6 ⟨hx6,rfl⟩
   have g0:=(hx6).get g0;have gy:=(hx6).get gy
   have hom:=hom.mono hx6
   have hown:=hown.mono hx6
   have hx6:=hx5.trans hx6
   clear hx5 hl4 hati
   generalize inv (X p)=y at *
   have hd0:pw (X p) b=pw (X p) b*dnm X P p y 0:=by rw[Gs,mul_one]
   rw[hd0]
   generalize pw (X p) b=pb at *
   clear hd0
   (try simp only[aA])
   repeat' ((first|refine dD ?_|refine dB rfl ?_);(try simp only[aA]))
   refine aU (fun j S H'=>Ext H6 H'∧∃(z:Nat→Value),S=[z 0,z 1,.slice (some ⟨yb,yo,ysp⟩) P.length cx,.int .i64 (b:Nat),.pointer (some ⟨H.length,0,none⟩),z 5,z 6,z 7,.slice (some ⟨b3,0,none⟩) s.length s.length,vo,.int .i64 (i:Nat),.int .i64 (y.val:Nat),.int .i64 ((pb*dnm X P p y j).val:Nat),.int .i64 (j:Nat),z 14,z 15,z 16,z 17,z 18,z 19,z 20,z 21,z 22,z 23,z 24,z 25,z 26,z 27,z 28,z 29,z 30,z 31,z 32,z 33,z 34,z 35,z 36,z 37,z 38]) P.length ?_ ?_ ?_ ?_
   ·exact⟨Ext.refl _,aL rfl⟩
   ·rintro j S H' hj ⟨hx,z,rfl⟩
    exact⟨_,gu,by simp⟩
   ·rintro j S H7 hj ⟨hx7,z,rfl⟩
    have hatk:=hatj.resolve_left id j hj
    have g0:=(hx7).get g0;have gy:=(hx7).get gy
    have hl7:=hx7.1
    by_cases hji:j=i
    ·have hst:=GZ (X:=X) (y:=y) hj ((hinj j hj).2 hji)
     rw[hst]
     clear hst hinj
     subst hji
     (try simp only[aA])
     repeat' ((first|refine dD ?_|refine dB rfl ?_);(try simp only[aA]))
     refine m9 (fun h=>?_) (fun h=>?_)
     ·exfalso;simp at h
     clear h
     (try simp only[aA])
     repeat' ((first|refine dD ?_|refine dB rfl ?_);(try simp only[aA]))
     exact⟨hx7,aL (by first|rfl|(simp only[Int.natCast_add,Int.natCast_one];rfl)|simp only[Int.natCast_add,Int.natCast_one])⟩
    ·have hst:=DG (X:=X) (y:=y) hj (fun h=>hji ((hinj j hj).1 h))
     have hst2:pb*dnm X P p y (j+1)=pb*dnm X P p y j*(1-X (P.getD j 0)*y):=by rw[hst,mul_assoc]
     rw[hst2]
     clear hst hst2 hinj
     generalize X (P.getD j 0)=x at *
     generalize pb*dnm X P p y j=D at *
     (try simp only[aA])
     repeat' ((first|refine dD ?_|refine dB rfl ?_);(try simp only[aA]))
     refine m9 (fun h=>?_) (fun h=>?_)
     case refine_2=>exfalso;simp at h;omega
     clear h
     (try simp only[aA])
     refine iS ?_
     refine aQ (fF (f:=f) x y) ?_
     rintro v H8 ⟨hx8,rfl⟩
     have hx8:=hx7.trans hx8
     clear hatk
     (try simp only[aA])
     refine iS ?_
     refine aQ (qV (f:=f) 1 (x*y)) ?_
     rintro v H9 ⟨hx9,rfl⟩
     have hx9:=hx8.trans hx9
     (try simp only[aA])
     refine iS ?_
     refine aC (fF (f:=f) D (1-x*y)) ?_
     rintro v H10 ⟨hx10,rfl⟩
     have hx10:=hx9.trans hx10
     (try simp only[aA])
     repeat' ((first|refine dD ?_|refine dB rfl ?_);(try simp only[aA]))
     exact⟨hx10,aL (by first|rfl|(simp only[Int.natCast_add,Int.natCast_one];rfl)|simp only[Int.natCast_add,Int.natCast_one])⟩
   ·rintro S H7 ⟨hx7,z,rfl⟩
    clear hatj hinj
    generalize pb*dnm X P p y P.length=D at *
    have g0:=hx7.get g0
    have hom:=hom.mono hx7
    have hown:=hown.mono hx7
    have hx7:=hx6.trans hx7
    have hl7:=hx7.1
    (try simp only[aA])
    repeat' ((first|refine dD ?_|refine dB rfl ?_);(try simp only[aA]))
    refine iS ?_
    refine aQ (Eg (f:=f) (Nat.le_refl _) hom (by omega) y) ?_
    rintro v H8 ⟨hx8,rfl⟩
    have hown:=hown.mono hx8
    have hx8:=hx7.trans hx8
    (try simp only[aA])
    refine iS ?_
    refine aQ (kg (f:=f) D hnz) ?_
    rintro v H9 ⟨hx9,rfl⟩
    have hown:=hown.mono hx9
    have hx9:=hx8.trans hx9
    (try simp only[aA])
    refine iS ?_
    refine aC (fF (f:=f) (hor om y) (inv D)) ?_
    rintro v H10 ⟨hx10,rfl⟩
    rw[hEp]
    have hown:=hown.mono hx10
    have hx10:=hx9.trans hx10
    have hl10:=hx10.1
    clear g0 gy hEp
    (try simp only[aA])
    repeat' ((first|refine dD ?_|refine dB rfl ?_);(try simp only[aA]))
    refine iS ?_
    refine dR (c:=[.int .i64 ((E p).val:Nat)]) (hown.mono (Ext.app _ _)) (by simp;omega) (by omega) (by omega) (by rw[bM];omega) aN (by simp) rfl rfl ?_
    rintro v' H11 hown9 hk9 hl9
    have hEx:=Ext.app H10 [some [Value.int .i64 ((E p).val:Nat)]]
    simp only[List.length_append,List.length_cons,List.length_nil]at hown9
    (try simp only[aA])
    repeat' ((first|refine dD ?_|refine dB rfl ?_);(try simp only[aA]))
    refine⟨hk9.ext (hx10.trans hEx) hbo,v',H10.length+(0+1),by omega,?_,aL (by first|rfl|(simp only[Int.natCast_add,Int.natCast_one];rfl)|simp only[Int.natCast_add,Int.natCast_one])⟩
    rw[hlt,k0];exact hown9
  ·rintro S H4 ⟨hx4,vo,bo,hbo,hown,z,rfl⟩
   rw[List.take_length]at hown
   (try simp only[aA])
   repeat' ((first|refine dD ?_|refine dB rfl ?_);(try simp only[aA]))
   refine rE ?_
   exact⟨hx3.trans hx4,Sl.ofOwn hown,NewV.own hown (Nat.le_trans hl3 hbo)⟩
end
structure Keep2 (b c:Nat)(H H':Heap):Prop where
 len:H.length≤H'.length
 eq:∀i,i<H.length→i≠b→i≠c→H'.get i=H.get i
theorem Keep2.refl(b c:Nat)(H:Heap):Keep2 b c H H:=⟨Nat.le_refl _,fun _ _ _ _=>rfl⟩
theorem Keep2.get{b c:Nat}{H H':Heap}(h:Keep2 b c H H'){i:Nat}{x:List Value}(hx:H.get i=some x)(h1:i≠b)(h2:i≠c):H'.get i=some x:=(h.eq i (Heap.get_lt hx) h1 h2).trans hx
theorem Keep2.ext{b c:Nat}{H A B:Heap}(h:Keep2 b c H A)(e:Ext A B):Keep2 b c H B:=⟨Nat.le_trans h.len e.1,fun i hi h1 h2=>(e.2 i (Nat.lt_of_lt_of_le hi h.len)).trans (h.eq i hi h1 h2)⟩
theorem Keep2.set1{b c:Nat}{H A:Heap}(h:Keep2 b c H A)(x:Option (List Value)):Keep2 b c H (A.set b x):=⟨by simpa using h.len,fun i hi h1 h2=>by rw[aM (Ne.symm h1)];exact h.eq i hi h1 h2⟩
theorem Keep2.set2{b c:Nat}{H A:Heap}(h:Keep2 b c H A)(x:Option (List Value)):Keep2 b c H (A.set c x):=⟨by simpa using h.len,fun i hi h1 h2=>by rw[aM (Ne.symm h2)];exact h.eq i hi h1 h2⟩
theorem Keep2.own{b c d:Nat}{H A B:Heap}(h:Keep2 b c H A)(k:Keep d A B)(hd:H.length≤d):Keep2 b c H B:=⟨Nat.le_trans h.len k.len,fun i hi h1 h2=>(k.eq i (Nat.lt_of_lt_of_le hi h.len) (by omega)).trans (h.eq i hi h1 h2)⟩
theorem Keep2.toExt{b c:Nat}{A H H':Heap}(h:Keep2 b c H H')(e:Ext A H)(hb:A.length≤b)(hc:A.length≤c):Ext A H':=⟨Nat.le_trans e.1 h.len,fun i hi=>(h.eq i (Nat.lt_of_lt_of_le hi e.1) (by omega) (by omega)).trans (e.2 i hi)⟩
def tl:Nat→Stm→Stm
 | 0,s=>s
 | k+1,.seq _ b=>tl k b
 | _+1,s=>s
section
variable {f:FD}[OkC f]
theorem AS(X:Nat→El f)(er:Nat→Bool)(i:Nat):co (tab (sC er i+1) (gam X er i))=gam X er i:=ga fun j hj=>oz X er i j hj
theorem yX(φ ψ:Nat→Bool)(n:Nat):(sel φ n).filter ψ=sel (fun i=>φ i&&ψ i) n:=by
 unfold sel
 rw[List.filter_filter]
 refine List.filter_congr fun i _=>Bool.and_comm _ _
theorem xd(g:El f)(r b:Nat)(w:List (El f))(er:Nat→Bool):(sel (an (plc g w.length) er (cF (plc g w.length) er w.length r (syS g r b w))) w.length).filter (fun i=>decide (nH (plc g w.length) b r (syS g r b w) (sel (an (plc g w.length) er (cF (plc g w.length) er w.length r (syS g r b w))) w.length) i≠0))=sel (fun i=>decide (co (fD g r b w er) i≠co w i)) w.length:=by
 rw[yX]
 refine fW fun i hi=>?_
 unfold fD
 rw[bS,if_pos hi]
 generalize nH (plc g w.length) b r (syS g r b w) (sel (an (plc g w.length) er (cF (plc g w.length) er w.length r (syS g r b w))) w.length) i=E
 cases hb:an (plc g w.length) er (cF (plc g w.length) er w.length r (syS g r b w)) i with
 | false=>simp
 | true=>
  rw[if_pos rfl,Bool.true_and]
  refine decide_eq_decide.2 ⟨fun h e=>h ?_,fun h e=>h ?_⟩
  ·have h1:co w i-(co w i-E)=co w i-co w i:=by rw[e]
   have h2:co w i-(co w i-E)=E:=(show((co w i)-((co w i)-(E)))=(E) from aj [(co w i),(E)] (.add (.v 0) (.neg (.add (.v 0) (.neg (.v 1))))) (.v 1) rfl)
   rw[h2,sub_self]at h1
   exact h1
  ·rw[e]
   exact(show((co w i)-0)=(co w i) from aj [(co w i)] (.add (.v 0) (.neg .zero)) (.v 0) rfl)
theorem zE{w:List (El f)}{P:List Nat}{E:Nat→El f}{j:Nat}(hj:j<P.length)(h:E (P.getD j 0)=0):eR w P E (j+1)=eR w P E j:=by
 unfold eR
 refine aP fun i _=>?_
 by_cases e:i=P.getD j 0
 ·rw[if_pos ((du hj i).2 (.inr e)),e,h]
  have:co w (P.getD j 0)-0=co w (P.getD j 0):=(show((co w (P.getD j 0))-0)=(co w (P.getD j 0)) from aj [(co w (P.getD j 0))] (.add (.v 0) (.neg .zero)) (.v 0) rfl)
  rw[this]
  split<;>rfl
 ·by_cases h:i ∈ P.take j
  ·rw[if_pos h,if_pos ((du hj i).2 (.inl h))]
  ·rw[if_neg h,if_neg (fun h2=>((du hj i).1 h2).elim h e)]
theorem xI{P:List Nat}{ψ:Nat→Bool}{j:Nat}(hj:j<P.length):(P.take (j+1)).filter ψ=(P.take j).filter ψ++(if ψ (P.getD j 0)=true then[P.getD j 0] else[]):=by
 rw[kt hj,List.filter_append]
 congr 1
 by_cases h:ψ (P.getD j 0)=true
 ·rw[if_pos h,List.filter_cons_of_pos h,List.filter_nil]
 ·rw[if_neg h,List.filter_cons_of_neg h,List.filter_nil]
set_option maxHeartbeats 8000000 in
theorem Iu{lo:Nat}{H:Heap}{g:El f}{W:List (El f)}{r b d4 d5 d19 bw n:Nat}{vc:Value}{R:Value→Heap→Prop}{S:List Value}(hS:∃(z:Nat→Value),S=[z 0,z 1,z 2,z 3,.pointer (some ⟨d4,0,none⟩),.pointer (some ⟨d5,0,none⟩),z 6,z 7,z 8,z 9,z 10,z 11,z 12,z 13,z 14,z 15,z 16,z 17,z 18,.pointer (some ⟨d19,0,none⟩),z 20,z 21,z 22,z 23,z 24,z 25,z 26,z 27,z 28,z 29,z 30,z 31,z 32,z 33,z 34,z 35,z 36,z 37,z 38,z 39,z 40,z 41,z 42,z 43,z 44,z 45,z 46,z 47,z 48,z 49,z 50,z 51,z 52,z 53,z 54,z 55,z 56,z 57,z 58])(hlo:lo≤d5)(hg:Gn (OkC.ok (f:=f)) g)(hr:r≤10000000)(hb:b≤10000000)(hn:n≤10000000)(hW:W.length=n)(gw:H.get bw=some (elL W))(g4:H.get d4=some (cdC f r b))(g5:H.get d5=some [.slice none 0 0,.slice none 0 0])(g19:H.get d19=some [.slice (some ⟨bw,0,some 1⟩) n n,vc])(h19:d19≠d5)(hvc:∃a k c,vc=.slice a k c)
  (hR:∀v H',Keep d5 H H'→(kL g r b W→v=.tuple #[.agg #[.slice (some ⟨bw,0,some 1⟩) n n,vc],.int .i64 0])→(¬ kL g r b W→v=ny 17)→R v H') :
  wpS cp lo (tl 15 ti) (aG rJ R) S H:=by
 obtain⟨z,rfl⟩:=hS
 unfold ti rJ
 simp only[tl,kB,aA]
 obtain⟨ac,kc,cc,rfl⟩:=hvc
 have hl5:=Heap.get_lt g5
 have hw:=aY (sp:=some 1) gw hW
 refine iS ?_
 refine aC (qj (f:=f) (by omega) hg hw (by omega) r b (by omega) (by omega)) ?_
 rintro v22 H1 ⟨hx1,hv⟩
 have hsl:(eN g r b W).length=r:=aE _ _
 have hv0:=hv
 obtain⟨a2,c2,rfl⟩:=hv.len
 rw[hsl]at hv0 ⊢
 have g5:=(hx1).get g5;have g19:=(hx1).get g19
 have hl1:=hx1.1
 clear hv
 (try simp only[aA])
 repeat' ((first|refine dD ?_|refine dB rfl ?_);(try simp only[aA]))
 refine aU (fun i S H'=>H1=H'∧(∀j,j<i→co (eN g r b W) j=0)∧∃(z:Nat→Value),S=[z 0,z 1,z 2,z 3,z 4,.pointer (some ⟨d5,0,none⟩),z 6,z 7,z 8,z 9,z 10,z 11,z 12,z 13,z 14,z 15,z 16,z 17,z 18,.pointer (some ⟨d19,0,none⟩),z 20,z 21,.slice a2 r c2,.int .i64 (i:Nat),z 24,z 25,z 26,z 27,z 28,z 29,z 30,z 31,z 32,z 33,z 34,z 35,z 36,z 37,z 38,z 39,z 40,z 41,z 42,z 43,z 44,z 45,z 46,z 47,z 48,z 49,z 50,z 51,z 52,z 53,z 54,z 55,z 56,z 57,z 58]) r ?_ ?_ ?_ ?_
 ·exact⟨rfl,fun j hj=>by omega,aL rfl⟩
 ·rintro i S H' hi ⟨rfl,-,z,rfl⟩
  exact⟨_,gu,by simp⟩
 ·rintro i S H' hi ⟨rfl,hz,z,rfl⟩
  obtain⟨xb,xo,xsp,xc,xs,ee,gx,hat,hxl⟩:=cK hv0 (by rw[hsl];omega)
  rw[hsl]at ee hat hxl
  cases ee
  have hati:=hat i hi
  clear hat
  by_cases h0:co (eN g r b W) i=0
  ·have hz':∀j,j<i+1→co (eN g r b W) j=0:=fun j hj=>by
    by_cases e:j=i
    ·rw[e];exact h0
    ·exact hz j (by omega)
   rw[h0,jZ]at hati
   clear h0 hz
   (try simp only[aA])
   repeat' ((first|refine dD ?_|refine dB rfl ?_);(try simp only[aA]))
   refine m9 (fun h=>?_) (fun h=>?_)
   ·cases h
   clear h hati
   (try simp only[aA])
   repeat' ((first|refine dD ?_|refine dB rfl ?_);(try simp only[aA]))
   exact⟨by trivial,hz',aL (by first|rfl|(simp only[Int.natCast_add,Int.natCast_one];rfl)|simp only[Int.natCast_add,Int.natCast_one])⟩
  ·have hno:¬ kL g r b W:=fun h=>h0 (qu.2 h i hi)
   have hne:=eH h0
   clear hz h0
   generalize (co (eN g r b W) i).val=q at *
   (try simp only[aA])
   repeat' ((first|refine dD ?_|refine dB rfl ?_);(try simp only[aA]))
   refine m9 (fun h=>?_) (fun h=>?_)
   case refine_2=>exfalso;simp at h;omega
   clear h hati
   (try simp only[aA])
   repeat' ((first|refine dD ?_|refine dB rfl ?_);(try simp only[aA]))
   refine rE ?_
   exact hR _ _ (dF hx1 _ _) (fun h=>absurd h hno) (fun _=>rfl)
 ·rintro S H' ⟨rfl,hz,z,rfl⟩
  have hyes:kL g r b W:=qu.1 hz
  clear hz
  (try simp only[aA])
  repeat' ((first|refine dD ?_|refine dB rfl ?_);(try simp only[aA]))
  refine rE ?_
  exact hR _ _ (dF hx1 _ _) (fun _=>rfl) (fun h=>absurd hyes h)
end
section
variable {ch sz po r b:Int}{v:Value}{l:List Int}{lo:Nat}{H:Heap}
end
section
variable {lo:Nat}{H0:Heap}{ch sz po r b:Int}{v:Value}{l:List Int}
end
theorem UH(a b c d e:Int):aX [1,1,1,1,1] [.int .i64 a,.int .i64 b,.int .i64 c,.int .i64 d,.int .i64 e] [.int .i64 a,.int .i64 b,.int .i64 c,.int .i64 d,.int .i64 e]=some true:=by simp[aX,jC]
def Oo(ch sz po r b:Int)(v:Value):Prop:=((¬ ∃f,OkF ch sz po f)→v=.tuple #[cdI 0 0 0 0 0,.int .i64 1])∧((∃f,OkF ch sz po f)→¬ nL ch sz po r b→v=.tuple #[cdI 0 0 0 0 0,.int .i64 3])∧(nL ch sz po r b→v=.tuple #[cdI ch sz po r b,.int .i64 0])
section
variable {lo:Nat}{H:Heap}{ch sz po r b:Int}
set_option linter.defProp false in
def HC:=And.intro @Int.cast_ofNat_Int (And.intro @fv.eq_1 (And.intro @fvf.eq_1 (And.intro @ite_self.{1} (And.intro @iI (And.intro @iE (And.intro @iA (And.intro @cdC.eq_1 (And.intro @arC.eq_1 (And.intro @iL (And.intro @bM (And.intro @eI (And.intro @fJ @UH))))))))))))
theorem ou{P:Prop}(h:P:=by simp(disch:=first|omega|(simp only[aK];omega))only[evB,HC,Nat.reduceAdd,Nat.reduceBEq, *];rfl):P:=h
theorem Cx{cp:FuncId→Option CF}{lo:Nat}{l:List (Nat×E)}{chk:List E}{Q:aS}{S:List Value}{H:Heap}{vs:List (Nat×Value)}{S':List Value}(k:Q .normal S' H)(h:evSets S H l=some vs:=by exact ou)(hc:evChk S H chk=true:=by simp(disch:=first|omega|(simp only[aK];omega))only[evB,HC,Nat.reduceAdd,Nat.reduceBEq, *])(hS:setAll S vs=S':=by exact ou):wpS cp lo (.sets l chk) Q S H:=cL h hc hS k
theorem Qf{cp:FuncId→Option CF}{lo:Nat}{l:List (Nat×E)}{chk:List E}{Q:aS}{S:List Value}{H:Heap}{vs:List (Nat×Value)}{dst:Option Nat}{o:HOp}{a:E}{xs:List Value}(k:wpH cp lo o xs H fun v H'=>Q .normal (setD (setAll S vs) dst v) H')(h:evSets S H l=some vs:=by exact ou)(hc:evChk S H chk=true:=by simp(disch:=first|omega|(simp only[aK];omega))only[evB,HC,Nat.reduceAdd,Nat.reduceBEq, *])(ha:ev S H a=some xs:=by exact ou):wpS cp lo (.hv l chk [] dst o a) Q S H:=eC h hc ha k
theorem Co{cp:FuncId→Option CF}{lo:Nat}{l:List (Nat×E)}{chk:List E}{Q:aS}{S:List Value}{H:Heap}{vs:List (Nat×Value)}{dst:Option Nat}{o:HOp}{a:E}{xs:List Value}{S':List Value}{H':Heap}{v:Value}(hcall:o.isCall=false)(k:Q .normal S' H')(h:evSets S H l=some vs:=by exact ou)(hc:evChk S H chk=true:=by simp(disch:=first|omega|(simp only[aK];omega))only[evB,HC,Nat.reduceAdd,Nat.reduceBEq, *])(ha:ev S H a=some xs:=by exact ou)(ho:bG lo o xs H=some (v,H'):=by exact ou)(hS:setD (setAll S vs) dst v=S':=by exact ou):wpS cp lo (.hv l chk [] dst o a) Q S H:=eG hcall h hc ha ho hS k
theorem JE{cp:FuncId→Option CF}{lo:Nat}{c:E}{a b:Stm}{Q:aS}{S:List Value}{H:Heap}{t:Bool}(k1:t=true→wpS cp lo a Q S H)(k2:t=false→wpS cp lo b Q S H)(h:ev1 S H c=some (.bool t):=by exact ou):wpS cp lo (.cond c a b) Q S H:=cJ h k1 k2
theorem KR{cf:CF}{R:Value→Heap→Prop}{S:List Value}{H:Heap}{vs:List Value}(k:R (aJ vs) H)(h:evList S H cf.res=some vs:=by exact ou):aG cf R .ret S H:=bT h k
theorem VS(hlo:lo≤H.length)(hs2:sz≤9223372036854775807):Ev cp lo 70 [fv ch sz po,.int .i64 r,.int .i64 b] H (fun v H'=>Ext H H'∧Oo ch sz po r b v):=by
 unfold fv
 refine T9 ?_;unfold MZ G0;simp only[kB,aA]
 repeat' ((first|refine Cx ?_|refine Co rfl ?_);(try simp only[aA]))
 refine Qf ?_
 refine aC (Ee (ch:=ch) (sz:=sz) (po:=po) hs2) ?_
 rintro v H1 ⟨hx1,t1,rfl,ht1⟩
 have g0:H1.get H.length=some _:=hx1.get (ou)
 have g1:H1.get (H.length+1)=some _:=hx1.get (ou)
 have hx1:=hx1.of_app
 have hl1:=Heap.get_lt g1
 cases t1 with
 | false=>
  have hno:¬ ∃f,OkF ch sz po f:=fun h=>by have:=ht1.2 h;cases this
  (try simp only[aA])
  refine JE (fun h=>?_) (fun h=>?_)
  case refine_2=>cases h
  clear h
  (try simp only[aA])
  repeat' ((first|refine Cx ?_|refine Co rfl ?_);(try simp only[aA]))
  refine KR ?_
  exact⟨hx1.set (by omega),fun _=>rfl,fun h=>absurd h hno,fun h=>absurd h.1 hno⟩
 | true=>
  have hf:=ht1.1 rfl
  have hsz:=tG hf
  (try simp only[aA])
  refine JE (fun h=>?_) (fun h=>?_)
  ·cases h
  clear h
  (try simp only[aA])
  repeat' ((first|refine Cx ?_|refine Co rfl ?_);(try simp only[aA]))
  generalize hG:H1++_=G at *
  obtain⟨g2,hxG⟩:=aV hG
  clear hG
  have g0:=(hxG).get g0;have g1:=(hxG).get g1
  have hxG:=hx1.trans hxG
  have hlG:=Heap.get_lt g2
  refine Qf ?_
  refine aC (DX (ch:=ch) (sz:=sz) (po:=po) (r:=r) (b:=b) hs2) ?_
  rintro v H2 ⟨hx2,t2,rfl,ht2⟩
  have g0:=(hx2).get g0;have g1:=(hx2).get g1;have g2:=(hx2).get g2
  have hx2:=hxG.trans hx2
  have hl2:=Heap.get_lt g1
  cases t2 with
  | false=>
   have hno:¬ nL ch sz po r b:=fun h=>by have:=ht2.2 h;cases this
   (try simp only[aA])
   refine JE (fun h=>?_) (fun h=>?_)
   case refine_2=>cases h
   clear h
   (try simp only[aA])
   repeat' ((first|refine Cx ?_|refine Co rfl ?_);(try simp only[aA]))
   refine KR ?_
   exact⟨hx2.set (by omega),fun h=>absurd hf h,fun _ _=>rfl,fun h=>absurd h hno⟩
  | true=>
   have hok:nL ch sz po r b:=ht2.1 rfl
   (try simp only[aA])
   refine JE (fun h=>?_) (fun h=>?_)
   ·cases h
   clear h
   (try simp only[aA])
   repeat' ((first|refine Cx ?_|refine Co rfl ?_);(try simp only[aA]))
   refine KR ?_
   exact⟨hx2.set (by omega),fun h=>absurd hf h,fun _ h=>absurd hok h,fun _=>rfl⟩
end
end Go.Proofs.YtmnlgdpdgjbfgaaGreat
