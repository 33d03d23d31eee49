/- Lemmas. -/
import Derived.Test.YtmnlgdpdgjbfgaaGreatW24
set_option linter.all false
namespace Go.Proofs.YtmnlgdpdgjbfgaaGreat
open Go.Abs
variable{H:Heap}{S:List Value}{p:List UInt8}
set_option maxRecDepth 20000
def Agr(a:Nat)(c c':List Nat):Prop:=∀j,a*19<=j->c'.getD j 0=c.getD j 0
theorem sw{a:Nat}{c c':List Nat}{o:Opt}(h:Agr a c c')(ho:a<=o.nx):bh c' o=bh c o:=by
 unfold bh;rw[h _ (by have:=Nat.mul_le_mul_right 19 ho;omega)]
theorem nm(a n:Nat):(cX a n).nx=a+n:=by unfold cX;split<;>rfl
theorem wh{a:Nat}{c c':List Nat}(h:Agr (a+1) c c'):∀n,gi c' a n=gi c a n
 | 0=>rfl
 | n+1=>by
  by_cases hn:n=0
  ·subst hn;rfl
  ·obtain⟨k,h1,h2,h3⟩:=nj (cs:=c) (at':=a) n byO
   rw[gi,gi,if_neg hn,if_neg hn,wh h n,sw (o:=cX a (n+1)) h (by rw[nm];omega),h3,sw (o:=cX a k) h (by rw[nm];omega)]
theorem oT{a:Nat}{c c':List Nat}(h:Agr (a+1) c c')(st:Nat):eQ p c' a st=eQ p c a st:=by
 unfold eQ qN uj;rw[wh h]
structure RowOK (p:List UInt8)(c:List Nat)(b:Nat):Prop where
 fix:∀k,k<19->∀o ∈ eQ p c b k,c.getD (b*19+k) 0<=bh c o
 got:∀k,k<19->c.getD (b*19+k) 0=1073741824\/(b=p.length/\k=0/\c.getD (b*19+k) 0=0)\/∃o ∈ eQ p c b k,c.getD (b*19+k) 0=bh c o
 fin:b=p.length->c.getD (b*19) 0=0
theorem RowOK.agr{p:List UInt8}{c c':List Nat}{b:Nat}(h:RowOK p c b)(hb:b<=p.length)(e:Agr b c c'):RowOK p c' b:=by
 have e1:Agr (b+1) c c':=fun j hj=>e j byO;have hk:∀k,c'.getD (b*19+k) 0=c.getD (b*19+k) 0:=fun k=>e _ byO;have ht:∀k,∀o ∈ eQ p c b k,bh c' o=bh c o:=fun k o ho=>sw e (jP hb o ho).nx.1;refine⟨fun k h1 o ho=>?_,fun k h1=>?_,fun hb=>?_⟩
 ·rw[oT e1]at ho
  rw[hk,ht k o ho];exact h.fix k h1 o ho
 ·rw[hk,oT e1]
  rcases h.got k h1 with h2|h2|⟨o,ho,h2⟩
  ·exact .inl h2
  ·exact .inr (.inl h2)
  ·exact .inr (.inr ⟨o,ho,by rw[ht k o ho];exact h2⟩)
 ·have:=hk 0
  rw[Nat.add_zero]at this;rw[this];exact h.fin hb
theorem yU{n a:Nat}{c:List Nat}(hl:a*19+19<=c.length):∀k,k<=19->(qS n a c k).length=c.length/\∀j,(qS n a c k).getD j 0=if a*19<=j/\j<a*19+k then 1073741824 else c.getD j 0
 | 0,_=>⟨rfl,fun j=>by rw[if_neg byO];rfl⟩
 | k+1,h=>by
  obtain⟨h1,h2⟩:=yU (n:=n) hl k byO;refine⟨by simp[qS,h1],fun j=>?_⟩;simp only[qS];rw[iR byO,h2];by_cases e:j=a*19+k
  ·rw[if_pos e,if_pos byO]
  ·rw[if_neg e]
   by_cases e2:a*19<=j/\j<a*19+k
   ·rw[if_pos e2,if_pos byO]
   ·rw[if_neg e2,if_neg byO]
theorem G9{n a:Nat}{c:List Nat}(hl:a*19+19<=c.length):(wQ n a c).length=c.length/\∀j,(wQ n a c).getD j 0=if a*19<=j/\j<a*19+19 then(if a=n/\j=a*19 then 0 else 1073741824) else c.getD j 0:=by
 obtain⟨h1,h2⟩:=yU (n:=n) hl 19 (Nat.le_refl _);unfold wQ;split
 ·rename_i e
  refine⟨by simp[h1],fun j=>?_⟩;rw[iR byO,h2];by_cases e2:j=a*19
  ·rw[if_pos e2,if_pos byO,if_pos ⟨e,e2⟩]
  ·rw[if_neg e2]
   split
   ·rw[if_neg (fun h=>e2 h.2)]
   ·rfl
 ·rename_i e
  refine⟨h1,fun j=>?_⟩;rw[h2];split
  ·rw[if_neg (fun h=>e h.1)]
  ·rfl
theorem Nm{a:Nat}{c:List Nat}(h:New p a c):(c.length=(p.length+1)*19/\∀j,c.getD j 0<=1073741824)/\∀b,a<=b->b<=p.length->RowOK p c b:=by
 induction h with
 | start=>exact⟨⟨by simp,fun j=>by simp only[au₀,List.getElem?_replicate];split<;>simp⟩,fun b h1 h2=>byO⟩
 | @step a c c' hn hs ih=>
  obtain⟨⟨hl,hle⟩,hr⟩:=ih;have ha:=Nl hn;have hal:a*19+19<=c.length:=by
   rw[hl];have:=Nat.mul_le_mul_right 19 (show a+1<=p.length+1 by omega);omega
  obtain⟨g1,g2⟩:=G9 (n:=p.length) hal;have hf:=Jv hs;have hag:Agr (a+1) c c':=by
   intro j hj;rw[hf.ne j byO,g2,if_neg byO]
  have hag1:Agr (a+1) (wQ p.length a c) c':=fun j hj=>hf.ne j byO;have hle2:∀j,c'.getD j 0<=1073741824:=by
   intro j;refine Nat.le_trans (hf.le j) ?_;rw[g2];split
   ·split<;>omega
   ·exact hle j
  refine⟨⟨by rw[hf.len,g1,hl],hle2⟩,fun b h1 h2=>?_⟩;by_cases hb:b=a
  ·subst hb
   refine⟨fun k hk o ho=>?_,fun k hk=>?_,fun e=>?_⟩
   ·rw[oT hag1]at ho
    exact hf.fix k hk o ho
   ·rcases hf.got k hk with h|⟨o,ho,h⟩
    ·rw[g2,if_pos byO]at h
     by_cases e:b=p.length/\b*19+k=b*19
     ·rw[if_pos e]at h
      exact .inr (.inl ⟨e.1,byO,h⟩)
     ·rw[if_neg e]at h
      exact .inl h
    ·exact .inr (.inr ⟨o,by rw[oT hag1];exact ho,h⟩)
   ·have h:=hf.le (b*19)
    rw[g2,if_pos byO,if_pos ⟨e,rfl⟩]at h;omega
  ·exact(hr b byO h2).agr h2 fun j hj=>hag j (by have:=Nat.mul_le_mul_right 19 (show a+1<=b by omega);omega)
structure Sol (p:List UInt8)(c:List Nat):Prop where
 len:c.length=(p.length+1)*19
 le:∀j,c.getD j 0<=1073741824
 row:∀b,b<=p.length->RowOK p c b
theorem BH{c:List Nat}(h:New p 0 c):Sol p c:=by
 obtain⟨⟨h1,h3⟩,h2⟩:=Nm h;exact⟨h1,h3,fun b hb=>h2 b byO hb⟩
abbrev cst(c:List Nat)(a st:Nat):Nat:=c.getD (a*19+st) 0
theorem Bw{c:List Nat}{a:Nat}(ha:a<p.length):fT (by' p a) a ∈ eQ p c a 0:=by
 unfold eQ qN;rw[if_pos rfl,if_pos ha];simp
theorem Bx(c:List Nat)(b a:Nat):bh c (fT b a)<=2+cst c (a+1) 0:=by
 unfold bh fT;split<;>simp
theorem lC{p:List UInt8}{c:List Nat}(h:Sol p c):∀m a,a+m=p.length->cst c a 0<=2*m
 | 0,a,e=>by
  have:=(h.row a byO).fin byO;simp only[cst,Nat.add_zero];omega
 | m+1,a,e=>by
  have h1:=(h.row a byO).fix 0 byO _ (Bw byO);have h2:=Bx c (by' p a) a;have h3:=lC h m (a+1) byO;simp only[cst]at *;omega
theorem Ju{c:List Nat}(h:Sol p c){a st:Nat}(ha:a<=p.length)(hs:st<19)(hc:cst c a st<1073741824)(hn:¬ (st=0/\a=p.length)):∃o ∈ eQ p c a st,bh c o=cst c a st:=by
 rcases(h.row a ha).got st hs with h|h|⟨o,ho,h⟩
 ·simp only[cst]at hc;omega
 ·exact absurd ⟨h.2.1,h.1⟩ hn
 ·exact⟨o,ho,h.symm⟩
theorem sL{c:List Nat}{a st:Nat}:∀o ∈ eQ p c a st,o.run=0\/(o.nx=a+o.run/\o ∈ [uj p c a]/\a<p.length/\st=0):=by
 intro o ho;have hT:∀{s f l},o ∈ ll p a s f l->o.run=0:=by
  intro s f l ho;rcases List.mem_cons.1 ho with rfl|ho
  ·rfl
  ·unfold tR tA qU at ho
   obtain⟨u,hu,ho⟩:=List.mem_flatMap.1 ho;obtain⟨v,hv,ho⟩:=List.mem_flatMap.1 ho;obtain⟨w,hw,rfl⟩:=List.mem_map.1 ho;rfl
 have hE:∀{k n g},o ∈ jd p a k n g->o.run=0:=by
  intro k
  induction k with
  | zero=>intro n g ho;simp only[jd]at ho;obtain rfl:=List.mem_singleton.1 ho;rfl
  | succ k ih=>
   intro n g ho;simp only[jd]at ho;rcases List.mem_cons.1 ho with rfl|ho
   ·rfl
   ·split at ho
    ·exact ih ho
    ·cases ho
 unfold eQ at ho;split at ho
 ·rename_i hst
  unfold qN at ho;rcases List.mem_append.1 ho with ho|ho
  ·left
   simp only[jE,List.mem_cons,List.not_mem_nil,or_false]at ho;rcases ho with rfl|rfl|rfl|rfl<;>rfl
  ·split at ho
   ·rename_i hap
    simp only[be₀,List.mem_singleton]at ho;rcases ho with (rfl|ho)|rfl
    ·left;unfold fT;split<;>rfl
    ·left
     unfold lX at ho;split at ho
     ·obtain rfl:=List.mem_singleton.1 ho;rfl
     ·cases ho
    ·right
     obtain⟨k,h1,h2,e⟩:=nj (cs:=c) (at':=a) (min (p.length-a) 1749) byO;refine⟨?_,by simp,hap,hst⟩;unfold uj;rw[e,nm];unfold cX;split<;>rfl
   ·cases ho
 ·left
  split at ho
  ·exact hT ho
  ·split at ho
   ·exact hT ho
   ·split at ho
    ·unfold tT at ho
     rcases List.mem_cons.1 ho with rfl|ho
     ·rfl
     ·split at ho
      ·obtain rfl:=List.mem_singleton.1 ho;rfl
      ·cases ho
    ·exact hE ho
def hd(o:Opt):List Nat:=[o.h0,o.h1,o.h2].take o.sz
theorem lO{o:Opt}(h:o.sz<=3):(hd o).length=o.sz:=by simp[hd];omega
def ma:List Nat->List Nat->Int
 | [],[]=>0
 | [],_::_=>-1
 | _::_,[]=>1
 | a::l,b::m=>if a<b then -1 else if b<a then 1 else ma l m
def gh(c:List Nat)(cost:Nat)(best o:Opt):Opt:=if bh c o=cost/\(best.sz=0\/ma (hd o) (hd best)<0) then o else best
def nr(c:List Nat)(cost:Nat)(L:List Opt):Opt:=L.foldl (gh c cost) cH
def chs(p:List UInt8)(c:List Nat)(a st:Nat):Opt:=nr c (cst c a st) (eQ p c a st)
theorem CC{c:List Nat}{cost:Nat}{L:List Opt}{o:Opt}:nr c cost (L++[o])=gh c cost (nr c cost L) o:=by unfold nr;rw[List.foldl_append];rfl
theorem rU{c:List Nat}{cost:Nat}:∀(L D:List Opt) (b:Opt),((b=cH/\∀o ∈ D,bh c o≠cost)\/(b ∈ D/\bh c b=cost)) ->
  ((L.foldl (gh c cost) b=cH/\∀o ∈ D++L,bh c o≠cost)\/(L.foldl (gh c cost) b ∈ D++L/\bh c (L.foldl (gh c cost) b)=cost))
 | [],D,b,h=>by simpa using h
 | o::L,D,b,h=>by
  have key:((gh c cost b o=cH/\∀o' ∈ D++[o],bh c o'≠cost)\/(gh c cost b o ∈ D++[o]/\bh c (gh c cost b o)=cost)):=by
   unfold gh;by_cases ht:bh c o=cost
   ·by_cases hb:b.sz=0\/ma (hd o) (hd b)<0
    ·rw[if_pos ⟨ht,hb⟩]
     exact .inr ⟨by simp,ht⟩
    ·rw[if_neg (fun h=>hb h.2)]
     rcases h with ⟨h1,h2⟩|⟨h1,h2⟩
     ·exact absurd (.inl (by rw[h1];rfl)) hb
     ·exact .inr ⟨by simp[h1],h2⟩
   ·rw[if_neg (fun h=>ht h.1)]
    rcases h with ⟨h1,h2⟩|⟨h1,h2⟩
    ·refine .inl ⟨h1,fun o' ho'=>?_⟩
     rcases List.mem_append.1 ho' with ho'|ho'
     ·exact h2 o' ho'
     ·obtain rfl:=List.mem_singleton.1 ho'
      exact ht
    ·exact .inr ⟨by simp[h1],h2⟩
  have:=rU L (D++[o]) (gh c cost b o) key;simpa using this
theorem qy{c:List Nat}{cost:Nat}{L:List Opt}:(nr c cost L=cH/\∀o ∈ L,bh c o≠cost)\/(nr c cost L ∈ L/\bh c (nr c cost L)=cost):=by
 have:=rU (c:=c) (cost:=cost) L [] cH (.inl ⟨rfl,by simp⟩);unfold nr;simpa using this
theorem uu{c:List Nat}(h:Sol p c){a st:Nat}(ha:a<=p.length)(hs:st<19)(hc:cst c a st<1073741824)(hn:¬ (st=0/\a=p.length)):chs p c a st ∈ eQ p c a st/\bh c (chs p c a st)=cst c a st:=by
 obtain⟨o,ho,ht⟩:=Ju h ha hs hc hn;rcases qy (c:=c) (cost:=cst c a st) (L:=eQ p c a st)with ⟨_,h2⟩|h2
 ·exact absurd ht (h2 o ho)
 ·exact h2
def msk(i:Nat):Nat:=149*(i+1)%255+1
def mk(k:Nat):List Nat->List Nat
 | []=>[]
 | x::l=>((x+msk k)%256)::mk (k+1) l
theorem kP:∀(k:Nat) (l:List Nat),(mk k l).length=l.length
 | k,[]=>rfl
 | k,x::l=>by simp[mk,kP (k+1) l]
theorem v8:∀(k:Nat) (l:List Nat) (x:Nat),mk k (l++[x])=mk k l++[(x+msk (k+l.length))%256]
 | k,[],x=>rfl
 | k,y::l,x=>by
  simp only[am₀,mk,v8 (k+1) l x,ak₀];rw[show k+1+l.length=k+(l.length+1) by omega]
theorem Fk:∀(k:Nat) (l m:List Nat),mk k (l++m)=mk k l++mk (k+l.length) m
 | k,[],m=>rfl
 | k,y::l,m=>by
  simp only[am₀,mk,Fk (k+1) l m,ak₀];rw[show k+1+l.length=k+(l.length+1) by omega]
def pS(p:List UInt8)(a n:Nat):List Nat:=((p.drop a).take n).map UInt8.toNat
def emit(p:List UInt8)(k a:Nat)(o:Opt):List Nat:=if o.run=0 then hd o else o.h0::mk (k+1) ((hd o).drop 1++pS p a o.run)
def n8(p:List UInt8)(c:List Nat):Nat->Nat->Nat->List Nat->List Nat
 | 0,_,_,W=>W
 | f+1,a,st,W=>if st=0/\a=p.length then W else n8 p c f (chs p c a st).nx (chs p c a st).md (W++emit p W.length a (chs p c a st))
def oG(p:List UInt8)(c:List Nat):List Nat:=n8 p c (cst c 0 0+1) 0 0 []
section
variable {lo:Nat}{H:Heap}
theorem AK{v:Value}{l:List Nat}{k:Nat}(h:SlN H v l)(hk:k<l.length):∃b o xs,aI (.iAddr 1) [v,.int .i64 (k:Nat)] H=some (.pointer (some ⟨b,o,none⟩))/\H.get b=some xs/\xs[o]?=some (aB (l.getD k 0)):=by
 obtain⟨b,o,sp,cap,xs,rfl,h2,h3,h4⟩:=h.els 0 byO;refine⟨b,o+k,xs,?_,h2,h3 k hk⟩;rw[lU byO byO];simp
open XMDc
theorem Q1{n:Int}:Ev cp lo 211 [.int .i64 n] H (fun r H'=>H=H'/\r=.bool false):=by
 refine stG rfl rfl ?_;unfold Lc;simp only[kB,aC];refine aG ?_;refine bg ?_;refine⟨rfl,?_⟩;simp[aM]
theorem Pl{a b:Nat}:Ev cp lo 199 [aB a,aB b] H (fun r H'=>H=H'/\r=.int .i64 (if a<b then -1 else if b<a then 1 else 0)):=by
 refine stG rfl rfl ?_;unfold L5;simp only[kB,aC];refine aG ?_;refine cY ?_;refine aA Q1 ?_;rintro r H1 ⟨rfl,rfl⟩;refine aG ?_;refine cY ?_;refine aA Q1 ?_;rintro r H1 ⟨rfl,rfl⟩;refine aG ?_;refine aN ?_ ?_<;>intro h
 ·cases h
 clear h;(try simp only[aC]);refine aN ?_ ?_<;>intro h
 ·cases h
 clear h;(try simp only[aC]);by_cases h1:a<b
 ·have hd:decide ((a:Int)<(b:Nat))=true:=decide_eq_true byO
  rw[if_pos h1];refine aN ?_ ?_<;>intro h
  ·refine aG ?_
   refine bg ?_;exact⟨rfl,rfl⟩
  ·simp at h
 have hd:decide ((a:Int)<(b:Nat))=false:=decide_eq_false byO;rw[if_neg h1];refine aN ?_ ?_<;>intro h
 ·simp at h
 clear h hd;(try simp only[aC]);by_cases h1:b<a
 ·have hd:decide ((a:Int)>(b:Nat))=true:=decide_eq_true byO
  have hd2:decide ((b:Int)<(a:Nat))=true:=decide_eq_true byO;rw[if_pos h1];refine aN ?_ ?_<;>intro h
  ·refine aG ?_
   refine bg ?_;exact⟨rfl,rfl⟩
  ·simp at h
 have hd:decide ((a:Int)>(b:Nat))=false:=decide_eq_false byO;have hd2:decide ((b:Int)<(a:Nat))=false:=decide_eq_false byO;rw[if_neg h1];refine aN ?_ ?_<;>intro h
 ·simp at h
 clear h hd hd2;refine aG ?_;refine bg ?_;exact⟨rfl,rfl⟩
theorem mB:∀(k:Nat) (l m:List Nat),l.take k=m.take k->k<=l.length->k<=m.length->ma l m=ma (l.drop k) (m.drop k)
 | 0,l,m,_,_,_=>rfl
 | k+1,a::l,b::m,h,h1,h2=>by
  simp only[List.take_succ_cons,List.cons.injEq]at h;obtain⟨rfl,h⟩:=h;simp only[ma,Nat.lt_irrefl,if_false,List.drop_succ_cons];exact mB k l m h (by simpa using h1) (by simpa using h2)
theorem drop_cons{l:List Nat}{k:Nat}(h:k<l.length):l.drop k=l.getD k 0::l.drop (k+1):=by
 rw[List.drop_eq_getElem_cons h];simp[au₀,h]
theorem mW{l:List Nat}{k:Nat}(h:k<l.length):l.take (k+1)=l.take k++[l.getD k 0]:=by
 rw[List.take_succ_eq_append_getElem h];simp[au₀,h]
theorem Pm{v1 v2:Value}{l m:List Nat}(h1:SlN H v1 l)(h2:SlN H v2 m)(hl:l.length<=1000000):Ev cp lo 178 [v1,v2] H (fun r H'=>H=H'/\r=.int .i64 (ma l m)):=by
 obtain⟨a1,c1,rfl⟩:=h1.len;obtain⟨a2,c2,rfl⟩:=h2.len;refine stG rfl rfl ?_;unfold LO;simp only[kB,aC];refine aG ?_;refine aT (fun k S H'=>(H=H'/\(False\/(l.take k=m.take k/\k<=m.length)))/\∃(z:Nat->Value),S=[.slice a1 l.length c1,.slice a2 m.length c2,z 2,z 3,z 4,z 5,z 6,.slice a1 l.length c1,.int .i64 (l.length:Nat),.int .i64 (k:Nat),z 10]) l.length ⟨⟨rfl,.inr ⟨rfl,Nat.zero_le _⟩⟩,aJ rfl⟩ ?_ ?_ ?_
 ·rintro k S H' hk ⟨⟨rfl,_⟩,z,rfl⟩
  exact⟨decide ((k:Int)<(l.length:Nat)),by simp(disch:=try exact dO)only[evB,xtr,Nat.reduceAdd,Nat.reduceBEq,Int.reduceToNat, *],by simp⟩
 ·rintro k S H' hk ⟨⟨rfl,he⟩,z,rfl⟩
  obtain⟨b1,o1,x1,i1,g1,e1⟩:=AK h1 hk;obtain⟨q,hq⟩:∃q,False\/l.getD k 0=q:=⟨_,.inr rfl⟩;rw[hq.resolve_left id]at e1;refine aG ?_;by_cases hkm:k<m.length
  ·have hd:decide ((k:Int)>=(m.length:Nat))=false:=decide_eq_false byO
   have hd2:decide ((m.length:Int)<=(k:Nat))=false:=decide_eq_false byO;obtain⟨b2,o2,x2,i2,g2,e2⟩:=AK h2 hkm;obtain⟨q2,hq2⟩:∃q2,False\/m.getD k 0=q2:=⟨_,.inr rfl⟩;rw[hq2.resolve_left id]at e2;have hcmp:False\/ma l m=if q<q2 then -1 else if q2<q then 1 else ma (l.drop (k+1)) (m.drop (k+1)):=by
    right;obtain⟨f1,f2⟩:=he.resolve_left id;rw[mB k l m f1 byO f2,drop_cons hk,drop_cons hkm,hq.resolve_left id,hq2.resolve_left id];rfl
   refine aN ?_ ?_<;>intro h
   ·simp at h
   clear h hd hd2;refine aG ?_;refine cY ?_;refine aA Pl ?_;rintro r H1 ⟨rfl,rfl⟩;by_cases hlt:q<q2
   ·rw[if_pos hlt]
    rw[if_pos hlt]at hcmp;refine aG ?_;refine aN ?_ ?_<;>intro h
    ·refine aG ?_
     refine bg ?_;exact⟨rfl,by rw[hcmp.resolve_left id];rfl⟩
    ·simp at h
   rw[if_neg hlt];rw[if_neg hlt]at hcmp;by_cases hgt:q2<q
   ·rw[if_pos hgt]
    rw[if_pos hgt]at hcmp;refine aG ?_;refine aN ?_ ?_<;>intro h
    ·refine aG ?_
     refine bg ?_;exact⟨rfl,by rw[hcmp.resolve_left id];rfl⟩
    ·simp at h
   rw[if_neg hgt];refine aG ?_;refine aN ?_ ?_<;>intro h
   ·simp at h
   refine aG ?_;refine⟨⟨trivial,.inr ⟨?_,byO⟩⟩,aJ ncM⟩;rw[mW hk,mW hkm,(he.resolve_left id).1,hq.resolve_left id,hq2.resolve_left id,show q=q2 by omega]
  ·have hd:decide ((k:Int)>=(m.length:Nat))=true:=decide_eq_true byO
   have hd2:decide ((m.length:Int)<=(k:Nat))=true:=decide_eq_true byO;have hcmp:False\/ma l m=1:=by
    right;obtain⟨f1,f2⟩:=he.resolve_left id;rw[mB k l m f1 byO f2,drop_cons hk,show m.drop k=[] from List.drop_eq_nil_of_le byO];rfl
   refine aN ?_ ?_<;>intro h
   ·refine aG ?_
    refine bg ?_;exact⟨rfl,by rw[hcmp.resolve_left id];rfl⟩
   ·simp at h
 ·rintro S H' ⟨⟨rfl,he⟩,z,rfl⟩
  obtain⟨f1,f2⟩:=he.resolve_left id;have hcmp:False\/ma l m=ma [] (m.drop l.length):=by
   right;rw[mB l.length l m f1 (Nat.le_refl _) f2,List.drop_length]
  clear f1 he;by_cases hlt:l.length<m.length
  ·have hd:decide ((l.length:Int)<(m.length:Nat))=true:=decide_eq_true byO
   rw[drop_cons hlt]at hcmp;(try simp only[aC]);refine aN ?_ ?_<;>intro h
   ·refine aG ?_
    refine bg ?_;exact⟨rfl,by rw[hcmp.resolve_left id];rfl⟩
   ·simp at h
  ·have hd:decide ((l.length:Int)<(m.length:Nat))=false:=decide_eq_false byO
   rw[List.drop_eq_nil_of_le byO]at hcmp;(try simp only[aC]);refine aN ?_ ?_<;>intro h
   ·simp at h
   ·refine aG ?_
    refine bg ?_;exact⟨rfl,by rw[hcmp.resolve_left id];rfl⟩
variable {sb cb:Nat}{v:Value}{p:List UInt8}{cs:List Nat}
theorem Lm{b:Nat}{o:Opt}(h:H.get b=some (aL o))(hz:o.sz<=3):SlN H (.slice (some ⟨b,0,none⟩) o.sz 3) (hd o):=by
 have hl:=lO hz;refine .inr ⟨b,0,none,3,_,by rw[hl],h,?_,by rw[hl,fh];omega,.inl rfl,byO⟩;rw[hl];unfold hd aL;have:o.sz=0\/o.sz=1\/o.sz=2\/o.sz=3:=byO;rcases this with e|e|e|e<;>rw[e]<;>rfl
theorem Pj{a st:Nat}(hs:SrH H sb cb v p cs)(ha:a<=p.length)(hst:st<19)(hlo:lo<=H.length):Ev cp lo 129 [ptr sb,aB a,aB st] H (fun r H'=>Ext H H'/\r=zn (chs p cs a st)):=by
 have hi:=hs.hi;have hsl:=Heap.get_lt hs.g;refine stG rfl rfl ?_;unfold Kd;simp only[kB,aC];refine aG ?_;have hxb:Ext H (H++[some (aL cH),some (aL cH)]):=Ext.app _ _;have hg0:(H++[some (aL cH),some (aL cH)]).get H.length=some (aL cH):=aH;have hg1:(H++[some (aL cH),some (aL cH)]).get (H.length+1)=some (aL cH):=by rw[bO];rfl
 have hlc:(H++[some (aL cH),some (aL cH)]).length<=H.length+2/\H.length+2<=(H++[some (aL cH),some (aL cH)]).length:=by simp
 change wpS cp lo _ _ _ (H++[some (aL cH),some (aL cH)]);generalize H++[some (aL cH),some (aL cH)]=H0 at hxb hg0 hg1 hlc;have hs0:=hs.ext hxb;refine cY ?_;refine aA (Q7 (lo:=lo) hs0 ha hst byO) ?_;rintro r H1 ⟨hx1,b,hb,ho⟩;have hok:∀o ∈ eQ p cs a st,o.ok p.length a:=jP ha;have hKl:=yE p cs a st;unfold chs;generalize eQ p cs a st=K at ho hok hKl ⊢;obtain⟨aw,rfl⟩:=ho.len byO fh;have hx01:=hxb.trans hx1;have hz:=hx1.get hg0;have hbst:=hx1.get hg1;have hl1:=hx1.1;have hidx:a*19+st<cs.length:=by have:=hs.len;omega
 have hat:=Be hidx;generalize hcost:cst cs a st=cost;rw[show cs.getD (a*19+st) 0=cost from hcost]at hat;clear hg0 hg1 hcost;refine aG ?_;refine aT (fun k S H'=>((Keep (H.length+1) H1 H'/\Ext H H')/\H'.get (H.length+1)=some (aL (nr cs cost (K.take k))))/\∃(z:Nat->Value),S=[ptr sb,aB a,aB st,ptr H.length,ptr (H.length+1),z 5,.slice aw K.length K.length,.int .i64 (K.length:Nat),.int .i64 (k:Nat),z 9,z 10,z 11,z 12,z 13]) K.length ⟨⟨⟨Ext.keep (Ext.refl _),hx01⟩,hbst⟩,aJ ncM⟩ ?_ ?_ ?_
 ·rintro k S H' hk ⟨h1,z,rfl⟩
  exact⟨decide ((k:Int)<(K.length:Nat)),by simp(disch:=try exact dO)only[evB,xtr,Nat.reduceAdd,Nat.reduceBEq,Int.reduceToNat, *],by simp⟩
 ·rintro k S H2 hk ⟨⟨⟨hk2,hx2⟩,hbest⟩,z,rfl⟩
  clear hbst;have ho2:=ho.keep hk2 byO;obtain⟨p4,o4,X4,i4,g4,l4,e4⟩:=ho2.at byO fh hk;have hoo:=hok _ (List.getElem_mem hk);have hr:nr cs cost (K.take (k+1))=gh cs cost (nr cs cost (K.take k)) K[k]:=by
   rw[List.take_succ_eq_append_getElem hk,CC]
  have hbsz:(nr cs cost (K.take k)).sz<=3:=by
   rcases qy (c:=cs) (cost:=cost) (L:=K.take k)with ⟨h,_⟩|⟨h,_⟩
   ·rw[h];exact Nat.zero_le _
   ·exact(hok _ (List.mem_of_mem_take h)).sz.2
  rw[hr];clear hr ho2;generalize nr cs cost (K.take k)=bo at hbest hbsz ⊢;generalize K[k]=o at e4 hoo ⊢;have hl2:=hk2.len;refine aG ?_;change wpS cp lo _ _ _ (H2++[some (aL o)]);have hxc:Ext H2 (H2++[some (aL o)]):=Ext.app _ _;have hgo:(H2++[some (aL o)]).get H2.length=some (aL o):=aH;generalize H2++[some (aL o)]=H3 at hxc hgo;clear i4 g4 l4 e4;have hs3:=hs.ext (hx2.trans hxc);have hgs:=hs3.g;have hgc:=hs3.c;have hul:(uN cs).length<=cs.length/\cs.length<=(uN cs).length:=by simp
  have hlen:cs.length<=(p.length+1)*19/\(p.length+1)*19<=cs.length:=by have:=hs.len;omega
  generalize hU:uN cs=U at hgc hat hul;clear hU;have o1:=hoo.sz;have o2:=hoo.run;have o3:=hoo.nx;have o4:=hoo.md;clear hoo;have hb3:=hxc.get hbest;refine cY ?_;refine aa (Jy (o:=o) hs3 byO) ?_;rintro r H4 ⟨hx4,rfl⟩;have hbt:gh cs cost bo o=if bh cs o=cost/\(bo.sz=0\/ma (hd o) (hd bo)<0) then o else bo:=rfl
  rw[hbt];clear hbt hgs hgc hs3;generalize bh cs o=t;have hx24:=hxc.trans hx4;have hgo4:=hx4.get hgo;have hb4:=hx4.get hb3;have hl4:=hx24.1;have hlb4:=Heap.get_lt hb4;clear hgo hb3;have hkk:Keep (H.length+1) H1 H4:=dh hk2 (.inl rfl) (Ext.keep hx24);have hxx:=hx2.trans hx24;(try simp only[aC]);by_cases ht:t=cost
  ·subst ht
   simp only[true_and];refine aN ?_ ?_<;>intro h
   ·simp at h
   clear h;have ez:(aL bo)[3]?=some (aB bo.sz):=rfl;have eo:(aL o)[3]?=some (aB o.sz):=rfl;(try simp only[aC]);by_cases hz0:bo.sz=0
   ·rw[if_pos (.inl hz0)]
    have hd:decide ((bo.sz:Int)=0)=true:=decide_eq_true byO;replace hz0:bo.sz<=0:=byO;refine bJ (t:=false) gg og tG (fun h=>by cases h) (fun _=>?_);(try simp only[aC]);refine aN ?_ ?_<;>intro h
    ·clear h
     refine aG ?_;exact⟨⟨⟨dh hkk (.inl rfl) keepSet,keepSet.ext hxx byO⟩,aE byO⟩,aJ ncM⟩
    ·cases h
   ·have hd:decide ((bo.sz:Int)=0)=false:=decide_eq_false byO
    have hor:(bo.sz=0\/ma (Go.Proofs.YtmnlgdpdgjbfgaaGreat.hd o) (Go.Proofs.YtmnlgdpdgjbfgaaGreat.hd bo)<0)↔ma (Go.Proofs.YtmnlgdpdgjbfgaaGreat.hd o) (Go.Proofs.YtmnlgdpdgjbfgaaGreat.hd bo)<0:=by simp[hz0]
    simp only[hor];clear hor;replace hz0:1<=bo.sz:=byO;refine bJ (t:=true) gg og tG (fun _=>⟨_,gg,?_⟩) (fun h=>by cases h);refine iU (Pm (lo:=lo) (Lm hgo4 o1.2) (Lm hb4 hbsz) (by rw[lO o1.2];omega)) ?_;rintro r H5 ⟨rfl,rfl⟩;generalize ma (Go.Proofs.YtmnlgdpdgjbfgaaGreat.hd o) (Go.Proofs.YtmnlgdpdgjbfgaaGreat.hd bo)=w;(try simp only[aC]);by_cases hw:w<0
    ·have hdw:decide (w<0)=true:=decide_eq_true hw
     rw[if_pos hw];clear hw;refine aN ?_ ?_<;>intro h
     ·clear h hdw
      refine aG ?_;exact⟨⟨⟨dh hkk (.inl rfl) keepSet,keepSet.ext hxx byO⟩,aE byO⟩,aJ ncM⟩
     ·simp at h
    ·have hdw:decide (w<0)=false:=decide_eq_false hw
     rw[if_neg hw];clear hw;refine aN ?_ ?_<;>intro h
     ·simp at h
     ·clear h hdw
      refine aG ?_;exact⟨⟨⟨hkk,hxx⟩,hb4⟩,aJ ncM⟩
  ·have hd:decide ((t:Int)=(cost:Nat))=false:=decide_eq_false byO
   rw[if_neg (fun h=>ht h.1)];refine aN ?_ ?_<;>intro h
   ·clear h hd
    refine aG ?_;exact⟨⟨⟨hkk,hxx⟩,hb4⟩,aJ ncM⟩
   ·exfalso
    have h2:(t:Int)=(cost:Nat):=by simpa using h
    exact ht byO
 ·rintro S H2 ⟨⟨⟨hk2,hx2⟩,hbest⟩,z,rfl⟩
  rw[List.take_length]at hbest;generalize nr cs cost K=o at hbest ⊢;have hz2:=hk2.get hz byO;have hlz:=Heap.get_lt hz2;refine aG ?_;refine bg ?_;exact⟨keepSet.ext hx2 (Nat.le_refl _),rfl⟩
end
section
variable {cp:FuncId->Option CF}{lo:Nat}
def FC(J:Nat->Nat->List Value->Heap->Prop)(Q:bN):bN:=fun ex S' H'=>match ex with | .exit j=>if aU<=j then ∃m,J m (j-aU) S' H' else Q (.exit j) S' H'|ex=>Q ex S' H'
def FA(J:Nat->Nat->List Value->Heap->Prop)(m:Nat)(Q:bN):bN:=fun ex S' H'=>match ex with | .exit j=>if aU<=j then ∃m',m'<m/\J m' (j-aU) S' H' else Q (.exit j) S' H'|ex=>Q ex S' H'
theorem D7{b alts:Stm}{Q:bN}(J:Nat->Nat->List Value->Heap->Prop)(h1:wpS cp lo b (FC J Q) S H)(h2:∀m l S H,J m l S H->wpS cp lo alts (FA J m Q) (.int .i64 ((l:Nat):Int)::S) H):wpS cp lo (.scope b alts) Q S H:=⟨J,h1,h2⟩
theorem yk{l:Nat}{s r:Stm}{Q:bN}(h:wpS cp lo s Q S H):wpS cp lo (.alt l s r) Q (.int .i64 ((l:Nat):Int)::S) H:=⟨fun _=>h,fun h=>absurd rfl h⟩
theorem ug{l k:Nat}{s r:Stm}{Q:bN}(hk:k≠l)(h:wpS cp lo r Q (.int .i64 ((k:Nat):Int)::S) H):wpS cp lo (.alt l s r) Q (.int .i64 ((k:Nat):Int)::S) H:=⟨fun h=>absurd (Int.ofNat.inj h) hk,fun _=>h⟩
def OutH(H:Heap)(b cap:Nat)(W:List Nat):Prop:=∃X,H.get b=some X/\X.length=cap/\X.take W.length=uN W/\W.length<=cap
abbrev jF(b cap:Nat)(W:List Nat):Value:=.slice (some ⟨b,0,none⟩) W.length cap
theorem OutH.keep{H H':Heap}{b b' cap:Nat}{W:List Nat}(h:OutH H b cap W)(e:Keep b' H H')(hne:b≠b'):OutH H' b cap W:=by
 obtain⟨X,h1,h2⟩:=h;exact⟨X,e.get h1 hne,h2⟩
theorem OutH.mono{H H':Heap}{b cap:Nat}{W:List Nat}(h:OutH H b cap W)(e:Ext H H'):OutH H' b cap W:=by
 obtain⟨X,h1,h2⟩:=h;exact⟨X,e.get h1,h2⟩
theorem OutH.sl{H:Heap}{b cap:Nat}{W:List Nat}(h:OutH H b cap W):SlN H (jF b cap W) W:=by
 obtain⟨X,h1,h2,h3,h4⟩:=h;exact .inr ⟨b,0,none,cap,X,rfl,h1,by rw[List.drop_zero];exact h3,byO,.inl rfl,h4⟩
theorem Si:∀l:List Nat,oneCells (uN l)=true
 | []=>rfl
 | x::l=>by simp[uN,oneCells,Value.oneCell']
theorem wA{z:List Value}{b cap t o m n:Nat}{sp:Option Nat}{W L:List Nat}{c':List Value}{R:Value->Heap->Prop}(ho:OutH H b cap W)(hlo:lo<=b)(ht:H.get t=some c')(hlen:o+n<=c'.length)(hc:(c'.drop o).take n=uN L)(hn:L.length=n)(hcap:W.length+n<=cap)
  (k:∀H',OutH H' b cap (W++L)->Keep b H H'->H'.length=H.length->R (jF b cap (W++L)) H'):wpH cp lo (.app 1 z) [jF b cap W,.slice (some ⟨t,o,sp⟩) n m] H R:=by
 obtain⟨X,h1,h2,h3,h4⟩:=ho;have e1:H.cells t o (n*1)=some (uN L):=by rw[Nat.mul_one,cells_get ht hlen,hc]
 have hL:(uN L).length=n:=by simp[hn]
 simp only[wpH,c9,hsem,e1,ao₀,Si,if_true,aZ,jF];rw[if_pos hcap];simp only[true_or,if_true];have hput:H.put lo b (0+W.length*1) (uN L)=some (H.set b (some (putCells X W.length (uN L)))):=by
  unfold Heap.put;rw[h1];simp only;rw[if_pos byO];simp
 rw[hput];simp only[Option.map_some];have hbl:=Heap.get_lt h1;have:=k (H.set b (some (putCells X W.length (uN L)))) ⟨_,aE hbl,?_,?_,by rw[as₀];omega⟩ keepSet (by simp)
 ·simpa[jF,hn]using this
 ·unfold putCells;simp[hL];omega
 ·unfold putCells
  rw[h3,<-ba₀,show uN W++uN L=uN (W++L) by simp[uN],List.take_append_of_le_length (by simp[uN]),List.take_of_length_le (by simp[uN])]
end
section
open XMDc
theorem Fg{lo:Nat}{k:Nat}(hk:k<=100000):Ev cp lo 130 [aB k] H (fun r H'=>H=H'/\r=aB (msk k)):=by
 have em:(149*((k:Int)+1)).tmod 255+1=((149*(k+1)%255+1:Nat):Int):=by rw[Int.tmod_eq_emod_of_nonneg byO];omega
 have hlt:149*(k+1)%255+1<=255:=byO;unfold msk;generalize 149*(k+1)%255+1=w at em hlt;have eq:(149*((k:Int)+1)).tmod 255=(w:Nat)-1:=byO;refine stG rfl rfl ?_;unfold Ke;simp only[kB,aC];refine aG ?_;refine bg ?_;refine⟨rfl,?_⟩;show Value.int .i64 _=Value.int .i64 _;congr 1;omega
end
def wS0:Stm:=match m9 with | .seq s _=>s|_=>.skip
def wB:Stm:=match m9 with | .seq _ (.scope b _)=>b|_=>.skip
def wB1:Stm:=match wB with | .seq s _=>s|_=>.skip
def wB2:Stm:=match wB with | .seq _ (.seq s _)=>s|_=>.skip
def wB3:Stm:=match wB with | .seq _ (.seq _ (.seq s _))=>s|_=>.skip
def wA0:Stm:=match m9 with | .seq _ (.scope _ (.alt _ a _))=>a|_=>.skip
def wA1:Stm:=match m9 with | .seq _ (.scope _ (.alt _ _ (.alt _ a _)))=>a|_=>.skip
def wA2:Stm:=match m9 with | .seq _ (.scope _ (.alt _ _ (.alt _ _ (.alt _ a _))))=>a|_=>.skip
def wA3:Stm:=match m9 with | .seq _ (.scope _ (.alt _ _ (.alt _ _ (.alt _ _ a))))=>a|_=>.skip
theorem HO:m9=.seq wS0 (.scope (.seq wB1 (.seq wB2 (.seq wB3 wA0))) (.alt 0 wA0 (.alt 1 wA1 (.alt 2 wA2 wA3)))):=by kernel_rfl
section
variable {lo:Nat}{A:Heap}{sb cb bo ob cap:Nat}{v:Value}{p:List UInt8}{cs R:List Nat}
structure Nd (A H:Heap)(sb cb bo ob cap:Nat)(v:Value)(p:List UInt8)(cs R:List Nat)(a st f:Nat)(W:List Nat):Prop where
 s:SrH A sb cb v p cs
 ext:Ext A H
 out:OutH H bo cap W
 op:∃o,H.get ob=some (aL o)
 lbo:A.length<=bo
 lob:A.length<=ob
 ne:bo≠ob
 ha:a<=p.length
 hs:st<19
 cost:W.length+cst cs a st=cap
 big:cap<=10000
 fuel:cst cs a st<f
 res:n8 p cs f a st W=R
structure NdO (A H:Heap)(sb cb bo ob cap:Nat)(v:Value)(p:List UInt8)(cs R:List Nat)(a f:Nat)(o:Opt)(W:List Nat):Prop where
 s:SrH A sb cb v p cs
 ext:Ext A H
 out:OutH H bo cap W
 op:H.get ob=some (aL o)
 lbo:A.length<=bo
 lob:A.length<=ob
 ne:bo≠ob
 ok:o.ok p.length a
 cost:W.length+bh cs o=cap
 big:cap<=10000
 fuel:bh cs o<f+1
 ha:a+o.run<=p.length
 res:n8 p cs f o.nx o.md (W++emit p W.length a o)=R
def jumps(A:Heap)(sb cb bo ob cap:Nat)(v:Value)(p:List UInt8)(cs R:List Nat):Nat->Nat->List Value->Heap->Prop:=fun m l S H=>
 (l=0/\∃a st f W,m=3*cst cs a st/\Nd A H sb cb bo ob cap v p cs R a st f W/\∃(z:Nat->Value),S=[ptr sb,z 1,jF bo cap W,aB a,aB st,ptr ob,z 6,z 7,z 8,z 9,z 10,z 11,z 12,z 13,z 14,z 15,z 16,z 17,z 18,z 19,z 20,z 21,z 22,z 23,z 24,z 25,z 26,z 27,z 28,z 29]) \/
 (l=1/\∃a f o W,m=3*bh cs o-1/\0<o.run/\NdO A H sb cb bo ob cap v p cs R a f o W/\∃(z:Nat->Value),S=[ptr sb,z 1,jF bo cap W,aB a,z 4,ptr ob,z 6,z 7,z 8,z 9,z 10,z 11,z 12,z 13,z 14,z 15,z 16,z 17,z 18,z 19,z 20,z 21,z 22,z 23,z 24,z 25,z 26,z 27,z 28,z 29]) \/
 (l=2/\∃a f o W,m=3*cst cs o.nx o.md+1/\Nd A H sb cb bo ob cap v p cs R o.nx o.md f W/\H.get ob=some (aL o)/\∃(z:Nat->Value),S=[ptr sb,z 1,jF bo cap W,aB a,z 4,ptr ob,z 6,z 7,z 8,z 9,z 10,z 11,z 12,z 13,z 14,z 15,z 16,z 17,z 18,z 19,z 20,z 21,z 22,z 23,z 24,z 25,z 26,z 27,z 28,z 29])
open XMDc
theorem Dx{Q:bN}{a st f:Nat}{W:List Nat}(hsol:Sol p cs)(hlo:lo<=A.length)(hn:Nd A H sb cb bo ob cap v p cs R a st f W)(hS:∃(z:Nat->Value),S=[ptr sb,z 1,jF bo cap W,aB a,aB st,ptr ob,z 6,z 7,z 8,z 9,z 10,z 11,z 12,z 13,z 14,z 15,z 16,z 17,z 18,z 19,z 20,z 21,z 22,z 23,z 24,z 25,z 26,z 27,z 28,z 29])
  (hret:∀S' H',Ext A H'->OutH H' bo cap R->S'[1]?=some (jF bo cap R)->Q .ret S' H')
  (h1:∀f o H' S',NdO A H' sb cb bo ob cap v p cs R a f o W->bh cs o=cst cs a st->0<o.run->(∃(z:Nat->Value),S'=[ptr sb,z 1,jF bo cap W,aB a,z 4,ptr ob,z 6,z 7,z 8,z 9,z 10,z 11,z 12,z 13,z 14,z 15,z 16,z 17,z 18,z 19,z 20,z 21,z 22,z 23,z 24,z 25,z 26,z 27,z 28,z 29])->Q (.exit 1000001) S' H')
  (h2:∀f o W H' S',Nd A H' sb cb bo ob cap v p cs R o.nx o.md f W->cst cs o.nx o.md<cst cs a st->H'.get ob=some (aL o)->(∃(z:Nat->Value),S'=[ptr sb,z 1,jF bo cap W,aB a,z 4,ptr ob,z 6,z 7,z 8,z 9,z 10,z 11,z 12,z 13,z 14,z 15,z 16,z 17,z 18,z 19,z 20,z 21,z 22,z 23,z 24,z 25,z 26,z 27,z 28,z 29])->Q (.exit 1000002) S' H'):wpS cp lo wA0 Q S H:=by
 obtain⟨z,rfl⟩:=hS;show wpS cp lo (match m9 with | .seq _ (.scope _ (.alt _ a _))=>a|_=>.skip) _ _ _;unfold m9;simp only[kB,aC];have hsH:=hn.s.ext hn.ext;have hgs:=hsH.g;obtain⟨ad,c,ev⟩:=hsH.pl.len;rw[ev]at hgs;have hi:=hsH.hi;have hlA:=hn.ext.1;by_cases hfin:st=0/\a=p.length
 ·have hR:W=R:=by
   have h1:=hn.res;have h2:=hn.fuel
   match f,h2 with
   | f+1,_=>rw[n8,if_pos hfin]at h1;exact h1
  subst hR;obtain⟨hf1,hf2⟩:=hfin;have hd1:decide ((st:Int)=0)=true:=decide_eq_true byO;have hd2:decide ((a:Int)=(p.length:Nat))=true:=decide_eq_true byO;replace hf1:st<=0:=byO;replace hf2:a<=p.length/\p.length<=a:=byO;refine aN ?_ ?_<;>intro h
  ·refine aG ?_
   exact hret _ _ hn.ext hn.out rfl
  ·cases h
 ·have hd1:(decide ((st:Int)=0)&&decide ((a:Int)=(p.length:Nat)))=false:=by
   simp only[Bool.and_eq_false_iff,ai₀];omega
  have hcst:cst cs a st<1073741824:=by have:=hn.cost;have:=hn.big;omega
  obtain⟨hmem,htot⟩:=uu hsol hn.ha hn.hs hcst hfin;have hok:=jP hn.ha _ hmem;have hcost:=hn.cost;have hbig:=hn.big;have hf:=hn.fuel;have hres:=hn.res;have hha:=hn.ha;have hhs:=hn.hs;obtain⟨f,rfl⟩:∃g,f=g+1:=⟨f-1,byO⟩;rw[n8,if_neg hfin]at hres;have hrun:a+(chs p cs a st).run<=p.length:=by
   rcases sL _ hmem with h|h
   ·omega
   ·have:=hok.nx.2;omega
  clear hcst hmem;refine aN ?_ ?_<;>intro h
  ·exfalso;first|(rw[hd1]at h;cases h)|cases h
  clear h hd1;replace hres:False\/_:=.inr hres;replace htot:False\/_:=.inr htot;replace hcost:False\/_:=.inr hcost;(try simp only[aC]);refine cY ?_;refine aA (Pj (lo:=lo) hsH hha hhs byO) ?_;rintro r H1 ⟨hx1,rfl⟩;generalize chs p cs a st=o at hres htot hok hrun;obtain⟨oo,hob⟩:=hn.op;have hob1:=hx1.get hob;have hobl:=Heap.get_lt hob1;have hlob:=hn.lob;refine aG ?_;change wpS cp lo _ _ _ (List.set H1 ob (some (aL o)));have hk2:Keep ob H1 (List.set H1 ob (some (aL o))):=keepSet;have hg2:Heap.get (List.set H1 ob (some (aL o))) ob=some (aL o):=aE byO;have hn2:NdO A (List.set H1 ob (some (aL o))) sb cb bo ob cap v p cs R a f o W:=
   ⟨hn.s,hk2.ext (hn.ext.trans hx1) hn.lob,(hn.out.mono hx1).keep hk2 hn.ne,hg2,hn.lbo,hn.lob,hn.ne,hok,by rw[htot.resolve_left id];exact hcost.resolve_left id,hbig,by rw[htot.resolve_left id];exact hf,hrun,hres.resolve_left id⟩
  generalize List.set H1 ob (some (aL o))=H2 at hk2 hg2 hn2;have o1:=hok.sz;have o2:=hok.run;have o3:=hok.nx;have o4:=hok.md;have er:(aL o)[4]?=some (aB o.run):=rfl;have ez:(aL o)[3]?=some (aB o.sz):=rfl;clear hob hob1 hgs;by_cases hr0:0<o.run
  ·have hd:decide ((o.run:Int)>0)=true:=decide_eq_true byO
   have hd2:decide ((0:Int)<(o.run:Nat))=true:=decide_eq_true byO;refine aN ?_ ?_<;>intro h
   ·(try simp only[aC])
    exact h1 _ _ _ _ hn2 (htot.resolve_left id) hr0 (aJ rfl)
   ·simp at h
  ·have hd:decide ((o.run:Int)>0)=false:=decide_eq_false byO
   have hd2:decide ((0:Int)<(o.run:Nat))=false:=decide_eq_false byO;have hem:emit p W.length a o=Go.Proofs.YtmnlgdpdgjbfgaaGreat.hd o:=by unfold emit;rw[if_pos byO]
   have hts:bh cs o=o.sz+o.run+cst cs o.nx o.md:=rfl;have hout:=hn2.out;have hhl:=lO o1.2;refine aN ?_ ?_<;>intro h
   ·simp at h
   clear h hd hd2;replace hem:False\/_:=.inr hem;replace hts:False\/_:=.inr hts;have hcap:W.length+o.sz+cst cs o.nx o.md<=cap:=by
    have:=hcost.resolve_left id;have:=htot.resolve_left id;have:=hts.resolve_left id;omega
   (try simp only[aC]);refine cY ?_;refine wA (L:=Go.Proofs.YtmnlgdpdgjbfgaaGreat.hd o) hout (by have:=hn.lbo;omega) hg2 (by rw[fh];omega) ?_ hhl byO ?_
   ·unfold Go.Proofs.YtmnlgdpdgjbfgaaGreat.hd aL
    have:o.sz=1\/o.sz=2\/o.sz=3:=byO;rcases this with e|e|e<;>rw[e]<;>rfl
   intro H3 ho3 hk3 hl3;refine aG ?_;refine h2 f o (W++Go.Proofs.YtmnlgdpdgjbfgaaGreat.hd o) H3 _ ⟨hn.s,hk3.ext hn2.ext hn.lbo,ho3,⟨o,hk3.get hg2 (fun e=>hn.ne e.symm)⟩,hn.lbo,hn.lob,hn.ne,o3.2,o4,?_,hbig,?_,?_⟩ ?_ (hk3.get hg2 (fun e=>hn.ne e.symm)) (aJ rfl)
   ·rw[as₀,hhl]
    have:=hcost.resolve_left id;have:=htot.resolve_left id;have:=hts.resolve_left id;omega
   ·have:=htot.resolve_left id
    have:=hts.resolve_left id;omega
   ·rw[<-hem.resolve_left id];exact hres.resolve_left id
   ·have:=htot.resolve_left id
    have:=hts.resolve_left id;omega
theorem M2{Q:bN}{a f:Nat}{o:Opt}{W:List Nat}(hn:Nd A H sb cb bo ob cap v p cs R o.nx o.md f W)(hg:H.get ob=some (aL o))(hS:∃(z:Nat->Value),S=[ptr sb,z 1,jF bo cap W,aB a,z 4,ptr ob,z 6,z 7,z 8,z 9,z 10,z 11,z 12,z 13,z 14,z 15,z 16,z 17,z 18,z 19,z 20,z 21,z 22,z 23,z 24,z 25,z 26,z 27,z 28,z 29])
  (h0:∀S',(∃z:Nat->Value,S'=[ptr sb,z 1,jF bo cap W,aB o.nx,aB o.md,ptr ob,z 6,z 7,z 8,z 9,z 10,z 11,z 12,z 13,z 14,z 15,z 16,z 17,z 18,z 19,z 20,z 21,z 22,z 23,z 24,z 25,z 26,z 27,z 28,z 29])->Q (.exit 1000000) S' H):wpS cp lo wA2 Q S H:=by
 obtain⟨z,rfl⟩:=hS;show wpS cp lo (match m9 with | .seq _ (.scope _ (.alt _ _ (.alt _ _ (.alt _ a _))))=>a|_=>.skip) _ _ _;unfold m9;simp only[kB,aC];have e5:(aL o)[5]?=some (aB o.nx):=rfl;have e6:(aL o)[6]?=some (aB o.md):=rfl;refine aG ?_;exact h0 _ (aJ rfl)
theorem getD_map{l:List UInt8}{k:Nat}(h:k<l.length):(l.map UInt8.toNat).getD k 0=(l.getD k 0).toNat:=by
 simp[au₀,az₀,bc₀ h]
theorem Od{v:Value}{l:List UInt8}{a n:Nat}(h:SlU H v l)(hn:a+n<=l.length)(hn0:0<n):∃v',(∀G,aI (.sl 1 true true false) [v,.int .i64 (a:Nat),.int .i64 ((a:Int)+(n:Nat))] G=some v')/\SlU H v' ((l.drop a).take n):=by
 rcases h with ⟨rfl,rfl⟩|⟨b,o,sp,cap,xs,rfl,h2,h3,h4,h5,h6⟩
 ·have:n=0:=by have:([]:List UInt8).length=0:=rfl;omega
  omega
 ·have hd:(xs.drop (o+a)).take n=((l.drop a).take n).map vD:=by
   rw[List.map_take,List.map_drop,<-h3,<-List.drop_drop,List.drop_take,List.take_take,Nat.min_eq_left byO]
  have hl:((l.drop a).take n).length=n:=by simp;omega
  have hb:bounds l.length cap true true false [Value.int .i64 (a:Nat),.int .i64 ((a:Int)+(n:Nat))]=some (a,a+n,cap):=by
   simp[bounds,toB];rw[if_pos ⟨byO,byO⟩,show((a:Int)+(n:Nat)).toNat=a+n by omega];simp
  rcases h5 with rfl|rfl
  ·refine⟨.slice (some ⟨b,o+a,none⟩) n (cap-a),?_,.inr ⟨b,o+a,none,cap-a,xs,by rw[hl],h2,by rw[hl];exact hd,by rw[hl];omega,.inl rfl,by rw[hl];omega⟩⟩
   intro G;rw[zh,hb];simp;omega
  ·refine⟨.slice (some ⟨b,o+a,some 1⟩) n (cap-a),?_,.inr ⟨b,o+a,some 1,cap-a,xs,by rw[hl],h2,by rw[hl];exact hd,by rw[hl];omega,.inr rfl,by rw[hl];omega⟩⟩
   intro G;rw[zg,hb];simp
theorem M1{Q:bN}{a f:Nat}{o:Opt}{W:List Nat}(hlo:lo<=A.length)(hn:NdO A H sb cb bo ob cap v p cs R a f o W)(hr:0<o.run)(hS:∃(z:Nat->Value),S=[ptr sb,z 1,jF bo cap W,aB a,z 4,ptr ob,z 6,z 7,z 8,z 9,z 10,z 11,z 12,z 13,z 14,z 15,z 16,z 17,z 18,z 19,z 20,z 21,z 22,z 23,z 24,z 25,z 26,z 27,z 28,z 29])
  (h0:∀S' H' W',Nd A H' sb cb bo ob cap v p cs R o.nx o.md f W'->(∃z:Nat->Value,S'=[ptr sb,z 1,jF bo cap W',aB o.nx,aB o.md,ptr ob,z 6,z 7,z 8,z 9,z 10,z 11,z 12,z 13,z 14,z 15,z 16,z 17,z 18,z 19,z 20,z 21,z 22,z 23,z 24,z 25,z 26,z 27,z 28,z 29])->Q (.exit 1000000) S' H'):wpS cp lo wA1 Q S H:=by
 obtain⟨z,rfl⟩:=hS;show wpS cp lo (match m9 with | .seq _ (.scope _ (.alt _ _ (.alt _ a _)))=>a|_=>.skip) _ _ _;unfold m9;simp only[kB,aC];have hg:=hn.op;have hobl:=Heap.get_lt hg;have e0:(aL o)[0]?=some (aB o.h0):=rfl;have e3:(aL o)[3]?=some (aB o.sz):=rfl;have e4:(aL o)[4]?=some (aB o.run):=rfl;have o1:=hn.ok.sz;have o2:=hn.ok.run;have o3:=hn.ok.nx;have o4:=hn.ok.md;have oh:=hn.ok.h;have hcost:=hn.cost;have hbig:=hn.big;have hlbo:=hn.lbo;have hlob:=hn.lob;have hts:bh cs o=o.sz+o.run+cst cs o.nx o.md:=rfl;have hcap:W.length+o.sz+o.run+cst cs o.nx o.md=cap:=byO;replace hcap:W.length+o.sz+o.run+cst cs o.nx o.md<=cap/\cap<=W.length+o.sz+o.run+cst cs o.nx o.md:=byO;clear hts hcost;have hxA:=hn.ext;have hlA:=hxA.1;refine aG ?_;change wpS cp lo _ _ _ (H++[some [aB o.h0]]);have hxb:Ext H (H++[some [aB o.h0]]):=Ext.app _ _;have hgb:(H++[some [aB o.h0]]).get H.length=some [aB o.h0]:=aH;generalize H++[some [aB o.h0]]=H1 at hxb hgb;refine cY ?_;refine wA (L:=[o.h0]) (hn.out.mono hxb) byO hgb (by simp) rfl rfl byO ?_;intro H2 ho2 hk2 hl2;have hg2:=hk2.get (hxb.get hg) (fun e=>hn.ne e.symm);have hx2:=hk2.ext (hxA.trans hxb) hlbo;clear hgb;have hL1:(W++[o.h0]).length=W.length+1:=by simp
 generalize hW1:W++[o.h0]=W1 at ho2 hL1;replace hL1:W1.length<=W.length+1/\W.length+1<=W1.length:=byO;have hb3:bounds 3 3 true true false [Value.int .i64 1,aB o.sz]=some (1,o.sz,3):=by
  simp[bounds,toB];rw[if_pos o1.2,ao₀,if_pos byO];rfl
 obtain⟨D,hD⟩:∃D,False\/(Go.Proofs.YtmnlgdpdgjbfgaaGreat.hd o).drop 1=D:=⟨_,.inr rfl⟩;have hDl:D.length<=o.sz-1/\o.sz-1<=D.length:=by
  rw[<-hD.resolve_left id,List.length_drop,lO o1.2];omega
 have hDat:False\/∀k,k<D.length->(aL o)[1+k]?=some (aB (D.getD k 0))/\D.getD k 0<=255:=by
  right;rw[<-hD.resolve_left id];unfold Go.Proofs.YtmnlgdpdgjbfgaaGreat.hd aL;intro k hk;have:o.sz=1\/o.sz=2\/o.sz=3:=byO;rcases this with e|e|e
  ·rw[e]at hk;simp at hk
  ·rw[e]at hk ⊢
   have:k=0:=by simp at hk;omega
   subst this;exact⟨rfl,oh.2.1⟩
  ·rw[e]at hk ⊢
   have:k=0\/k=1:=by simp at hk;omega
   rcases this with rfl|rfl
   ·exact⟨rfl,oh.2.1⟩
   ·exact⟨rfl,oh.2.2⟩
 refine aG ?_;refine fW (fun S' H'=>(Ext A H'/\OutH H' bo cap (W1++mk W1.length D)/\H'.get ob=some (aL o))/\∃z:Nat->Value,S'=[ptr sb,z 1,jF bo cap (W1++mk W1.length D),aB a,z 4,ptr ob,z 6,z 7,z 8,z 9,z 10,z 11,z 12,z 13,z 14,z 15,z 16,z 17,z 18,z 19,z 20,z 21,z 22,z 23,z 24,z 25,z 26,z 27,z 28,z 29]) ?_ ?_
 ·skip
  refine aT (fun k S H'=>(Ext A H'/\OutH H' bo cap (W1++mk W1.length (D.take k))/\H'.get ob=some (aL o))/\∃(z:Nat->Value),S=[ptr sb,z 1,jF bo cap (W1++mk W1.length (D.take k)),aB a,z 4,ptr ob,z 6,z 7,z 8,z 9,z 10,z 11,z 12,z 13,.slice (some ⟨ob,1,none⟩) (o.sz-1) (3-1),.int .i64 (o.sz-1:Nat),.int .i64 (k:Nat),z 17,z 18,z 19,z 20,z 21,z 22,z 23,z 24,z 25,z 26,z 27,z 28,z 29]) (o.sz-1) ⟨⟨hx2,by simpa[mk]using ho2,hg2⟩,aJ (by simp[mk];done)⟩ ?_ ?_ ?_
  ·rintro k S H' hk ⟨_,z,rfl⟩
   exact⟨decide ((k:Int)<((o.sz-1:Nat):Int)),by simp(disch:=try exact dO)only[evB,xtr,Nat.reduceAdd,Nat.reduceBEq,Int.reduceToNat, *],by simp⟩
  ·rintro k S H3 hk ⟨⟨hx3,ho3,hg3⟩,z,rfl⟩
   obtain⟨hat,hle⟩:=hDat.resolve_left id k byO;have hsn:=v8 W1.length (D.take k) (D.getD k 0);rw[<-mW (by omega:k<D.length),List.length_take_of_le (by omega:k<=D.length)]at hsn;have hml:=kP W1.length (D.take k);rw[List.length_take_of_le (by omega:k<=D.length)]at hml;rw[hsn,<-ba₀];generalize D.getD k 0=x at hat hle;have hWl:(W1++mk W1.length (D.take k)).length<=W1.length+k/\W1.length+k<=(W1++mk W1.length (D.take k)).length:=by simp[hml]
   have hle2:(W1++mk W1.length (D.take k)).length=W1.length+k:=byO;generalize W1++mk W1.length (D.take k)=W2 at ho3 hWl hle2;rw[<-hle2];clear hsn hml hle2;have hmm:msk W2.length<=256:=by unfold msk;omega
   have hl3:=hx3.1;refine aG ?_;refine cY ?_;refine aA (Fg (lo:=lo) (k:=W2.length) byO) ?_;rintro r H4 ⟨rfl,rfl⟩;generalize msk W2.length=ms at hmm;have em:((x:Int)+(ms:Nat)).tmod 256=(((x+ms)%256:Nat):Int):=by rw[Int.tmod_eq_emod_of_nonneg byO];omega
   have hy:(x+ms)%256<256:=byO;generalize (x+ms)%256=y at em hy;refine aG ?_;change wpS cp lo _ _ _ (H3++[some [aB y]]);have hxd:Ext H3 (H3++[some [aB y]]):=Ext.app _ _;have hgd:(H3++[some [aB y]]).get H3.length=some [aB y]:=aH;have hld:(H3++[some [aB y]]).length<=H3.length+1/\H3.length+1<=(H3++[some [aB y]]).length:=by simp
   generalize H3++[some [aB y]]=H5 at hxd hgd hld;refine cY ?_;refine wA (L:=[y]) (ho3.mono hxd) byO hgd (by simp) rfl rfl byO ?_;intro H6 ho6 hk6 hl6;have hx6:=hk6.ext (hx3.trans hxd) hlbo;have hg6:=hk6.get (hxd.get hg3) (fun e=>hn.ne e.symm);clear hgd;refine aG ?_;exact⟨⟨hx6,ho6,hg6⟩,aJ ncM⟩
  ·rintro S H3 ⟨⟨hx3,ho3,hg3⟩,z,rfl⟩
   rw[List.take_of_length_le hDl.1]at *;(try simp only[aC]);exact⟨⟨hx3,ho3,hg3⟩,aJ rfl⟩
 ·rintro S1 H7 ⟨⟨hx7,ho7,hg7⟩,z1,rfl⟩
  have hW3l:(W1++mk W1.length D).length=W1.length+(o.sz-1):=by rw[as₀,kP];omega
  obtain⟨W3,hW3⟩:∃W3,False\/W1++mk W1.length D=W3:=⟨_,.inr rfl⟩;rw[hW3.resolve_left id]at ho7 hW3l ⊢;replace hW3l:W3.length<=W1.length+(o.sz-1)/\W1.length+(o.sz-1)<=W3.length:=byO;clear hDat hg2 ho2 hx2;have hs7:=hn.s.ext hx7;have hgs7:=hs7.g;have hr3:=hn.ha;obtain⟨pv,hpv,hsvA⟩:=Od hn.s.pl hr3 hr;obtain⟨av,cv,rfl⟩:=hsvA.len;have hpv7:=hpv H7;have hRl:((p.drop a).take o.run).length=o.run:=by simp;omega
  rw[hRl]at hpv7 hsvA;obtain⟨E,hE⟩:∃E,False\/pS p a o.run=E:=⟨_,.inr rfl⟩;have hEl:E.length<=o.run/\o.run<=E.length:=by rw[<-hE.resolve_left id];unfold pS;rw[ay₀,hRl];omega
  have hEat:False\/∀k,k<o.run->E.getD k 0=(((p.drop a).take o.run).getD k 0).toNat:=by
   right;intro k hk;rw[<-hE.resolve_left id];exact getD_map byO
  clear hpv;have hi:=hn.s.hi;refine aG ?_;have e5:(aL o)[5]?=some (aB o.nx):=rfl;have e6:(aL o)[6]?=some (aB o.md):=rfl;refine fW (fun S' H'=>(Ext A H'/\OutH H' bo cap (W3++mk W3.length E)/\H'.get ob=some (aL o))/\∃z:Nat->Value,S'=[ptr sb,z 1,jF bo cap (W3++mk W3.length E),aB a,z 4,ptr ob,z 6,z 7,z 8,z 9,z 10,z 11,z 12,z 13,z 14,z 15,z 16,z 17,z 18,z 19,z 20,z 21,z 22,z 23,z 24,z 25,z 26,z 27,z 28,z 29]) ?_ ?_
  ·refine aT (fun k S H'=>(Ext A H'/\OutH H' bo cap (W3++mk W3.length (E.take k))/\H'.get ob=some (aL o))/\∃(z:Nat->Value),S=[ptr sb,z 1,jF bo cap (W3++mk W3.length (E.take k)),aB a,z 4,ptr ob,z 6,z 7,z 8,z 9,z 10,z 11,z 12,z 13,z 14,z 15,z 16,z 17,z 18,z 19,z 20,z 21,.slice av o.run cv,.int .i64 (o.run:Nat),.int .i64 (k:Nat),z 25,z 26,z 27,z 28,z 29]) o.run ⟨⟨hx7,by simpa[mk]using ho7,hg7⟩,aJ (by simp[mk];done)⟩ ?_ ?_ ?_
   ·rintro k S H' hk ⟨_,z,rfl⟩
    exact⟨decide ((k:Int)<(o.run:Int)),by simp(disch:=try exact dO)only[evB,xtr,Nat.reduceAdd,Nat.reduceBEq,Int.reduceToNat, *],by simp⟩
   ·rintro k S H3 hk ⟨⟨hx3,ho3,hg3⟩,z,rfl⟩
    have hat0:=hEat.resolve_left id k hk;have hsn:=v8 W3.length (E.take k) (E.getD k 0);rw[<-mW (by omega:k<E.length),List.length_take_of_le (by omega:k<=E.length)]at hsn;have hml:=kP W3.length (E.take k);rw[List.length_take_of_le (by omega:k<=E.length)]at hml;obtain⟨bb,bo2,xs,hia,hgx,hxx⟩:=qI (hsvA.mono hx3) (k:=k) byO;rw[hsn,<-ba₀];have hxb:=(((p.drop a).take o.run).getD k 0).toNat_lt;replace hxx:xs[bo2]?=some (.int .u8 ((((p.drop a).take o.run).getD k 0).toNat:Nat)):=hxx;rw[<-hat0]at hxx hxb;generalize E.getD k 0=x at hxx hxb;have hWl:(W3++mk W3.length (E.take k)).length<=W3.length+k/\W3.length+k<=(W3++mk W3.length (E.take k)).length:=by simp[hml]
    have hle2:(W3++mk W3.length (E.take k)).length=W3.length+k:=byO;generalize W3++mk W3.length (E.take k)=W2 at ho3 hWl hle2;rw[<-hle2];clear hsn hml hle2 hat0 hgs7 hpv7;have hmm:msk W2.length<=256:=by unfold msk;omega
    have hl3:=hx3.1;refine aG ?_;refine cY ?_;refine aA (Fg (lo:=lo) (k:=W2.length) byO) ?_;rintro r H4 ⟨rfl,rfl⟩;generalize msk W2.length=ms at hmm;have em:((x:Int)+(ms:Nat)).tmod 256=(((x+ms)%256:Nat):Int):=by rw[Int.tmod_eq_emod_of_nonneg byO];omega
    have hy:(x+ms)%256<256:=byO;generalize (x+ms)%256=y at em hy;refine aG ?_;change wpS cp lo _ _ _ (H3++[some [aB y]]);have hxd:Ext H3 (H3++[some [aB y]]):=Ext.app _ _;have hgd:(H3++[some [aB y]]).get H3.length=some [aB y]:=aH;have hld:(H3++[some [aB y]]).length<=H3.length+1/\H3.length+1<=(H3++[some [aB y]]).length:=by simp
    generalize H3++[some [aB y]]=H5 at hxd hgd hld;refine cY ?_;refine wA (L:=[y]) (ho3.mono hxd) byO hgd (by simp) rfl rfl byO ?_;intro H6 ho6 hk6 hl6;have hx6:=hk6.ext (hx3.trans hxd) hlbo;have hg6:=hk6.get (hxd.get hg3) (fun e=>hn.ne e.symm);clear hgd;refine aG ?_;exact⟨⟨hx6,ho6,hg6⟩,aJ ncM⟩
   ·rintro S H3 ⟨⟨hx3,ho3,hg3⟩,z,rfl⟩
    rw[List.take_of_length_le hEl.1]at *;(try simp only[aC]);exact⟨⟨hx3,ho3,hg3⟩,aJ rfl⟩
  ·rintro S1 H8 ⟨⟨hx8,ho8,hg8⟩,z1,rfl⟩
   have hem:W3++mk W3.length E=W++emit p W.length a o:=by
    rw[<-hW3.resolve_left id,<-hW1];unfold emit;rw[if_neg byO,hD.resolve_left id,hE.resolve_left id,Fk];simp only[ba₀,am₀,List.nil_append,as₀,ak₀,an₀,kP,Nat.zero_add,show W.length+(D.length+1)=W.length+1+D.length by omega]
   have hlen:(W3++mk W3.length E).length=W3.length+o.run:=by rw[as₀,kP];omega
   have hres:=hn.res;rw[<-hem]at hres;have hf:=hn.fuel;have hts:bh cs o=o.sz+o.run+cst cs o.nx o.md:=rfl;clear hem;generalize W3++mk W3.length E=W4 at ho8 hlen hres;replace hlen:W4.length<=W3.length+o.run/\W3.length+o.run<=W4.length:=byO;replace hres:False\/_:=.inr hres;replace hts:False\/_:=.inr hts;refine aG ?_;refine h0 _ _ W4 ⟨hn.s,hx8,ho8,⟨o,hg8⟩,hlbo,hlob,hn.ne,o3.2,o4,byO,hbig,?_,hres.resolve_left id⟩ (aJ rfl);have:=hts.resolve_left id;omega
theorem I5{J:Nat->Nat->List Value->Heap->Prop}{Q:bN}:FC J Q .ret S H=Q .ret S H:=rfl
theorem I4{J:Nat->Nat->List Value->Heap->Prop}{m:Nat}{Q:bN}:FA J m Q .ret S H=Q .ret S H:=rfl
theorem Aj{J:Nat->Nat->List Value->Heap->Prop}{Q:bN}{l:Nat}(h:∃m,J m l S H):FC J Q (.exit (1000000+l)) S H:=by
 show(if aU<=1000000+l then ∃m,J m (1000000+l-aU) S H else Q _ S H);unfold aU;rw[if_pos byO,show 1000000+l-1000000=l by omega];exact h
theorem q9{J:Nat->Nat->List Value->Heap->Prop}{m:Nat}{Q:bN}{l:Nat}(h:∃m',m'<m/\J m' l S H):FA J m Q (.exit (1000000+l)) S H:=by
 show(if aU<=1000000+l then ∃m',m'<m/\J m' (1000000+l-aU) S H else Q _ S H);unfold aU;rw[if_pos byO,show 1000000+l-1000000=l by omega];exact h
theorem NdO.pos{A H:Heap}{a f:Nat}{o:Opt}{W:List Nat}(h:NdO A H sb cb bo ob cap v p cs R a f o W):cst cs o.nx o.md+1<=bh cs o:=by
 have:=h.ok.sz;have e:bh cs o=o.sz+o.run+cst cs o.nx o.md:=rfl;omega
theorem Ol(hs:SrH H sb cb v p cs)(hsol:Sol p cs)(hlo:lo<=H.length):Ev cp lo 76 [ptr sb] H (fun r H'=>Ext H H'/\SlN H' r (oG p cs)):=by
 refine stG rfl rfl ?_;rw[HO];rw[ot];unfold wS0 m9;simp only[kB];have hgs:=hs.g;have hgc:=hs.c;have hlen:=hs.len;have hi:=hs.hi;have hcost:=lC hsol p.length 0 byO;have hat:=Be (cs:=cs) (k:=0*19+0) byO;have hul:(uN cs).length<=cs.length/\cs.length<=(uN cs).length:=by simp
 replace hlen:cs.length<=(p.length+1)*19/\(p.length+1)*19<=cs.length:=byO;replace hat:(uN cs)[0]?=some (aB (cst cs 0 0)):=hat;generalize hcap:cst cs 0 0=cap at hcost hat;replace hcap:False\/_:=.inr hcap;generalize uN cs=U at hgc hat hul;have hret:∀{S' H'} {bo:Nat} {R':List Nat},R'=oG p cs->Ext H H'->OutH H' bo cap R'->S'[1]?=some (jF bo cap R')->ef ⟨0,0,[.var 1],.skip,.plain⟩ (fun r H'=>Ext H H'/\SlN H' r (oG p cs)) .ret S' H':=by
  intro S' H' bo R' hR hx ho hS;subst hR;refine j5 (vs:=[jF bo cap (oG p cs)]) ?_ ⟨hx,ho.sl⟩;simp(disch:=try exact dO)only[evB,xtr,Nat.reduceAdd,Nat.reduceBEq,Int.reduceToNat, *]
 generalize ef ⟨0,0,[.var 1],.skip,.plain⟩ (fun r H'=>Ext H H'/\SlN H' r (oG p cs))=QQ at hret;replace hret:False\/_:=.inr @hret;refine aG ?_;refine D7 (jumps H sb cb H.length (H.length+1) cap v p cs (oG p cs)) ?_ ?_
 ·rw[ot]
  unfold wB1 wB m9;simp only[kB];refine aG ?_;simp only[K.z];have hxb:Ext H (H++[some (ak (List.replicate cap 0)),some [Value.int .i64 0,Value.int .i64 0,Value.int .i64 0,Value.int .i64 0,Value.int .i64 0,Value.int .i64 0,Value.int .i64 0]]):=Ext.app _ _;have hg0:Heap.get (H++[some (ak (List.replicate cap 0)),some [Value.int .i64 0,Value.int .i64 0,Value.int .i64 0,Value.int .i64 0,Value.int .i64 0,Value.int .i64 0,Value.int .i64 0]]) H.length=some (ak (List.replicate cap 0)):=aH;have hg1:Heap.get (H++[some (ak (List.replicate cap 0)),some [Value.int .i64 0,Value.int .i64 0,Value.int .i64 0,Value.int .i64 0,Value.int .i64 0,Value.int .i64 0,Value.int .i64 0]]) (H.length+1)=some (aL cH):=by rw[bO];rfl
  have hnd:Nd H (H++[some (ak (List.replicate cap 0)),some [Value.int .i64 0,Value.int .i64 0,Value.int .i64 0,Value.int .i64 0,Value.int .i64 0,Value.int .i64 0,Value.int .i64 0]]) sb cb H.length (H.length+1) cap v p cs (oG p cs) 0 0 (cst cs 0 0+1) []:=
   ⟨hs,hxb,⟨_,hg0,by simp[ak],by simp,by simp⟩,⟨cH,hg1⟩,Nat.le_refl _,byO,byO,byO,byO,by rw[hcap.resolve_left id];simp,byO,byO,rfl⟩
  generalize H++[some (ak (List.replicate cap 0)),some [Value.int .i64 0,Value.int .i64 0,Value.int .i64 0,Value.int .i64 0,Value.int .i64 0,Value.int .i64 0,Value.int .i64 0]]=H1 at hnd;refine Dx hsol hlo hnd (aJ rfl) ?_ ?_ ?_
  ·intro S' H' hx ho h1
   rw[I5];exact hret.resolve_left id rfl hx ho h1
  ·intro f o H' S' hn ht hr hS
   refine Aj (l:=1) ⟨_,.inr (.inl ⟨rfl,_,_,_,_,rfl,hr,hn,hS⟩)⟩
  ·intro f o W H' S' hn hlt hg hS
   exact Aj (l:=2) ⟨_,.inr (.inr ⟨rfl,_,f,o,W,rfl,hn,hg,hS⟩)⟩
 ·rintro m l S H1 (⟨rfl,a,st,f,W,rfl,hn,hS⟩|⟨rfl,a,f,o,W,rfl,hr,hn,hS⟩|⟨rfl,a,f,o,W,rfl,hn,hg,hS⟩)
  ·refine yk (Dx hsol hlo hn hS ?_ ?_ ?_)
   ·intro S' H' hx ho h1
    rw[I4];exact hret.resolve_left id rfl hx ho h1
   ·intro f o H' S' hn ht hr hS
    have:=hn.pos;exact q9 (l:=1) ⟨_,byO,.inr (.inl ⟨rfl,_,_,_,_,rfl,hr,hn,hS⟩)⟩
   ·intro f o W H' S' hn hlt hg hS
    exact q9 (l:=2) ⟨_,byO,.inr (.inr ⟨rfl,_,f,o,W,rfl,hn,hg,hS⟩)⟩
  ·refine ug (by decide) (yk (M1 hlo hn hr hS ?_))
   intro S' H' W' hn' hS';have:=hn.pos;obtain⟨z,rfl⟩:=hS';exact q9 (l:=0) ⟨_,byO,.inl ⟨rfl,_,_,f,W',rfl,hn',aJ rfl⟩⟩
  ·refine ug (by decide) (ug (by decide) (yk (M2 hn hg hS ?_)))
   intro S' hS';obtain⟨z,rfl⟩:=hS';exact q9 (l:=0) ⟨_,byO,.inl ⟨rfl,_,_,f,W,rfl,hn,aJ rfl⟩⟩
end
section
variable {lo:Nat}{H:Heap}{v:Value}{p:List UInt8}
open XMDc
theorem Rv(hp:SlU H v p)(hl:p.length<=4096)(hlo:lo<=H.length):Ev cp lo 38 [v] H (fun r H'=>Ext H H'/\∃u cs,New p 0 cs/\r=.tuple #[u,.int .i64 0]/\SlN H' u (oG p cs)):=by
 obtain⟨ad,c,ev⟩:=hp.len;subst ev;refine stG rfl rfl ?_;unfold PN;simp only[kB,aC];refine aG ?_;refine aN ?_ ?_<;>intro h
 ·exfalso;simp at h;omega
 clear h;(try simp only[aC]);refine cY ?_;refine aA (Se hp hl hlo) ?_;rintro r H1 ⟨hx1,sb,cb,cs,rfl,hn,hs⟩;have hl1:=hx1.1;replace hn:False\/_:=.inr hn;(try simp only[aC]);refine cY ?_;refine aA (Ol hs.s (BH (hn.resolve_left id)) byO) ?_;rintro r H2 ⟨hx2,hsl⟩;refine aG ?_;refine bg ?_;exact⟨hx1.trans hx2,r,cs,hn.resolve_left id,rfl,hsl⟩
end
end Go.Proofs.YtmnlgdpdgjbfgaaGreat
