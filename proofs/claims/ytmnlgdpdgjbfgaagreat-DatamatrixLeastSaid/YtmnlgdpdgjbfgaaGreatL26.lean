/- Lemmas. -/
import Derived.Test.YtmnlgdpdgjbfgaaGreatL25
set_option linter.all false
namespace Go.Proofs.YtmnlgdpdgjbfgaaGreat
open Go.Abs
variable{H:Heap}{S:List Value}{p:List UInt8}
set_option maxRecDepth 20000
def Agr(a:Nat)(c c':List Nat):Prop:=∀j,a*19<=j->c'.getD j 0=c.getD j 0
theorem sG{a:Nat}{c c':List Nat}{o:Opt}(h:Agr a c c')(ho:a<=o.nx):bD c' o=bD c o:=by
 unfold bD;rw[h _ (by have:=Nat.mul_le_mul_right 19 ho;omega)]
theorem nQ(a n:Nat):(cW a n).nx=a+n:=by unfold cW;split<;>rfl
theorem v7{a:Nat}{c c':List Nat}(h:Agr (a+1) c c'):∀n,fW c' a n=fW c a n
 | 0=>rfl
 | n+1=>by
  by_cases hn:n=0
  ·subst hn;rfl
  ·obtain⟨k,h1,h2,h3⟩:=nO (cs:=c) (at':=a) n byO
   rw[fW,fW,if_neg hn,if_neg hn,v7 h n,sG (o:=cW a (n+1)) h (by rw[nQ];omega),h3,sG (o:=cW a k) h (by rw[nQ];omega)]
theorem nr{a:Nat}{c c':List Nat}(h:Agr (a+1) c c')(st:Nat):dJ p c' a st=dJ p c a st:=by
 unfold dJ oP uG;rw[v7 h]
structure RowOK (p:List UInt8)(c:List Nat)(b:Nat):Prop where
 fix:∀k,k<19->∀o ∈ dJ p c b k,c.getD (b*19+k) 0<=bD c o
 got:∀k,k<19->c.getD (b*19+k) 0=1073741824\/(b=p.length/\k=0/\c.getD (b*19+k) 0=0)\/∃o ∈ dJ p c b k,c.getD (b*19+k) 0=bD c o
 fin:b=p.length->c.getD (b*19) 0=0
theorem RowOK.agr{p:List UInt8}{c c':List Nat}{b:Nat}(h:RowOK p c b)(hb:b<=p.length)(e:Agr b c c'):RowOK p c' b:=by
 have e1:Agr (b+1) c c':=fun j hj=>e j byO;have hk:∀k,c'.getD (b*19+k) 0=c.getD (b*19+k) 0:=fun k=>e _ byO;have ht:∀k,∀o ∈ dJ p c b k,bD c' o=bD c o:=fun k o ho=>sG e (iA hb o ho).nx.1;refine⟨fun k h1 o ho=>?_,fun k h1=>?_,fun hb=>?_⟩
 ·rw[nr e1]at ho
  rw[hk,ht k o ho];exact h.fix k h1 o ho
 ·rw[hk,nr e1]
  rcases h.got k h1 with h2|h2|⟨o,ho,h2⟩
  ·exact .inl h2
  ·exact .inr (.inl h2)
  ·exact .inr (.inr ⟨o,ho,by rw[ht k o ho];exact h2⟩)
 ·have:=hk 0
  rw[Nat.add_zero]at this;rw[this];exact h.fin hb
theorem xN{n a:Nat}{c:List Nat}(hl:a*19+19<=c.length):∀k,k<=19->(p9 n a c k).length=c.length/\∀j,(p9 n a c k).getD j 0=if a*19<=j/\j<a*19+k then 1073741824 else c.getD j 0
 | 0,_=>⟨rfl,fun j=>by rw[if_neg byO];rfl⟩
 | k+1,h=>by
  obtain⟨h1,h2⟩:=xN (n:=n) hl k byO;refine⟨by simp[p9,h1],fun j=>?_⟩;simp only[p9];rw[dD byO,h2];by_cases e:j=a*19+k
  ·rw[if_pos e,if_pos byO]
  ·rw[if_neg e]
   by_cases e2:a*19<=j/\j<a*19+k
   ·rw[if_pos e2,if_pos byO]
   ·rw[if_neg e2,if_neg byO]
theorem FC{n a:Nat}{c:List Nat}(hl:a*19+19<=c.length):(vH n a c).length=c.length/\∀j,(vH n a c).getD j 0=if a*19<=j/\j<a*19+19 then(if a=n/\j=a*19 then 0 else 1073741824) else c.getD j 0:=by
 obtain⟨h1,h2⟩:=xN (n:=n) hl 19 (Nat.le_refl _);unfold vH;split
 ·rename_i e
  refine⟨by simp[h1],fun j=>?_⟩;rw[dD byO,h2];by_cases e2:j=a*19
  ·rw[if_pos e2,if_pos byO,if_pos ⟨e,e2⟩]
  ·rw[if_neg e2]
   split
   ·rw[if_neg (fun h=>e2 h.2)]
   ·rfl
 ·rename_i e
  refine⟨h1,fun j=>?_⟩;rw[h2];split
  ·rw[if_neg (fun h=>e h.1)]
  ·rfl
theorem M3{a:Nat}{c:List Nat}(h:New p a c):(c.length=(p.length+1)*19/\∀j,c.getD j 0<=1073741824)/\∀b,a<=b->b<=p.length->RowOK p c b:=by
 induction h with
 | start=>exact⟨⟨by simp,fun j=>by simp only[au₀,List.getElem?_replicate];split<;>simp⟩,fun b h1 h2=>byO⟩
 | @step a c c' hn hs ih=>
  obtain⟨⟨hl,hle⟩,hr⟩:=ih;have ha:=M2 hn;have hal:a*19+19<=c.length:=by
   rw[hl];have:=Nat.mul_le_mul_right 19 (show a+1<=p.length+1 by omega);omega
  obtain⟨g1,g2⟩:=FC (n:=p.length) hal;have hf:=Ib hs;have hag:Agr (a+1) c c':=by
   intro j hj;rw[hf.ne j byO,g2,if_neg byO]
  have hag1:Agr (a+1) (vH p.length a c) c':=fun j hj=>hf.ne j byO;have hle2:∀j,c'.getD j 0<=1073741824:=by
   intro j;refine Nat.le_trans (hf.le j) ?_;rw[g2];split
   ·split<;>omega
   ·exact hle j
  refine⟨⟨by rw[hf.len,g1,hl],hle2⟩,fun b h1 h2=>?_⟩;by_cases hb:b=a
  ·subst hb
   refine⟨fun k hk o ho=>?_,fun k hk=>?_,fun e=>?_⟩
   ·rw[nr hag1]at ho
    exact hf.fix k hk o ho
   ·rcases hf.got k hk with h|⟨o,ho,h⟩
    ·rw[g2,if_pos byO]at h
     by_cases e:b=p.length/\b*19+k=b*19
     ·rw[if_pos e]at h
      exact .inr (.inl ⟨e.1,byO,h⟩)
     ·rw[if_neg e]at h
      exact .inl h
    ·exact .inr (.inr ⟨o,by rw[nr hag1];exact ho,h⟩)
   ·have h:=hf.le (b*19)
    rw[g2,if_pos byO,if_pos ⟨e,rfl⟩]at h;omega
  ·exact(hr b byO h2).agr h2 fun j hj=>hag j (by have:=Nat.mul_le_mul_right 19 (show a+1<=b by omega);omega)
structure Sol (p:List UInt8)(c:List Nat):Prop where
 len:c.length=(p.length+1)*19
 le:∀j,c.getD j 0<=1073741824
 row:∀b,b<=p.length->RowOK p c b
theorem AR{c:List Nat}(h:New p 0 c):Sol p c:=by
 obtain⟨⟨h1,h3⟩,h2⟩:=M3 h;exact⟨h1,h3,fun b hb=>h2 b byO hb⟩
abbrev cst(c:List Nat)(a st:Nat):Nat:=c.getD (a*19+st) 0
theorem Az{c:List Nat}{a:Nat}(ha:a<p.length):dv (by' p a) a ∈ dJ p c a 0:=by
 unfold dJ oP;rw[if_pos rfl,if_pos ha];simp
theorem BA(c:List Nat)(b a:Nat):bD c (dv b a)<=2+cst c (a+1) 0:=by
 unfold bD dv;split<;>simp
theorem km{p:List UInt8}{c:List Nat}(h:Sol p c):∀m a,a+m=p.length->cst c a 0<=2*m
 | 0,a,e=>by
  have:=(h.row a byO).fin byO;simp only[cst,Nat.add_zero];omega
 | m+1,a,e=>by
  have h1:=(h.row a byO).fix 0 byO _ (Az byO);have h2:=BA c (by' p a) a;have h3:=km h m (a+1) byO;simp only[cst]at *;omega
theorem Ad{c:List Nat}(h:Sol p c){a st:Nat}(ha:a<=p.length)(hs:st<19)(hc:cst c a st<1073741824)(hn:¬ (st=0/\a=p.length)):∃o ∈ dJ p c a st,bD c o=cst c a st:=by
 rcases(h.row a ha).got st hs with h|h|⟨o,ho,h⟩
 ·simp only[cst]at hc;omega
 ·exact absurd ⟨h.2.1,h.1⟩ hn
 ·exact⟨o,ho,h.symm⟩
theorem wu{c:List Nat}{a st:Nat}:∀o ∈ dJ p c a st,o.run=0\/(o.nx=a+o.run/\o ∈ [uG p c a]/\a<p.length/\st=0):=by
 intro o ho;have hT:∀{s f l},o ∈ im p a s f l->o.run=0:=by
  intro s f l ho;rcases List.mem_cons.1 ho with rfl|ho
  ·rfl
  ·unfold sf sI pb at ho
   obtain⟨u,hu,ho⟩:=List.mem_flatMap.1 ho;obtain⟨v,hv,ho⟩:=List.mem_flatMap.1 ho;obtain⟨w,hw,rfl⟩:=List.mem_map.1 ho;rfl
 have hE:∀{k n g},o ∈ gg p a k n g->o.run=0:=by
  intro k
  induction k with
  | zero=>intro n g ho;simp only[gg]at ho;obtain rfl:=List.mem_singleton.1 ho;rfl
  | succ k ih=>
   intro n g ho;simp only[gg]at ho;rcases List.mem_cons.1 ho with rfl|ho
   ·rfl
   ·split at ho
    ·exact ih ho
    ·cases ho
 unfold dJ at ho;split at ho
 ·rename_i hst
  unfold oP at ho;rcases List.mem_append.1 ho with ho|ho
  ·left
   simp only[fH,be₀,List.not_mem_nil,or_false]at ho;rcases ho with rfl|rfl|rfl|rfl<;>rfl
  ·split at ho
   ·rename_i hap
    simp only[bd₀,List.mem_singleton]at ho;rcases ho with (rfl|ho)|rfl
    ·left;unfold dv;split<;>rfl
    ·left
     unfold jh at ho;split at ho
     ·obtain rfl:=List.mem_singleton.1 ho;rfl
     ·cases ho
    ·right
     obtain⟨k,h1,h2,e⟩:=nO (cs:=c) (at':=a) (min (p.length-a) 1749) byO;refine⟨?_,by simp,hap,hst⟩;unfold uG;rw[e,nQ];unfold cW;split<;>rfl
   ·cases ho
 ·left
  split at ho
  ·exact hT ho
  ·split at ho
   ·exact hT ho
   ·split at ho
    ·unfold sP at ho
     rcases List.mem_cons.1 ho with rfl|ho
     ·rfl
     ·split at ho
      ·obtain rfl:=List.mem_singleton.1 ho;rfl
      ·cases ho
    ·exact hE ho
def hd(o:Opt):List Nat:=[o.h0,o.h1,o.h2].take o.sz
theorem oZ{o:Opt}(h:o.sz<=3):(hd o).length=o.sz:=by simp[hd];omega
def dR:List Nat->List Nat->Int
 | [],[]=>0
 | [],_::_=>-1
 | _::_,[]=>1
 | a::l,b::m=>if a<b then -1 else if b<a then 1 else dR l m
def fJ(c:List Nat)(cost:Nat)(best o:Opt):Opt:=if bD c o=cost/\(best.sz=0\/dR (hd o) (hd best)<0) then o else best
def m6(c:List Nat)(cost:Nat)(L:List Opt):Opt:=L.foldl (fJ c cost) bm
def chs(p:List UInt8)(c:List Nat)(a st:Nat):Opt:=m6 c (cst c a st) (dJ p c a st)
theorem BG{c:List Nat}{cost:Nat}{L:List Opt}{o:Opt}:m6 c cost (L++[o])=fJ c cost (m6 c cost L) o:=by unfold m6;rw[List.foldl_append];rfl
theorem qn{c:List Nat}{cost:Nat}:∀(L D:List Opt) (b:Opt),((b=bm/\∀o ∈ D,bD c o≠cost)\/(b ∈ D/\bD c b=cost)) ->
  ((L.foldl (fJ c cost) b=bm/\∀o ∈ D++L,bD c o≠cost)\/(L.foldl (fJ c cost) b ∈ D++L/\bD c (L.foldl (fJ c cost) b)=cost))
 | [],D,b,h=>by simpa using h
 | o::L,D,b,h=>by
  have key:((fJ c cost b o=bm/\∀o' ∈ D++[o],bD c o'≠cost)\/(fJ c cost b o ∈ D++[o]/\bD c (fJ c cost b o)=cost)):=by
   unfold fJ;by_cases ht:bD c o=cost
   ·by_cases hb:b.sz=0\/dR (hd o) (hd b)<0
    ·rw[if_pos ⟨ht,hb⟩]
     exact .inr ⟨by simp,ht⟩
    ·rw[if_neg (fun h=>hb h.2)]
     rcases h with ⟨h1,h2⟩|⟨h1,h2⟩
     ·exact absurd (.inl (by rw[h1];rfl)) hb
     ·exact .inr ⟨by simp[h1],h2⟩
   ·rw[if_neg (fun h=>ht h.1)]
    rcases h with ⟨h1,h2⟩|⟨h1,h2⟩
    ·refine .inl ⟨h1,fun o' ho'=>?_⟩
     rcases List.mem_append.1 ho' with ho'|ho'
     ·exact h2 o' ho'
     ·obtain rfl:=List.mem_singleton.1 ho'
      exact ht
    ·exact .inr ⟨by simp[h1],h2⟩
  have:=qn L (D++[o]) (fJ c cost b o) key;simpa using this
theorem qS{c:List Nat}{cost:Nat}{L:List Opt}:(m6 c cost L=bm/\∀o ∈ L,bD c o≠cost)\/(m6 c cost L ∈ L/\bD c (m6 c cost L)=cost):=by
 have:=qn (c:=c) (cost:=cost) L [] bm (.inl ⟨rfl,by simp⟩);unfold m6;simpa using this
theorem xm{c:List Nat}(h:Sol p c){a st:Nat}(ha:a<=p.length)(hs:st<19)(hc:cst c a st<1073741824)(hn:¬ (st=0/\a=p.length)):chs p c a st ∈ dJ p c a st/\bD c (chs p c a st)=cst c a st:=by
 obtain⟨o,ho,ht⟩:=Ad h ha hs hc hn;rcases qS (c:=c) (cost:=cst c a st) (L:=dJ p c a st)with ⟨_,h2⟩|h2
 ·exact absurd ht (h2 o ho)
 ·exact h2
def msk(i:Nat):Nat:=149*(i+1)%255+1
def mk(k:Nat):List Nat->List Nat
 | []=>[]
 | x::l=>((x+msk k)%256)::mk (k+1) l
theorem mn:∀(k:Nat) (l:List Nat),(mk k l).length=l.length
 | k,[]=>rfl
 | k,x::l=>by simp[mk,mn (k+1) l]
theorem py:∀(k:Nat) (l:List Nat) (x:Nat),mk k (l++[x])=mk k l++[(x+msk (k+l.length))%256]
 | k,[],x=>rfl
 | k,y::l,x=>by
  simp only[am₀,mk,py (k+1) l x,ak₀];rw[show k+1+l.length=k+(l.length+1) by omega]
theorem EK:∀(k:Nat) (l m:List Nat),mk k (l++m)=mk k l++mk (k+l.length) m
 | k,[],m=>rfl
 | k,y::l,m=>by
  simp only[am₀,mk,EK (k+1) l m,ak₀];rw[show k+1+l.length=k+(l.length+1) by omega]
def pa(p:List UInt8)(a n:Nat):List Nat:=((p.drop a).take n).map UInt8.toNat
def emit(p:List UInt8)(k a:Nat)(o:Opt):List Nat:=if o.run=0 then hd o else o.h0::mk (k+1) ((hd o).drop 1++pa p a o.run)
def pD(p:List UInt8)(c:List Nat):Nat->Nat->Nat->List Nat->List Nat
 | 0,_,_,W=>W
 | f+1,a,st,W=>if st=0/\a=p.length then W else pD p c f (chs p c a st).nx (chs p c a st).md (W++emit p W.length a (chs p c a st))
def kc(p:List UInt8)(c:List Nat):List Nat:=pD p c (cst c 0 0+1) 0 0 []
section
variable {lo:Nat}{H:Heap}
theorem zD{v:Value}{l:List Nat}{k:Nat}(h:SlN H v l)(hk:k<l.length):∃b o xs,aH (.iAddr 1) [v,.int .i64 (k:Nat)] H=some (.pointer (some ⟨b,o,none⟩))/\H.get b=some xs/\xs[o]?=some (aA (l.getD k 0)):=by
 obtain⟨b,o,sp,cap,xs,rfl,h2,h3,h4⟩:=h.els 0 byO;refine⟨b,o+k,xs,?_,h2,h3 k hk⟩;rw[lB byO byO];simp
open XYe
theorem PD{n:Int}:Ev cp lo 211 [.int .i64 n] H (fun r H'=>H=H'/\r=.bool false):=by
 refine stG rfl rfl ?_;unfold Jj;simp only[kB,aC];refine aE ?_;refine dB ?_;refine⟨rfl,?_⟩;simp[aP]
theorem OZ{a b:Nat}:Ev cp lo 199 [aA a,aA b] H (fun r H'=>H=H'/\r=.int .i64 (if a<b then -1 else if b<a then 1 else 0)):=by
 refine stG rfl rfl ?_;unfold Jc;simp only[kB,aC];refine aE ?_;refine bR ?_;refine aB PD ?_;rintro r H1 ⟨rfl,rfl⟩;refine aE ?_;refine bR ?_;refine aB PD ?_;rintro r H1 ⟨rfl,rfl⟩;refine aE ?_;refine aN ?_ ?_<;>intro h
 ·cases h
 clear h;(try simp only[aC]);refine aN ?_ ?_<;>intro h
 ·cases h
 clear h;(try simp only[aC]);by_cases h1:a<b
 ·have hd:decide ((a:Int)<(b:Nat))=true:=decide_eq_true byO
  rw[if_pos h1];refine aN ?_ ?_<;>intro h
  ·refine aE ?_
   refine dB ?_;exact⟨rfl,rfl⟩
  ·simp at h
 have hd:decide ((a:Int)<(b:Nat))=false:=decide_eq_false byO;rw[if_neg h1];refine aN ?_ ?_<;>intro h
 ·simp at h
 clear h hd;(try simp only[aC]);by_cases h1:b<a
 ·have hd:decide ((a:Int)>(b:Nat))=true:=decide_eq_true byO
  have hd2:decide ((b:Int)<(a:Nat))=true:=decide_eq_true byO;rw[if_pos h1];refine aN ?_ ?_<;>intro h
  ·refine aE ?_
   refine dB ?_;exact⟨rfl,rfl⟩
  ·simp at h
 have hd:decide ((a:Int)>(b:Nat))=false:=decide_eq_false byO;have hd2:decide ((b:Int)<(a:Nat))=false:=decide_eq_false byO;rw[if_neg h1];refine aN ?_ ?_<;>intro h
 ·simp at h
 clear h hd hd2;refine aE ?_;refine dB ?_;exact⟨rfl,rfl⟩
theorem lO:∀(k:Nat) (l m:List Nat),l.take k=m.take k->k<=l.length->k<=m.length->dR l m=dR (l.drop k) (m.drop k)
 | 0,l,m,_,_,_=>rfl
 | k+1,a::l,b::m,h,h1,h2=>by
  simp only[List.take_succ_cons,List.cons.injEq]at h;obtain⟨rfl,h⟩:=h;simp only[dR,Nat.lt_irrefl,if_false,List.drop_succ_cons];exact lO k l m h (by simpa using h1) (by simpa using h2)
theorem drop_cons{l:List Nat}{k:Nat}(h:k<l.length):l.drop k=l.getD k 0::l.drop (k+1):=by
 rw[List.drop_eq_getElem_cons h];simp[au₀,h]
theorem mA{l:List Nat}{k:Nat}(h:k<l.length):l.take (k+1)=l.take k++[l.getD k 0]:=by
 rw[List.take_succ_eq_append_getElem h];simp[au₀,h]
theorem O0{v1 v2:Value}{l m:List Nat}(h1:SlN H v1 l)(h2:SlN H v2 m)(hl:l.length<=1000000):Ev cp lo 178 [v1,v2] H (fun r H'=>H=H'/\r=.int .i64 (dR l m)):=by
 obtain⟨a1,c1,rfl⟩:=h1.len;obtain⟨a2,c2,rfl⟩:=h2.len;refine stG rfl rfl ?_;unfold J1;simp only[kB,aC];refine aE ?_;refine aa (fun k S H'=>(H=H'/\(False\/(l.take k=m.take k/\k<=m.length)))/\∃(z:Nat->Value),S=[.slice a1 l.length c1,.slice a2 m.length c2,z 2,z 3,z 4,z 5,z 6,.slice a1 l.length c1,.int .i64 (l.length:Nat),.int .i64 (k:Nat),z 10]) l.length ⟨⟨rfl,.inr ⟨rfl,Nat.zero_le _⟩⟩,aJ rfl⟩ ?_ ?_ ?_
 ·rintro k S H' hk ⟨⟨rfl,_⟩,z,rfl⟩
  exact⟨decide ((k:Int)<(l.length:Nat)),by simp(disch:=try exact dO)only[evB,xtr,Nat.reduceAdd,Nat.reduceBEq,Int.reduceToNat, *],by simp⟩
 ·rintro k S H' hk ⟨⟨rfl,he⟩,z,rfl⟩
  obtain⟨b1,o1,x1,i1,g1,e1⟩:=zD h1 hk;obtain⟨q,hq⟩:∃q,False\/l.getD k 0=q:=⟨_,.inr rfl⟩;rw[hq.resolve_left id]at e1;refine aE ?_;by_cases hkm:k<m.length
  ·have hd:decide ((k:Int)>=(m.length:Nat))=false:=decide_eq_false byO
   have hd2:decide ((m.length:Int)<=(k:Nat))=false:=decide_eq_false byO;obtain⟨b2,o2,x2,i2,g2,e2⟩:=zD h2 hkm;obtain⟨q2,hq2⟩:∃q2,False\/m.getD k 0=q2:=⟨_,.inr rfl⟩;rw[hq2.resolve_left id]at e2;have hcmp:False\/dR l m=if q<q2 then -1 else if q2<q then 1 else dR (l.drop (k+1)) (m.drop (k+1)):=by
    right;obtain⟨f1,f2⟩:=he.resolve_left id;rw[lO k l m f1 byO f2,drop_cons hk,drop_cons hkm,hq.resolve_left id,hq2.resolve_left id];rfl
   refine aN ?_ ?_<;>intro h
   ·simp at h
   clear h hd hd2;refine aE ?_;refine bR ?_;refine aB OZ ?_;rintro r H1 ⟨rfl,rfl⟩;by_cases hlt:q<q2
   ·rw[if_pos hlt]
    rw[if_pos hlt]at hcmp;refine aE ?_;refine aN ?_ ?_<;>intro h
    ·refine aE ?_
     refine dB ?_;exact⟨rfl,by rw[hcmp.resolve_left id];rfl⟩
    ·simp at h
   rw[if_neg hlt];rw[if_neg hlt]at hcmp;by_cases hgt:q2<q
   ·rw[if_pos hgt]
    rw[if_pos hgt]at hcmp;refine aE ?_;refine aN ?_ ?_<;>intro h
    ·refine aE ?_
     refine dB ?_;exact⟨rfl,by rw[hcmp.resolve_left id];rfl⟩
    ·simp at h
   rw[if_neg hgt];refine aE ?_;refine aN ?_ ?_<;>intro h
   ·simp at h
   refine aE ?_;refine⟨⟨trivial,.inr ⟨?_,byO⟩⟩,aJ ncM⟩;rw[mA hk,mA hkm,(he.resolve_left id).1,hq.resolve_left id,hq2.resolve_left id,show q=q2 by omega]
  ·have hd:decide ((k:Int)>=(m.length:Nat))=true:=decide_eq_true byO
   have hd2:decide ((m.length:Int)<=(k:Nat))=true:=decide_eq_true byO;have hcmp:False\/dR l m=1:=by
    right;obtain⟨f1,f2⟩:=he.resolve_left id;rw[lO k l m f1 byO f2,drop_cons hk,show m.drop k=[] from List.drop_eq_nil_of_le byO];rfl
   refine aN ?_ ?_<;>intro h
   ·refine aE ?_
    refine dB ?_;exact⟨rfl,by rw[hcmp.resolve_left id];rfl⟩
   ·simp at h
 ·rintro S H' ⟨⟨rfl,he⟩,z,rfl⟩
  obtain⟨f1,f2⟩:=he.resolve_left id;have hcmp:False\/dR l m=dR [] (m.drop l.length):=by
   right;rw[lO l.length l m f1 (Nat.le_refl _) f2,List.drop_length]
  clear f1 he;by_cases hlt:l.length<m.length
  ·have hd:decide ((l.length:Int)<(m.length:Nat))=true:=decide_eq_true byO
   rw[drop_cons hlt]at hcmp;(try simp only[aC]);refine aN ?_ ?_<;>intro h
   ·refine aE ?_
    refine dB ?_;exact⟨rfl,by rw[hcmp.resolve_left id];rfl⟩
   ·simp at h
  ·have hd:decide ((l.length:Int)<(m.length:Nat))=false:=decide_eq_false byO
   rw[List.drop_eq_nil_of_le byO]at hcmp;(try simp only[aC]);refine aN ?_ ?_<;>intro h
   ·simp at h
   ·refine aE ?_
    refine dB ?_;exact⟨rfl,by rw[hcmp.resolve_left id];rfl⟩
variable {sb cb:Nat}{v:Value}{p:List UInt8}{cs:List Nat}
theorem Jy{b:Nat}{o:Opt}(h:H.get b=some (aM o))(hz:o.sz<=3):SlN H (.slice (some ⟨b,0,none⟩) o.sz 3) (hd o):=by
 have hl:=oZ hz;refine .inr ⟨b,0,none,3,_,by rw[hl],h,?_,by rw[hl,fS];omega,.inl rfl,byO⟩;rw[hl];unfold hd aM;have:o.sz=0\/o.sz=1\/o.sz=2\/o.sz=3:=byO;rcases this with e|e|e|e<;>rw[e]<;>rfl
theorem OX{a st:Nat}(hs:SrH H sb cb v p cs)(ha:a<=p.length)(hst:st<19)(hlo:lo<=H.length):Ev cp lo 129 [ptr sb,aA a,aA st] H (fun r H'=>Ext H H'/\r=yl (chs p cs a st)):=by
 have hi:=hs.hi;have hsl:=Heap.get_lt hs.g;refine stG rfl rfl ?_;unfold JG;simp only[kB,aC];refine aE ?_;have hxb:Ext H (H++[some (aM bm),some (aM bm)]):=Ext.app _ _;have hg0:(H++[some (aM bm),some (aM bm)]).get H.length=some (aM bm):=aG;have hg1:(H++[some (aM bm),some (aM bm)]).get (H.length+1)=some (aM bm):=by rw[bL];rfl
 have hlc:(H++[some (aM bm),some (aM bm)]).length<=H.length+2/\H.length+2<=(H++[some (aM bm),some (aM bm)]).length:=by simp
 change wpS cp lo _ _ _ (H++[some (aM bm),some (aM bm)]);generalize H++[some (aM bm),some (aM bm)]=H0 at hxb hg0 hg1 hlc;have hs0:=hs.ext hxb;refine bR ?_;refine aB (PK (lo:=lo) hs0 ha hst byO) ?_;rintro r H1 ⟨hx1,b,hb,ho⟩;have hok:∀o ∈ dJ p cs a st,o.ok p.length a:=iA ha;have hKl:=wq p cs a st;unfold chs;generalize dJ p cs a st=K at ho hok hKl ⊢;obtain⟨aw,rfl⟩:=ho.len byO fS;have hx01:=hxb.trans hx1;have hz:=hx1.get hg0;have hbst:=hx1.get hg1;have hl1:=hx1.1;have hidx:a*19+st<cs.length:=by have:=hs.len;omega
 have hat:=mW hidx;generalize hcost:cst cs a st=cost;rw[show cs.getD (a*19+st) 0=cost from hcost]at hat;clear hg0 hg1 hcost;refine aE ?_;refine aa (fun k S H'=>((Keep (H.length+1) H1 H'/\Ext H H')/\H'.get (H.length+1)=some (aM (m6 cs cost (K.take k))))/\∃(z:Nat->Value),S=[ptr sb,aA a,aA st,ptr H.length,ptr (H.length+1),z 5,.slice aw K.length K.length,.int .i64 (K.length:Nat),.int .i64 (k:Nat),z 9,z 10,z 11,z 12,z 13]) K.length ⟨⟨⟨Ext.keep (Ext.refl _),hx01⟩,hbst⟩,aJ ncM⟩ ?_ ?_ ?_
 ·rintro k S H' hk ⟨h1,z,rfl⟩
  exact⟨decide ((k:Int)<(K.length:Nat)),by simp(disch:=try exact dO)only[evB,xtr,Nat.reduceAdd,Nat.reduceBEq,Int.reduceToNat, *],by simp⟩
 ·rintro k S H2 hk ⟨⟨⟨hk2,hx2⟩,hbest⟩,z,rfl⟩
  clear hbst;have ho2:=ho.keep hk2 byO;obtain⟨p4,o4,X4,i4,g4,l4,e4⟩:=ho2.at byO fS hk;have hoo:=hok _ (List.getElem_mem hk);have hr:m6 cs cost (K.take (k+1))=fJ cs cost (m6 cs cost (K.take k)) K[k]:=by
   rw[List.take_succ_eq_append_getElem hk,BG]
  have hbsz:(m6 cs cost (K.take k)).sz<=3:=by
   rcases qS (c:=cs) (cost:=cost) (L:=K.take k)with ⟨h,_⟩|⟨h,_⟩
   ·rw[h];exact Nat.zero_le _
   ·exact(hok _ (List.mem_of_mem_take h)).sz.2
  rw[hr];clear hr ho2;generalize m6 cs cost (K.take k)=bo at hbest hbsz ⊢;generalize K[k]=o at e4 hoo ⊢;have hl2:=hk2.len;refine aE ?_;change wpS cp lo _ _ _ (H2++[some (aM o)]);have hxc:Ext H2 (H2++[some (aM o)]):=Ext.app _ _;have hgo:(H2++[some (aM o)]).get H2.length=some (aM o):=aG;generalize H2++[some (aM o)]=H3 at hxc hgo;clear i4 g4 l4 e4;have hs3:=hs.ext (hx2.trans hxc);have hgs:=hs3.g;have hgc:=hs3.c;have hul:(uN cs).length<=cs.length/\cs.length<=(uN cs).length:=by simp
  have hlen:cs.length<=(p.length+1)*19/\(p.length+1)*19<=cs.length:=by have:=hs.len;omega
  generalize hU:uN cs=U at hgc hat hul;clear hU;have o1:=hoo.sz;have o2:=hoo.run;have o3:=hoo.nx;have o4:=hoo.md;clear hoo;have hb3:=hxc.get hbest;refine bR ?_;refine cU (Ih (o:=o) hs3 byO) ?_;rintro r H4 ⟨hx4,rfl⟩;have hbt:fJ cs cost bo o=if bD cs o=cost/\(bo.sz=0\/dR (hd o) (hd bo)<0) then o else bo:=rfl
  rw[hbt];clear hbt hgs hgc hs3;generalize bD cs o=t;have hx24:=hxc.trans hx4;have hgo4:=hx4.get hgo;have hb4:=hx4.get hb3;have hl4:=hx24.1;have hlb4:=Heap.get_lt hb4;clear hgo hb3;have hkk:Keep (H.length+1) H1 H4:=an hk2 (.inl rfl) (Ext.keep hx24);have hxx:=hx2.trans hx24;(try simp only[aC]);by_cases ht:t=cost
  ·subst ht
   simp only[true_and];refine aN ?_ ?_<;>intro h
   ·simp at h
   clear h;have ez:(aM bo)[3]?=some (aA bo.sz):=rfl;have eo:(aM o)[3]?=some (aA o.sz):=rfl;(try simp only[aC]);by_cases hz0:bo.sz=0
   ·rw[if_pos (.inl hz0)]
    have hd:decide ((bo.sz:Int)=0)=true:=decide_eq_true byO;replace hz0:bo.sz<=0:=byO;refine aW (t:=false) dP gW iw (fun h=>by cases h) (fun _=>?_);(try simp only[aC]);refine aN ?_ ?_<;>intro h
    ·clear h
     refine aE ?_;exact⟨⟨⟨an hkk (.inl rfl) keepSet,keepSet.ext hxx byO⟩,aF byO⟩,aJ ncM⟩
    ·cases h
   ·have hd:decide ((bo.sz:Int)=0)=false:=decide_eq_false byO
    have hor:(bo.sz=0\/dR (Go.Proofs.YtmnlgdpdgjbfgaaGreat.hd o) (Go.Proofs.YtmnlgdpdgjbfgaaGreat.hd bo)<0)↔dR (Go.Proofs.YtmnlgdpdgjbfgaaGreat.hd o) (Go.Proofs.YtmnlgdpdgjbfgaaGreat.hd bo)<0:=by simp[hz0]
    simp only[hor];clear hor;replace hz0:1<=bo.sz:=byO;refine aW (t:=true) dP gW iw (fun _=>⟨_,dP,?_⟩) (fun h=>by cases h);refine fD (O0 (lo:=lo) (Jy hgo4 o1.2) (Jy hb4 hbsz) (by rw[oZ o1.2];omega)) ?_;rintro r H5 ⟨rfl,rfl⟩;generalize dR (Go.Proofs.YtmnlgdpdgjbfgaaGreat.hd o) (Go.Proofs.YtmnlgdpdgjbfgaaGreat.hd bo)=w;(try simp only[aC]);by_cases hw:w<0
    ·have hdw:decide (w<0)=true:=decide_eq_true hw
     rw[if_pos hw];clear hw;refine aN ?_ ?_<;>intro h
     ·clear h hdw
      refine aE ?_;exact⟨⟨⟨an hkk (.inl rfl) keepSet,keepSet.ext hxx byO⟩,aF byO⟩,aJ ncM⟩
     ·simp at h
    ·have hdw:decide (w<0)=false:=decide_eq_false hw
     rw[if_neg hw];clear hw;refine aN ?_ ?_<;>intro h
     ·simp at h
     ·clear h hdw
      refine aE ?_;exact⟨⟨⟨hkk,hxx⟩,hb4⟩,aJ ncM⟩
  ·have hd:decide ((t:Int)=(cost:Nat))=false:=decide_eq_false byO
   rw[if_neg (fun h=>ht h.1)];refine aN ?_ ?_<;>intro h
   ·clear h hd
    refine aE ?_;exact⟨⟨⟨hkk,hxx⟩,hb4⟩,aJ ncM⟩
   ·exfalso
    have h2:(t:Int)=(cost:Nat):=by simpa using h
    exact ht byO
 ·rintro S H2 ⟨⟨⟨hk2,hx2⟩,hbest⟩,z,rfl⟩
  rw[List.take_length]at hbest;generalize m6 cs cost K=o at hbest ⊢;have hz2:=hk2.get hz byO;have hlz:=Heap.get_lt hz2;refine aE ?_;refine dB ?_;exact⟨keepSet.ext hx2 (Nat.le_refl _),rfl⟩
end
section
variable {cp:FuncId->Option CF}{lo:Nat}
def Dd(J:Nat->Nat->List Value->Heap->Prop)(Q:bF):bF:=fun ex S' H'=>match ex with | .exit j=>if aT<=j then ∃m,J m (j-aT) S' H' else Q (.exit j) S' H'|ex=>Q ex S' H'
def Db(J:Nat->Nat->List Value->Heap->Prop)(m:Nat)(Q:bF):bF:=fun ex S' H'=>match ex with | .exit j=>if aT<=j then ∃m',m'<m/\J m' (j-aT) S' H' else Q (.exit j) S' H'|ex=>Q ex S' H'
theorem C5{b alts:Stm}{Q:bF}(J:Nat->Nat->List Value->Heap->Prop)(h1:wpS cp lo b (Dd J Q) S H)(h2:∀m l S H,J m l S H->wpS cp lo alts (Db J m Q) (.int .i64 ((l:Nat):Int)::S) H):wpS cp lo (.scope b alts) Q S H:=⟨J,h1,h2⟩
theorem xh{l:Nat}{s r:Stm}{Q:bF}(h:wpS cp lo s Q S H):wpS cp lo (.alt l s r) Q (.int .i64 ((l:Nat):Int)::S) H:=⟨fun _=>h,fun h=>absurd rfl h⟩
theorem uE{l k:Nat}{s r:Stm}{Q:bF}(hk:k≠l)(h:wpS cp lo r Q (.int .i64 ((k:Nat):Int)::S) H):wpS cp lo (.alt l s r) Q (.int .i64 ((k:Nat):Int)::S) H:=⟨fun h=>absurd (Int.ofNat.inj h) hk,fun _=>h⟩
def OutH(H:Heap)(b cap:Nat)(W:List Nat):Prop:=∃X,H.get b=some X/\X.length=cap/\X.take W.length=uN W/\W.length<=cap
abbrev iv(b cap:Nat)(W:List Nat):Value:=.slice (some ⟨b,0,none⟩) W.length cap
theorem OutH.keep{H H':Heap}{b b' cap:Nat}{W:List Nat}(h:OutH H b cap W)(e:Keep b' H H')(hne:b≠b'):OutH H' b cap W:=by
 obtain⟨X,h1,h2⟩:=h;exact⟨X,e.get h1 hne,h2⟩
theorem OutH.mono{H H':Heap}{b cap:Nat}{W:List Nat}(h:OutH H b cap W)(e:Ext H H'):OutH H' b cap W:=by
 obtain⟨X,h1,h2⟩:=h;exact⟨X,e.get h1,h2⟩
theorem OutH.sl{H:Heap}{b cap:Nat}{W:List Nat}(h:OutH H b cap W):SlN H (iv b cap W) W:=by
 obtain⟨X,h1,h2,h3,h4⟩:=h;exact .inr ⟨b,0,none,cap,X,rfl,h1,by rw[List.drop_zero];exact h3,byO,.inl rfl,h4⟩
theorem PI:∀l:List Nat,oneCells (uN l)=true
 | []=>rfl
 | x::l=>by simp[uN,oneCells,Value.oneCell']
theorem uq{z:List Value}{b cap t o m n:Nat}{sp:Option Nat}{W L:List Nat}{c':List Value}{R:Value->Heap->Prop}(ho:OutH H b cap W)(hlo:lo<=b)(ht:H.get t=some c')(hlen:o+n<=c'.length)(hc:(c'.drop o).take n=uN L)(hn:L.length=n)(hcap:W.length+n<=cap)
  (k:∀H',OutH H' b cap (W++L)->Keep b H H'->H'.length=H.length->R (iv b cap (W++L)) H'):wpH cp lo (.app 1 z) [iv b cap W,.slice (some ⟨t,o,sp⟩) n m] H R:=by
 obtain⟨X,h1,h2,h3,h4⟩:=ho;have e1:H.cells t o (n*1)=some (uN L):=by rw[Nat.mul_one,cells_get ht hlen,hc]
 have hL:(uN L).length=n:=by simp[hn]
 simp only[wpH,cL,hsem,e1,ao₀,PI,if_true,aU,iv];rw[if_pos hcap];simp only[true_or,if_true];have hput:H.put lo b (0+W.length*1) (uN L)=some (H.set b (some (putCells X W.length (uN L)))):=by
  unfold Heap.put;rw[h1];simp only;rw[if_pos byO];simp
 rw[hput];simp only[Option.map_some];have hbl:=Heap.get_lt h1;have:=k (H.set b (some (putCells X W.length (uN L)))) ⟨_,aF hbl,?_,?_,by rw[as₀];omega⟩ keepSet (by simp)
 ·simpa[iv,hn]using this
 ·unfold putCells;simp[hL];omega
 ·unfold putCells
  rw[h3,<-ba₀,show uN W++uN L=uN (W++L) by simp[uN],List.take_append_of_le_length (by simp[uN]),List.take_of_length_le (by simp[uN])]
end
section
open XYe
theorem KA{lo:Nat}{k:Nat}(hk:k<=100000):Ev cp lo 130 [aA k] H (fun r H'=>H=H'/\r=aA (msk k)):=by
 have em:(149*((k:Int)+1)).tmod 255+1=((149*(k+1)%255+1:Nat):Int):=by rw[Int.tmod_eq_emod_of_nonneg byO];omega
 have hlt:149*(k+1)%255+1<=255:=byO;unfold msk;generalize 149*(k+1)%255+1=w at em hlt;have eq:(149*((k:Int)+1)).tmod 255=(w:Nat)-1:=byO;refine stG rfl rfl ?_;unfold JH;simp only[kB,aC];refine aE ?_;refine dB ?_;refine⟨rfl,?_⟩;show Value.int .i64 _=Value.int .i64 _;congr 1;omega
end
end Go.Proofs.YtmnlgdpdgjbfgaaGreat
