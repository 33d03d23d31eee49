/- Dmtext: the costs are least; the choice; the codewords. Dmtext: comparing codewords; the choice. Dmtext: labels; a list written in place; masked codewords. -/
import Derived.Test.YthnflhimcmdnbaaT14
set_option linter.unusedVariables false
set_option linter.unusedSimpArgs false
set_option linter.unusedSectionVars false
namespace Go.Proofs.Ythnflhimcmdnbaa
open Go.Abs
set_option linter.unusedSimpArgs false
set_option linter.unusedVariables false
set_option maxRecDepth 20000
def Agr(a:Nat)(c c':List Nat):Prop:=∀j,a*19≤j→c'.getD j 0=c.getD j 0
theorem totS_agr{a:Nat}{c c':List Nat}{o:Opt}(h:Agr a c c')(ho:a≤o.nx):totS c' o=totS c o:=by
 unfold totS
 rw[h _ (by have:=Nat.mul_le_mul_right 19 ho;omega)]
theorem binO_nx(a n:Nat):(binO a n).nx=a+n:=by unfold binO;split<;>rfl
theorem binB_agr{a:Nat}{c c':List Nat}(h:Agr (a+1) c c'):∀n,binB c' a n=binB c a n
 | 0=>rfl
 | n+1=>by
  by_cases hn:n=0
  ·subst hn;rfl
  ·obtain⟨k,h1,h2,h3⟩:=binB_ex (cs:=c) (at':=a) n (by omega)
   rw[binB,binB,if_neg hn,if_neg hn,binB_agr h n,totS_agr (o:=binO a (n+1)) h (by rw[binO_nx];omega),h3,totS_agr (o:=binO a k) h (by rw[binO_nx];omega)]
theorem optS_agr{p:List UInt8}{a:Nat}{c c':List Nat}(h:Agr (a+1) c c')(st:Nat):optS p c' a st=optS p c a st:=by
 unfold optS ascS binS
 rw[binB_agr h]
structure RowOK (p:List UInt8)(c:List Nat)(b:Nat):Prop where
 fix:∀k,k<19→∀o ∈ optS p c b k,c.getD (b*19+k) 0≤totS c o
 got:∀k,k<19→c.getD (b*19+k) 0=1073741824∨(b=p.length∧k=0∧c.getD (b*19+k) 0=0)∨∃o ∈ optS p c b k,c.getD (b*19+k) 0=totS c o
 fin:b=p.length→c.getD (b*19) 0=0
theorem RowOK.agr{p:List UInt8}{c c':List Nat}{b:Nat}(h:RowOK p c b)(hb:b≤p.length)(e:Agr b c c'):RowOK p c' b:=by
 have e1:Agr (b+1) c c':=fun j hj=>e j (by omega)
 have hk:∀k,c'.getD (b*19+k) 0=c.getD (b*19+k) 0:=fun k=>e _ (by omega)
 have ht:∀k,∀o ∈ optS p c b k,totS c' o=totS c o:=fun k o ho=>totS_agr e (optS_ok hb o ho).nx.1
 refine⟨fun k h1 o ho=>?_,fun k h1=>?_,fun hb=>?_⟩
 ·rw[optS_agr e1]at ho
  rw[hk,ht k o ho]
  exact h.fix k h1 o ho
 ·rw[hk,optS_agr e1]
  rcases h.got k h1 with h2|h2|⟨o,ho,h2⟩
  ·exact .inl h2
  ·exact .inr (.inl h2)
  ·exact .inr (.inr ⟨o,ho,by rw[ht k o ho];exact h2⟩)
 ·have:=hk 0
  rw[Nat.add_zero]at this
  rw[this];exact h.fin hb
theorem rowI_get{n a:Nat}{c:List Nat}(hl:a*19+19≤c.length):∀k,k≤19→(rowI n a c k).length=c.length∧∀j,(rowI n a c k).getD j 0=if a*19≤j∧j<a*19+k then 1073741824 else c.getD j 0
 | 0,_=>⟨rfl,fun j=>by rw[if_neg (by omega)];rfl⟩
 | k+1,h=>by
  obtain⟨h1,h2⟩:=rowI_get (n:=n) hl k (by omega)
  refine⟨by simp[rowI,h1],fun j=>?_⟩
  simp only[rowI]
  rw[getD_set (by omega),h2]
  by_cases e:j=a*19+k
  ·rw[if_pos e,if_pos (by omega)]
  ·rw[if_neg e]
   by_cases e2:a*19≤j∧j<a*19+k
   ·rw[if_pos e2,if_pos (by omega)]
   ·rw[if_neg e2,if_neg (by omega)]
theorem rowS_get{n a:Nat}{c:List Nat}(hl:a*19+19≤c.length):(rowS n a c).length=c.length∧∀j,(rowS n a c).getD j 0=if a*19≤j∧j<a*19+19 then(if a=n∧j=a*19 then 0 else 1073741824) else c.getD j 0:=by
 obtain⟨h1,h2⟩:=rowI_get (n:=n) hl 19 (Nat.le_refl _)
 unfold rowS
 split
 ·rename_i e
  refine⟨by simp[h1],fun j=>?_⟩
  rw[getD_set (by omega),h2]
  by_cases e2:j=a*19
  ·rw[if_pos e2,if_pos (by omega),if_pos ⟨e,e2⟩]
  ·rw[if_neg e2]
   split
   ·rw[if_neg (fun h=>e2 h.2)]
   ·rfl
 ·rename_i e
  refine⟨h1,fun j=>?_⟩
  rw[h2]
  split
  ·rw[if_neg (fun h=>e h.1)]
  ·rfl
theorem new_ok{p:List UInt8}{a:Nat}{c:List Nat}(h:New p a c):(c.length=(p.length+1)*19∧∀j,c.getD j 0≤1073741824)∧∀b,a≤b→b≤p.length→RowOK p c b:=by
 induction h with
 | start=>exact⟨⟨by simp,fun j=>by simp only[List.getD_eq_getElem?_getD,List.getElem?_replicate];split<;>simp⟩,fun b h1 h2=>by omega⟩
 | @step a c c' hn hs ih=>
  obtain⟨⟨hl,hle⟩,hr⟩:=ih
  have ha:=new_le hn
  have hal:a*19+19≤c.length:=by
   rw[hl]
   have:=Nat.mul_le_mul_right 19 (show a+1≤p.length+1 by omega)
   omega
  obtain⟨g1,g2⟩:=rowS_get (n:=p.length) hal
  have hf:=stl_fix hs
  have hag:Agr (a+1) c c':=by
   intro j hj
   rw[hf.ne j (by omega),g2,if_neg (by omega)]
  have hag1:Agr (a+1) (rowS p.length a c) c':=fun j hj=>hf.ne j (by omega)
  have hle2:∀j,c'.getD j 0≤1073741824:=by
   intro j
   refine Nat.le_trans (hf.le j) ?_
   rw[g2]
   split
   ·split<;>omega
   ·exact hle j
  refine⟨⟨by rw[hf.len,g1,hl],hle2⟩,fun b h1 h2=>?_⟩
  by_cases hb:b=a
  ·subst hb
   refine⟨fun k hk o ho=>?_,fun k hk=>?_,fun e=>?_⟩
   ·rw[optS_agr hag1]at ho
    exact hf.fix k hk o ho
   ·rcases hf.got k hk with h|⟨o,ho,h⟩
    ·rw[g2,if_pos (by omega)]at h
     by_cases e:b=p.length∧b*19+k=b*19
     ·rw[if_pos e]at h
      exact .inr (.inl ⟨e.1,by omega,h⟩)
     ·rw[if_neg e]at h
      exact .inl h
    ·exact .inr (.inr ⟨o,by rw[optS_agr hag1];exact ho,h⟩)
   ·have h:=hf.le (b*19)
    rw[g2,if_pos (by omega),if_pos ⟨e,rfl⟩]at h
    omega
  ·exact(hr b (by omega) h2).agr h2 fun j hj=>hag j (by have:=Nat.mul_le_mul_right 19 (show a+1≤b by omega);omega)
structure Sol (p:List UInt8)(c:List Nat):Prop where
 len:c.length=(p.length+1)*19
 le:∀j,c.getD j 0≤1073741824
 row:∀b,b≤p.length→RowOK p c b
theorem new_sol{p:List UInt8}{c:List Nat}(h:New p 0 c):Sol p c:=by
 obtain⟨⟨h1,h3⟩,h2⟩:=new_ok h
 exact⟨h1,h3,fun b hb=>h2 b (by omega) hb⟩
abbrev cst(c:List Nat)(a st:Nat):Nat:=c.getD (a*19+st) 0
theorem byteO_mem{p:List UInt8}{c:List Nat}{a:Nat}(ha:a<p.length):byteO (by' p a) a ∈ optS p c a 0:=by
 unfold optS ascS
 rw[if_pos rfl,if_pos ha]
 simp
theorem byteO_tot(c:List Nat)(b a:Nat):totS c (byteO b a)≤2+cst c (a+1) 0:=by
 unfold totS byteO
 split<;>simp
theorem cost_asc{p:List UInt8}{c:List Nat}(h:Sol p c):∀m a,a+m=p.length→cst c a 0≤2*m
 | 0,a,e=>by
  have:=(h.row a (by omega)).fin (by omega)
  simp only[cst,Nat.add_zero]
  omega
 | m+1,a,e=>by
  have h1:=(h.row a (by omega)).fix 0 (by omega) _ (byteO_mem (by omega))
  have h2:=byteO_tot c (by' p a) a
  have h3:=cost_asc h m (a+1) (by omega)
  simp only[cst]at *
  omega
theorem sol_opt{p:List UInt8}{c:List Nat}(h:Sol p c){a st:Nat}(ha:a≤p.length)(hs:st<19)(hc:cst c a st<1073741824)(hn:¬ (st=0∧a=p.length)):∃o ∈ optS p c a st,totS c o=cst c a st:=by
 rcases(h.row a ha).got st hs with h|h|⟨o,ho,h⟩
 ·simp only[cst]at hc;omega
 ·exact absurd ⟨h.2.1,h.1⟩ hn
 ·exact⟨o,ho,h.symm⟩
theorem optS_run{p:List UInt8}{c:List Nat}{a st:Nat}:∀o ∈ optS p c a st,o.run=0∨(o.nx=a+o.run∧o ∈ [binS p c a]∧a<p.length∧st=0):=by
 intro o ho
 have hT:∀{s f l},o ∈ tripS p a s f l→o.run=0:=by
  intro s f l ho
  rcases List.mem_cons.1 ho with rfl|ho
  ·rfl
  ·unfold tri1 tri2 tri3 at ho
   obtain⟨u,hu,ho⟩:=List.mem_flatMap.1 ho
   obtain⟨v,hv,ho⟩:=List.mem_flatMap.1 ho
   obtain⟨w,hw,rfl⟩:=List.mem_map.1 ho
   rfl
 have hE:∀{k n g},o ∈ ediR p a k n g→o.run=0:=by
  intro k
  induction k with
  | zero=>intro n g ho;simp only[ediR]at ho;obtain rfl:=List.mem_singleton.1 ho;rfl
  | succ k ih=>
   intro n g ho
   simp only[ediR]at ho
   rcases List.mem_cons.1 ho with rfl|ho
   ·rfl
   ·split at ho
    ·exact ih ho
    ·cases ho
 unfold optS at ho
 split at ho
 ·rename_i hst
  unfold ascS at ho
  rcases List.mem_append.1 ho with ho|ho
  ·left
   simp only[lats,List.mem_cons,List.not_mem_nil,or_false]at ho
   rcases ho with rfl|rfl|rfl|rfl<;>rfl
  ·split at ho
   ·rename_i hap
    simp only[List.mem_append,List.mem_singleton]at ho
    rcases ho with (rfl|ho)|rfl
    ·left;unfold byteO;split<;>rfl
    ·left
     unfold pairO at ho
     split at ho
     ·obtain rfl:=List.mem_singleton.1 ho;rfl
     ·cases ho
    ·right
     obtain⟨k,h1,h2,e⟩:=binB_ex (cs:=c) (at':=a) (min (p.length-a) 1749) (by omega)
     refine⟨?_,by simp,hap,hst⟩
     unfold binS
     rw[e,binO_nx]
     unfold binO;split<;>rfl
   ·cases ho
 ·left
  split at ho
  ·exact hT ho
  ·split at ho
   ·exact hT ho
   ·split at ho
    ·unfold x12O at ho
     rcases List.mem_cons.1 ho with rfl|ho
     ·rfl
     ·split at ho
      ·obtain rfl:=List.mem_singleton.1 ho;rfl
      ·cases ho
    ·exact hE ho
def hd(o:Opt):List Nat:=[o.h0,o.h1,o.h2].take o.sz
theorem hd_len{o:Opt}(h:o.sz≤3):(hd o).length=o.sz:=by simp[hd];omega
def cmpS:List Nat→List Nat→Int
 | [],[]=>0
 | [],_::_=>-1
 | _::_,[]=>1
 | a::l,b::m=>if a<b then -1 else if b<a then 1 else cmpS l m
def better(c:List Nat)(cost:Nat)(best o:Opt):Opt:=if totS c o=cost∧(best.sz=0∨cmpS (hd o) (hd best)<0) then o else best
def chsL(c:List Nat)(cost:Nat)(L:List Opt):Opt:=L.foldl (better c cost) zeroO
def chs(p:List UInt8)(c:List Nat)(a st:Nat):Opt:=chsL c (cst c a st) (optS p c a st)
theorem chsL_snoc{c:List Nat}{cost:Nat}{L:List Opt}{o:Opt}:chsL c cost (L++[o])=better c cost (chsL c cost L) o:=by unfold chsL;rw[List.foldl_append];rfl
theorem fold_cases{c:List Nat}{cost:Nat}:∀(L D:List Opt) (b:Opt),((b=zeroO∧∀o ∈ D,totS c o≠cost)∨(b ∈ D∧totS c b=cost)) →
  ((L.foldl (better c cost) b=zeroO∧∀o ∈ D++L,totS c o≠cost)∨(L.foldl (better c cost) b ∈ D++L∧totS c (L.foldl (better c cost) b)=cost))
 | [],D,b,h=>by simpa using h
 | o::L,D,b,h=>by
  have key:((better c cost b o=zeroO∧∀o' ∈ D++[o],totS c o'≠cost)∨(better c cost b o ∈ D++[o]∧totS c (better c cost b o)=cost)):=by
   unfold better
   by_cases ht:totS c o=cost
   ·by_cases hb:b.sz=0∨cmpS (hd o) (hd b)<0
    ·rw[if_pos ⟨ht,hb⟩]
     exact .inr ⟨by simp,ht⟩
    ·rw[if_neg (fun h=>hb h.2)]
     rcases h with ⟨h1,h2⟩|⟨h1,h2⟩
     ·exact absurd (.inl (by rw[h1];rfl)) hb
     ·exact .inr ⟨by simp[h1],h2⟩
   ·rw[if_neg (fun h=>ht h.1)]
    rcases h with ⟨h1,h2⟩|⟨h1,h2⟩
    ·refine .inl ⟨h1,fun o' ho'=>?_⟩
     rcases List.mem_append.1 ho' with ho'|ho'
     ·exact h2 o' ho'
     ·obtain rfl:=List.mem_singleton.1 ho'
      exact ht
    ·exact .inr ⟨by simp[h1],h2⟩
  have:=fold_cases L (D++[o]) (better c cost b o) key
  simpa using this
theorem chsL_cases{c:List Nat}{cost:Nat}{L:List Opt}:(chsL c cost L=zeroO∧∀o ∈ L,totS c o≠cost)∨(chsL c cost L ∈ L∧totS c (chsL c cost L)=cost):=by
 have:=fold_cases (c:=c) (cost:=cost) L [] zeroO (.inl ⟨rfl,by simp⟩)
 unfold chsL
 simpa using this
theorem chs_ok{p:List UInt8}{c:List Nat}(h:Sol p c){a st:Nat}(ha:a≤p.length)(hs:st<19)(hc:cst c a st<1073741824)(hn:¬ (st=0∧a=p.length)):chs p c a st ∈ optS p c a st∧totS c (chs p c a st)=cst c a st:=by
 obtain⟨o,ho,ht⟩:=sol_opt h ha hs hc hn
 rcases chsL_cases (c:=c) (cost:=cst c a st) (L:=optS p c a st)with ⟨_,h2⟩|h2
 ·exact absurd ht (h2 o ho)
 ·exact h2
def msk(i:Nat):Nat:=149*(i+1)%255+1
def mk(k:Nat):List Nat→List Nat
 | []=>[]
 | x::l=>((x+msk k)%256)::mk (k+1) l
theorem mk_len:∀(k:Nat) (l:List Nat),(mk k l).length=l.length
 | k,[]=>rfl
 | k,x::l=>by simp[mk,mk_len (k+1) l]
theorem mk_snoc:∀(k:Nat) (l:List Nat) (x:Nat),mk k (l++[x])=mk k l++[(x+msk (k+l.length))%256]
 | k,[],x=>rfl
 | k,y::l,x=>by
  simp only[List.cons_append,mk,mk_snoc (k+1) l x,List.length_cons]
  rw[show k+1+l.length=k+(l.length+1) by omega]
theorem mk_app:∀(k:Nat) (l m:List Nat),mk k (l++m)=mk k l++mk (k+l.length) m
 | k,[],m=>rfl
 | k,y::l,m=>by
  simp only[List.cons_append,mk,mk_app (k+1) l m,List.length_cons]
  rw[show k+1+l.length=k+(l.length+1) by omega]
def runB(p:List UInt8)(a n:Nat):List Nat:=((p.drop a).take n).map UInt8.toNat
def emit(p:List UInt8)(k a:Nat)(o:Opt):List Nat:=if o.run=0 then hd o else o.h0::mk (k+1) ((hd o).drop 1++runB p a o.run)
def wrdS(p:List UInt8)(c:List Nat):Nat→Nat→Nat→List Nat→List Nat
 | 0,_,_,W=>W
 | f+1,a,st,W=>if st=0∧a=p.length then W else wrdS p c f (chs p c a st).nx (chs p c a st).md (W++emit p W.length a (chs p c a st))
def encS(p:List UInt8)(c:List Nat):List Nat:=wrdS p c (cst c 0 0+1) 0 0 []
end Go.Proofs.Ythnflhimcmdnbaa
namespace Go.Proofs.Ythnflhimcmdnbaa
open Go.Abs
set_option linter.unusedSimpArgs false
set_option linter.unusedVariables false
set_option maxRecDepth 20000
section
variable {lo:Nat}{H:Heap}
theorem slN_at{v:Value}{l:List Nat}{k:Nat}(h:SlN H v l)(hk:k<l.length):∃b o xs,lsem (.iAddr 1) [v,.int .i64 (k:Nat)] H=some (.pointer (some ⟨b,o,none⟩))∧H.get b=some xs∧xs[o]?=some (encN (l.getD k 0)):=by
 obtain⟨b,o,sp,cap,xs,rfl,h2,h3,h4⟩:=h.els 0 (by omega)
 refine⟨b,o+k,xs,?_,h2,h3 k hk⟩
 rw[ls_iAddr (by omega) (by omega)];simp
theorem nanP{n:Int}:Ev cp lo 62 [.int .i64 n] H (fun r H'=>H=H'∧r=.bool false):=by
 refine st62 ?_;unfold bd62 cf62;simp only[kB,ctlB]
 repeat' ((first|refine xSDg ?_|refine xODg rfl ?_);(try simp only[ctlB]))
 refine xRDg ?_
 refine⟨rfl,?_⟩
 simp[resultOf]
theorem cmpIP{a b:Nat}:Ev cp lo 52 [encN a,encN b] H (fun r H'=>H=H'∧r=.int .i64 (if a<b then -1 else if b<a then 1 else 0)):=by
 refine st52 ?_;unfold bd52 cf52;simp only[kB,ctlB]
 repeat' ((first|refine xSDg ?_|refine xODg rfl ?_);(try simp only[ctlB]))
 refine xHDg ?_
 refine wpH_call0 nanP ?_
 rintro r H1 ⟨rfl,rfl⟩
 (try simp only[ctlB])
 repeat' ((first|refine xSDg ?_|refine xODg rfl ?_);(try simp only[ctlB]))
 refine xHDg ?_
 refine wpH_call0 nanP ?_
 rintro r H1 ⟨rfl,rfl⟩
 (try simp only[ctlB])
 repeat' ((first|refine xSDg ?_|refine xODg rfl ?_);(try simp only[ctlB]))
 refine xCDg (fun h=>?_) (fun h=>?_)
 ·cases h
 clear h
 (try simp only[ctlB])
 refine xCDg (fun h=>?_) (fun h=>?_)
 ·cases h
 clear h
 (try simp only[ctlB])
 by_cases h1:a<b
 ·have hd:decide ((a:Int)<(b:Nat))=true:=decide_eq_true (by omega)
  rw[if_pos h1]
  refine xCDg (fun h=>?_) (fun h=>?_)
  ·(try simp only[ctlB])
   repeat' ((first|refine xSDg ?_|refine xODg rfl ?_);(try simp only[ctlB]))
   refine xRDg ?_
   exact⟨rfl,rfl⟩
  ·exfalso;simp at h
 have hd:decide ((a:Int)<(b:Nat))=false:=decide_eq_false (by omega)
 rw[if_neg h1]
 refine xCDg (fun h=>?_) (fun h=>?_)
 ·exfalso;simp at h
 clear h hd
 (try simp only[ctlB])
 by_cases h1:b<a
 ·have hd:decide ((a:Int)>(b:Nat))=true:=decide_eq_true (by omega)
  have hd2:decide ((b:Int)<(a:Nat))=true:=decide_eq_true (by omega)
  rw[if_pos h1]
  refine xCDg (fun h=>?_) (fun h=>?_)
  ·(try simp only[ctlB])
   repeat' ((first|refine xSDg ?_|refine xODg rfl ?_);(try simp only[ctlB]))
   refine xRDg ?_
   exact⟨rfl,rfl⟩
  ·exfalso;simp at h
 have hd:decide ((a:Int)>(b:Nat))=false:=decide_eq_false (by omega)
 have hd2:decide ((b:Int)<(a:Nat))=false:=decide_eq_false (by omega)
 rw[if_neg h1]
 refine xCDg (fun h=>?_) (fun h=>?_)
 ·exfalso;simp at h
 clear h hd hd2
 (try simp only[ctlB])
 repeat' ((first|refine xSDg ?_|refine xODg rfl ?_);(try simp only[ctlB]))
 refine xRDg ?_
 exact⟨rfl,rfl⟩
theorem cmpS_drop:∀(k:Nat) (l m:List Nat),l.take k=m.take k→k≤l.length→k≤m.length→cmpS l m=cmpS (l.drop k) (m.drop k)
 | 0,l,m,_,_,_=>rfl
 | k+1,a::l,b::m,h,h1,h2=>by
  simp only[List.take_succ_cons,List.cons.injEq]at h
  obtain⟨rfl,h⟩:=h
  simp only[cmpS,Nat.lt_irrefl,if_false,List.drop_succ_cons]
  exact cmpS_drop k l m h (by simpa using h1) (by simpa using h2)
theorem drop_cons{l:List Nat}{k:Nat}(h:k<l.length):l.drop k=l.getD k 0::l.drop (k+1):=by
 rw[List.drop_eq_getElem_cons h];simp[List.getD_eq_getElem?_getD,h]
theorem take_snoc{l:List Nat}{k:Nat}(h:k<l.length):l.take (k+1)=l.take k++[l.getD k 0]:=by
 rw[List.take_succ_eq_append_getElem h];simp[List.getD_eq_getElem?_getD,h]
theorem cmpLP{v1 v2:Value}{l m:List Nat}(h1:SlN H v1 l)(h2:SlN H v2 m)(hl:l.length≤1000000):Ev cp lo 40 [v1,v2] H (fun r H'=>H=H'∧r=.int .i64 (cmpS l m)):=by
 obtain⟨a1,c1,rfl⟩:=h1.len
 obtain⟨a2,c2,rfl⟩:=h2.len
 refine st40 ?_;unfold bd40 cf40;simp only[kB,ctlB]
 repeat' ((first|refine xSDg ?_|refine xODg rfl ?_);(try simp only[ctlB]))
 refine aw_for (fun k S H'=>(H=H'∧(False∨(l.take k=m.take k∧k≤m.length)))∧∃(z:Nat→Value),S=[.slice a1 l.length c1,.slice a2 m.length c2,z 2,z 3,z 4,z 5,z 6,.slice a1 l.length c1,.int .i64 (l.length:Nat),.int .i64 (k:Nat),z 10]) l.length ⟨⟨rfl,.inr ⟨rfl,Nat.zero_le _⟩⟩,exZDe rfl⟩ ?_ ?_ ?_
 ·rintro k S H' hk ⟨⟨rfl,_⟩,z,rfl⟩
  exact⟨decide ((k:Int)<(l.length:Nat)),by simp(disch:=first|omega|(simp only[lenB];omega))only[evB,xBDc,Nat.reduceAdd,Nat.reduceBEq,Int.reduceToNat, *],by simp⟩
 ·rintro k S H' hk ⟨⟨rfl,he⟩,z,rfl⟩
  obtain⟨b1,o1,x1,i1,g1,e1⟩:=slN_at h1 hk
  obtain⟨q,hq⟩:∃q,False∨l.getD k 0=q:=⟨_,.inr rfl⟩
  rw[hq.resolve_left id]at e1
  (try simp only[ctlB])
  repeat' ((first|refine xSDg ?_|refine xODg rfl ?_);(try simp only[ctlB]))
  by_cases hkm:k<m.length
  ·have hd:decide ((k:Int)≥(m.length:Nat))=false:=decide_eq_false (by omega)
   have hd2:decide ((m.length:Int)≤(k:Nat))=false:=decide_eq_false (by omega)
   obtain⟨b2,o2,x2,i2,g2,e2⟩:=slN_at h2 hkm
   obtain⟨q2,hq2⟩:∃q2,False∨m.getD k 0=q2:=⟨_,.inr rfl⟩
   rw[hq2.resolve_left id]at e2
   have hcmp:False∨cmpS l m=if q<q2 then -1 else if q2<q then 1 else cmpS (l.drop (k+1)) (m.drop (k+1)):=by
    right
    obtain⟨f1,f2⟩:=he.resolve_left id
    rw[cmpS_drop k l m f1 (by omega) f2,drop_cons hk,drop_cons hkm,hq.resolve_left id,hq2.resolve_left id]
    rfl
   refine xCDg (fun h=>?_) (fun h=>?_)
   ·exfalso;simp at h
   clear h hd hd2
   (try simp only[ctlB])
   repeat' ((first|refine xSDg ?_|refine xODg rfl ?_);(try simp only[ctlB]))
   refine xHDg ?_
   refine wpH_call0 cmpIP ?_
   rintro r H1 ⟨rfl,rfl⟩
   by_cases hlt:q<q2
   ·rw[if_pos hlt]
    rw[if_pos hlt]at hcmp
    (try simp only[ctlB])
    repeat' ((first|refine xSDg ?_|refine xODg rfl ?_);(try simp only[ctlB]))
    refine xCDg (fun h=>?_) (fun h=>?_)
    ·(try simp only[ctlB])
     repeat' ((first|refine xSDg ?_|refine xODg rfl ?_);(try simp only[ctlB]))
     refine xRDg ?_
     exact⟨rfl,by rw[hcmp.resolve_left id];rfl⟩
    ·exfalso;simp at h
   rw[if_neg hlt]
   rw[if_neg hlt]at hcmp
   by_cases hgt:q2<q
   ·rw[if_pos hgt]
    rw[if_pos hgt]at hcmp
    (try simp only[ctlB])
    repeat' ((first|refine xSDg ?_|refine xODg rfl ?_);(try simp only[ctlB]))
    refine xCDg (fun h=>?_) (fun h=>?_)
    ·(try simp only[ctlB])
     repeat' ((first|refine xSDg ?_|refine xODg rfl ?_);(try simp only[ctlB]))
     refine xRDg ?_
     exact⟨rfl,by rw[hcmp.resolve_left id];rfl⟩
    ·exfalso;simp at h
   rw[if_neg hgt]
   (try simp only[ctlB])
   repeat' ((first|refine xSDg ?_|refine xODg rfl ?_);(try simp only[ctlB]))
   refine xCDg (fun h=>?_) (fun h=>?_)
   ·exfalso;simp at h
   (try simp only[ctlB])
   repeat' ((first|refine xSDg ?_|refine xODg rfl ?_);(try simp only[ctlB]))
   refine⟨⟨trivial,.inr ⟨?_,by omega⟩⟩,exZDe (by first|rfl|(simp only[Int.natCast_add,Int.natCast_one];rfl)|simp only[Int.natCast_add,Int.natCast_one])⟩
   rw[take_snoc hk,take_snoc hkm,(he.resolve_left id).1,hq.resolve_left id,hq2.resolve_left id,show q=q2 by omega]
  ·have hd:decide ((k:Int)≥(m.length:Nat))=true:=decide_eq_true (by omega)
   have hd2:decide ((m.length:Int)≤(k:Nat))=true:=decide_eq_true (by omega)
   have hcmp:False∨cmpS l m=1:=by
    right
    obtain⟨f1,f2⟩:=he.resolve_left id
    rw[cmpS_drop k l m f1 (by omega) f2,drop_cons hk,show m.drop k=[] from List.drop_eq_nil_of_le (by omega)]
    rfl
   refine xCDg (fun h=>?_) (fun h=>?_)
   ·(try simp only[ctlB])
    repeat' ((first|refine xSDg ?_|refine xODg rfl ?_);(try simp only[ctlB]))
    refine xRDg ?_
    exact⟨rfl,by rw[hcmp.resolve_left id];rfl⟩
   ·exfalso;simp at h
 ·rintro S H' ⟨⟨rfl,he⟩,z,rfl⟩
  obtain⟨f1,f2⟩:=he.resolve_left id
  have hcmp:False∨cmpS l m=cmpS [] (m.drop l.length):=by
   right
   rw[cmpS_drop l.length l m f1 (Nat.le_refl _) f2,List.drop_length]
  clear f1 he
  by_cases hlt:l.length<m.length
  ·have hd:decide ((l.length:Int)<(m.length:Nat))=true:=decide_eq_true (by omega)
   rw[drop_cons hlt]at hcmp
   (try simp only[ctlB])
   refine xCDg (fun h=>?_) (fun h=>?_)
   ·(try simp only[ctlB])
    repeat' ((first|refine xSDg ?_|refine xODg rfl ?_);(try simp only[ctlB]))
    refine xRDg ?_
    exact⟨rfl,by rw[hcmp.resolve_left id];rfl⟩
   ·exfalso;simp at h
  ·have hd:decide ((l.length:Int)<(m.length:Nat))=false:=decide_eq_false (by omega)
   rw[List.drop_eq_nil_of_le (by omega)]at hcmp
   (try simp only[ctlB])
   refine xCDg (fun h=>?_) (fun h=>?_)
   ·exfalso;simp at h
   ·(try simp only[ctlB])
    repeat' ((first|refine xSDg ?_|refine xODg rfl ?_);(try simp only[ctlB]))
    refine xRDg ?_
    exact⟨rfl,by rw[hcmp.resolve_left id];rfl⟩
variable {sb cb:Nat}{v:Value}{p:List UInt8}{cs:List Nat}
theorem hd_sl{b:Nat}{o:Opt}(h:H.get b=some (optC o))(hz:o.sz≤3):SlN H (.slice (some ⟨b,0,none⟩) o.sz 3) (hd o):=by
 have hl:=hd_len hz
 refine .inr ⟨b,0,none,3,_,by rw[hl],h,?_,by rw[hl,optC_len];omega,.inl rfl,by omega⟩
 rw[hl]
 unfold hd optC
 have:o.sz=0∨o.sz=1∨o.sz=2∨o.sz=3:=by omega
 rcases this with e|e|e|e<;>rw[e]<;>rfl
theorem chooP{a st:Nat}(hs:SrH H sb cb v p cs)(ha:a≤p.length)(hst:st<19)(hlo:lo≤H.length):Ev cp lo 26 [ptr sb,encN a,encN st] H (fun r H'=>Ext H H'∧r=optV (chs p cs a st)):=by
 have hi:=hs.hi
 have hsl:=Heap.get_lt hs.g
 refine st26 ?_;unfold bd26 cf26;simp only[kB,ctlB]
 repeat' ((first|refine xSDg ?_|refine xODg rfl ?_);(try simp only[ctlB]))
 have hxb:Ext H (H++[some (optC zeroO),some (optC zeroO)]):=Ext.app _ _
 have hg0:(H++[some (optC zeroO),some (optC zeroO)]).get H.length=some (optC zeroO):=get_app0
 have hg1:(H++[some (optC zeroO),some (optC zeroO)]).get (H.length+1)=some (optC zeroO):=by rw[get_appS];rfl
 have hlc:(H++[some (optC zeroO),some (optC zeroO)]).length≤H.length+2∧H.length+2≤(H++[some (optC zeroO),some (optC zeroO)]).length:=by simp
 change wpS cp lo _ _ _ (H++[some (optC zeroO),some (optC zeroO)])
 generalize H++[some (optC zeroO),some (optC zeroO)]=H0 at hxb hg0 hg1 hlc
 have hs0:=hs.ext hxb
 refine xHDg ?_
 refine wpH_call0 (optP (lo:=lo) hs0 ha hst (by omega)) ?_
 rintro r H1 ⟨hx1,b,hb,ho⟩
 have hok:∀o ∈ optS p cs a st,o.ok p.length a:=optS_ok ha
 have hKl:=optS_len p cs a st
 unfold chs
 generalize optS p cs a st=K at ho hok hKl ⊢
 obtain⟨aw,rfl⟩:=ho.len (by omega) optC_len
 have hx01:=hxb.trans hx1
 have hz:=hx1.get hg0
 have hbst:=hx1.get hg1
 have hl1:=hx1.1
 have hidx:a*19+st<cs.length:=by have:=hs.len;omega
 have hat:=uN_at hidx
 generalize hcost:cst cs a st=cost
 rw[show cs.getD (a*19+st) 0=cost from hcost]at hat
 clear hg0 hg1 hcost
 (try simp only[ctlB])
 repeat' ((first|refine xSDg ?_|refine xODg rfl ?_);(try simp only[ctlB]))
 refine aw_for (fun k S H'=>((Keep (H.length+1) H1 H'∧Ext H H')∧H'.get (H.length+1)=some (optC (chsL cs cost (K.take k))))∧∃(z:Nat→Value),S=[ptr sb,encN a,encN st,ptr H.length,ptr (H.length+1),z 5,.slice aw K.length K.length,.int .i64 (K.length:Nat),.int .i64 (k:Nat),z 9,z 10,z 11,z 12,z 13]) K.length ⟨⟨⟨Ext.keep (Ext.refl _),hx01⟩,hbst⟩,exZDe (by first|rfl|(simp only[Int.natCast_add,Int.natCast_one];rfl)|simp only[Int.natCast_add,Int.natCast_one])⟩ ?_ ?_ ?_
 ·rintro k S H' hk ⟨h1,z,rfl⟩
  exact⟨decide ((k:Int)<(K.length:Nat)),by simp(disch:=first|omega|(simp only[lenB];omega))only[evB,xBDc,Nat.reduceAdd,Nat.reduceBEq,Int.reduceToNat, *],by simp⟩
 ·rintro k S H2 hk ⟨⟨⟨hk2,hx2⟩,hbest⟩,z,rfl⟩
  clear hbst
  have ho2:=ho.keep hk2 (by omega)
  obtain⟨p4,o4,X4,i4,g4,l4,e4⟩:=ho2.at (by omega) optC_len hk
  have hoo:=hok _ (List.getElem_mem hk)
  have hr:chsL cs cost (K.take (k+1))=better cs cost (chsL cs cost (K.take k)) K[k]:=by
   rw[List.take_succ_eq_append_getElem hk,chsL_snoc]
  have hbsz:(chsL cs cost (K.take k)).sz≤3:=by
   rcases chsL_cases (c:=cs) (cost:=cost) (L:=K.take k)with ⟨h,_⟩|⟨h,_⟩
   ·rw[h];exact Nat.zero_le _
   ·exact(hok _ (List.mem_of_mem_take h)).sz.2
  rw[hr]
  clear hr ho2
  generalize chsL cs cost (K.take k)=bo at hbest hbsz ⊢
  generalize K[k]=o at e4 hoo ⊢
  have hl2:=hk2.len
  (try simp only[ctlB])
  repeat' ((first|refine xSDg ?_|refine xODg rfl ?_);(try simp only[ctlB]))
  change wpS cp lo _ _ _ (H2++[some (optC o)])
  have hxc:Ext H2 (H2++[some (optC o)]):=Ext.app _ _
  have hgo:(H2++[some (optC o)]).get H2.length=some (optC o):=get_app0
  generalize H2++[some (optC o)]=H3 at hxc hgo
  clear i4 g4 l4 e4
  have hs3:=hs.ext (hx2.trans hxc)
  have hgs:=hs3.g
  have hgc:=hs3.c
  have hul:(uN cs).length≤cs.length∧cs.length≤(uN cs).length:=by simp
  have hlen:cs.length≤(p.length+1)*19∧(p.length+1)*19≤cs.length:=by have:=hs.len;omega
  generalize hU:uN cs=U at hgc hat hul
  clear hU
  have o1:=hoo.sz
  have o2:=hoo.run
  have o3:=hoo.nx
  have o4:=hoo.md
  clear hoo
  have hb3:=hxc.get hbest
  refine xHDg ?_
  refine wpH_call1 (totN (o:=o) hs3 (by omega)) ?_
  rintro r H4 ⟨hx4,rfl⟩
  have hbt:better cs cost bo o=if totS cs o=cost∧(bo.sz=0∨cmpS (hd o) (hd bo)<0) then o else bo:=rfl
  rw[hbt]
  clear hbt hgs hgc hs3
  generalize totS cs o=t
  have hx24:=hxc.trans hx4
  have hgo4:=hx4.get hgo
  have hb4:=hx4.get hb3
  have hl4:=hx24.1
  have hlb4:=Heap.get_lt hb4
  clear hgo hb3
  have hkk:Keep (H.length+1) H1 H4:=keepTrans hk2 (.inl rfl) (Ext.keep hx24)
  have hxx:=hx2.trans hx24
  (try simp only[ctlB])
  by_cases ht:t=cost
  ·subst ht
   simp only[true_and]
   refine xCDg (fun h=>?_) (fun h=>?_)
   ·exfalso;simp at h
   clear h
   have ez:(optC bo)[3]?=some (encN bo.sz):=rfl
   have eo:(optC o)[3]?=some (encN o.sz):=rfl
   (try simp only[ctlB])
   by_cases hz0:bo.sz=0
   ·rw[if_pos (.inl hz0)]
    have hd:decide ((bo.sz:Int)=0)=true:=decide_eq_true (by omega)
    replace hz0:bo.sz≤0:=by omega
    refine aw_hv_if (t:=false) (xEDg) (by simp(disch:=first|omega|(simp only[lenB];omega))only[evB,xBDc,Nat.reduceAdd,Nat.reduceBEq,Int.reduceToNat, *]) (by simp(disch:=first|omega|(simp only[lenB];omega))only[evB,xBDc,Nat.reduceAdd,Nat.reduceBEq,Int.reduceToNat, *];try rfl) (fun h=>by cases h) (fun _=>?_)
    (try simp only[ctlB])
    refine xCDg (fun h=>?_) (fun h=>?_)
    ·clear h
     (try simp only[ctlB])
     repeat' ((first|refine xSDg ?_|refine xODg rfl ?_);(try simp only[ctlB]))
     exact⟨⟨⟨keepTrans hkk (.inl rfl) keepSet,keepSet.ext hxx (by omega)⟩,get_set_self (by omega)⟩,exZDe (by first|rfl|(simp only[Int.natCast_add,Int.natCast_one];rfl)|simp only[Int.natCast_add,Int.natCast_one])⟩
    ·cases h
   ·have hd:decide ((bo.sz:Int)=0)=false:=decide_eq_false (by omega)
    have hor:(bo.sz=0∨cmpS (Go.Proofs.Ythnflhimcmdnbaa.hd o) (Go.Proofs.Ythnflhimcmdnbaa.hd bo)<0)↔cmpS (Go.Proofs.Ythnflhimcmdnbaa.hd o) (Go.Proofs.Ythnflhimcmdnbaa.hd bo)<0:=by simp[hz0]
    simp only[hor]
    clear hor
    replace hz0:1≤bo.sz:=by omega
    refine aw_hv_if (t:=true) (xEDg) (by simp(disch:=first|omega|(simp only[lenB];omega))only[evB,xBDc,Nat.reduceAdd,Nat.reduceBEq,Int.reduceToNat, *]) (by simp(disch:=first|omega|(simp only[lenB];omega))only[evB,xBDc,Nat.reduceAdd,Nat.reduceBEq,Int.reduceToNat, *];try rfl) (fun _=>⟨_,xEDg,?_⟩) (fun h=>by cases h)
    refine wpH_callC (cmpLP (lo:=lo) (hd_sl hgo4 o1.2) (hd_sl hb4 hbsz) (by rw[hd_len o1.2];omega)) ?_
    rintro r H5 ⟨rfl,rfl⟩
    generalize cmpS (Go.Proofs.Ythnflhimcmdnbaa.hd o) (Go.Proofs.Ythnflhimcmdnbaa.hd bo)=w
    (try simp only[ctlB])
    by_cases hw:w<0
    ·have hdw:decide (w<0)=true:=decide_eq_true hw
     rw[if_pos hw]
     clear hw
     refine xCDg (fun h=>?_) (fun h=>?_)
     ·clear h hdw
      (try simp only[ctlB])
      repeat' ((first|refine xSDg ?_|refine xODg rfl ?_);(try simp only[ctlB]))
      exact⟨⟨⟨keepTrans hkk (.inl rfl) keepSet,keepSet.ext hxx (by omega)⟩,get_set_self (by omega)⟩,exZDe (by first|rfl|(simp only[Int.natCast_add,Int.natCast_one];rfl)|simp only[Int.natCast_add,Int.natCast_one])⟩
     ·exfalso;simp at h
    ·have hdw:decide (w<0)=false:=decide_eq_false hw
     rw[if_neg hw]
     clear hw
     refine xCDg (fun h=>?_) (fun h=>?_)
     ·exfalso;simp at h
     ·clear h hdw
      (try simp only[ctlB])
      repeat' ((first|refine xSDg ?_|refine xODg rfl ?_);(try simp only[ctlB]))
      exact⟨⟨⟨hkk,hxx⟩,hb4⟩,exZDe (by first|rfl|(simp only[Int.natCast_add,Int.natCast_one];rfl)|simp only[Int.natCast_add,Int.natCast_one])⟩
  ·have hd:decide ((t:Int)=(cost:Nat))=false:=decide_eq_false (by omega)
   rw[if_neg (fun h=>ht h.1)]
   refine xCDg (fun h=>?_) (fun h=>?_)
   ·clear h hd
    (try simp only[ctlB])
    repeat' ((first|refine xSDg ?_|refine xODg rfl ?_);(try simp only[ctlB]))
    exact⟨⟨⟨hkk,hxx⟩,hb4⟩,exZDe (by first|rfl|(simp only[Int.natCast_add,Int.natCast_one];rfl)|simp only[Int.natCast_add,Int.natCast_one])⟩
   ·exfalso
    have h2:(t:Int)=(cost:Nat):=by simpa using h
    exact ht (by omega)
 ·rintro S H2 ⟨⟨⟨hk2,hx2⟩,hbest⟩,z,rfl⟩
  rw[List.take_length]at hbest
  generalize chsL cs cost K=o at hbest ⊢
  have hz2:=hk2.get hz (by omega)
  have hlz:=Heap.get_lt hz2
  (try simp only[ctlB])
  repeat' ((first|refine xSDg ?_|refine xODg rfl ?_);(try simp only[ctlB]))
  refine xRDg ?_
  exact⟨keepSet.ext hx2 (Nat.le_refl _),rfl⟩
end
end Go.Proofs.Ythnflhimcmdnbaa
namespace Go.Proofs.Ythnflhimcmdnbaa
open Go.Abs
set_option linter.unusedSimpArgs false
set_option linter.unusedVariables false
set_option maxRecDepth 20000
section
variable {cp:FuncId→Option CF}{lo:Nat}
def gotoQ(J:Nat→Nat→List Value→Heap→Prop)(Q:Post):Post:=fun ex S' H'=>match ex with | .exit j=>if gotoBase≤j then ∃m,J m (j-gotoBase) S' H' else Q (.exit j) S' H'|ex=>Q ex S' H'
def gotoM(J:Nat→Nat→List Value→Heap→Prop)(m:Nat)(Q:Post):Post:=fun ex S' H'=>match ex with | .exit j=>if gotoBase≤j then ∃m',m'<m∧J m' (j-gotoBase) S' H' else Q (.exit j) S' H'|ex=>Q ex S' H'
theorem aw_scope{b alts:Stm}{Q:Post}{S:List Value}{H:Heap}(J:Nat→Nat→List Value→Heap→Prop)(h1:wpS cp lo b (gotoQ J Q) S H)(h2:∀m l S H,J m l S H→wpS cp lo alts (gotoM J m Q) (.int .i64 ((l:Nat):Int)::S) H):wpS cp lo (.scope b alts) Q S H:=⟨J,h1,h2⟩
theorem aw_alt{l:Nat}{s r:Stm}{Q:Post}{S:List Value}{H:Heap}(h:wpS cp lo s Q S H):wpS cp lo (.alt l s r) Q (.int .i64 ((l:Nat):Int)::S) H:=⟨fun _=>h,fun h=>absurd rfl h⟩
theorem aw_altN{l k:Nat}{s r:Stm}{Q:Post}{S:List Value}{H:Heap}(hk:k≠l)(h:wpS cp lo r Q (.int .i64 ((k:Nat):Int)::S) H):wpS cp lo (.alt l s r) Q (.int .i64 ((k:Nat):Int)::S) H:=⟨fun h=>absurd (Int.ofNat.inj h) hk,fun _=>h⟩
def OutH(H:Heap)(b cap:Nat)(W:List Nat):Prop:=∃X,H.get b=some X∧X.length=cap∧X.take W.length=uN W∧W.length≤cap
abbrev outV(b cap:Nat)(W:List Nat):Value:=.slice (some ⟨b,0,none⟩) W.length cap
theorem OutH.keep{H H':Heap}{b b' cap:Nat}{W:List Nat}(h:OutH H b cap W)(e:Keep b' H H')(hne:b≠b'):OutH H' b cap W:=by
 obtain⟨X,h1,h2⟩:=h
 exact⟨X,e.get h1 hne,h2⟩
theorem OutH.mono{H H':Heap}{b cap:Nat}{W:List Nat}(h:OutH H b cap W)(e:Ext H H'):OutH H' b cap W:=by
 obtain⟨X,h1,h2⟩:=h
 exact⟨X,e.get h1,h2⟩
theorem OutH.sl{H:Heap}{b cap:Nat}{W:List Nat}(h:OutH H b cap W):SlN H (outV b cap W) W:=by
 obtain⟨X,h1,h2,h3,h4⟩:=h
 exact .inr ⟨b,0,none,cap,X,rfl,h1,by rw[List.drop_zero];exact h3,by omega,.inl rfl,h4⟩
theorem oneN:∀l:List Nat,oneCells (uN l)=true
 | []=>rfl
 | x::l=>by simp[uN,oneCells,Value.oneCell']
theorem outApp{z:List Value}{H:Heap}{b cap t o m n:Nat}{sp:Option Nat}{W L:List Nat}{c':List Value}{R:Value→Heap→Prop}(ho:OutH H b cap W)(hlo:lo≤b)(ht:H.get t=some c')(hlen:o+n≤c'.length)(hc:(c'.drop o).take n=uN L)(hn:L.length=n)(hcap:W.length+n≤cap)
  (k:∀H',OutH H' b cap (W++L)→Keep b H H'→H'.length=H.length→R (outV b cap (W++L)) H'):wpH cp lo (.app 1 z) [outV b cap W,.slice (some ⟨t,o,sp⟩) n m] H R:=by
 obtain⟨X,h1,h2,h3,h4⟩:=ho
 have e1:H.cells t o (n*1)=some (uN L):=by rw[Nat.mul_one,cells_get ht hlen,hc]
 have hL:(uN L).length=n:=by simp[hn]
 simp only[wpH,hsem0,hsem,e1,Option.bind_some,oneN,if_true,appendSem,outV]
 rw[if_pos hcap]
 simp only[true_or,if_true]
 have hput:H.put lo b (0+W.length*1) (uN L)=some (H.set b (some (putCells X W.length (uN L)))):=by
  unfold Heap.put
  rw[h1]
  simp only
  rw[if_pos (by omega)]
  simp
 rw[hput]
 simp only[Option.map_some]
 have hbl:=Heap.get_lt h1
 have:=k (H.set b (some (putCells X W.length (uN L)))) ⟨_,get_set_self hbl,?_,?_,by rw[List.length_append];omega⟩ keepSet (by simp)
 ·simpa[outV,hn]using this
 ·unfold putCells;simp[hL];omega
 ·unfold putCells
  rw[h3,←List.append_assoc,show uN W++uN L=uN (W++L) by simp[uN],List.take_append_of_le_length (by simp[uN]),List.take_of_length_le (by simp[uN])]
end
section
theorem maskP{lo:Nat}{H:Heap}{k:Nat}(hk:k≤100000):Ev cp lo 27 [encN k] H (fun r H'=>H=H'∧r=encN (msk k)):=by
 have em:(149*((k:Int)+1)).tmod 255+1=((149*(k+1)%255+1:Nat):Int):=by rw[Int.tmod_eq_emod_of_nonneg (by omega)];omega
 have hlt:149*(k+1)%255+1≤255:=by omega
 unfold msk
 generalize 149*(k+1)%255+1=w at em hlt
 have eq:(149*((k:Int)+1)).tmod 255=(w:Nat)-1:=by omega
 refine st27 ?_;unfold bd27 cf27;simp only[kB,ctlB]
 repeat' ((first|refine xSDg ?_|refine xODg rfl ?_);(try simp only[ctlB]))
 refine xRDg ?_
 refine⟨rfl,?_⟩
 show Value.int .i64 _=Value.int .i64 _
 congr 1
 omega
end
end Go.Proofs.Ythnflhimcmdnbaa
