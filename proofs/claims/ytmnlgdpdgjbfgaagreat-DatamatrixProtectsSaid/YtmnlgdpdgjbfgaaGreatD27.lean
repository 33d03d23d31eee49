/- DatamatrixProtects returns true for every list of numbers and size: Protect agrees with the reference. No conditions. -/
import Derived.Test.YtmnlgdpdgjbfgaaGreatD25
import Derived.Test.YtmnlgdpdgjbfgaaGreatD26
set_option linter.unusedVariables false
set_option linter.unusedSimpArgs false
set_option linter.unusedSectionVars false
namespace Go.Proofs.YtmnlgdpdgjbfgaaGreat
open Go.Abs Go.RS
set_option linter.unusedSimpArgs false
set_option linter.unusedVariables false
set_option maxRecDepth 20000
def NotAt(b:Nat)(v:Value):Prop:=∀b' o sp k c,v=.slice (some ⟨b',o,sp⟩) k c→b'≠b
theorem Sl.off{α:Type}{enc:α→Value}{H H':Heap}{v:Value}{l:List α}{b:Nat}(h:Sl enc H v l)(hk:Keep b H H')(hn:NotAt b v):Sl enc H' v l:=by
 rcases h with h|⟨b',o,sp,cap,xs,h1,h2,h3⟩
 ·exact .inl h
 ·exact .inr ⟨b',o,sp,cap,xs,h1,hk.get h2 (hn _ _ _ _ _ h1),h3⟩
theorem Sl.notAt{α:Type}{enc:α→Value}{H:Heap}{v:Value}{l:List α}{n:Nat}(h:Sl enc H v l)(hn:H.length≤n):NotAt n v:=by
 rintro b' o sp k c rfl
 rcases h with ⟨h,_⟩|⟨b2,o2,sp2,cap,xs,h1,h2,h3⟩
 ·cases h
 ·cases h1
  have:=Heap.get_lt h2
  omega
theorem NewV.notAt{n b:Nat}{v:Value}(h:NewV n v)(hb:b<n):NotAt b v:=fun b' o sp k c e=>by have:=h b' o sp k c e;omega
def isSl:Value→Bool
 | .slice _ _ _=>true
 | _=>false
def spiny(c:List Value):Bool:=c.all isSl
theorem spiny_snoc{D:List Value}{x:Value}(h:spiny D=true)(hx:isSl x=true):spiny (D++[x])=true:=by simp[spiny]at *;exact⟨h,hx⟩
theorem getD_snoc_lt{α:Type}{D:List α}{x d:α}{i:Nat}(h:i<D.length):(D++[x]).getD i d=D.getD i d:=by
 rw[List.getD_eq_getElem?_getD,List.getElem?_append_left h,List.getD_eq_getElem?_getD]
theorem getD_snoc_eq{α:Type}{D:List α}{x d:α}{i:Nat}(h:i=D.length):(D++[x]).getD i d=x:=by
 subst h;simp[List.getD_eq_getElem?_getD]
theorem sl_spiny{α:Type}{enc:α→Value}{H H':Heap}{v:Value}{l:List α}{t:Nat}{D:List Value}(hk:Keep t H H')(hD:H.get t=some D)(hs:spiny D=true)(henc:∀x,isSl (enc x)=false)(hl:0<l.length)(h:Sl enc H v l):Sl enc H' v l:=by
 rcases h with ⟨rfl,rfl⟩|⟨b,o,sp,cap,xs,h1,h2,h3,h4,h5⟩
 ·simp at hl
 ·refine .inr ⟨b,o,sp,cap,xs,h1,hk.get h2 ?_,h3,h4,h5⟩
  rintro rfl
  rw[hD]at h2;cases h2
  cases l with
  | nil=>simp at hl
  | cons a l=>
   have e:((D.drop o).take (a::l).length)[0]?=some (enc a):=by rw[h3];rfl
   rw[List.getElem?_take,if_pos (by simp),List.getElem?_drop]at e
   have hm:=List.mem_of_getElem? e
   have:=List.all_eq_true.1 hs _ hm
   rw[henc a]at this;cases this
theorem sl_isSl{α:Type}{enc:α→Value}{H:Heap}{v:Value}{l:List α}(h:Sl enc H v l):isSl v=true:=by
 obtain⟨a,c,rfl⟩:=h.len;rfl
theorem vs_at{vs:List Value}{i:Nat}(h:i<vs.length):vs[i]?=some (vs.getD i nl):=by
 rw[List.getD_eq_getElem?_getD,List.getElem?_eq_getElem h];rfl
theorem take_getD{β:Type}{l:List β}{i:Nat}(e:β)(h:i<l.length):l.take (i+1)=l.take i++[l.getD i e]:=by
 rw[List.take_succ_eq_append_getElem h,List.getD_eq_getElem?_getD,List.getElem?_eq_getElem h];rfl
theorem spine_appK{cp:FuncId→Option CF}{lo base:Nat}{z:List Value}{H:Heap}{v x:Value}{b t m:Nat}{sp:Option Nat}{D:List Value}{R:Value→Heap→Prop}(ho:Own base 1 H v b D)(hlo:lo≤base)(hbl:base≤H.length)(hx:isSl x=true)(ht:H.get t=some [x])(hbig:D.length+1≤4294967296)
  (k:∀v' H' b',Own base 1 H' v' H.length (D++[x])→Keep b' H H'→(b'=H.length∨(b'=b∧H.get b'=some D))→H'.length=H.length+1→R v' H'):wpH cp lo (.app 1 z) [v,.slice (some ⟨t,0,sp⟩) 1 m] H R:=by
 have hone:oneCells [x]=true:=by
  cases x<;>simp[isSl]at hx;rfl
 obtain⟨hb,⟨rfl,rfl⟩|⟨n,h1,h2,rfl,h4⟩⟩:=ho
 ·refine wpH_app (b:=H.length) (cells:=[]) (c:=[x]) (Own.nil (by omega)) (by omega) (by omega) (by omega) (by simp) ht (by simp) (by simp) hone ?_
  intro v' H' a1 a2 a3
  exact k v' H' _ ⟨hbl,a1.2⟩ a2 (.inl rfl) a3
 ·refine wpH_app (b:=b) (cells:=D) (c:=[x]) ⟨by omega,.inr ⟨n,h1,h2,rfl,h4⟩⟩ (by omega) (by omega) (by omega) hbig ht (by simp) (by simp) hone ?_
  intro v' H' a1 a2 a3
  exact k v' H' _ ⟨hbl,a1.2⟩ a2 (.inr ⟨rfl,h4⟩) a3
theorem sl_keepS{α:Type}{enc:α→Value}{H H':Heap}{v:Value}{l:List α}{t:Nat}{D:List Value}(hk:Keep t H H')(hD:t=H.length∨H.get t=some D)(hs:spiny D=true)(henc:∀x,isSl (enc x)=false)(hl:0<l.length)(h:Sl enc H v l):Sl enc H' v l:=by
 rcases hD with rfl|hD
 ·exact h.mono ⟨hk.len,fun i hi=>hk.eq i hi (by omega)⟩
 ·exact sl_spiny hk hD hs henc hl h
theorem keep_ow2{b c:Nat}{A B C:Heap}(h:Keep b A B)(k:Keep c B C)(hc:A.length≤c):Keep b A C:=⟨Nat.le_trans h.len k.len,fun i hi hne=>(k.eq i (Nat.lt_of_lt_of_le hi h.len) (by omega)).trans (h.eq i hi hne)⟩
def usL(n i:Nat):List Int:=(List.range n).map fun x=>((cnt i n x:Nat):Int)
theorem usL_len(n i:Nat):(usL n i).length=n:=by simp[usL]
theorem usL_0(n:Nat)(hn:0<n):usL n 0=List.replicate n 0:=by
 unfold usL
 rw[List.map_congr_left (g:=fun _=>(0:Int)) (fun x hx=>by
  have hx:=List.mem_range.1 hx
  rw[show cnt 0 n x=0 by unfold cnt;exact Nat.div_eq_of_lt (by omega)];rfl),List.map_const',List.length_range]
theorem usL_at{n i:Nat}(hn:0<n):(usL n i).getD (i%n) 0=((i/n:Nat):Int):=by
 unfold usL
 rw[rangeZ (Nat.mod_lt i hn),cnt_at hn]
theorem usL_succ{n i:Nat}(hn:0<n):(usL n i).set (i%n) (((i/n:Nat):Int)+1)=usL n (i+1):=by
 have hx:=Nat.mod_lt i hn
 have:=range_set (n:=n) (k:=i%n) (F:=fun x=>((cnt i n x:Nat):Int)) (G:=fun x=>((cnt (i+1) n x:Nat):Int)) hx (fun x hx2 hne=>by
  show((cnt (i+1) n x:Nat):Int)=_
  rw[cnt_succ hx2,if_neg (fun e=>hne e.symm)])
 rw[cnt_succ hx,if_pos rfl,cnt_at hn]at this
 rw[←Int.natCast_one,←Int.natCast_add]
 exact this
def ProtQ(s:Sz)(l:List Int)(H:Heap)(r:Value):Prop:=
 (eChk s l s.d≠0→r=.tuple #[.slice none 0 0,.int .i64 (eChk s l s.d)]) ∧
 (∀i,i<30→s=(dz i).sz→∀e:List (El F1),l=valI e→e.length=(dz i).d→∃vo,r=.tuple #[vo,.int .i64 0]∧SlI H vo (ilv (dz i).n ((dz i).W e) ((dz i).d+(dz i).c)))
theorem protQ_bad{s:Sz}{l:List Int}{H:Heap}{k:Int}(he:eChk s l s.d=k)(hk:k≠0):ProtQ s l H (.tuple #[.slice none 0 0,.int .i64 k]):=
 ⟨fun _=>by rw[he],fun i hi hs e hle hlen=>absurd (eChk_ok (l:=l) (n:=s.d) (szs_mem.2 ⟨i,hi,hs⟩) (by rw[hle,valI_len,hlen,hs];rfl) (by rw[hle];exact inF_valI (f:=F1) e)) (by rw[he];exact hk)⟩
section
variable {lo:Nat}{H:Heap}
set_option maxHeartbeats 2000000 in
theorem protV{s:Sz}{v:Value}{l:List Int}(hl:SlI H v l)(hll:l.length≤1000000000)(hlo:lo≤H.length):Ev cp lo 14 [v,s.val] H (fun r H'=>Ext H H'∧ProtQ s l H' r):=by
 have hl0:=hl
 obtain⟨ad,c,rfl⟩:=hl.len
 refine st14 ?_;unfold bd14 cf14;simp only[kB,ctlB]
 repeat' ((first|refine xSYf ?_|refine xOYf rfl ?_);(try simp only[ctlB]))
 generalize hG:H++_=G at *
 obtain⟨g0,hxG⟩:=box_facts hG
 clear hG
 have hlG:=hxG.1
 refine xHYf ?_
 refine wpH_call0 (validV (s:=s) (by omega)) ?_
 rintro r H1 ⟨hx1,rfl⟩
 have g0:=hx1.get g0
 have hx1:=hxG.trans hx1
 have hl1:=hx1.1
 by_cases hs:s ∈ szs
 case neg=>
  have hg:ProtQ s l H1 (.tuple #[.slice none 0 0,.int .i64 14]):=protQ_bad (if_pos hs) (by decide)
  rw[decide_eq_false hs]
  (try simp only[ctlB])
  repeat' ((first|refine xSYf ?_|refine xOYf rfl ?_);(try simp only[ctlB]))
  refine xCYf (fun h=>?_) (fun h=>?_)
  case refine_2=>simp at h
  clear h
  (try simp only[ctlB])
  repeat' ((first|refine xSYf ?_|refine xOYf rfl ?_);(try simp only[ctlB]))
  refine xRYf ?_
  exact⟨hx1,hg⟩
 rw[decide_eq_true hs]
 (try simp only[ctlB])
 repeat' ((first|refine xSYf ?_|refine xOYf rfl ?_);(try simp only[ctlB]))
 refine xCYf (fun h=>?_) (fun h=>?_)
 ·simp at h
 clear h
 obtain⟨i0,hi0,hs0⟩:=szs_mem.1 hs
 have hck:eChk s l s.d=if (l.length:Int)≠s.d then 7 else if inF 256 l=true then 0 else 3:=if_neg (fun h=>h hs)
 subst hs0
 have hgE:∀{k:Int} {H':Heap},eChk (dz i0).sz l (dz i0).sz.d=k→k≠0→ProtQ (dz i0).sz l H' (.tuple #[.slice none 0 0,.int .i64 k]):=fun h1 h2=>protQ_bad h1 h2
 have hgG:eChk (dz i0).sz l (dz i0).sz.d=0→∀{e:List (El F1)},l=valI e→∀{H':Heap} {vo:Value},SlI H' vo (ilv (dz i0).n ((dz i0).W e) ((dz i0).d+(dz i0).c))→ProtQ (dz i0).sz l H' (.tuple #[vo,.int .i64 0]):=by
  intro he e hle H' vo hh
  refine⟨fun h=>absurd he h,fun i hi hs e2 hle2 hlen2=>?_⟩
  have h3:=szs_inj hi0 hi hs
  have h4:e=e2:=List.map_inj_right (f:=fun x:El F1=>((x.val:Nat):Int)) (fun x y h=>El.ext (by omega)) |>.1 (show valI e=valI e2 by rw[←hle,←hle2])
  subst h4
  rw[←h3]
  exact⟨vo,rfl,hh⟩
 have hcode:=fun {H:Heap} {lo:Nat} (h:lo≤H.length)=>codeQ (H:=H) hi0 h
 have hz:=dz_ok hi0
 have hd0:(dz i0).sz.d=(((dz i0).d:Nat):Int):=rfl
 rw[hd0]at hck hgE hgG
 clear hs hd0
 generalize dz i0=zz at *
 have n1:=hz.n1
 have n2:=hz.n2
 have dn:=hz.dn
 have d2:=hz.d2
 have c2:=hz.c2
 have k1:=hz.k1
 have k2:=hz.k2
 unfold Dz.sz Sz.val at *
 simp only[Sz.cells]at *
 generalize eChk _ l _=ec at *
 (try simp only[ctlB])
 by_cases hlz:l.length=zz.d
 case neg=>
  rw[if_pos (by omega)]at hck
  have hg:=hgE (H':=H1) hck (by decide)
  clear hgE hgG hcode hck
  refine xCYf (fun h=>?_) (fun h=>?_)
  case refine_2=>exfalso;simp at h;omega
  clear h
  (try simp only[ctlB])
  repeat' ((first|refine xSYf ?_|refine xOYf rfl ?_);(try simp only[ctlB]))
  refine xRYf ?_
  exact⟨hx1,hg⟩
 rw[if_neg (by omega)]at hck
 replace hlz:False∨_:=.inr hlz
 have hlz2:l.length≤zz.d∧zz.d≤l.length:=by have:=hlz.resolve_left id;omega
 refine xCYf (fun h=>?_) (fun h=>?_)
 ·exfalso;simp at h;omega
 clear h
 (try simp only[ctlB])
 refine xHYf ?_
 refine wpH_call0 (bytesV (hl0.mono hx1) hll) ?_
 rintro r _ ⟨rfl,rfl⟩
 by_cases hin:inF 256 l=true
 case neg=>
  rw[if_neg hin]at hck
  have hg:=hgE (H':=H1) hck (by decide)
  rw[Bool.not_eq_true]at hin
  rw[hin]
  clear hgE hgG hcode hck
  (try simp only[ctlB])
  repeat' ((first|refine xSYf ?_|refine xOYf rfl ?_);(try simp only[ctlB]))
  refine xCYf (fun h=>?_) (fun h=>?_)
  case refine_2=>simp at h
  clear h
  (try simp only[ctlB])
  repeat' ((first|refine xSYf ?_|refine xOYf rfl ?_);(try simp only[ctlB]))
  refine xRYf ?_
  exact⟨hx1,hg⟩
 rw[if_pos hin]at hck
 obtain⟨e,hle⟩:=to_el (f:=F1) hin
 replace hle:l=valI e:=hle
 have hgG:=@hgG hck e hle
 rw[hin]
 clear hgE hck hin
 replace hle:False∨_:=.inr hle
 have hel:e.length=zz.d:=by rw[←hlz.resolve_left id,hle.resolve_left id,valI_len]
 replace hel:False∨_:=.inr hel
 have hca:∀x,x<zz.n→cnt (zz.d+zz.c) zz.n x=cnt zz.d zz.n x+zz.ck∧0<cnt zz.d zz.n x∧cnt zz.d zz.n x+zz.ck≤250:=fun x hx=>cnt_all hz hx
 have hq0:=Heap.get_lt g0
 (try simp only[ctlB])
 repeat' ((first|refine xSYf ?_|refine xOYf rfl ?_);(try simp only[ctlB]))
 refine xCYf (fun h=>?_) (fun h=>?_)
 ·simp at h
 clear h
 (try simp only[ctlB])
 repeat' ((first|refine xSYf ?_|refine xOYf rfl ?_);(try simp only[ctlB]))
 refine aw_for (fun x S H'=>Ext H1 H'∧∃vo bo D vu bu,Own H1.length 1 H' vo bo D∧Own H1.length 1 H' vu bu (intL (List.replicate x 0))∧spiny D=true∧D.length=x∧(x=0∨(bu<H'.length∧bo<H'.length∧bo≠bu))∧(∀y,y<x→IsEnc g1 zz.ck 1 (strd e 0 zz.n y) (zz.W e y)∧SlE H' (D.getD y nl) (zz.W e y)∧NotAt bu (D.getD y nl))∧∃(z:Nat→Value),S=[.slice ad l.length c,z 1,.pointer (some ⟨H.length,0,none⟩),z 3,z 4,vo,vu,.int .i64 (x:Nat),z 8,z 9,z 10,z 11,z 12,z 13,z 14,z 15,z 16,z 17,z 18,z 19,z 20,z 21,z 22,z 23,z 24,z 25,z 26,z 27,z 28]) zz.n ?_ ?_ ?_ ?_
 ·exact⟨Ext.refl _,_,_,[],_,_,Own.nil (b:=H1.length) (Nat.le_refl _),Own.nil (b:=H1.length) (Nat.le_refl _),rfl,rfl,.inl rfl,by omega,exZGc rfl⟩
 ·rintro x S H' hx ⟨hx2,vo,bo,D,vu,bu,-,-,-,-,-,-,z,rfl⟩
  have g0:=hx2.get g0
  exact⟨_,xEYf,by simp⟩
 ·rintro x S H2 hx ⟨hx2,vo,bo,D,vu,bu,oo,ou,sD,lD,hne,hC,z,rfl⟩
  obtain⟨ca,cb,cc⟩:=hca x hx
  have g0:=hx2.get g0
  have hx02:=hx1.trans hx2
  have hl2:=hx02.1
  have hl12:=hx2.1
  have hsl:=hl0.mono hx02
  (try simp only[ctlB])
  repeat' ((first|refine xSYf ?_|refine xOYf rfl ?_);(try simp only[ctlB]))
  refine xHYf ?_
  refine wpH_call1 (hcode (Nat.le_refl _)) ?_
  rintro r H3 ⟨hx3,rfl⟩
  have g0:=hx3.get g0
  have hsl:=hsl.mono hx3
  have hq3:=hx3.1
  (try simp only[ctlB])
  refine xHYf ?_
  refine wpH_callC (first:=#[]) (cap:=#[]) (args:=[.slice ad l.length c,.int .i64 (x:Nat),.int .i64 (zz.n:Nat)]) (blockV (n:=zz.n) (x:=x) hsl hll hx (by omega) (by omega)) ?_
  rintro r H4 ⟨hx4,hr⟩
  rw[hle.resolve_left id,strd_val]at hr
  have hr:SlE H4 r (strd e 0 zz.n x):=sli_sle hr
  have hsd:(strd e 0 zz.n x).length=cnt zz.d zz.n x:=by rw[strd_len,hel.resolve_left id]
  have hq4:=hx4.1
  (try simp only[ctlB])
  refine xHYf ?_
  refine wpH_callC (first:=#[]) (cap:=#[]) (args:=[cdV (fB 301) zz.ck 1,r]) (encV_okN (f:=F1) (g:=g1) (d:=strd e 0 zz.n x) (by omega) gn301 (cdok1 (by omega) (by omega)) hr (by omega)) ?_
  rintro r2 H5 ⟨hx5,⟨-,-,vw,w,rfl,hvw,hnew,hie⟩|⟨hno,-⟩⟩
  case inr=>exact absurd ⟨by omega,by show _<256;omega⟩ hno
  obtain rfl:w=zz.W e x:=encW_of (cdok1 (by omega) (by omega)) hie
  have hwl:=hie.len
  rw[hsd]at hwl
  have hq5:=hx5.1
  have hx25:=(hx3.trans hx4).trans hx5
  have oo:=oo.mono hx25
  have ou:=ou.mono hx25
  have hC:∀y,y<x→IsEnc g1 zz.ck 1 (strd e 0 zz.n y) (zz.W e y)∧SlE H5 (D.getD y nl) (zz.W e y)∧NotAt bu (D.getD y nl):=fun y hy=>⟨(hC y hy).1,(hC y hy).2.1.mono hx25,(hC y hy).2.2⟩
  have hvs:=sl_isSl hvw
  obtain⟨aw,cw,ew⟩:=hvw.len
  replace hsd:False∨_:=.inr hsd
  clear hr
  subst ew
  (try simp only[ctlB])
  repeat' ((first|refine xSYf ?_|refine xOYf rfl ?_);(try simp only[ctlB]))
  refine xHYf ?_
  refine spine_appK (b:=bo) (D:=D) (base:=H1.length) (oo.mono (Ext.app _ _)) (by omega) (by simp;omega) rfl get_app0 (by omega) ?_
  intro vo' H6 b' oo' hk6 hb' hl6
  have hxa:=Ext.app H5 [some [Value.slice aw (cnt zz.d zz.n x+zz.ck) cw]]
  have hla:(H5++[some [Value.slice aw (cnt zz.d zz.n x+zz.ck) cw]]).length=H5.length+1:=by simp
  rw[hla]at oo' hb' hl6
  have hvw:SlE H5 (.slice aw (cnt zz.d zz.n x+zz.ck) cw) (zz.W e x):=by rw[←hwl];exact hvw
  have hnew:NewV H4.length (.slice aw (cnt zz.d zz.n x+zz.ck) cw):=by rw[←hwl];exact hnew
  have hb'':H1.length≤b':=by
   rcases hb' with h|h
   ·omega
   ·rw[h.1];exact oo.1
  have hx6:Ext H1 H6:=hk6.ext ((hx2.trans hx25).trans hxa) hb''
  have hE:∀y,y<x+1→IsEnc g1 zz.ck 1 (strd e 0 zz.n y) (zz.W e y)∧SlE H6 ((D++[Value.slice aw (cnt zz.d zz.n x+zz.ck) cw]).getD y nl) (zz.W e y):=fun y hy=>by
   have hmv:∀{v:Value} {l:List (El F1)},0<l.length→SlE H5 v l→SlE H6 v l:=fun hl h=>sl_keepS hk6 (hb'.imp (fun h=>by omega) And.right) sD (fun _=>rfl) hl (h.mono hxa)
   by_cases hyx:y<x
   ·rw[getD_snoc_lt (by omega)]
    refine⟨(hC y hyx).1,hmv ?_ (hC y hyx).2.1⟩
    rw[(hC y hyx).1.len];omega
   ·have:y=x:=by omega
    subst this
    rw[getD_snoc_eq lD.symm]
    exact⟨hie,hmv (by omega) hvw⟩
  have key:∃bu',Own H1.length 1 H6 vu bu' (intL (List.replicate x 0))∧bu'≠H5.length+1∧∀y,y<x+1→NotAt bu' ((D++[Value.slice aw (cnt zz.d zz.n x+zz.ck) cw]).getD y nl):=by
   rcases hne with h0|⟨n3,n4,n5⟩
   ·obtain⟨hb,⟨rfl,_⟩|⟨k,hk,h1,_⟩⟩:=ou
    ·refine⟨H6.length,?_,by omega,fun y hy=>Sl.notAt (hE y hy).2 (Nat.le_refl _)⟩
     rw[h0];exact Own.nil hx6.1
    ·rw[h0]at h1;simp[intL]at h1;omega
   ·refine⟨bu,(ou.mono hxa).keep hk6 ?_,by omega,fun y hy=>?_⟩
    ·rcases hb' with h|h
     ·omega
     ·rw[h.1];exact fun h=>n5 h.symm
    ·by_cases hyx:y<x
     ·rw[getD_snoc_lt (by omega)];exact(hC y hyx).2.2
     ·rw[getD_snoc_eq (by omega)]
      exact hnew.notAt (by omega)
  obtain⟨bu',ou',n3,hN⟩:=key
  have hub:=ou'.1
  replace hl6:H5.length+2≤H6.length∧H6.length≤H5.length+2:=by omega
  clear hC hne ou oo hvw hnew hb' hk6 hie hwl hla
  (try simp only[ctlB])
  repeat' ((first|refine xSYf ?_|refine xOYf rfl ?_);(try simp only[ctlB]))
  refine xHYf ?_
  refine wpH_app (b:=bu') (cells:=intL (List.replicate x 0)) (c':=[.int .i64 0]) (c:=[.int .i64 0]) ((ou'.mono (Ext.app _ _)).lower (by omega)) (by simp;omega) (by omega) (by omega) (by rw[intL_len,List.length_replicate];omega) get_app0 (by simp) rfl rfl ?_
  rw[show intL (List.replicate x 0)++[Value.int .i64 0]=intL (List.replicate (x+1) 0) by rw[List.replicate_succ',intL_app];rfl]
  intro vu' H7 ou7 hk7 hl7
  replace hl7:H7.length=H6.length+2:=by simpa using hl7
  have hxb:=Ext.app H6 [some [Value.int .i64 0]]
  have hx7:=hk7.ext (hx6.trans hxb) hub
  have oo7:=(oo'.mono hxb).keep hk7 (fun h=>n3 h.symm)
  have ou7:Own H1.length 1 H7 vu' (H6.length+1) (intL (List.replicate (x+1) 0)):=⟨by omega,by simpa using ou7.2⟩
  have hE7:∀y,y<x+1→IsEnc g1 zz.ck 1 (strd e 0 zz.n y) (zz.W e y)∧SlE H7 ((D++[Value.slice aw (cnt zz.d zz.n x+zz.ck) cw]).getD y nl) (zz.W e y)∧NotAt (H6.length+1) ((D++[Value.slice aw (cnt zz.d zz.n x+zz.ck) cw]).getD y nl):=fun y hy=>⟨(hE y hy).1,Sl.off ((hE y hy).2.mono hxb) hk7 (hN y hy),Sl.notAt (hE y hy).2 (by omega)⟩
  replace hl7:H6.length+2≤H7.length:=by omega
  clear hE hN ou' oo' hk7
  (try simp only[ctlB])
  repeat' ((first|refine xSYf ?_|refine xOYf rfl ?_);(try simp only[ctlB]))
  exact⟨hx7,vo',_,_,vu',_,oo7,ou7,spiny_snoc sD rfl,by simp[lD],.inr ⟨by omega,by omega,by omega⟩,hE7,exZGc (by first|rfl|(simp only[Int.natCast_add,Int.natCast_one];rfl)|simp only[Int.natCast_add,Int.natCast_one])⟩
 ·rintro S H2 ⟨hx2,vo,bo,D,vu,bu,oo,ou,sD,lD,hne,hC,z,rfl⟩
  obtain⟨n3,n4,n5⟩:=hne.resolve_left (by omega)
  have hub:=ou.1
  obtain⟨rfl,gu⟩:=own_realI ou (by rw[List.length_replicate];omega)
  simp only[List.length_replicate]
  obtain⟨kD,hkD,gD⟩:∃k,k=D.length∧vo=.slice (some ⟨bo,0,some 1⟩) k k∧H2.get bo=some D:=by
   obtain⟨_,⟨_,h⟩|⟨k,_,h1,h2,h3⟩⟩:=oo
   ·rw[h]at lD;simp at lD;omega
   ·exact⟨k,by omega,h2,h3⟩
  obtain⟨rfl,gD⟩:=gD
  rw[lD]at hkD
  subst hkD
  rw[←usL_0 zz.n (by omega)]at gu
  obtain⟨T,hTT⟩:∃T:Nat,zz.d+zz.c=T:=⟨_,rfl⟩
  rw[hTT]at hgG hca
  have hTi:(zz.d:Int)+(zz.c:Int)=((T:Nat):Int):=by omega
  have hT2:T≤2178:=by omega
  clear hTT oo ou hne
  have g0:=hx2.get g0
  have hx02:=hx1.trans hx2
  (try simp only[ctlB])
  repeat' ((first|refine xSYf ?_|refine xOYf rfl ?_);(try simp only[ctlB]))
  refine aw_for (fun i S H'=>Keep bu H2 H'∧Heap.get H' bu=some (intL (usL zz.n i))∧∃vq bq,Own H2.length 1 H' vq bq (intL ((ilv zz.n (zz.W e) T).take i))∧∃(z:Nat→Value),S=[z 0,z 1,.pointer (some ⟨H.length,0,none⟩),z 3,z 4,.slice (some ⟨bo,0,some 1⟩) zz.n zz.n,.slice (some ⟨bu,0,some 1⟩) zz.n zz.n,z 7,z 8,vq,.int .i64 (i:Nat),z 11,z 12,z 13,z 14,z 15,z 16,z 17,z 18,z 19,z 20,z 21,z 22,z 23,z 24,z 25,z 26,z 27,z 28]) T ?_ ?_ ?_ ?_
  ·exact⟨keep_ext (Ext.refl _),gu,_,_,by rw[List.take_zero];exact Own.nil (Nat.le_refl _),exZGc rfl⟩
  ·rintro i S H' hi ⟨q1,-,vq,bq,-,z,rfl⟩
   have g0:=q1.get g0 (by omega)
   exact⟨_,xEYf,by simp⟩
  ·clear gu
   rintro i S H3 hi ⟨q1,gu,vq,bq,oq,z,rfl⟩
   have g0:=q1.get g0 (by omega)
   have gD:=q1.get gD n5
   have hX:i%zz.n<zz.n:=Nat.mod_lt _ (by omega)
   have q2:((i:Nat):Int).tmod (zz.n:Int)=((i%zz.n:Nat):Int):=(Int.ofNat_tmod i zz.n).symm
   obtain⟨hie,hsx,hna⟩:=hC (i%zz.n) hX
   obtain⟨ca,cb,cc⟩:=hca _ hX
   have hwl:=hie.len
   rw[strd_len,hel.resolve_left id]at hwl
   have hY:=div_lt_cnt (N:=T) (n:=zz.n) (j:=i) (by omega) hi
   obtain⟨yb,yo,ysp,yc,ys,ey,gy,fy,_⟩:=sle_at (Sl.off hsx q1 hna) (by omega)
   have hvX:=vs_at (vs:=D) (i:=i%zz.n) (by omega)
   rw[ey]at hvX
   have fyk:=fy (i/zz.n) (by omega)
   have hua:=usL_at (n:=zz.n) (i:=i) (by omega)
   have hus:=usL_succ (n:=zz.n) (i:=i) (by omega)
   have hul:=usL_len zz.n i
   have hnx:=take_getD (l:=ilv zz.n (zz.W e) T) (i:=i) (0:Int) (by rw[ilv_len];exact hi)
   rw[ilv_at hi]at hnx
   rw[hnx]
   have htk:((ilv zz.n (zz.W e) T).take i).length≤4000:=by rw[List.length_take,ilv_len];omega
   have hwl2:(zz.W e (i%zz.n)).length≤250∧i/zz.n<(zz.W e (i%zz.n)).length:=by omega
   have hqu:=Heap.get_lt gu
   have hqD:=Heap.get_lt gD
   have hqy:=Heap.get_lt gy
   have hq1:=q1.len
   clear fy hie hsx hna hwl hnx ey hC hca hY ca cb cc
   generalize (co (zz.W e (i%zz.n)) (i/zz.n)).val=c1 at *
   generalize (zz.W e (i%zz.n)).length=wlen at *
   generalize usL zz.n (i+1)=us2 at *
   generalize usL zz.n i=us1 at *
   generalize i%zz.n=X at *
   generalize i/zz.n=Y at *
   generalize (ilv zz.n (zz.W e) T).take i=tk at *
   have hob:=oq.1
   (try simp only[ctlB])
   repeat' ((first|refine xSYf ?_|refine xOYf rfl ?_);(try simp only[ctlB]))
   refine xHYf ?_
   refine wpH_app (b:=bq) (cells:=intL tk) (c':=[.int .i64 (c1:Nat)]) (c:=[.int .i64 (c1:Nat)]) ((oq.mono (Ext.app _ _)).lower (by omega)) (by simp;omega) (by omega) (by omega) (by rw[intL_len];omega) get_app0 (by simp) rfl rfl ?_
   rw[show intL tk++[Value.int .i64 (c1:Nat)]=intL (tk++[((c1:Nat):Int)]) by rw[intL_app];rfl]
   intro vq' H4 oq' hk4 hl4
   replace hl4:H4.length=H3.length+2:=by simpa using hl4
   have hxb:=Ext.app H3 [some [Value.int .i64 (c1:Nat)]]
   have k4:=keep_ow2 (keep_trans q1 (keep_ext hxb)) hk4 hob
   have gu4:=hk4.get (hxb.get gu) (by omega)
   have oq4:Own H2.length 1 H4 vq' (H3.length+1) (intL (tk++[((c1:Nat):Int)])):=⟨by omega,by simpa using oq'.2⟩
   replace hl4:H3.length+2≤H4.length:=by omega
   clear oq oq' hk4 gu gy gD g0 fyk hvX
   (try simp only[ctlB])
   repeat' ((first|refine xSYf ?_|refine xOYf rfl ?_);(try simp only[ctlB]))
   refine⟨keep_set' k4 _,by rw[get_set_self (by omega)],vq',_,oq4.keep (keep_set (Ext.refl _) bu _) (by omega),exZGc (by first|rfl|(simp only[Int.natCast_add,Int.natCast_one];rfl)|simp only[Int.natCast_add,Int.natCast_one])⟩
  ·clear gu
   rintro S H3 ⟨q1,-,vq,bq,oq,z,rfl⟩
   rw[List.take_of_length_le (by rw[ilv_len];exact Nat.le_refl _)]at oq
   have hfin:=hgG (Sl.ofOwn oq)
   have hxf:=q1.ext hx02 (by omega)
   clear hgG hca hC
   (try simp only[ctlB])
   repeat' ((first|refine xSYf ?_|refine xOYf rfl ?_);(try simp only[ctlB]))
   refine xRYf ?_
   exact⟨hxf,hfin⟩
end
end Go.Proofs.YtmnlgdpdgjbfgaaGreat
namespace Go.Proofs.YtmnlgdpdgjbfgaaGreat
open Go.Abs Go.RS
set_option linter.unusedSimpArgs false
set_option linter.unusedVariables false
set_option maxRecDepth 20000
section
variable {lo:Nat}
theorem sli_nilP{H:Heap}:SlI H (.slice none 0 0) []:=.inl ⟨rfl,rfl⟩
theorem prot_any{s:Sz}{v:Value}{l:List Int}(hll:l.length≤1000000000):∃(L:List Int) (k:Int),L.length≤10000∧(∀H,SlI H v l→lo≤H.length→Ev cp lo 13 [v,s.val] H (fun r H'=>Ext H H'∧∃vo,r=.tuple #[vo,.int .i64 k]∧SlI H' vo L)) ∧
  (∀H,SlI H v l→lo≤H.length→Ev cp lo 14 [v,s.val] H (fun r H'=>Ext H H'∧∃vo,r=.tuple #[vo,.int .i64 k]∧SlI H' vo L)):=by
 by_cases he:eChk s l s.d=0
 ·obtain⟨hs,hln,hin⟩:=eChk_0 he
  obtain⟨i,hi,rfl⟩:=szs_mem.1 hs
  obtain⟨e,hle⟩:=to_el (f:=F1) hin
  replace hle:l=valI e:=hle
  have hd:(dz i).sz.d=(((dz i).d:Nat):Int):=rfl
  have hel:e.length=(dz i).d:=by
   have h1:l.length=e.length:=by rw[hle];exact valI_len e
   omega
  refine⟨ilv (dz i).n ((dz i).W e) ((dz i).d+(dz i).c),0,?_,fun H hl hlo=>(protP hl hll hlo).mono fun r H' h=>⟨h.1,?_⟩,fun H hl hlo=>(protV hl hll hlo).mono fun r H' h=>⟨h.1,h.2.2 i hi rfl e hle hel⟩⟩
  ·rw[ilv_len]
   have:=(dz_ok hi).d2
   have:=(dz_ok hi).c2
   omega
  ·obtain⟨b,_,e1,e2,_⟩:=h.2.2 i hi rfl e hle hel
   exact⟨_,e1,Sl.whole e2 (ilv_len _ _ _)⟩
 ·exact⟨[],eChk s l s.d,by simp,fun H hl hlo=>(protP hl hll hlo).mono fun r H' h=>⟨h.1,_,h.2.1 he,sli_nilP⟩,fun H hl hlo=>(protV hl hll hlo).mono fun r H' h=>⟨h.1,_,h.2.1 he,sli_nilP⟩⟩
theorem xTYs{cp:FuncId→Option CF}{lo:Nat}{l:List (Nat×E)}{chk:List E}{Q:Post}{S:List Value}{H:Heap}{vs:List (Nat×Value)}{dst:Option Nat}{o:HOp}{a:E}{xs:List Value}{pc:PC}(k:wpH cp lo o xs H fun v H'=>Q .normal (setD (setAll S vs) dst v) H')(h:evSets S H l=some vs:=by exact xEYe)(hc:evChk S H chk=true:=by simp(disch:=first|omega|(simp only[lenB];omega))only[evB,xBYe,Nat.reduceAdd,Nat.reduceBEq, *])(hp:holds S H pc=some true:=by simp(disch:=first|omega|(simp only[lenB];omega))only[evB,xBYe,Nat.reduceAdd,Nat.reduceBEq, *];try rfl)(ha:ev S H a=some xs:=by exact xEYe):wpS cp lo (.hv l chk pc dst o a) Q S H:=aw_hvT h hc hp ha k
theorem lawPro{H:Heap}{s:Sz}{v:Value}{l:List Int}(hl:SlI H v l):Ev cp H.length 3 [v,s.val] H (fun v _=>v=.bool true):=by
 have hl0:=hl
 obtain⟨ad,cd,rfl⟩:=hl.len
 refine st3 ?_;unfold bd3 cf3;simp only[kB,ctlB]
 repeat' ((first|refine xSYe ?_|refine xOYe rfl ?_);(try simp only[ctlB]))
 generalize hG:H++_=G at *
 obtain⟨g0,hxG⟩:=box_facts hG
 clear hG
 have hlG:=hxG.1
 replace g0:G.get H.length=some s.cells:=g0
 unfold Sz.cells at g0
 by_cases h3:1600<l.length
 ·refine xCYe (fun h=>?_) (fun h=>?_)
  case refine_2=>simp at h;omega
  clear h
  (try simp only[ctlB])
  refine xHYe ?_
  refine wpH_call0 (exH hlG) ?_
  rintro r H1 ⟨-,rfl⟩
  (try simp only[ctlB])
  repeat' ((first|refine xSYe ?_|refine xOYe rfl ?_);(try simp only[ctlB]))
  refine xRYe ?_
  rfl
 refine xCYe (fun h=>?_) (fun h=>?_)
 ·simp at h;omega
 clear h
 obtain⟨L,k,hL,hP,hV⟩:=prot_any (lo:=H.length) (s:=s) (v:=.slice ad l.length cd) (l:=l) (by omega)
 (try simp only[ctlB])
 refine xHYe ?_
 refine wpH_call0 (hP G (hl0.mono hxG) hlG) ?_
 rintro r H1 ⟨hx1,v1,rfl,hv1⟩
 have g0:=hx1.get g0
 have hx1:=hxG.trans hx1
 have hl1:=hx1.1
 have hV:=hV H1 (hl0.mono hx1) hl1
 clear hP
 (try simp only[ctlB])
 repeat' ((first|refine xSYe ?_|refine xOYe rfl ?_);(try simp only[ctlB]))
 refine xHYe ?_
 refine wpH_call0 hV ?_
 rintro r H2 ⟨hx2,v2,rfl,hv2⟩
 have hv1:=hv1.mono hx2
 have hx2:=hx1.trans hx2
 have hl2:=hx2.1
 clear hV hx1 hl hl0 g0
 (try simp only[ctlB])
 repeat' ((first|refine xSYe ?_|refine xOYe rfl ?_);(try simp only[ctlB]))
 refine xTYs ?_
 refine wpH_call0 (same_eq hv1 hv2 (by omega) (by omega) rfl) ?_
 rintro r _ ⟨rfl,rfl⟩
 (try simp only[ctlB])
 refine xTYs ?_
 refine wpH_call0 (exH hl2) ?_
 rintro r H3 ⟨-,rfl⟩
 (try simp only[ctlB])
 repeat' ((first|refine xSYe ?_|refine xOYe rfl ?_);(try simp only[ctlB]))
 refine xRYe ?_
 rfl
end
end Go.Proofs.YtmnlgdpdgjbfgaaGreat
namespace Go.Proofs.YtmnlgdpdgjbfgaaGreat
open Go.Abs
namespace datamatrixProtects
open Go.ChangeShapes Go.WideShapes Go.ChangeAt Go.RowKit
theorem fnE(X:Type)(ds:List (DataW X))(h:ds.length=2):Rows.datamatrixProtectsSpec.fn X ds=⟨[.lit (.bool true)],ds,[]⟩:=by
 match ds,h with
 | [d1,d2],_=>rfl
theorem lawAll(H:Heap)(vs:List Value)(h:HasArgs maxLen H [.sl (.int .i64),.rcd [.int .i64,.int .i64,.int .i64,.int .i64,.int .i64,.int .i64,.int .i64]] vs):Ev cp H.length 3 vs H (fun v _=>v=.bool true):=by
 simp only[HasArgs]at h
 obtain⟨a1,r1,rfl,h1,a2,r2,rfl,h2,rfl⟩:=h
 simp only[HasArg]at h1
 obtain⟨v,l,e1,hl,hm⟩:=sl_one h1
 cases e1
 obtain⟨s,rfl⟩:=size_of h2
 exact lawPro hl
set_option maxRecDepth 100000 in
theorem lifted(os:Os)(started:os.Started)(H:Type)(enc:TypeId×Value→H) :
  ReturnsInHanded {} Tryz.checked os 3 .any (Rows.datamatrixProtectsSpec.pre6 enc Tryz.prog Tryz.f3 Rows.datamatrixProtectsRow.domain false) (Rows.datamatrixProtectsSpec.post enc Tryz.prog Tryz.f3 false true false false):=by
 refine returnsInHanded_of_change (C:=Tryz.checked) own started (by kernel_rfl) Tryz.func3
  (ChangeSpec.witness6 (enc:=enc) (C:=Tryz.checked) false ⟨#[],#[.slice none 0 0,.agg #[.int .i64 0,.int .i64 0,.int .i64 0,.int .i64 0,.int .i64 0,.int .i64 0,.int .i64 0]],[]⟩ 8 (by kernel_rfl) (by kernel_rfl) (by kernel_rfl) (by kernel_rfl)) ?_
 intro W base args ds gs before hval hW _ _
 exact law_contract (P:=Tryz.prog) (fn:=Tryz.f3) (s:=Rows.datamatrixProtectsSpec) okAll (d:=8) (tys:=[.sl (.int .i64),.rcd [.int .i64,.int .i64,.int .i64,.int .i64,.int .i64,.int .i64,.int .i64]]) (by kernel_rfl) (by kernel_rfl) (by kernel_rfl) Tryz.underlying4 laidOut (by kernel_rfl) rfl fnE lawAll W (by rw[noGlobals];omega) base args ds gs before hval hW (fun x _=>.inl (Nat.le_refl _))
theorem over:Rows.datamatrixProtectsRow.holds Tryz.pinned (OpenSpec.ofChange Rows.datamatrixProtectsSpec):=
 OpenClaim.holds_of_wide 3 Tryz.f3 rfl rfl rfl rfl rfl rfl rfl ⟨rfl,rfl,rfl,rfl,rfl⟩ rfl rfl rfl rfl rfl (by kernel_rfl) Tryz.func3 (by kernel_rfl)
  (of_decide_eq_true (by kernel_rfl)) (by unfold Func.isWrapper;first|(rw[if_pos (by decide +kernel)];kernel_rfl)|(rw[if_neg (by decide +kernel)];exact⟨rfl,rfl⟩))
  (fun os started H enc _=>lifted os started H enc)
theorem proved:Rows.DatamatrixProtectsSaid:=over
#print axioms proved
end datamatrixProtects
end Go.Proofs.YtmnlgdpdgjbfgaaGreat
