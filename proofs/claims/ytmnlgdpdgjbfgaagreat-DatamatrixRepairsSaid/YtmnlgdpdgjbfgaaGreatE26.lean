/- Lemmas. -/
import Derived.Test.YtmnlgdpdgjbfgaaGreatE18
import Derived.Test.YtmnlgdpdgjbfgaaGreatE19
import Derived.Test.YtmnlgdpdgjbfgaaGreatE25
set_option linter.unusedVariables false
set_option linter.unusedSimpArgs false
set_option linter.unusedSectionVars false
namespace Go.Proofs.YtmnlgdpdgjbfgaaGreat
open Go.Abs Go.RS
set_option maxRecDepth 20000
theorem IQ{α:Type}{enc:α→Value}{H:Heap}{v:Value}{l:List α}{k:Nat}(h:Sl enc H v l)(hk:k≤l.length):∃v',(∀H',aH (.sl 1 false true false) [v,.int .i64 (k:Nat)] H'=some v')∧Sl enc H v' (l.take k):=by
 rcases h with ⟨rfl,rfl⟩|⟨b,o,sp,cap,xs,rfl,h2,h3,h4,h5,h6⟩
 ·have:k=0:=by simpa using hk
  subst this
  exact⟨.slice none 0 0,fun _=>rfl,.inl ⟨rfl,rfl⟩⟩
 ·have hl:(l.take k).length=k:=by rw[List.length_take];omega
  have hb:bounds l.length cap false true false [.int .i64 (k:Nat)]=some (0,k,cap):=by
   rw[KL (by omega) (by omega)];rfl
  have hm:(xs.drop o).take k=(l.take k).map enc:=by
   rw[List.map_take,←h3,List.take_take,Nat.min_eq_left hk]
  rcases h5 with rfl|rfl
  ·refine⟨.slice (some ⟨b,o,none⟩) k cap,fun H'=>?_,.inr ⟨b,o,none,cap,xs,by rw[hl],h2,by rw[hl];exact hm,by omega,.inl rfl,by omega⟩⟩
   rw[Ep,hb]
   simp
  ·refine⟨.slice (some ⟨b,o,some 1⟩) k cap,fun H'=>?_,.inr ⟨b,o,some 1,cap,xs,by rw[hl],h2,by rw[hl];exact hm,by omega,.inr rfl,by omega⟩⟩
   rw[FO,hb]
   simp
def mxu(n:Nat)(V U:Nat→Int)(T x i:Nat):List Int:=(List.range T).map fun j=>if j%n<x∨(j%n=x∧j/n<i) then V j else U j
theorem Hq(n:Nat)(V U:Nat→Int)(T x i:Nat):(mxu n V U T x i).length=T:=by simp[mxu]
theorem OG(n:Nat)(V U:Nat→Int)(T:Nat):mxu n V U T 0 0=(List.range T).map U:=by
 unfold mxu
 exact List.map_congr_left fun j _=>if_neg (fun h=>h.elim (fun h=>absurd h (Nat.not_lt_zero _)) fun h=>absurd h.2 (Nat.not_lt_zero _))
theorem HH{n:Nat}{V U:Nat→Int}{T x i:Nat}(hx:x<n)(h:x+i*n<T):(mxu n V U T x i).set (x+i*n) (V (x+i*n))=mxu n V U T x (i+1):=by
 have hb:=jm (n:=n) (W:=fun _=>[]) (k:=i) hx
 have:=rX (F:=fun j=>if j%n<x∨(j%n=x∧j/n<i) then V j else U j) (G:=fun j=>if j%n<x∨(j%n=x∧j/n<i+1) then V j else U j) h (fun j _ hj=>by
  by_cases h1:j%n<x∨(j%n=x∧j/n<i)
  ·rw[if_pos h1,if_pos (by omega)]
  ·rw[if_neg h1,if_neg]
   rintro(h2|⟨h2,h3⟩)
   ·exact h1 (.inl h2)
   ·by_cases h4:j/n=i
    ·apply hj
     have:=Nat.div_add_mod j n
     rw[h2,h4,Nat.mul_comm]at this;omega
    ·exact h1 (.inr ⟨h2,by omega⟩))
 rw[hb.1,hb.2,if_pos (.inr ⟨rfl,by omega⟩)]at this
 exact this
theorem GQ{n:Nat}{V U:Nat→Int}{T x i:Nat}(hx:x<n)(hi:i=cnt T n x):mxu n V U T x i=mxu n V U T (x+1) 0:=by
 unfold mxu
 refine List.map_congr_left fun j hj=>?_
 have hj:=List.mem_range.1 hj
 have h1:=mK (N:=T) (n:=n) (by omega) hj
 by_cases h:j%n<x∨(j%n=x∧j/n<i)
 ·rw[if_pos h,if_pos (by omega)]
 ·rw[if_neg h,if_neg]
  rintro(h2|h2)
  ·by_cases h3:j%n=x
   ·rw[h3]at h1;exact h (.inr ⟨h3,by omega⟩)
   ·exact h (.inl (by omega))
  ·exact absurd h2.2 (Nat.not_lt_zero _)
theorem Im{n:Nat}{V U:Nat→Int}{T:Nat}(hn:0<n):mxu n V U T n 0=(List.range T).map V:=by
 unfold mxu
 exact List.map_congr_left fun j _=>if_pos (.inl (Nat.mod_lt j hn))
theorem take_range{l:List Int}{T:Nat}(h:T≤l.length):l.take T=(List.range T).map fun j=>l.getD j 0:=by
 refine List.ext_getElem (by simp;omega) fun i h1 h2=>?_
 rw[List.getElem_take,List.getElem_map,List.getElem_range,List.getD_eq_getElem?_getD,List.getElem?_eq_getElem (by simp at h1;omega)];rfl
def rp(s:Sz)(l:List Int)(H:Heap)(r:Value):Prop:=
 (fZ s l (jf s)≠0→r=.tuple #[.slice none 0 0,.int .i64 0,.int .i64 (fZ s l (jf s))]) ∧
 (∀i,i<30→s=(dz i).sz→l.length=(dz i).d+(dz i).c→inF 256 l=true →
  ((¬ ∀x,x<(dz i).n→OkX (dz i) l x)→r=.tuple #[.slice none 0 0,.int .i64 0,.int .i64 17]) ∧
  ((∀x,x<(dz i).n→OkX (dz i) l x)→∃vo,r=.tuple #[vo,.int .i64 (ek (nch (dz i) l) (dz i).n:Nat),.int .i64 0]∧SlI H vo (ilv (dz i).n (fxX (dz i) l) (dz i).d)))
theorem rU{s:Sz}{l:List Int}{H:Heap}{k:Int}(he:fZ s l (jf s)=k)(hk:k≠0):rp s l H (.tuple #[.slice none 0 0,.int .i64 0,.int .i64 k]):=
 ⟨fun _=>by rw[he],fun i hi hs hle hin=>absurd (tv (n:=jf s) (ie.2 ⟨i,hi,hs⟩) (by rw[hs,hle,nW hi]) hin) (by rw[he];exact hk)⟩
section
variable {lo:Nat}{H:Heap}
theorem PE{i:Nat}(hi:i<30)(hlo:lo≤H.length):Ev cp lo 34 [(dz i).sz.val] H (fun r H'=>Ext H H'∧r=cdV (fB 301) (dz i).ck 1):=by
 have hz:=pX hi
 generalize dz i=z at *
 obtain⟨n1,n2,dn,d2,c2,-,k1,k2,al⟩:=hz
 have hok:nL 2 256 301 (z.ck:Nat) 1:=⟨⟨_,yw⟩,by omega,by omega,by omega,by omega⟩
 have hdiv:(z.c:Int).tdiv (z.n:Int)=(z.ck:Nat):=(Int.ofNat_tdiv z.c z.n).symm
 unfold Dz.sz Sz.val
 refine Sx ?_;unfold Lc F6;simp only[kB,aA]
 repeat' ((first|refine dQ ?_|refine dN rfl ?_);(try simp only[aA]))
 generalize hG:H++_=G at *
 obtain⟨g0,hxG⟩:=aV hG
 have g1:Heap.get G (H.length+1)=some (List.replicate 5 (Value.int .i64 0)):=by rw[←hG,az];rfl
 clear hG
 have hlG:=Heap.get_lt g1
 refine m6 ?_
 refine aC (VS (ch:=2) (sz:=256) (po:=301) (r:=(z.ck:Nat)) (b:=1) (by omega) (by omega)) ?_
 rintro r H1 ⟨hx1,-,-,hv⟩
 rw[hv hok]
 clear hv
 have g0:=(hx1).get g0;have g1:=(hx1).get g1
 have hx1:=hxG.trans hx1
 have hl1:=Heap.get_lt g1
 unfold cdI
 (try simp only[aA])
 repeat' ((first|refine dQ ?_|refine dN rfl ?_);(try simp only[aA]))
 refine qo ?_
 exact⟨(hx1.set (by omega)).trans (Ext.app _ _),rfl⟩
set_option maxHeartbeats 1000000 in
theorem C3{s:Sz}{v:Value}{l:List Int}(hl:SlI H v l)(hll:l.length≤1000000000)(hlo:lo≤H.length):Ev cp lo 17 [v,s.val] H (fun r H'=>Ext H H'∧rp s l H' r):=by
 have hl0:=hl
 obtain⟨ad,c,rfl⟩:=hl.len
 refine Um ?_;unfold Lv E3;simp only[kB,aA]
 repeat' ((first|refine dQ ?_|refine dN rfl ?_);(try simp only[aA]))
 generalize hG:H++_=G at *
 obtain⟨g0,hxG⟩:=aV hG
 clear hG
 have hlG:=hxG.1
 refine m6 ?_
 refine aC (Mc (s:=s) (by omega)) ?_
 rintro r H1 ⟨hx1,rfl⟩
 have g0:=hx1.get g0
 have hx1:=hxG.trans hx1
 have hl1:=hx1.1
 by_cases hs:s ∈ szs
 case neg=>
  have hg:rp s l H1 (.tuple #[.slice none 0 0,.int .i64 0,.int .i64 14]):=rU (if_pos hs) (by decide)
  rw[decide_eq_false hs]
  (try simp only[aA])
  repeat' ((first|refine dQ ?_|refine dN rfl ?_);(try simp only[aA]))
  refine jc (fun h=>?_) (fun h=>?_)
  case refine_2=>simp at h
  clear h
  (try simp only[aA])
  repeat' ((first|refine dQ ?_|refine dN rfl ?_);(try simp only[aA]))
  refine qo ?_
  exact⟨hx1,hg⟩
 rw[decide_eq_true hs]
 (try simp only[aA])
 repeat' ((first|refine dQ ?_|refine dN rfl ?_);(try simp only[aA]))
 refine jc (fun h=>?_) (fun h=>?_)
 ·simp at h
 clear h
 obtain⟨i0,hi0,hs0⟩:=ie.1 hs
 have hck:fZ s l (jf s)=if (l.length:Int)≠jf s then 7 else if inF 256 l=true then 0 else 3:=if_neg (fun h=>h hs)
 subst hs0
 have hgE:∀{k:Int} {H':Heap},fZ (dz i0).sz l (jf (dz i0).sz)=k→k≠0→rp (dz i0).sz l H' (.tuple #[.slice none 0 0,.int .i64 0,.int .i64 k]):=fun h1 h2=>rU h1 h2
 have hgB:fZ (dz i0).sz l (jf (dz i0).sz)=0→(¬ ∀x,x<(dz i0).n→OkX (dz i0) l x)→∀{H':Heap},rp (dz i0).sz l H' (.tuple #[.slice none 0 0,.int .i64 0,.int .i64 17]):=by
  intro he hno H'
  refine⟨fun h=>absurd he h,fun i hi hs _ _=>?_⟩
  rw[←ml hi0 hi hs]
  exact⟨fun _=>rfl,fun h=>absurd h hno⟩
 have hgG:fZ (dz i0).sz l (jf (dz i0).sz)=0→(∀x,x<(dz i0).n→OkX (dz i0) l x)→∀{H':Heap} {vo:Value},SlI H' vo (ilv (dz i0).n (fxX (dz i0) l) (dz i0).d)→rp (dz i0).sz l H' (.tuple #[vo,.int .i64 (ek (nch (dz i0) l) (dz i0).n:Nat),.int .i64 0]):=by
  intro he hok H' vo hh
  refine⟨fun h=>absurd he h,fun i hi hs _ _=>?_⟩
  rw[←ml hi0 hi hs]
  exact⟨fun h=>absurd hok h,fun _=>⟨vo,rfl,hh⟩⟩
 have hcode:=fun {H:Heap} {lo:Nat} (h:lo≤H.length)=>PE (H:=H) hi0 h
 have hz:=pX hi0
 rw[nW hi0]at hck hgE hgB hgG
 clear hs
 generalize dz i0=zz at *
 have n1:=hz.n1
 have n2:=hz.n2
 have dn:=hz.dn
 have d2:=hz.d2
 have c2:=hz.c2
 have k1:=hz.k1
 have k2:=hz.k2
 unfold Dz.sz Sz.val at *
 simp only[Sz.cells]at *
 generalize fZ _ l _=ec at *
 (try simp only[aA])
 by_cases hlz:l.length=zz.d+zz.c
 case neg=>
  rw[if_pos (by omega)]at hck
  have hg:=hgE (H':=H1) hck (by decide)
  clear hgE hgB hgG hcode hck
  refine jc (fun h=>?_) (fun h=>?_)
  case refine_2=>exfalso;simp at h;omega
  clear h
  (try simp only[aA])
  repeat' ((first|refine dQ ?_|refine dN rfl ?_);(try simp only[aA]))
  refine qo ?_
  exact⟨hx1,hg⟩
 rw[if_neg (by omega)]at hck
 have hca:∀x,x<zz.n→(cnt l.length zz.n x≤cnt zz.d zz.n x+zz.ck∧cnt zz.d zz.n x+zz.ck≤cnt l.length zz.n x)∧0<cnt zz.d zz.n x∧cnt zz.d zz.n x+zz.ck≤250:=fun x hx=>by
  have:=tz hz hx
  rw[←hlz]at this;omega
 replace hlz:l.length≤zz.d+zz.c∧zz.d+zz.c≤l.length:=by omega
 refine jc (fun h=>?_) (fun h=>?_)
 ·exfalso;simp at h;omega
 clear h
 (try simp only[aA])
 refine m6 ?_
 refine aC (MN (hl0.mono hx1) hll) ?_
 rintro r _ ⟨rfl,rfl⟩
 by_cases hin:inF 256 l=true
 case neg=>
  rw[if_neg hin]at hck
  have hg:=hgE (H':=H1) hck (by decide)
  rw[Bool.not_eq_true]at hin
  rw[hin]
  clear hgE hgB hgG hcode hck
  (try simp only[aA])
  repeat' ((first|refine dQ ?_|refine dN rfl ?_);(try simp only[aA]))
  refine jc (fun h=>?_) (fun h=>?_)
  case refine_2=>simp at h
  clear h
  (try simp only[aA])
  repeat' ((first|refine dQ ?_|refine dN rfl ?_);(try simp only[aA]))
  refine qo ?_
  exact⟨hx1,hg⟩
 rw[if_pos hin]at hck
 have hgB:=hgB hck
 have hgG:=hgG hck
 rw[hin]
 clear hgE hck
 have hq0:=Heap.get_lt g0
 obtain⟨vt,hsl,hvt⟩:=IQ (k:=zz.d) (hl0.mono hx1) (by omega)
 have htl:(l.take zz.d).length=zz.d:=by rw[List.length_take];omega
 (try simp only[aA])
 repeat' ((first|refine dQ ?_|refine dN rfl ?_);(try simp only[aA]))
 refine jc (fun h=>?_) (fun h=>?_)
 ·simp at h
 clear h
 (try simp only[aA])
 ((first|refine dQ ?_|refine dN rfl ?_);(try simp only[aA]))
 refine m6 ?_
 refine Eo (A:=[]) (base:=H1.length) (Own.nil (b:=H1.length) (Nat.le_refl _)) (by omega) (Nat.le_refl _) hvt (by omega) (by simp only[List.length_nil];omega) ?_
 intro v6 H2 o6 hk2 hl2
 rw[List.nil_append]at o6
 have hx2:Ext H1 H2:=⟨by omega,fun i hi=>hk2.eq i hi (by omega)⟩
 obtain⟨rfl,g6⟩:=As o6 (by omega)
 have g0:=hx2.get g0
 have hx2:=hx1.trans hx2
 generalize hV:(fun j=>(((co (fxX zz l (j%zz.n)) (j/zz.n)).val:Nat):Int))=V at *
 generalize hU:(fun j=>l.getD j 0)=U at *
 have g6:Heap.get H2 H1.length=some (bA (mxu zz.n V U zz.d 0 0)):=by
  rw[g6,OG,take_range (by omega),hU]
 rw[htl]
 replace hl2:H1.length+1≤H2.length∧H2.length≤H1.length+1:=by omega
 clear o6 hk2 htl hvt hsl
 have hsb:∀x,x≤zz.n→ek (nch zz l) x≤x*250:=by
  intro x
  induction x with
  | zero=>intro _;simp[ek]
  | succ x ih=>
   intro hx
   have h1:=ih (by omega)
   have h2:=tu zz l x
   have h3:=hca x (by omega)
   rw[ek,Nat.succ_mul];omega
 (try simp only[aA])
 repeat' ((first|refine dQ ?_|refine dN rfl ?_);(try simp only[aA]))
 refine aU (fun x S H'=>Keep H1.length H2 H'∧Heap.get H' H1.length=some (bA (mxu zz.n V U zz.d x 0))∧(∀y,y<x→OkX zz l y)∧∃(z:Nat→Value),S=[.slice ad l.length c,z 1,.pointer (some ⟨H.length,0,none⟩),z 3,z 4,z 5,.slice (some ⟨H1.length,0,some 1⟩) zz.d zz.d,.int .i64 (ek (nch zz l) x:Nat),.int .i64 (x:Nat),z 9,z 10,z 11,z 12,z 13,z 14,z 15,z 16,z 17,z 18,z 19,z 20,z 21,z 22]) zz.n ?_ ?_ ?_ ?_
 ·exact⟨cY (Ext.refl _),g6,by omega,aL rfl⟩
 ·rintro x S H' hx ⟨q1,-,-,z,rfl⟩
  have g0:=q1.get g0 (by omega)
  exact⟨_,lX,by simp⟩
 ·clear g6
  rintro x S H3 hx ⟨q1,gt,hw,z,rfl⟩
  obtain⟨ca,cb,cc⟩:=hca x hx
  have g0:=q1.get g0 (by omega)
  have hx3:=q1.ext hx2 (by omega)
  have hl3:=hx3.1
  have hsl:=hl0.mono hx3
  have hq3:=q1.len
  have hsx:=hsb x (by omega)
  have hsy:=hsb (x+1) (by omega)
  rw[ek]at hsy
  (try simp only[aA])
  repeat' ((first|refine dQ ?_|refine dN rfl ?_);(try simp only[aA]))
  refine m6 ?_
  refine aQ (hcode (Nat.le_refl _)) ?_
  rintro r H4 ⟨hx4,rfl⟩
  have gt:=hx4.get gt
  have g0:=hx4.get g0
  have hsl:=hsl.mono hx4
  have hq4:=hx4.1
  (try simp only[aA])
  refine m6 ?_
  refine gi (first:=#[]) (cap:=#[]) (args:=[.slice ad l.length c,.int .i64 (x:Nat),.int .i64 (zz.n:Nat)]) (MP (n:=zz.n) (x:=x) hsl hll hx (by omega) (by omega)) ?_
  rintro r H5 ⟨hx5,hr⟩
  rw[←zk hin]at hr
  have hr:SlE H5 r (wdE zz l x):=sr hr
  have hwl:=ky zz l x
  replace hwl:(wdE zz l x).length≤cnt l.length zz.n x∧cnt l.length zz.n x≤(wdE zz l x).length:=by omega
  have gt:=hx5.get gt
  have g0:=hx5.get g0
  have hq5:=hx5.1
  have hnl:=tu zz l x
  (try simp only[aA])
  refine m6 ?_
  refine gi (first:=#[]) (cap:=#[]) (args:=[cdV (fB 301) zz.ck 1,r,.slice none 0 0]) (If (f:=F1) (g:=g1) (w:=wdE zz l x) (e:=[]) (by omega) sR (xC (by omega) (by omega)) hr (by omega) (.inl ⟨rfl,rfl⟩) (by simp)) ?_
  rintro r2 H6 ⟨hx6,-,-,hbad,hgood⟩
  have hin0:inR (wdE zz l x).length []:=fun _ h=>by simp at h
  replace hbad:=hbad hin0 (by omega) (by show _<256;omega)
  replace hgood:=hgood hin0 (by omega) (by show _<256;omega)
  have gt:=hx6.get gt
  have g0:=hx6.get g0
  have hq6:=hx6.1
  by_cases hok:OkX zz l x
  case neg=>
   rw[hbad hok]
   clear hbad hgood
   unfold ny
   have hxx:=((hx3.trans hx4).trans hx5).trans hx6
   have hgB:=@hgB (fun h=>hok (h x hx))
   (try simp only[aA])
   repeat' ((first|refine dQ ?_|refine dN rfl ?_);(try simp only[aA]))
   refine jc (fun h=>?_) (fun h=>?_)
   case refine_2=>exfalso;simp at h
   clear h
   (try simp only[aA])
   repeat' ((first|refine dQ ?_|refine dN rfl ?_);(try simp only[aA]))
   refine qo ?_
   exact⟨hxx.trans (Ext.app _ _),hgB⟩
  obtain⟨vw,vc,rfl,hvw,hvc,hnew⟩:=hgood hok
  clear hbad hgood
  replace hvw:SlE H6 vw (fxX zz l x):=hvw
  have hfl:=AO zz l x
  have hvw0:=hvw
  obtain⟨aw,cw,ew⟩:=hvw.len
  rw[hfl]at ew
  subst ew
  replace hfl:(fxX zz l x).length≤cnt l.length zz.n x∧cnt l.length zz.n x≤(fxX zz l x).length:=by omega
  obtain⟨ac,kc,ec⟩:=hvc.len
  replace ec:vc=.slice ac (nch zz l x) kc:=ec
  subst ec
  clear hvc hvw hr
  (try simp only[aA])
  repeat' ((first|refine dQ ?_|refine dN rfl ?_);(try simp only[aA]))
  generalize hG:H6++_=H7 at *
  obtain⟨gr,hxr⟩:=aV hG
  clear hG
  have hvw0:=hvw0.mono hxr
  have gt:=hxr.get gt
  have g0:=hxr.get g0
  have hq7:=hxr.1
  refine jc (fun h=>?_) (fun h=>?_)
  ·cases h
  clear h
  (try simp only[aA])
  repeat' ((first|refine dQ ?_|refine dN rfl ?_);(try simp only[aA]))
  have hxm:=(hx4.trans hx5).trans (hx6.trans hxr)
  have hqm:=hxm.1
  refine aU (fun i S H'=>Keep H1.length H7 H'∧Heap.get H' H1.length=some (bA (mxu zz.n V U zz.d x i))∧∃(z:Nat→Value),S=[.slice ad l.length c,z 1,.pointer (some ⟨H.length,0,none⟩),z 3,z 4,z 5,.slice (some ⟨H1.length,0,some 1⟩) zz.d zz.d,.int .i64 (ek (nch zz l) x+nch zz l x:Nat),.int .i64 (x:Nat),.pointer (some ⟨H6.length,0,none⟩),z 10,.int .i64 (i:Nat),z 12,z 13,z 14,z 15,z 16,z 17,z 18,z 19,z 20,z 21,z 22]) (cnt zz.d zz.n x) ?_ ?_ ?_ ?_
  ·exact⟨cY (Ext.refl _),gt,aL (by first|rfl|(simp only[Int.natCast_add,Int.natCast_one];rfl)|simp only[Int.natCast_add,Int.natCast_one])⟩
  ·rintro i S H' hi ⟨k1,-,z,rfl⟩
   have g0:=k1.get g0 (by omega)
   have hp1:((x:Nat):Int)+(i:Int)*(zz.n:Int)=((x+i*zz.n:Nat):Int):=by rw[Int.natCast_add,Int.natCast_mul]
   have hpb:x+i*zz.n<3000:=by
    have h1:i*zz.n≤250*10:=Nat.mul_le_mul (by omega) n2
    omega
   rw[show i<cnt zz.d zz.n x↔x+i*zz.n<zz.d from dd hx]
   generalize x+i*zz.n=p at *
   exact⟨_,lX,by simp⟩
  ·clear gt
   rintro i S H8 hi ⟨q6,gt,z,rfl⟩
   have g0:=q6.get g0 (by omega)
   have gr:=q6.get gr (by omega)
   have hq8:=q6.len
   obtain⟨bw,ow,spw,cw2,xw,e6,gx,hat,hxl⟩:=cK (dY hvw0 hnew q6 (by omega)) (by omega)
   rw[show(fxX zz l x).length=cnt l.length zz.n x by omega]at e6
   cases e6
   have hati:=hat i (by omega)
   have hml:=Hq zz.n V U zz.d x i
   have hl6:=Heap.get_lt gt
   have hlr:=Heap.get_lt gr
   have hl00:=Heap.get_lt g0
   have hp1:((x:Nat):Int)+(i:Int)*(zz.n:Int)=((x+i*zz.n:Nat):Int):=by rw[Int.natCast_add,Int.natCast_mul]
   have hp:=(dd hx).1 hi
   have hms:=HH (V:=V) (U:=U) hx hp
   have hVp:V (x+i*zz.n)=((((fxX zz l x).getD i 0).val:Nat):Int):=by
    rw[←hV]
    have:=jm (n:=zz.n) (W:=fun _=>[]) (k:=i) hx
    simp only[this.1,this.2];rfl
   rw[hVp]at hms
   have hco:co (fxX zz l x) i=(fxX zz l x).getD i 0:=rfl
   rw[hco]at hati
   clear hVp hco hat
   generalize x+i*zz.n=p at *
   generalize ((((fxX zz l x).getD i 0).val:Nat):Int)=y at *
   generalize mxu zz.n V U zz.d x i=M at *
   generalize mxu zz.n V U zz.d x (i+1)=M' at *
   (try simp only[aA])
   repeat' ((first|refine dQ ?_|refine dN rfl ?_);(try simp only[aA]))
   refine⟨fj q6 _,?_,aL (by first|rfl|(simp only[Int.natCast_add,Int.natCast_one];rfl)|simp only[Int.natCast_add,Int.natCast_one])⟩
   rw[aI (by omega)]
  ·clear gt
   rintro S H8 ⟨q6,gt,z,rfl⟩
   rw[GQ hx rfl]at gt
   have q7:=cT q1 (cT (cY hxm) q6)
   (try simp only[aA])
   repeat' ((first|refine dQ ?_|refine dN rfl ?_);(try simp only[aA]))
   refine⟨q7,gt,fun y hy=>?_,aL (by first|rfl|(simp only[Int.natCast_add,Int.natCast_one];rfl)|simp only[Int.natCast_add,Int.natCast_one])⟩
   by_cases e2:y=x
   ·rw[e2];exact hok
   ·exact hw y (by omega)
 ·clear g6
  rintro S H3 ⟨q1,gt,hw,z,rfl⟩
  rw[Im (by omega),←hV]at gt
  (try simp only[aA])
  repeat' ((first|refine dQ ?_|refine dN rfl ?_);(try simp only[aA]))
  refine qo ?_
  exact⟨q1.ext hx2 (by omega),hgG hw (Sl.whole gt (lP _ _ _))⟩
end
end Go.Proofs.YtmnlgdpdgjbfgaaGreat
