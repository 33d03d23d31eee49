/- Lemmas. -/
import Derived.Test.YtmnlgdpdgjbfgaaGreatE16
import Derived.Test.YtmnlgdpdgjbfgaaGreatE17
import Derived.Test.YtmnlgdpdgjbfgaaGreatE22
set_option linter.unusedVariables false
set_option linter.unusedSimpArgs false
set_option linter.unusedSectionVars false
namespace Go.Proofs.YtmnlgdpdgjbfgaaGreat
open Go.Abs Go.RS
set_option maxRecDepth 20000
theorem rX{n k:Nat}{F G:Nat→Int}(hk:k<n)(h:∀i,i<n→i≠k→G i=F i):((List.range n).map F).set k (G k)=(List.range n).map G:=by
 refine List.ext_getElem (by simp) fun i h1 h2=>?_
 rw[List.getElem_set]
 simp only[List.getElem_map,List.getElem_range]
 split
 ·rename_i e;rw[e]
 ·rename_i e
  rw[h i (by simpa using h2) (fun e2=>e e2.symm)]
def mix(n:Nat)(V:Nat→Int)(T x i:Nat):List Int:=(List.range T).map fun j=>if j%n<x∨(j%n=x∧j/n<i) then V j else 0
theorem AG(n:Nat)(V:Nat→Int)(T x i:Nat):(mix n V T x i).length=T:=by simp[mix]
theorem Jb(n:Nat)(V:Nat→Int)(T:Nat):mix n V T 0 0=List.replicate T 0:=by
 unfold mix
 rw[List.map_congr_left (g:=fun _=>(0:Int)) (fun j _=>if_neg (fun h=>h.elim (fun h=>absurd h (Nat.not_lt_zero _)) fun h=>absurd h.2 (Nat.not_lt_zero _))),List.map_const',List.length_range]
theorem AW{n:Nat}{V:Nat→Int}{T x i:Nat}(hx:x<n)(h:x+i*n<T):(mix n V T x i).set (x+i*n) (V (x+i*n))=mix n V T x (i+1):=by
 have hb:=jm (n:=n) (W:=fun _=>[]) (k:=i) hx
 have:=rX (F:=fun j=>if j%n<x∨(j%n=x∧j/n<i) then V j else 0) (G:=fun j=>if j%n<x∨(j%n=x∧j/n<i+1) then V j else 0) h (fun j _ hj=>by
  by_cases h1:j%n<x∨(j%n=x∧j/n<i)
  ·rw[if_pos h1,if_pos (by omega)]
  ·rw[if_neg h1,if_neg]
   rintro(h2|⟨h2,h3⟩)
   ·exact h1 (.inl h2)
   ·by_cases h4:j/n=i
    ·apply hj
     have:=Nat.div_add_mod j n
     rw[h2,h4,Nat.mul_comm]at this;omega
    ·exact h1 (.inr ⟨h2,by omega⟩))
 rw[hb.1,hb.2,if_pos (.inr ⟨rfl,by omega⟩)]at this
 exact this
theorem En{n:Nat}{V:Nat→Int}{T x i:Nat}(hx:x<n)(hi:i=cnt T n x):mix n V T x i=mix n V T (x+1) 0:=by
 unfold mix
 refine List.map_congr_left fun j hj=>?_
 have hj:=List.mem_range.1 hj
 have h1:=mK (N:=T) (n:=n) (by omega) hj
 by_cases h:j%n<x∨(j%n=x∧j/n<i)
 ·rw[if_pos h,if_pos (by omega)]
 ·rw[if_neg h,if_neg]
  rintro(h2|h2)
  ·by_cases h3:j%n=x
   ·rw[h3]at h1;exact h (.inr ⟨h3,by omega⟩)
   ·exact h (.inl (by omega))
  ·exact absurd h2.2 (Nat.not_lt_zero _)
theorem AL{n:Nat}{V:Nat→Int}{T:Nat}(hn:0<n):mix n V T n 0=(List.range T).map V:=by
 unfold mix
 exact List.map_congr_left fun j _=>if_pos (.inl (Nat.mod_lt j hn))
theorem tz{z:Dz}(hz:z.Ok){x:Nat}(hx:x<z.n):cnt (z.d+z.c) z.n x=cnt z.d z.n x+z.ck∧0<cnt z.d z.n x∧cnt z.d z.n x+z.ck≤250:=by
 have h1:cnt (z.d+z.c) z.n x=cnt z.d z.n x+z.ck:=by
  have:=Ic (N:=z.d) (n:=z.n) (k:=z.ck) hx
  rw[←hz.cn]at this;exact this
 refine⟨h1,(dd hx).2 (by have:=hz.dn;omega),?_⟩
 rw[←h1]
 apply Nat.le_of_not_lt;intro h
 rw[dd hx]at h
 have:=hz.all
 omega
def yn(s:Sz)(l:List Int)(N:Nat)(H:Heap)(r:Value):Prop:=
 (fZ s l s.d≠0→r=.tuple #[.slice none 0 0,.int .i64 (fZ s l s.d)]) ∧
 (∀i,i<30→s=(dz i).sz→∀e:List (El F1),l=gT e→e.length=(dz i).d→∃b,N≤b∧r=.tuple #[.slice (some ⟨b,0,none⟩) ((dz i).d+(dz i).c) ((dz i).d+(dz i).c),.int .i64 0]∧H.get b=some (bA (ilv (dz i).n ((dz i).W e) ((dz i).d+(dz i).c)))∧∀x,x<(dz i).n→IsEnc g1 (dz i).ck 1 (fK e 0 (dz i).n x) ((dz i).W e x))
theorem yW{s:Sz}{l:List Int}{n:Int}(h:fZ s l n=0):s ∈ szs∧(l.length:Int)=n∧inF 256 l=true:=by
 unfold fZ at h
 split at h
 ·simp at h
 ·rename_i h1
  split at h
  ·simp at h
  ·rename_i h2
   split at h
   ·rename_i h3
    exact⟨Decidable.not_not.1 h1,Decidable.not_not.1 h2,h3⟩
   ·simp at h
theorem tv{s:Sz}{l:List Int}{n:Int}(h1:s ∈ szs)(h2:(l.length:Int)=n)(h3:inF 256 l=true):fZ s l n=0:=by
 unfold fZ
 rw[if_neg (fun h=>h h1),if_neg (fun h=>h h2),if_pos h3]
theorem ml{i j:Nat}(hi:i<30)(hj:j<30)(h:(dz i).sz=(dz j).sz):dz i=dz j:=by
 have:∀i,i<30→∀j,j<30→(dz i).sz=(dz j).sz→i=j:=by decide +kernel
 rw[this i hi j hj h]
section
variable {lo:Nat}{H:Heap}{s:Sz}
set_option linter.defProp false in
def Hn:=And.intro @Int.cast_ofNat_Int (And.intro @ite_self.{1} @Sz.cells.eq_1)
theorem lX{P:Prop}(h:P:=by simp(disch:=first|omega|(simp only[aK];omega))only[evB,Hn,Nat.reduceAdd,Nat.reduceBEq, *];rfl):P:=h
theorem dQ{cp:FuncId→Option CF}{lo:Nat}{l:List (Nat×E)}{chk:List E}{Q:aS}{S:List Value}{H:Heap}{vs:List (Nat×Value)}{S':List Value}(k:Q .normal S' H)(h:evSets S H l=some vs:=by exact lX)(hc:evChk S H chk=true:=by simp(disch:=first|omega|(simp only[aK];omega))only[evB,Hn,Nat.reduceAdd,Nat.reduceBEq, *])(hS:setAll S vs=S':=by exact lX):wpS cp lo (.sets l chk) Q S H:=cL h hc hS k
theorem m6{cp:FuncId→Option CF}{lo:Nat}{l:List (Nat×E)}{chk:List E}{Q:aS}{S:List Value}{H:Heap}{vs:List (Nat×Value)}{dst:Option Nat}{o:HOp}{a:E}{xs:List Value}(k:wpH cp lo o xs H fun v H'=>Q .normal (setD (setAll S vs) dst v) H')(h:evSets S H l=some vs:=by exact lX)(hc:evChk S H chk=true:=by simp(disch:=first|omega|(simp only[aK];omega))only[evB,Hn,Nat.reduceAdd,Nat.reduceBEq, *])(ha:ev S H a=some xs:=by exact lX):wpS cp lo (.hv l chk [] dst o a) Q S H:=eC h hc ha k
theorem dN{cp:FuncId→Option CF}{lo:Nat}{l:List (Nat×E)}{chk:List E}{Q:aS}{S:List Value}{H:Heap}{vs:List (Nat×Value)}{dst:Option Nat}{o:HOp}{a:E}{xs:List Value}{S':List Value}{H':Heap}{v:Value}(hcall:o.isCall=false)(k:Q .normal S' H')(h:evSets S H l=some vs:=by exact lX)(hc:evChk S H chk=true:=by simp(disch:=first|omega|(simp only[aK];omega))only[evB,Hn,Nat.reduceAdd,Nat.reduceBEq, *])(ha:ev S H a=some xs:=by exact lX)(ho:bG lo o xs H=some (v,H'):=by exact lX)(hS:setD (setAll S vs) dst v=S':=by exact lX):wpS cp lo (.hv l chk [] dst o a) Q S H:=eG hcall h hc ha ho hS k
theorem jc{cp:FuncId→Option CF}{lo:Nat}{c:E}{a b:Stm}{Q:aS}{S:List Value}{H:Heap}{t:Bool}(k1:t=true→wpS cp lo a Q S H)(k2:t=false→wpS cp lo b Q S H)(h:ev1 S H c=some (.bool t):=by exact lX):wpS cp lo (.cond c a b) Q S H:=cJ h k1 k2
theorem qo{cf:CF}{R:Value→Heap→Prop}{S:List Value}{H:Heap}{vs:List Value}(k:R (aJ vs) H)(h:evList S H cf.res=some vs:=by exact lX):aG cf R .ret S H:=bT h k
set_option maxHeartbeats 1000000 in
theorem KH{v:Value}{l:List Int}(hl:SlI H v l)(hll:l.length≤1000000000)(hlo:lo≤H.length):Ev cp lo 13 [v,s.val] H (fun r H'=>Ext H H'∧yn s l H.length H' r):=by
 have hl0:=hl
 obtain⟨ad,c,rfl⟩:=hl.len
 refine UF ?_;unfold KS F8;simp only[kB,aA]
 repeat' ((first|refine dQ ?_|refine dN rfl ?_);(try simp only[aA]))
 generalize hG:H++_=G at *
 obtain⟨g0,hxG⟩:=aV hG
 clear hG
 have hlG:=hxG.1
 refine m6 ?_
 refine aC (G9 (s:=s) (n:=s.d) (hl.mono hxG) hll (by omega)) ?_
 rintro r H1 ⟨hx1,rfl⟩
 have g0:=hx1.get g0
 have hx1:=hxG.trans hx1
 have hl1:=hx1.1
 (try simp only[aA])
 repeat' ((first|refine dQ ?_|refine dN rfl ?_);(try simp only[aA]))
 by_cases he:fZ s l s.d=0
 case neg=>
  have hg:yn s l H.length H1 (.tuple #[.slice none 0 0,.int .i64 (fZ s l s.d)]):=by
   refine⟨fun _=>rfl,fun i hi hs e hle hlen=>absurd (tv (ie.2 ⟨i,hi,hs⟩) ?_ ?_) he⟩
   ·rw[hle,fO,hlen,hs];rfl
   ·rw[hle];exact gq (f:=F1) e
  generalize fZ s l s.d=ee at *
  refine jc (fun h=>?_) (fun h=>?_)
  case refine_2=>exfalso;simp at h;exact he h
  clear h
  (try simp only[aA])
  repeat' ((first|refine dQ ?_|refine dN rfl ?_);(try simp only[aA]))
  refine qo ?_
  exact⟨hx1,hg⟩
 obtain⟨hs,hln,hin⟩:=yW he
 obtain⟨i0,hi0,hs0⟩:=ie.1 hs
 obtain⟨e,hle⟩:=Pt (f:=F1) hin
 replace hle:l=gT e:=hle
 rw[he]
 subst hs0
 have hg:∀{H':Heap} {b:Nat},H.length≤b→Heap.get H' b=some (bA (ilv (dz i0).n ((dz i0).W e) ((dz i0).d+(dz i0).c)))→(∀x,x<(dz i0).n→IsEnc g1 (dz i0).ck 1 (fK e 0 (dz i0).n x) ((dz i0).W e x))→yn (dz i0).sz l H.length H' (.tuple #[.slice (some ⟨b,0,none⟩) ((dz i0).d+(dz i0).c) ((dz i0).d+(dz i0).c),.int .i64 0]):=by
  intro H' b hb hh hw
  refine⟨fun h=>absurd he h,fun i hi hs e2 hle2 hlen2=>?_⟩
  have h3:=ml hi0 hi hs
  have h4:e=e2:=List.map_inj_right (f:=fun x:El F1=>((x.val:Nat):Int)) (fun x y h=>El.ext (by omega)) |>.1 (show gT e=gT e2 by rw[←hle,←hle2])
  subst h4
  rw[←h3]
  exact⟨b,hb,rfl,hh,hw⟩
 have hcode:=fun {H:Heap} {lo:Nat} (h:lo≤H.length)=>JQ (H:=H) hi0 h
 have hz:=pX hi0
 clear he hs hin
 generalize dz i0=zz at *
 have hel:e.length=zz.d:=by
  have h1:l.length=e.length:=by rw[hle];exact fO e
  have h2:(l.length:Int)=(zz.d:Int):=hln
  omega
 have hlz:l.length=zz.d:=by rw[←hel,hle];exact fO e
 clear hln
 replace hle:False∨_:=.inr hle
 replace hlz:l.length≤zz.d∧zz.d≤l.length:=by omega
 replace hel:False∨_:=.inr hel
 have n1:=hz.n1
 have n2:=hz.n2
 have dn:=hz.dn
 have d2:=hz.d2
 have c2:=hz.c2
 have k1:=hz.k1
 have k2:=hz.k2
 unfold Dz.sz Sz.val at *
 simp only[Sz.cells]at *
 refine jc (fun h=>?_) (fun h=>?_)
 ·cases h
 clear h
 (try simp only[aA])
 refine m6 ?_
 refine aC (hcode (by omega)) ?_
 rintro r H2 ⟨hx2,rfl⟩
 have g0:=hx2.get g0
 have hq2:=Heap.get_lt g0
 have hx2:=hx1.trans hx2
 have hl2:=hx2.1
 clear hcode
 unfold cdV
 (try simp only[aA])
 repeat' ((first|refine dQ ?_|refine dN rfl ?_);(try simp only[aA]))
 generalize hG:H2++_=G1 at *
 obtain⟨gc,hxG1⟩:=aV hG
 clear hG
 have g0:=hxG1.get g0
 have hxc:=hx2.trans hxG1
 have hlc:=hxc.1
 have hlt0:=Heap.get_lt gc
 refine jc (fun h=>?_) (fun h=>?_)
 ·cases h
 clear h
 (try simp only[aA])
 obtain⟨T,hT1,hT2⟩:∃T:Nat,T≤zz.d+zz.c∧zz.d+zz.c≤T:=⟨_,Nat.le_refl _,Nat.le_refl _⟩
 have hTT:zz.d+zz.c=T:=by omega
 rw[hTT]at hg
 have hTi:(zz.d:Int)+(zz.c:Int)=((T:Nat):Int):=by omega
 have hca:∀x,x<zz.n→(cnt T zz.n x≤cnt zz.d zz.n x+zz.ck∧cnt zz.d zz.n x+zz.ck≤cnt T zz.n x)∧0<cnt zz.d zz.n x∧cnt zz.d zz.n x+zz.ck≤250:=fun x hx=>by
  have:=tz hz hx
  rw[hTT]at this;omega
 clear hTT hz
 repeat' ((first|refine dQ ?_|refine dN rfl ?_);(try simp only[aA]))
 clear hTi
 generalize hG:G1++_=G2 at *
 obtain⟨gt,hxG2⟩:=aV hG
 clear hG
 generalize hV:(fun j=>(((co (zz.W e (j%zz.n)) (j/zz.n)).val:Nat):Int))=V at *
 have gt:Heap.get G2 G1.length=some (bA (mix zz.n V T 0 0)):=by
  rw[gt,Jb]
 have g0:=hxG2.get g0
 have gc:=hxG2.get gc
 have hxd:=hxc.trans hxG2
 have hltt:=Heap.get_lt gt
 refine aU (fun x S H'=>Keep G1.length G2 H'∧Heap.get H' G1.length=some (bA (mix zz.n V T x 0))∧(∀y,y<x→IsEnc g1 zz.ck 1 (fK e 0 zz.n y) (zz.W e y))∧∃(z:Nat→Value),S=[.slice ad l.length c,z 1,.pointer (some ⟨H.length,0,none⟩),z 3,z 4,z 5,.pointer (some ⟨H2.length,0,none⟩),z 7,.slice (some ⟨G1.length,0,none⟩) T T,z 9,z 10,z 11,z 12,z 13,z 14,z 15,z 16,z 17,z 18,.int .i64 (zz.n:Nat),.int .i64 (x:Nat),z 21,z 22,z 23,z 24,z 25,z 26]) zz.n ?_ ?_ ?_ ?_
 ·exact⟨cY (Ext.refl _),gt,by omega,aL rfl⟩
 ·rintro x S H' hx ⟨-,-,-,z,rfl⟩
  exact⟨_,lX,by simp⟩
 ·clear gt
  rintro x S H3 hx ⟨q1,gt,hw,z,rfl⟩
  obtain⟨ca,cb,cc⟩:=hca x hx
  have g0:=q1.get g0 (by omega)
  have gc:=q1.get gc (by omega)
  have hx3:=q1.ext hxd (by omega)
  have hl3:=hx3.1
  have hsl:=hl0.mono hx3
  have hq3:=q1.len
  (try simp only[aA])
  repeat' ((first|refine dQ ?_|refine dN rfl ?_);(try simp only[aA]))
  refine m6 ?_
  refine aQ (Cs (n:=zz.n) (x:=x) hsl hll hx (by omega) (Nat.le_refl _)) ?_
  rintro r H4 ⟨hx4,hr⟩
  rw[hle.resolve_left id,C1]at hr
  have hr:SlE H4 r (fK e 0 zz.n x):=sr hr
  have hsd:(fK e 0 zz.n x).length=cnt zz.d zz.n x:=by rw[jP,hel.resolve_left id]
  have gt:=hx4.get gt
  have g0:=hx4.get g0
  have gc:=hx4.get gc
  have hq4:=hx4.1
  (try simp only[aA])
  refine m6 ?_
  refine gi (first:=#[]) (cap:=#[]) (args:=[cdV (fB 301) zz.ck 1,r]) (D8 (f:=F1) (g:=g1) (d:=fK e 0 zz.n x) (by omega) sR (xC (by omega) (by omega)) hr (by omega)) ?_
  rintro r2 H5 ⟨hx5,⟨-,-,vw,w,rfl,hvw,hnew,hie⟩|⟨hno,-⟩⟩
  case inr=>exact absurd ⟨by omega,by show _<256;omega⟩ hno
  obtain rfl:w=zz.W e x:=zm (xC (by omega) (by omega)) hie
  have hwl:=hie.len
  rw[hsd]at hwl
  have hwc:(zz.W e x).length=cnt T zz.n x:=by omega
  have gt:=hx5.get gt
  have g0:=hx5.get g0
  have gc:=hx5.get gc
  have hq5:=hx5.1
  have hvw0:=hvw
  obtain⟨aw,cw,ew⟩:=hvw.len
  rw[hwc]at ew
  clear hwc
  subst ew
  replace hwl:cnt T zz.n x≤(zz.W e x).length∧(zz.W e x).length≤cnt T zz.n x:=by omega
  have hb5:=Heap.get_lt gt
  clear hr
  (try simp only[aA])
  repeat' ((first|refine dQ ?_|refine dN rfl ?_);(try simp only[aA]))
  refine jc (fun h=>?_) (fun h=>?_)
  ·cases h
  clear h
  (try simp only[aA])
  repeat' ((first|refine dQ ?_|refine dN rfl ?_);(try simp only[aA]))
  refine aU (fun i S H'=>Keep G1.length H5 H'∧Heap.get H' G1.length=some (bA (mix zz.n V T x i))∧∃(z:Nat→Value),S=[.slice ad l.length c,z 1,.pointer (some ⟨H.length,0,none⟩),z 3,z 4,z 5,.pointer (some ⟨H2.length,0,none⟩),z 7,.slice (some ⟨G1.length,0,none⟩) T T,.int .i64 (x:Nat),z 10,z 11,z 12,z 13,z 14,z 15,z 16,z 17,z 18,.int .i64 (zz.n:Nat),.int .i64 (x:Nat),z 21,z 22,z 23,.slice aw (cnt T zz.n x) cw,.int .i64 (cnt T zz.n x:Nat),.int .i64 (i:Nat)]) (cnt T zz.n x) ?_ ?_ ?_ ?_
  ·exact⟨cY (Ext.refl _),gt,aL rfl⟩
  ·rintro i S H' hi ⟨-,-,z,rfl⟩
   exact⟨_,lX,by simp⟩
  ·clear gt
   rintro i S H6 hi ⟨q6,gt,z,rfl⟩
   have g0:=q6.get g0 (by omega)
   have hp:=(dd hx).1 hi
   have hms:=AW (V:=V) hx hp
   have hVp:V (x+i*zz.n)=((((zz.W e x).getD i 0).val:Nat):Int):=by
    rw[←hV]
    have:=jm (n:=zz.n) (W:=fun _=>[]) (k:=i) hx
    simp only[this.1,this.2];rfl
   obtain⟨bw,ow,spw,cw2,xw,e6,gx,hat,hxl⟩:=cK (dY hvw0 hnew q6 (by omega)) (by omega)
   rw[show(zz.W e x).length=cnt T zz.n x by omega]at e6
   cases e6
   have hati:=hat i (by omega)
   have hml:=AG zz.n V T x i
   have hl6:=Heap.get_lt gt
   rw[hVp]at hms
   have hco:co (zz.W e x) i=(zz.W e x).getD i 0:=rfl
   rw[hco]at hati
   clear hat hVp hco
   replace hp:((x:Nat):Int)+(i:Int)*(zz.n:Int)=((x+i*zz.n:Nat):Int)∧x+i*zz.n<T:=⟨by rw[Int.natCast_add,Int.natCast_mul],hp⟩
   obtain⟨hp1,hp2⟩:=hp
   generalize x+i*zz.n=p at *
   generalize ((((zz.W e x).getD i 0).val:Nat):Int)=y at *
   generalize mix zz.n V T x i=M at *
   generalize mix zz.n V T x (i+1)=M' at *
   (try simp only[aA])
   repeat' ((first|refine dQ ?_|refine dN rfl ?_);(try simp only[aA]))
   refine⟨fj q6 _,?_,aL (by first|rfl|(simp only[Int.natCast_add,Int.natCast_one];rfl)|simp only[Int.natCast_add,Int.natCast_one])⟩
   rw[aI (by omega)]
  ·rintro S H6 ⟨q6,gt,z,rfl⟩
   rw[En hx rfl]at gt
   have q7:=cT q1 (cT (cY (hx4.trans hx5)) q6)
   (try simp only[aA])
   repeat' ((first|refine dQ ?_|refine dN rfl ?_);(try simp only[aA]))
   refine⟨q7,gt,fun y hy=>?_,aL (by first|rfl|(simp only[Int.natCast_add,Int.natCast_one];rfl)|simp only[Int.natCast_add,Int.natCast_one])⟩
   by_cases e2:y=x
   ·rw[e2];exact hie
   ·exact hw y (by omega)
 ·clear gt
  rintro S H3 ⟨q1,gt,hw,z,rfl⟩
  rw[AL (by omega),←hV]at gt
  (try simp only[aA])
  repeat' ((first|refine dQ ?_|refine dN rfl ?_);(try simp only[aA]))
  refine qo ?_
  exact⟨q1.ext hxd (by omega),hg (by omega) gt hw⟩
end
def E2(Q:aS):aS:=fun ex S' H'=>match ex with | .exit j=>if ay≤j then ∃(_:Nat),False else Q (.exit j) S' H'|ex=>Q ex S' H'
theorem Bo{lo:Nat}{b alts:Stm}{cf:CF}{R:Value→Heap→Prop}{S:List Value}{H:Heap}(h:wpS cp lo b (aG cf R) S H):wpS cp lo (.scope b alts) (aG cf R) S H:=by
 refine⟨fun _ _ _ _=>False,?_,fun _ _ _ _ h=>h.elim⟩
 have e:E2 (aG cf R)=aG cf R:=by
  funext ex S H
  cases ex<;>simp[E2,aG]
 show wpS cp lo b (E2 (aG cf R)) S H
 rw[e];exact h
theorem Bl{n:Nat}{V:Nat→Int}{T x i:Nat}(hx:x<n)(hi:¬ x+i*n<T):mix n V T x i=mix n V T (x+1) 0:=by
 unfold mix
 refine List.map_congr_left fun j hj=>?_
 have hj:=List.mem_range.1 hj
 by_cases h:j%n<x∨(j%n=x∧j/n<i)
 ·rw[if_pos h,if_pos (by omega)]
 ·rw[if_neg h,if_neg]
  rintro(h2|h2)
  ·by_cases h3:j%n=x
   ·apply hi
    have h4:i≤j/n:=by
     apply Nat.le_of_not_lt;intro h5;exact h (.inr ⟨h3,h5⟩)
    have h5:=Nat.mul_le_mul_left n h4
    have:=Nat.div_add_mod j n
    rw[h3]at this
    rw[Nat.mul_comm i n];omega
   ·exact h (.inl (by omega))
  ·exact absurd h2.2 (Nat.not_lt_zero _)
def jf(s:Sz):Int:=IntKind.i64.wrap (s.d+s.k)
theorem nW{i:Nat}(hi:i<30):jf (dz i).sz=(((dz i).d+(dz i).c:Nat):Int):=by
 have hz:=pX hi
 have:=hz.d2
 have:=hz.c2
 show IntKind.i64.wrap (((dz i).d:Int)+((dz i).c:Int))=_
 rw[kn (by omega) (by omega)];omega
def se(s:Sz)(l:List Int)(N:Nat)(H:Heap)(r:Value):Prop:=
 (fZ s l (jf s)≠0→r=.tuple #[.slice none 0 0,.int .i64 0,.int .i64 (fZ s l (jf s))]) ∧
 (∀i,i<30→s=(dz i).sz→l.length=(dz i).d+(dz i).c→inF 256 l=true →
  ((¬ ∀x,x<(dz i).n→OkX (dz i) l x)→r=.tuple #[.slice none 0 0,.int .i64 0,.int .i64 17]) ∧
  ((∀x,x<(dz i).n→OkX (dz i) l x)→∃b,N≤b∧r=.tuple #[.slice (some ⟨b,0,none⟩) (dz i).d (dz i).d,.int .i64 (ek (nch (dz i) l) (dz i).n:Nat),.int .i64 0]∧H.get b=some (bA (ilv (dz i).n (fxX (dz i) l) (dz i).d))))
section
variable {lo:Nat}{H:Heap}{s:Sz}
set_option maxHeartbeats 1000000 in
theorem xQ{v:Value}{l:List Int}(hl:SlI H v l)(hll:l.length≤1000000000)(hlo:lo≤H.length):Ev cp lo 16 [v,s.val] H (fun r H'=>Ext H H'∧se s l H.length H' r):=by
 have hl0:=hl
 obtain⟨ad,c,rfl⟩:=hl.len
 refine U8 ?_;unfold Lb GH;simp only[kB,aA]
 repeat' ((first|refine dQ ?_|refine dN rfl ?_);(try simp only[aA]))
 refine Bo ?_
 have hws:IntKind.i64.wrap (s.d+s.k)=jf s:=rfl
 (try simp only[aA])
 generalize hG:H++_=G at *
 obtain⟨g0,hxG⟩:=aV hG
 clear hG
 have hlG:=hxG.1
 refine m6 ?_
 refine aC (G9 (s:=s) (n:=jf s) (hl.mono hxG) hll (by omega)) ?_
 rintro r H1 ⟨hx1,rfl⟩
 clear hws
 have g0:=hx1.get g0
 have hx1:=hxG.trans hx1
 have hl1:=hx1.1
 (try simp only[aA])
 repeat' ((first|refine dQ ?_|refine dN rfl ?_);(try simp only[aA]))
 by_cases he:fZ s l (jf s)=0
 case neg=>
  have hg:se s l H.length H1 (.tuple #[.slice none 0 0,.int .i64 0,.int .i64 (fZ s l (jf s))]):=by
   refine⟨fun _=>rfl,fun i hi hs hle hin=>absurd (tv (ie.2 ⟨i,hi,hs⟩) ?_ hin) he⟩
   rw[hs,hle,nW hi]
  generalize fZ s l (jf s)=ee at *
  refine jc (fun h=>?_) (fun h=>?_)
  case refine_2=>exfalso;simp at h;exact he h
  clear h
  (try simp only[aA])
  repeat' ((first|refine dQ ?_|refine dN rfl ?_);(try simp only[aA]))
  refine qo ?_
  exact⟨hx1,hg⟩
 obtain⟨hs,hln,hin⟩:=yW he
 obtain⟨i0,hi0,hs0⟩:=ie.1 hs
 rw[he]
 subst hs0
 have hgB:(¬ ∀x,x<(dz i0).n→OkX (dz i0) l x)→∀{H':Heap},se (dz i0).sz l H.length H' (.tuple #[.slice none 0 0,.int .i64 0,.int .i64 17]):=by
  intro hno H'
  refine⟨fun h=>absurd he h,fun i hi hs _ _=>?_⟩
  rw[←ml hi0 hi hs]
  exact⟨fun _=>rfl,fun h=>absurd h hno⟩
 have hg:(∀x,x<(dz i0).n→OkX (dz i0) l x)→∀{H':Heap} {b:Nat},H.length≤b→Heap.get H' b=some (bA (ilv (dz i0).n (fxX (dz i0) l) (dz i0).d))→se (dz i0).sz l H.length H' (.tuple #[.slice (some ⟨b,0,none⟩) (dz i0).d (dz i0).d,.int .i64 (ek (nch (dz i0) l) (dz i0).n:Nat),.int .i64 0]):=by
  intro hok H' b hb hh
  refine⟨fun h=>absurd he h,fun i hi hs _ _=>?_⟩
  rw[←ml hi0 hi hs]
  exact⟨fun h=>absurd hok h,fun _=>⟨b,hb,rfl,hh⟩⟩
 have hcode:=fun {H:Heap} {lo:Nat} (h:lo≤H.length)=>JQ (H:=H) hi0 h
 have hz:=pX hi0
 rw[nW hi0]at hln
 clear he hs
 generalize dz i0=zz at *
 have hlz:l.length=zz.d+zz.c:=by
  omega
 clear hln
 have n1:=hz.n1
 have n2:=hz.n2
 have dn:=hz.dn
 have d2:=hz.d2
 have c2:=hz.c2
 have k1:=hz.k1
 have k2:=hz.k2
 have hca:∀x,x<zz.n→(cnt l.length zz.n x≤cnt zz.d zz.n x+zz.ck∧cnt zz.d zz.n x+zz.ck≤cnt l.length zz.n x)∧0<cnt zz.d zz.n x∧cnt zz.d zz.n x+zz.ck≤250:=fun x hx=>by
  have:=tz hz hx
  rw[←hlz]at this;omega
 clear hz
 replace hlz:l.length≤zz.d+zz.c∧zz.d+zz.c≤l.length:=by omega
 unfold Dz.sz Sz.val at *
 simp only[Sz.cells]at *
 refine jc (fun h=>?_) (fun h=>?_)
 ·cases h
 clear h
 (try simp only[aA])
 refine m6 ?_
 refine aC (hcode (by omega)) ?_
 rintro r H2 ⟨hx2,rfl⟩
 have g0:=hx2.get g0
 have hq2:=Heap.get_lt g0
 have hx2:=hx1.trans hx2
 have hl2:=hx2.1
 clear hcode
 unfold cdV
 (try simp only[aA])
 repeat' ((first|refine dQ ?_|refine dN rfl ?_);(try simp only[aA]))
 generalize hG:H2++_=G1 at *
 obtain⟨gc,hxG1⟩:=aV hG
 clear hG
 have g0:=hxG1.get g0
 have hxc:=hx2.trans hxG1
 have hlc:=hxc.1
 have hlt0:=Heap.get_lt gc
 refine jc (fun h=>?_) (fun h=>?_)
 ·cases h
 clear h
 (try simp only[aA])
 repeat' ((first|refine dQ ?_|refine dN rfl ?_);(try simp only[aA]))
 generalize hG:G1++_=G2 at *
 obtain⟨gt,hxG2⟩:=aV hG
 clear hG
 generalize hV:(fun j=>(((co (fxX zz l (j%zz.n)) (j/zz.n)).val:Nat):Int))=V at *
 have gt:Heap.get G2 G1.length=some (bA (mix zz.n V zz.d 0 0)):=by
  rw[gt,Jb]
 have g0:=hxG2.get g0
 have gc:=hxG2.get gc
 have hxd:=hxc.trans hxG2
 have hltt:=Heap.get_lt gt
 have hsb:∀x,x≤zz.n→ek (nch zz l) x≤x*250:=by
  intro x
  induction x with
  | zero=>intro _;simp[ek]
  | succ x ih=>
   intro hx
   have h1:=ih (by omega)
   have h2:=tu zz l x
   have h3:=hca x (by omega)
   rw[ek,Nat.succ_mul];omega
 refine aU (fun x S H'=>Keep G1.length G2 H'∧Heap.get H' G1.length=some (bA (mix zz.n V zz.d x 0))∧(∀y,y<x→OkX zz l y)∧∃(z:Nat→Value),S=[.slice ad l.length c,z 1,.pointer (some ⟨H.length,0,none⟩),z 3,z 4,z 5,z 6,.pointer (some ⟨H2.length,0,none⟩),z 8,.slice (some ⟨G1.length,0,none⟩) zz.d zz.d,.int .i64 (ek (nch zz l) x:Nat),z 11,z 12,z 13,z 14,z 15,z 16,z 17,z 18,z 19,z 20,z 21,.int .i64 (zz.n:Nat),.int .i64 (x:Nat),z 24,z 25,z 26,z 27,z 28,z 29,z 30,z 31]) zz.n ?_ ?_ ?_ ?_
 ·exact⟨cY (Ext.refl _),gt,by omega,aL rfl⟩
 ·rintro x S H' hx ⟨-,-,-,z,rfl⟩
  exact⟨_,lX,by simp⟩
 ·clear gt
  rintro x S H3 hx ⟨q1,gt,hw,z,rfl⟩
  obtain⟨ca,cb,cc⟩:=hca x hx
  have g0:=q1.get g0 (by omega)
  have gc:=q1.get gc (by omega)
  have hx3:=q1.ext hxd (by omega)
  have hl3:=hx3.1
  have hsl:=hl0.mono hx3
  have hq3:=q1.len
  have hsx:=hsb x (by omega)
  have hsy:=hsb (x+1) (by omega)
  rw[ek]at hsy
  (try simp only[aA])
  repeat' ((first|refine dQ ?_|refine dN rfl ?_);(try simp only[aA]))
  refine m6 ?_
  refine aQ (Cs (n:=zz.n) (x:=x) hsl hll hx (by omega) (Nat.le_refl _)) ?_
  rintro r H4 ⟨hx4,hr⟩
  rw[←zk hin]at hr
  have hr:SlE H4 r (wdE zz l x):=sr hr
  have hwl:=ky zz l x
  replace hwl:(wdE zz l x).length≤cnt l.length zz.n x∧cnt l.length zz.n x≤(wdE zz l x).length:=by omega
  have gt:=hx4.get gt
  have g0:=hx4.get g0
  have gc:=hx4.get gc
  have hq4:=hx4.1
  have hnl:=tu zz l x
  (try simp only[aA])
  refine m6 ?_
  refine gi (first:=#[]) (cap:=#[]) (args:=[cdV (fB 301) zz.ck 1,r,.slice none 0 0]) (D1 (f:=F1) (g:=g1) (w:=wdE zz l x) (e:=[]) (by omega) sR (xC (by omega) (by omega)) hr (by omega) (.inl ⟨rfl,rfl⟩) (by simp)) ?_
  rintro r2 H5 ⟨hx5,-,-,hbad,hgood⟩
  have hin0:inR (wdE zz l x).length []:=fun _ h=>by simp at h
  replace hbad:=hbad hin0 (by omega) (by show _<256;omega)
  replace hgood:=hgood hin0 (by omega) (by show _<256;omega)
  have gt:=hx5.get gt
  have g0:=hx5.get g0
  have gc:=hx5.get gc
  have hq5:=hx5.1
  by_cases hok:OkX zz l x
  case neg=>
   rw[hbad hok]
   clear hbad hgood
   unfold ny
   have hxx:=(hx3.trans hx4).trans hx5
   have hgB:=@hgB (fun h=>hok (h x hx))
   (try simp only[aA])
   repeat' ((first|refine dQ ?_|refine dN rfl ?_);(try simp only[aA]))
   refine jc (fun h=>?_) (fun h=>?_)
   case refine_2=>exfalso;simp at h
   clear h
   (try simp only[aA])
   repeat' ((first|refine dQ ?_|refine dN rfl ?_);(try simp only[aA]))
   refine qo ?_
   exact⟨hxx.trans (Ext.app _ _),hgB⟩
  obtain⟨vw,vc,rfl,hvw,hvc,hnew,-⟩:=hgood hok
  clear hbad hgood
  replace hvw:SlE H5 vw (fxX zz l x):=hvw
  have hfl:=AO zz l x
  have hvw0:=hvw
  obtain⟨aw,cw,ew⟩:=hvw.len
  rw[hfl]at ew
  subst ew
  replace hfl:(fxX zz l x).length≤cnt l.length zz.n x∧cnt l.length zz.n x≤(fxX zz l x).length:=by omega
  obtain⟨ac,kc,ec⟩:=hvc.len
  replace ec:vc=.slice ac (nch zz l x) kc:=ec
  subst ec
  clear hvc hvw hr
  (try simp only[aA])
  repeat' ((first|refine dQ ?_|refine dN rfl ?_);(try simp only[aA]))
  generalize hG:H5++_=H6 at *
  obtain⟨gr,hxr⟩:=aV hG
  clear hG
  have hvw0:=hvw0.mono hxr
  have gt:=hxr.get gt
  have g0:=hxr.get g0
  have gc:=hxr.get gc
  have hq6:=hxr.1
  refine jc (fun h=>?_) (fun h=>?_)
  ·cases h
  clear h
  (try simp only[aA])
  repeat' ((first|refine dQ ?_|refine dN rfl ?_);(try simp only[aA]))
  clear gr
  refine aU (fun i S H'=>Keep G1.length H6 H'∧Heap.get H' G1.length=some (bA (mix zz.n V zz.d x i))∧i≤cnt zz.d zz.n x∧∃(z:Nat→Value),S=[.slice ad l.length c,z 1,.pointer (some ⟨H.length,0,none⟩),z 3,z 4,z 5,z 6,.pointer (some ⟨H2.length,0,none⟩),z 8,.slice (some ⟨G1.length,0,none⟩) zz.d zz.d,.int .i64 (ek (nch zz l) x+nch zz l x:Nat),.int .i64 (x:Nat),z 12,z 13,z 14,z 15,z 16,z 17,z 18,z 19,z 20,z 21,.int .i64 (zz.n:Nat),.int .i64 (x:Nat),z 24,z 25,z 26,z 27,z 28,.slice aw (cnt l.length zz.n x) cw,.int .i64 (cnt l.length zz.n x:Nat),.int .i64 (i:Nat)]) (cnt l.length zz.n x) ?_ ?_ ?_ ?_
  ·exact⟨cY (Ext.refl _),gt,Nat.zero_le _,aL (by first|rfl|(simp only[Int.natCast_add,Int.natCast_one];rfl)|simp only[Int.natCast_add,Int.natCast_one])⟩
  ·rintro i S H' hi ⟨-,-,-,z,rfl⟩
   exact⟨_,lX,by simp⟩
  ·clear gt
   rintro i S H7 hi ⟨q6,gt,hic,z,rfl⟩
   have g0:=q6.get g0 (by omega)
   have hq7:=q6.len
   obtain⟨bw,ow,spw,cw2,xw,e6,gx,hat,hxl⟩:=cK (dY hvw0 hnew q6 (by omega)) (by omega)
   rw[show(fxX zz l x).length=cnt l.length zz.n x by omega]at e6
   cases e6
   have hati:=hat i (by omega)
   have hml:=AG zz.n V zz.d x i
   have hl6:=Heap.get_lt gt
   have hp1:((x:Nat):Int)+(i:Int)*(zz.n:Int)=((x+i*zz.n:Nat):Int):=by rw[Int.natCast_add,Int.natCast_mul]
   have hpb:x+i*zz.n<3000:=by
    have h1:=(dd hx).1 hi
    omega
   clear hat
   by_cases hi2:i<cnt zz.d zz.n x
   ·have hp:=(dd hx).1 hi2
    have hms:=AW (V:=V) hx hp
    have hVp:V (x+i*zz.n)=((((fxX zz l x).getD i 0).val:Nat):Int):=by
     rw[←hV]
     have:=jm (n:=zz.n) (W:=fun _=>[]) (k:=i) hx
     simp only[this.1,this.2];rfl
    rw[hVp]at hms
    have hco:co (fxX zz l x) i=(fxX zz l x).getD i 0:=rfl
    rw[hco]at hati
    clear hVp hco
    generalize x+i*zz.n=p at *
    generalize ((((fxX zz l x).getD i 0).val:Nat):Int)=y at *
    generalize mix zz.n V zz.d x i=M at *
    generalize mix zz.n V zz.d x (i+1)=M' at *
    (try simp only[aA])
    repeat' ((first|refine dQ ?_|refine dN rfl ?_);(try simp only[aA]))
    refine jc (fun h=>?_) (fun h=>?_)
    ·exfalso;simp at h;omega
    clear h
    (try simp only[aA])
    repeat' ((first|refine dQ ?_|refine dN rfl ?_);(try simp only[aA]))
    refine⟨fj q6 _,?_,by omega,aL (by first|rfl|(simp only[Int.natCast_add,Int.natCast_one];rfl)|simp only[Int.natCast_add,Int.natCast_one])⟩
    rw[aI (by omega)]
   ·have hp:¬ x+i*zz.n<zz.d:=fun h=>hi2 ((dd hx).2 h)
    rw[Bl hx hp]at gt
    have q7:=cT q1 (cT (cY ((hx4.trans hx5).trans hxr)) q6)
    clear hml
    generalize x+i*zz.n=p at *
    (try simp only[aA])
    repeat' ((first|refine dQ ?_|refine dN rfl ?_);(try simp only[aA]))
    refine jc (fun h=>?_) (fun h=>?_)
    case refine_2=>exfalso;simp at h;omega
    clear h
    (try simp only[aA])
    repeat' ((first|refine dQ ?_|refine dN rfl ?_);(try simp only[aA]))
    repeat (first|rw[if_neg (by decide)]|simp only[uK,AH,uB]|rw[n9])
    (try simp only[aA])
    repeat' ((first|refine dQ ?_|refine dN rfl ?_);(try simp only[aA]))
    refine⟨q7,gt,fun y hy=>?_,aL (by first|rfl|(simp only[Int.natCast_add,Int.natCast_one];rfl)|simp only[Int.natCast_add,Int.natCast_one])⟩
    by_cases e2:y=x
    ·rw[e2];exact hok
    ·exact hw y (by omega)
  ·rintro S H7 ⟨-,-,hic,-⟩
   omega
 ·clear gt
  rintro S H3 ⟨q1,gt,hw,z,rfl⟩
  rw[AL (by omega),←hV]at gt
  (try simp only[aA])
  repeat' ((first|refine dQ ?_|refine dN rfl ?_);(try simp only[aA]))
  refine qo ?_
  exact⟨q1.ext hxd (by omega),hg hw (by omega) gt⟩
end
theorem zK(i:Nat):erI [] i=false:=rfl
theorem IK(n:Nat):sC (erI []) n=0:=by
 unfold sC sel
 rw[List.filter_eq_nil_iff.2 (fun i _=>by rw[zK];decide)];rfl
theorem SG:g1≠0:=eY sR
noncomputable def uG(w c:List (El F1)):Nat:=(sel (fun i=>decide (co w i≠co c i)) w.length).length
theorem Ns{z:Dz}{wl:List Int}{x:Nat}{W:List (El F1)}(hlen:cnt wl.length z.n x≤255)(hW:W.length=cnt wl.length z.n x)(hcw:kL g1 z.ck 1 W)(hc:2*uG (wdE z wl x) W≤z.ck):OkX z wl x∧fxX z wl x=W:=by
 refine yA SG (cU sR) (by rw[ky];exact hlen) (by rw[ky,hW]) hcw ?_
 rw[IK]
 have:(sel (fun i=>!erI [] i&&decide (co (wdE z wl x) i≠co W i)) (wdE z wl x).length)=sel (fun i=>decide (co (wdE z wl x) i≠co W i)) (wdE z wl x).length:=fW fun i _=>by rw[zK];rfl
 rw[this];exact hc
theorem yK(z:Dz)(wl:List Int)(x:Nat):nch z wl x=uG (wdE z wl x) (fxX z wl x):=by
 unfold nch uG
 congr 1
 exact fW fun i _=>decide_eq_decide.2 ⟨Ne.symm,Ne.symm⟩
def exE(l:List Nat):List (El F1):=l.map (eB 301)
def exI(l:List Nat):List Int:=l.map fun(n:Nat)=>(n:Int)
def w1N:List Nat:=[142,164,186,114,25,5,88,102]
def w2N:List Nat:=[129,175,70,33,1,170,139,55]
theorem zj:kL g1 5 1 (exE w1N):=ET bf301 (by decide +kernel)
theorem QG:kL g1 5 1 (exE w2N):=ET bf301 (by decide +kernel)
theorem Dl{l w:List Nat}(hl:w.length=l.length+5)(hp:∀i,i<l.length→w.getD i 0=l.getD i 0)(hc:kL g1 5 1 (exE w)):IsEnc g1 5 1 (exE l) (exE w):=by
 refine⟨by simp[exE,hl],fun i hi=>?_,hc⟩
 have hi:i<l.length:=by simpa[exE]using hi
 have h:=hp i hi
 have e:∀m:List Nat,i<m.length→co (exE m) i=eB 301 (m.getD i 0):=fun m hm=>by
  unfold co exE
  rw[List.getD_eq_getElem?_getD,List.getElem?_map,List.getD_eq_getElem?_getD,List.getElem?_eq_getElem hm];rfl
 rw[e w (by omega),e l hi,h]
theorem yE:(dz 0).ck=5:=by decide
theorem Jl{α:Type}(l:List α)(d:α):fK l d 1 0=l:=by
 unfold fK cnt
 refine List.ext_getElem (by simp) fun i h1 h2=>?_
 simp only[List.getElem_map,List.getElem_range,Nat.zero_add,Nat.mul_one]
 rw[List.getD_eq_getElem?_getD,List.getElem?_eq_getElem h2];rfl
theorem Np{l w:List Nat}(h:IsEnc g1 5 1 (exE l) (exE w)):(dz 0).W (exE l) 0=exE w:=by
 have hc:CdOK F1 5 1:=xC (by decide) (by decide)
 have:(dz 0).W (exE l) 0=Ii 5 (exE l):=by
  show Ii (dz 0).ck (fK (exE l) 0 1 0)=_
  rw[Jl,yE]
 rw[this]
 exact(zm hc h).symm
theorem LD(l:List Nat)(i:Nat):(exI l).getD i 0=((l.getD i 0:Nat):Int):=by
 simp only[exI,List.getD_eq_getElem?_getD,List.getElem?_map]
 cases l[i]?<;>rfl
theorem Hd{W:Nat→List (El F1)}{w:List Nat}(h:W 0=exE w){N:Nat}(hN:N≤w.length)(hb:∀x ∈ w,x<256):ilv 1 W N=exI (w.take N):=by
 refine List.ext_getElem (by rw[lP];simp[exI];omega) fun i h1 h2=>?_
 rw[lP]at h1
 have q1:=K0 (n:=1) (W:=W) h1
 rw[List.getD_eq_getElem?_getD,List.getElem?_eq_getElem (by rw[lP];exact h1),Option.getD_some]at q1
 rw[q1,Nat.mod_one,Nat.div_one,h]
 have q2:=LD (w.take N) i
 rw[List.getD_eq_getElem?_getD,List.getElem?_eq_getElem h2,Option.getD_some,List.getD_eq_getElem?_getD,List.getElem?_take,if_pos h1,List.getElem?_eq_getElem (show i<w.length by omega),Option.getD_some]at q2
 have:=hb _ (List.getElem_mem (show i<w.length by omega))
 rw[q2]
 unfold co exE
 rw[List.getD_eq_getElem?_getD,List.getElem?_map,List.getElem?_eq_getElem (by omega)]
 show((w[i]%256:Nat):Int)=_
 rw[Nat.mod_eq_of_lt this]
theorem zd{l:List Nat}(h:∀x ∈ l,x<256):gT (exE l)=exI l:=by
 unfold gT exE exI
 rw[List.map_map]
 exact List.map_congr_left fun x hx=>by show((x%256:Nat):Int)=_;rw[Nat.mod_eq_of_lt (h x hx)]
theorem J0{wl:List Nat}{w:List Nat}(hl:wl.length=8)(hw:w.length=8)(hb:∀x ∈ wl,x<256)(hcw:kL g1 5 1 (exE w)){k:Nat}(hk:uG (exE wl) (exE w)=k)(hk2:k≤2) :
  (∀x,x<(dz 0).n→OkX (dz 0) (exI wl) x)∧fxX (dz 0) (exI wl) 0=exE w∧ek (nch (dz 0) (exI wl)) (dz 0).n=k:=by
 have hn:(dz 0).n=1:=rfl
 have hil:(exI wl).length=8:=by simp[exI,hl]
 have hwd:wdE (dz 0) (exI wl) 0=exE wl:=by
  unfold wdE
  rw[hn,Jl]
  unfold exI exE
  rw[List.map_map]
  exact List.map_congr_left fun x _=>rfl
 have hc:=Ns (z:=dz 0) (wl:=exI wl) (x:=0) (W:=exE w) (by rw[hil,hn];decide) (by rw[hil,hn];simp[exE,hw];decide) (by rw[yE];exact hcw) (by rw[hwd,hk,yE];omega)
 refine⟨fun x hx=>?_,hc.2,?_⟩
 ·have:x=0:=by omega
  rw[this];exact hc.1
 ·rw[hn]
  show 0+nch (dz 0) (exI wl) 0=k
  rw[yK,hc.2,hwd,hk,Nat.zero_add]
end Go.Proofs.YtmnlgdpdgjbfgaaGreat
