/- Dmtext: the options of X12 and EDIFACT. Dmtext: the options of EDIFACT. Dmtext: the best run of Base 256. Dmtext: the options of ASCII. -/
import Derived.Test.YthnflhimcmdnbaaT12
set_option linter.unusedVariables false
set_option linter.unusedSimpArgs false
set_option linter.unusedSectionVars false
namespace Go.Proofs.Ythnflhimcmdnbaa
open Go.Abs
set_option linter.unusedSimpArgs false
set_option linter.unusedVariables false
set_option maxRecDepth 20000
section
variable {lo:Nat}{H:Heap}{sb cb:Nat}{v:Value}{p:List UInt8}{cs:List Nat}
theorem keepSet{b:Nat}{H:Heap}{x:Option (List Value)}:Keep b H (List.set H b x):=⟨by simp,fun i _ hne=>get_set_ne (fun e=>hne e.symm)⟩
theorem optApp{cp:FuncId→Option CF}{z:List Value}{w:Value}{b:Nat}{L:List Opt}{o:Opt}{R:Value→Heap→Prop}(ho:OwnG lo 7 H w b (cat optC L))(hlo:lo≤H.length)(hbig:L.length≤10000000)
  (k:∀v' H',AppG lo 7 H b (cat optC (L++[o])) v' H'→R v' H'):wpH cp lo (.app 7 z) [w,.slice (some ⟨H.length,0,none⟩) 1 1] (H++[some (optC o)]) R:=by
 have hx:Ext H (H++[some (optC o)]):=Ext.app _ _
 refine appK (enc:=optC) (r:=o) (by omega) (by omega) optC_len optC_one (ho.mono hx) (by simp;omega) hbig get_app0 ?_
 intro v' H' h
 exact k v' H' (AppG.trans (Ext.keep (Ext.refl _)) (.inl rfl) hx h)
theorem xEDg{P:Prop}(h:P:=by simp(disch:=first|omega|(simp only[lenB];omega))only[evB,xBDc,Nat.reduceAdd,Nat.reduceBEq,Int.reduceToNat, *];rfl):P:=h
theorem xSDg{cp:FuncId→Option CF}{lo:Nat}{l:List (Nat×E)}{chk:List E}{Q:Post}{S:List Value}{H:Heap}{vs:List (Nat×Value)}{S':List Value}(k:Q .normal S' H)(h:evSets S H l=some vs:=by exact xEDg)(hc:evChk S H chk=true:=by simp(disch:=first|omega|(simp only[lenB];omega))only[evB,xBDc,Nat.reduceAdd,Nat.reduceBEq,Int.reduceToNat, *])(hS:setAll S vs=S':=by exact xEDg):wpS cp lo (.sets l chk) Q S H:=aw_sets h hc hS k
theorem xHDg{cp:FuncId→Option CF}{lo:Nat}{l:List (Nat×E)}{chk:List E}{Q:Post}{S:List Value}{H:Heap}{vs:List (Nat×Value)}{dst:Option Nat}{o:HOp}{a:E}{xs:List Value}(k:wpH cp lo o xs H fun v H'=>Q .normal (setD (setAll S vs) dst v) H')(h:evSets S H l=some vs:=by exact xEDg)(hc:evChk S H chk=true:=by simp(disch:=first|omega|(simp only[lenB];omega))only[evB,xBDc,Nat.reduceAdd,Nat.reduceBEq,Int.reduceToNat, *])(ha:ev S H a=some xs:=by exact xEDg):wpS cp lo (.hv l chk [] dst o a) Q S H:=aw_hv h hc ha k
theorem xODg{cp:FuncId→Option CF}{lo:Nat}{l:List (Nat×E)}{chk:List E}{Q:Post}{S:List Value}{H:Heap}{vs:List (Nat×Value)}{dst:Option Nat}{o:HOp}{a:E}{xs:List Value}{S':List Value}{H':Heap}{v:Value}(hcall:o.isCall=false)(k:Q .normal S' H')(h:evSets S H l=some vs:=by exact xEDg)(hc:evChk S H chk=true:=by simp(disch:=first|omega|(simp only[lenB];omega))only[evB,xBDc,Nat.reduceAdd,Nat.reduceBEq,Int.reduceToNat, *])(ha:ev S H a=some xs:=by exact xEDg)(ho:hsem0 lo o xs H=some (v,H'):=by exact xEDg)(hS:setD (setAll S vs) dst v=S':=by exact xEDg):wpS cp lo (.hv l chk [] dst o a) Q S H:=aw_op hcall h hc ha ho hS k
theorem xCDg{cp:FuncId→Option CF}{lo:Nat}{c:E}{a b:Stm}{Q:Post}{S:List Value}{H:Heap}{t:Bool}(k1:t=true→wpS cp lo a Q S H)(k2:t=false→wpS cp lo b Q S H)(h:ev1 S H c=some (.bool t):=by exact xEDg):wpS cp lo (.cond c a b) Q S H:=aw_cond h k1 k2
theorem xRDg{cf:CF}{R:Value→Heap→Prop}{S:List Value}{H:Heap}{vs:List Value}(k:R (resultOf vs) H)(h:evList S H cf.res=some vs:=by exact xEDg):bodyQ cf R .ret S H:=body_ret h k
theorem x12P'{a:Nat}(hs:SrH H sb cb v p cs)(ha:a≤p.length)(hlo:lo≤H.length):Ev cp lo 49 [ptr sb,encN a] H (fun r H'=>Ext H H'∧∃b,H.length≤b∧OwnG lo 7 H' r b (cat optC (x12O p a))):=by
 have hi:=hs.hi
 have hgs:=hs.g
 obtain⟨ad,c,ev⟩:=hs.pl.len
 rw[ev]at hgs
 refine st49 ?_;unfold bd49 cf49;simp only[kB,ctlB]
 repeat' ((first|refine xSDg ?_|refine xODg rfl ?_);(try simp only[ctlB]))
 have hxb:Ext H (H++[some (optC (latO a))]):=Ext.app _ _
 have hg0:(H++[some (optC (latO a))]).get H.length=some (optC (latO a)):=get_app0
 have hlc:(H++[some (optC (latO a))]).length≤H.length+1∧H.length+1≤(H++[some (optC (latO a))]).length:=by simp
 change wpS cp lo _ _ _ (H++[some (optC (latO a))])
 generalize H++[some (optC (latO a))]=H0 at hxb hg0 hlc
 have ho0:OwnG lo 7 H0 (.slice (some ⟨H.length,0,none⟩) 1 1) H.length (cat optC [latO a]):=.inr ⟨hlo,1,by omega,rfl,rfl,hg0⟩
 have hgs0:=hxb.get hgs
 clear hgs
 unfold x12O
 by_cases h3:a+3≤p.length
 ·have hd:decide ((p.length:Int)-(a:Nat)<3)=false:=decide_eq_false (by omega)
  refine xCDg (fun h=>?_) (fun h=>?_)
  ·exfalso;simp at h
  clear h hd
  (try simp only[ctlB])
  repeat' ((first|refine xSDg ?_|refine xODg rfl ?_);(try simp only[ctlB]))
  have hxa:Ext H0 (H0++[some [Value.int .i64 0,Value.int .i64 0,Value.int .i64 0]]):=Ext.app _ _
  have hga:(H0++[some [Value.int .i64 0,Value.int .i64 0,Value.int .i64 0]]).get H0.length=some [Value.int .i64 0,Value.int .i64 0,Value.int .i64 0]:=get_app0
  have hla:(H0++[some [Value.int .i64 0,Value.int .i64 0,Value.int .i64 0]]).length≤H0.length+1∧H0.length+1≤(H0++[some [Value.int .i64 0,Value.int .i64 0,Value.int .i64 0]]).length:=by simp
  generalize H0++[some [Value.int .i64 0,Value.int .i64 0,Value.int .i64 0]]=H1 at hxa hga hla
  have hgs1:=hxa.get hgs0
  have hx1:=hxb.trans hxa
  have ho1:=ho0.mono hxa
  clear hg0 ho0 hgs0
  refine aw_for (fun k S H'=>(Ext H H'∧OwnG lo 7 H' (.slice (some ⟨H.length,0,none⟩) 1 1) H.length (cat optC [latO a])∧H'.get sb=some [.slice ad p.length c,.slice (some ⟨cb,0,none⟩) (p.length+1) (p.length+1)])∧(∃X:List Value,(X.length≤3∧3≤X.length)∧H'.get H0.length=some X∧∀i,i<k→X[i]?=some (encN (x12S (by' p (a+i))-1))∧x12S (by' p (a+i))≠0)∧∃(z:Nat→Value),S=[ptr sb,encN a,z 2,.slice (some ⟨H.length,0,none⟩) 1 1,ptr H0.length,z 5,z 6,.int .i64 (k:Nat),z 8,z 9,z 10,z 11,z 12,z 13]) 3 ⟨⟨hx1,ho1,hgs1⟩,⟨_,by simp,hga,fun i hi=>absurd hi (by omega)⟩,exZDe (by first|rfl|(simp only[Int.natCast_add,Int.natCast_one];rfl)|simp only[Int.natCast_add,Int.natCast_one])⟩ ?_ ?_ ?_
  ·rintro k S H' hk ⟨h1,h2,z,rfl⟩
   exact⟨decide ((k:Int)<3),by simp(disch:=first|omega|(simp only[lenB];omega))only[evB,xBDc,Nat.reduceAdd,Nat.reduceBEq,Int.reduceToNat, *],by simp;omega⟩
  ·rintro k S H2 hk ⟨⟨hx2,ho2,hgs2⟩,⟨X,hX,hgl,hli⟩,z,rfl⟩
   have hap:a+k<p.length:=by omega
   have hc12:∃h12:a+k<p.length,True:=⟨hap,trivial⟩
   obtain⟨bb,oo,xs,hia,hgx,hxx⟩:=sl_at (hs.ext hx2).pl hap
   rw[ev]at hia
   have hby:=(p.getD (a+k) 0).toNat_lt
   have hll:=Heap.get_lt hgl
   have hll2:=hx2.1
   replace hli:False∨∀i,i<k→X[i]?=some (encN (x12S (by' p (a+i))-1))∧x12S (by' p (a+i))≠0:=.inr hli
   obtain⟨d,hdd⟩:∃d,False∨d=p.getD (a+k) 0:=⟨_,.inr rfl⟩
   rw[←hdd.resolve_left id]at hxx hby
   simp only[Int.natCast_add]at hia
   have hmd:x12S d.toNat≤40:=x12S_le _
   (try simp only[ctlB])
   repeat' ((first|refine xSDg ?_|refine xODg rfl ?_);(try simp only[ctlB]))
   refine xHDg ?_
   refine wpH_call0 (x12P (lo:=lo) (k:=d.toNat) hby (by omega)) ?_
   rintro r H3 ⟨rfl,hx3⟩
   have hgl3:=hx3.get hgl
   have hll3:=hx3.1
   (try simp only[ctlB])
   repeat' ((first|refine xSDg ?_|refine xODg rfl ?_);(try simp only[ctlB]))
   have hk4:Keep H0.length H3 (List.set H3 H0.length (some (X.set k (Value.int .i64 ((x12S d.toNat:Int)-1))))):=keepSet
   have hg4:Heap.get (List.set H3 H0.length (some (X.set k (Value.int .i64 ((x12S d.toNat:Int)-1))))) H0.length=some (X.set k (Value.int .i64 ((x12S d.toNat:Int)-1))):=get_set_self (by omega)
   generalize List.set H3 H0.length (some (X.set k (Value.int .i64 ((x12S d.toNat:Int)-1))))=H4 at hk4 hg4
   have hx4:=hk4.ext (hx2.trans hx3) (by omega)
   have ho4:=(ho2.mono hx3).keep hk4 (by omega)
   have hsl:=Heap.get_lt hgs1
   have hgs4:=hk4.get (hx3.get hgs2) (by have:=Heap.get_lt hs.g;omega)
   have hXk:(X.set k (Value.int .i64 ((x12S d.toNat:Int)-1)))[k]?=some (Value.int .i64 ((x12S d.toNat:Int)-1)):=by rw[List.getElem?_set_self (by omega)]
   have hXl:(X.set k (Value.int .i64 ((x12S d.toNat:Int)-1))).length≤3∧3≤(X.set k (Value.int .i64 ((x12S d.toNat:Int)-1))).length:=by simp;omega
   have hXi:False∨∀i,i<k→(X.set k (Value.int .i64 ((x12S d.toNat:Int)-1)))[i]?=X[i]?:=.inr (fun i hi=>by rw[List.getElem?_set_ne (by omega)])
   generalize X.set k (Value.int .i64 ((x12S d.toNat:Int)-1))=X4 at hg4 hXk hXl hXi
   clear hgl hgl3 hk4 hgx
   by_cases hz:x12S d.toNat=0
   ·have hd:decide ((x12S d.toNat:Int)-1<0)=true:=decide_eq_true (by omega)
    have hno:¬ (a+3≤p.length∧x12S (by' p a)≠0∧x12S (by' p (a+1))≠0∧x12S (by' p (a+2))≠0):=by
     rw[hdd.resolve_left id]at hz
     rintro⟨_,n0,n1,n2⟩
     have:k=0∨k=1∨k=2:=by omega
     rcases this with rfl|rfl|rfl
     ·exact n0 hz
     ·exact n1 hz
     ·exact n2 hz
    rw[if_neg hno]
    clear hno
    replace hz:x12S d.toNat≤0:=by omega
    refine xCDg (fun h=>?_) (fun h=>?_)
    ·(try simp only[ctlB])
     repeat' ((first|refine xSDg ?_|refine xODg rfl ?_);(try simp only[ctlB]))
     refine xRDg ?_
     exact⟨hx4,_,Nat.le_refl _,ho4⟩
    ·exfalso;simp at h
   ·have hd:decide ((x12S d.toNat:Int)-1<0)=false:=decide_eq_false (by omega)
    replace hz:1≤x12S d.toNat:=by omega
    refine xCDg (fun h=>?_) (fun h=>?_)
    ·exfalso;simp at h
    ·clear h hd
     (try simp only[ctlB])
     repeat' ((first|refine xSDg ?_|refine xODg rfl ?_);(try simp only[ctlB]))
     refine⟨⟨hx4,ho4,hgs4⟩,⟨X4,hXl,hg4,fun i hi=>?_⟩,exZDe (by first|rfl|(simp only[Int.natCast_add,Int.natCast_one];rfl)|simp only[Int.natCast_add,Int.natCast_one])⟩
     by_cases hik:i=k
     ·subst hik
      rw[hXk]
      rw[hdd.resolve_left id]at hz ⊢
      refine⟨?_,by unfold by';omega⟩
      unfold encN by'
      congr 2
      omega
     ·rw[hXi.resolve_left id i (by omega)]
      exact hli.resolve_left id i (by omega)
  ·rintro S H2 ⟨⟨hx2,ho2,hgs2⟩,⟨X,hX,hgl,hli⟩,z,rfl⟩
   obtain⟨e0,n0⟩:=hli 0 (by omega)
   obtain⟨e1,n1⟩:=hli 1 (by omega)
   obtain⟨e2,n2⟩:=hli 2 (by omega)
   rw[if_pos ⟨h3,n0,n1,n2⟩]
   have m0:x12S (by' p a)-1≤39:=by have:=x12S_le (by' p a);omega
   have m1:x12S (by' p (a+1))-1≤39:=by have:=x12S_le (by' p (a+1));omega
   have m2:x12S (by' p (a+2))-1≤39:=by have:=x12S_le (by' p (a+2));omega
   replace e0:X[0]?=some (encN (x12S (by' p a)-1)):=e0
   clear hli n0 n1 n2
   generalize x12S (by' p a)-1=q0 at e0 m0
   generalize x12S (by' p (a+1))-1=q1 at e1 m1
   generalize x12S (by' p (a+2))-1=q2 at e2 m2
   have hll:=Heap.get_lt hgl
   have hl2:=hx2.1
   (try simp only[ctlB])
   refine xHDg ?_
   refine wpH_call0 (triP (lo:=lo) (u:=q0) (v:=q1) (w:=q2) (a:=a+3) (m:=17) (by omega) (by omega) (by omega) (by omega) (by omega) (by omega)) ?_
   rintro r H3 ⟨hx3,rfl⟩
   have hl3:=hx3.1
   have ho3:=ho2.mono hx3
   clear hgl
   generalize triO q0 q1 q2 (a+3) 17=o
   (try simp only[ctlB])
   repeat' ((first|refine xSDg ?_|refine xODg rfl ?_);(try simp only[ctlB]))
   change wpS cp lo _ _ _ (H3++[some (optC o)])
   refine xHDg ?_
   refine optApp (o:=o) ho3 (by omega) (by simp) ?_
   intro v' H4 hap
   have hx4:=hap.ext (hx2.trans hx3) (Nat.le_refl _)
   obtain⟨b4,h1,h2,h3,h4⟩:=hap
   (try simp only[ctlB])
   repeat' ((first|refine xSDg ?_|refine xODg rfl ?_);(try simp only[ctlB]))
   refine xRDg ?_
   exact⟨hx4,b4,by omega,h3⟩
 ·have hd:decide ((p.length:Int)-(a:Nat)<3)=true:=decide_eq_true (by omega)
  rw[if_neg (fun h=>h3 h.1)]
  refine xCDg (fun h=>?_) (fun h=>?_)
  ·(try simp only[ctlB])
   repeat' ((first|refine xSDg ?_|refine xODg rfl ?_);(try simp only[ctlB]))
   refine xRDg ?_
   exact⟨hxb,_,Nat.le_refl _,ho0⟩
  ·exfalso;simp at h
end
end Go.Proofs.Ythnflhimcmdnbaa
namespace Go.Proofs.Ythnflhimcmdnbaa
open Go.Abs
set_option linter.unusedSimpArgs false
set_option linter.unusedVariables false
set_option maxRecDepth 20000
theorem or64{g c:Nat}(hc:c<64):64*g ||| c=64*g+c:=(Nat.two_pow_add_eq_or_of_lt (i:=6) hc g).symm
section
variable {lo:Nat}{H:Heap}{sb cb:Nat}{v:Value}{p:List UInt8}{cs:List Nat}
theorem ediR_len{p:List UInt8}{at':Nat}:∀(k n g:Nat),(ediR p at' k n g).length≤k+1
 | 0,n,g=>by simp[ediR]
 | k+1,n,g=>by
  have:=ediR_len (p:=p) (at':=at') k (n+1) (64*g+by' p (at'+n)%64)
  simp only[ediR]
  split<;>simp<;>omega
theorem ediR_stop{p:List UInt8}{a k g:Nat}(hk:k<4)(h:¬ (a+k<p.length∧32≤by' p (a+k)∧by' p (a+k)≤94)):ediR p a (4-k) k g=[bitO (64*g+31) (k+1) (a+k) 0]:=by
 obtain⟨j,hj⟩:∃j,4-k=j+1:=⟨3-k,by omega⟩
 rw[hj,ediR,if_neg h]
theorem ediR_go{p:List UInt8}{a k g:Nat}(hk:k<4)(h:a+k<p.length∧32≤by' p (a+k)∧by' p (a+k)≤94):ediR p a (4-k) k g=bitO (64*g+31) (k+1) (a+k) 0::ediR p a (4-(k+1)) (k+1) (64*g+by' p (a+k)%64):=by
 obtain⟨j,hj⟩:∃j,4-k=j+1:=⟨3-k,by omega⟩
 rw[hj,ediR,if_pos h,show 4-(k+1)=j by omega]
theorem ediP{a:Nat}(hs:SrH H sb cb v p cs)(ha:a≤p.length)(hlo:lo≤H.length):Ev cp lo 50 [ptr sb,encN a] H (fun r H'=>Ext H H'∧∃b,H.length≤b∧OwnG lo 7 H' r b (cat optC (ediS p a))):=by
 have hi:=hs.hi
 have hsl:=Heap.get_lt hs.g
 refine st50 ?_;unfold bd50 cf50;simp only[kB,ctlB]
 repeat' ((first|refine xSDg ?_|refine xODg rfl ?_);(try simp only[ctlB]))
 refine aw_for (fun k S H'=>Ext H H'∧∃w b g L,(H.length≤b∧OwnG lo 7 H' w b (cat optC L))∧(L++ediR p a (4-k) k g=ediS p a∧L.length=k∧g<2^(6*k)∧a+k≤p.length)∧∃(z:Nat→Value),S=[ptr sb,encN a,z 2,w,encN g,z 5,z 6,.int .i64 (k:Nat),z 8,z 9,z 10,z 11,z 12,z 13,z 14,z 15]) 4 ⟨Ext.refl _,_,H.length,0,[],⟨Nat.le_refl _,OwnG.nil hlo⟩,⟨rfl,rfl,by decide,ha⟩,exZDe rfl⟩ ?_ ?_ ?_
 ·rintro k S H' hk ⟨hx,w,b,g,L,h1,h2,z,rfl⟩
  exact⟨decide ((k:Int)<4),by simp(disch:=first|omega|(simp only[lenB];omega))only[evB,xBDc,Nat.reduceAdd,Nat.reduceBEq,Int.reduceToNat, *],by simp;omega⟩
 ·rintro k S H1 hk ⟨hx1,w,b,g,L,⟨hb,ho⟩,⟨hL,hLk,hg,hak⟩,z,rfl⟩
  have hs1:=hs.ext hx1
  have hgs:=hs1.g
  obtain⟨ad,c,ev⟩:=hs.pl.len
  rw[ev]at hgs
  have hl1:=hx1.1
  replace hLk:L.length≤k∧k≤L.length:=by omega
  replace hL:False∨_:=.inr hL
  have h18:(2:Nat)^(6*k)≤262144:=Nat.le_trans (Nat.pow_le_pow_right (by decide) (show 6*k≤18 by omega)) (by decide)
  have h6:=pow6 k
  replace hg:False∨_:=.inr hg
  have hg3:g<262144:=by have:=hg.resolve_left id;omega
  have hor:IntKind.i64.wrap ((BitVec.ofInt IntKind.i64.bits ((64*g:Nat):Int) ||| BitVec.ofInt IntKind.i64.bits ((31:Nat):Int)).toNat:Int)=((64*g+31:Nat):Int):=by rw[or_int (by omega) (by omega),or64 (by omega)]
  have hsh:IntKind.i64.wrap ((g:Int)*2^(min 6 IntKind.i64.bits))=((64*g:Nat):Int):=by
   have e:min 6 IntKind.i64.bits=6:=by decide
   rw[e,show(g:Int)*2^6=((64*g:Nat):Int) by omega]
   exact wrapN (by omega)
  simp only[Int.cast_ofNat_Int]at hor
  (try simp only[ctlB])
  repeat' ((first|refine xSDg ?_|refine xODg rfl ?_);(try simp only[ctlB]))
  refine xHDg ?_
  refine wpH_call0 (bitP (lo:=lo) (g:=64*g+31) (n:=k+1) (a:=a+k) (m:=0) (by omega) (by have:=hg.resolve_left id;omega) (by omega) (by omega) (by omega)) ?_
  rintro r H2 ⟨hx2,rfl⟩
  have hl2:=hx2.1
  have hstop:=fun h=>ediR_stop (p:=p) (a:=a) (g:=g) hk h
  have hgo:=fun h=>ediR_go (p:=p) (a:=a) (g:=g) hk h
  replace hstop:False∨_:=.inr hstop
  replace hgo:False∨_:=.inr hgo
  have ho2:=ho.mono hx2
  generalize bitO (64*g+31) (k+1) (a+k) 0=o at hstop hgo
  (try simp only[ctlB])
  repeat' ((first|refine xSDg ?_|refine xODg rfl ?_);(try simp only[ctlB]))
  change wpS cp lo _ _ _ (H2++[some (optC o)])
  refine xHDg ?_
  refine optApp (o:=o) ho2 (by omega) (by omega) ?_
  intro w3 H3 hap
  have hx3:=hap.ext (hx1.trans hx2) hb
  obtain⟨b3,h1,h2,h3,h4⟩:=hap
  have hs3:=hs.ext hx3
  have hgs3:=hs3.g
  rw[ev]at hgs3
  have hl3:=hx3.1
  (try simp only[ctlB])
  repeat' ((first|refine xSDg ?_|refine xODg rfl ?_);(try simp only[ctlB]))
  by_cases hap:a+k<p.length
  ·have hd:decide (((a:Nat):Int)+(k:Nat)≥(p.length:Nat))=false:=decide_eq_false (by omega)
   have hd':decide ((p.length:Nat)≤((a:Nat):Int)+(k:Nat))=false:=decide_eq_false (by omega)
   obtain⟨bb,oo,xs,hia,hgx,hxx⟩:=sl_at hs3.pl hap
   rw[ev]at hia
   have hby:=(p.getD (a+k) 0).toNat_lt
   simp only[Int.natCast_add]at hia
   refine xCDg (fun h=>?_) (fun h=>?_)
   ·exfalso;simp at h
   clear h hd hd'
   replace hgo:=fun h=>hgo.resolve_left id ⟨hap,h⟩
   replace hstop:=fun(h:¬ (32≤by' p (a+k)∧by' p (a+k)≤94))=>hstop.resolve_left id (fun h2=>h h2.2)
   unfold by' at hgo hstop
   replace hxx:xs[oo]?=some (.int .u8 ((p.getD (a+k) 0).toNat:Nat)):=hxx
   generalize (p.getD (a+k) 0).toNat=q at hxx hby hgo hstop
   replace hstop:False∨_:=.inr hstop
   replace hgo:False∨_:=.inr hgo
   (try simp only[ctlB])
   repeat' ((first|refine xSDg ?_|refine xODg rfl ?_);(try simp only[ctlB]))
   by_cases hq:32≤q∧q≤94
   ·obtain⟨hq1,hq2⟩:=hq
    have hd1:decide ((q:Int)<32)=false:=decide_eq_false (by omega)
    have hd2:decide ((q:Int)>94)=false:=decide_eq_false (by omega)
    have hd3:decide ((94:Int)<(q:Nat))=false:=decide_eq_false (by omega)
    have hand:IntKind.i64.wrap ((BitVec.ofInt IntKind.i64.bits ((q:Nat):Int) &&& BitVec.ofInt IntKind.i64.bits ((63:Nat):Int)).toNat:Int)=((q%64:Nat):Int):=by rw[and_int (by omega) (by omega),and63]
    have hor2:IntKind.i64.wrap ((BitVec.ofInt IntKind.i64.bits ((64*g:Nat):Int) ||| BitVec.ofInt IntKind.i64.bits ((q%64:Nat):Int)).toNat:Int)=((64*g+q%64:Nat):Int):=by rw[or_int (by omega) (by omega),or64 (by omega)]
    simp only[Int.cast_ofNat_Int]at hand
    refine xCDg (fun h=>?_) (fun h=>?_)
    ·exfalso;simp at h
    clear h hd1 hd2 hd3
    (try simp only[ctlB])
    repeat' ((first|refine xSDg ?_|refine xODg rfl ?_);(try simp only[ctlB]))
    refine⟨hx3,_,b3,_,L++[o],⟨by omega,h3⟩,⟨?_,by simp;omega,?_,by omega⟩,exZDe (by first|rfl|(simp only[Int.natCast_add,Int.natCast_one];rfl)|simp only[Int.natCast_add,Int.natCast_one])⟩
    ·rw[←hL.resolve_left id,hgo.resolve_left id ⟨hq1,hq2⟩,List.append_assoc];rfl
    ·have:=hg.resolve_left id
     rw[h6];omega
   ·have hd:(decide ((q:Int)<32) || decide ((q:Int)>94))=true:=by simp;omega
    have hfin:L++[o]=ediS p a:=by rw[←hL.resolve_left id,hstop.resolve_left id hq]
    rw[hfin]at h3
    clear hfin
    refine xCDg (fun h=>?_) (fun h=>?_)
    ·(try simp only[ctlB])
     repeat' ((first|refine xSDg ?_|refine xODg rfl ?_);(try simp only[ctlB]))
     refine xRDg ?_
     exact⟨hx3,b3,by omega,h3⟩
    ·exfalso;simp at h
  ·have hd:decide (((a:Nat):Int)+(k:Nat)≥(p.length:Nat))=true:=decide_eq_true (by omega)
   have hd':decide ((p.length:Nat)≤((a:Nat):Int)+(k:Nat))=true:=decide_eq_true (by omega)
   have hfin:L++[o]=ediS p a:=by rw[←hL.resolve_left id,hstop.resolve_left id (fun h=>hap h.1)]
   rw[hfin]at h3
   clear hfin
   refine xCDg (fun h=>?_) (fun h=>?_)
   ·(try simp only[ctlB])
    repeat' ((first|refine xSDg ?_|refine xODg rfl ?_);(try simp only[ctlB]))
    refine xRDg ?_
    exact⟨hx3,b3,by omega,h3⟩
   ·exfalso;simp at h
 ·rintro S H1 ⟨hx1,w,b,g,L,⟨hb,ho⟩,⟨hL,hLk,hg,hak⟩,z,rfl⟩
  have hl1:=hx1.1
  replace hLk:L.length≤4:=by omega
  replace hL:L++[bitO g 4 (a+4) 18]=ediS p a:=hL
  have hg3:g<16777216:=Nat.lt_of_lt_of_le hg (by decide)
  replace hL:False∨_:=.inr hL
  replace hg:False∨_:=.inr hg
  (try simp only[ctlB])
  refine xHDg ?_
  refine wpH_call0 (bitP (lo:=lo) (g:=g) (n:=4) (a:=a+4) (m:=18) (by omega) (hg.resolve_left id) (by omega) (by omega) (by omega)) ?_
  rintro r H2 ⟨hx2,rfl⟩
  have hl2:=hx2.1
  have ho2:=ho.mono hx2
  generalize bitO g 4 (a+4) 18=o at hL
  (try simp only[ctlB])
  repeat' ((first|refine xSDg ?_|refine xODg rfl ?_);(try simp only[ctlB]))
  change wpS cp lo _ _ _ (H2++[some (optC o)])
  refine xHDg ?_
  refine optApp (o:=o) ho2 (by omega) (by omega) ?_
  intro w3 H3 hap
  have hx3:=hap.ext (hx1.trans hx2) hb
  obtain⟨b3,h1,h2,h3,h4⟩:=hap
  rw[hL.resolve_left id]at h3
  (try simp only[ctlB])
  repeat' ((first|refine xSDg ?_|refine xODg rfl ?_);(try simp only[ctlB]))
  refine xRDg ?_
  exact⟨hx3,b3,by omega,h3⟩
end
end Go.Proofs.Ythnflhimcmdnbaa
namespace Go.Proofs.Ythnflhimcmdnbaa
open Go.Abs
set_option linter.unusedSimpArgs false
set_option linter.unusedVariables false
set_option maxRecDepth 20000
section
variable {lo:Nat}{H:Heap}{sb cb:Nat}{v:Value}{p:List UInt8}{cs:List Nat}
theorem totN{o:Opt}(hs:SrH H sb cb v p cs)(ho:o.sz≤10∧o.run≤10000∧o.nx≤p.length∧o.md<19):Ev cp lo 39 [ptr sb,optV o] H (fun r H'=>Ext H H'∧r=encN (totS cs o)):=totP hs ho.1 ho.2.1 ho.2.2.1 ho.2.2.2
theorem binP{a:Nat}(hs:SrH H sb cb v p cs)(ha:a<p.length)(hlo:lo≤H.length):Ev cp lo 57 [ptr sb,encN a] H (fun r H'=>Ext H H'∧r=optV (binS p cs a)):=by
 have hi:=hs.hi
 have hsl:=Heap.get_lt hs.g
 obtain⟨ad,c,ev⟩:=hs.pl.len
 refine st57 ?_;unfold bd57 cf57;simp only[kB,ctlB]
 repeat' ((first|refine xSDg ?_|refine xODg rfl ?_);(try simp only[ctlB]))
 have hxb:Ext H (H++[some (optC zeroO),some (optC zeroO)]):=Ext.app _ _
 have hg0:(H++[some (optC zeroO),some (optC zeroO)]).get H.length=some (optC zeroO):=get_app0
 have hg1:(H++[some (optC zeroO),some (optC zeroO)]).get (H.length+1)=some (optC zeroO):=by rw[get_appS];rfl
 have hlc:(H++[some (optC zeroO),some (optC zeroO)]).length≤H.length+2∧H.length+2≤(H++[some (optC zeroO),some (optC zeroO)]).length:=by simp
 change wpS cp lo _ _ _ (H++[some (optC zeroO),some (optC zeroO)])
 generalize H++[some (optC zeroO),some (optC zeroO)]=H0 at hxb hg0 hg1 hlc
 have hxb0:=hxb.1
 refine aw_for (fun k S H'=>((Ext H H'∧H'.get H.length=some (optC zeroO))∧H'.get (H.length+1)=some (optC (binB cs a k)))∧∃(z:Nat→Value),S=[ptr sb,encN a,ptr H.length,ptr (H.length+1),.int .i64 ((k+1:Nat):Nat),z 5,z 6,z 7,z 8,z 9,z 10,z 11]) (min (p.length-a) 1749) ⟨⟨⟨hxb,hg0⟩,hg1⟩,exZDe (by first|rfl|(simp only[Int.natCast_add,Int.natCast_one];rfl)|simp only[Int.natCast_add,Int.natCast_one])⟩ ?_ ?_ ?_
 ·rintro k S H' hk ⟨⟨⟨hx,h0⟩,h1⟩,z,rfl⟩
  have hgs:=(hs.ext hx).g
  rw[ev]at hgs
  refine⟨decide (k<min (p.length-a) 1749),?_,by simp⟩
  by_cases h:k+1≤p.length-a
  ·have hd:decide (((k+1:Nat):Int)≤(p.length:Nat)-(a:Nat))=true:=decide_eq_true (by omega)
   by_cases h2:k+1≤1749
   ·rw[decide_eq_true (by omega)]
    have hd2:decide (((k+1:Nat):Int)≤1749)=true:=decide_eq_true (by omega)
    simp(disch:=first|omega|(simp only[lenB];omega))only[evB,xBDc,Nat.reduceAdd,Nat.reduceBEq,Int.reduceToNat, *]
   ·rw[decide_eq_false (by omega)]
    have hd2:decide (((k+1:Nat):Int)≤1749)=false:=decide_eq_false (by omega)
    simp(disch:=first|omega|(simp only[lenB];omega))only[evB,xBDc,Nat.reduceAdd,Nat.reduceBEq,Int.reduceToNat, *]
  ·rw[decide_eq_false (by omega)]
   have hd:decide (((k+1:Nat):Int)≤(p.length:Nat)-(a:Nat))=false:=decide_eq_false (by omega)
   simp(disch:=first|omega|(simp only[lenB];omega))only[evB,xBDc,Nat.reduceAdd,Nat.reduceBEq,Int.reduceToNat, *]
 ·rintro k S H1 hk ⟨⟨⟨hx1,h0⟩,h1⟩,z,rfl⟩
  have hk1:k+1≤p.length-a:=by omega
  have hk2:k+1≤1749:=by omega
  clear hk
  have hl1:=hx1.1
  have hl11:=Heap.get_lt h1
  (try simp only[ctlB])
  repeat' ((first|refine xSDg ?_|refine xODg rfl ?_);(try simp only[ctlB]))
  change wpS cp lo _ _ _ (H1++[some (optC ⟨231,k+1,0,2,k+1,a+(k+1),0⟩)])
  have hxc:Ext H1 (H1++[some (optC ⟨231,k+1,0,2,k+1,a+(k+1),0⟩)]):=Ext.app _ _
  have hgc:(H1++[some (optC ⟨231,k+1,0,2,k+1,a+(k+1),0⟩)]).get H1.length=some [encN 231,encN (k+1),encN 0,encN 2,encN (k+1),encN (a+(k+1)),encN 0]:=get_app0
  have hlc2:(H1++[some (optC ⟨231,k+1,0,2,k+1,a+(k+1),0⟩)]).length≤H1.length+1∧H1.length+1≤(H1++[some (optC ⟨231,k+1,0,2,k+1,a+(k+1),0⟩)]).length:=by simp
  generalize H1++[some (optC ⟨231,k+1,0,2,k+1,a+(k+1),0⟩)]=H2 at hxc hgc hlc2
  refine aw_midX (fun S' H'=>(Ext H1 H'∧H'.get H1.length=some (optC (binO a (k+1))))∧∃(z:Nat→Value),S'=[ptr sb,encN a,ptr H.length,ptr (H.length+1),.int .i64 ((k+1:Nat):Nat),ptr H1.length,z 6,z 7,z 8,z 9,z 10,z 11]) ?_ ?_
  ·by_cases h250:k+1<250
   ·have hd:decide (((k+1:Nat):Int)≥250)=false:=decide_eq_false (by omega)
    have hb:binO a (k+1)=⟨231,k+1,0,2,k+1,a+(k+1),0⟩:=by unfold binO;rw[if_pos h250]
    rw[hb]
    clear hb
    refine xCDg (fun h=>?_) (fun h=>?_)
    ·exfalso;simp at h
    ·(try simp only[ctlB])
     exact⟨⟨hxc,hgc⟩,exZDe (by first|rfl|(simp only[Int.natCast_add,Int.natCast_one];rfl)|simp only[Int.natCast_add,Int.natCast_one])⟩
   ·have hd:decide (((k+1:Nat):Int)≥250)=true:=decide_eq_true (by omega)
    have hb:binO a (k+1)=⟨231,249+(k+1)/250,(k+1)%250,3,k+1,a+(k+1),0⟩:=by unfold binO;rw[if_neg h250]
    rw[hb]
    clear hb
    have eq1:((k+1:Nat):Int).tdiv 250=(((k+1)/250:Nat):Int):=by rw[Int.tdiv_eq_ediv_of_nonneg (by omega)];omega
    have eq2:((k+1:Nat):Int).tmod 250=(((k+1)%250:Nat):Int):=by rw[Int.tmod_eq_emod_of_nonneg (by omega)];omega
    have hq1:(k+1)/250≤10:=by omega
    have hq2:(k+1)%250<250:=by omega
    generalize k+1=n at *
    generalize n/250=q1 at eq1 hq1
    generalize n%250=q2 at eq2 hq2
    refine xCDg (fun h=>?_) (fun h=>?_)
    ·clear h hd
     (try simp only[ctlB])
     repeat' ((first|refine xSDg ?_|refine xODg rfl ?_);(try simp only[ctlB]))
     exact⟨⟨keepSet.ext (keepSet.ext hxc (Nat.le_refl _)) (Nat.le_refl _),get_set_self (by simp;omega)⟩,exZDe (by first|rfl|(simp only[Int.natCast_add,Int.natCast_one];rfl)|simp only[Int.natCast_add,Int.natCast_one])⟩
    ·exfalso;simp at h
  ·rintro S' H3 ⟨⟨hx3,hgo⟩,z,rfl⟩
   have hok:=binO_ok (N:=p.length) (at':=a) (n:=k+1) (by omega) (by omega) (by omega)
   have hx13:=hx1.trans hx3
   have hbest:=hx3.get h1
   have hz:=hx3.get h0
   have hl3:=hx3.1
   have hlo1:=Heap.get_lt hgo
   by_cases hk0:k=0
   ·have hB:binB cs a (k+1)=binO a (k+1):=by subst hk0;rfl
    rw[hB]
    clear hB
    generalize binO a (k+1)=o at hgo hok
    generalize binB cs a k=bo at h1 hbest
    have hd:decide (((k+1:Nat):Int)=1)=true:=decide_eq_true (by omega)
    replace hk0:k≤0:=by omega
    have hd2:decide (((k:Nat):Int)+1=1)=true:=decide_eq_true (by omega)
    (try simp only[ctlB])
    refine aw_hv_if (t:=false) (xEDg) (by simp(disch:=first|omega|(simp only[lenB];omega))only[evB,xBDc,Nat.reduceAdd,Nat.reduceBEq,Int.reduceToNat, *]) (by simp(disch:=first|omega|(simp only[lenB];omega))only[evB,xBDc,Nat.reduceAdd,Nat.reduceBEq,Int.reduceToNat, *];try rfl) (fun h=>by cases h) (fun _=>?_)
    (try simp only[ctlB])
    refine aw_hv_if (t:=false) (xEDg) (by simp(disch:=first|omega|(simp only[lenB];omega))only[evB,xBDc,Nat.reduceAdd,Nat.reduceBEq,Int.reduceToNat, *]) (by simp(disch:=first|omega|(simp only[lenB];omega))only[evB,xBDc,Nat.reduceAdd,Nat.reduceBEq,Int.reduceToNat, *];try rfl) (fun h=>by cases h) (fun _=>?_)
    (try simp only[ctlB])
    refine xCDg (fun h=>?_) (fun h=>?_)
    ·clear h hd hd2
     (try simp only[ctlB])
     repeat' ((first|refine xSDg ?_|refine xODg rfl ?_);(try simp only[ctlB]))
     refine⟨⟨⟨keepSet.ext hx13 (by omega),?_⟩,get_set_self (by omega)⟩,exZDe (by first|rfl|(simp only[Int.natCast_add,Int.natCast_one];rfl)|simp only[Int.natCast_add,Int.natCast_one])⟩
     rw[get_set_ne (by omega)];exact hz
    ·cases h
   ·have hB:binB cs a (k+1)=if totS cs (binO a (k+1))<totS cs (binB cs a k) then binO a (k+1) else binB cs a k:=by rw[binB,if_neg hk0]
    have hok2:=binB_ok (cs:=cs) (N:=p.length) (at':=a) (n:=k) (by omega) (by omega) (by omega)
    rw[hB]
    clear hB
    generalize binO a (k+1)=o at hgo hok
    generalize binB cs a k=bo at h1 hbest hok2
    have hd:decide (((k+1:Nat):Int)=1)=false:=decide_eq_false (by omega)
    have hd2:decide (((k:Nat):Int)+1=1)=false:=decide_eq_false (by omega)
    have hs3:=hs.ext hx13
    have o1:=hok.sz
    have o2:=hok.run
    have o3:=hok.nx
    have o4:=hok.md
    have b1:=hok2.sz
    have b2:=hok2.run
    have b3:=hok2.nx
    have b4:=hok2.md
    clear hok hok2
    (try simp only[ctlB])
    refine aw_hv_if (t:=true) (xEDg) (by simp(disch:=first|omega|(simp only[lenB];omega))only[evB,xBDc,Nat.reduceAdd,Nat.reduceBEq,Int.reduceToNat, *]) (by simp(disch:=first|omega|(simp only[lenB];omega))only[evB,xBDc,Nat.reduceAdd,Nat.reduceBEq,Int.reduceToNat, *];try rfl) (fun _=>⟨_,xEDg,?_⟩) (fun h=>by cases h)
    refine wpH_call1 (totN (o:=o) hs3 (by omega)) ?_
    rintro r H4 ⟨hx4,rfl⟩
    have hs4:=hs3.ext hx4
    (try simp only[ctlB])
    refine aw_hv_if (t:=true) (xEDg) (by simp(disch:=first|omega|(simp only[lenB];omega))only[evB,xBDc,Nat.reduceAdd,Nat.reduceBEq,Int.reduceToNat, *]) (by simp(disch:=first|omega|(simp only[lenB];omega))only[evB,xBDc,Nat.reduceAdd,Nat.reduceBEq,Int.reduceToNat, *];try rfl) (fun _=>⟨_,xEDg,?_⟩) (fun h=>by cases h)
    refine wpH_callC (totN (o:=bo) hs4 (by omega)) ?_
    rintro r H5 ⟨hx5,rfl⟩
    have hx35:=hx4.trans hx5
    have hgo5:=hx35.get hgo
    have hbest5:=hx35.get hbest
    have hz5:=hx35.get hz
    have hl5:=hx35.1
    clear hs3 hs4 hgo hbest hz
    generalize totS cs o=t1
    generalize totS cs bo=t2
    (try simp only[ctlB])
    by_cases ht:t1<t2
    ·have hdt:decide ((t1:Int)<(t2:Nat))=true:=decide_eq_true (by omega)
     rw[if_pos ht]
     refine xCDg (fun h=>?_) (fun h=>?_)
     ·clear h hdt
      (try simp only[ctlB])
      repeat' ((first|refine xSDg ?_|refine xODg rfl ?_);(try simp only[ctlB]))
      refine⟨⟨⟨keepSet.ext (hx13.trans hx35) (by omega),?_⟩,get_set_self (by omega)⟩,exZDe (by first|rfl|(simp only[Int.natCast_add,Int.natCast_one];rfl)|simp only[Int.natCast_add,Int.natCast_one])⟩
      rw[get_set_ne (by omega)];exact hz5
     ·exfalso;simp at h
    ·have hdt:decide ((t1:Int)<(t2:Nat))=false:=decide_eq_false (by omega)
     rw[if_neg ht]
     refine xCDg (fun h=>?_) (fun h=>?_)
     ·exfalso;simp at h
     ·clear h hdt
      (try simp only[ctlB])
      repeat' ((first|refine xSDg ?_|refine xODg rfl ?_);(try simp only[ctlB]))
      exact⟨⟨⟨hx13.trans hx35,hz5⟩,hbest5⟩,exZDe (by first|rfl|(simp only[Int.natCast_add,Int.natCast_one];rfl)|simp only[Int.natCast_add,Int.natCast_one])⟩
 ·rintro S H1 ⟨⟨⟨hx1,h0⟩,h1⟩,z,rfl⟩
  have hl1:=hx1.1
  have hll:=Heap.get_lt h0
  have hb:binS p cs a=binB cs a (min (p.length-a) 1749):=rfl
  rw[hb]
  generalize binB cs a (min (p.length-a) 1749)=o at h1
  generalize min (p.length-a) 1749=m
  (try simp only[ctlB])
  repeat' ((first|refine xSDg ?_|refine xODg rfl ?_);(try simp only[ctlB]))
  refine xRDg ?_
  exact⟨keepSet.ext hx1 (Nat.le_refl _),rfl⟩
end
end Go.Proofs.Ythnflhimcmdnbaa
namespace Go.Proofs.Ythnflhimcmdnbaa
open Go.Abs
set_option linter.unusedSimpArgs false
set_option linter.unusedVariables false
set_option maxRecDepth 20000
section
variable {lo:Nat}{H:Heap}{sb cb:Nat}{v:Value}{p:List UInt8}{cs:List Nat}
theorem drop_get{l:List UInt8}{j k:Nat}:(l.drop j).getD k 0=l.getD (j+k) 0:=by
 simp[List.getD_eq_getElem?_getD,List.getElem?_drop]
theorem sl_advA{H:Heap}{v:Value}{l:List UInt8}{n:Nat}(h:SlU H v l)(hn:n≤l.length):∃v',(∀G,lsem (.sl 1 true false false) [v,.int .i64 (n:Nat)] G=some v')∧SlU H v' (l.drop n):=by
 rcases h with ⟨rfl,rfl⟩|⟨b,o,sp,cap,xs,rfl,h2,h3,h4,h5,h6⟩
 ·have:n=0:=by simpa using hn
  subst this
  exact⟨.slice none 0 0,fun _=>rfl,.inl ⟨rfl,rfl⟩⟩
 ·have hd:(xs.drop (o+n)).take (l.length-n)=(l.drop n).map encU:=by
   rw[List.map_drop,←h3,←List.drop_drop,List.drop_take]
  rcases h5 with rfl|rfl
  ·refine⟨.slice (some ⟨b,if cap=n then o else o+n,none⟩) (l.length-n) (cap-n),?_,.inr ⟨b,_,none,cap-n,xs,by rw[List.length_drop],h2,?_,?_,.inl rfl,by rw[List.length_drop];omega⟩⟩
   ·intro G;rw[ls_slx,bd_lo (by omega) (by omega)]
    simp
   ·rw[List.length_drop]
    split
    ·have:l.length-n=0:=by omega
     rw[this]
     have:l.drop n=[]:=List.drop_eq_nil_of_le (by omega)
     rw[this];simp
    ·exact hd
   ·rw[List.length_drop];split<;>omega
  ·refine⟨.slice (some ⟨b,o+n,some 1⟩) (l.length-n) (cap-n),?_,.inr ⟨b,_,some 1,cap-n,xs,by rw[List.length_drop],h2,by rw[List.length_drop];exact hd,by rw[List.length_drop];omega,.inr rfl,by rw[List.length_drop];omega⟩⟩
   intro G;rw[ls_sli,bd_lo (by omega) (by omega)]
   simp
theorem lats_len(a:Nat):(lats a).length=4:=rfl
theorem pairO_len(p:List UInt8)(a:Nat):(pairO p a).length≤1:=by unfold pairO;split<;>simp
theorem ascP{a:Nat}(hs:SrH H sb cb v p cs)(ha:a≤p.length)(hlo:lo≤H.length):Ev cp lo 47 [ptr sb,encN a] H (fun r H'=>Ext H H'∧∃b,H.length≤b∧OwnG lo 7 H' r b (cat optC (ascS p cs a))):=by
 have hi:=hs.hi
 have hsl:=Heap.get_lt hs.g
 have hgs:=hs.g
 refine st47 ?_;unfold bd47 cf47;simp only[kB,ctlB]
 repeat' ((first|refine xSDg ?_|refine xODg rfl ?_);(try simp only[ctlB]))
 change wpS cp lo _ _ _ (H++[some (cat optC (lats a))])
 have hxb:Ext H (H++[some (cat optC (lats a))]):=Ext.app _ _
 have hg0:(H++[some (cat optC (lats a))]).get H.length=some (cat optC (lats a)):=get_app0
 have hlc:(H++[some (cat optC (lats a))]).length≤H.length+1∧H.length+1≤(H++[some (cat optC (lats a))]).length:=by simp
 generalize H++[some (cat optC (lats a))]=H0 at hxb hg0 hlc
 have ho0:OwnG lo 7 H0 (.slice (some ⟨H.length,0,none⟩) 4 4) H.length (cat optC (lats a)):=.inr ⟨hlo,4,by omega,rfl,rfl,hg0⟩
 have hs0:=hs.ext hxb
 have hgs0:=hs0.g
 obtain⟨v',ev0,hv0⟩:=sl_advA hs.pl ha
 obtain⟨av,cv,ew⟩:=hs.pl.len
 rw[ew]at ev0 hgs0
 have ev':=ev0 H0
 have hv':=hv0.mono hxb
 obtain⟨ad,c,ev⟩:=hv'.len
 rw[ev]at ev'
 have hdl:(p.drop a).length=p.length-a:=List.length_drop
 rw[hdl]at ev ev'
 rw[ev]at hv' hv0
 clear hg0 hgs ev hs0 ev0
 repeat' ((first|refine xSDg ?_|refine xODg rfl ?_);(try simp only[ctlB]))
 unfold ascS
 by_cases hap:a<p.length
 ·have hd:decide (((p.length-a:Nat):Int)=0)=false:=decide_eq_false (by omega)
  rw[if_pos hap]
  refine xCDg (fun h=>?_) (fun h=>?_)
  ·exfalso;simp at h
  clear h hd hgs0 ev'
  obtain⟨bb,oo,xs,hia,hgx,hxx⟩:=sl_at hv' (k:=0) (by omega)
  rw[drop_get,Nat.add_zero]at hxx
  have hby:=(p.getD a 0).toNat_lt
  have hP:pairO p a=if a+2≤p.length∧digB (p.getD a 0).toNat=true∧digB (p.getD (a+1) 0).toNat=true then[⟨130+(10*((p.getD a 0).toNat-48)+(p.getD (a+1) 0).toNat-48),0,0,1,0,a+2,0⟩] else[]:=rfl
  replace hP:False∨_:=.inr hP
  unfold by'
  replace hxx:xs[oo]?=some (.int .u8 ((p.getD a 0).toNat:Nat)):=hxx
  obtain⟨q,hqe⟩:∃q,False∨(p.getD a 0).toNat=q:=⟨_,.inr rfl⟩
  rw[hqe.resolve_left id]at hxx hby hP ⊢
  have hia:lsem (LOp.iAddr 1) [Value.slice ad (p.length-a) c,Value.int .i64 0] H0=_:=hia
  (try simp only[ctlB])
  repeat' ((first|refine xSDg ?_|refine xODg rfl ?_);(try simp only[ctlB]))
  have hbO:byteO q a=if q<128 then⟨q+1,0,0,1,0,a+1,0⟩ else⟨235,q-127,0,2,0,a+1,0⟩:=rfl
  have hM:∀{w H'},AppG lo 7 H0 H.length (cat optC (lats a++[byteO q a])) w H'→Ext H H'∧∃b,(H.length≤b∧b<H'.length)∧OwnG lo 7 H' w b (cat optC (lats a++[byteO q a])):=by
   intro w H' h
   have hx:=h.ext hxb (Nat.le_refl _)
   obtain⟨b4,h1,h2,h3,h4⟩:=h
   exact⟨hx,b4,by omega,h3⟩
  refine aw_midX (fun S' H'=>∃w,AppG lo 7 H0 H.length (cat optC (lats a++[byteO q a])) w H'∧∃(z:Nat→Value),S'=[ptr sb,encN a,z 2,w,.slice ad (p.length-a) c,.int .i64 (q:Nat),z 6,z 7,z 8,z 9,z 10,z 11,z 12,z 13,z 14,z 15,z 16,z 17,z 18,z 19,z 20,z 21,z 22,z 23,z 24]) ?_ ?_
  ·clear hM
   generalize byteO q a=ob at hbO
   by_cases h128:q<128
   ·have hd:decide ((q:Int)<128)=true:=decide_eq_true (by omega)
    rw[if_pos h128]at hbO
    subst hbO
    refine xCDg (fun h=>?_) (fun h=>?_)
    ·clear h hd
     (try simp only[ctlB])
     repeat' ((first|refine xSDg ?_|refine xODg rfl ?_);(try simp only[ctlB]))
     change wpS cp lo _ _ _ (H0++[some (optC ⟨q+1,0,0,1,0,a+1,0⟩)])
     refine xHDg ?_
     refine optApp (o:=⟨q+1,0,0,1,0,a+1,0⟩) ho0 (by omega) (by rw[lats_len];omega) ?_
     intro w3 H3 hap3
     (try simp only[ctlB])
     repeat' ((first|refine xSDg ?_|refine xODg rfl ?_);(try simp only[ctlB]))
     exact⟨_,hap3,exZDe (by first|rfl|(simp only[Int.natCast_add,Int.natCast_one];rfl)|simp only[Int.natCast_add,Int.natCast_one])⟩
    ·exfalso;simp at h
   ·have hd:decide ((q:Int)<128)=false:=decide_eq_false (by omega)
    have h127:(q:Int)-127=((q-127:Nat):Int):=by omega
    rw[if_neg h128]at hbO
    subst hbO
    refine xCDg (fun h=>?_) (fun h=>?_)
    ·exfalso;simp at h
    ·clear h hd
     (try simp only[ctlB])
     repeat' ((first|refine xSDg ?_|refine xODg rfl ?_);(try simp only[ctlB]))
     change wpS cp lo _ _ _ (H0++[some (optC ⟨235,q-127,0,2,0,a+1,0⟩)])
     refine xHDg ?_
     refine optApp (o:=⟨235,q-127,0,2,0,a+1,0⟩) ho0 (by omega) (by rw[lats_len];omega) ?_
     intro w3 H3 hap3
     (try simp only[ctlB])
     repeat' ((first|refine xSDg ?_|refine xODg rfl ?_);(try simp only[ctlB]))
     exact⟨_,hap3,exZDe (by first|rfl|(simp only[Int.natCast_add,Int.natCast_one];rfl)|simp only[Int.natCast_add,Int.natCast_one])⟩
  ·rintro S' H1 ⟨w,hap1,z,rfl⟩
   obtain⟨hx1,b1,⟨hb1,hb1l⟩,ho1⟩:=hM hap1
   clear hM hbO hap1 hia hgx hxx
   have hl1:=hx1.1
   obtain⟨bb,oo,xs,hia,hgx,hxx⟩:=sl_at (hv0.mono hx1) (k:=0) (by omega)
   rw[drop_get,Nat.add_zero]at hxx
   replace hxx:xs[oo]?=some (.int .u8 ((p.getD a 0).toNat:Nat)):=hxx
   rw[hqe.resolve_left id]at hxx
   replace hia:lsem (LOp.iAddr 1) [Value.slice ad (p.length-a) c,Value.int .i64 0] H1=_:=hia
   have hL1:(lats a++[byteO q a]).length=5:=rfl
   replace hL1:(lats a++[byteO q a]).length≤5:=by omega
   obtain⟨L1,hLe⟩:∃L1,False∨lats a++[byteO q a]=L1:=⟨_,.inr rfl⟩
   rw[hLe.resolve_left id]at ho1 hL1
   rw[aw_seq]
   refine aw_midX (fun S' H'=>Ext H H'∧∃w b,(H.length≤b∧OwnG lo 7 H' w b (cat optC (L1++pairO p a)))∧∃(z:Nat→Value),S'=[ptr sb,encN a,z 2,w,z 4,z 5,z 6,z 7,z 8,z 9,z 10,z 11,z 12,z 13,z 14,z 15,z 16,z 17,z 18,z 19,z 20,z 21,z 22,z 23,z 24]) ?_ ?_
   ·by_cases h2:a+2≤p.length
    ·have hd2:decide (((p.length-a:Nat):Int)≥2)=true:=decide_eq_true (by omega)
     have hd2':decide ((2:Int)≤((p.length-a:Nat):Nat))=true:=decide_eq_true (by omega)
     (try simp only[ctlB])
     refine aw_hv_if (t:=true) (xEDg) (by simp(disch:=first|omega|(simp only[lenB];omega))only[evB,xBDc,Nat.reduceAdd,Nat.reduceBEq,Int.reduceToNat, *]) (by simp(disch:=first|omega|(simp only[lenB];omega))only[evB,xBDc,Nat.reduceAdd,Nat.reduceBEq,Int.reduceToNat, *];try rfl) (fun _=>⟨_,xEDg,?_⟩) (fun h=>by cases h)
     refine wpH_call0 (digP (lo:=lo) (k:=q) hby (by omega)) ?_
     rintro r H2 ⟨rfl,hx2⟩
     have hx12:=hx1.trans hx2
     have ho2:=ho1.mono hx2
     have hl2:=hx2.1
     clear hia hgx hxx
     obtain⟨bb,oo,xs,hia,hgx,hxx⟩:=sl_at (hv0.mono hx12) (k:=1) (by omega)
     rw[drop_get]at hxx
     have hby2:=(p.getD (a+1) 0).toNat_lt
     replace hxx:xs[oo]?=some (.int .u8 ((p.getD (a+1) 0).toNat:Nat)):=hxx
     replace hia:lsem (LOp.iAddr 1) [Value.slice ad (p.length-a) c,Value.int .i64 1] H2=_:=hia
     obtain⟨q2,hq2e⟩:∃q2,False∨(p.getD (a+1) 0).toNat=q2:=⟨_,.inr rfl⟩
     rw[hq2e.resolve_left id]at hxx hby2 hP
     by_cases hdq:digB q=true
     ·rw[hdq]
      (try simp only[ctlB])
      refine aw_hv_if (t:=true) (xEDg) (by simp(disch:=first|omega|(simp only[lenB];omega))only[evB,xBDc,Nat.reduceAdd,Nat.reduceBEq,Int.reduceToNat, *]) (by simp(disch:=first|omega|(simp only[lenB];omega))only[evB,xBDc,Nat.reduceAdd,Nat.reduceBEq,Int.reduceToNat, *];try rfl) (fun _=>⟨_,xEDg,?_⟩) (fun h=>by cases h)
      refine wpH_call0 (digP (lo:=lo) (k:=q2) hby2 (by omega)) ?_
      rintro r H3 ⟨rfl,hx3⟩
      have hx13:=hx12.trans hx3
      have ho3:=ho2.mono hx3
      have hl3:=hx3.1
      have hgx3:=hx3.get hgx
      clear hia hgx hxx
      obtain⟨bb,oo,xs,hia,hgx,hxx⟩:=sl_at (hv0.mono hx13) (k:=1) (by omega)
      rw[drop_get]at hxx
      replace hxx:xs[oo]?=some (.int .u8 ((p.getD (a+1) 0).toNat:Nat)):=hxx
      rw[hq2e.resolve_left id]at hxx
      replace hia:lsem (LOp.iAddr 1) [Value.slice ad (p.length-a) c,Value.int .i64 1] H3=_:=hia
      by_cases hdq2:digB q2=true
      ·have hr1:=digB_iff.1 hdq
       have hr2:=digB_iff.1 hdq2
       replace hP:=hP.resolve_left id
       rw[if_pos ⟨h2,hdq,hdq2⟩]at hP
       rw[hP,hdq2]
       clear hP
       have e6:10*((q:Int)-48)+(q2:Int)-48=((10*(q-48)+q2-48:Nat):Int):=by omega
       have hm:10*(q-48)+q2-48≤99:=by omega
       generalize 10*(q-48)+q2-48=m at e6 hm
       clear hdq hdq2
       (try simp only[ctlB])
       refine xCDg (fun h=>?_) (fun h=>?_)
       ·clear h
        (try simp only[ctlB])
        repeat' ((first|refine xSDg ?_|refine xODg rfl ?_);(try simp only[ctlB]))
        change wpS cp lo _ _ _ (H3++[some (optC ⟨130+m,0,0,1,0,a+2,0⟩)])
        refine xHDg ?_
        refine optApp (o:=⟨130+m,0,0,1,0,a+2,0⟩) ho3 (by omega) (by omega) ?_
        intro w4 H4 hap4
        have hx4:=hap4.ext hx13 hb1
        obtain⟨b4,k1,k2,k3,k4⟩:=hap4
        (try simp only[ctlB])
        repeat' ((first|refine xSDg ?_|refine xODg rfl ?_);(try simp only[ctlB]))
        exact⟨hx4,_,b4,⟨by omega,k3⟩,exZDe (by first|rfl|(simp only[Int.natCast_add,Int.natCast_one];rfl)|simp only[Int.natCast_add,Int.natCast_one])⟩
       ·cases h
      ·replace hP:=hP.resolve_left id
       rw[if_neg (fun h=>hdq2 h.2.2)]at hP
       rw[hP,Bool.eq_false_iff.2 hdq2,List.append_nil]
       clear hP hdq hdq2
       (try simp only[ctlB])
       refine xCDg (fun h=>?_) (fun h=>?_)
       ·cases h
       ·(try simp only[ctlB])
        exact⟨hx13,_,b1,⟨hb1,ho3⟩,exZDe (by first|rfl|(simp only[Int.natCast_add,Int.natCast_one];rfl)|simp only[Int.natCast_add,Int.natCast_one])⟩
     ·replace hP:=hP.resolve_left id
      rw[if_neg (fun h=>hdq h.2.1)]at hP
      rw[hP,Bool.eq_false_iff.2 hdq,List.append_nil]
      clear hP hdq
      (try simp only[ctlB])
      refine aw_hv_if (t:=false) (xEDg) (by simp(disch:=first|omega|(simp only[lenB];omega))only[evB,xBDc,Nat.reduceAdd,Nat.reduceBEq,Int.reduceToNat, *]) (by simp(disch:=first|omega|(simp only[lenB];omega))only[evB,xBDc,Nat.reduceAdd,Nat.reduceBEq,Int.reduceToNat, *];try rfl) (fun h=>by cases h) (fun _=>?_)
      (try simp only[ctlB])
      refine xCDg (fun h=>?_) (fun h=>?_)
      ·cases h
      ·(try simp only[ctlB])
       exact⟨hx12,_,b1,⟨hb1,ho2⟩,exZDe (by first|rfl|(simp only[Int.natCast_add,Int.natCast_one];rfl)|simp only[Int.natCast_add,Int.natCast_one])⟩
    ·have hd2:decide (((p.length-a:Nat):Int)≥2)=false:=decide_eq_false (by omega)
     have hd2':decide ((2:Int)≤((p.length-a:Nat):Nat))=false:=decide_eq_false (by omega)
     replace hP:=hP.resolve_left id
     rw[if_neg (fun h=>h2 h.1)]at hP
     rw[hP,List.append_nil]
     clear hP
     (try simp only[ctlB])
     refine aw_hv_if (t:=false) (xEDg) (by simp(disch:=first|omega|(simp only[lenB];omega))only[evB,xBDc,Nat.reduceAdd,Nat.reduceBEq,Int.reduceToNat, *]) (by simp(disch:=first|omega|(simp only[lenB];omega))only[evB,xBDc,Nat.reduceAdd,Nat.reduceBEq,Int.reduceToNat, *];try rfl) (fun h=>by cases h) (fun _=>?_)
     (try simp only[ctlB])
     refine aw_hv_if (t:=false) (xEDg) (by simp(disch:=first|omega|(simp only[lenB];omega))only[evB,xBDc,Nat.reduceAdd,Nat.reduceBEq,Int.reduceToNat, *]) (by simp(disch:=first|omega|(simp only[lenB];omega))only[evB,xBDc,Nat.reduceAdd,Nat.reduceBEq,Int.reduceToNat, *];try rfl) (fun h=>by cases h) (fun _=>?_)
     (try simp only[ctlB])
     refine xCDg (fun h=>?_) (fun h=>?_)
     ·cases h
     ·(try simp only[ctlB])
      exact⟨hx1,_,b1,⟨hb1,ho1⟩,exZDe (by first|rfl|(simp only[Int.natCast_add,Int.natCast_one];rfl)|simp only[Int.natCast_add,Int.natCast_one])⟩
   ·rintro S' H2 ⟨hx2,w,b,⟨hb,ho⟩,z,rfl⟩
    have hpl:=pairO_len p a
    have hl2:=hx2.1
    rw[←List.append_assoc,←List.append_assoc,hLe.resolve_left id]
    generalize pairO p a=PL at ho hpl
    (try simp only[ctlB])
    refine xHDg ?_
    refine wpH_call0 (binP (lo:=lo) (hs.ext hx2) hap (by omega)) ?_
    rintro r H3 ⟨hx3,rfl⟩
    have ho3:=ho.mono hx3
    have hl3:=hx3.1
    generalize binS p cs a=o
    (try simp only[ctlB])
    repeat' ((first|refine xSDg ?_|refine xODg rfl ?_);(try simp only[ctlB]))
    change wpS cp lo _ _ _ (H3++[some (optC o)])
    refine xHDg ?_
    refine optApp (o:=o) ho3 (by omega) (by simp;omega) ?_
    intro w4 H4 hap4
    have hx4:=hap4.ext (hx2.trans hx3) hb
    obtain⟨b4,k1,k2,k3,k4⟩:=hap4
    (try simp only[ctlB])
    repeat' ((first|refine xSDg ?_|refine xODg rfl ?_);(try simp only[ctlB]))
    refine xRDg ?_
    exact⟨hx4,b4,by omega,k3⟩
 ·have hd:decide (((p.length-a:Nat):Int)=0)=true:=decide_eq_true (by omega)
  rw[if_neg hap,List.append_nil]
  refine xCDg (fun h=>?_) (fun h=>?_)
  ·(try simp only[ctlB])
   repeat' ((first|refine xSDg ?_|refine xODg rfl ?_);(try simp only[ctlB]))
   refine xRDg ?_
   exact⟨hxb,_,Nat.le_refl _,ho0⟩
  ·exfalso;simp at h
end
end Go.Proofs.Ythnflhimcmdnbaa
