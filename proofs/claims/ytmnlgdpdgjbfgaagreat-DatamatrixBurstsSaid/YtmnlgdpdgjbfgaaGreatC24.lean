/- Data Matrix: words that are spoilt, and what is read of them (plain law). Data Matrix: the laws' helpers sizeOf and numbers. Data Matrix: the law Corrects. The arguments of the laws of Data Matrix. -/
import Derived.Test.YtmnlgdpdgjbfgaaGreatC19
import Derived.Test.YtmnlgdpdgjbfgaaGreatC22
import Derived.Test.YtmnlgdpdgjbfgaaGreatC23
set_option linter.unusedVariables false
set_option linter.unusedSimpArgs false
set_option linter.unusedSectionVars false
namespace Go.Proofs.YtmnlgdpdgjbfgaaGreat
open Go.Abs Go.RS
set_option linter.unusedSimpArgs false
set_option linter.unusedVariables false
theorem sel_one{φ ψ:Nat→Bool}{k:Nat}(hk:ψ k=true)(hk0:φ k=false)(h:∀i,i≠k→ψ i=φ i):∀N,(sel ψ N).length=(sel φ N).length+if k<N then 1 else 0
 | 0=>rfl
 | N+1=>by
  have ih:=sel_one hk hk0 h N
  rw[sel_succ,sel_succ,List.length_append,List.length_append,ih]
  by_cases e:N=k
  ·subst e
   rw[hk,hk0];simp
  ·rw[h N e]
   have e3:k<N+1↔k<N:=by omega
   simp only[e3];omega
theorem sel_mono{φ ψ:Nat→Bool}:∀{N:Nat},(∀i,i<N→φ i=true→ψ i=true)→(sel φ N).length≤(sel ψ N).length
 | 0,_=>Nat.le_refl _
 | N+1,h=>by
  have ih:=sel_mono (N:=N) fun i hi=>h i (by omega)
  rw[sel_succ,sel_succ,List.length_append,List.length_append]
  by_cases e:φ N=true
  ·rw[if_pos e,if_pos (h N (by omega) e)]
   exact Nat.add_le_add_right ih _
  ·rw[if_neg e]
   exact Nat.le_trans ih (Nat.le_add_right _ _)
theorem sel_span{a h:Nat}:∀N,(sel (fun k=>decide (a≤k∧k<a+h)) N).length=min N (a+h)-min N a
 | 0=>by simp[sel]
 | N+1=>by
  rw[sel_succ,List.length_append,sel_span N]
  by_cases e:a≤N∧N<a+h
  ·rw[if_pos (decide_eq_true e)];simp;omega
  ·rw[if_neg (fun hh=>e (of_decide_eq_true hh))];simp;omega
theorem getD_setE{α:Type}{l:List α}{i j:Nat}{v d:α}(h:i<l.length):(l.set i v).getD j d=if j=i then v else l.getD j d:=by
 rw[List.getD_eq_getElem?_getD,List.getElem?_set]
 by_cases e:j=i
 ·rw[if_pos e.symm,if_pos h,if_pos e];rfl
 ·rw[if_neg (Ne.symm e),if_neg e,←List.getD_eq_getElem?_getD]
theorem getD_rep{α:Type}{n i:Nat}{a:α}:(List.replicate n a).getD i a=a:=by
 rw[List.getD_eq_getElem?_getD,List.getElem?_replicate]
 split<;>rfl
def dfX(n:Nat)(wl out:List Int)(x:Nat):Nat:=(sel (fun k=>decide (out.getD (x+k*n) 0≠wl.getD (x+k*n) 0)) (cnt wl.length n x)).length
def dfA(wl out:List Int):Nat:=(sel (fun j=>decide (out.getD j 0≠wl.getD j 0)) wl.length).length
theorem mod_div(j n:Nat):j%n+j/n*n=j:=by rw[Nat.mul_comm];have:=Nat.div_add_mod j n;omega
theorem df_sum{n:Nat}(hn:0<n)(wl out:List Int):sumT (dfX n wl out) n=dfA wl out:=by
 refine(sel_blocks hn (fun x k=>decide (out.getD (x+k*n) 0≠wl.getD (x+k*n) 0)) wl.length).trans ?_
 unfold dfA
 exact congrArg List.length (sel_congr fun j _=>by simp only[mod_div])
theorem dfX_set{n:Nat}(hn:0<n){wl out:List Int}{j:Nat}{v:Int}(hj:j<wl.length)(hl:out.length=wl.length)(h0:out.getD j 0=wl.getD j 0)(hv:v≠wl.getD j 0){x:Nat}(hx:x<n):dfX n wl (out.set j v) x=if x=j%n then dfX n wl out x+1 else dfX n wl out x:=by
 have hg:∀i,(out.set j v).getD i 0=if i=j then v else out.getD i 0:=fun i=>getD_setE (by omega)
 unfold dfX
 by_cases e:x=j%n
 ·subst e
  rw[if_pos rfl,sel_one (k:=j/n) (φ:=fun k=>decide (out.getD (j%n+k*n) 0≠wl.getD (j%n+k*n) 0)) (ψ:=fun k=>decide ((out.set j v).getD (j%n+k*n) 0≠wl.getD (j%n+k*n) 0)) ?_ ?_ ?_,if_pos (div_lt_cnt hn hj)]
  ·simp only[mod_div,hg,if_pos rfl]
   exact decide_eq_true hv
  ·simp only[mod_div]
   exact decide_eq_false (fun h=>h h0)
  ·intro i hi
   simp only[hg]
   rw[if_neg]
   intro h
   have:=(ilv_blk (n:=n) (W:=fun _=>[]) (k:=i) hx).2
   rw[h]at this;exact hi this.symm
 ·rw[if_neg e]
  exact congrArg List.length (sel_congr fun i _=>by
   simp only[hg]
   rw[if_neg]
   intro h
   have:=(ilv_blk (n:=n) (W:=fun _=>[]) (k:=i) hx).1
   rw[h]at this;exact e this.symm)
theorem dfX_same{n:Nat}{wl:List Int}{x:Nat}:dfX n wl wl x=0:=by
 unfold dfX sel
 rw[List.filter_eq_nil_iff.2 (fun i _=>by simp)];rfl
theorem dfA_same{wl:List Int}:dfA wl wl=0:=by
 unfold dfA sel
 rw[List.filter_eq_nil_iff.2 (fun i _=>by simp)];rfl
structure SpI (n ck:Nat)(wl out us:List Int):Prop where
 lo:out.length=wl.length
 lu:us.length=n
 by':∀i,i<wl.length→0≤out.getD i 0∧out.getD i 0≤255
 us':∀x,x<n→us.getD x 0=((dfX n wl out x:Nat):Int)∧2*dfX n wl out x≤ck
theorem SpI.start{n ck:Nat}{wl:List Int}(hb:∀i,i<wl.length→0≤wl.getD i 0∧wl.getD i 0≤255):SpI n ck wl wl (List.replicate n 0):=
 ⟨rfl,by simp,hb,fun x hx=>by rw[getD_rep,dfX_same];exact⟨rfl,Nat.zero_le _⟩⟩
theorem SpI.step{n ck:Nat}(hn:0<n){wl out us:List Int}{j:Nat}{v:Int}(h:SpI n ck wl out us)(hj:j<wl.length)(h0:out.getD j 0=wl.getD j 0)(hv:v≠wl.getD j 0)(hb:0≤v∧v≤255)(hc:2*us.getD (j%n) 0+2≤(ck:Int)) :
  SpI n ck wl (out.set j v) (us.set (j%n) (us.getD (j%n) 0+1))∧dfA wl (out.set j v)=dfA wl out+1:=by
 obtain⟨h1,h2,h3,h4⟩:=h
 have hm:=Nat.mod_lt j hn
 have hd:=fun x (hx:x<n)=>dfX_set hn hj h1 h0 hv hx
 refine⟨⟨by simpa using h1,by simpa using h2,fun i hi=>?_,fun x hx=>?_⟩,?_⟩
 ·rw[getD_setE (by omega)]
  split
  ·exact hb
  ·exact h3 i hi
 ·obtain⟨u1,u2⟩:=h4 x hx
  rw[getD_setE (by omega),hd x hx]
  by_cases e:x=j%n
  ·subst e
   rw[if_pos rfl,if_pos rfl];omega
  ·rw[if_neg e,if_neg e];exact⟨u1,u2⟩
 ·rw[←df_sum hn,←df_sum hn,sumT_add1 hd,if_pos hm]
theorem eB_ne{m:Int}{w:El F1}(h:0≤m∧m≤255):eB 301 m.toNat=w↔m=((w.val:Nat):Int):=by
 have hv:(eB 301 m.toNat).val=m.toNat%256:=rfl
 constructor
 ·rintro rfl
  rw[hv];omega
 ·intro e
  exact El.ext (by rw[hv];omega)
theorem wrongs_df{z:Dz}(hn:0<z.n){V:Nat→List (El F1)}{N:Nat}{out:List Int}(hlo:out.length=N)(hb:∀i,i<N→0≤out.getD i 0∧out.getD i 0≤255){x:Nat}(hx:x<z.n):wrongs (wdE z out x) (V x)=dfX z.n (ilv z.n V N) out x:=by
 unfold wrongs dfX
 rw[wdE_len,hlo,ilv_len]
 refine congrArg List.length (sel_congr fun k hk=>?_)
 have hk:=(lt_cnt hx).1 hk
 have hm:=ilv_blk (n:=z.n) (W:=V) (k:=k) hx
 have h1:=co_wdE (z:=z) (wl:=out) hn (j:=x+k*z.n) (by omega)
 have h2:=ilv_at (n:=z.n) (W:=V) hk
 rw[hm.1,hm.2]at h1 h2
 rw[h1,h2]
 exact decide_eq_decide.2 (not_congr (eB_ne (hb _ hk)))
theorem spoil_fix{z:Dz}(hz:z.Ok){e:List (El F1)}{V:Nat→List (El F1)}(he:e.length=z.d)(hV:∀x,x<z.n→IsEnc g1 z.ck 1 (strd e 0 z.n x) (V x)){out:List Int}(hlo:out.length=z.d+z.c)(hb:∀i,i<z.d+z.c→0≤out.getD i 0∧out.getD i 0≤255)(hd:∀x,x<z.n→2*dfX z.n (ilv z.n V (z.d+z.c)) out x≤z.ck) :
  (∀x,x<z.n→OkX z out x)∧sumT (nch z out) z.n=dfA (ilv z.n V (z.d+z.c)) out∧ilv z.n (fxX z out) z.d=valI e:=by
 have hn:0<z.n:=hz.n1
 have key:∀x,x<z.n→OkX z out x∧fxX z out x=V x:=fun x hx=>by
  have ha:=cnt_all hz hx
  have hl:=(hV x hx).len
  rw[strd_len,he]at hl
  exact corrX (by rw[hlo];omega) (by rw[hlo];omega) (isEnc_cw (hV x hx)) (by rw[wrongs_df hn hlo hb hx];exact hd x hx)
 refine⟨fun x hx=>(key x hx).1,?_,?_⟩
 ·rw[←df_sum hn]
  exact sumT_congr fun x hx=>by rw[nch_wrongs,(key x hx).2,wrongs_df hn hlo hb hx]
 ·rw[ilv_congr hn fun x hx=>(key x hx).2]
  exact ilv_data hz he hV
theorem sumT_bound{F:Nat→Nat}{B:Nat}:∀{n:Nat},(∀x,x<n→2*F x≤B)→2*sumT F n≤n*B
 | 0,_=>by simp[sumT]
 | n+1,h=>by
  have h1:=sumT_bound (F:=F) (B:=B) (n:=n) fun x hx=>h x (by omega)
  have h2:=h n (by omega)
  rw[sumT,Nat.add_mul,Nat.one_mul];omega
theorem det_fix{z:Dz}(hz:z.Ok){wl:List Int}(hl:wl.length=z.d+z.c)(hin:inF 256 wl=true)(hok:∀x,x<z.n→OkX z wl x) :
  ∃e:List (El F1),valI e=ilv z.n (fxX z wl) z.d∧e.length=z.d∧dfA (ilv z.n (z.W e) (z.d+z.c)) wl=sumT (nch z wl) z.n∧2*sumT (nch z wl) z.n≤z.c:=by
 have hn:0<z.n:=hz.n1
 refine⟨(List.range z.d).map fun j=>co (fxX z wl (j%z.n)) (j/z.n),?_,by simp,?_,?_⟩
 ·unfold valI ilv
  rw[List.map_map];rfl
 ·have hE:∀x,x<z.n→IsEnc g1 z.ck 1 (strd ((List.range z.d).map fun j=>co (fxX z wl (j%z.n)) (j/z.n)) 0 z.n x) (fxX z wl x):=fun x hx=>by
   have ha:=cnt_all hz hx
   refine⟨by rw[fxX_len,strd_len,List.length_map,List.length_range,hl];omega,fun k hk=>?_,fun k hk=>(hok x hx).cw k hk⟩
   rw[strd_len,List.length_map,List.length_range]at hk
   rw[co_strd hx,List.length_map,List.length_range,if_pos hk]
   have hj:=(lt_cnt hx).1 hk
   have hm:=ilv_blk (n:=z.n) (W:=fun _=>[]) (k:=k) hx
   show _=(List.map (fun j=>co (fxX z wl (j%z.n)) (j/z.n)) (List.range z.d)).getD (x+k*z.n) 0
   rw[List.getD_eq_getElem?_getD,List.getElem?_map,List.getElem?_range hj]
   simp only[Option.map_some,Option.getD_some,hm.1,hm.2]
  have hW:∀x,x<z.n→z.W ((List.range z.d).map fun j=>co (fxX z wl (j%z.n)) (j/z.n)) x=fxX z wl x:=fun x hx=>
   (encW_of (cdok1 hz.k1 (by have:=hz.k2;omega)) (hE x hx)).symm
  rw[ilv_congr hn hW,←df_sum hn]
  exact sumT_congr fun x hx=>by
   rw[nch_wrongs,wrongs_df hn hl ?_ hx]
   exact fun i hi=>all_inF (by omega) hin
 ·rw[hz.cn]
  exact sumT_bound fun x hx=>by rw[nch_wrongs];exact detX (hok x hx)
def burL(wl:List Int)(f y j:Nat):List Int:=(List.range wl.length).map fun i=>(((if f≤i∧i<f+j then(wl.getD i 0).toNat ^^^ y else(wl.getD i 0).toNat):Nat):Int)
theorem burL_len(wl:List Int)(f y j:Nat):(burL wl f y j).length=wl.length:=by simp[burL]
theorem burL_zero{wl:List Int}{f y:Nat}(h:∀i,i<wl.length→0≤wl.getD i 0):burL wl f y 0=wl:=by
 unfold burL
 refine List.ext_getElem (by simp) fun i h1 h2=>?_
 have:=h i h2
 rw[List.getElem_map,List.getElem_range,if_neg (by omega),Int.toNat_of_nonneg this,List.getD_eq_getElem?_getD,List.getElem?_eq_getElem h2];rfl
theorem rangeZ{n i:Nat}{F:Nat→Int}(h:i<n):((List.range n).map F).getD i 0=F i:=by
 rw[List.getD_eq_getElem?_getD,List.getElem?_map,List.getElem?_range h];rfl
theorem burL_at{wl:List Int}{f y j i:Nat}(h:i<wl.length):(burL wl f y j).getD i 0=(((if f≤i∧i<f+j then(wl.getD i 0).toNat ^^^ y else(wl.getD i 0).toNat):Nat):Int):=rangeZ h
theorem burL_set{wl:List Int}{f y j:Nat}(h:f+j<wl.length):(burL wl f y j).set (f+j) ((((wl.getD (f+j) 0).toNat ^^^ y:Nat)):Int)=burL wl f y (j+1):=by
 have:=range_set (n:=wl.length) (k:=f+j) (F:=fun i=>(((if f≤i∧i<f+j then(wl.getD i 0).toNat ^^^ y else(wl.getD i 0).toNat):Nat):Int)) (G:=fun i=>(((if f≤i∧i<f+(j+1) then(wl.getD i 0).toNat ^^^ y else(wl.getD i 0).toNat):Nat):Int)) h (fun i hi hne=>by
  by_cases e:f≤i∧i<f+j
  ·simp only[if_pos e,if_pos (show f≤i∧i<f+(j+1) by omega)]
  ·simp only[if_neg e,if_neg (show ¬ (f≤i∧i<f+(j+1)) by omega)])
 simp only[if_pos (show f≤f+j∧f+j<f+(j+1) by omega)]at this
 exact this
theorem burst{n h f:Nat}(hn:0<n){wl out:List Int}(hu:∀j,j<wl.length→¬ (f≤j∧j<f+n*h)→out.getD j 0=wl.getD j 0){x:Nat}(hx:x<n):dfX n wl out x≤h:=by
 unfold dfX
 have h1:=sel_mono (N:=cnt wl.length n x) (φ:=fun k=>decide (out.getD (x+k*n) 0≠wl.getD (x+k*n) 0)) (ψ:=fun k=>decide (cnt f n x≤k∧k<cnt f n x+h)) fun k hk hp=>by
  have hk:=(lt_cnt hx).1 hk
  have h2:f≤x+k*n∧x+k*n<f+n*h:=Decidable.byContradiction fun hno=>of_decide_eq_true hp (hu _ hk hno)
  refine decide_eq_true ⟨Nat.le_of_not_lt fun hc=>?_,?_⟩
  ·have:=(lt_cnt hx).1 hc;omega
  ·rw[←cnt_add hx];exact(lt_cnt hx).2 h2.2
 rw[sel_span]at h1
 omega
end Go.Proofs.YtmnlgdpdgjbfgaaGreat
namespace Go.Proofs.YtmnlgdpdgjbfgaaGreat
open Go.Abs Go.RS
set_option linter.unusedSimpArgs false
set_option linter.unusedVariables false
set_option maxRecDepth 20000
theorem own_appI{cp:FuncId→Option CF}{lo base:Nat}{z:List Value}{H:Heap}{v w:Value}{b:Nat}{A l:List Int}{R:Value→Heap→Prop}(ho:Own base 1 H v b (intL A))(hlo:lo≤base)(hbl:base≤H.length)(hl:SlI H w l)(hne:0<l.length)(hbig:A.length+l.length≤4294967296)
  (k:∀v' H',Own base 1 H' v' H.length (intL (A++l))→Keep b H H'→H'.length=H.length+1→R v' H'):wpH cp lo (.app 1 z) [v,w] H R:=by
 rcases hl with ⟨rfl,rfl⟩|⟨b',o,sp,cap,xs,rfl,h2,h3,h4,h5⟩
 ·simp at hne
 ·refine wpH_app (b:=b) (cells:=intL A) (c:=intL l) (ho.lower hlo) (by omega) (by omega) hne (by rw[intL_len];omega) h2 (by omega) (by rw[Nat.mul_one,h3];rfl) (intL_one' l) ?_
  intro v' H' a1 a2 a3
  refine k v' H' ⟨hbl,?_⟩ a2 a3
  rw[intL_app];exact a1.2
theorem own_realI{lo:Nat}{H:Heap}{v:Value}{b:Nat}{l:List Int}(h:Own lo 1 H v b (intL l))(hl:0<l.length):v=.slice (some ⟨b,0,some 1⟩) l.length l.length∧H.get b=some (intL l):=by
 obtain⟨_,⟨_,h⟩|⟨n,_,h1,rfl,h2⟩⟩:=h
 ·have:=congrArg List.length h;rw[intL_len]at this;simp only[List.length_nil]at this;omega
 ·rw[intL_len,Nat.mul_one]at h1
  subst h1;exact⟨rfl,h2⟩
section
variable {lo:Nat}{H:Heap}
theorem sizeOfP{k:Nat}(hk:k≤255)(hlo:lo≤H.length):Ev cp lo 23 [.int .u8 (k:Nat)] H (fun r H'=>Ext H H'∧r=(dz (k%30)).sz.val):=by
 have q1:((k:Nat):Int).tmod 30=((k%30:Nat):Int):=(Int.ofNat_tmod k 30).symm
 have hi:k%30<30:=Nat.mod_lt _ (by decide)
 have hrow:=szCells_at hi
 have hlen:=szCells_len
 have hv:(dz (k%30)).sz.val=(szAt (k%30)).val:=rfl
 rw[hv]
 clear hv
 unfold Sz.val
 simp only[Sz.cells]at hrow
 generalize szAt (k%30)=s at *
 generalize k%30=i at *
 refine st23 ?_;unfold bd23 cf23;simp only[kB,ctlB]
 repeat' ((first|refine xSYe ?_|refine xOYe rfl ?_);(try simp only[ctlB]))
 generalize hG:H++_=G at *
 obtain⟨g0,hxG⟩:=box_facts hG
 clear hG
 have hlG:=hxG.1
 refine xHYe ?_
 refine wpH_call0 (sizesV (by omega)) ?_
 rintro v H1 ⟨j,hj,rfl,hg,hx1⟩
 have g0:=hx1.get g0
 have hl0:=Heap.get_lt g0
 have hx1:=hxG.trans hx1
 have hj2:=Heap.get_lt hg
 (try simp only[ctlB])
 repeat' ((first|refine xSYe ?_|refine xOYe rfl ?_);(try simp only[ctlB]))
 refine xCYe (fun h=>?_) (fun h=>?_)
 ·simp at h
 clear h
 (try simp only[ctlB])
 repeat' ((first|refine xSYe ?_|refine xOYe rfl ?_);(try simp only[ctlB]))
 refine xRYe ?_
 exact⟨hx1.set (by omega),rfl⟩
theorem numsP{vp:Value}{p:List Int}{N:Nat}(hp:SlY H vp p)(hpr:∀x ∈ p,0≤x∧x≤255)(hpl:p.length≤9223372036854775807)(hN:N≤3000)(hlo:lo≤H.length):Ev cp lo 24 [vp,.int .i64 (N:Nat)] H (fun r H'=>Ext H H'∧∃d:List (El F1),d.length=N∧SlI H' r (valI d)):=by
 have hp0:=hp
 obtain⟨ap,cq,rfl⟩:=hp.len
 refine st24 ?_;unfold bd24 cf24;simp only[kB,ctlB]
 repeat' ((first|refine xSYe ?_|refine xOYe rfl ?_);(try simp only[ctlB]))
 refine aw_for (fun k S H'=>Ext H H'∧∃(d:List (El F1)) (vo:Value) (bo:Nat),d.length=k∧Own H.length 1 H' vo bo (intL (valI d))∧∃(z:Nat→Value),S=[.slice ap p.length cq,.int .i64 (N:Nat),z 2,vo,.int .i64 (k:Nat),z 5,z 6,z 7,z 8]) N ?_ ?_ ?_ ?_
 ·exact⟨Ext.refl _,[],_,_,rfl,Own.nil (Nat.le_refl _),exZGc rfl⟩
 ·rintro k S H' hk ⟨hx,d,vo,bo,-,-,z,rfl⟩
  exact⟨_,xEYe,by simp⟩
 ·rintro k S H2 hk ⟨hx2,d,vo,bo,hd,oo,z,rfl⟩
  have hl2:=hx2.1
  have hdl:(valI d).length≤4000:=by rw[valI_len];omega
  have fin:∀(n:Nat) (H3:Heap) (S':List Value),n<256→∀(v':Value) (b':Nat),Own H.length 1 H3 v' b' (intL (valI d++[((n:Nat):Int)]))→∃(d':List (El F1)) (b':Nat),d'.length=k+1∧Own H.length 1 H3 v' b' (intL (valI d')):=by
   intro n H3 S' hn v' b' ho
   refine⟨d++[eB 301 n],b',by simp[hd],?_⟩
   have:valI (d++[eB 301 n])=valI d++[((n:Nat):Int)]:=by
    simp[valI,eB,Nat.mod_eq_of_lt hn]
   rw[this];exact ho
  clear hd
  generalize valI d=vd at *
  (try simp only[ctlB])
  repeat' ((first|refine xSYe ?_|refine xOYe rfl ?_);(try simp only[ctlB]))
  by_cases h0:0<p.length
  ·obtain⟨xb,xo,xsp,xc,xs,e1,g1,f1,_⟩:=(hp0.mono hx2).els 0 h0
   cases e1
   have hm:k%p.length<p.length:=Nat.mod_lt _ h0
   have k1:=f1 _ hm
   have hr:=hpr (p.getD (k%p.length) 0) (by rw[List.getD_eq_getElem?_getD,List.getElem?_eq_getElem hm];exact List.getElem_mem hm)
   obtain⟨y,hy⟩:∃y:Nat,p.getD (k%p.length) 0=(y:Int):=⟨_,(Int.toNat_of_nonneg hr.1).symm⟩
   rw[hy]at k1 hr
   have q1:=(Int.ofNat_tmod k p.length).symm
   have q2:=(Int.ofNat_tdiv k p.length).symm
   have q3:(((k/p.length:Nat):Int)).tmod 256=((k/p.length%256:Nat):Int):=(Int.ofNat_tmod (k/p.length) 256).symm
   have hdv:k/p.length≤k:=Nat.div_le_self _ _
   have hy2:y<2^8:=by omega
   have hxr0:=xor_int (a:=y) (b:=k/p.length%256) (by omega) (by omega)
   have hxb:y ^^^ (k/p.length%256)<256:=Nat.xor_lt_two_pow (n:=8) hy2 (by omega)
   have hxg:=Heap.get_lt g1
   obtain⟨n,hn,hxr⟩:∃n:Nat,n<256∧IntKind.i64.wrap ((BitVec.ofInt IntKind.i64.bits (y:Int) ^^^ BitVec.ofInt IntKind.i64.bits ((k/p.length%256:Nat):Int)).toNat:Int)=((n:Nat):Int):=⟨_,hxb,hxr0⟩
   clear f1 hy hxb hxr0
   generalize k/p.length%256=q at *
   generalize k/p.length=qq at *
   generalize k%p.length=mm at *
   refine xCYe (fun h=>?_) (fun h=>?_)
   case refine_2=>exfalso;simp only[decide_eq_false_iff_not]at h;omega
   clear h
   (try simp only[ctlB])
   repeat' ((first|refine xSYe ?_|refine xOYe rfl ?_);(try simp only[ctlB]))
   refine xHYe ?_
   refine wpH_app (b:=bo) (cells:=intL vd) (c:=intL [((n:Nat):Int)]) ((oo.mono (Ext.app _ _)).lower (by omega)) (by simp;omega) (by omega) (by omega) (by rw[intL_len];omega) get_app0 (by simp) rfl rfl ?_
   rw[←intL_app]
   intro vo' H3 oo' hk3 hl3
   have hx3:=hk3.ext (hx2.trans (Ext.app H2 _)) oo.1
   obtain⟨d',b',hd',oo'⟩:=fin n H3 [] (by omega) vo' _ ⟨by simp;omega,oo'.2⟩
   (try simp only[ctlB])
   repeat' ((first|refine xSYe ?_|refine xOYe rfl ?_);(try simp only[ctlB]))
   exact⟨hx3,d',vo',b',hd',oo',exZGc (by first|rfl|(simp only[Int.natCast_add,Int.natCast_one];rfl)|simp only[Int.natCast_add,Int.natCast_one])⟩
  ·refine xCYe (fun h=>?_) (fun h=>?_)
   ·exfalso;simp only[decide_eq_true_eq]at h;omega
   clear h
   (try simp only[ctlB])
   repeat' ((first|refine xSYe ?_|refine xOYe rfl ?_);(try simp only[ctlB]))
   refine xHYe ?_
   refine wpH_app (b:=bo) (cells:=intL vd) (c:=intL [((0:Nat):Int)]) ((oo.mono (Ext.app _ _)).lower (by omega)) (by simp;omega) (by omega) (by omega) (by rw[intL_len];omega) get_app0 (by simp) rfl rfl ?_
   rw[←intL_app]
   intro vo' H3 oo' hk3 hl3
   have hx3:=hk3.ext (hx2.trans (Ext.app H2 _)) oo.1
   obtain⟨d',b',hd',oo'⟩:=fin 0 H3 [] (by omega) vo' _ ⟨by simp;omega,oo'.2⟩
   (try simp only[ctlB])
   repeat' ((first|refine xSYe ?_|refine xOYe rfl ?_);(try simp only[ctlB]))
   exact⟨hx3,d',vo',b',hd',oo',exZGc (by first|rfl|(simp only[Int.natCast_add,Int.natCast_one];rfl)|simp only[Int.natCast_add,Int.natCast_one])⟩
 ·rintro S H2 ⟨hx2,d,vo,bo,hd,oo,z,rfl⟩
  (try simp only[ctlB])
  repeat' ((first|refine xSYe ?_|refine xOYe rfl ?_);(try simp only[ctlB]))
  refine xRYe ?_
  exact⟨hx2,d,hd,Sl.ofOwn oo⟩
end
end Go.Proofs.YtmnlgdpdgjbfgaaGreat
namespace Go.Proofs.YtmnlgdpdgjbfgaaGreat
open Go.Abs Go.RS
set_option linter.unusedSimpArgs false
set_option linter.unusedVariables false
set_option maxRecDepth 20000
theorem inF_by{l:List Int}(h:∀i,i<l.length→0≤l.getD i 0∧l.getD i 0≤255):inF 256 l=true:=(inF_iff (sz:=256)).2 fun x hx=>by
 obtain⟨i,hi,rfl⟩:=List.getElem_of_mem hx
 have:=h i hi
 rw[List.getD_eq_getElem?_getD,List.getElem?_eq_getElem hi,Option.getD_some]at this
 omega
theorem xor_ne{o w:Nat}(h:w≠0):o ^^^ w≠o:=fun e=>h (by
 have:=congrArg (o ^^^ ·) e
 simpa[←Nat.xor_assoc]using this)
theorem ilv_by{n:Nat}{W:Nat→List (El F1)}{N i:Nat}(h:i<N):0≤(ilv n W N).getD i 0∧(ilv n W N).getD i 0≤255:=by
 rw[ilv_at h]
 have:(co (W (i%n)) (i/n)).val<256:=(co (W (i%n)) (i/n)).lt
 omega
section
variable {lo:Nat}{H:Heap}
theorem protD{i:Nat}(hi:i<30){v:Value}{e:List (El F1)}(hv:SlI H v (valI e))(he:e.length=(dz i).d)(hlo:lo≤H.length):Ev cp lo 13 [v,(dz i).sz.val] H (fun r H'=>Ext H H'∧∃b,H.length≤b∧r=.tuple #[.slice (some ⟨b,0,none⟩) ((dz i).d+(dz i).c) ((dz i).d+(dz i).c),.int .i64 0]∧H'.get b=some (intL (ilv (dz i).n ((dz i).W e) ((dz i).d+(dz i).c)))∧∀x,x<(dz i).n→IsEnc g1 (dz i).ck 1 (strd e 0 (dz i).n x) ((dz i).W e x)):=
 (protP hv (by rw[valI_len,he];have:=(dz_ok hi).d2;omega) hlo).mono fun r H' h=>⟨h.1,h.2.2 i hi rfl e rfl he⟩
theorem corrD{i:Nat}(hi:i<30){v:Value}{l:List Int}(hv:SlI H v l)(hl:l.length=(dz i).d+(dz i).c)(hin:inF 256 l=true)(hlo:lo≤H.length):Ev cp lo 16 [v,(dz i).sz.val] H (fun r H'=>Ext H H'∧((¬ ∀x,x<(dz i).n→OkX (dz i) l x)→r=.tuple #[.slice none 0 0,.int .i64 0,.int .i64 17]) ∧
  ((∀x,x<(dz i).n→OkX (dz i) l x)→∃b,H.length≤b∧r=.tuple #[.slice (some ⟨b,0,none⟩) (dz i).d (dz i).d,.int .i64 (sumT (nch (dz i) l) (dz i).n:Nat),.int .i64 0]∧H'.get b=some (intL (ilv (dz i).n (fxX (dz i) l) (dz i).d)))):=
 (corrP hv (by rw[hl];have:=(dz_ok hi).d2;have:=(dz_ok hi).c2;omega) hlo).mono fun r H' h=>⟨h.1,h.2.2 i hi rfl hl hin⟩
end
theorem xTYo{cp:FuncId→Option CF}{lo:Nat}{l:List (Nat×E)}{chk:List E}{Q:Post}{S:List Value}{H:Heap}{vs:List (Nat×Value)}{dst:Option Nat}{o:HOp}{a:E}{xs:List Value}{pc:PC}(k:wpH cp lo o xs H fun v H'=>Q .normal (setD (setAll S vs) dst v) H')(h:evSets S H l=some vs:=by exact xEYe)(hc:evChk S H chk=true:=by simp(disch:=first|omega|(simp only[lenB];omega))only[evB,xBYe,Nat.reduceAdd,Nat.reduceBEq, *])(hp:holds S H pc=some true:=by simp(disch:=first|omega|(simp only[lenB];omega))only[evB,xBYe,Nat.reduceAdd,Nat.reduceBEq, *];try rfl)(ha:ev S H a=some xs:=by exact xEYe):wpS cp lo (.hv l chk pc dst o a) Q S H:=aw_hvT h hc hp ha k
set_option maxHeartbeats 2000000 in
theorem lawCor{H:Heap}{k:Nat}{vp:Value}{p la lb:List Int}{aA aY:Option Addr}{cA cY:Nat}
  (hk:k≤255) (hp:SlY H vp p) (hpr:∀x ∈ p,0≤x∧x≤255) (hpl:p.length≤9223372036854775807) (hA:Sl (Value.int .u16) H (.slice aA la.length cA) la) (hAr:∀x ∈ la,0≤x∧x≤65535) (hAl:la.length≤9223372036854775807) (hY:SlY H (.slice aY lb.length cY) lb) (hYr:∀x ∈ lb,0≤x∧x≤255) (hYl:lb.length≤9223372036854775807) :
  Ev cp H.length 8 [.int .u8 (k:Nat),vp,.slice aA la.length cA,.slice aY lb.length cY] H (fun v _=>v=.bool true):=by
 refine st8 ?_;unfold bd8 cf8;simp only[kB,ctlB]
 repeat' ((first|refine xSYe ?_|refine xOYe rfl ?_);(try simp only[ctlB]))
 refine xHYe ?_
 refine wpH_call0 (sizeOfP (k:=k) hk (Nat.le_refl _)) ?_
 rintro r H1 ⟨hx1,rfl⟩
 have hi:k%30<30:=Nat.mod_lt _ (by decide)
 generalize k%30=i at *
 have hz:=dz_ok hi
 have hP:=fun {H':Heap} {v:Value} {e:List (El F1)} (h1:SlI H' v (valI e)) (h2:e.length=(dz i).d) (h3:H.length≤H'.length)=>protD (lo:=H.length) hi h1 h2 h3
 have hC:=fun {H':Heap} {v:Value} {l:List Int} (h1:SlI H' v l) (h2:l.length=(dz i).d+(dz i).c) (h3:inF 256 l=true) (h4:H.length≤H'.length)=>corrD (lo:=H.length) hi h1 h2 h3 h4
 generalize dz i=zz at *
 obtain⟨T,hTT⟩:∃T:Nat,zz.d+zz.c=T:=⟨_,rfl⟩
 rw[hTT]at hP hC
 replace hTT:False∨_:=.inr hTT
 have n1:=hz.n1
 have n2:=hz.n2
 have dn:=hz.dn
 have d2:=hz.d2
 have c2:=hz.c2
 have k1:=hz.k1
 have k2:=hz.k2
 have t1:zz.d<T∧T≤2178:=by
  have:=hTT.resolve_left id
  have:=hz.cn
  have:zz.n*1≤zz.n*zz.ck:=Nat.mul_le_mul_left _ k1
  omega
 have hdiv:(zz.c:Int).tdiv (zz.n:Int)=(zz.ck:Nat):=(Int.ofNat_tdiv zz.c zz.n).symm
 unfold Dz.sz Sz.val at *
 dsimp only at hP hC
 have hl1:=hx1.1
 (try simp only[ctlB])
 repeat' ((first|refine xSYe ?_|refine xOYe rfl ?_);(try simp only[ctlB]))
 generalize hG:H1++_=G at *
 obtain⟨g0,hxG⟩:=box_facts hG
 clear hG
 have hx1:=hx1.trans hxG
 have hlG:=hx1.1
 refine xHYe ?_
 refine wpH_call0 (numsP (hp.mono hx1) hpr hpl (by omega) hlG) ?_
 rintro r H2 ⟨hx2,e,he,hvd⟩
 have g0:=hx2.get g0
 have hx2:=hx1.trans hx2
 have hl2:=hx2.1
 obtain⟨ad,cd,e0⟩:=hvd.len
 have hvd0:=hvd
 rw[valI_len,he]at e0
 subst e0
 replace he:False∨_:=.inr he
 clear hvd hxG hp
 (try simp only[ctlB])
 repeat' ((first|refine xSYe ?_|refine xOYe rfl ?_);(try simp only[ctlB]))
 by_cases h300:300<la.length
 ·refine xCYe (fun h=>?_) (fun h=>?_)
  case refine_2=>simp at h;omega
  clear h
  (try simp only[ctlB])
  refine xHYe ?_
  refine wpH_call0 (exH hl2) ?_
  rintro r H9 ⟨-,rfl⟩
  (try simp only[ctlB])
  repeat' ((first|refine xSYe ?_|refine xOYe rfl ?_);(try simp only[ctlB]))
  refine xRYe ?_
  rfl
 refine xCYe (fun h=>?_) (fun h=>?_)
 ·simp at h;omega
 clear h
 (try simp only[ctlB])
 refine xHYe ?_
 refine wpH_call0 (hP hvd0 (he.resolve_left id) hl2) ?_
 rintro r H3 ⟨hx3,j,hj,rfl,hg3,hie⟩
 have g0:=hx3.get g0
 have hvd0:=hvd0.mono hx3
 have hx3:=hx2.trans hx3
 have hl3:=hx3.1
 have hj3:=Heap.get_lt hg3
 have hq3:=Heap.get_lt g0
 clear hP hx2 hx1
 generalize hwle:ilv zz.n (zz.W e) T=wl at *
 have hwl:wl.length=T:=by rw[←hwle];exact ilv_len _ _ _
 have hwb:∀i,i<wl.length→0≤wl.getD i 0∧wl.getD i 0≤255:=fun i hi=>by rw[←hwle];exact ilv_by (by omega)
 replace hwle:False∨_:=.inr hwle
 have hwi:SlI H3 (.slice (some ⟨j,0,none⟩) T T) wl:=Sl.whole hg3 hwl
 (try simp only[ctlB])
 repeat' ((first|refine xSYe ?_|refine xOYe rfl ?_);(try simp only[ctlB]))
 refine xCYe (fun h=>?_) (fun h=>?_)
 ·exfalso;simp at h;omega
 clear h
 (try simp only[ctlB])
 ((first|refine xSYe ?_|refine xOYe rfl ?_);(try simp only[ctlB]))
 refine xHYe ?_
 refine own_appI (A:=[]) (base:=H3.length) (Own.nil (b:=H3.length) (Nat.le_refl _)) (by omega) (Nat.le_refl _) hwi (by omega) (by simp only[List.length_nil];omega) ?_
 intro v9 H4 o9 hk4 hl4
 rw[List.nil_append]at o9
 have hx4:Ext H3 H4:=⟨by omega,fun i hi=>hk4.eq i hi (by omega)⟩
 obtain⟨rfl,g9⟩:=own_realI o9 (by omega)
 have g0:=hx4.get g0
 have hg3:=hx4.get hg3
 have hx34:=hx4
 have hx4:=hx3.trans hx4
 rw[hwl]
 replace hl4:H3.length+1≤H4.length∧H4.length≤H3.length+1:=by omega
 clear o9 hk4 hwi
 have hq0:=Heap.get_lt g0
 (try simp only[ctlB])
 repeat' ((first|refine xSYe ?_|refine xOYe rfl ?_);(try simp only[ctlB]))
 refine aw_for (fun x S H'=>Ext H4 H'∧∃v10 b10,Own H4.length 1 H' v10 b10 (intL (List.replicate x 0))∧∃(z:Nat→Value),S=[z 0,z 1,.slice aA la.length cA,.slice aY lb.length cY,z 4,.pointer (some ⟨H1.length,0,none⟩),.slice ad zz.d cd,.slice (some ⟨j,0,none⟩) T T,z 8,.slice (some ⟨H3.length,0,some 1⟩) T T,v10,.int .i64 (x:Nat),z 12,z 13,z 14,z 15,z 16,z 17,z 18,z 19,z 20,z 21,z 22,z 23,z 24,z 25,z 26,z 27,z 28,z 29,z 30,z 31]) zz.n ?_ ?_ ?_ ?_
 ·exact⟨Ext.refl _,_,_,Own.nil (b:=H4.length) (Nat.le_refl _),exZGc rfl⟩
 ·rintro x S H' hx ⟨hx5,v10,b10,-,z,rfl⟩
  have g0:=hx5.get g0
  exact⟨_,xEYe,by simp⟩
 ·rintro x S H5 hx ⟨hx5,v10,b10,o10,z,rfl⟩
  have hl5:=hx5.1
  (try simp only[ctlB])
  repeat' ((first|refine xSYe ?_|refine xOYe rfl ?_);(try simp only[ctlB]))
  refine xHYe ?_
  refine wpH_app (b:=b10) (cells:=intL (List.replicate x 0)) (c':=[.int .i64 0]) (c:=[.int .i64 0]) ((o10.mono (Ext.app _ _)).lower (by omega)) (by simp;omega) (by omega) (by omega) (by rw[intL_len,List.length_replicate];omega) get_app0 (by simp) rfl rfl ?_
  rw[show intL (List.replicate x 0)++[Value.int .i64 0]=intL (List.replicate (x+1) 0) by rw[List.replicate_succ',intL_app];rfl]
  intro v10' H6 o10' hk6 hl6
  have hx6:=hk6.ext (hx5.trans (Ext.app H5 _)) o10.1
  have o10':Own H4.length 1 H6 v10' _ (intL (List.replicate (x+1) 0)):=⟨by simp;omega,o10'.2⟩
  (try simp only[ctlB])
  repeat' ((first|refine xSYe ?_|refine xOYe rfl ?_);(try simp only[ctlB]))
  exact⟨hx6,v10',_,o10',exZGc (by first|rfl|(simp only[Int.natCast_add,Int.natCast_one];rfl)|simp only[Int.natCast_add,Int.natCast_one])⟩
 ·rintro S H5 ⟨hx5,v10,b10,o10,z,rfl⟩
  have hb10:=o10.1
  obtain⟨rfl,g10⟩:=own_realI o10 (by rw[List.length_replicate];omega)
  simp only[List.length_replicate]
  have g0:=hx5.get g0
  have hg3:=hx5.get hg3
  have g9:=hx5.get g9
  have hx35:=hx34.trans hx5
  have hx5:=hx4.trans hx5
  have hl5:=hx5.1
  clear o10 hx4
  have hq9:=Heap.get_lt g9
  have hq10:=Heap.get_lt g10
  have hzl:dfA wl wl=0:=dfA_same
  replace hzl:False∨_:=.inr hzl
  (try simp only[ctlB])
  repeat' ((first|refine xSYe ?_|refine xOYe rfl ?_);(try simp only[ctlB]))
  refine aw_for (fun i S H'=>Low H3.length H5 H'∧∃out us,SpI zz.n zz.ck wl out us∧Heap.get H' H3.length=some (intL out)∧Heap.get H' b10=some (intL us)∧dfA wl out≤i∧∃(z:Nat→Value),S=[z 0,z 1,.slice aA la.length cA,.slice aY lb.length cY,z 4,.pointer (some ⟨H1.length,0,none⟩),.slice ad zz.d cd,.slice (some ⟨j,0,none⟩) T T,z 8,.slice (some ⟨H3.length,0,some 1⟩) T T,.slice (some ⟨b10,0,some 1⟩) zz.n zz.n,z 11,.int .i64 (dfA wl out:Nat),.int .i64 (i:Nat),z 14,z 15,z 16,z 17,z 18,z 19,z 20,z 21,z 22,z 23,z 24,z 25,z 26,z 27,z 28,z 29,z 30,z 31]) (min la.length lb.length) ?_ ?_ ?_ ?_
  ·refine⟨Low.ext (Ext.refl _),wl,_,SpI.start hwb,g9,g10,?_,?_⟩
   ·rw[hzl.resolve_left id];exact Nat.le_refl _
   ·rw[hzl.resolve_left id];exact exZGc rfl
  ·rintro i S H' hi ⟨-,out,us,-,-,-,-,z,rfl⟩
   exact⟨_,xEYe,by simp;omega⟩
  ·clear g9 g10
   rintro i S H6 hi ⟨low,out,us,hsp,g9,g10,hdf,z,rfl⟩
   have g0:=(low.2 _ (by omega) (by omega)).trans g0
   have hg3:=(low.2 _ (by omega) (by omega)).trans hg3
   have hx6:=Low.toExt hx5 low hl3
   have hl6:=low.1
   have l0:=Heap.get_lt g0
   have l3:=Heap.get_lt hg3
   have l9:=Heap.get_lt g9
   have l10:=Heap.get_lt g10
   obtain⟨xb,xo,xsp,xc,xs,e1,gx,fx,_⟩:=(hA.mono hx6).els 0 (by omega)
   cases e1
   have kx:=fx i (by omega)
   have hm:=hAr (la.getD i 0) (by rw[List.getD_eq_getElem?_getD,List.getElem?_eq_getElem (by omega)];exact List.getElem_mem _)
   obtain⟨q,hq⟩:∃q:Nat,la.getD i 0=(q:Int):=⟨_,(Int.toNat_of_nonneg hm.1).symm⟩
   rw[hq]at kx hm
   have q1:=(Int.ofNat_tmod q T).symm
   have hk:q%T<T:=Nat.mod_lt _ (by omega)
   clear fx hq
   generalize q%T=m at *
   (try simp only[ctlB])
   ((first|refine xSYe ?_|refine xOYe rfl ?_);(try simp only[ctlB]))
   clear kx q1 gx hm
   have q2:=(Int.ofNat_tmod m zz.n).symm
   have hX:m%zz.n<zz.n:=Nat.mod_lt _ (by omega)
   obtain⟨yb,yo,ysp,yc,ys,e2,gy,fy,_⟩:=(hY.mono hx6).els 0 (by omega)
   cases e2
   have ky:=fy i (by omega)
   have hyr:=hYr (lb.getD i 0) (by rw[List.getD_eq_getElem?_getD,List.getElem?_eq_getElem (by omega)];exact List.getElem_mem _)
   obtain⟨w,hw'⟩:∃w:Nat,lb.getD i 0=(w:Int):=⟨_,(Int.toNat_of_nonneg hyr.1).symm⟩
   rw[hw']at ky hyr
   have hyb:=Heap.get_lt gy
   clear fy hw'
   have hlo:=hsp.lo
   have hlu:=hsp.lu
   have hby:=hsp.by' m (by omega)
   have husx:=hsp.us' _ hX
   have hstep:=fun v h0 hv hb hc=>SpI.step (ck:=zz.ck) (v:=v) (by omega) hsp (show m<wl.length by omega) h0 hv hb hc
   have hskip:Low H3.length H5 H6∧∃out us,SpI zz.n zz.ck wl out us∧Heap.get H6 H3.length=some (intL out)∧Heap.get H6 b10=some (intL us):=⟨low,out,us,hsp,g9,g10⟩
   obtain⟨o,ho⟩:∃o:Nat,out.getD m 0=(o:Int):=⟨_,(Int.toNat_of_nonneg hby.1).symm⟩
   rw[ho]at hby hstep
   clear husx
   have husx:0≤us.getD (m%zz.n) 0∧2*us.getD (m%zz.n) 0≤zz.ck:=by
    have:=hsp.us' _ hX;omega
   have hxr0:=xor_int (a:=o) (b:=w) (by omega) (by omega)
   have hxb:o ^^^ w<256:=Nat.xor_lt_two_pow (n:=8) (by omega) (by omega)
   have hxn:=xor_ne (o:=o) (w:=w)
   generalize hy0:wl.getD m 0=y0 at *
   generalize o ^^^ w=y at *
   generalize m%zz.n=X at *
   generalize hut:us.getD X 0=ut at *
   have hend:∀(H':Heap),SpI zz.n zz.ck wl (out.set m (y:Int)) (us.set X (ut+1))→Keep b10 (H6.set H3.length (some (intL (out.set m (y:Int))))) H'→Heap.get H' b10=some (intL (us.set X (ut+1)))→Low H3.length H5 H'∧∃out' us',SpI zz.n zz.ck wl out' us'∧Heap.get H' H3.length=some (intL out')∧Heap.get H' b10=some (intL us')∧out'=out.set m (y:Int):=by
    intro H' hs hk8 h10
    refine⟨Low.trans low (Low.trans (Low.keep (keep_set (Ext.refl _) H3.length _) (Nat.le_refl _)) (Low.keep hk8 (by omega))),_,_,hs,hk8.get (get_set_self (by omega)) (by omega),h10,rfl⟩
   by_cases hgo:(o:Int)=y0∧w≠0∧2*ut+2≤(zz.ck:Int)
   case neg=>
    (try simp only[ctlB])
    ((first|refine xSYe ?_|refine xOYe rfl ?_);(try simp only[ctlB]))
    refine xCYe (fun h=>?_) (fun h=>?_)
    case refine_2=>
     exfalso
     simp only[Bool.or_eq_false_iff,decide_eq_false_iff_not]at h
     exact hgo (by omega)
    clear h
    (try simp only[ctlB])
    repeat' ((first|refine xSYe ?_|refine xOYe rfl ?_);(try simp only[ctlB]))
    exact⟨low,out,us,hsp,g9,g10,by omega,exZGc (by first|rfl|(simp only[Int.natCast_add,Int.natCast_one];rfl)|simp only[Int.natCast_add,Int.natCast_one])⟩
   obtain⟨e3,e4,e5⟩:=hgo
   have hxn:=hxn e4
   subst e3
   obtain⟨hs,hdn⟩:=hstep (y:Int) rfl (by omega) (by omega) e5
   clear hstep hskip hsp
   replace hdn:False∨_:=.inr hdn
   (try simp only[ctlB])
   ((first|refine xSYe ?_|refine xOYe rfl ?_);(try simp only[ctlB]))
   refine xCYe (fun h=>?_) (fun h=>?_)
   ·exfalso
    simp only[Bool.or_eq_true,decide_eq_true_eq]at h
    omega
   clear h
   (try simp only[ctlB])
   repeat' ((first|refine xSYe ?_|refine xOYe rfl ?_);(try simp only[ctlB]))
   obtain⟨w1,out',us',w2,w3,w4,rfl⟩:=hend _ hs (keep_set (Ext.refl _) b10 _) (get_set_self (by simpa using l10))
   refine⟨w1,_,us',w2,w3,w4,by have:=hdn.resolve_left id;omega,?_⟩
   rw[hdn.resolve_left id]
   exact exZGc (by first|rfl|(simp only[Int.natCast_add,Int.natCast_one];rfl)|simp only[Int.natCast_add,Int.natCast_one])
  ·clear g9 g10
   rintro S H6 ⟨low,out,us,hsp,g9,g10,hdf,z,rfl⟩
   have g0:=(low.2 _ (by omega) (by omega)).trans g0
   have hx6:=Low.toExt hx5 low hl3
   have hl6:=hx6.1
   have hvd0:=hvd0.mono (Low.toExt hx35 low (Nat.le_refl _))
   have hT:=hTT.resolve_left id
   have hfix:=spoil_fix hz (he.resolve_left id) hie (out:=out) (by rw[hsp.lo,hwl,hT]) (fun i hi=>hsp.by' i (by omega)) (fun x hx=>by rw[hT,hwle.resolve_left id];exact(hsp.us' x hx).2)
   rw[hT,hwle.resolve_left id]at hfix
   obtain⟨hok,hsum,hdat⟩:=hfix
   have hlo:=hsp.lo
   have hin:=inF_by (l:=out) (fun i hi=>hsp.by' i (by omega))
   have hve:(valI e).length≤zz.d∧zz.d≤(valI e).length:=by
    have:=valI_len e
    have:=he.resolve_left id
    omega
   clear hsp hT hie hwle hTT g10 hz low
   (try simp only[ctlB])
   refine xHYe ?_
   refine wpH_call0 (hC (Sl.whole (enc:=Value.int .i64) (l:=out) g9 (by omega)) (by omega) hin (by omega)) ?_
   rintro r H7 ⟨hx7,-,hr⟩
   obtain⟨b,hb,rfl,hgb⟩:=hr hok
   rw[hsum]
   rw[hdat]at hgb
   have hvd0:=hvd0.mono hx7
   have hx7:=hx6.trans hx7
   have hl7:=hx7.1
   clear hr hC hok hsum hdat hin g9 g0
   generalize dfA wl out=D at *
   (try simp only[ctlB])
   repeat' ((first|refine xSYe ?_|refine xOYe rfl ?_);(try simp only[ctlB]))
   refine xTYo ?_
   refine wpH_call0 (same_eq (Sl.whole (enc:=Value.int .i64) (l:=valI e) hgb (by omega)) hvd0 (by omega) (by omega) rfl) ?_
   rintro r _ ⟨rfl,rfl⟩
   (try simp only[ctlB])
   refine xTYo ?_
   refine wpH_call0 (exH hl7) ?_
   rintro r H9 ⟨-,rfl⟩
   (try simp only[ctlB])
   repeat' ((first|refine xSYe ?_|refine xOYe rfl ?_);(try simp only[ctlB]))
   refine xRYe ?_
   rfl
end Go.Proofs.YtmnlgdpdgjbfgaaGreat
namespace Go.Proofs.YtmnlgdpdgjbfgaaGreat
open Go.Abs
theorem sl_k{B:Nat}{H:Heap}{k:IntKind}{vs:List Value}(h:Has B H (.sl (.int k)) vs):∃a l c,vs=[.slice a l.length c]∧Sl (Value.int k) H (.slice a l.length c) l∧l.length≤B∧∀x ∈ l,k.min≤x∧x≤k.max:=by
 obtain⟨v,rfl,h⟩:=has_one h (by intro l e;cases e) (by intro n l e;cases e)
 obtain⟨l,h1,h2,h3,_⟩:=has_slI h
 obtain⟨a,c,rfl⟩:=h1.len
 exact⟨a,l,c,rfl,h1,h2,h3⟩
theorem has_k{B:Nat}{H:Heap}{k:IntKind}{vs:List Value}(h:Has B H (.int k) vs):∃n:Int,vs=[.int k n]∧k.min≤n∧n≤k.max:=by
 simp only[Has]at h
 exact h
theorem u8_rg{l:List Int}(h:∀x ∈ l,IntKind.u8.min≤x∧x≤IntKind.u8.max):∀x ∈ l,0≤x∧x≤255:=fun x hx=>h x hx
theorem u16_rg{l:List Int}(h:∀x ∈ l,IntKind.u16.min≤x∧x≤IntKind.u16.max):∀x ∈ l,0≤x∧x≤65535:=fun x hx=>h x hx
theorem ml{n:Nat}(h:n≤maxLen):n≤9223372036854775807:=h
theorem nat8{x:Int}(h:IntKind.u8.min≤x∧x≤IntKind.u8.max):∃k:Nat,x=(k:Int)∧k≤255:=by
 have h1:0≤x:=h.1
 have h2:x≤255:=h.2
 exact⟨x.toNat,by omega,by omega⟩
end Go.Proofs.YtmnlgdpdgjbfgaaGreat
