/- Lemmas. -/
import Derived.Test.YtgpolmomghejoaaDoorE16
set_option linter.unusedVariables false
set_option linter.unusedSimpArgs false
set_option linter.unusedSectionVars false
namespace Go.Proofs.YtgpolmomghejoaaDoor
open Go.Abs
set_option maxRecDepth 20000
theorem DecSt.far{H0:Heap}{lo:Nat}{H:Heap}{b:Nat}{wv:Value}{pos sub shift:Nat}{out:List UInt8}(h:DecSt H0 lo H b wv pos sub shift out)(n:Nat) :
  Ext H0 H∧H0.length≤b∧lo≤b∧∃ov bo,H0.length≤bo∧bo≠b∧H.get b=some [wv,.int .i64 (pos:Nat),.int .i64 (sub:Nat),.int .i64 (shift:Nat),ov]∧Own lo 1 H ov bo (out.map bZ)∧(bo<H.length∨H.length+n≤bo):=by
 obtain⟨hx,hb,hlb,ov,bo,hbo,hne,hg,ho⟩:=h;have hbl:=Heap.get_lt hg;have:=hx.1;refine⟨hx,hb,hlb,ov,?_⟩;obtain⟨q1,⟨q2,q3⟩|⟨m,q2,q3,q4,q5⟩⟩:=ho
 ·exact⟨H.length+n,by omega,by omega,hg,⟨by omega,.inl ⟨q2,q3⟩⟩,.inr (Nat.le_refl _)⟩
 ·exact⟨bo,hbo,hne,hg,⟨q1,.inr ⟨m,q2,q3,q4,q5⟩⟩,.inl (Heap.get_lt q5)⟩
theorem BK{H0:Heap}{lo:Nat}{H:Heap}{b:Nat}{wv:Value}{ws:List Nat}{pos sub shift:Nat}{out:List UInt8}(hlo:lo≤H.length)(hst:DecSt H0 lo H b wv pos sub shift out)(hws:SlN H0 wv ws)(hpos:pos≤ws.length)(hwl:ws.length≤8192)(hw:∀w ∈ ws,w≤928)(hout:out.length≤1000000) :
  EvE cpx lo 47 [.pointer (some ⟨b,0,none⟩)] H (fun r H'=>pos<ws.length∧ws.getD pos 0≤255∧DecSt H0 lo H' b wv (pos+1) sub 0 (out++[UInt8.ofNat (ws.getD pos 0)]))
   (fun p H'=>Ext H0 H'∧(pos=ws.length∧p=tZ 10∨pos<ws.length∧255<ws.getD pos 0∧p=tZ 22)):=by
 obtain⟨hx,hb,hlb,ov,bo,hbo,hne,hg,ho,hob⟩:=hst.far 5;have hbl:=Heap.get_lt hg;have hws1:=hws.mono hx;obtain⟨ad,c0,rfl⟩:=hws.len;have hx1:=hx.1;refine Kw ?_;unfold EN;simp only[kB,aA];refine bJ (fun h=>?_) (fun h=>?_)
 ·have e:pos=ws.length:=by simp only[decide_eq_true_eq]at h;omega
  clear h;refine ij (bp) (by simp(disch:=first|omega|(simp only[aD];omega))only[evB,di,Nat.reduceAdd,Nat.reduceBEq,Int.reduceToNat, *]) (bp) ?_;refine gf ?_
  (repeat (first|rw[cD (by decide)]|simp only[dW,dC,dm]));refine dS ?_
  exact⟨hx,.inl ⟨e,rfl⟩⟩
 have hlt:pos<ws.length:=by simp only[decide_eq_false_iff_not]at h;omega
 clear h;obtain⟨b0,o0,sp0,cap0,xs0,e0,hg0,hx0,hle0⟩:=hws1.els 0 (by omega);cases e0;have hxa:=hx0 pos hlt;have hwp:ws.getD pos 0≤928:=by
  rw[List.getD_eq_getElem?_getD,List.getElem?_eq_getElem hlt];exact hw _ (List.getElem_mem hlt)
 clear hx0;generalize ws.getD pos 0=n at *;(try simp only[aA]);repeat' ((first|refine aJ ?_|refine aK rfl ?_);(try simp only[aA]))
 refine bJ (fun h=>?_) (fun h=>?_)
 ·have e:255<n:=by simp only[decide_eq_true_eq]at h;omega
  clear h;refine ij (bp) (by simp(disch:=first|omega|(simp only[aD];omega))only[evB,di,Nat.reduceAdd,Nat.reduceBEq,Int.reduceToNat, *]) (bp) ?_;refine gf ?_
  (repeat (first|rw[cD (by decide)]|simp only[dW,dC,dm]));refine dS ?_
  exact⟨hx,.inr ⟨hlt,e,rfl⟩⟩
 have hn:n≤255:=by simp only[decide_eq_false_iff_not]at h;omega
 clear h;(try simp only[aA]);repeat' ((first|refine aJ ?_|refine aK rfl ?_);(try simp only[aA]))
 have hcell:Value.int .u8 (n:Nat)=bZ (UInt8.ofNat n):=by
  simp only[bZ,UInt8.toNat_ofNat'];rw[Nat.mod_eq_of_lt (by omega)]
 have epos:(pos:Int)+1=((pos+1:Nat):Int):=by omega
 rw[hcell,epos];generalize hHs:List.set H b (some [Value.slice (some ⟨b0,o0,sp0⟩) ws.length c0,.int .i64 ((pos+1:Nat):Int),.int .i64 (sub:Nat),.int .i64 (shift:Nat),ov])=Hs at *;have hls:Hs.length=H.length:=by rw[←hHs];simp
 have hgs:Heap.get Hs b=some [Value.slice (some ⟨b0,o0,sp0⟩) ws.length c0,.int .i64 ((pos+1:Nat):Int),.int .i64 (sub:Nat),.int .i64 (shift:Nat),ov]:=by rw[←hHs];exact aN hbl
 have hxs:Ext H0 Hs:=by rw[←hHs];exact hx.set (by omega)
 have hos:Own lo 1 Hs ov bo (out.map bZ):=by rw[←hHs];exact fA ho hne
 have hxm:=Ext.app Hs [some [bZ (UInt8.ofNat n)]];have hgm:Heap.get (Hs++[some [bZ (UInt8.ofNat n)]]) H.length=some [bZ (UInt8.ofNat n)]:=by
  have:=aQ Hs [bZ (UInt8.ofNat n)];rwa [hls]at this
 have hlm:(Hs++[some [bZ (UInt8.ofNat n)]]).length=H.length+1:=by simp[hls]
 clear hHs;refine gV ?_;refine eG (c:=[bZ (UInt8.ofNat n)]) (c':=[bZ (UInt8.ofNat n)]) (hos.mono hxm) (by omega) (by decide) (by decide) (by simp;omega) hgm (by simp) rfl rfl ?_;intro ov' H4 ho4 hk4 hl4;have hx4:=hk4.ext (hxs.trans hxm) hbo;have hgb4:=hk4.get (hxm.get hgs) hne.symm;have hb4:=Heap.get_lt hgb4;have ho5:Own lo 1 H4 ov' (H.length+1) ((out++[UInt8.ofNat n]).map bZ):=by rw[hlm]at ho4;simpa using ho4
 clear ho4 ho hos hgs hg hcell hgm epos;obtain⟨a4,m4,rfl,_⟩:=ho5.len (by omega);(try simp only[aA]);repeat' ((first|refine aJ ?_|refine aK rfl ?_);(try simp only[aA]))
 refine fP ?_;unfold zu;refine bN rfl ?_;rw[List.set_set];exact⟨hlt,hn,hx4.set (by omega),hb,hlb,_,H.length+1,by omega,by omega,by rw[aN hb4];rfl,fA ho5 (by omega)⟩
theorem uZ{α:Type}{enc:α→Value}{H:Heap}{v:Value}{l:List α}{n:Nat}(h:Sl enc H v l)(hn:n≤l.length):∃v',(∀G,aG (.sl 1 true false false) [v,.int .i64 (n:Nat)] G=some v')∧Sl enc H v' (l.drop n):=by
 rcases h with ⟨rfl,rfl⟩|⟨b,o,sp,cap,xs,rfl,h2,h3,h4,h5,h6⟩
 ·have:n=0:=by simpa using hn
  subst this;exact⟨.slice none 0 0,fun G=>rfl,.inl ⟨rfl,rfl⟩⟩
 ·have hd:(xs.drop (o+n)).take (l.length-n)=(l.drop n).map enc:=by
   rw[List.map_drop,←h3,←List.drop_drop,List.drop_take]
  rcases h5 with rfl|rfl
  ·refine⟨.slice (some ⟨b,if cap=n then o else o+n,none⟩) (l.length-n) (cap-n),?_,.inr ⟨b,_,none,cap-n,xs,by rw[List.length_drop],h2,?_,?_,.inl rfl,by rw[List.length_drop];omega⟩⟩
   ·intro G
    rw[qS,uu (by omega) (by omega)];simp
   ·rw[List.length_drop]
    split
    ·have:l.length-n=0:=by omega
     rw[this];have:l.drop n=[]:=List.drop_eq_nil_of_le (by omega);rw[this];simp
    ·exact hd
   ·rw[List.length_drop];split<;>omega
  ·refine⟨.slice (some ⟨b,o+n,some 1⟩) (l.length-n) (cap-n),?_,.inr ⟨b,_,some 1,cap-n,xs,by rw[List.length_drop],h2,by rw[List.length_drop];exact hd,by rw[List.length_drop];omega,.inr rfl,by rw[List.length_drop];omega⟩⟩
   intro G;rw[qu,uu (by omega) (by omega)];simp
theorem AZ{α:Type}{enc:α→Value}{H:Heap}{v:Value}{l:List α}{n:Nat}(h:Sl enc H v l)(hn:n≤l.length):∃v',(∀G,aG (.sl 1 false true false) [v,.int .i64 (n:Nat)] G=some v')∧Sl enc H v' (l.take n):=by
 have hln:(l.take n).length=n:=by simp;omega
 rcases h with ⟨rfl,rfl⟩|⟨b,o,sp,cap,xs,rfl,h2,h3,h4,h5,h6⟩
 ·have:n=0:=by simpa using hn
  subst this;exact⟨.slice none 0 0,fun G=>rfl,.inl ⟨rfl,rfl⟩⟩
 ·have hd:(xs.drop o).take n=(l.take n).map enc:=by
   rw[List.map_take,←h3,List.take_take,Nat.min_eq_left hn]
  rcases h5 with rfl|rfl
  ·refine⟨.slice (some ⟨b,o,none⟩) n cap,?_,.inr ⟨b,_,none,cap,xs,by rw[hln],h2,by rw[hln];exact hd,by rw[hln];omega,.inl rfl,by rw[hln];omega⟩⟩
   intro G;rw[qS,vK (by omega) (by omega)];simp
  ·refine⟨.slice (some ⟨b,o,some 1⟩) n cap,?_,.inr ⟨b,_,some 1,cap,xs,by rw[hln],h2,by rw[hln];exact hd,by rw[hln];omega,.inr rfl,by rw[hln];omega⟩⟩
   intro G;rw[qu,vK (by omega) (by omega)];simp
def by6(N:Nat):List UInt8:=[5,4,3,2,1,0].map fun j=>UInt8.ofNat (N/256^j)
def iN:Nat→List Nat→Option (List UInt8)
 | 0,l=>if l.all (fun w=>decide (w≤255)) then some (l.map UInt8.ofNat) else none
 | k+1,l=>if 281474976710656≤aY 900 (l.take 5) then none else(iN k (l.drop 5)).map (by6 (aY 900 (l.take 5))++·)
def gZ(mode:Nat)(l:List Nat):List UInt8×Nat:=
 if mode=902 then match e9 l with
  | some t=>(t,0)
  | none=>([],22)
 else if mode=924∧l.length%5≠0 then([],10)
 else match iN (if mode=901 then(l.length-1)/5 else l.length/5) l with
  | some t=>(t,0)
  | none=>([],22)
def bD(l:List Nat):List Nat:=l.takeWhile fun w=>decide (w<900)
def fo:Nat→List Nat→Nat→Nat→List UInt8→List UInt8×Nat
 | 0,_,_,_,out=>(out,0)
 | _+1,[],_,_,out=>(out,0)
 | n+1,w::r,sub,shift,out=>
  if w<900 then match stp sub shift (w/30)with
   | none=>([],22)
   | some (c,x,y)=>match stp x y (w%30)with
    | none=>([],22)
    | some (c2,x2,y2)=>fo n r x2 y2 (out++chS c++chS c2)
  else if w=900 then fo n r 0 0 out
  else if w=913 then match r with
   | []=>([],10)
   | z::r2=>if 255<z then([],22) else fo n r2 sub 0 (out++[UInt8.ofNat z])
  else if w=901∨w=902∨w=924 then
   match gZ w (bD r)with
   | (t,0)=>if (r.drop (bD r).length).head?=some 913 then([],22) else fo n (r.drop (bD r).length) 0 0 (out++t)
   | (_,e)=>([],e)
  else([],22)
def sb(l:List Int):List UInt8×Nat:=
 if 8192<l.length then([],4) else if l.all (fun w=>decide (0≤w)&&decide (w≤928)) then fo (l.length+1) (l.map Int.toNat) 0 0 [] else([],3)
theorem sB{cp:FuncId→Option CF}{H0:Heap}{lo:Nat}{H:Heap}{bo:Nat}{ov:Value}{out:List UInt8}{x:UInt8}{z:List Value}{R:Value→Heap→Prop}(hlo:lo≤H.length)(hx:Ext H0 H)(hbo:H0.length≤bo)(ho:Own lo 1 H ov bo (out.map bZ))(hout:out.length≤1000000)
  (k:∀a m H4,Ext H0 H4→H.length+2≤H4.length→(∀q c,H.get q=some c→q≠bo→H4.get q=some c)→Own lo 1 H4 (.slice a m m) (H.length+1) ((out++[x]).map bZ)→R (.slice a m m) H4) :
  wpH cp lo (.app 1 z) [ov,.slice (some ⟨H.length,0,none⟩) 1 1] (H++[some [bZ x]]) R:=by
 have hxm:=Ext.app H [some [bZ x]];have hgm:=aQ H [bZ x];have hlm:(H++[some [bZ x]]).length=H.length+1:=by simp
 refine eG (c:=[bZ x]) (c':=[bZ x]) (ho.mono hxm) (by omega) (by decide) (by decide) (by simp;omega) hgm (by simp) rfl rfl ?_;intro ov' H4 ho4 hk4 hl4;have ho5:Own lo 1 H4 ov' (H.length+1) ((out++[x]).map bZ):=by rw[hlm]at ho4;simpa using ho4
 obtain⟨a4,m4,rfl,_⟩:=ho5.len (by omega);exact k a4 m4 H4 (hk4.ext (hx.trans hxm) hbo) (by omega) (fun q c hq hne=>hk4.get (hxm.get hq) hne) ho5
theorem BV(x:Nat):IntKind.u8.wrap (x:Int)=((UInt8.ofNat x).toNat:Int):=by
 simp only[UInt8.toNat_ofNat',IntKind.wrap,IntKind.bits,IntKind.signed];simp
theorem Eu{N j:Nat}(hj:j<6){H:Heap}:aG (.bin .shr) [.int .i64 (N:Nat),.int .i64 (40-8*(j:Int))] H=some (.int .i64 ((N/256^(5-j):Nat):Int)):=by
 rcases(show j=0∨j=1∨j=2∨j=3∨j=4∨j=5 by omega)with rfl|rfl|rfl|rfl|rfl|rfl<;>simp[aG,cN,iz,IntKind.bits,Int.fdiv_eq_ediv]
theorem yG{H0:Heap}{lo:Nat}{H:Heap}{b:Nat}{wv sv:Value}{l:List Nat}{n pos sub shift:Nat}{out:List UInt8}(hlo:lo≤H.length)(hst:DecSt H0 lo H b wv pos sub shift out)(hs:SlN H0 sv l)(hn:5*n≤l.length)(hl:l.length≤8192)(hw:∀w ∈ l,w<900)(hout:out.length≤500000) :
  EvE cpx lo 69 [.pointer (some ⟨b,0,none⟩),sv,.int .i64 (n:Nat)] H (fun r H'=>∃t,iN n l=some t∧DecSt H0 lo H' b wv pos sub shift (out++t)) (fun p H'=>iN n l=none∧p=tZ 22∧Ext H0 H'):=by
 refine IU ?_;unfold D2;simp only[kB,aA];refine ny (fun S H'=>∃(l':List Nat) (t:List UInt8) (s:Value),(iN n l=(iN 0 l').map (t++·)∨False)∧l'.length≤8192∧(∀w ∈ l',w<900)∧SlN H0 s l'∧DecSt H0 lo H' b wv pos sub shift (out++t)∧t.length≤20000∧∃k,∃(z:Nat→Value),S=[.pointer (some ⟨b,0,none⟩),s,.int .i64 (k:Nat),z 3,z 4,z 5,z 6,z 7,z 8,z 9,z 10,z 11,z 12,z 13,z 14,z 15,z 16,z 17,z 18,z 19,z 20]) ?_ ?_
 ·refine bk (fun m S H'=>∃(k:Nat) (l':List Nat) (t:List UInt8) (s:Value),m=k∧(iN n l=(iN k l').map (t++·)∨False)∧5*k≤l'.length∧l'.length≤8192∧(∀w ∈ l',w<900)∧SlN H0 s l'∧DecSt H0 lo H' b wv pos sub shift (out++t)∧t.length+6*k≤20000∧∃(z:Nat→Value),S=[.pointer (some ⟨b,0,none⟩),s,.int .i64 (k:Nat),z 3,z 4,z 5,z 6,z 7,z 8,z 9,z 10,z 11,z 12,z 13,z 14,z 15,z 16,z 17,z 18,z 19,z 20]) n ?_ ?_
  ·exact⟨n,l,[],sv,rfl,.inl (by simp),hn,hl,hw,hs,by simpa using hst,by simp;omega,aE rfl⟩
  rintro m S H' ⟨_,l',t,s,rfl,hb,hn2,hl2,hw2,hs2,hst2,ht2,z,rfl⟩;obtain⟨ad,c0,rfl⟩:=hs2.len;by_cases hk:m=0
  ·subst hk
   (try simp only[aA]);refine bJ (fun h=>?_) (fun h=>?_)
   ·simp at h
   clear h;(try simp only[aA]);exact⟨l',t,_,hb,hl2,hw2,hs2,hst2,by omega,0,aE rfl⟩
  ·obtain⟨k,rfl⟩:∃k,m=k+1:=⟨m-1,by omega⟩
   (try simp only[aA]);refine bJ (fun h=>?_) (fun h=>?_)
   ·clear h
    obtain⟨s5,hc5,hs5⟩:=AZ hs2 (n:=5) (by omega);replace hc5:∀G,aG (.sl 1 false true false) [.slice ad l'.length c0,.int .i64 5] G=some s5:=fun G=>hc5 G;obtain⟨sd,hcd,hsd⟩:=uZ hs2 (n:=5) (by omega);replace hcd:∀G,aG (.sl 1 true false false) [.slice ad l'.length c0,.int .i64 5] G=some sd:=fun G=>hcd G;have h5:(l'.take 5).length=5:=by simp;omega
    obtain⟨a5,c5,rfl⟩:=hs5.len;rw[h5]at hc5 hs5;have hd5:∀w ∈ l'.take 5,w<900:=fun w hm=>hw2 w (List.mem_of_mem_take hm);obtain⟨P,hP⟩:∃P,l'.take 5=P:=⟨_,rfl⟩;rw[hP]at h5 hs5 hd5;(try simp only[aA]);(repeat' ((first|refine aJ ?_|refine aK rfl ?_);(try simp only[aA])));refine ai (fun j S H2=>H'=H2∧∃(z:Nat→Value),S=[.pointer (some ⟨b,0,none⟩),.slice ad l'.length c0,.int .i64 ((k+1:Nat):Int),.int .i64 (aY 900 (P.take j):Nat),z 4,z 5,z 6,.slice a5 5 c5,.int .i64 ((5:Nat):Int),.int .i64 (j:Nat),z 10,z 11,z 12,z 13,z 14,z 15,z 16,z 17,z 18,z 19,z 20]) 5 ?_ ?_ ?_ ?_
    ·exact⟨rfl,aE rfl⟩
    ·rintro j S H2 hj ⟨rfl,z,rfl⟩
     exact⟨_,bp,by simp;try omega⟩
    ·rintro j S H2 hj ⟨rfl,z,rfl⟩
     obtain⟨hxd,_⟩:=hst2;obtain⟨b0,o0,sp0,cap0,xs0,e0,hg0,hx0,hle0⟩:=(hs5.mono hxd).els 0 (by omega);rw[h5]at e0;cases e0;have hxa:=hx0 j (by omega);have hlt:=fY hd5 j (by omega);have h900:(900:Nat)^j≤900^4:=Nat.pow_le_pow_right (by decide) (by omega);have hwp:P.getD j 0<900:=by
      rw[List.getD_eq_getElem?_getD,List.getElem?_eq_getElem (by omega)];exact hd5 _ (List.getElem_mem _)
     rw[gy (by omega)];have h4:aY 900 (P.take j)≤656100000000:=by omega
     clear hx0 hlt h900;generalize aY 900 (P.take j)=X at *;generalize P.getD j 0=y at *;(try simp only[aA]);(repeat' ((first|refine aJ ?_|refine aK rfl ?_);(try simp only[aA])));exact⟨by trivial,aE (by first|rfl|(simp only[Int.natCast_add,Int.natCast_one];rfl)|simp only[Int.natCast_add,Int.natCast_one])⟩
    ·rintro S H2 ⟨rfl,z,rfl⟩
     have hN5:=fY hd5 5 (by omega);have hbs:iN (k+1) l'=if 281474976710656≤aY 900 P then none else(iN k (l'.drop 5)).map (by6 (aY 900 P)++·):=by rw[iN,hP]
     have e5:P.take 5=P:=List.take_of_length_le (by omega);rw[e5]at hN5 ⊢;generalize aY 900 P=N at *;(try simp only[aA]);refine bJ (fun h=>?_) (fun h=>?_)
     ·have hbig:281474976710656≤N:=by simp only[decide_eq_true_eq]at h;omega
      clear h;have hno:iN n l=none:=by rw[hb.resolve_right id,hbs,if_pos hbig];rfl
      refine ij (bp) (by simp(disch:=first|omega|(simp only[aD];omega))only[evB,di,Nat.reduceAdd,Nat.reduceBEq,Int.reduceToNat, *]) (bp) ?_;refine gf ?_
      (repeat (first|rw[cD (by decide)]|simp only[dW,dC,dm]));refine dS ?_
      exact⟨hno,rfl,hst2.1⟩
     have hsm:N<281474976710656:=by simp only[decide_eq_false_iff_not]at h;omega
     clear h;rw[if_neg (by omega)]at hbs;have hlo2:lo≤H'.length:=by have:=hst2.2.2.1;obtain⟨_,_,_,_,_,_,_,hgg,_⟩:=hst2;have:=Heap.get_lt hgg;omega
     (try simp only[aA]);(repeat' ((first|refine aJ ?_|refine aK rfl ?_);(try simp only[aA])));refine ai (fun j S H2=>DecSt H0 lo H2 b wv pos sub shift (out++t++(by6 N).take j)∧∃(z:Nat→Value),S=[.pointer (some ⟨b,0,none⟩),.slice ad l'.length c0,.int .i64 ((k+1:Nat):Int),.int .i64 (N:Nat),z 4,.int .i64 (40-8*(j:Int)),z 6,z 7,z 8,z 9,z 10,z 11,z 12,z 13,z 14,z 15,z 16,z 17,z 18,z 19,z 20]) 6 ?_ ?_ ?_ ?_
     ·exact⟨by simpa using hst2,aE rfl⟩
     ·rintro j S H2 hj ⟨-,z,rfl⟩
      exact⟨_,bp,by simp;omega⟩
     ·rintro j S H2 hj ⟨hst3,z,rfl⟩
      obtain⟨hxc,hb0,hlb,ov,bo,hbo,hne,hg,ho,hob⟩:=hst3.far 5;have hbl:=Heap.get_lt hg;have hx0:=hxc.1;have e1:=Eu (N:=N) hj (H:=H2);generalize hX:N/256^(5-j)=X at *;(try simp only[aA]);(repeat' ((first|refine aJ ?_|refine aK rfl ?_);(try simp only[aA])));rw[BV,show Value.int .u8 ((UInt8.ofNat X).toNat:Int)=bZ (UInt8.ofNat X) from rfl];have hob2:(out++t++(by6 N).take j).length≤1000000:=by simp[by6];omega
      refine gV ?_;refine sB (by omega) hxc hbo ho hob2 ?_;intro a4 m4 H4 hx4 hl4 hk4 ho4;have hg4:=hk4 b _ hg hne.symm;have hb4:=Heap.get_lt hg4;clear ho hg hob2 e1;(try simp only[aA]);(repeat' ((first|refine aJ ?_|refine aK rfl ?_);(try simp only[aA])));refine⟨⟨hx4.set (by omega),hb0,hlb,_,H2.length+1,by omega,by omega,by rw[aN hb4],?_⟩,aE (by simp;omega)⟩;have e6:(by6 N).take (j+1)=(by6 N).take j++[UInt8.ofNat X]:=by
       rw[←hX];rcases(show j=0∨j=1∨j=2∨j=3∨j=4∨j=5 by omega)with rfl|rfl|rfl|rfl|rfl|rfl<;>rfl
      rw[e6,←List.append_assoc];exact fA ho4 (by omega)
     ·rintro S H2 ⟨hst3,z,rfl⟩
      (try simp only[aA]);(repeat' ((first|refine aJ ?_|refine aK rfl ?_);(try simp only[aA])));simp only[dP];refine⟨k,by omega,k,l'.drop 5,t++by6 N,sd,rfl,.inl ?_,by simp;omega,by simp;omega,fun w hm=>hw2 w (List.mem_of_mem_drop hm),hsd,by simpa[by6]using hst3,by simp[by6];omega,?_⟩
      ·rw[hb.resolve_right id,hbs]
       cases iN k (l'.drop 5)<;>simp
      ·exact aE (by rw[show((k+1:Nat):Int)-1=(k:Nat) by omega];rfl)
   ·simp only[decide_eq_false_iff_not]at h;omega
 ·rintro S H' ⟨l',t,s,hb,hl2,hw2,hs2,hst2,ht2,k,z,rfl⟩
  obtain⟨ad,c0,rfl⟩:=hs2.len;(try simp only[aA]);repeat' ((first|refine aJ ?_|refine aK rfl ?_);(try simp only[aA]))
  refine ai (fun i S H2=>DecSt H0 lo H2 b wv pos sub shift (out++t++(l'.take i).map UInt8.ofNat)∧(∀j,j<i→l'.getD j 0≤255)∧∃(z:Nat→Value),S=[.pointer (some ⟨b,0,none⟩),z 1,z 2,z 3,z 4,z 5,z 6,z 7,z 8,z 9,z 10,z 11,z 12,z 13,.slice ad l'.length c0,.int .i64 (l'.length:Nat),.int .i64 (i:Nat),z 17,z 18,z 19,z 20]) l'.length ?_ ?_ ?_ ?_
  ·exact⟨by simpa using hst2,fun j hj=>by omega,aE rfl⟩
  ·rintro i S H2 hi ⟨-,-,z,rfl⟩
   exact⟨_,bp,by simp⟩
  ·rintro i S H2 hi ⟨hst3,hall,z,rfl⟩
   obtain⟨hxc,hb0,hlb,ov,bo,hbo,hne,hg,ho,hob⟩:=hst3.far 5;have hbl:=Heap.get_lt hg;obtain⟨b0,o0,sp0,cap0,xs0,e0,hg0,hx0,hle0⟩:=(hs2.mono hxc).els 0 (by omega);cases e0;have hxa:=hx0 i hi;have hx1:=hxc.1;clear hx0;(try simp only[aA]);(repeat' ((first|refine aJ ?_|refine aK rfl ?_);(try simp only[aA])));refine bJ (fun h=>?_) (fun h=>?_)
   ·have hbig:255<l'.getD i 0:=by simp only[decide_eq_true_eq]at h;omega
    clear h;have hno:iN n l=none:=by
     rw[hb.resolve_right id,iN,if_neg]
     ·rfl
     ·rw[List.all_eq_true]
      intro hc;have:=of_decide_eq_true (hc (l'.getD i 0) (by rw[List.getD_eq_getElem?_getD,List.getElem?_eq_getElem hi];exact List.getElem_mem hi));omega
    refine ij (bp) (by simp(disch:=first|omega|(simp only[aD];omega))only[evB,di,Nat.reduceAdd,Nat.reduceBEq,Int.reduceToNat, *]) (bp) ?_;refine gf ?_
    (repeat (first|rw[cD (by decide)]|simp only[dW,dC,dm]));refine dS ?_
    exact⟨hno,rfl,hxc⟩
   have hsm:l'.getD i 0≤255:=by simp only[decide_eq_false_iff_not]at h;omega
   clear h;have htk:(l'.take (i+1)).map UInt8.ofNat=(l'.take i).map UInt8.ofNat++[UInt8.ofNat (l'.getD i 0)]:=by
    rw[List.take_add_one,List.getElem?_eq_getElem hi,List.getD_eq_getElem?_getD,List.getElem?_eq_getElem hi];simp only[List.map_append,Option.toList_some,List.map_cons,List.map_nil,Option.getD_some]
   have hall2:∀j,j<i+1→l'.getD j 0≤255:=fun j hj=>by
    by_cases e:j=i
    ·subst e;exact hsm
    ·exact hall j (by omega)
   have hob2:(out++t++(l'.take i).map UInt8.ofNat).length≤1000000:=by simp;omega
   rw[htk];clear hall htk;generalize l'.getD i 0=X at *;(try simp only[aA]);(repeat' ((first|refine aJ ?_|refine aK rfl ?_);(try simp only[aA])));rw[show Value.int .u8 (X:Nat)=bZ (UInt8.ofNat X) by
    simp only[bZ,UInt8.toNat_ofNat'];rw[Nat.mod_eq_of_lt (by omega)]]
   refine gV ?_;refine sB (by omega) hxc hbo ho hob2 ?_;intro a4 m4 H4 hx4 hl4 hk4 ho4;have hg4:=hk4 b _ hg hne.symm;have hb4:=Heap.get_lt hg4;clear ho hg hob2;(try simp only[aA]);(repeat' ((first|refine aJ ?_|refine aK rfl ?_);(try simp only[aA])));refine⟨⟨hx4.set (by omega),hb0,hlb,_,H2.length+1,by omega,by omega,by rw[aN hb4],?_⟩,hall2,aE (by first|rfl|(simp only[Int.natCast_add,Int.natCast_one];rfl)|simp only[Int.natCast_add,Int.natCast_one])⟩;rw[←List.append_assoc];exact fA ho4 (by omega)
  ·rintro S H2 ⟨hst3,hall,z,rfl⟩
   rw[List.take_length]at hst3;(try simp only[aA]);refine fP ?_;unfold yH;refine bN rfl ?_;refine⟨t++l'.map UInt8.ofNat,?_,by rw[←List.append_assoc];exact hst3⟩;rw[hb.resolve_right id,iN,if_pos]
   ·rfl
   ·rw[List.all_eq_true]
    intro w hw3;obtain⟨j,hj,rfl⟩:=List.getElem_of_mem hw3;have:=hall j hj;rw[List.getD_eq_getElem?_getD,List.getElem?_eq_getElem hj]at this;exact decide_eq_true this
theorem wT(l:List Nat):(bD l).length≤l.length:=(List.takeWhile_sublist _).length_le
theorem sM:∀{l:List Nat},∀w ∈ bD l,w<900
 | [],w,hw=>by simp[bD]at hw
 | x::l,w,hw=>by
  unfold bD at hw;rw[List.takeWhile_cons]at hw;split at hw
  ·rename_i hx
   rcases List.mem_cons.1 hw with rfl|hw
   ·exact of_decide_eq_true hx
   ·exact sM w hw
  ·simp at hw
theorem oq:∀(l:List Nat),bD l=l.take (bD l).length
 | []=>rfl
 | x::l=>by
  unfold bD;by_cases h:x<900
  ·have ih:=oq l
   unfold bD at ih;simp only[List.takeWhile_cons,h,decide_true,if_true,List.length_cons,List.take_succ_cons];rw[←ih]
  ·simp[List.takeWhile_cons,h]
theorem pr{l:List Nat}{n:Nat}(h:∀j,j<n→l.getD j 0<900)(hn:n≤l.length)(he:n=l.length∨900≤l.getD n 0):(bD l).length=n:=by
 induction l generalizing n with
 | nil=>simp at hn;subst hn;rfl
 | cons x l ih=>
  unfold bD;cases n with
  | zero=>
   rcases he with he|he
   ·simp at he
   ·simp at he
    rw[List.takeWhile_cons,if_neg (by simp;omega)];rfl
  | succ n=>
   have h0:=h 0 (by omega);simp at h0;rw[List.takeWhile_cons,if_pos (by simpa using h0),List.length_cons];congr 1;exact ih (fun j hj=>by have:=h (j+1) (by omega);simpa using this) (by simpa using hn) (by simpa using he)
def rnS(mode:Nat)(r:List Nat):List UInt8×Nat:=
 if (gZ mode (bD r)).2=0 then(if (r.drop (bD r).length).head?=some 913 then([],22) else((gZ mode (bD r)).1,0)) else([],(gZ mode (bD r)).2)
theorem DF{mode:Nat}{r:List Nat}(h1:mode=924)(h2:(bD r).length%5≠0):rnS mode r=([],10):=by
 have:gZ mode (bD r)=([],10):=by rw[gZ,if_neg (by omega),if_pos ⟨h1,h2⟩]
 rw[rnS,this];rfl
theorem DO{mode:Nat}{r:List Nat}(h1:¬ (mode=924∧(bD r).length%5≠0))(h2:(r.drop (bD r).length).head?=some 913):rnS mode r=([],22):=by
 have:(gZ mode (bD r)).2=0∨(gZ mode (bD r)).2=22:=by
  rw[gZ,if_neg h1];split
  ·split<;>simp
  ·split<;>simp
 rw[rnS];split
 ·rfl
 ·rw[this.resolve_left (by assumption)]
theorem FM{mode:Nat}{r:List Nat}{t:List UInt8}(h1:gZ mode (bD r)=(t,0))(h2:(r.drop (bD r).length).head?≠some 913):rnS mode r=(t,0):=by
 rw[rnS,h1,if_pos rfl,if_neg h2]
theorem DG{mode e:Nat}{r:List Nat}{t:List UInt8}(h1:gZ mode (bD r)=(t,e))(h2:e≠0):rnS mode r=([],e):=by
 rw[rnS,h1,if_neg h2]
theorem kM:∀(n:Nat) {d:List Nat} {t:List UInt8},d.length≤n→e9 d=some t→t.length≤44*d.length
 | 0,d,t,hn,h=>by
  have:d=[]:=List.length_eq_zero_iff.1 (by omega);subst this;rw[mO]at h;injection h with h;subst h;simp
 | n+1,d,t,hn,h=>by
  by_cases hd:d=[]
  ·exact kM n (by subst hd;simp) h
  have hd1:=List.length_pos_iff.2 hd;rw[m6 hd]at h;split at h
  ·rename_i hok
   have hok:=jV.1 hok;cases hf:e9 (d.drop 15)with
   | none=>rw[hf]at h;cases h
   | some t'=>
    rw[hf]at h;simp only[Option.map_some,Option.some.injEq]at h;subst h;have:=kM n (by simp;omega) hf;have hl:(nH (d.take 15)).length=(dec (aY 900 (d.take 15))).length-1:=by simp[nH,iR]
    simp only[List.length_append,List.length_drop]at this ⊢;omega
  ·cases h
theorem sW:∀(g:Nat) {l:List Nat} {t:List UInt8},iN g l=some t→t.length≤6*g+l.length
 | 0,l,t,h=>by
  rw[iN]at h;split at h
  ·injection h with h;subst h;simp
  ·cases h
 | g+1,l,t,h=>by
  rw[iN]at h;split at h
  ·cases h
  ·cases hb:iN g (l.drop 5)with
   | none=>rw[hb]at h;cases h
   | some t'=>
    rw[hb]at h;simp only[Option.map_some,Option.some.injEq]at h;subst h;have:=sW g hb;simp only[List.length_append,List.length_drop,by6,List.length_map,List.length_cons,List.length_nil]at this ⊢;omega
theorem zF{mode:Nat}{d:List Nat}{t:List UInt8}(h:gZ mode d=(t,0)):t.length≤44*d.length:=by
 unfold gZ at h;split at h
 ·split at h
  ·rename_i hf
   injection h with h;subst h;exact kM d.length (Nat.le_refl _) hf
  ·simp at h
 ·split at h
  ·simp at h
  ·split at h
   ·rename_i hf
    injection h with h;subst h;have:=sW _ hf;split at this<;>omega
   ·simp at h
theorem DecSt.ext{H0:Heap}{lo:Nat}{H H2:Heap}{b:Nat}{wv:Value}{pos sub shift:Nat}{out:List UInt8}(h:DecSt H0 lo H b wv pos sub shift out)(hx:Ext H H2):DecSt H0 lo H2 b wv pos sub shift out:=by
 obtain⟨h1,h2,h3,ov,bo,h4,h5,h6,h7⟩:=h;exact⟨h1.trans hx,h2,h3,ov,bo,h4,h5,hx.get h6,h7.mono hx⟩
theorem Own.away{lo A:Nat}{H:Heap}{v:Value}{b q:Nat}{l:List UInt8}{ad:Option Addr}{n c:Nat}{cs:List Value}(h:Own lo 1 H v q (l.map bZ))(hA:A≤q)(hg:H.get b=some (.slice ad n c::cs)):∃q',A≤q'∧q'≠b∧Own lo 1 H v q' (l.map bZ):=by
 obtain⟨q1,q2|⟨m,q2,q3,q4,q5⟩⟩:=h
 ·exact⟨lo+A+b+1,by omega,by omega,by omega,.inl q2⟩
 ·refine⟨q,hA,fun e=>?_,q1,.inr ⟨m,q2,q3,q4,q5⟩⟩
  subst e;rw[hg]at q5;injection q5 with q5;cases l with
  | nil=>simp at q5
  | cons x l=>simp[bZ]at q5
theorem I3{H0:Heap}{lo:Nat}{H:Heap}{b:Nat}{wv:Value}{ws:List Nat}{mode pos sub shift:Nat}{out:List UInt8}(hlo:lo≤H.length)(hst:DecSt H0 lo H b wv pos sub shift out)(hws:SlN H0 wv ws)(hpos:pos≤ws.length)(hwl:ws.length≤8192)(hw:∀w ∈ ws,w≤928)(hout:out.length≤400000)(hm:mode=901∨mode=902∨mode=924)(ht:H0.get 0=some gQ) :
  EvE cpx lo 48 [.pointer (some ⟨b,0,none⟩),.int .i64 (mode:Nat)] H
   (fun r H'=>∃t,rnS mode (ws.drop pos)=(t,0)∧DecSt H0 lo H' b wv (pos+(bD (ws.drop pos)).length) sub shift (out++t))
   (fun p H'=>Ext H0 H'∧∃e:Nat,p=tZ e∧e≠0∧rnS mode (ws.drop pos)=([],e)):=by
 obtain⟨hx,hb,hlb,ov,bo,hbo,hne,hg,ho,hob⟩:=hst.far 5;have hbl:=Heap.get_lt hg;obtain⟨ad,c0,rfl⟩:=hws.len;refine JO ?_;unfold ET;simp only[kB,aA];repeat' ((first|refine aJ ?_|refine aK rfl ?_);(try simp only[aA]))
 refine ny (fun S H'=>H=H'∧∃q,pos≤q∧(q≤pos+(bD (ws.drop pos)).length∧pos+(bD (ws.drop pos)).length≤q)∧q≤ws.length∧∃(z:Nat→Value),S=[.pointer (some ⟨b,0,none⟩),.int .i64 (mode:Nat),.int .i64 (q:Nat),z 3,z 4,z 5,z 6,z 7,z 8,z 9]) ?_ ?_
 ·refine bk (fun m S H'=>H=H'∧∃q,(m+q≤ws.length∧ws.length≤m+q)∧pos≤q∧q≤ws.length∧(∀j,j<q-pos→(ws.drop pos).getD j 0<900)∧∃(z:Nat→Value),S=[.pointer (some ⟨b,0,none⟩),.int .i64 (mode:Nat),.int .i64 (q:Nat),z 3,z 4,z 5,z 6,z 7,z 8,z 9]) (ws.length-pos) ?_ ?_
  ·exact⟨rfl,pos,by omega,by omega,by omega,fun j hj=>by omega,aE rfl⟩
  rintro m S H' ⟨rfl,q,hq,hq1,hq2,hall,z,rfl⟩;have hdl:(ws.drop pos).length=ws.length-pos:=by simp
  by_cases hlt:q<ws.length
  ·obtain⟨b0,o0,sp0,cap0,xs0,e0,hg0,hx0,hle0⟩:=(hws.mono hx).els 0 (by omega)
   cases e0;have hxa:=hx0 q hlt;have hat:(ws.drop pos).getD (q-pos) 0=ws.getD q 0:=by
    rw[List.getD_eq_getElem?_getD,List.getD_eq_getElem?_getD,List.getElem?_drop,show pos+(q-pos)=q by omega]
   clear hx0;(try simp only[aA]);refine bJ (fun h=>?_) (fun h=>?_)
   ·have h9:ws.getD q 0<900:=by
     simp only[Bool.and_eq_true,decide_eq_true_eq]at h;omega
    clear h;(try simp only[aA]);(repeat' ((first|refine aJ ?_|refine aK rfl ?_);(try simp only[aA])));simp only[dP];refine⟨m-1,by omega,by trivial,q+1,by omega,by omega,by omega,fun j hj=>?_,aE (by first|rfl|(simp only[Int.natCast_add,Int.natCast_one];rfl)|simp only[Int.natCast_add,Int.natCast_one])⟩;by_cases e:j=q-pos
    ·subst e;rw[hat];exact h9
    ·exact hall j (by omega)
   ·have h9:900≤ws.getD q 0:=by
     simp only[Bool.and_eq_false_iff,decide_eq_false_iff_not]at h;omega
    clear h;have he:=pr (n:=q-pos) hall (by omega) (.inr (by rw[hat];exact h9));(try simp only[aA]);exact⟨by trivial,q,by omega,by omega,by omega,aE rfl⟩
  ·have he:=pr (n:=q-pos) hall (by omega) (.inl (by omega))
   obtain rfl:q=ws.length:=by omega
   have hirr:decide (((ws.length:Nat):Int)<((ws.length:Nat):Int))=false:=by simp
   (try simp only[aA]);refine aF (t:=false) (by simp(disch:=first|omega|(simp only[aD];omega))only[evB,di,Nat.reduceAdd,Nat.reduceBEq,Int.reduceToNat, *];try rfl) (fun h=>by cases h) (fun h=>?_);clear h;(try simp only[aA]);exact⟨by trivial,_,by omega,by omega,by omega,aE rfl⟩
 ·rintro S H' ⟨rfl,q,hq,hqe,hql,z,rfl⟩
  have hdt:=oq (ws.drop pos);have hdlt:=@sM (ws.drop pos);obtain⟨d,hd⟩:∃d,bD (ws.drop pos)=d:=⟨_,rfl⟩;rw[hd]at hqe hdt hdlt;obtain⟨sd,hsd,hsl⟩:=kO (a:=pos) (b:=q) (x:=(pos:Int)) (y:=(q:Int)) hws rfl rfl (by omega) hql;rw[show q-pos=d.length by omega,←hdt]at hsl;obtain⟨a3,c3,rfl⟩:=hsl.len;clear hdt;(try simp only[aA]);repeat' ((first|refine aJ ?_|refine aK rfl ?_);(try simp only[aA]))
  generalize hHs:List.set H b (some [Value.slice ad ws.length c0,.int .i64 ((q:Nat):Int),.int .i64 (sub:Nat),.int .i64 (shift:Nat),ov])=Hs at *;have hxs:Ext H0 Hs:=by rw[←hHs];exact hx.set (by omega)
  have hgs:Heap.get Hs b=some [Value.slice ad ws.length c0,.int .i64 ((q:Nat):Int),.int .i64 (sub:Nat),.int .i64 (shift:Nat),ov]:=by rw[←hHs];exact aN hbl
  have hst2:DecSt H0 lo Hs b (.slice ad ws.length c0) q sub shift out:=⟨hxs,hb,hlb,ov,bo,hbo,hne,hgs,by rw[←hHs];exact fA ho hne⟩;have hls:Hs.length=H.length:=by rw[←hHs];simp
  have eq:q=pos+d.length:=by omega
  have hdd:(ws.drop pos).drop d.length=ws.drop q:=by rw[List.drop_drop,eq]
  clear hHs ho hg hst hob;have etm:((d.length:Nat):Int).tmod 5=((d.length%5:Nat):Int):=rfl;have etd:((d.length:Nat):Int).tdiv 5=((d.length/5:Nat):Int):=rfl;have ete:(((d.length:Nat):Int)-1).tdiv 5=(((d.length-1)/5:Nat):Int):=by
   cases hdl:d.length with
   | zero=>rfl
   | succ n=>rw[show((n+1:Nat):Int)-1=(n:Nat) by omega];rfl
  refine bJ (fun h=>?_) (fun h=>?_)
  ·have e:mode=924∧d.length%5≠0:=by simp only[Bool.and_eq_true,decide_eq_true_eq]at h;omega
   clear h eq hdd;refine ij (bp) (by simp(disch:=first|omega|(simp only[aD];omega))only[evB,di,Nat.reduceAdd,Nat.reduceBEq,Int.reduceToNat, *]) (bp) ?_;refine gf ?_
   (repeat (first|rw[cD (by decide)]|simp only[dW,dC,dm]));refine dS ?_
   exact⟨hxs,10,rfl,by omega,DF e.1 (by rw[hd];exact e.2)⟩
  have hcut:¬ (mode=924∧d.length%5≠0):=by simp only[Bool.and_eq_false_iff,decide_eq_false_iff_not]at h;omega
  clear h eq;(try simp only[aA]);refine dq (fun S H'=>Hs=H'∧((ws.drop q).head?≠some 913)∧∃(z:Nat→Value),S=[.pointer (some ⟨b,0,none⟩),.int .i64 (mode:Nat),z 2,.slice a3 d.length c3,z 4,z 5,z 6,z 7,z 8,z 9]) ?_ ?_
  ·by_cases hq2:q<ws.length
   ·obtain⟨b0,o0,sp0,cap0,xs0,e0,hg0,hx0,hle0⟩:=(hws.mono hxs).els 0 (by omega)
    cases e0;have hxa:=hx0 q hq2;have hh:(ws.drop q).head?=some (ws.getD q 0):=by rw[List.head?_drop,List.getD_eq_getElem?_getD,List.getElem?_eq_getElem hq2];rfl
    rw[hh];clear hx0;generalize ws.getD q 0=y at *;refine bJ (fun h=>?_) (fun h=>?_)
    ·have e:y=913:=by simp at h;omega
     clear h;subst e;refine ij (bp) (by simp(disch:=first|omega|(simp only[aD];omega))only[evB,di,Nat.reduceAdd,Nat.reduceBEq,Int.reduceToNat, *]) (bp) ?_;refine gf ?_
     (repeat (first|rw[cD (by decide)]|simp only[dW,dC,dm]));refine dS ?_
     exact⟨hxs,22,rfl,by omega,DO (by rw[hd];exact hcut) (by rw[hd,hdd,hh])⟩
    ·have e:y≠913:=by simp at h;omega
     clear h;(try simp only[aA]);exact⟨by trivial,by simpa using e,aE rfl⟩
   ·have hirr:decide (((q:Nat):Int)<((ws.length:Nat):Int))=false:=by simp;omega
    refine aF (t:=false) (by simp(disch:=first|omega|(simp only[aD];omega))only[evB,di,Nat.reduceAdd,Nat.reduceBEq,Int.reduceToNat, *];try rfl) (fun h=>by cases h) (fun h=>?_);clear h;(try simp only[aA]);refine⟨by trivial,?_,aE rfl⟩;rw[List.drop_eq_nil_of_le (by omega)];simp
  ·rintro S H' ⟨rfl,h913,z,rfl⟩
   (try simp only[aA]);(repeat' ((first|refine aJ ?_|refine aK rfl ?_);(try simp only[aA])));have hdw:d.length≤8192:=by omega
   have hdn:(ws.drop pos).drop (bD (ws.drop pos)).length=ws.drop q:=by rw[hd,hdd]
   have hpq:pos+(bD (ws.drop pos)).length=q:=by rw[hd];omega
   have hok:∀t,gZ mode d=(t,0)→rnS mode (ws.drop pos)=(t,0):=fun t ht=>FM (by rw[hd];exact ht) (by rw[hdn];exact h913);have hbad:∀t,gZ mode d=(t,22)→rnS mode (ws.drop pos)=([],22):=fun t ht=>DG (by rw[hd];exact ht) (by omega);rw[hpq];clear hdn hpq hdd hd h913 hgs;rcases hm with rfl|rfl|rfl
   ·refine aF (t:=false) (by simp(disch:=first|omega|(simp only[aD];omega))only[evB,di,Nat.reduceAdd,Nat.reduceBEq,Int.reduceToNat, *];try rfl) (fun h=>by cases h) (fun h=>?_)
    clear h;refine aF (t:=true) (by simp(disch:=first|omega|(simp only[aD];omega))only[evB,di,Nat.reduceAdd,Nat.reduceBEq,Int.reduceToNat, *];try rfl) (fun h=>?_) (fun h=>by cases h);clear h;refine iA (bp) (by simp(disch:=first|omega|(simp only[aD];omega))only[evB,di,Nat.reduceAdd,Nat.reduceBEq,Int.reduceToNat, *]) (bp) (yG (n:=(d.length-1)/5) (by omega) hst2 hsl (by omega) hdw hdlt (by omega)) ?_ ?_
    ·rintro r H2 ⟨t,ht,hst3⟩
     (try simp only[aA]);refine fP ?_;unfold tD;refine bN rfl ?_;exact⟨t,hok t (by rw[gZ,if_neg (by decide),if_neg hcut,if_pos rfl,ht]),hst3⟩
    ·rintro p H2 ⟨ht,rfl,hx2⟩
     (repeat (first|rw[cD (by decide)]|simp only[dW,dC,dm]));refine dS ?_
     exact⟨hx2,22,rfl,by omega,hbad [] (by rw[gZ,if_neg (by decide),if_neg hcut,if_pos rfl,ht])⟩
   ·refine aF (t:=false) (by simp(disch:=first|omega|(simp only[aD];omega))only[evB,di,Nat.reduceAdd,Nat.reduceBEq,Int.reduceToNat, *];try rfl) (fun h=>by cases h) (fun h=>?_)
    clear h;refine aF (t:=false) (by simp(disch:=first|omega|(simp only[aD];omega))only[evB,di,Nat.reduceAdd,Nat.reduceBEq,Int.reduceToNat, *];try rfl) (fun h=>by cases h) (fun h=>?_);clear h;(try simp only[aA]);refine gV ?_;refine aC (Bo (by omega) (hsl.mono hxs) hdw hdlt (hxs.get ht)) ?_;rintro r H2 ⟨hx2,rfl⟩;obtain⟨hxt,hbt,hlbt,ov2,bo2,hbo2,hne2,hg2,ho2,hob2⟩:=(hst2.ext hx2).far 5;have hb2:=Heap.get_lt hg2;have hlen2:=hx2.1;have hxt1:=hxt.1;clear hst2 hx2 hsd;cases hf:e9 d with
    | none=>
     (try simp only[aA]);(repeat' ((first|refine aJ ?_|refine aK rfl ?_);(try simp only[aA])));refine bJ (fun h=>?_) (fun h=>?_)
     ·clear h
      refine ij (bp) (by simp(disch:=first|omega|(simp only[aD];omega))only[evB,di,Nat.reduceAdd,Nat.reduceBEq,Int.reduceToNat, *]) (bp) ?_;refine gf ?_
      (repeat (first|rw[cD (by decide)]|simp only[dW,dC,dm]));refine dS ?_
      exact⟨hxt,22,rfl,by omega,hbad [] (by rw[gZ,if_pos rfl,hf])⟩
     ·simp at h
    | some t=>
     have htl:=kM d.length (Nat.le_refl _) hf;have hout2:out.length+t.length≤4294967296:=by omega
     (try simp only[aA]);(repeat' ((first|refine aJ ?_|refine aK rfl ?_);(try simp only[aA])));refine bJ (fun h=>?_) (fun h=>?_)
     ·simp at h
     clear h;(try simp only[aA]);refine gV ?_;refine oG (A:=H0.length) (b:=bo2) (by omega) hbo2 (by omega) ho2 hout2 ?_;intro ov4 H4 b4 hA4 ho4 hk4;have hx4:=hk4.ext hxt hbo2;have hg4:=hk4.get hg2 hne2.symm;have hb4:=Heap.get_lt hg4;obtain⟨q4,hq4,hne4,ho5⟩:=Own.away ho4 hA4 hg4;obtain⟨a4,m4,hov,_⟩:=ho5.len (by omega);subst hov;clear ho4 hk4 ho2 hg2;(try simp only[aA]);(repeat' ((first|refine aJ ?_|refine aK rfl ?_);(try simp only[aA])));refine fP ?_;unfold tD;refine bN rfl ?_;refine⟨t,hok t (by rw[gZ,if_pos rfl,hf]),hx4.set (by omega),hb,hlb,_,q4,hq4,hne4,by rw[aN hb4],fA ho5 hne4⟩
   ·refine aF (t:=true) (by simp(disch:=first|omega|(simp only[aD];omega))only[evB,di,Nat.reduceAdd,Nat.reduceBEq,Int.reduceToNat, *];try rfl) (fun h=>?_) (fun h=>by cases h)
    clear h;refine iA (bp) (by simp(disch:=first|omega|(simp only[aD];omega))only[evB,di,Nat.reduceAdd,Nat.reduceBEq,Int.reduceToNat, *]) (bp) (yG (n:=d.length/5) (by omega) hst2 hsl (by omega) hdw hdlt (by omega)) ?_ ?_
    ·rintro r H2 ⟨t,ht,hst3⟩
     (try simp only[aA]);refine fP ?_;unfold tD;refine bN rfl ?_;exact⟨t,hok t (by rw[gZ,if_neg (by decide),if_neg hcut,if_neg (by decide),ht]),hst3⟩
    ·rintro p H2 ⟨ht,rfl,hx2⟩
     (repeat (first|rw[cD (by decide)]|simp only[dW,dC,dm]));refine dS ?_
     exact⟨hx2,22,rfl,by omega,hbad [] (by rw[gZ,if_neg (by decide),if_neg hcut,if_neg (by decide),ht])⟩
theorem dz(n w:Nat)(r:List Nat)(sub shift:Nat)(out:List UInt8):fo (n+1) (w::r) sub shift out=(if w<900 then match stp sub shift (w/30)with
   | none=>([],22)
   | some (c,x,y)=>match stp x y (w%30)with
    | none=>([],22)
    | some (c2,x2,y2)=>fo n r x2 y2 (out++chS c++chS c2)
  else if w=900 then fo n r 0 0 out
  else if w=913 then match r with
   | []=>([],10)
   | z::r2=>if 255<z then([],22) else fo n r2 sub 0 (out++[UInt8.ofNat z])
  else if w=901∨w=902∨w=924 then
   match gZ w (bD r)with
   | (t,0)=>if (r.drop (bD r).length).head?=some 913 then([],22) else fo n (r.drop (bD r).length) 0 0 (out++t)
   | (_,e)=>([],e)
  else([],22)):=rfl
theorem uk{n w:Nat}{r:List Nat}{sub shift:Nat}{out:List UInt8}(hw:w=901∨w=902∨w=924):fo (n+1) (w::r) sub shift out=if (rnS w r).2=0 then fo n (r.drop (bD r).length) 0 0 (out++(rnS w r).1) else([],(rnS w r).2):=by
 rw[dz,if_neg (by omega),if_neg (by omega),if_neg (by omega),if_pos hw];unfold rnS;rcases gZ w (bD r)with ⟨t,e⟩;cases e with
 | zero=>
  simp only[if_true];split
  ·rfl
  ·rfl
 | succ e=>simp
theorem xA{n:Nat}{w:List Nat}{s h s' h':Nat}{out:List UInt8}(hc:∀x,w.head?=some x→900≤x∧x≠913):fo n w s h out=fo n w s' h' out:=by
 cases n with
 | zero=>rfl
 | succ n=>
  cases w with
  | nil=>rfl
  | cons x w=>
   have:=hc x rfl;have h9:¬ (x<900):=by omega
   simp only[dz,if_neg h9,if_neg this.2]
theorem yn{n:Nat}{mode:Nat}{r:List Nat}{t:List UInt8}{s h s' h':Nat}{out:List UInt8}(hr:rnS mode r=(t,0)):fo n (r.drop (bD r).length) s h out=fo n (r.drop (bD r).length) s' h' out:=by
 refine xA fun x hx=>?_;constructor
 ·clear hr
  induction r with
  | nil=>simp at hx
  | cons y r ih=>
   by_cases hy:y<900
   ·have e:bD (y::r)=y::bD r:=by unfold bD;rw[List.takeWhile_cons,if_pos (by simpa using hy)]
    rw[e,List.length_cons,List.drop_succ_cons]at hx;exact ih hx
   ·have e:bD (y::r)=[]:=by unfold bD;rw[List.takeWhile_cons,if_neg (by simpa using hy)]
    rw[e]at hx;simp at hx;omega
 ·intro e
  subst e;unfold rnS at hr;rw[if_pos hx]at hr;split at hr
  ·simp at hr
  ·rename_i h0
   injection hr with h1 h2;exact h0 h2
theorem C4{mode:Nat}{r:List Nat}{t:List UInt8}(h:rnS mode r=(t,0)):t.length≤44*(bD r).length:=by
 unfold rnS at h;rcases hr:gZ mode (bD r)with ⟨u,e⟩;rw[hr]at h;simp only at h;split at h
 ·rename_i h0
  split at h
  ·simp at h
  ·injection h with h1 h2
   subst h1 h0;exact zF hr
 ·rename_i h0
  injection h with h1 h2;exact absurd h2 h0
theorem Gu{H0:Heap}{lo:Nat}{H:Heap}{b:Nat}{wv:Value}{ws:List Nat}{pos sub shift:Nat}{out:List UInt8}(hlo:lo≤H.length)(hst:DecSt H0 lo H b wv pos sub shift out)(hws:SlN H0 wv ws)(hpos:pos<ws.length)(hwl:ws.length≤8192)(hw:∀w ∈ ws,w≤928)(hs1:sub<4)(hs2:shift<3)(hout:out.length≤44*pos)(ht:H0.get 0=some gQ) :
  EvE cpx lo 30 [.pointer (some ⟨b,0,none⟩)] H
   (fun r H'=>∃pos' sub' shift' out',DecSt H0 lo H' b wv pos' sub' shift' out'∧pos<pos'∧pos'≤ws.length∧sub'<4∧shift'<3∧out'.length≤44*pos'∧∀n,fo (n+1) (ws.drop pos) sub shift out=fo n (ws.drop pos') sub' shift' out')
   (fun p H'=>Ext H0 H'∧∃e:Nat,p=tZ e∧e≠0∧∀n,fo (n+1) (ws.drop pos) sub shift out=([],e)):=by
 obtain⟨hx,hb,hlb,ov,bo,hbo,hne,hg,ho,hob⟩:=hst.far 5;have hbl:=Heap.get_lt hg;have hws1:=hws.mono hx;obtain⟨ad,c0,rfl⟩:=hws.len;obtain⟨b0,o0,sp0,cap0,xs0,e0,hg0,hx0,hle0⟩:=hws1.els 0 (by omega);cases e0;have hxa:=hx0 pos hpos;clear hx0;have hdr:ws.drop pos=ws.getD pos 0::ws.drop (pos+1):=by
  rw[List.drop_eq_getElem_cons hpos,List.getD_eq_getElem?_getD,List.getElem?_eq_getElem hpos];rfl
 have hwp:ws.getD pos 0≤928:=by
  rw[List.getD_eq_getElem?_getD,List.getElem?_eq_getElem hpos];exact hw _ (List.getElem_mem hpos)
 rw[hdr];clear hdr;generalize ws.getD pos 0=w at *;refine HP ?_;unfold Ce;simp only[kB,aA];repeat' ((first|refine aJ ?_|refine aK rfl ?_);(try simp only[aA]))
 have epos:(pos:Int)+1=((pos+1:Nat):Int):=by omega
 rw[epos];generalize hHs:List.set H b (some [Value.slice (some ⟨b0,o0,sp0⟩) ws.length c0,.int .i64 ((pos+1:Nat):Int),.int .i64 (sub:Nat),.int .i64 (shift:Nat),ov])=Hs at *;have hxs:Ext H0 Hs:=by rw[←hHs];exact hx.set (by omega)
 have hgs:Heap.get Hs b=some [Value.slice (some ⟨b0,o0,sp0⟩) ws.length c0,.int .i64 ((pos+1:Nat):Int),.int .i64 (sub:Nat),.int .i64 (shift:Nat),ov]:=by rw[←hHs];exact aN hbl
 have hst2:DecSt H0 lo Hs b (.slice (some ⟨b0,o0,sp0⟩) ws.length c0) (pos+1) sub shift out:=⟨hxs,hb,hlb,ov,bo,hbo,hne,hgs,by rw[←hHs];exact fA ho hne⟩;have hls:Hs.length=H.length:=by rw[←hHs];simp
 clear hHs ho hg hst hob epos;refine bJ (fun h=>?_) (fun h=>?_)
 ·have e:w<900:=by simp only[decide_eq_true_eq]at h;omega
  clear h;have e1:(w:Int).tdiv 30=((w/30:Nat):Int):=rfl;have e2:(w:Int).tmod 30=((w%30:Nat):Int):=rfl;(try simp only[aA]);refine iA (bp) (by simp(disch:=first|omega|(simp only[aD];omega))only[evB,di,Nat.reduceAdd,Nat.reduceBEq,Int.reduceToNat, *]) (bp) (xC (v:=w/30) (by omega) hst2 rfl hs1 hs2 (by omega) (by omega)) ?_ ?_
  ·rintro r H2 ⟨c,x,y,hs,hst3⟩
   have k1:=nz hs1 hs2 (show w/30<30 by omega) hs;have hl3:=hst3.far 5;obtain⟨hx3,_,_,_,_,_,_,hg3,_,_⟩:=hl3;have hx31:=hx3.1;have hb3:=Heap.get_lt hg3;have hch:(chS c).length≤1:=by unfold chS;split<;>simp
   clear hgs hg3;(try simp only[aA]);refine iA (bp) (by simp(disch:=first|omega|(simp only[aD];omega))only[evB,di,Nat.reduceAdd,Nat.reduceBEq,Int.reduceToNat, *]) (bp) (xC (v:=w%30) (by omega) hst3 rfl k1.2.2.1 k1.2.2.2 (by omega) (by simp;omega)) ?_ ?_
   ·rintro r H4 ⟨c2,x2,y2,hs4,hst4⟩
    have k2:=nz k1.2.2.1 k1.2.2.2 (Nat.mod_lt w (by decide)) hs4;have hch2:(chS c2).length≤1:=by unfold chS;split<;>simp
    (try simp only[aA]);refine fP ?_;unfold rQ;refine bN rfl ?_;refine⟨pos+1,x2,y2,_,hst4,by omega,by omega,k2.2.2.1,k2.2.2.2,by simp;omega,fun n=>?_⟩;rw[dz,if_pos e,hs];simp only;rw[hs4]
   ·rintro p H4 ⟨hs4,rfl,hx4⟩
    (repeat (first|rw[cD (by decide)]|simp only[dW,dC,dm]));refine dS ?_
    refine⟨hx4,22,rfl,by omega,fun n=>?_⟩;rw[dz,if_pos e,hs];simp only;rw[hs4]
  ·rintro p H2 ⟨hs,rfl,hx3⟩
   (repeat (first|rw[cD (by decide)]|simp only[dW,dC,dm]));refine dS ?_
   refine⟨hx3,22,rfl,by omega,fun n=>?_⟩;rw[dz,if_pos e,hs]
 have h9:¬ (w<900):=by simp only[decide_eq_false_iff_not]at h;omega
 clear h;(try simp only[aA]);refine bJ (fun h=>?_) (fun h=>?_)
 ·have e:w=900:=by simp only[decide_eq_true_eq]at h;omega
  clear h;subst e;(try simp only[aA]);have hbs:=Heap.get_lt hgs;repeat' ((first|refine aJ ?_|refine aK rfl ?_);(try simp only[aA]))
  refine fP ?_;unfold rQ;refine bN rfl ?_;refine⟨pos+1,0,0,out,?_,by omega,by omega,by omega,by omega,by omega,fun n=>?_⟩
  ·obtain⟨hx5,_,_,ov5,bo5,hbo5,hne5,hg5,ho5⟩:=hst2
   rw[hgs]at hg5;injection hg5 with hg5;injection hg5 with _ hg5;injection hg5 with _ hg5;injection hg5 with _ hg5;injection hg5 with _ hg5;injection hg5 with hg5 _;subst hg5;exact⟨hxs.set (by omega),hb,hlb,ov,bo5,hbo5,hne5,by rw[aN hbs];rfl,fA ho5 hne5⟩
  ·rw[dz,if_neg (by omega),if_pos rfl]
 have h900:¬ (w=900):=by simp only[decide_eq_false_iff_not]at h;omega
 clear h;(try simp only[aA]);refine bJ (fun h=>?_) (fun h=>?_)
 ·have e:w=913:=by simp only[decide_eq_true_eq]at h;omega
  clear h;subst e;(try simp only[aA]);refine iA (bp) (by simp(disch:=first|omega|(simp only[aD];omega))only[evB,di,Nat.reduceAdd,Nat.reduceBEq,Int.reduceToNat, *]) (bp) (BK (by omega) hst2 hws (by omega) hwl hw (by omega)) ?_ ?_
  ·rintro r H2 ⟨hlt,h255,hst3⟩
   (try simp only[aA]);refine fP ?_;unfold rQ;refine bN rfl ?_;refine⟨pos+1+1,sub,0,_,hst3,by omega,by omega,hs1,by omega,by simp;omega,fun n=>?_⟩;have hdr:ws.drop (pos+1)=ws.getD (pos+1) 0::ws.drop (pos+1+1):=by
    rw[List.drop_eq_getElem_cons hlt,List.getD_eq_getElem?_getD,List.getElem?_eq_getElem hlt];rfl
   rw[dz,if_neg (by omega),if_neg (by omega),if_pos rfl,hdr];simp only;rw[if_neg (by omega)]
  ·rintro p H2 ⟨hx2,⟨he,rfl⟩|⟨hlt,h255,rfl⟩⟩
   ·(repeat (first|rw[cD (by decide)]|simp only[dW,dC,dm]));refine dS ?_
    refine⟨hx2,10,rfl,by omega,fun n=>?_⟩;rw[dz,if_neg (by omega),if_neg (by omega),if_pos rfl,List.drop_eq_nil_of_le (by omega)]
   ·(repeat (first|rw[cD (by decide)]|simp only[dW,dC,dm]));refine dS ?_
    refine⟨hx2,22,rfl,by omega,fun n=>?_⟩;have hdr:ws.drop (pos+1)=ws.getD (pos+1) 0::ws.drop (pos+1+1):=by
     rw[List.drop_eq_getElem_cons hlt,List.getD_eq_getElem?_getD,List.getElem?_eq_getElem hlt];rfl
    rw[dz,if_neg (by omega),if_neg (by omega),if_pos rfl,hdr];simp only;rw[if_pos h255]
 have h913:¬ (w=913):=by simp only[decide_eq_false_iff_not]at h;omega
 clear h;(try simp only[aA]);refine bJ (fun h=>?_) (fun h=>?_)
 ·have e:w=901∨w=902∨w=924:=by simp only[Bool.or_eq_true,decide_eq_true_eq]at h;omega
  clear h;(try simp only[aA]);refine iA (bp) (by simp(disch:=first|omega|(simp only[aD];omega))only[evB,di,Nat.reduceAdd,Nat.reduceBEq,Int.reduceToNat, *]) (bp) (I3 (mode:=w) (by omega) hst2 hws (by omega) hwl hw (by omega) e ht) ?_ ?_
  ·rintro r H2 ⟨t,hr,hst3⟩
   have htl:=C4 hr;have hdl:=wT (ws.drop (pos+1));simp only[List.length_drop]at hdl;(try simp only[aA]);refine fP ?_;unfold rQ;refine bN rfl ?_;refine⟨_,sub,shift,_,hst3,by omega,by omega,hs1,hs2,by simp;omega,fun n=>?_⟩;rw[uk e,hr,if_pos rfl,show ws.drop (pos+1+(bD (ws.drop (pos+1))).length)=(ws.drop (pos+1)).drop (bD (ws.drop (pos+1))).length by rw[List.drop_drop]];exact yn hr
  ·rintro p H2 ⟨hx2,e2,rfl,he2,hr⟩
   (repeat (first|rw[cD (by decide)]|simp only[dW,dC,dm]));refine dS ?_
   refine⟨hx2,e2,rfl,he2,fun n=>?_⟩;rw[uk e,hr,if_neg he2]
 ·have e:¬ (w=901∨w=902∨w=924):=by simp only[Bool.or_eq_false_iff,decide_eq_false_iff_not]at h;omega
  clear h;(try simp only[aA]);refine ij (bp) (by simp(disch:=first|omega|(simp only[aD];omega))only[evB,di,Nat.reduceAdd,Nat.reduceBEq,Int.reduceToNat, *]) (bp) ?_;refine gf ?_
  (repeat (first|rw[cD (by decide)]|simp only[dW,dC,dm]));refine dS ?_
  refine⟨hxs,22,rfl,by omega,fun n=>?_⟩;rw[dz,if_neg h9,if_neg h900,if_neg h913,if_neg e]
theorem vH{cp:FuncId→Option CF}{lo j:Nat}{mid rest:Stm}{res:List E}{R:Value→Heap→Prop}{S:List Value}{H:Heap}{vs:List Value}(h:evList S H res=some vs)(k:R (aP vs) H):rP cp lo mid j rest res R .ret S H:=by
 simp only[rP,rn,h];exact k
theorem vC{res:List E}{R:Value→Heap→Prop}{S:List Value}{H:Heap}{vs:List Value}(h:evList S H res=some vs)(k:R (aP vs) H):rn res R S H:=by
 simp only[rn,h];exact k
def okD(w:Int):Bool:=decide (0≤w)&&decide (w≤928)
theorem Al(l:List Int):sb l=if 8192<l.length then([],4) else if l.all okD then fo (l.length+1) (l.map Int.toNat) 0 0 [] else([],3):=rfl
theorem BT{l:List Int}{i:Nat}(hi:i<l.length)(h:okD (l.getD i 0)=false):l.all okD=false:=by
 rw[←Bool.not_eq_true,List.all_eq_true];intro hc;rw[List.getD_eq_getElem?_getD,List.getElem?_eq_getElem hi]at h;exact absurd (hc _ (List.getElem_mem hi)) (by simpa using h)
theorem BO{l:List Int}(h:∀j,j<l.length→okD (l.getD j 0)=true):l.all okD=true:=by
 rw[List.all_eq_true];intro w hw;obtain⟨j,hj,rfl⟩:=List.getElem_of_mem hw;have:=h j hj;rwa [List.getD_eq_getElem?_getD,List.getElem?_eq_getElem hj]at this
def G6(H:Heap)(r:Value)(q:List UInt8×Nat):Prop:=∃v,r=.tuple #[v,.int .i64 (q.2:Nat)]∧Sl bZ H v q.1
theorem Ao{lo:Nat}{H:Heap}{v:Value}{l:List Int}(hlo:lo≤H.length)(hl:SlI H v l)(ht:H.get 0=some gQ) :
  Ev cpx lo 18 [v] H (fun r H'=>Ext H H'∧G6 H' r (sb l)):=by
 have hl0:=hl;obtain⟨ad,c0,rfl⟩:=hl.len;rw[Al];refine Iw ?_;unfold DK;simp only[kB,aA];repeat' ((first|refine aJ ?_|refine aK rfl ?_);(try simp only[aA]))
 have hxG:Ext H (H++[some [Value.slice none 0 0],some [.int .i64 0]]):=Ext.app _ _;have hg1:Heap.get (H++[some [Value.slice none 0 0],some [.int .i64 0]]) H.length=some [Value.slice none 0 0]:=aH;have hg2:Heap.get (H++[some [Value.slice none 0 0],some [.int .i64 0]]) (H.length+1)=some [.int .i64 0]:=by rw[dH];rfl
 have hlG:(H++[some [Value.slice none 0 0],some [.int .i64 0]]).length=H.length+2:=by simp
 generalize H++[some [Value.slice none 0 0],some [.int .i64 0]]=G at *;refine bJ (fun h=>?_) (fun h=>?_)
 ·have hc:8192<l.length:=by simp only[decide_eq_true_eq]at h;omega
  clear h;rw[if_pos hc];(try simp only[aA]);repeat' ((first|refine aJ ?_|refine aK rfl ?_);(try simp only[aA]))
  refine vH (by unfold cf18;simp(disch:=first|omega|(simp only[aD];omega))only[evB,di,Nat.reduceAdd,Nat.reduceBEq,Int.reduceToNat, *];rfl) ?_;exact⟨(hxG.set (Nat.le_refl _)).set (by omega),_,rfl,.inl ⟨rfl,rfl⟩⟩
 have hc:l.length≤8192:=by simp only[decide_eq_false_iff_not]at h;omega
 clear h;rw[if_neg (by omega)];(try simp only[aA]);repeat' ((first|refine aJ ?_|refine aK rfl ?_);(try simp only[aA]))
 refine ai (fun i S H'=>G=H'∧(∀j,j<i→okD (l.getD j 0)=true)∧∃(z:Nat→Value),S=[.slice ad l.length c0,.pointer (some ⟨H.length,0,none⟩),.pointer (some ⟨H.length+1,0,none⟩),z 3,z 4,.slice ad l.length c0,.int .i64 (l.length:Nat),.int .i64 (i:Nat),z 8,z 9]) l.length ?_ ?_ ?_ ?_
 ·exact⟨rfl,fun j hj=>by omega,aE rfl⟩
 ·rintro i S H' hi ⟨rfl,-,z,rfl⟩
  exact⟨_,bp,by simp⟩
 ·rintro i S H' hi ⟨rfl,hall,z,rfl⟩
  obtain⟨b0,o0,sp0,cap0,xs0,e0,hg0,hx0,hle0⟩:=(hl.mono hxG).els 0 (by omega);cases e0;have hxa:=hx0 i hi;(try simp only[aA]);repeat' ((first|refine aJ ?_|refine aK rfl ?_);(try simp only[aA]))
  refine bJ (fun h=>?_) (fun h=>?_)
  ·have hno:okD (l.getD i 0)=false:=by
    simp only[Bool.or_eq_true,decide_eq_true_eq]at h;simp only[okD,Bool.and_eq_false_iff,decide_eq_false_iff_not];omega
   clear h;rw[BT hi hno];clear hg0 hx0 hxa hle0;(try simp only[aA]);(repeat' ((first|refine aJ ?_|refine aK rfl ?_);(try simp only[aA])));refine vH (by unfold cf18;simp(disch:=first|omega|(simp only[aD];omega))only[evB,di,Nat.reduceAdd,Nat.reduceBEq,Int.reduceToNat, *];rfl) ?_;exact⟨(hxG.set (Nat.le_refl _)).set (by omega),_,rfl,.inl ⟨rfl,rfl⟩⟩
  ·have hyes:okD (l.getD i 0)=true:=by
    simp only[Bool.or_eq_false_iff,decide_eq_false_iff_not]at h;simp only[okD,Bool.and_eq_true,decide_eq_true_eq];omega
   clear h;(try simp only[aA]);(repeat' ((first|refine aJ ?_|refine aK rfl ?_);(try simp only[aA])));refine⟨by trivial,fun j hj=>?_,aE (by first|rfl|(simp only[Int.natCast_add,Int.natCast_one];rfl)|simp only[Int.natCast_add,Int.natCast_one])⟩;by_cases e:j=i
   ·subst e;exact hyes
   ·exact hall j (by omega)
 ·rintro S H' ⟨rfl,hall,z,rfl⟩
  have hall:=BO hall;rw[hall];have hmem:=List.all_eq_true.1 hall;have hr:∀w ∈ l,0≤w∧w≤928:=fun w hw=>by
   have:=hmem w hw;simpa only[okD,Bool.and_eq_true,decide_eq_true_eq]using this
  have hw928:∀w ∈ l.map Int.toNat,w≤928:=fun w hw=>by
   obtain⟨x,hx,rfl⟩:=List.mem_map.1 hw;have:=hr x hx;omega
  have hsl:=yZ hl fun w hw=>(hr w hw).1;have hln:l.length=(l.map Int.toNat).length:=by simp
  rw[if_pos rfl];generalize l.map Int.toNat=ws at *;rw[hln]at hsl hc;rw[hln];clear hln hall hmem hr hl hl0;(try simp only[aA]);simp only[rP];unfold Ds;simp only[kB,aA];repeat' ((first|refine aJ ?_|refine aK rfl ?_);(try simp only[aA]))
  simp only[DR,List.getElem?_cons_succ,List.getElem?_cons_zero];unfold E8;simp only[kB,aA];have hst:aR lo (.st 5) [.pointer (some ⟨H.length+2,0,none⟩),.agg #[Value.slice ad ws.length c0,.int .i64 0,.int .i64 0,.int .i64 0,.slice none 0 0]] (G++[some [Value.slice none 0 0,.int .i64 0,.int .i64 0,.int .i64 0,.slice none 0 0]])=some (undef,G++[some [Value.slice ad ws.length c0,.int .i64 0,.int .i64 0,.int .i64 0,.slice none 0 0]]):=by
   have hg:Heap.get (G++[some [Value.slice none 0 0,.int .i64 0,.int .i64 0,.int .i64 0,.slice none 0 0]]) (H.length+2)=some [Value.slice none 0 0,.int .i64 0,.int .i64 0,.int .i64 0,.slice none 0 0]:=by rw[←hlG];exact aH
   simp only[aR,hsem];rw[if_pos (by exact⟨rfl,rfl⟩)];show Option.map _ (Heap.put lo _ (H.length+2) 0 [Value.slice ad ws.length c0,.int .i64 0,.int .i64 0,.int .i64 0,.slice none 0 0])=_;rw[iY hg (by omega) (by simp)];simp[putCells,←hlG]
  repeat' ((first|refine aJ ?_|refine aK rfl ?_);(try simp only[aA]))
  clear hst;have hxD:=Ext.app G [some [Value.slice ad ws.length c0,.int .i64 0,.int .i64 0,.int .i64 0,.slice none 0 0]];have hgD:Heap.get (G++[some [Value.slice ad ws.length c0,.int .i64 0,.int .i64 0,.int .i64 0,.slice none 0 0]]) (H.length+2)=some [Value.slice ad ws.length c0,.int .i64 0,.int .i64 0,.int .i64 0,.slice none 0 0]:=by rw[←hlG];exact aH
  have hst:DecSt G lo (G++[some [Value.slice ad ws.length c0,.int .i64 0,.int .i64 0,.int .i64 0,.slice none 0 0]]) (H.length+2) (Value.slice ad ws.length c0) 0 0 0 []:=⟨hxD,by omega,by omega,_,H.length+3,by omega,by omega,hgD,by omega,.inl ⟨rfl,rfl⟩⟩;generalize G++[some [Value.slice ad ws.length c0,.int .i64 0,.int .i64 0,.int .i64 0,.slice none 0 0]]=D at *;have hslG:=hsl.mono hxG;have htG:=hxG.get ht;have hgl1:H.length<G.length:=by omega
  have hfin:∀(n:Nat) (pos sub shift:Nat) (out:List UInt8),pos=ws.length→0<n→fo n (ws.drop pos) sub shift out=(out,0):=by
   intro n pos sub shift out h1 h2;obtain⟨n,rfl⟩:∃m,n=m+1:=⟨n-1,by omega⟩;rw[List.drop_eq_nil_of_le (by omega),fo]
  refine bk (fun m S H'=>∃n pos sub shift out,m+pos=ws.length∧ws.length+1≤n+pos∧sub<4∧shift<3∧out.length≤44*pos∧(False∨fo (ws.length+1) ws 0 0 []=fo n (ws.drop pos) sub shift out)∧DecSt G lo H' (H.length+2) (Value.slice ad ws.length c0) pos sub shift out∧∃(z:Nat→Value),S=[.slice ad ws.length c0,.pointer (some ⟨H.length,0,none⟩),.pointer (some ⟨H.length+1,0,none⟩),z 3,.pointer (some ⟨H.length+2,0,none⟩),z 5,z 6,z 7,z 8,z 9]) ws.length ?_ ?_
  ·exact⟨ws.length+1,0,0,0,[],by omega,by omega,by omega,by omega,by simp,.inr rfl,hst,aE rfl⟩
  clear hst hxD hgD;rintro m S H' ⟨n,pos,sub,shift,out,hm,hn,hs1,hs2,hout,hd,hst,z,rfl⟩;obtain⟨hx,hb,hlb,ov,bo,hbo,hne,hg,ho,hob⟩:=hst.far 5;have hbl:=Heap.get_lt hg;have hx1:=hx.1;(try simp only[aA]);refine bJ (fun h=>?_) (fun h=>?_)
  ·have hlt:pos<ws.length:=by simp only[decide_eq_true_eq]at h;omega
   clear h;(try simp only[aA]);refine iA (bp) (by simp(disch:=first|omega|(simp only[aD];omega))only[evB,di,Nat.reduceAdd,Nat.reduceBEq,Int.reduceToNat, *]) (bp) (Gu (by omega) hst hslG hlt (by omega) hw928 hs1 hs2 hout htG) ?_ ?_
   ·rintro r H2 ⟨pos2,sub2,shift2,out2,hst2,h1,h2,h3,h4,h5,h6⟩
    obtain⟨n,rfl⟩:∃k,n=k+1:=⟨n-1,by omega⟩;(try simp only[aA]);simp only[dP];refine⟨ws.length-pos2,by omega,n,pos2,sub2,shift2,out2,by omega,by omega,h3,h4,h5,.inr ?_,hst2,aE rfl⟩;rw[hd.resolve_left id,h6 n]
   ·rintro p H2 ⟨hx2,e,rfl,he,hno⟩
    obtain⟨n,rfl⟩:∃k,n=k+1:=⟨n-1,by omega⟩;rw[hd.resolve_left id,hno n];have q1:=hx2.get hg1;have q2:=hx2.get hg2;have hx21:=hx2.1;have hxX:=hxG.trans hx2;clear hst hd ho hg hno hm hn hout hs1 hs2 hob hg1 hg2 hx hx1 hbl hx2;simp only[dW,dC,cD (show 3<999999 by decide),cD (show 2<999999 by decide)];refine⟨rfl,?_⟩;refine⟨vP,4,rfl,rfl,rfl,?_⟩;unfold vP Dd tZ;simp only[kB,aA];have hloX:lo≤H2.length:=by omega
    have hst:aR lo (.st 1) [.pointer (some ⟨H2.length,0,none⟩),.agg #[.int .i64 (e:Nat)]] (H2++[some [.int .i64 0]])=some (undef,H2++[some [.int .i64 (e:Nat)]]):=by
     have hg:Heap.get (H2++[some [.int .i64 0]]) H2.length=some [.int .i64 0]:=aH;simp only[aR,hsem];rw[if_pos (by exact⟨rfl,rfl⟩)];show Option.map _ (Heap.put lo _ H2.length 0 [Value.int .i64 (e:Nat)])=_;rw[iY hg hloX (by simp)];simp[putCells]
    (repeat' ((first|refine aJ ?_|refine aK rfl ?_);(try simp only[aA])));refine eV rfl (bp) (by simp(disch:=first|omega|(simp only[aD];omega))only[evB,di,Nat.reduceAdd,Nat.reduceBEq,Int.reduceToNat, *]) (bp) hst (bp) ?_;(try simp only[aA]);(repeat' ((first|refine aJ ?_|refine aK rfl ?_);(try simp only[aA])));refine bJ (fun h=>?_) (fun h=>?_)
    ·(try simp only[aA])
     (repeat' ((first|refine aJ ?_|refine aK rfl ?_);(try simp only[aA])));refine uQ (bp) (bp) (by right;simp[bE];try omega) ?_;(try simp only[aA]);refine vC (by unfold cf18;simp(disch:=first|omega|(simp only[aD];omega))only[evB,di,Nat.reduceAdd,Nat.reduceBEq,Int.reduceToNat, *];rfl) ?_;exact⟨((hxX.set (Nat.le_refl _)).set (by omega)).trans (Ext.app _ _),_,rfl,.inl ⟨rfl,rfl⟩⟩
    ·exfalso;simp at h
  ·have hlt:pos=ws.length:=by simp only[decide_eq_false_iff_not]at h;omega
   clear h;rw[hd.resolve_left id,hfin n pos sub shift out hlt (by omega)];obtain⟨a4,m4,hov,_⟩:=ho.len (by omega);subst hov;have q1:=hx.get hg1;have q2:=hx.get hg2;clear hd hm hn hs1 hs2 hout hst hfin;(try simp only[aA]);(repeat' ((first|refine aJ ?_|refine aK rfl ?_);(try simp only[aA])));have ho2:Own lo 1 ((List.set H' H.length (some [Value.slice a4 m4 m4])).set (H.length+1) (some [Value.int .i64 0])) (.slice a4 m4 m4) bo (out.map bZ):=fA (fA ho (by omega)) (by omega);have y1:Heap.get ((List.set H' H.length (some [Value.slice a4 m4 m4])).set (H.length+1) (some [Value.int .i64 0])) H.length=some [Value.slice a4 m4 m4]:=by rw[aM (by omega),aN (by omega)]
   have y2:Heap.get ((List.set H' H.length (some [Value.slice a4 m4 m4])).set (H.length+1) (some [Value.int .i64 0])) (H.length+1)=some [Value.int .i64 0]:=by rw[aN (by simp;omega)]
   have hxY:Ext H ((List.set H' H.length (some [Value.slice a4 m4 m4])).set (H.length+1) (some [Value.int .i64 0])):=((hxG.trans hx).set (Nat.le_refl _)).set (by omega);have hlY:H.length+2<((List.set H' H.length (some [Value.slice a4 m4 m4])).set (H.length+1) (some [Value.int .i64 0])).length:=by simp;omega
   generalize (List.set H' H.length (some [Value.slice a4 m4 m4])).set (H.length+1) (some [Value.int .i64 0])=Y at *;clear ho hg q1 q2 hob hbl hx1 hx;refine⟨vP,4,rfl,rfl,rfl,?_⟩;unfold vP Dd;simp only[kB,aA];have hloY:lo≤Y.length:=by omega
   have hst:aR lo (.st 1) [.pointer (some ⟨Y.length,0,none⟩),.agg #[.int .i64 0]] (Y++[some [.int .i64 0]])=some (undef,Y++[some [.int .i64 0]]):=by
    have hg:Heap.get (Y++[some [.int .i64 0]]) Y.length=some [.int .i64 0]:=aH;simp only[aR,hsem];rw[if_pos (by exact⟨rfl,rfl⟩)];show Option.map _ (Heap.put lo _ Y.length 0 [Value.int .i64 0])=_;rw[iY hg hloY (by simp)];simp[putCells]
   (repeat' ((first|refine aJ ?_|refine aK rfl ?_);(try simp only[aA])));refine eV rfl (bp) (by simp(disch:=first|omega|(simp only[aD];omega))only[evB,di,Nat.reduceAdd,Nat.reduceBEq,Int.reduceToNat, *]) (bp) hst (bp) ?_;(try simp only[aA]);(repeat' ((first|refine aJ ?_|refine aK rfl ?_);(try simp only[aA])));refine bJ (fun h=>?_) (fun h=>?_)
   ·exfalso;simp at h
   (try simp only[aA]);refine vC (by unfold cf18;simp(disch:=first|omega|(simp only[aD];omega))only[evB,di,Nat.reduceAdd,Nat.reduceBEq,Int.reduceToNat, *];rfl) ?_;exact⟨hxY.trans (Ext.app _ _),_,rfl,Sl.ofOwn (ho2.mono (Ext.app _ _))⟩
end Go.Proofs.YtgpolmomghejoaaDoor
