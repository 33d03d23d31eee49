/- Lemmas. -/
import Derived.Test.YtgpolmomghejoaaDoorE13
set_option linter.unusedVariables false
set_option linter.unusedSimpArgs false
set_option linter.unusedSectionVars false
namespace Go.Proofs.YtgpolmomghejoaaDoor
open Go.Abs
def cpx(f:FuncId):Option CF:=if f=45 then some ⟨1,0,[],.skip,.prim g45⟩ else cp f
theorem fN:Sub cp cpx:=fun f cf h=>by
 unfold cpx;split
 ·rename_i e;subst e;cases h
 ·exact h
theorem wX:iB Tryd.prog cpx:=fun f cf h=>by
 unfold cpx at h;split at h
 ·grind[vi]
 ·exact l8 f cf h
theorem Cb(base n:Nat):RunOK Tryd.prog base Tryd.prog.globals.size (run cpx n):=sound mixed wX base n
theorem HO{lo:Nat}{H:Heap}{v:Value}{N:Nat}(hv:IsN H v N)(hN:(aj N).length≤512)(ht:H.get 0=some gQ):Ev cpx lo 45 [v] H (fun r H'=>r=bh (sf N)∧H'=H):=
 th rfl rfl rfl (DZ hv hN ht) ⟨rfl,rfl⟩
theorem xt5{lo:Nat}{H:Heap}{R:Value→Heap→Prop}{a0:Value}(h:wpS cpx lo bd5 (aS cf5 R) [a0,undef,undef,undef,undef,undef,undef,undef,undef,undef,undef,undef,undef,undef,undef,undef] H):Ev cpx lo 5 [a0] H R:=aI (cf:=cf5) rfl rfl rfl h
theorem Iy{lo:Nat}{H:Heap}{R:Value→Heap→Prop}(h:wpS cpx lo Ei (aS y7 R) [undef,undef,undef,undef,undef,undef,undef,undef,undef,undef,undef,undef,undef,undef,undef,undef,undef,undef,undef,undef,undef,undef,undef,undef,undef,undef,undef,undef,undef,undef,undef,undef,undef,undef,undef,undef,undef] H):Ev cpx lo 12 [] H R:=aI (cf:=y7) rfl rfl rfl h
theorem Jb{lo:Nat}{H:Heap}{R:Value→Heap→Prop}{a0:Value}(h:wpS cpx lo Dy (aS yW R) [a0,undef,undef,undef,undef,undef,undef,undef,undef,undef] H):Ev cpx lo 15 [a0] H R:=aI (cf:=yW) rfl rfl rfl h
theorem Iw{lo:Nat}{H:Heap}{R:Value→Heap→Prop}{a0:Value}(h:wpS cpx lo DK (rP cpx lo Ds 8 E8 cf18.res R) [a0,undef,undef,undef,undef,undef,undef,undef,undef,undef] H):Ev cpx lo 18 [a0] H R:=vg (cf:=cf18) rfl rfl rfl h
theorem IG{lo:Nat}{H:Heap}{R:Value→Heap→Prop}{a0 a1:Value}(h:wpS cpx lo CJ (aS yK R) [a0,a1,undef,undef,undef,undef] H):Ev cpx lo 23 [a0,a1] H R:=aI (cf:=yK) rfl rfl rfl h
theorem Hm{lo:Nat}{H:Heap}{R:Value→Heap→Prop}{a0:Value}(h:wpS cpx lo CY (aS zh R) [a0,undef,undef,undef,undef,undef,undef,undef,undef,undef,undef,undef,undef] H):Ev cpx lo 26 [a0] H R:=aI (cf:=zh) rfl rfl rfl h
def pF:Nat→Nat→List Nat
 | 0,_=>[]
 | m+1,r=>pF m (r/10)++[r%10]
theorem sA{N:Nat}(h:N≠0):dec N=dec (N/10)++[N%10]:=by
 have:=sX (a:=N/10) (b:=N%10) (Nat.mod_lt _ (by decide)) (by omega)
 grind
theorem uj{M:Nat}(hM:M≠0):∀(m r:Nat),r<10^m→dec (M*10^m+r)=dec M++pF m r
 | 0,r,h=>by
  grind[pF]
 | m+1,r,h=>by
  have h1:r/10<10^m:=by omega
  have hp:M*10^(m+1)=(M*10^m)*10:=by grind
  have hne:M*10^(m+1)+r≠0:=by
   have:0<M*10^(m+1):=Nat.mul_pos (by omega) (Nat.pow_pos (by decide));omega
  rw[sA hne,show(M*10^(m+1)+r)/10=M*10^m+r/10 by omega,show(M*10^(m+1)+r)%10=r%10 by omega,uj hM m _ h1,pF,List.append_assoc]
theorem EH:∀(u:Nat),u≠0→Lib.decDigits u=iR (dec u):=by
 intro u
 induction u using Nat.strongRecOn with
 | _ u ih=>
  grind[sA,Lib.decDigits,jc,iR]
theorem rU:∀m,iR (pF m 0)=List.replicate m 48
 | 0=>rfl
 | m+1=>by
  have ih:=rU m
  grind[List.replicate_succ',pF,iR]
theorem xF:∀(m g:Nat),0<m→g<10^m→List.replicate (m-(Lib.decDigits g).length) 48++Lib.decDigits g=iR (pF m g)
 | m+1,g,_,h=>by
  rw[Lib.decDigits];by_cases h1:g<10
  ·rw[dif_pos h1,pF,show g/10=0 by omega,show g%10=g by omega]
   grind[rU,iR]
  ·have hm:0<m:=by
    grind
   have ih:=xF m (g/10) hm (by omega)
   grind[pF,iR]
theorem BQ{g:Nat}(h:g<1000000000):nine g=iR (pF 9 g):=xF 9 g (by omega) (by omega)
theorem nj{f g:Nat→Nat}(h:∀j,f (j+1)=g j)(n:Nat):∀k,k≤n→k9 f (n+1) k=k9 g n k
 | 0,_=>rfl
 | k+1,hk=>by
  simp only[k9];rw[nj h n k (by omega)]
  grind
theorem A5:∀(N:Nat),N≠0→k9 (fun j=>(dD 1000000000 N).getD j 0) (dD 1000000000 N).length (dD 1000000000 N).length=iR (dec N):=by
 intro N
 induction N using Nat.strongRecOn with
 | _ N ih=>
  intro h;have hd:=cJ (B:=1000000000) (by omega) h;by_cases h1:N<1000000000
  ·grind[bM,k9,EH]
  ·have h2:N/1000000000≠0:=by omega
   have h3:N%1000000000<1000000000:=Nat.mod_lt _ (by omega);have ih:=ih (N/1000000000) (by omega) h2;have hp:=cJ (B:=1000000000) (by omega) h2;rw[hd];generalize hG:dD 1000000000 (N/1000000000)=G at *;have hl:0<G.length:=by rw[hp];simp
   simp only[List.length_cons];have:=nj (f:=fun j=>(N%1000000000::G).getD j 0) (g:=fun j=>G.getD j 0) (fun j=>rfl) G.length G.length (Nat.le_refl _);rw[k9,this,if_neg (by omega),ih,show G.length+1-1-G.length=0 by omega];simp ;rw[BQ h3];have e:=uj h2 9 (N%1000000000) (by omega)
   grind[iR]
theorem Ax{N:Nat}(h:N≠0):sf N=iR (dec N):=by grind[sf,A5]
set_option maxRecDepth 20000
def bZ(b:UInt8):Value:=.int .u8 (b.toNat:Nat)
theorem oG{cp:FuncId→Option CF}{A lo:Nat}{H:Heap}{v:Value}{b:Nat}{l m:List UInt8}{z:List Value}{R:Value→Heap→Prop}(hlo:lo≤H.length)(hA:A≤b)(hAH:A≤H.length)
  (ho:Own lo 1 H v b (l.map bZ)) (hsz:l.length+m.length≤4294967296)
  (k:∀v' H' b',A≤b'→Own lo 1 H' v' b' ((l++m).map bZ)→Keep b H H'→R v' H'):wpH cp lo (.appS z) [v,bh m] H R:=by
 have e0:aR lo (.appS z) [v,bh m] H=bI lo 1 v (m.map bZ) m.length H:=by
  rfl
 simp only[wpH];rw[e0];by_cases hm:m=[]
 ·have kk:=k v H b hA (by simp_all) ⟨Nat.le_refl _,fun _ _ _=>rfl⟩
  obtain⟨hb,⟨rfl,_⟩|⟨n,hn,hn2,rfl,hg⟩⟩:=ho
  all_goals simp_all[bI,iY,putCells,gY]
 ·have hm0:0<m.length:=List.length_pos_iff.2 hm
  obtain⟨hb,⟨rfl,hl⟩|⟨n,hn,hn2,rfl,hg⟩⟩:=ho
  ·have hl0:l=[]:=by simp_all
   subst hl0;have h1:¬ (0+m.length≤0):=by omega
   have h2:¬ (bj<0+m.length):=by grind[bj]
   simp only[bI,h1,h2,if_false];refine k _ _ H.length hAH ⟨hlo,.inr ⟨m.length,hm0,by simp,rfl,by grind[aH]⟩⟩ ⟨by simp,fun i hi _=>fE hi⟩
  ·have hnl:n=l.length:=by simp_all
   subst hnl;have h1:¬ (l.length+m.length≤l.length):=by omega
   have h2:¬ (bj<l.length+m.length):=by grind[bj]
   have hc:H.cells b 0 (l.length*1)=some (l.map bZ):=by
    rw[cells_get hg (by simp),Nat.mul_one,List.drop_zero]
    grind
   simp only[bI,h1,h2,hb,hc];refine k _ _ H.length hAH ⟨hlo,.inr ⟨l.length+m.length,by omega,by simp,rfl,?_⟩⟩ ⟨by simp,fun i hi hne=>?_⟩
   all_goals grind[aH,fE,aM]
theorem m0:∀l:List UInt8,bytesOf (l.map bZ)=some l
 | []=>rfl
 | b::l=>by
  have ih:=m0 l
  simp_all[bytesOf,bZ]
theorem AW{lo:Nat}{H:Heap}{v:Value}{b:Nat}{l:List UInt8}(h:Own lo 1 H v b (l.map bZ)):aG .b2s [v] H=some (bh l):=by
 obtain⟨_,⟨rfl,hl⟩|⟨n,hn,hn2,rfl,hg⟩⟩:=h
 ·have:l=[]:=by simp_all
  subst this;rfl
 ·have hnl:n=l.length:=by simp_all
  subst hnl;simp only[aG];rw[cells_get hg (by simp)]
  grind[m0]
theorem kO{α:Type}{enc:α→Value}{G:Heap}{v:Value}{l:List α}{a b:Nat}{x y:Int}(h:Sl enc G v l)(hx:x=a)(hy:y=b)(hab:a≤b)(hb:b≤l.length):∃r,(∀H',aG (.sl 1 true true false) [v,.int .i64 x,.int .i64 y] H'=some r)∧Sl enc G r ((l.drop a).take (b-a)):=by
 subst hx hy;have hlen:((l.drop a).take (b-a)).length=b-a:=by simp;omega
 rcases h with ⟨rfl,rfl⟩|⟨bb,o,sp,cap,xs,rfl,h1,h2,h3,h4,h5⟩
 ·simp at hb
  obtain rfl:b=0:=by omega
  obtain rfl:a=0:=by omega
  exact⟨_,fun H'=>by rfl,.inl ⟨rfl,rfl⟩⟩
 ·have key:∀o',(o'=o+a∨b-a=0∧o'=o)→∀sp',sp'=sp→Sl enc G (.slice (some ⟨bb,o',sp'⟩) (b-a) (cap-a)) ((l.drop a).take (b-a)):=by
   intro o' ho' sp' hsp';subst hsp';refine .inr ⟨bb,o',sp',cap-a,xs,by rw[hlen],h1,?_,by omega,h4,by omega⟩
   grind[List.map_take,List.map_drop,List.drop_take,List.drop_drop]
  rcases h4 with rfl|rfl
  ·refine⟨_,fun H'=>by rw[qS,nV (by omega) (by omega) (by omega)];rfl,?_⟩
   grind
  ·refine⟨_,fun H'=>by rw[qu,nV (by omega) (by omega) (by omega)];rfl,?_⟩
   simp_all
theorem jV{b:Bool}{p:List Nat}:kA b p=true↔p.getD 0 0≠0∧(dec (aY 900 p)).getD 0 0=1∧2≤(dec (aY 900 p)).length∧(dec (aY 900 p)).length≤45∧(b=true∨(dec (aY 900 p)).length=45):=by
 grind[kA]
theorem pV{b:Bool}{p:List Nat}(h:¬ (p.getD 0 0≠0∧(dec (aY 900 p)).getD 0 0=1∧2≤(dec (aY 900 p)).length∧(dec (aY 900 p)).length≤45∧(b=true∨(dec (aY 900 p)).length=45))):kA b p=false:=by
 grind[jV]
theorem Bo{lo:Nat}{H:Heap}{v:Value}{l:List Nat}(hlo:lo≤H.length)(hl:SlN H v l)(hb:l.length≤8192)(hd:∀d ∈ l,d<900)(ht:H.get 0=some gQ) :
  Ev cpx lo 26 [v] H (fun r H'=>Ext H H'∧r=match e9 l with|some t=>.tuple #[bh t,.bool true]|none=>.tuple #[bh [],.bool false]):=by
 have hl0:=hl;obtain⟨ad,c0,rfl⟩:=hl.len;refine Hm ?_;unfold CY zh;simp only[kB,aA];repeat' ((first|refine aJ ?_|refine aK rfl ?_);(try simp only[aA]))
 refine bk (fun m S H'=>Ext H H'∧∃(a:Nat) (D:List UInt8) (w:Value) (b:Nat),(l.length≤m+a∧(a≤l.length→m+a≤l.length))∧(e9 l=(e9 (l.drop a)).map (D++·)∨False)∧H.length≤b∧Own lo 1 H' w b (D.map bZ)∧D.length≤45*a∧a≤8300∧(∃(z:Nat→Value),S=[.slice ad l.length c0,z 1,z 2,w,.int .i64 (a:Nat),z 5,z 6,z 7,z 8,z 9,z 10,z 11,z 12])) l.length ?_ ?_
 ·exact⟨Ext.refl _,0,[],_,H.length,by omega,.inl (by simp),Nat.le_refl _,Own.nil hlo,by simp,by omega,aE rfl⟩
 rintro m S H' ⟨hx,a,D,w,b,hm,hs,hbb,ho,hD,ha,z,rfl⟩;have hlen:=hx.1;by_cases hi:a<l.length
 ·obtain⟨e,he⟩:∃e,min (a+15) l.length=e:=⟨_,rfl⟩
  have he2:a<e∧e≤l.length∧e≤a+15:=by omega
  have emin:aG (.minmax false) [.int .i64 ((a:Int)+15),.int .i64 (l.length:Nat)] H'=some (.int .i64 (e:Nat)):=by
   grind[aG,il]
  obtain⟨b0,o0,sp0,cap0,xs0,e0,hg0,hx0,hle0⟩:=(hl.mono hx).els 0 (by omega);cases e0;have hxa:=hx0 a hi;obtain⟨p,hp⟩:∃p,(l.drop a).take 15=p:=⟨_,rfl⟩;have hp2:(l.drop a).take (e-a)=p:=by
   grind[List.take_of_length_le]
  have hpl:p.length≤15∧0<p.length:=by
   grind
  have hp0:p.getD 0 0=l.getD a 0:=by
   grind
  have hpd:∀d ∈ p,d<900:=fun d hd'=>hd d (by grind);have hf:=m6 (l:=l.drop a) (by simp_all);rw[hp,List.drop_drop]at hf;have hf2:(l.drop a).length=l.length-a:=by simp
  rw[hf2]at hf;have hfail:∀{b:Bool},kA b p=false→b=decide (l.length-a≤15)→e9 l=none:=by
   grind
  obtain⟨sv,hsv,hsl⟩:=kO (hl.mono hx) (a:=a) (b:=e) rfl rfl (by omega) (by omega);rw[hp2]at hsl;have hrs:=hs.resolve_right id;clear hs hp hp2;(try simp only[aA]);refine bJ (fun h=>?_) (fun h=>?_)
  ·clear h
   (try simp only[aA]);(repeat' ((first|refine aJ ?_|refine aK rfl ?_);(try simp only[aA])));refine bJ (fun h=>?_) (fun h=>?_)
   ·have hz:kA (decide (l.length-a≤15)) p=false:=by
     grind[pV]
    have hN:=hfail hz rfl;clear h hfail hf hrs;(try simp only[aA]);(repeat' ((first|refine aJ ?_|refine aK rfl ?_);(try simp only[aA])));refine bu ?_;rw[hN];exact⟨hx,rfl⟩
   have hnz:p.getD 0 0≠0:=by simp_all
   clear h;have hN0:aY 900 p≠0:=by
    intro e;have:=qP hpd (by
     grind[List.head?_eq_getElem?])
    grind[pY]
   have hNl:(aj (aY 900 p)).length≤512:=by
    have h1:=fY hpd p.length (Nat.le_refl _);rw[List.take_length]at h1;have h2:(900:Nat)^p.length≤900^15:=Nat.pow_le_pow_right (by decide) hpl.1;have h3:(900:Nat)^15≤W32^5:=by decide
    have:=kS (k:=5) (N:=aY 900 p) (by omega);omega
   (try simp only[aA]);(repeat' ((first|refine aJ ?_|refine aK rfl ?_);(try simp only[aA])));refine gV ?_;refine aC ((Cu (B:=900) (l:=p) (by omega) hsl (by omega) (by omega) hpd).sub fN) ?_;rintro r H2 ⟨hx2,q,rfl,m2,rfl,hq⟩;have hlen2:=hx2.1;clear hsv hsl;obtain⟨ad2,c2,rfl⟩:=hq.len;have hq1:=hq;(try simp only[aA]);(repeat' ((first|refine aJ ?_|refine aK rfl ?_);(try simp only[aA])));have hx3:Ext H2 (H2++[some [.bool false,.slice ad2 (aj (aY 900 p)).length c2]]):=Ext.app _ _;have hx03:=(hx.trans hx2).trans hx3;refine gV ?_;refine aC (HO (N:=aY 900 p) ⟨_,rfl,hq1.mono hx3⟩ hNl (hx03.get ht)) ?_;rintro r H3 ⟨rfl,rfl⟩;rw[Ax hN0];clear hq hq1;have hT0:dec (aY 900 p)≠[]:=fun e=>hN0 (qc.1 e);have hdl:=dec_lt (aY 900 p);have hok:=@jV (decide (l.length-a≤15)) p;have hno:=@pV (decide (l.length-a≤15)) p;have hpart:nH p=(iR (dec (aY 900 p))).drop 1:=by grind[nH,iR,List.map_drop]
   have hXl:(iR (dec (aY 900 p))).length=(dec (aY 900 p)).length:=by simp[iR]
   have hX0:((iR (dec (aY 900 p))).getD 0 0).toNat=48+(dec (aY 900 p)).getD 0 0:=by
    cases hT:dec (aY 900 p)with
    | nil=>simp_all
    | cons d T=>
     have:=hdl d (by rw[hT];simp)
     grind[iR,UInt8.toNat_ofNat']
   have hTl:=List.length_pos_iff.2 hT0;generalize iR (dec (aY 900 p))=X at *;generalize (dec (aY 900 p)).length=TL at *;generalize (dec (aY 900 p)).getD 0 0=T0 at *;clear hT0 hdl;have hXl1:X.length≤TL∧TL≤X.length:=by omega
   clear hXl;generalize hX0':(X.getD 0 0).toNat=x0 at *;have hx0':x0≤48+T0∧48+T0≤x0:=by omega
   clear hX0;(try simp only[aA]);(repeat' ((first|refine aJ ?_|refine aK rfl ?_);(try simp only[aA])));refine bJ (fun h=>?_) (fun h=>?_)
   ·have hN:=hfail (hno (by
     grind)) rfl
    clear h hfail hf hrs hno hok;(try simp only[aA]);(repeat' ((first|refine aJ ?_|refine aK rfl ?_);(try simp only[aA])));refine bu ?_;rw[hN];exact⟨hx03,rfl⟩
   have hc1:2≤TL∧TL≤45∧T0=1:=by
    grind
   clear h;(try simp only[aA]);(repeat' ((first|refine aJ ?_|refine aK rfl ?_);(try simp only[aA])));refine bJ (fun h=>?_) (fun h=>?_)
   ·have hN:=hfail (hno (by
     grind)) rfl
    clear h hfail hf hrs hno hok;(try simp only[aA]);(repeat' ((first|refine aJ ?_|refine aK rfl ?_);(try simp only[aA])));refine bu ?_;rw[hN];exact⟨hx03,rfl⟩
   have hyes:=hok.2 ⟨hnz,hc1.2.2,hc1.1,hc1.2.1,by
    grind[Bool.not_eq_false']⟩
   clear h hok hno hfail;rw[if_pos hyes]at hf;clear hyes;have es:∀G,aG (.slS true false) [bh X,.int .i64 1] G=some (bh (X.drop 1)):=fun G=>lr (a:=1) (by omega);(try simp only[aA]);refine gV ?_;refine oG (A:=H.length) (by simp;omega) hbb (by simp;omega) ((ho.mono hx2).mono hx3) (m:=X.drop 1) (by simp;omega) ?_;intro v' H4 b' hb4 ho4 hk4;have hx4:=hk4.ext hx03 hbb;clear ho emin;(try simp only[aA]);(repeat' ((first|refine aJ ?_|refine aK rfl ?_);(try simp only[aA])));refine⟨l.length-(a+15),by omega,hx4,a+15,D++X.drop 1,v',b',by omega,.inl ?_,hb4,ho4,by simp;omega,by omega,aE (by simp_all)⟩;rw[hrs,hf,hpart];cases e9 (l.drop (a+15))<;>simp
  simp_all
 ·have hfin:=hs.resolve_right id
  rw[List.drop_eq_nil_of_le (by omega),mO]at hfin;(try simp only[aA]);refine bJ (fun h=>?_) (fun h=>?_)
  ·grind
  have eb:=AW ho;(try simp only[aA]);repeat' ((first|refine aJ ?_|refine aK rfl ?_);(try simp ))
  rw[hfin];simp ;exact⟨hx,rfl⟩
def okW(w:Int):Bool:=decide (0≤w)&&decide (w<900)
def sJ(l:List Int):List UInt8×Int:=
 if 8192<l.length then([],4) else if l.all okW then
  match e9 (l.map Int.toNat)with
  | some t=>(t,0)
  | none=>([],22)
 else([],3)
theorem yZ{H:Heap}{v:Value}{l:List Int}(h:SlI H v l)(hw:∀w ∈ l,0≤w):SlN H v (l.map Int.toNat):=by
 have e:(l.map Int.toNat).map ag=l.map (Value.int .i64):=by
  grind[List.map_congr_left]
 rcases h with ⟨rfl,rfl⟩|⟨b,o,sp,cap,xs,h1,h2,h3,h4,h5,h6⟩
 ·exact .inl ⟨rfl,rfl⟩
 ·exact .inr ⟨b,o,sp,cap,xs,by simp_all,h2,by simp_all,by simp_all,h5,by simp_all⟩
theorem C1{l:List Int}{i:Nat}(hi:i<l.length)(h:okW (l.getD i 0)=false):l.all okW=false:=by
 grind
theorem E0{l:List Int}(h:∀j,j<l.length→okW (l.getD j 0)=true):l.all okW=true:=by
 grind[List.getElem_of_mem]
theorem GR{lo:Nat}{H:Heap}{v:Value}{l:List Int}(hlo:lo≤H.length)(hl:SlI H v l)(ht:H.get 0=some gQ) :
  Ev cpx lo 15 [v] H (fun r H'=>Ext H H'∧r=.tuple #[bh (sJ l).1,.int .i64 (sJ l).2]):=by
 have hl0:=hl;obtain⟨ad,c0,rfl⟩:=hl.len;unfold sJ;refine Jb ?_;unfold Dy yW;simp only[kB,aA];repeat' ((first|refine aJ ?_|refine aK rfl ?_);(try simp only[aA]))
 refine bJ (fun h=>?_) (fun h=>?_)
 ·have hc:8192<l.length:=by grind
  clear h;(try simp only[aA]);repeat' ((first|refine aJ ?_|refine aK rfl ?_);(try simp only[aA]))
  refine bu ?_;rw[if_pos hc];exact⟨Ext.refl _,rfl⟩
 have hc:l.length≤8192:=by grind
 clear h;rw[if_neg (by omega)];(try simp only[aA]);repeat' ((first|refine aJ ?_|refine aK rfl ?_);(try simp only[aA]))
 refine ai (fun i S H'=>H=H'∧(∀j,j<i→okW (l.getD j 0)=true)∧∃(z:Nat→Value),S=[.slice ad l.length c0,z 1,z 2,z 3,z 4,z 5,.slice ad l.length c0,.int .i64 (l.length:Nat),.int .i64 (i:Nat),z 9]) l.length ?_ ?_ ?_ ?_
 ·exact⟨rfl,fun j hj=>by omega,aE rfl⟩
 ·rintro i S H' hi ⟨rfl,-,z,rfl⟩
  exact⟨_,bp,by simp⟩
 ·rintro i S H' hi ⟨rfl,hall,z,rfl⟩
  obtain⟨b0,o0,sp0,cap0,xs0,e0,hg0,hx0,hle0⟩:=hl.els 0 (by omega);cases e0;have hxa:=hx0 i hi;(try simp only[aA]);repeat' ((first|refine aJ ?_|refine aK rfl ?_);(try simp only[aA]))
  refine bJ (fun h=>?_) (fun h=>?_)
  ·have hno:okW (l.getD i 0)=false:=by
    grind[okW]
   clear h;(try simp only[aA]);(repeat' ((first|refine aJ ?_|refine aK rfl ?_);(try simp only[aA])));refine bu ?_;rw[C1 hi hno];exact⟨Ext.refl _,rfl⟩
  ·have hyes:okW (l.getD i 0)=true:=by
    grind[okW]
   clear h;(try simp only[aA]);(repeat' ((first|refine aJ ?_|refine aK rfl ?_);(try simp only[aA])));refine⟨by trivial,fun j hj=>?_,aE (by simp_all)⟩
   grind
 ·rintro S H' ⟨rfl,hall,z,rfl⟩
  have hall:=E0 hall;rw[hall];have hmem:=List.all_eq_true.1 hall;have hr:∀w ∈ l,0≤w∧w<900:=fun w hw=>by
   grind[okW]
  have hln:(l.map Int.toNat).length=l.length:=by simp
  have hsn:=yZ hl0 (fun w hw=>(hr w hw).1);clear hall hmem;(try simp only[aA]);repeat' ((first|refine aJ ?_|refine aK rfl ?_);(try simp only[aA]))
  refine gV ?_;refine aC (Bo (l:=l.map Int.toNat) (by omega) hsn (by omega) (by
   simp_all) ht) ?_
  rintro r H2 ⟨hx2,rfl⟩;cases e9 (l.map Int.toNat)with
  | none=>
   (try simp only[aA]);(repeat' ((first|refine aJ ?_|refine aK rfl ?_);(try simp only[aA])));refine bJ (fun h=>?_) (fun h=>?_)
   ·clear h
    (try simp only[aA]);(repeat' ((first|refine aJ ?_|refine aK rfl ?_);(try simp only[aA])));refine bu ?_;exact⟨hx2,rfl⟩
   ·simp at h
  | some t=>
   (try simp only[aA]);(repeat' ((first|refine aJ ?_|refine aK rfl ?_);(try simp only[aA])));refine bJ (fun h=>?_) (fun h=>?_)
   ·simp at h
   ·(try simp only[aA])
    (repeat' ((first|refine aJ ?_|refine aK rfl ?_);(try simp )));exact⟨hx2,rfl⟩
end Go.Proofs.YtgpolmomghejoaaDoor
