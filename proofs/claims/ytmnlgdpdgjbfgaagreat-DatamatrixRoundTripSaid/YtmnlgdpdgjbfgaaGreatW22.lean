/- Lemmas. -/
import Derived.Test.YtmnlgdpdgjbfgaaGreatW9
import Derived.Test.YtmnlgdpdgjbfgaaGreatW11
set_option linter.all false
namespace Go.Proofs.YtmnlgdpdgjbfgaaGreat
open Go.Abs
set_option maxRecDepth 100000
theorem lD:∀f cf,cp f=some cf->bA cf=true:=mQ
abbrev vD(b:UInt8):Value:=.int .u8 (b.toNat:Nat)
abbrev SlU:=Sl vD
abbrev aB(n:Nat):Value:=.int .i64 (n:Nat)
abbrev SlN:=Sl aB
abbrev uN(l:List Nat):List Value:=l.map aB
theorem O6{k:Mv}{l:List Value}{v':Value}(h:l.all bR=true)(s:Sh k (.tuple l.toArray) v'):v'=.tuple l.toArray:=by
 cases s with
 | tuple c d hs hr=>
  congr 1;refine(Array.ext (by simpa using hs) fun i h1 h2=>?_).symm;have h3:=hr i _ _ (Array.getElem?_eq_getElem h1) (Array.getElem?_eq_getElem h2);have h4:bR l.toArray[i]=true:=List.all_eq_true.1 h _ (by simp);exact(sn h4 h3).symm
theorem rO{cp:FuncId->Option CF}(hp:∀f cf,cp f=some cf->bA cf=true){f:FuncId}{n:Nat}{args:List Value}{l:List Value}(ha:args.all fO=true)(h:((run cp n).ret 0 f args []).map (·.1)=some (.tuple l.toArray))(hv:l.all bR=true)
  {lo:Nat} {H:Heap} (hlo:lo<=H.length):Ev cp lo f args H (fun v' H'=>v'=.tuple l.toArray/\Ext H H'):=by
 obtain⟨⟨v,H0⟩,hr,rfl⟩:=Option.map_eq_some_iff.1 h;refine oH hp ha n (n3 hr) hlo fun v' H' hv' hH hpre=>⟨O6 hv hv',nL hH hpre⟩
def isInt(n:Int):Option (Value×Heap)->Bool
 | some (.int .i64 m,_)=>m==n
 | _=>false
theorem FY{n:Int}{r:Option (Value×Heap)}(h:isInt n r=true):r.map (·.1)=some (.int .i64 n):=by
 match r,h with
 | some (.int .i64 m,_),h=>
  have h':m=n:=by simpa[isInt]using h
  rw[h'];rfl
def isB(n:Bool):Option (Value×Heap)->Bool
 | some (.bool m,_)=>m==n
 | _=>false
theorem Mx{n:Bool}{r:Option (Value×Heap)}(h:isB n r=true):r.map (·.1)=some (.bool n):=by
 match r,h with
 | some (.bool m,_),h=>
  have h':m=n:=by simpa[isB]using h
  rw[h'];rfl
def My(a b:Int):Option (Value×Heap)->Bool
 | some (.tuple cs,_)=>match cs.toList with
  | [.int .i64 x,.int .i64 y]=>x==a&&y==b
  | _=>false
 | _=>false
theorem Ip{a b:Int}{r:Option (Value×Heap)}(h:My a b r=true):r.map (·.1)=some (.tuple [Value.int .i64 a,Value.int .i64 b].toArray):=by
 match r,h with
 | some (.tuple cs,H),h=>
  simp only[My]at h;split at h
  ·rename_i x y e
   simp only[ac₀,beq_iff_eq]at h;obtain⟨rfl,rfl⟩:=h;have:cs=[Value.int .i64 x,Value.int .i64 y].toArray:=by rw[<-e]
   rw[this];rfl
  ·cases h
def dE(lower:Bool)(n:Nat):Nat×Nat:=
 if n=32 then(0,3) else if 48<=n/\n<=57 then(0,n-48+4)
 else if 65<=n/\n<=90/\lower=false then(0,n-65+14) else if 97<=n/\n<=122/\lower=true then(0,n-97+14)
 else if 65<=n/\n<=90 then(3,n-65+1) else if n<=31 then(1,n) else if n<=47 then(2,n-33) else if n<=64 then(2,n-58+15) else if n<=95 then(2,n-91+22) else(3,n-96)
theorem OT:(List.range 128).all (fun k=>[false,true].all fun b=>My (dE b k).1 (dE b k).2 ((run cp 4).ret 0 212 [.bool b,.int .u8 (k:Nat)] []))=true:=by kernel_rfl
def dL(n:Nat):Nat:=if 65<=n/\n<=90 then n-65+15 else if 48<=n/\n<=57 then n-48+5 else if n=13 then 1 else if n=42 then 2 else if n=62 then 3 else if n=32 then 4 else 0
theorem TF:(List.range 256).all (fun k=>isInt ((dL k:Nat)-1) ((run cp 4).ret 0 209 [.int .u8 (k:Nat)] []))=true:=by kernel_rfl
def rG(n:Nat):Bool:=decide (48<=n)&&decide (n<=57)
theorem Rn:(List.range 256).all (fun k=>isB (rG k) ((run cp 4).ret 0 205 [.int .u8 (k:Nat)] []))=true:=by kernel_rfl
section
variable {lo:Nat}{H:Heap}
theorem OS{b:Bool}{k:Nat}(hk:k<128)(hlo:lo<=H.length):Ev cp lo 212 [.bool b,.int .u8 (k:Nat)] H (fun v H'=>v=.tuple #[.int .i64 ((dE b k).1:Nat),.int .i64 ((dE b k).2:Nat)]/\Ext H H'):=by
 have h:=List.all_eq_true.1 OT k (List.mem_range.2 hk);have h2:=List.all_eq_true.1 h b (by cases b<;>simp);exact rO lD (n:=4) rfl (Ip h2) rfl hlo
theorem TE{k:Nat}(hk:k<256)(hlo:lo<=H.length):Ev cp lo 209 [.int .u8 (k:Nat)] H (fun v H'=>v=.int .i64 ((dL k:Nat)-1)/\Ext H H'):=
 pD lD (n:=4) (v:=.int .i64 ((dL k:Nat)-1)) rfl (FY (List.all_eq_true.1 TF k (List.mem_range.2 hk))) rfl hlo
theorem Ps{k:Nat}(hk:k<256)(hlo:lo<=H.length):Ev cp lo 205 [.int .u8 (k:Nat)] H (fun v H'=>v=.bool (rG k)/\Ext H H'):=
 pD lD (n:=4) (v:=.bool (rG k)) rfl (Mx (List.all_eq_true.1 Rn k (List.mem_range.2 hk))) rfl hlo
end
section
variable {α:Type}{enc:α->List Value}{n:Nat}
def cat(enc:α->List Value):List α->List Value
 | []=>[]
 | x::l=>enc x++cat enc l
theorem nn(h:∀x,(enc x).length=n):∀l:List α,(cat enc l).length=l.length*n
 | []=>by simp[cat]
 | x::l=>by rw[cat,as₀,h,nn h l,ak₀,Nat.succ_mul];omega
theorem jz:∀a b:List α,cat enc (a++b)=cat enc a++cat enc b
 | [],b=>rfl
 | x::a,b=>by simp only[am₀,cat,jz a b,ba₀]
theorem Du(h:∀x,(enc x).length=n):∀(l:List α) (k:Nat) (hk:k<l.length),((cat enc l).drop (k*n)).take n=enc l[k]
 | x::l,0,hk=>by
  rw[Nat.zero_mul,List.drop_zero,cat,List.take_append_of_le_length (by rw[h];exact Nat.le_refl _),List.take_of_length_le (by rw[h];exact Nat.le_refl _)];rfl
 | x::l,k+1,hk=>by
  have e:(k+1)*n=(enc x).length+k*n:=by rw[h,Nat.succ_mul];omega
  rw[e,<-List.drop_drop,cat,List.drop_left];exact Du h l k (by simpa using hk)
def OwnG(lo n:Nat)(H:Heap)(v:Value)(b:Nat)(X:List Value):Prop:=
 Own lo n H v b X\/(lo<=b/\∃k,0<k/\k*n=X.length/\v=.slice (some ⟨b,0,none⟩) k k/\H.get b=some X)
theorem OwnG.mono{lo n b:Nat}{H H':Heap}{v:Value}{X:List Value}(h:OwnG lo n H v b X)(e:Ext H H'):OwnG lo n H' v b X:=by
 rcases h with h|⟨h1,k,h2,h3,h4,h5⟩
 ·exact .inl (h.mono e)
 ·exact .inr ⟨h1,k,h2,h3,h4,e.get h5⟩
theorem OwnG.nil{lo n b:Nat}{H:Heap}(h:lo<=b):OwnG lo n H (.slice none 0 0) b []:=.inl (Own.nil h)
theorem OwnG.len{lo b:Nat}{H:Heap}{v:Value}{L:List α}(hn:0<n)(he:∀x,(enc x).length=n)(h:OwnG lo n H v b (cat enc L)):∃a,v=.slice a L.length L.length:=by
 have e:=nn he L;have key:∀k,k*n=(cat enc L).length->k=L.length:=fun k hk=>Nat.eq_of_mul_eq_mul_right hn (hk.trans e);rcases h with h|⟨_,k,_,hk,rfl,_⟩
 ·obtain⟨a,k,rfl,hk,_⟩:=h.len hn
  rw[key k hk];exact⟨_,rfl⟩
 ·rw[key k hk];exact⟨_,rfl⟩
theorem OwnG.at{lo b:Nat}{H:Heap}{v:Value}{L:List α}(hn:0<n)(he:∀x,(enc x).length=n)(h:OwnG lo n H v b (cat enc L)){k:Nat}(hk:k<L.length) :
  ∃p o X,aI (.iAddr n) [v,.int .i64 (k:Nat)] H=some (.pointer (some ⟨p,o,none⟩))/\H.get p=some X/\o+n<=X.length/\(X.drop o).take n=enc L[k]:=by
 have hx:=Du he L k hk;have hl:=nn he L;have hle:k*n+n<=L.length*n:=by rw[<-Nat.succ_mul];exact Nat.mul_le_mul_right _ hk
 obtain⟨a,e⟩:=h.len hn he;have key:∀sp,v=.slice (some ⟨b,0,sp⟩) L.length L.length->H.get b=some (cat enc L)->∃p o X,aI (.iAddr n) [v,.int .i64 (k:Nat)] H=some (.pointer (some ⟨p,o,none⟩))/\H.get p=some X/\o+n<=X.length/\(X.drop o).take n=enc L[k]:=by
  rintro sp rfl hg;refine⟨b,0+k*n,_,?_,hg,byO,by rw[Nat.zero_add];exact hx⟩;rw[lU byO byO];simp
 rcases h with ⟨_,⟨_,h⟩|⟨m,_,_,h3,h4⟩⟩|⟨_,m,_,_,h3,h4⟩
 ·have:=Nat.mul_pos (show 0<L.length by omega) hn
  rw[h,an₀]at hl;omega
 ·rw[h3]at e;cases e
  exact key _ h3 h4
 ·rw[h3]at e;cases e
  exact key _ h3 h4
theorem MK{cp:FuncId->Option CF}{lo:Nat}{z:List Value}{G H:Heap}{v:Value}{b t:Nat}{sp:Option Nat}{m:Nat}{L:List α}{r:α}{R:Value->Heap->Prop}(hn:0<n)(hn2:n<=100)(he:∀x,(enc x).length=n)(h1:∀x,oneCells (enc x)=true)(ho:OwnG lo n H v b (cat enc L))(hx:Ext G H)(hG:G.length<=b)(hlo:lo<=G.length)(hbig:L.length<=10000000)(ht:H.get t=some (enc r))
  (k:∀v' b' H',OwnG lo n H' v' b' (cat enc (L++[r]))->Ext G H'->G.length<=b'->H.length<=H'.length->R v' H'):wpH cp lo (.app n z) [v,.slice (some ⟨t,0,sp⟩) 1 m] H R:=by
 have hGl:=hx.1;have hcl:=nn he L;have hcb:(cat enc L).length<=1000000000:=by
  rw[hcl];exact Nat.le_trans (Nat.mul_le_mul hbig hn2) (by decide)
 have hl1:(enc r).length=n:=he r;rcases ho with ho|⟨hb,q,hq0,hq,rfl,hg⟩
 ·refine gQ ho byO hn byO byO ht byO (c:=enc r) (by rw[List.drop_zero,List.take_of_length_le byO]) (h1 r) ?_
  intro v' H' ho' hk hl';refine k v' H.length H' (.inl ?_) (hk.ext hx hG) hGl byO;rw[jz];simpa[cat]using ho'
 ·have e1:H.cells t 0 (1*n)=some (enc r):=by rw[cells_get ht byO,List.drop_zero,List.take_of_length_le byO]
  have e2:H.cells b 0 (q*n)=some (cat enc L):=by rw[cells_get hg byO,List.drop_zero,List.take_of_length_le byO]
  have hq1:q<=(cat enc L).length:=by rw[<-hq];exact Nat.le_mul_of_pos_right q hn
  simp only[wpH,c9,hsem,e1,ao₀,h1 r,if_true,aZ];rw[if_neg byO,if_neg (by show ¬ cV<_;unfold cV;omega),e2];simp only[Option.map_some];refine k _ H.length _ (.inl ⟨byO,.inr ⟨q+1,byO,?_,rfl,?_⟩⟩) (hx.trans (Ext.app _ _)) hGl (by simp)
  ·rw[jz,as₀,<-hq,Nat.succ_mul];simp[cat,hl1]
  ·rw[aH,jz];simp[cat]
end
set_option maxRecDepth 20000
abbrev ptr(b:Nat):Value:=.pointer (some ⟨b,0,none⟩)
structure Opt where
 h0:Nat
 h1:Nat
 h2:Nat
 sz:Nat
 run:Nat
 nx:Nat
 md:Nat
def aL(o:Opt):List Value:=[aB o.h0,aB o.h1,aB o.h2,aB o.sz,aB o.run,aB o.nx,aB o.md]
abbrev zn(o:Opt):Value:=.agg #[aB o.h0,aB o.h1,aB o.h2,aB o.sz,aB o.run,aB o.nx,aB o.md]
theorem fh(o:Opt):(aL o).length=7:=rfl
theorem yD(o:Opt):oneCells (aL o)=true:=rfl
structure SrH (H:Heap)(sb cb:Nat)(v:Value)(p:List UInt8)(cs:List Nat):Prop where
 g:H.get sb=some [v,.slice (some ⟨cb,0,none⟩) (p.length+1) (p.length+1)]
 c:H.get cb=some (uN cs)
 pl:SlU H v p
 len:cs.length=(p.length+1)*19
 hi:p.length<=4096
 le:∀i,cs.getD i 0<=1073741824
theorem SrH.ext{H H':Heap}{sb cb:Nat}{v:Value}{p:List UInt8}{cs:List Nat}(h:SrH H sb cb v p cs)(e:Ext H H'):SrH H' sb cb v p cs:=
 ⟨e.get h.g,e.get h.c,h.pl.mono e,h.len,h.hi,h.le⟩
theorem Be{cs:List Nat}{k:Nat}(h:k<cs.length):(uN cs)[k]?=some (aB (cs.getD k 0)):=by
 simp[uN,au₀,h]
def bh(cs:List Nat)(o:Opt):Nat:=o.sz+o.run+cs.getD (o.nx*19+o.md) 0
section
variable {lo:Nat}{H:Heap}{sb cb:Nat}{v:Value}{p:List UInt8}{cs:List Nat}
namespace XMDc
def xtr:=zzi @Int.cast_ofNat_Int @ite_self.{1}
end XMDc
open XMDc
theorem SO{o:Opt}(h1:o.sz<=10)(h2:o.run<=10000):Ev cp lo 198 [zn o] H (fun r H'=>Ext H H'/\r=aB (o.sz+o.run)):=by
 refine stG rfl rfl ?_;unfold L4;simp only[kB,aC];refine aD ?_;refine az ?_;exact⟨Ext.app _ _,rfl⟩
theorem TC{o:Opt}(hs:SrH H sb cb v p cs)(h1:o.sz<=10)(h2:o.run<=10000)(h3:o.nx<=p.length)(h4:o.md<19):Ev cp lo 177 [ptr sb,zn o] H (fun r H'=>Ext H H'/\r=aB (bh cs o)):=by
 have hg:=hs.g;have hc:=hs.c;have hlen:=hs.len;have hle:=hs.le (o.nx*19+o.md);have hk:o.nx*19+o.md<cs.length:=byO;have hat:=Be hk;have hsl:=Heap.get_lt hg;have hcl:=Heap.get_lt hc;have hul:(uN cs).length=cs.length:=by simp
 unfold bh;generalize cs.getD (o.nx*19+o.md) 0=w at hat hle;generalize uN cs=X at hc hat hul;replace hul:X.length<=cs.length/\cs.length<=X.length:=byO;replace hlen:cs.length<=(p.length+1)*19/\(p.length+1)*19<=cs.length:=byO;refine stG rfl rfl ?_;unfold LN;simp only[kB,aC];refine aD ?_;refine aV ?_;refine aa (SO h1 h2) ?_;rintro r H1 ⟨hx1,rfl⟩;refine aD ?_;refine az ?_;exact⟨(Ext.app _ _).trans hx1,rfl⟩
end
open Go.Abs
theorem mL{a:Nat}:BitVec.ofInt 64 ((a:Nat):Int)=BitVec.ofNat 64 a:=BitVec.ofInt_natCast 64 a
theorem ua{a:Nat}(h:a<9223372036854775808):IntKind.i64.wrap (a:Int)=(a:Int):=eV byO byO
theorem ng{a b:Nat}(ha:a<2^63)(hb:b<2^63):IntKind.i64.wrap ((BitVec.ofInt IntKind.i64.bits (a:Int) &&& BitVec.ofInt IntKind.i64.bits (b:Int)).toNat:Int)=((a &&& b:Nat):Int):=by
 have e:(BitVec.ofInt IntKind.i64.bits (a:Int) &&& BitVec.ofInt IntKind.i64.bits (b:Int)).toNat=a &&& b:=by
  show(BitVec.ofInt 64 (a:Int) &&& BitVec.ofInt 64 (b:Int)).toNat=a &&& b;rw[mL,mL,BitVec.toNat_and,BitVec.toNat_ofNat,BitVec.toNat_ofNat,Nat.mod_eq_of_lt byO,Nat.mod_eq_of_lt byO]
 rw[e];refine ua ?_;exact Nat.lt_of_le_of_lt Nat.and_le_left ha
theorem zo{a b:Nat}(ha:a<2^62)(hb:b<2^62):IntKind.i64.wrap ((BitVec.ofInt IntKind.i64.bits (a:Int) ||| BitVec.ofInt IntKind.i64.bits (b:Int)).toNat:Int)=((a ||| b:Nat):Int):=by
 have e:(BitVec.ofInt IntKind.i64.bits (a:Int) ||| BitVec.ofInt IntKind.i64.bits (b:Int)).toNat=a ||| b:=by
  show(BitVec.ofInt 64 (a:Int) ||| BitVec.ofInt 64 (b:Int)).toNat=a ||| b;rw[mL,mL,BitVec.toNat_or,BitVec.toNat_ofNat,BitVec.toNat_ofNat,Nat.mod_eq_of_lt byO,Nat.mod_eq_of_lt byO]
 rw[e];refine ua ?_;have:=Nat.or_lt_two_pow ha hb;omega
theorem MI(a:Nat):a &&& 255=a%256:=Nat.and_two_pow_sub_one_eq_mod a 8
theorem KQ(a:Nat):a &&& 63=a%64:=Nat.and_two_pow_sub_one_eq_mod a 6
theorem Ej{a b:Nat}(k:Nat)(hb:b=2^k)(hk:k<=64):(a:Int).fdiv (2^(min ((k:Nat):Int).toNat IntKind.i64.bits))=((a/b:Nat):Int):=by
 subst hb;have e:min ((k:Nat):Int).toNat IntKind.i64.bits=k:=by
  show min ((k:Nat):Int).toNat 64=k;simp;omega
 rw[e,Int.fdiv_eq_ediv_of_nonneg _ (by exact Int.le_of_lt (Int.pow_pos (by decide)))];simp
def me(u v w at' md:Nat):Opt:=⟨(1600*u+40*v+w+1)/256,(1600*u+40*v+w+1)%256,0,2,0,at',md⟩
def fo(g n at' md:Nat):Opt:=⟨g*2^(6*(4-n))/65536,g*2^(6*(4-n))/256%256,g*2^(6*(4-n))%256,(6*n+7)/8,0,at',md⟩
section
variable {lo:Nat}{H:Heap}
open XMDc
theorem RU{u v w a m:Nat}(hu:u<=100)(hv:v<=100)(hw:w<=100)(ha:a<=10000)(hm:m<=100)(hlo:lo<=H.length):Ev cp lo 208 [aB u,aB v,aB w,aB a,aB m] H (fun r H'=>Ext H H'/\r=zn (me u v w a m)):=by
 have e:1600*(u:Int)+40*(v:Int)+(w:Int)+1=((1600*u+40*v+w+1:Nat):Int):=byO;have hb:1600*u+40*v+w+1<=1000000:=byO;unfold me;generalize 1600*u+40*v+w+1=n at e hb;have ed:(n:Int).tdiv 256=((n/256:Nat):Int):=by rw[Int.tdiv_eq_ediv_of_nonneg byO];omega
 have em:(n:Int).tmod 256=((n%256:Nat):Int):=by rw[Int.tmod_eq_emod_of_nonneg byO];omega
 have h0:(0:Nat)<=5:=byO;refine stG rfl rfl ?_;unfold La;simp only[kB,aC];refine aD ?_;refine az ?_;exact⟨Ext.app _ _,rfl⟩
theorem Pg{g n a m:Nat}(hn:1<=n/\n<=4)(hg:g<2^(6*n))(ha:a<=10000)(hm:m<=100)(hlo:lo<=H.length):Ev cp lo 210 [aB g,aB n,aB a,aB m] H (fun r H'=>Ext H H'/\r=zn (fo g n a m)):=by
 have hG:g*2^(6*(4-n))<16777216:=by
  have:(16777216:Nat)=2^(6*n)*2^(6*(4-n)):=by rw[<-Nat.pow_add,show 6*n+6*(4-n)=24 by omega]
  rw[this];exact Nat.mul_lt_mul_of_pos_right hg (Nat.pow_pos (by decide))
 have hsh:IntKind.i64.wrap ((g:Int)*2^(min (6*(4-(n:Int))).toNat IntKind.i64.bits))=((g*2^(6*(4-n)):Nat):Int):=by
  have e:min (6*(4-(n:Int))).toNat IntKind.i64.bits=6*(4-n):=by
   show min (6*(4-(n:Int))).toNat 64=6*(4-n);omega
  rw[e];have e2:(g:Int)*2^(6*(4-n))=((g*2^(6*(4-n)):Nat):Int):=by simp
  rw[e2];exact ua byO
 unfold fo;generalize g*2^(6*(4-n))=G at hG hsh;have h16:=Ej (a:=G) (b:=65536) 16 rfl byO;have h8:=Ej (a:=G) (b:=256) 8 rfl byO;have ha1:=ng (a:=G/256) (b:=255) byO byO;have ha2:=ng (a:=G) (b:=255) byO byO;rw[MI]at ha1 ha2;have ed:(6*(n:Int)+7).tdiv 8=(((6*n+7)/8:Nat):Int):=by rw[Int.tdiv_eq_ediv_of_nonneg byO];omega
 simp only[Int.cast_ofNat_Int]at h16 h8 ha1 ha2;refine stG rfl rfl ?_;unfold Lb;simp only[kB,aC];refine aD ?_;refine az ?_;exact⟨Ext.app _ _,rfl⟩
end
end Go.Proofs.YtmnlgdpdgjbfgaaGreat
