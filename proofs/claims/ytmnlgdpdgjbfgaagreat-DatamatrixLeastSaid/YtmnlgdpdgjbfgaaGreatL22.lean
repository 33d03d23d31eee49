/- Lemmas. -/
import Derived.Test.YtmnlgdpdgjbfgaaGreatL21
set_option linter.all false
namespace Go.Proofs.YtmnlgdpdgjbfgaaGreat
open Go.Abs
variable{H:Heap}{lo:Nat}{i:Nat}
theorem CZ{n:Int}(h0:0<=n)(h1:n<4294967296):((BitVec.ofInt 64 n &&& BitVec.ofInt 64 4294967295).toNat:Int)=n:=by
 obtain⟨m,rfl⟩:∃m:Nat,n=m:=⟨n.toNat,byO⟩;have e:(BitVec.ofInt 64 (m:Int)).toNat=m:=by simp[BitVec.toNat_ofInt];omega
 rw[BitVec.toNat_and,e];have e2:(BitVec.ofInt 64 4294967295).toNat=2^32-1:=by decide
 rw[e2,Nat.and_two_pow_sub_one_eq_mod];omega
open XJWd
theorem Oz{n:Int}(h0:0<=n)(h1:n<4294967296):Ev cp lo 201 [.int .u64 1,.int .u64 n] H (fun v H'=>H'=H/\v=.tuple #[.int .u64 0,.int .u64 n]):=by
 have e1:IntKind.u64.wrap ((BitVec.ofInt IntKind.u64.bits 1 &&& BitVec.ofInt IntKind.u64.bits 4294967295).toNat:Int)=1:=by decide
 have e2:IntKind.u64.wrap ((BitVec.ofInt IntKind.u64.bits n &&& BitVec.ofInt IntKind.u64.bits 4294967295).toNat:Int)=n:=by
  rw[show IntKind.u64.bits=64 from rfl,CZ h0 h1];exact x7 h0 byO
 have e3:IntKind.u64.wrap ((BitVec.ofInt IntKind.u64.bits 0 &&& BitVec.ofInt IntKind.u64.bits 4294967295).toNat:Int)=0:=by decide
 have e4:Int.fdiv 1 (2^(min (Int.toNat 32) IntKind.u64.bits))=0:=by decide
 have e5:Int.fdiv n (2^(min (Int.toNat 32) IntKind.u64.bits))=0:=by
  rw[show(2:Int)^(min (Int.toNat 32) IntKind.u64.bits)=4294967296 by decide,Int.fdiv_eq_ediv_of_nonneg _ byO];omega
 have e6:Int.fdiv 0 (2^(min (Int.toNat 32) IntKind.u64.bits))=0:=by decide
 refine stG rfl rfl ?_;unfold Jd;simp only[kB,aC];refine aj ?_;have e7:IntKind.u64.wrap 0=0:=by decide
 simp only[e1,e2,e3,e4,e5,e6,e7,Int.zero_mul,Int.one_mul,Int.mul_zero,Int.zero_add,Int.add_zero];refine eP ?_;exact⟨rfl,rfl⟩
theorem Oy{n:Int}(h0:0<=n)(h1:n<4294967296):Ev cp lo 179 [.int .u64 1,.int .u64 n] H (fun v H'=>H'=H/\v=.tuple #[.int .u64 0,.int .u64 n]):=by
 refine stG rfl rfl ?_;unfold J2;simp only[kB,aC];refine aj ?_;refine dK ?_ ?_<;>intro h
 ·cases h
 (try simp only[aC]);refine e9 ?_;refine aB (Oz h0 h1) ?_;rintro v H1 ⟨rfl,rfl⟩;refine aj ?_;refine eP ?_;exact⟨rfl,rfl⟩
theorem Ew{n:Int}(h0:1<=n)(h1:n<1000000)(hlo:lo<=H.length)(hg:H.get i=some [.int .i64 (-1)]) :
  Ev cp lo 131 [.slice (some ⟨i,0,none⟩) 1 1,.int .i64 n] H (fun v H'=>Ext H H'/\v=.slice (some ⟨H.length,0,none⟩) n.toNat n.toNat/\H'.get H.length=some (ah (List.replicate n.toNat (-1)))):=by
 have hil:=Heap.get_lt hg;have hg':H.get i=some (ah [-1]):=hg;clear hg;refine stG rfl rfl ?_;unfold JI;simp only[kB,aC];refine aj ?_;refine dK ?_ ?_<;>intro h
 ·simp at h;omega
 clear h;(try simp only[aC]);refine e9 ?_;refine aB (Oy (n:=n) byO byO) ?_;rintro v H1 ⟨rfl,rfl⟩;refine aj ?_;refine dK ?_ ?_<;>intro h
 ·simp at h;omega
 clear h;(try simp only[aC]);obtain⟨N,rfl⟩:∃N:Nat,n=N:=⟨n.toNat,byO⟩;have hN:1<=N:=byO;have hm1:min 1 N=1:=byO;have hm2:(ah (List.replicate N 0)).length=N:=by simp[ah]
 have hm3:(List.replicate N (0:Int)).length=N:=by simp
 refine aj ?_;refine bH (fun m S H'=>∃(k:Nat) (a b x y:Value),1<=k/\k<=N/\m=N-k/\S=[.slice (some ⟨i,0,none⟩) 1 1,.int .i64 N,.slice none 0 0,.int .u64 0,.int .u64 N,.slice (some ⟨H1.length,0,none⟩) N N,.int .i64 k,a,b,.int .i64 1,x,y]/\H'=H1++[some (ah (List.replicate k (-1)++List.replicate (N-k) 0))]) (N-1) ?_ ?_
 ·refine⟨1,_,_,_,_,byO,byO,rfl,rfl,?_⟩
  congr 2;rw[qy];congr 1;simp
 rintro m S H2 ⟨k,xa,xb,x,y,hk1,hk2,rfl,rfl,rfl⟩;(try simp only[aC]);refine dK ?_ ?_<;>intro h
 ·have hk:k<N:=by simp at h;omega
  clear h;have hl:(List.replicate k (-1)++List.replicate (N-k) (0:Int)).length=N:=by simp;omega
  generalize hmn:min k (N-k)=w;have hw:w<=k/\w<=N-k/\1<=w:=byO;refine aj ?_;simp only[cN];refine⟨N-(k+w),byO,k+w,_,_,_,_,byO,byO,rfl,by simp only[ap₀];rfl,?_⟩;congr 4;have e1:List.take k (List.replicate k (-1)++List.replicate (N-k) (0:Int))=List.replicate k (-1):=by simp
  have e2:List.take w (List.replicate k (-1)++List.replicate (N-k) (0:Int))=List.replicate w (-1):=by
   rw[List.take_append_of_le_length (by simp;omega),List.take_replicate,Nat.min_eq_left hw.1]
  have e3:List.drop (k+min w N) (List.replicate k (-1)++List.replicate (N-k) (0:Int))=List.replicate (N-(k+w)) 0:=by
   rw[Nat.min_eq_left byO,List.drop_append,List.drop_of_length_le (by simp)];simp;omega
  rw[e1,e2,e3,<-ba₀,List.replicate_append_replicate]
 ·have hk:k=N:=by simp at h;omega
  subst hk;clear h;refine aj ?_;refine eP ?_;refine⟨Ext.app _ _,rfl,?_⟩;simp(disch:=try exact dO)only[evB,xtr, *];simp
theorem wH{R C:Int}{g g':G}{l:List (Int×Int)}(h:kp (bZ R C) g l=some g'):g'.cells.length=g.cells.length:=by
 unfold kp at h;split at h
 ·rename_i g1 h1;cases h;exact(uY h1).1
 ·simp at h
theorem l9{R C:Int}{g g':G}{r c:Int}(h:rV (bZ R C) g r c=some g'):g'.cells.length=g.cells.length:=by
 unfold rV at h;split at h
 ·exact wH h
 ·cases h;rfl
theorem pq{R C:Int}{b:Bool}{g g':G}{l:List (Int×Int)}(h:kA (bZ R C) b g l=some g'):g'.cells.length=g.cells.length:=by
 unfold kA at h;split at h
 ·exact wH h
 ·cases h;rfl
theorem vu{R C:Int}{g g':G}{r c:Int}(h:gG (bZ R C) R C g r c=some g'):g'.cells.length=g.cells.length:=by
 unfold gG at h;split at h
 ·simp at h
 rename_i ga ha;split at h
 ·simp at h
 rename_i gb hb;split at h
 ·simp at h
 rename_i gc hc;rw[pq h,pq hc,pq hb,pq ha]
theorem Ff{R C:Int}:∀{k:Nat} {g g':G} {r c r' c':Int},upG (bZ R C) C k g r c=some (g',r',c')->g'.cells.length=g.cells.length/\-4002<=r'/\r'<=4002/\-4002<=c'/\c'<=4002
 | 0,_,_,_,_,_,_,h=>by simp[upG]at h
 | k+1,g,g',r,c,r',c',h=>by
  simp only[upG,n4]at h;split at h
  ·rename_i hb
   have hb:=ja hb;split at h
   ·simp at h
   rename_i g1 h1;split at h
   ·have:=Ff h;rw[l9 h1]at this;exact this
   ·cases h;exact⟨l9 h1,byO,byO,byO,byO⟩
  ·simp at h
theorem wF{R C:Int}:∀{k:Nat} {g g':G} {r c r' c':Int},kZ (bZ R C) R k g r c=some (g',r',c')->g'.cells.length=g.cells.length/\-4002<=r'/\r'<=4002/\-4002<=c'/\c'<=4002
 | 0,_,_,_,_,_,_,h=>by simp[kZ]at h
 | k+1,g,g',r,c,r',c',h=>by
  simp only[kZ,n4]at h;split at h
  ·rename_i hb
   have hb:=ja hb;split at h
   ·simp at h
   rename_i g1 h1;split at h
   ·have:=wF h;rw[l9 h1]at this;exact this
   ·cases h;exact⟨l9 h1,byO,byO,byO,byO⟩
  ·simp at h
set_option maxHeartbeats 4000000 in
theorem Hv{R C:Int}{gf:G}(hd:Dim R C)(hlo:lo<=H.length)(h:Bl R C=some gf) :
  Ev cp lo 78 [.int .i64 R,.int .i64 C] H (fun v H'=>Ext H H'/\∃q,H.length<=q/\v=.slice (some ⟨q,0,none⟩) gf.cells.length gf.cells.length/\H'.get q=some (ah gf.cells)):=by
 have hd':=hd;obtain⟨r0,r1,c0,c1⟩:=hd';have hm:=gB (a:=R) (b:=C) (A:=200) (B:=200) byO byO byO c1 byO;have hm1:6*C<=R*C:=Int.mul_le_mul_of_nonneg_right r0 byO;refine stG rfl rfl ?_;unfold OI;simp only[kB,aC];refine aj ?_;refine e9 ?_;refine aB (Ew (lo:=lo) (H:=H++[some [Value.int .i64 (-1)]]) (n:=R*C) (i:=H.length) byO byO (by simp;omega) Fq) ?_;rintro v H1 ⟨hx,rfl,hq⟩;have hx0:=hx.of_app;have hl1:=hx.1;simp only[as₀,ak₀,an₀]at hq hl1;generalize hqq:H.length+(0+1)=q at *;have hql:=Heap.get_lt hq;refine aj ?_;have hf:Fil (H1++[some [.int .i64 R,.int .i64 C,.slice (some ⟨q,0,none⟩) (R*C).toNat (R*C).toNat,.int .i64 0]]) H1.length q R C ⟨0,List.replicate (R*C).toNat (-1)⟩:=by
  refine⟨?_,?_,byO⟩
  ·rw[aG];simp
  ·rw[aQ hql];exact hq
 generalize hp:H1.length=p at *;unfold Bl at h;generalize hg0:(⟨0,List.replicate (R*C).toNat (-1)⟩:G)=g0 at *;have hlen0:(g0.cells.length:Int)=R*C:=by rw[<-hg0];simp;omega
 generalize hH2:H1++[some [.int .i64 R,.int .i64 C,.slice (some ⟨q,0,none⟩) (R*C).toNat (R*C).toNat,.int .i64 0]]=H2 at *;have hch0:∀i,i<H.length->H2.get i=H.get i:=by
  intro i hi;rw[<-hH2,aQ byO];exact hx0.2 i hi
 have hl2:H1.length<=H2.length:=by rw[<-hH2];simp
 have hlp:lo<=p:=byO;have hlq:lo<=q:=byO;have hHp:H.length<=p:=byO;have hHq:H.length<=q:=byO;generalize hy12:Value.slice (some ⟨H.length,0,none⟩) 1 1=y12;generalize hy13:Value.slice (some ⟨q,0,none⟩) (R*C).toNat (R*C).toNat=y13;refine bH (fun m S H'=>∃(t:Bool) (r c:Int) (g:G) (a8 a9 a15 a16:Value),S=[.int .i64 R,.int .i64 C,.slice none 0 0,.pointer (some ⟨p,0,none⟩),.func (.func 132) #[.pointer (some ⟨p,0,none⟩)] #[],.int .i64 r,.int .i64 c,.bool t,a8,a9,.int .i64 R,.int .i64 C,y12,y13,.pointer (some ⟨p,0,none⟩),a15,a16]/\Fil H' p q R C g/\(g.cells.length:Int)=R*C/\(∀i,i<H.length->H'.get i=H.get i)/\H.length<=H'.length /\
  ((t=true/\∃k,m=k+1/\sX (bZ R C) R C k g r c=some gf)\/(t=false/\m=0/\g=gf))) 201 ?_ ?_
 ·exact⟨true,4,0,g0,_,_,_,_,rfl,hf,hlen0,hch0,byO,.inl ⟨rfl,200,rfl,h⟩⟩
 rintro m S H3 ⟨t,r,c,g,a8,a9,a15,a16,rfl,hf3,hlen3,hch3,hl3,hcase⟩;(try simp only[aC]);refine dK ?_ ?_<;>intro h
 ·subst h
  rcases hcase with ⟨_,k,rfl,hout⟩|⟨e,_⟩;rotate_left
  ·cases e
  cases k with
  | zero=>simp[sX]at hout
  | succ k=>
  simp only[sX,n4]at hout;split at hout;rotate_left
  ·simp at hout
  rename_i hinB;have hb:=ja hinB;split at hout
  ·simp at hout
  rename_i g4 hg4;split at hout
  ·simp at hout
  rename_i g5 ra ca hg5;split at hout
  ·simp at hout
  rename_i g6 rb cb hg6;have bl5:=Ff hg5;have bl6:=wF hg6;have bl4:=vu hg4;(try simp only[aC]);refine e9 ?_;refine aB (BH hd hf3 hlp hlq hg4) ?_;rintro v H4 ⟨hf4,hc4⟩;refine aj ?_;have hlen4:(g4.cells.length:Int)=R*C:=by rw[bl4];exact hlen3
  have hch4:∀i,i<H.length->H4.get i=H.get i:=fun i hi=>by rw[hc4.get i byO byO byO];exact hch3 i hi
  have hl4:H.length<=H4.length:=Nat.le_trans hl3 hc4.len;refine zR (fun S H'=>∃(a8 a9 a15 a16:Value),S=[.int .i64 R,.int .i64 C,.slice none 0 0,.pointer (some ⟨p,0,none⟩),.func (.func 132) #[.pointer (some ⟨p,0,none⟩)] #[],.int .i64 ra,.int .i64 ca,.bool true,a8,a9,.int .i64 R,.int .i64 C,y12,y13,.pointer (some ⟨p,0,none⟩),a15,a16]/\Fil H' p q R C g5/\(∀i,i<H.length->H'.get i=H.get i)/\H.length<=H'.length) ?_ ?_
  ·(try simp only[aC])
   refine bH (fun m S H'=>∃(t:Bool) (r c:Int) (g:G) (a9 a15 a16:Value),S=[.int .i64 R,.int .i64 C,.slice none 0 0,.pointer (some ⟨p,0,none⟩),.func (.func 132) #[.pointer (some ⟨p,0,none⟩)] #[],.int .i64 r,.int .i64 c,.bool true,.bool t,a9,.int .i64 R,.int .i64 C,y12,y13,.pointer (some ⟨p,0,none⟩),a15,a16]/\Fil H' p q R C g/\(g.cells.length:Int)=R*C/\(∀i,i<H.length->H'.get i=H.get i)/\H.length<=H'.length /\
    ((t=true/\∃k,m=k+1/\upG (bZ R C) C k g r c=some (g5,ra,ca))\/(t=false/\m=0/\g=g5/\r=ra/\c=ca))) 201 ?_ ?_
   ·exact⟨true,r,c,g4,_,_,_,rfl,hf4,hlen4,hch4,hl4,.inl ⟨rfl,200,rfl,hg5⟩⟩
   rintro m S H5 ⟨t,r,c,g,a9,a15,a16,rfl,hf5,hlen5,hch5,hl5,hcase⟩;(try simp only[aC]);refine dK ?_ ?_<;>intro h
   ·subst h
    rcases hcase with ⟨_,k,rfl,hup⟩|⟨e,_⟩;rotate_left
    ·cases e
    cases k with
    | zero=>simp[upG]at hup
    | succ k=>
    simp only[upG,n4]at hup;split at hup;rotate_left
    ·simp at hup
    rename_i hinB;have hb:=ja hinB;split at hup
    ·simp at hup
    rename_i g7 hg7;have hlen7:(g7.cells.length:Int)=R*C:=by rw[l9 hg7];exact hlen5
    (try simp only[aC]);refine e9 ?_;refine aB (D6 hd hf5 hlen5) ?_;rintro v H6 ⟨rfl,rfl⟩;(try simp only[aC]);refine iI (fun S H'=>∃(a9 a15 a16:Value),S=[.int .i64 R,.int .i64 C,.slice none 0 0,.pointer (some ⟨p,0,none⟩),.func (.func 132) #[.pointer (some ⟨p,0,none⟩)] #[],.int .i64 r,.int .i64 c,.bool true,.bool true,a9,.int .i64 R,.int .i64 C,y12,y13,.pointer (some ⟨p,0,none⟩),a15,a16]/\Fil H' p q R C g7/\(∀i,i<H.length->H'.get i=H.get i)/\H.length<=H'.length) ?_ ?_
    ·refine dK ?_ ?_<;>intro h
     ·simp only[rV,h,if_true]at hg7
      (try simp only[aC]);refine e9 ?_;refine aB (A4 hinB hd hf5 hlp hlq hg7) ?_;rintro v H7 ⟨hf7,hc7⟩;(try simp only[aC]);exact⟨_,_,_,rfl,hf7,fun i hi=>by rw[hc7.get i byO byO byO];exact hch5 i hi,Nat.le_trans hl5 hc7.len⟩
     ·simp only[rV,h]at hg7
      cases hg7;(try simp only[aC]);exact⟨_,_,_,rfl,hf5,hch5,hl5⟩
    rintro S H7 ⟨b9,b15,b16,rfl,hf7,hch7,hl7⟩;refine aj ?_;simp only[cN];split at hup
    ·rename_i hcond
     refine⟨k+1,byO,_,r-2,c+2,g7,_,_,_,rfl,hf7,hlen7,hch7,hl7,.inl ⟨by simp;omega,k,rfl,hup⟩⟩
    ·rename_i hcond
     simp only[ab₀,ad₀]at hup;refine⟨0,byO,_,r-2,c+2,g7,_,_,_,rfl,hf7,hlen7,hch7,hl7,.inr ⟨by simp;omega,rfl,hup.1,hup.2.1,hup.2.2⟩⟩
   ·subst h
    rcases hcase with ⟨e,_⟩|⟨_,_,rfl,rfl,rfl⟩
    ·cases e
    (try simp only[aC]);exact⟨_,_,_,_,rfl,hf5,hch5,hl5⟩
  rintro S H5 ⟨b8,b9,b15,b16,rfl,hf5,hch5,hl5⟩;refine aj ?_;have hlen5:(g5.cells.length:Int)=R*C:=by rw[bl5.1];exact hlen4
  refine zR (fun S H'=>∃(a8 a9 a15 a16:Value),S=[.int .i64 R,.int .i64 C,.slice none 0 0,.pointer (some ⟨p,0,none⟩),.func (.func 132) #[.pointer (some ⟨p,0,none⟩)] #[],.int .i64 rb,.int .i64 cb,.bool true,a8,a9,.int .i64 R,.int .i64 C,y12,y13,.pointer (some ⟨p,0,none⟩),a15,a16]/\Fil H' p q R C g6/\(∀i,i<H.length->H'.get i=H.get i)/\H.length<=H'.length) ?_ ?_
  ·(try simp only[aC])
   refine bH (fun m S H'=>∃(t:Bool) (r c:Int) (g:G) (a8 a15 a16:Value),S=[.int .i64 R,.int .i64 C,.slice none 0 0,.pointer (some ⟨p,0,none⟩),.func (.func 132) #[.pointer (some ⟨p,0,none⟩)] #[],.int .i64 r,.int .i64 c,.bool true,a8,.bool t,.int .i64 R,.int .i64 C,y12,y13,.pointer (some ⟨p,0,none⟩),a15,a16]/\Fil H' p q R C g/\(g.cells.length:Int)=R*C/\(∀i,i<H.length->H'.get i=H.get i)/\H.length<=H'.length /\
    ((t=true/\∃k,m=k+1/\kZ (bZ R C) R k g r c=some (g6,rb,cb))\/(t=false/\m=0/\g=g6/\r=rb/\c=cb))) 201 ?_ ?_
   ·exact⟨true,ra+1,ca+3,g5,_,_,_,rfl,hf5,hlen5,hch5,hl5,.inl ⟨rfl,200,rfl,hg6⟩⟩
   rintro m S H6 ⟨t,r,c,g,a8,a15,a16,rfl,hf6,hlen6,hch6,hl6,hcase⟩;(try simp only[aC]);refine dK ?_ ?_<;>intro h
   ·subst h
    rcases hcase with ⟨_,k,rfl,hup⟩|⟨e,_⟩;rotate_left
    ·cases e
    cases k with
    | zero=>simp[kZ]at hup
    | succ k=>
    simp only[kZ,n4]at hup;split at hup;rotate_left
    ·simp at hup
    rename_i hinB;have hb:=ja hinB;split at hup
    ·simp at hup
    rename_i g7 hg7;have hlen7:(g7.cells.length:Int)=R*C:=by rw[l9 hg7];exact hlen6
    (try simp only[aC]);refine e9 ?_;refine aB (D6 hd hf6 hlen6) ?_;rintro v H7 ⟨rfl,rfl⟩;(try simp only[aC]);refine iI (fun S H'=>∃(a8 a15 a16:Value),S=[.int .i64 R,.int .i64 C,.slice none 0 0,.pointer (some ⟨p,0,none⟩),.func (.func 132) #[.pointer (some ⟨p,0,none⟩)] #[],.int .i64 r,.int .i64 c,.bool true,a8,.bool true,.int .i64 R,.int .i64 C,y12,y13,.pointer (some ⟨p,0,none⟩),a15,a16]/\Fil H' p q R C g7/\(∀i,i<H.length->H'.get i=H.get i)/\H.length<=H'.length) ?_ ?_
    ·refine dK ?_ ?_<;>intro h
     ·simp only[rV,h,if_true]at hg7
      (try simp only[aC]);refine e9 ?_;refine aB (A4 hinB hd hf6 hlp hlq hg7) ?_;rintro v H8 ⟨hf8,hc8⟩;(try simp only[aC]);exact⟨_,_,_,rfl,hf8,fun i hi=>by rw[hc8.get i byO byO byO];exact hch6 i hi,Nat.le_trans hl6 hc8.len⟩
     ·simp only[rV,h]at hg7
      cases hg7;(try simp only[aC]);exact⟨_,_,_,rfl,hf6,hch6,hl6⟩
    rintro S H8 ⟨b9,b15,b16,rfl,hf8,hch8,hl8⟩;refine aj ?_;simp only[cN];split at hup
    ·rename_i hcond
     refine⟨k+1,byO,_,r+2,c-2,g7,_,_,_,rfl,hf8,hlen7,hch8,hl8,.inl ⟨by simp;omega,k,rfl,hup⟩⟩
    ·rename_i hcond
     simp only[ab₀,ad₀]at hup;refine⟨0,byO,_,r+2,c-2,g7,_,_,_,rfl,hf8,hlen7,hch8,hl8,.inr ⟨by simp;omega,rfl,hup.1,hup.2.1,hup.2.2⟩⟩
   ·subst h
    rcases hcase with ⟨e,_⟩|⟨_,_,rfl,rfl,rfl⟩
    ·cases e
    (try simp only[aC]);exact⟨_,_,_,_,rfl,hf6,hch6,hl6⟩
  rintro S H6 ⟨d8,d9,d15,d16,rfl,hf6,hch6,hl6⟩;refine aj ?_;simp only[cN];have hlen6:(g6.cells.length:Int)=R*C:=by rw[bl6.1];exact hlen5
  split at hout
  ·rename_i hcond
   refine⟨k+1,byO,_,rb+3,cb+1,g6,_,_,_,_,rfl,hf6,hlen6,hch6,hl6,.inl ⟨by simp;omega,k,rfl,hout⟩⟩
  ·rename_i hcond
   cases hout;refine⟨0,byO,_,rb+3,cb+1,gf,_,_,_,_,rfl,hf6,hlen6,hch6,hl6,.inr ⟨by simp;omega,rfl,rfl⟩⟩
 ·subst h
  rcases hcase with ⟨e,_⟩|⟨_,_,rfl⟩
  ·cases e
  have fp:=hf3.fp;refine aj ?_;refine eP ?_;exact⟨⟨hl3,hch3⟩,q,hHq,rfl,hf3.fq⟩
def jV(s:Sz):Int:=s.r.tdiv (s.rr+2)*s.rr
def gu(s:Sz):Int:=s.c.tdiv (s.rc+2)*s.rc
structure SzOK (s:Sz):Prop where
 r0:8<=s.r
 r1:s.r<=200
 c0:8<=s.c
 c1:s.c<=200
 rr0:6<=s.rr
 rr1:s.rr<=200
 rc0:6<=s.rc
 rc1:s.rc<=200
 d0:1<=s.d
 d1:s.d<=1600
 k0:1<=s.k
 k1:s.k<=1600
def F5(s:Sz):Bool:=decide (8<=s.r)&&decide (s.r<=200)&&decide (8<=s.c)&&decide (s.c<=200)&&decide (6<=s.rr)&&decide (s.rr<=200)&&decide (6<=s.rc)&&decide (s.rc<=200)&&decide (1<=s.d)&&decide (s.d<=1600)&&decide (1<=s.k)&&decide (s.k<=1600)
theorem Ie{s:Sz}(h:F5 s=true):SzOK s:=by
 simp only[F5,ac₀,af₀]at h;obtain⟨⟨⟨⟨⟨⟨⟨⟨⟨⟨⟨a,b⟩,c⟩,d⟩,e⟩,f⟩,g⟩,i⟩,j⟩,k⟩,l⟩,m⟩:=h;exact⟨a,b,c,d,e,f,g,i,j,k,l,m⟩
theorem F8:∀s ∈ szs,SzOK s:=fun s hs=>Ie (List.all_eq_true.1 (show szs.all F5=true by kernel_rfl) s hs)
theorem ae(h:i<30):bP i ∈ szs:=by
 unfold bP;rw[au₀,bb₀ (by rw[jM];exact h)];exact List.getElem_mem _
theorem kU{a b:Int}(h:0<=a)(hb:0<b):0<=a.tdiv b/\a.tdiv b<=a:=⟨Int.tdiv_nonneg h byO,Int.tdiv_le_self b h⟩
theorem uc{s:Sz}(h:SzOK s):0<=jV s/\jV s<=40000/\0<=gu s/\gu s<=40000/\0<=s.r.tdiv (s.rr+2)/\s.r.tdiv (s.rr+2)<=200/\0<=s.c.tdiv (s.rc+2)/\s.c.tdiv (s.rc+2)<=200:=by
 obtain⟨r0,r1,c0,c1,rr0,rr1,rc0,rc1,_⟩:=h;have d1:=kU (a:=s.r) (b:=s.rr+2) byO byO;have d2:=kU (a:=s.c) (b:=s.rc+2) byO byO;have m1:=gB (a:=s.r.tdiv (s.rr+2)) (b:=s.rr) (A:=200) (B:=200) byO byO byO byO byO;have m2:=gB (a:=s.c.tdiv (s.rc+2)) (b:=s.rc) (A:=200) (B:=200) byO byO byO byO byO;have n1:0<=s.r.tdiv (s.rr+2)*s.rr:=Int.mul_nonneg d1.1 byO;have n2:0<=s.c.tdiv (s.rc+2)*s.rc:=Int.mul_nonneg d2.1 byO;unfold jV gu;omega
theorem tU{s:Sz}(hs:SzOK s):Ev cp lo 77 [s.val] H (fun v H'=>Ext H H'/\v=.tuple #[.int .i64 (jV s),.int .i64 (gu s)]):=by
 have hb:=uc hs;obtain⟨r0,r1,c0,c1,rr0,rr1,rc0,rc1,_⟩:=hs;unfold jV gu at hb;refine stG rfl rfl ?_;unfold OH;simp only[kB,aC];refine aj ?_;refine eP ?_;exact⟨Ext.app _ _,rfl⟩
def Om(R C:Int):Prop:=∃s ∈ szs,jV s=R/\gu s=C
def lr(s:Sz)(row:Int):Int:=row.tmod (s.rr+2)
def lc(s:Sz)(col:Int):Int:=col.tmod (s.rc+2)
def rI(s:Sz)(row col:Int):Bool:=(decide (lc s col=0) || decide (lr s row=s.rr+1)) || decide (lr s row=0) || decide (lc s col=s.rc+1)
def y8(s:Sz)(row col:Int):Bool:=if (decide (lc s col=0) || decide (lr s row=s.rr+1))=true then true else if lr s row=0 then decide ((lc s col).tmod 2=0) else if lc s col=s.rc+1 then decide ((lr s row).tmod 2=1) else false
def gQ(s:Sz)(row col:Int):Int:=if rI s row col=true then 0 else(row.tdiv (s.rr+2)*s.rr+lr s row-1)*gu s+col.tdiv (s.rc+2)*s.rc+lc s col-1
theorem EA{s:Sz}{row col:Int}(hs:SzOK s)(hlo:lo<=H.length)(h0:0<=row)(h1:row<=200)(h2:0<=col)(h3:col<=200) :
  Ev cp lo 79 [s.val,.int .i64 row,.int .i64 col] H (fun v H'=>Ext H H'/\v=.agg #[.bool (rI s row col),.bool (y8 s row col),.int .i64 (gQ s row col)]):=by
 have hb:=uc hs;have hs':=hs;obtain⟨r0,r1,c0,c1,rr0,rr1,rc0,rc1,_⟩:=hs';have m1:=kV (a:=row) (m:=s.rr+2) byO byO;have m2:=kV (a:=col) (m:=s.rc+2) byO byO;have e1:s.rr+2-1=s.rr+1:=byO;have e2:s.rc+2-1=s.rc+1:=byO;have er:row.tmod (s.rr+2)=lr s row:=rfl;have ec:col.tmod (s.rc+2)=lc s col:=rfl;rw[er]at m1;rw[ec]at m2;refine stG rfl rfl ?_;unfold OJ;simp only[kB,aC];refine aj ?_;by_cases k1:(decide (lc s col=0) || decide (lr s row=s.rr+1))=true
 ·refine dK ?_ ?_<;>intro h
  ·clear h
   refine aj ?_;refine eP ?_;refine⟨Ext.app _ _,?_⟩;simp[aP,rI,y8,gQ,k1]
  ·cases h
 have k1':(decide (lc s col=0) || decide (lr s row=s.rr+1))=false:=by simpa using k1
 refine dK ?_ ?_<;>intro h
 ·cases h
 clear h;have a1:¬ lc s col=0:=by intro e;simp[e]at k1'
 have a2:¬ lr s row=s.rr+1:=by intro e;simp[e]at k1'
 clear k1 k1';(try simp only[aC]);refine dK ?_ ?_<;>intro h
 ·have k2:lr s row=0:=by simpa using h
  clear h;refine aj ?_;refine eP ?_;refine⟨Ext.app _ _,?_⟩;have a3:¬ (0:Int)=s.rr+1:=byO;simp[aP,rI,y8,gQ,a1,a3,k2]
 have k2:¬ lr s row=0:=by simpa using h
 clear h;(try simp only[aC]);refine dK ?_ ?_<;>intro h
 ·have k3:lc s col=s.rc+1:=by simpa using h
  clear h;refine aj ?_;refine eP ?_;refine⟨Ext.app _ _,?_⟩;have a3:¬ s.rc+1=0:=byO;simp[aP,rI,y8,gQ,a2,k2,k3,a3]
 have k3:¬ lc s col=s.rc+1:=by simpa using h
 clear h;(try simp only[aC]);refine e9 ?_;refine aB (tU (s:=s) hs) ?_;rintro v H3 ⟨hx3,rfl⟩;have g0:H3.get H.length=some _:=hx3.get mI;have g1:H3.get (H.length+1)=some _:=hx3.get mI;have hl3:=hx3.1;simp only[as₀,ak₀,an₀]at hl3;have t1:=kU (a:=row) (b:=s.rr+2) byO byO;have t2:=kU (a:=col) (b:=s.rc+2) byO byO;have u1:=gB (a:=row.tdiv (s.rr+2)) (b:=s.rr) (A:=200) (B:=200) byO byO byO byO byO;have u2:=gB (a:=col.tdiv (s.rc+2)) (b:=s.rc) (A:=200) (B:=200) byO byO byO byO byO;have u3:=gB (a:=row.tdiv (s.rr+2)*s.rr+lr s row-1) (b:=gu s) (A:=50000) (B:=40000) byO byO byO byO byO;have hx0:=hx3.of_app;refine aj ?_;refine eP ?_;refine⟨hx0.set byO,?_⟩;simp[aP,rI,y8,gQ,a1,a2,k2,k3]
def Ld(R C i:Int):Bool:=(decide (i.tdiv C=R-2)&&decide (i.tmod C=C-2)) || (decide (i.tdiv C=R-1)&&decide (i.tmod C=C-1))
theorem Gd{R C i:Int}(hd:Dim R C)(h0:0<=i)(h1:i<=2000000000):Ev cp lo 80 [.int .i64 R,.int .i64 C,.int .i64 i] H (fun v H'=>H'=H/\v=.bool (Ld R C i)):=by
 obtain⟨r0,r1,c0,c1⟩:=hd;have t1:=kU (a:=i) (b:=C) byO byO;refine stG rfl rfl ?_;unfold OK;simp only[kB,aC];refine aj ?_;refine eP ?_;exact⟨rfl,rfl⟩
theorem KE{a b:Sz}:aZ [1,1,1,1,1,1,1] a.cells b.cells=some (decide (a=b)):=by
 cases a;cases b;simp[Sz.cells,aZ,jw];rw[Bool.eq_iff_iff];simp
theorem HA{j:Nat}{s:Sz}(hg:H.get j=some szCells):Ev cp lo 99 [.slice (some ⟨j,0,none⟩) 30 30,s.val] H (fun v H'=>Ext H H'/\∃k:Int,v=.int .i64 k/\decide (0<=k)=decide (s ∈ szs)):=by
 have hj:=Heap.get_lt hg;refine stG rfl rfl ?_;unfold Kx;simp only[kB,aC];refine aj ?_;refine bH (fun m S H'=>∃(i:Int) (x4:Value),0<=i/\i<=30/\m=(30-i).toNat/\S=[.slice (some ⟨j,0,none⟩) 30 30,s.val,.pointer (some ⟨H.length,0,none⟩),.int .i64 0,x4,.int .i64 30,.int .i64 i]/\H'=H++[some s.cells]/\¬ s ∈ szs.take i.toNat) 30 ?_ ?_
 ·exact⟨0,_,byO,byO,byO,rfl,rfl,by simp⟩
 rintro m S H2 ⟨i,x4,hi0,hi1,rfl,rfl,rfl,hno⟩;(try simp only[aC]);refine dK ?_ ?_<;>intro h
 ·have hi:i<30:=by simpa using h
  clear h;have hrow:=kT (i:=i.toNat) byO;have hlen:=jL;have hse:=KE (a:=s) (b:=bP i.toNat);simp only[Sz.cells]at hse;have hmem:=ae (i:=i.toNat) byO;refine aj ?_;refine dK ?_ ?_<;>intro h
  ·have he:s=bP i.toNat:=by simpa using h
   clear h;refine aj ?_;refine eP ?_;refine⟨Ext.app _ _,i,rfl,?_⟩;rw[he];simp[hmem,hi0]
  ·have he:¬ s=bP i.toNat:=by simpa using h
   clear h;refine aj ?_;simp only[cN];refine⟨(30-(i+1)).toNat,byO,i+1,_,byO,byO,rfl,rfl,by trivial,?_⟩;rw[show(i+1).toNat=i.toNat+1 by omega,fT byO];intro hm;rcases List.mem_append.1 hm with hm|hm
   ·exact hno hm
   ·simp at hm;exact he hm
 ·obtain rfl:i=30:=by simp at h;omega
  clear h;refine aj ?_;refine eP ?_;refine⟨Ext.app _ _,-1,rfl,?_⟩;rw[List.take_of_length_le (by rw[jM];omega)]at hno;simp[hno]
theorem yG{j:Nat}{s:Sz}(hg:H.get j=some szCells):Ev cp lo 54 [.slice (some ⟨j,0,none⟩) 30 30,s.val] H (fun v H'=>Ext H H'/\v=.bool (decide (s ∈ szs))):=by
 have hj:=Heap.get_lt hg;refine stG rfl rfl ?_;unfold Kv;simp only[kB,aC];refine aj ?_;refine e9 ?_;refine aB (HA (s:=s) (j:=j) Fq) ?_;rintro v H1 ⟨hx,k,rfl,hk⟩;refine aj ?_;refine eP ?_;exact⟨hx.of_app,by simp only[aP,hk]⟩
def Words(H:Heap)(v:Value)(ws:List Int):Prop:=(v=.slice none 0 0/\ws=[])\/∃b cap xs,v=.slice (some ⟨b,0,none⟩) ws.length cap/\H.get b=some (ah xs)/\(∀i,i<ws.length->xs.getD i 0=ws.getD i 0)/\ws.length<=xs.length
theorem Words.mono{H H':Heap}{v:Value}{ws:List Int}(h:Words H v ws)(e:Ext H H'):Words H' v ws:=by
 rcases h with h|⟨b,cap,xs,h1,h2,h3⟩
 ·exact .inl h
 ·exact .inr ⟨b,cap,xs,h1,e.get h2,h3⟩
def LC(w n:Int):Bool:=decide (IntKind.i64.wrap ((BitVec.ofInt IntKind.i64.bits (w.fdiv (2^(min (7-n.tmod 8).toNat IntKind.i64.bits))) &&& BitVec.ofInt IntKind.i64.bits 1).toNat:Int)=1)
def mo(s:Sz)(o ws:List Int)(i:Nat):Bool:=
 if rI s ((i:Int).tdiv s.c) ((i:Int).tmod s.c)=true then y8 s ((i:Int).tdiv s.c) ((i:Int).tmod s.c)
 else if 0<=o.getD (gQ s ((i:Int).tdiv s.c) ((i:Int).tmod s.c)).toNat 0 then LC (ws.getD ((o.getD (gQ s ((i:Int).tdiv s.c) ((i:Int).tmod s.c)).toNat 0).tdiv 8).toNat 0) (o.getD (gQ s ((i:Int).tdiv s.c) ((i:Int).tmod s.c)).toNat 0)
 else Ld (jV s) (gu s) (gQ s ((i:Int).tdiv s.c) ((i:Int).tmod s.c))
def eA(s:Sz)(o ws:List Int)(i:Nat):List Bool:=(List.range i).map (mo s o ws)
structure SizeOrd (s:Sz)(gf:G):Prop where
 ord:Bl (jV s) (gu s)=some gf
 dim:Dim (jV s) (gu s)
 od:Ordered (jV s*gu s).toNat (s.d+s.k).toNat gf.cells
 loc:∀i:Nat,(i:Int)<s.r*s.c->rI s ((i:Int).tdiv s.c) ((i:Int).tmod s.c)=false->0<=gQ s ((i:Int).tdiv s.c) ((i:Int).tmod s.c)/\gQ s ((i:Int).tdiv s.c) ((i:Int).tmod s.c)<jV s*gu s
def fu(ws:List Int):Bool:=ws.any fun w=>decide (w<0) || decide (255<w)
theorem wc{s:Sz}{o ws:List Int}{i n:Nat}{b:Bool}(hi:i<n)(hb:b=mo s o ws i):(eA s o ws i++List.replicate (n-i) false).set i b=eA s o ws (i+1)++List.replicate (n-(i+1)) false:=by
 have hl:(eA s o ws i).length=i:=by simp[eA]
 rw[List.set_append_right i b byO,hl,Nat.sub_self];obtain⟨k,hk⟩:∃k,n-i=k+1:=⟨n-i-1,byO⟩;rw[hk,List.replicate_succ,List.set_cons_zero,show n-(i+1)=k by omega,hb];simp[eA,List.range_succ]
theorem mJ{p:Int->Bool}{l:List Int}(h:i<l.length):(l.take (i+1)).any p=((l.take i).any p || p (l.getD i 0)):=by
 rw[List.take_add_one,bb₀ h,List.any_append,au₀,bb₀ h];simp
set_option maxHeartbeats 4000000 in
theorem IH{v:Value}{ws:List Int}{s:Sz}(hlo:lo<=H.length)(hw:Words H v ws)(hs:s ∈ szs->∃gf,SizeOrd s gf) :
  Ev cp lo 41 [v,s.val] H (fun r H'=>Ext H H' /\
   ((¬ s ∈ szs/\r=.tuple #[.agg #[.int .i64 0,.int .i64 0,.slice none 0 0],.int .i64 14]) \/
    (s ∈ szs/\(ws.length:Int)≠s.d+s.k/\r=.tuple #[.agg #[.int .i64 0,.int .i64 0,.slice none 0 0],.int .i64 7]) \/
    (s ∈ szs/\(ws.length:Int)=s.d+s.k/\fu ws=true/\r=.tuple #[.agg #[.int .i64 0,.int .i64 0,.slice none 0 0],.int .i64 3]) \/
    (s ∈ szs/\(ws.length:Int)=s.d+s.k/\fu ws=false/\∃gf q,SizeOrd s gf/\H.length<=q/\r=.tuple #[.agg #[.int .i64 s.c,.int .i64 s.r,.slice (some ⟨q,0,none⟩) (s.r*s.c).toNat (s.r*s.c).toNat],.int .i64 0]/\H'.get q=some (iL (eA s gf.cells ws (s.r*s.c).toNat))))):=by
 refine stG rfl rfl ?_;unfold Nt;simp only[kB,aC];refine aj ?_;refine e9 ?_;refine cU (vN (Nat.le_refl _)) ?_;rintro v1 H1 ⟨j,hj,rfl,hg,hE⟩;have g0:H1.get H.length=some _:=hE.get mI;have g1:H1.get (H.length+1)=some _:=hE.get mI;have hx1:=hE.of_app;have hl1:=hE.1;simp only[as₀,ak₀,an₀]at hj hl1;clear hE;(try simp only[aC]);refine e9 ?_;refine aB (yG (s:=s) (j:=j) hg) ?_;rintro v2 H2 ⟨hx2,rfl⟩;have g0:=hx2.get g0;have g1:=hx2.get g1;have hx2:=hx1.trans hx2;have hl2:=Heap.get_lt g1;clear hx1 hl1 hg;(try simp only[aC]);refine dK ?_ ?_<;>intro h
 ·have hsm:¬ s ∈ szs:=by simpa using h
  clear h;refine aj ?_;refine eP ?_;exact⟨hx2.set byO,.inl ⟨hsm,rfl⟩⟩
 have hsm:s ∈ szs:=by simpa using h
 clear h;obtain⟨gf,hso⟩:=hs hsm;have hok:=F8 s hsm;have hok':=hok;obtain⟨r0,r1,c0,c1,rr0,rr1,rc0,rc1,d0,d1,k0,k1⟩:=hok';(try simp only[aC]);rcases hw with ⟨rfl,rfl⟩|⟨b,cap,xs,rfl,hb,hws,hwl⟩
 ·refine dK ?_ ?_<;>intro h
  ·clear h
   refine aj ?_;refine eP ?_;exact⟨hx2.set byO,.inr (.inl ⟨hsm,by simp;omega,rfl⟩)⟩
  ·simp at h;omega
 have hbl:=Heap.get_lt hb;refine dK ?_ ?_<;>intro h
 ·have hlen:¬ (ws.length:Int)=s.d+s.k:=by simpa using h
  clear h;refine aj ?_;refine eP ?_;exact⟨hx2.set byO,.inr (.inl ⟨hsm,hlen,rfl⟩)⟩
 have hlen:(ws.length:Int)=s.d+s.k:=by simpa using h
 clear h;have hb2:=hx2.get hb;have hsl:ws.length<=3200:=byO;refine aj ?_;refine eS (fun S' H'=>∃x1 x5 x13 x14 x15 x18:Value,fu ws=false/\S'=[.slice (some ⟨b,0,none⟩) ws.length cap,x1,.pointer (some ⟨H.length,0,none⟩),.pointer (some ⟨H.length+1,0,none⟩),.int .i64 0,x5,undef,undef,undef,undef,undef,undef,undef,x13,x14,x15,.slice (some ⟨b,0,none⟩) ws.length cap,.int .i64 (s.d+s.k),x18,undef,undef,undef,undef,undef,undef,undef,undef,undef,undef,undef,undef]/\H'=H2) ?_ ?_
 ·refine bH (fun m S' H'=>∃(x1 x5 x13 x14 x15:Value) (i:Nat),i<=ws.length/\m=ws.length-i/\fu (ws.take i)=false/\S'=[.slice (some ⟨b,0,none⟩) ws.length cap,x1,.pointer (some ⟨H.length,0,none⟩),.pointer (some ⟨H.length+1,0,none⟩),.int .i64 0,x5,undef,undef,undef,undef,undef,undef,undef,x13,x14,x15,.slice (some ⟨b,0,none⟩) ws.length cap,.int .i64 (s.d+s.k),.int .i64 i,undef,undef,undef,undef,undef,undef,undef,undef,undef,undef,undef,undef]/\H'=H2) ws.length ?_ ?_
  ·exact⟨_,_,_,_,_,0,byO,byO,by simp[fu],rfl,rfl⟩
  rintro m S' H' ⟨x1,x5,x13,x14,x15,i,hi,rfl,hbw,rfl,rfl⟩;(try simp only[aC]);refine dK ?_ ?_<;>intro h
  ·have hi2:i<ws.length:=by simp at h;omega
   clear h;have hne:(i:Int)<ws.length:=byO;refine aj ?_;refine dK ?_ ?_<;>intro h
   ·have hbad:fu ws=true:=by
     have:=mJ (p:=fun w=>decide (w<0) || decide (255<w)) hi2;have h2:(ws.take (i+1)).any (fun w=>decide (w<0) || decide (255<w))=true:=by rw[this,h];simp
     unfold fu;obtain⟨w,hw1,hw2⟩:=List.any_eq_true.1 h2;exact List.any_eq_true.2 ⟨w,List.mem_of_mem_take hw1,hw2⟩
    clear h;refine aj ?_;refine eP ?_;exact⟨hx2.set byO,.inr (.inr (.inl ⟨hsm,hlen,hbad,rfl⟩))⟩
   ·refine aj ?_
    simp only[cN];refine⟨ws.length-(i+1),byO,_,_,_,_,_,i+1,byO,rfl,?_,by simp only[ap₀,Int.natCast_one];rfl,by trivial⟩;unfold fu at hbw ⊢;rw[mJ hi2,hbw,h];rfl
  ·have hi2:i=ws.length:=by simp at h;omega
   clear h;subst hi2;rw[List.take_of_length_le (Nat.le_refl _)]at hbw;(try simp only[aC]);exact⟨_,_,_,_,_,_,hbw,rfl,by trivial⟩
 rintro S' H' ⟨x1,x5,x13,x14,x15,x18,hbw,rfl,rfl⟩;(try simp only[aC]);refine e9 ?_;refine aB (tU (s:=s) hok) ?_;rintro v H3 ⟨hx3,rfl⟩;have g0:=hx3.get g0;have g1:=hx3.get g1;have hb3:=hx3.get hb2;have hx3:=hx2.trans hx3;refine aj ?_;refine e9 ?_;refine aB (Hv hso.dim (by have:=hx3.1;omega) hso.ord) ?_;rintro v H4 ⟨hx4,q,hq,rfl,hgq⟩;have g0:=hx4.get g0;have g1:=hx4.get g1;have hb4:=hx4.get hb3;have hl4:=Heap.get_lt g1;have hql:=Heap.get_lt hgq;have hl3:=hx3.1;have hx4:=hx3.trans hx4;have hm:=gB (a:=s.r) (b:=s.c) (A:=200) (B:=200) byO byO byO byO byO;have hm0:0<=s.r*s.c:=Int.mul_nonneg byO byO;refine aj ?_;have hgl:gf.cells.length<=(jV s*gu s).toNat/\(jV s*gu s).toNat<=gf.cells.length:=by rw[hso.od.len];omega
 have hmb:=uc hok;have hrc0:0<=jV s*gu s:=Int.mul_nonneg byO byO;generalize hM:H4.length=M at *;generalize hN:(s.r*s.c).toNat=N at *;have hNi:(N:Int)<=s.r*s.c/\s.r*s.c<=N:=byO;clear hN;refine bH (fun m S' H'=>∃(x1 x5 x13 x14 x15 x18 x19 x20 x21 x22 x23 x24 y10 y11 y12 y27 y28 y29 y30:Value) (i:Nat),i<=N/\m=N-i/\S'=[.slice (some ⟨b,0,none⟩) ws.length cap,x1,.pointer (some ⟨H.length,0,none⟩),.pointer (some ⟨H.length+1,0,none⟩),.int .i64 0,x5,.int .i64 (jV s),.int .i64 (gu s),.slice (some ⟨q,0,none⟩) gf.cells.length gf.cells.length,.pointer (some ⟨M+1,0,none⟩),y10,y11,y12,x13,x14,x15,.slice (some ⟨b,0,none⟩) ws.length cap,.int .i64 (s.d+s.k),x18,x19,x20,x21,x22,x23,x24,.int .i64 N,.int .i64 i,y27,y28,y29,y30]/\Ext H H'/\M+1<H'.length/\H'.get H.length=some s.cells/\H'.get (H.length+1)=some [.int .i64 0,.int .i64 0,.slice none 0 0]/\H'.get b=some (ah xs)/\H'.get q=some (ah gf.cells)/\H'.get (M+1)=some [.int .i64 s.c,.int .i64 s.r,.slice (some ⟨M,0,none⟩) N N]/\H'.get M=some (iL (eA s gf.cells ws i++List.replicate (N-i) false))) N ?_ ?_
 ·refine⟨_,_,_,_,_,_,_,_,_,_,_,_,_,_,_,_,_,_,_,0,byO,byO,rfl,hx4.trans (Ext.app _ _),?_,?_,?_,?_,?_,?_,?_⟩
  ·simp;omega
  ·rw[aQ byO];exact g0
  ·rw[aQ byO];exact g1
  ·rw[aQ byO];exact hb4
  ·rw[aQ byO];exact hgq
  ·rw[<-hM];exact bL
  ·rw[<-hM,aG];simp[eA]
 rintro m S' H5 ⟨x1,x5,x13,x14,x15,x18,x19,x20,x21,x22,x23,x24,y10,y11,y12,y27,y28,y29,y30,i,hi,rfl,rfl,hx5,hl5,f0,f1,fb,fq,fm1,fm⟩;clear g0 g1 hb4 hgq hb3 hb2 hx2 hx3 hx4 hb;(try simp only[aC]);refine dK ?_ ?_<;>intro h
 ·have hi2:i<N:=by simp at h;omega
  clear h;have hiN:(i:Int)<s.r*s.c:=byO;have tb:=kU (a:=i) (b:=s.c) byO byO;have tm:=kV (a:=i) (m:=s.c) byO byO;have trow:(i:Int).tdiv s.c<=200:=by
   have:(i:Int).tdiv s.c<s.r:=by
    rw[Int.tdiv_eq_ediv_of_nonneg byO];exact Int.ediv_lt_of_lt_mul byO hiN
   omega
  have hloc:=hso.loc i hiN;have hset:∀{d:Bool},d=mo s gf.cells ws i->(eA s gf.cells ws i++List.replicate (N-i) false).set i d=eA s gf.cells ws (i+1)++List.replicate (N-(i+1)) false:=fun h=>wc hi2 h;have hml:(eA s gf.cells ws i++List.replicate (N-i) false).length=N:=by simp[eA];omega
  have hdef:=mo.eq_1 s gf.cells ws i;generalize hrow:(i:Int).tdiv s.c=row at *;generalize hcol:(i:Int).tmod s.c=col at *;refine aj ?_;refine e9 ?_;refine aB (EA (s:=s) (row:=row) (col:=col) hok (by have:=hx5.1;omega) byO byO byO byO) ?_;rintro v H6 ⟨hx6,rfl⟩;have f0:=hx6.get f0;have f1:=hx6.get f1;have fb:=hx6.get fb;have fq:=hx6.get fq;have fm1:=hx6.get fm1;have fm:=hx6.get fm;have hl6:=Heap.get_lt fm1;have hx6:=hx5.trans hx6;have hl06:=hx6.1;refine aj ?_;have hMl:=Heap.get_lt fm;refine dK ?_ ?_<;>intro h
  ·have hB:=h
   clear hloc h;refine aj ?_;have hd:y8 s row col=mo s gf.cells ws i:=by rw[hdef,if_pos hB]
   simp only[cN];refine⟨N-(i+1),byO,_,_,_,_,_,_,_,_,_,_,_,_,_,_,_,_,_,_,_,i+1,byO,rfl,by simp only[ap₀,Int.natCast_one];rfl,(hx6.set byO).trans (Ext.app _ _),by simp;omega,by rw[aQ (by simp;omega),aI byO];exact f0,by rw[aQ (by simp;omega),aI byO];exact f1,by rw[aQ (by simp;omega),aI byO];exact fb,by rw[aQ (by simp;omega),aI byO];exact fq,by rw[aQ (by simp;omega),aI byO];exact fm1,?_⟩;rw[aQ (by simp;omega),aF byO,hset hd]
  have hB:=h;have hloc:=hloc hB;clear h;have hnb:¬ rI s row col=true:=by rw[hB];simp
  rw[if_neg hnb]at hdef;have hltI:(gQ s row col).toNat<(jV s*gu s).toNat:=byO;have hlt8:=hso.od.lt (gQ s row col).toNat hltI;have hgd:gf.cells.getD (gQ s row col).toNat 0=gf.cells.getD (gQ s row col).toNat (-1):=by
   simp[au₀,bb₀ (show(gQ s row col).toNat<gf.cells.length by omega)]
  rw[<-hgd]at hlt8;clear hgd;have hnI:(gQ s row col).toNat<gf.cells.length:=byO;have hlocb:gQ s row col<=40000*40000:=by
   have:=gB (a:=jV s) (b:=gu s) (A:=40000) (B:=40000) byO byO byO byO byO;omega
  refine aj ?_;generalize hn:gf.cells.getD (gQ s row col).toNat 0=n at *;refine dK ?_ ?_<;>intro h
  ·have hn0:0<=n:=by simpa using h
   clear h;rw[if_pos hn0]at hdef;have t8:=kU (a:=n) (b:=8) hn0 byO;have m8:=kV (a:=n) (m:=8) hn0 byO;have q8:n.tdiv 8<ws.length:=by
    rw[Int.tdiv_eq_ediv_of_nonneg hn0];omega
   have q8':(n.tdiv 8).toNat<ws.length:=byO;have hbe:∀w:Int,decide (IntKind.i64.wrap ((BitVec.ofInt IntKind.i64.bits (w.fdiv (2^(min (7-n.tmod 8).toNat IntKind.i64.bits))) &&& BitVec.ofInt IntKind.i64.bits 1).toNat:Int)=1)=LC w n:=fun _=>rfl;refine aj ?_;have hd:LC (ws.getD (n.tdiv 8).toNat 0) n=mo s gf.cells ws i:=hdef.symm;simp only[cN];refine⟨N-(i+1),byO,_,_,_,_,_,_,_,_,_,_,_,_,_,_,_,_,_,_,_,i+1,byO,rfl,by simp only[ap₀,Int.natCast_one];rfl,(hx6.set byO).trans (Ext.app _ _),by simp;omega,by rw[aQ (by simp;omega),aI byO];exact f0,by rw[aQ (by simp;omega),aI byO];exact f1,by rw[aQ (by simp;omega),aI byO];exact fb,by rw[aQ (by simp;omega),aI byO];exact fq,by rw[aQ (by simp;omega),aI byO];exact fm1,?_⟩;rw[aQ (by simp;omega),aF byO,hset hd]
  ·have hn0:¬ 0<=n:=by simpa using h
   clear h;rw[if_neg hn0]at hdef;(try simp only[aC]);refine e9 ?_;refine cU (Gd (i:=gQ s row col) hso.dim byO byO) ?_;rintro v H7 ⟨rfl,rfl⟩;refine aj ?_;have hd:Ld (jV s) (gu s) (gQ s row col)=mo s gf.cells ws i:=hdef.symm;simp only[cN];refine⟨N-(i+1),byO,_,_,_,_,_,_,_,_,_,_,_,_,_,_,_,_,_,_,_,i+1,byO,rfl,by simp only[ap₀,Int.natCast_one];rfl,(hx6.set byO).trans (Ext.app _ _),by simp;omega,by rw[aQ (by simp;omega),aI byO];exact f0,by rw[aQ (by simp;omega),aI byO];exact f1,by rw[aQ (by simp;omega),aI byO];exact fb,by rw[aQ (by simp;omega),aI byO];exact fq,by rw[aQ (by simp;omega),aI byO];exact fm1,?_⟩;rw[aQ (by simp;omega),aF byO,hset hd]
 ·have hi2:i=N:=by simp at h;omega
  clear h;subst hi2;have hMl:=Heap.get_lt fm;refine aj ?_;refine eP ?_;refine⟨hx5.set byO,.inr (.inr (.inr ⟨hsm,hlen,hbw,gf,M,hso,byO,rfl,?_⟩))⟩;rw[aI byO,fm];simp
open Go.Abs Go.RS
set_option maxRecDepth 20000
def Dz.sz(z:Dz):Sz:=⟨z.a,z.b,z.ra,z.rb,z.d,z.c,z.n⟩
theorem F7:szs=(List.range 30).map fun i=>(dz i).sz:=by kernel_rfl
theorem oJ{s:Sz}:s ∈ szs↔∃i,i<30/\s=(dz i).sz:=by
 rw[F7,List.mem_map];constructor
 ·rintro⟨i,hi,rfl⟩;exact⟨i,List.mem_range.1 hi,rfl⟩
 ·rintro⟨i,hi,rfl⟩;exact⟨i,List.mem_range.2 hi,rfl⟩
theorem NS(hlo:lo<=H.length):Ev cp lo 55 [] H (fun v H'=>∃j,H.length<=j/\v=.slice (some ⟨j,0,none⟩) 30 30/\H'.get j=some szCells/\Ext H H'):=vN hlo
theorem Ic(h:i<30):bP i=(dz i).sz:=by
 unfold bP;rw[F7,au₀,az₀,List.getElem?_range h];rfl
theorem CJ(h:i<30):bP i ∈ szs:=oJ.2 ⟨i,h,Ic h⟩
theorem F6{a b:Sz}:a=b↔a.r=b.r/\a.c=b.c/\a.rr=b.rr/\a.rc=b.rc/\a.d=b.d/\a.k=b.k/\a.b=b.b:=by
 cases a;cases b;simp
theorem index{j:Nat}{s:Sz}(hg:H.get j=some szCells):Ev cp lo 99 [.slice (some ⟨j,0,none⟩) 30 30,s.val] H (fun v H'=>Ext H H'/\∃k:Int,v=.int .i64 k/\decide (0<=k)=decide (s ∈ szs)):=by
 have hj:=Heap.get_lt hg;refine stG rfl rfl ?_;unfold Kx;simp only[kB,aC];refine zL ?_;refine bH (fun m S H'=>∃(i:Int) (x4:Value),0<=i/\i<=30/\m=(30-i).toNat/\S=[.slice (some ⟨j,0,none⟩) 30 30,s.val,.pointer (some ⟨H.length,0,none⟩),.int .i64 0,x4,.int .i64 30,.int .i64 i]/\H'=H++[some s.cells]/\¬ s ∈ szs.take i.toNat) 30 ?_ ?_
 ·exact⟨0,_,byO,byO,byO,rfl,rfl,by simp⟩
 rintro m S H2 ⟨i,x4,hi0,hi1,rfl,rfl,rfl,hno⟩;(try simp only[aC]);refine Qj ?_ ?_<;>intro h
 ·have hi:i<30:=by simpa using h
  clear h;have hrow:=kT (i:=i.toNat) byO;have hlen:=jL;have hse:=KE (a:=s) (b:=bP i.toNat);simp only[Sz.cells]at hse;have hmem:=ae (i:=i.toNat) byO;refine zL ?_;refine Qj ?_ ?_<;>intro h
  ·have he:s=bP i.toNat:=by rw[F6];simpa using h
   clear h;refine zL ?_;refine Na ?_;refine⟨Ext.app _ _,i,rfl,?_⟩;rw[he];simp[hmem,hi0]
  ·have he:¬ s=bP i.toNat:=by rw[F6];simpa using h
   clear h;refine zL ?_;simp only[cN];refine⟨(30-(i+1)).toNat,byO,i+1,_,byO,byO,rfl,rfl,by trivial,?_⟩;rw[show(i+1).toNat=i.toNat+1 by omega,fT byO];intro hm;rcases List.mem_append.1 hm with hm|hm
   ·exact hno hm
   ·simp at hm;exact he hm
 ·obtain rfl:i=30:=by simp at h;omega
  clear h;refine zL ?_;refine Na ?_;refine⟨Ext.app _ _,-1,rfl,?_⟩;rw[List.take_of_length_le (by rw[jM];omega)]at hno;simp[hno]
theorem contains{j:Nat}{s:Sz}(hg:H.get j=some szCells):Ev cp lo 54 [.slice (some ⟨j,0,none⟩) 30 30,s.val] H (fun v H'=>Ext H H'/\v=.bool (decide (s ∈ szs))):=by
 have hj:=Heap.get_lt hg;refine stG rfl rfl ?_;unfold Kv;simp only[kB,aC];refine zL ?_;refine Sd ?_;refine aB (index (s:=s) (j:=j) Io) ?_;rintro v H1 ⟨hx,k,rfl,hk⟩;refine zL ?_;refine Na ?_;exact⟨hx.of_app,by simp only[aP,hk]⟩
end Go.Proofs.YtmnlgdpdgjbfgaaGreat
