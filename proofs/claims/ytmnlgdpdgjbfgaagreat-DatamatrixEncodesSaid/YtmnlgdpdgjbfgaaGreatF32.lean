/- Lemmas. -/
import Derived.Test.YtmnlgdpdgjbfgaaGreatF30
import Derived.Test.YtmnlgdpdgjbfgaaGreatF31
set_option linter.all false
namespace Go.Proofs.YtmnlgdpdgjbfgaaGreat
open Go.Abs
set_option maxRecDepth 100000
theorem RJ:(List.range 256).all (fun k=>isB (jr k) ((run cp 4).ret 0 188 [.int .u8 (k:Nat)] []))=true:=by kernel_rfl
theorem VC:(List.range 40).all (fun k=>isInt (lz k:Nat) ((run cp 6).ret 0 144 [.int .i64 (k:Nat)] []))=true:=by kernel_rfl
theorem UX:(List.range 4).all (fun s=>(List.range 40).all fun k=>[false,true].all fun b=>isInt (if fi b s k=128 then -1 else(fi b s k:Int)) ((run cp 4).ret 0 187 [.int .i64 (if b then 2 else 1),.int .i64 (s:Nat),.int .i64 (k:Nat)] []))=true:=by kernel_rfl
section
variable {lo:Nat}{H:Heap}
theorem Lr{k:Nat}(hk:k<256)(hlo:lo<=H.length):Ev cp lo 188 [.int .u8 (k:Nat)] H (fun v H'=>v=.bool (jr k)/\Ext H H'):=
 iu iy (n:=4) (v:=.bool (jr k)) rfl (Fk (List.all_eq_true.1 RJ k (List.mem_range.2 hk))) rfl hlo
theorem VB{k:Nat}(hk:k<40)(hlo:lo<=H.length):Ev cp lo 144 [aB k] H (fun v H'=>v=aB (lz k)/\Ext H H'):=
 iu iy (n:=6) (v:=aB (lz k)) rfl (oO (List.all_eq_true.1 VC k (List.mem_range.2 hk))) rfl hlo
theorem UW{m s k:Nat}(hm:m=1\/m=2)(hs:s<4)(hk:k<40)(hlo:lo<=H.length):Ev cp lo 187 [aB m,aB s,aB k] H (fun v H'=>v=.int .i64 (if fi (m==2) s k=128 then -1 else(fi (m==2) s k:Int))/\Ext H H'):=by
 have h:=List.all_eq_true.1 (List.all_eq_true.1 (List.all_eq_true.1 UX s (List.mem_range.2 hs)) k (List.mem_range.2 hk));rcases hm with rfl|rfl
 ·exact iu iy (n:=4) rfl (oO (h false (by simp))) rfl hlo
 ·exact iu iy (n:=4) rfl (oO (h true (by simp))) rfl hlo
open XYe
theorem J5{N:Nat}{n:RN}(h:n.ok N)(hN:N<=10000):Ev cp lo 96 [rnV n] H (fun r H'=>Ext H H'/\r=aB (fV n)):=by
 obtain⟨h1,h2,⟨h3,h4,h5⟩,h6,h7⟩:=h;obtain⟨i,m,ph,s,u⟩:=n;simp only at h1 h2 h3 h4 h5 h6 h7;have hx:fV ⟨i,m,ph,s,u⟩=if m=3\/m=4 then 100+10*(m-3)+ph else m*32+(ph+4*s+if u then 16 else 0):=rfl
 rw[hx];clear hx;refine stG rfl rfl ?_;unfold Qo;simp only[kB,aD];refine aA ?_;have hxb:Ext H (H++[some [aB i,aB m,aB ph,aB s,.bool u]]):=Ext.app _ _;have hgb:(H++[some [aB i,aB m,aB ph,aB s,.bool u]]).get H.length=some [aB i,aB m,aB ph,aB s,.bool u]:=aF;generalize H++[some [aB i,aB m,aB ph,aB s,.bool u]]=Hb at hxb hgb;refine ba (fun S' H'=>Hb=H'/\∃k:Nat,(False\/k=ph+4*s+if u then 16 else 0)/\k<=100/\∃(z:Nat->Value),S'=[z 0,ptr H.length,z 2,.int .i64 (k:Nat)]) ?_ ?_
 ·cases u with
  | true=>
   refine bL ?_;refine aA ?_;exact⟨by trivial,ph+4*s+16,.inr rfl,byO,aH ncM⟩
  | false=>
   refine aP ?_ ?_<;>intro h
   ·cases h
   ·clear h
    (try simp only[aD]);exact⟨by trivial,ph+4*s,.inr rfl,byO,aH ncM⟩
 rintro S' H' ⟨rfl,k,hk,hkl,z,rfl⟩;rw[<-hk.resolve_left id];(try simp only[aD]);by_cases hm:m=3\/m=4
 ·have hd:(decide ((m:Int)=3) || decide ((m:Int)=4))=true:=by simp only[ar₀,af₀];omega
  have e1:100+10*((m:Int)-3)+(ph:Nat)=((100+10*(m-3)+ph:Nat):Int):=byO;rw[if_pos hm];refine bL ?_;refine aA ?_;refine aK ?_;exact⟨hxb,by show Value.int .i64 _=Value.int .i64 _;congr 1⟩
 ·have hd:(decide ((m:Int)=3) || decide ((m:Int)=4))=false:=by simp only[Bool.or_eq_false_iff,ai₀];omega
  rw[if_neg hm];refine aP ?_ ?_<;>intro h
  ·exfalso;first|(rw[hd]at h;cases h)|cases h
  ·clear h
   refine aA ?_;refine aK ?_;exact⟨hxb,by show Value.int .i64 _=Value.int .i64 _;congr 1⟩
theorem EE{x k:Nat}(hx:x<=100000)(hk:k<=100000):Ev cp lo 51 [aB x,aB (k+1)] H (fun r H'=>H=H'/\r=aB ((x+msk k)%256)):=by
 have em:(149*((k+1:Nat):Int)).tmod 255=((149*(k+1)%255:Nat):Int):=by rw[Int.tmod_eq_emod_of_nonneg byO];omega
 have hlt:149*(k+1)%255<=254:=byO;have e2:msk k=149*(k+1)%255+1:=rfl;rw[e2];clear e2;generalize 149*(k+1)%255=w at em hlt ⊢;have eq:((x:Int)+(w:Nat)+1).tmod 256=(((x+(w+1))%256:Nat):Int):=by rw[Int.tmod_eq_emod_of_nonneg byO];omega
 refine stG rfl rfl ?_;unfold QU;simp only[kB,aD];refine aA ?_;refine aK ?_;exact⟨rfl,rfl⟩
def dt(a b:RS):Bool:=if a.w≠b.w then decide (a.w<b.w) else if a.s≠b.s then decide (a.s<b.s) else decide (a.t<b.t)
theorem R7{a b:RS}:Ev cp lo 98 [rsV a,rsV b] H (fun r H'=>Ext H H'/\r=.bool (dt a b)):=by
 obtain⟨aw,as',at',ac,ato⟩:=a;obtain⟨bw,bs,bt,bc,bto⟩:=b;unfold dt;simp only;refine stG rfl rfl ?_;unfold Qq;simp only[kB,aD];refine aA ?_;have hxb:Ext H (H++[some (rsC ⟨aw,as',at',ac,ato⟩),some (rsC ⟨bw,bs,bt,bc,bto⟩)]):=Ext.app _ _;have hg0:(H++[some (rsC ⟨aw,as',at',ac,ato⟩),some (rsC ⟨bw,bs,bt,bc,bto⟩)]).get H.length=some (rsC ⟨aw,as',at',ac,ato⟩):=aF;have hg1:(H++[some (rsC ⟨aw,as',at',ac,ato⟩),some (rsC ⟨bw,bs,bt,bc,bto⟩)]).get (H.length+1)=some (rsC ⟨bw,bs,bt,bc,bto⟩):=by rw[bC];rfl
 change wpS cp lo _ _ _ (H++[some (rsC ⟨aw,as',at',ac,ato⟩),some (rsC ⟨bw,bs,bt,bc,bto⟩)]);generalize H++[some (rsC ⟨aw,as',at',ac,ato⟩),some (rsC ⟨bw,bs,bt,bc,bto⟩)]=Hb at hxb hg0 hg1;replace hg0:Hb.get H.length=some [aB aw,.int .i64 as',.int .i64 at',aB ac,aB ato.i,aB ato.m,aB ato.ph,aB ato.s,.bool ato.u]:=hg0;replace hg1:Hb.get (H.length+1)=some [aB bw,.int .i64 bs,.int .i64 bt,aB bc,aB bto.i,aB bto.m,aB bto.ph,aB bto.s,.bool bto.u]:=hg1;by_cases h1:aw≠bw
 ·have hd:decide ((aw:Int)=(bw:Nat))=false:=decide_eq_false byO
  have hd2:decide (aw<bw)=decide ((aw:Int)<(bw:Nat)):=by
   by_cases h:aw<bw
   ·rw[decide_eq_true h,decide_eq_true byO]
   ·rw[decide_eq_false h,decide_eq_false byO]
  rw[if_pos h1,hd2];clear hd2;refine aP ?_ ?_<;>intro h
  ·refine aA ?_
   refine aK ?_;exact⟨hxb,rfl⟩
  ·exfalso;simp at h;omega
 rw[if_neg h1];have hd:decide ((aw:Int)=(bw:Nat))=true:=decide_eq_true byO;refine aP ?_ ?_<;>intro h
 ·exfalso;simp at h;omega
 clear h hd h1;(try simp only[aD]);by_cases h1:as'≠bs
 ·have hd:decide (as'=bs)=false:=decide_eq_false h1
  rw[if_pos h1];refine aP ?_ ?_<;>intro h
  ·refine aA ?_
   refine aK ?_;exact⟨hxb,rfl⟩
  ·exfalso;simp at h;exact h1 h
 rw[if_neg h1];have hd:decide (as'=bs)=true:=decide_eq_true (Decidable.not_not.1 h1);refine an ?_;clear hd h1;refine aA ?_;refine aK ?_;exact⟨hxb,rfl⟩
end
set_option maxRecDepth 20000
theorem pr(p:List UInt8)(n:RN):∀k,(eY p n k).length<=k+1
 | 0=>by grind[eY]
 | k+1=>by
  have:=pr p n k
  grind[eY]
section
variable {lo:Nat}{H:Heap}{v:Value}{p:List UInt8}
theorem uu{cp:FuncId->Option CF}{z:List Value}{w:Value}{b:Nat}{L:List RS}{o:RS}{R:Value->Heap->Prop}(ho:OwnG lo 9 H w b (cat rsC L))(hlo:lo<=H.length)(hbig:L.length<=10000000)
  (k:∀v' H',AppG lo 9 H b (cat rsC (L++[o])) v' H'->R v' H'):wpH cp lo (.app 9 z) [w,.slice (some ⟨H.length,0,none⟩) 1 1] (H++[some (rsC o)]) R:=by
 have hx:Ext H (H++[some (rsC o)]):=Ext.app _ _;refine Mq (enc:=rsC) (r:=o) byO byO om KG (ho.mono hx) (by simp;omega) hbig aF ?_;intro v' H' h;exact k v' H' (AppG.trans (Ext.keep (Ext.refl _)) (.inl rfl) hx h)
theorem OwnG.over{n b c:Nat}{H1 H2:Heap}{X:List Value}(h:OwnG lo n H v b X)(e:Ext H H1)(k:Keep c H1 H2)(hc:H.length<=c):OwnG lo n H2 v b X:=by
 have key:∀{Y},H.get b=some Y->H2.get b=some Y:=fun hg=>k.get (e.get hg) (by have:=Heap.get_lt hg;omega);rcases h with ⟨h1,h|⟨m,h2,h3,h4,h5⟩⟩|⟨h1,m,h2,h3,h4,h5⟩
 ·exact .inl ⟨h1,.inl h⟩
 ·exact .inl ⟨h1,.inr ⟨m,h2,h3,h4,key h5⟩⟩
 ·exact .inr ⟨h1,m,h2,h3,h4,key h5⟩
open XYe
theorem Pc{n:RN}(hv:SlU H v p)(hn:n.ok p.length)(hm:1<=n.m/\n.m<=3)(hl:p.length<=4096)(hlo:lo<=H.length):Ev cp lo 147 [v,rnV n] H (fun r H'=>Ext H H'/\∃b,H.length<=b/\OwnG lo 9 H' r b (cat rsC (Al p n))):=by
 obtain⟨ad,c,ev⟩:=hv.len;rw[ev]at hv ⊢;clear ev;have h1:=hn.i;obtain⟨h3,h4,h5⟩:=hn.ph;obtain⟨h6,h7⟩:=hn.s;refine stG rfl rfl ?_;unfold LC;simp only[kB,aD];refine aA ?_;have hxb:Ext H (H++[some (rnC n)]):=Ext.app _ _;have hgb:(H++[some (rnC n)]).get H.length=some [aB n.i,aB n.m,aB n.ph,aB n.s,.bool n.u]:=aF;change wpS cp lo _ _ _ (H++[some (rnC n)]);generalize H++[some (rnC n)]=Hb at hxb hgb;have hlb:=hxb.1;refine ba (fun S' H'=>Ext Hb H'/\∃w b,Hb.length<=b/\OwnG lo 9 H' w b (cat rsC (eY p n 0))/\∃(z:Nat->Value),S'=[.slice ad p.length c,z 1,ptr H.length,z 3,w,.int .i64 ((if n.ph=0 then 2 else 0:Nat):Int),z 6,z 7,z 8,z 9,z 10,z 11,z 12,z 13,z 14,z 15,z 16,z 17,z 18,z 19]) ?_ ?_
 ·unfold eY
  by_cases h0:n.ph=0
  ·have hd:decide ((n.ph:Int)=0)=true:=decide_eq_true byO
   rw[if_pos h0,if_pos h0];replace h0:n.ph<=0:=byO;refine bL ?_;clear hd;refine aA ?_;refine⟨Ext.app _ _,_,Hb.length+1,byO,.inl ⟨byO,.inr ⟨1,byO,rfl,rfl,?_⟩⟩,aH ncM⟩;rw[bC];rfl
  ·have hd:decide ((n.ph:Int)=0)=false:=decide_eq_false byO
   rw[if_neg h0,if_neg h0];refine aP ?_ ?_<;>intro h
   ·simp at h
   ·clear h hd
    (try simp only[aD]);exact⟨Ext.refl _,_,Hb.length,Nat.le_refl _,OwnG.nil byO,aH ncM⟩
 rintro S' H1 ⟨hx1,w,b,hb,ho,z,rfl⟩;have hg1:=hx1.get hgb;obtain⟨cst0,hcst,hcl⟩:∃q,(False\/(if n.ph=0 then 2 else 0:Nat)=q)/\q<=2:=⟨_,.inr rfl,by split<;>omega⟩;rw[hcst.resolve_left id];have q1:((n.ph:Int)+1).tmod 3=(((n.ph+1)%3:Nat):Int):=by rw[Int.tmod_eq_emod_of_nonneg byO];omega
 obtain⟨ph',hph,hphl⟩:∃q,(False\/(n.ph+1)%3=q)/\q<=2:=⟨_,.inr rfl,byO⟩;rw[hph.resolve_left id]at q1;refine aA ?_;refine aS (fun k S H'=>Ext Hb H'/\∃w b,(Hb.length<=b/\OwnG lo 9 H' w b (cat rsC (eY p n k)))/\∃(z:Nat->Value),S=[.slice ad p.length c,z 1,ptr H.length,z 3,w,aB cst0,aB ph',.int .i64 (k:Nat),z 8,z 9,z 10,z 11,z 12,z 13,z 14,z 15,z 16,z 17,z 18,z 19]) 40 ⟨hx1,w,b,⟨hb,ho⟩,aH rfl⟩ ?_ ?_ ?_
 ·rintro k S H' hk ⟨hx,w,b,_,z,rfl⟩
  exact⟨decide ((k:Int)<40),by simp(disch:=try exact dO)only[evB,xtr,Nat.reduceAdd,Nat.reduceBEq,Int.reduceToNat, *],by simp;omega⟩
 ·rintro k S H2 hk ⟨hx2,w,b,⟨hb,ho⟩,z,rfl⟩
  clear hg1 hx1;have hg2:=hx2.get hgb;have hl2:=hx2.1;have hgl2:=Heap.get_lt hg2;have hlen:=pr p n k;have hstep:eY p n (k+1)=eY p n k++match dW p n k with
   | some t=>[⟨k,-1,-1,cst0,t⟩]
   | none=>[]:=by rw[<-hcst.resolve_left id];rfl
  rw[hstep];clear hstep;generalize eY p n k=L at ho hlen ⊢;refine aA ?_;change wpS cp lo _ _ _ (H2++[some [aB (n.i+1),aB n.m,aB ph',aB 0,.bool false]]);have hxc:Ext H2 (H2++[some [aB (n.i+1),aB n.m,aB ph',aB 0,.bool false]]):=Ext.app _ _;have hgc:(H2++[some [aB (n.i+1),aB n.m,aB ph',aB 0,.bool false]]).get H2.length=some [aB (n.i+1),aB n.m,aB ph',aB 0,.bool false]:=aF;generalize H2++[some [aB (n.i+1),aB n.m,aB ph',aB 0,.bool false]]=H3 at hxc hgc;have hl3:=hxc.1;refine aT ?_;refine aC (VB (lo:=lo) (k:=k) hk byO) ?_;rintro r H4 ⟨rfl,hx4⟩;have hl4:=hx4.1;have hgc4:=hx4.get hgc;have hg4:=(hxc.trans hx4).get hg2;have hcm:vN n k=if n.m=3 then lz k else if fi (n.m==2) n.s k=128 then 256 else fi (n.m==2) n.s k+if n.u then 128 else 0:=rfl
  have hcrl:=II (n:=n) hk;refine aA ?_;refine ba (fun S' H'=>Ext H4 H'/\∃q:Int,((False\/q=if n.m=3 then(lz k:Int) else if fi (n.m==2) n.s k=128 then -1 else(fi (n.m==2) n.s k:Int))/\-1<=q/\q<=1000)/\∃(z:Nat->Value),S'=[.slice ad p.length c,z 1,ptr H.length,z 3,w,aB cst0,aB ph',.int .i64 (k:Nat),ptr H2.length,.int .i64 q,z 10,z 11,z 12,z 13,z 14,z 15,z 16,z 17,z 18,z 19]) ?_ ?_
  ·by_cases hm3:n.m=3
   ·have hd:decide ((n.m:Int)=3)=true:=decide_eq_true byO
    have hxl:=C1 (k:=k) hk;rw[if_pos hm3];replace hm3:n.m<=3/\3<=n.m:=byO;refine aP ?_ ?_<;>intro h
    ·exfalso;simp at h;omega
    ·clear h hd
     (try simp only[aD]);exact⟨Ext.refl _,(lz k:Int),⟨.inr rfl,byO,byO⟩,aH rfl⟩
   ·have hd:decide ((n.m:Int)=3)=false:=decide_eq_false byO
    have hcl:=BC (b:=n.m==2) (s:=n.s) (k:=k) hk;rw[if_neg hm3];refine aP ?_ ?_<;>intro h
    ·clear h hd
     refine bF ?_;refine aC (UW (lo:=lo) (m:=n.m) (s:=n.s) (k:=k) byO byO hk byO) ?_;rintro r H5 ⟨rfl,hx5⟩;generalize fi (n.m==2) n.s k=y at hcl;refine aA ?_;exact⟨hx5,_,⟨.inr rfl,by split<;>omega,by split<;>omega⟩,aH rfl⟩
    ·exfalso;simp at h;omega
  rintro S' H5 ⟨hx5,q,⟨hq,hq1,hq2⟩,z,rfl⟩;have hl5:=hx5.1;have hg5:=hx5.get hg4;have hgc5:=hx5.get hgc4;refine aA ?_;refine ba (fun S' H'=>H5=H'/\∃q2:Int,((False\/q2=if vN n k=256 then -1 else(vN n k:Int))/\-1<=q2/\q2<=1000)/\∃(z:Nat->Value),S'=[.slice ad p.length c,z 1,ptr H.length,z 3,w,aB cst0,aB ph',.int .i64 (k:Nat),ptr H2.length,.int .i64 q2,z 10,z 11,z 12,z 13,z 14,z 15,z 16,z 17,z 18,z 19]) ?_ ?_
  ·have h38:=h7
   rw[hcm];have hxl:=C1 (k:=k) hk;have hcl:=BC (b:=n.m==2) (s:=n.s) (k:=k) hk;generalize fi (n.m==2) n.s k=y at hq hcl;generalize lz k=xv at hq hxl;cases hu:n.u with
   | true=>
    rw[hu]at h38 hg5;have hm3:¬ n.m=3:=fun e=>by have:=(h38 byO).2;cases this
    rw[if_neg hm3]at hq ⊢;clear hcm;by_cases hy:y=128
    ·rw[if_pos hy]at hq ⊢
     have hqe:=hq.resolve_left id;subst hqe;refine aP ?_ ?_<;>intro h
     ·exfalso;cases h
     ·clear h
      (try simp only[aD]);exact⟨by trivial,-1,⟨.inr rfl,byO,byO⟩,aH rfl⟩
    ·rw[if_neg hy]at hq ⊢
     have hqe:=hq.resolve_left id;subst hqe;have hd:decide ((y:Int)>=0)=true:=decide_eq_true byO;have hd2:decide ((0:Int)<=(y:Nat))=true:=decide_eq_true byO;refine bL ?_;clear hd hd2;refine aA ?_;exact⟨by trivial,(y:Int)+128,⟨.inr (by rw[if_neg byO];rfl),byO,byO⟩,aH ncM⟩
   | false=>
    rw[hu]at hg5;clear hcm;refine aP ?_ ?_<;>intro h
    ·cases h
    ·clear h
     (try simp only[aD]);refine⟨by trivial,q,⟨.inr ?_,byO,byO⟩,aH rfl⟩;rw[hq.resolve_left id];by_cases hm3:n.m=3
     ·rw[if_pos hm3,if_pos hm3,if_neg byO]
     ·rw[if_neg hm3,if_neg hm3]
      by_cases hy:y=128
      ·rw[if_pos hy,if_pos hy];rfl
      ·rw[if_neg hy,if_neg hy]
       simp only[ah₀,if_false,Nat.add_zero];rw[if_neg byO]
  rintro S' H6 ⟨rfl,q2,⟨hq',hq1',hq2'⟩,z,rfl⟩;clear hq hcm;rw[lI];refine ba (fun S' H'=>H5=H'/\∃f:Bool,(False\/(f=true↔n.i<p.length/\by' p n.i=vN n k))/\∃(z:Nat->Value),S'=[.slice ad p.length c,z 1,ptr H.length,z 3,w,aB cst0,aB ph',.int .i64 (k:Nat),ptr H2.length,z 9,.bool f,z 11,z 12,z 13,z 14,z 15,z 16,z 17,z 18,z 19]) ?_ ?_
  ·by_cases hil:n.i<p.length
   ·have hd:decide ((n.i:Int)<(p.length:Nat))=true:=decide_eq_true byO
    obtain⟨bb,oo,xs,hia,hgx,hxx⟩:=gN (hv.mono (hxb.trans (hx2.trans (hxc.trans (hx4.trans hx5))))) hil;have hby:=(p.getD n.i 0).toNat_lt;replace hxx:xs[oo]?=some (.int .u8 ((p.getD n.i 0).toNat:Nat)):=hxx;have hbe:by' p n.i=(p.getD n.i 0).toNat:=rfl;rw[hbe];clear hbe;generalize (p.getD n.i 0).toNat=y at hxx hby;generalize vN n k=cc at hcrl hq' ⊢;by_cases hc256:cc=256
    ·rw[if_pos hc256]at hq'
     have hqe:=hq'.resolve_left id;subst hqe;clear hq';refine aA ?_;exact⟨by trivial,false,.inr (by simp;omega),aH rfl⟩
    ·rw[if_neg hc256]at hq'
     have hqe:=hq'.resolve_left id;subst hqe;clear hq';have hd1:decide ((cc:Int)>=0)=true:=decide_eq_true byO;have hd2:decide ((0:Int)<=(cc:Nat))=true:=decide_eq_true byO;refine aA ?_;exact⟨by trivial,decide ((y:Int)=(cc:Nat)),.inr (by simp only[af₀];omega),aH rfl⟩
   ·have hd:decide ((n.i:Int)<(p.length:Nat))=false:=decide_eq_false byO
    by_cases hq0:q2>=0
    ·have hd1:decide (q2>=0)=true:=decide_eq_true hq0
     have hd2:decide (0<=q2)=true:=decide_eq_true hq0;refine aA ?_;exact⟨by trivial,false,.inr (by simp;omega),aH rfl⟩
    ·have hd1:decide (q2>=0)=false:=decide_eq_false hq0
     have hd2:decide (0<=q2)=false:=decide_eq_false hq0;refine aA ?_;exact⟨by trivial,false,.inr (by simp;omega),aH rfl⟩
  rintro S' H6 ⟨rfl,f,hf,z,rfl⟩;clear hq' hq1' hq2';have hU:False\/dW p n k=if n.m≠3/\n.s=0/\k<3 then some ⟨n.i,n.m,ph',k+1,n.u⟩ else if n.m≠3/\n.s=2/\k=30/\n.u=false then some ⟨n.i,n.m,ph',0,true⟩ else if n.i<p.length/\by' p n.i=vN n k then some ⟨n.i+1,n.m,ph',0,false⟩ else none:=.inr (by unfold dW;rw[hph.resolve_left id])
  have hdm:Keep H2.length H5 H5:=Ext.keep (Ext.refl _);have hlb5:=Heap.get_lt hgc5;have hx5b:=hx2.trans (hxc.trans (hx4.trans hx5));have hx5k:=hx5;clear hx5 hgc4 hg4 hl3 hl4;refine ba (fun S' H'=>(Keep H2.length H5 H'/\∃(f':Bool) (t:RN),(H'.get H2.length=some (rnC t)/\(False\/((n.m≠3/\n.s=0/\k<3)/\f'=true/\t=⟨n.i,n.m,ph',k+1,n.u⟩)\/(¬ (n.m≠3/\n.s=0/\k<3)/\f'=f/\t=⟨n.i+1,n.m,ph',0,false⟩)))/\∃z:Nat->Value,S'=[.slice ad p.length c,z 1,ptr H.length,z 3,w,aB cst0,aB ph',.int .i64 (k:Nat),ptr H2.length,z 9,.bool f',z 11,z 12,z 13,z 14,z 15,z 16,z 17,z 18,z 19])) ?_ ?_
  ·by_cases hc:n.m≠3/\n.s=0/\k<3
   ·obtain⟨c1,c2,c3⟩:=hc
    have hd:decide ((n.m:Int)=3)=false:=decide_eq_false byO;have hd2:decide ((n.s:Int)=0)=true:=decide_eq_true byO;have hd4:decide ((k:Int)<3)=true:=decide_eq_true byO;have c2':n.s<=0:=byO;have hmk:(n.m≠3/\n.s=0/\k<3):=⟨c1,c2,c3⟩;clear c2;replace hmk:False\/_:=.inr hmk;refine aP ?_ ?_<;>intro h
    ·clear h
     refine aA ?_;exact⟨keepSet,true,_,⟨aG hlb5,.inr (.inl ⟨hmk.resolve_left id,rfl,rfl⟩)⟩,aH rfl⟩
    ·exfalso;first|(simp at h;done)|(simp at h;omega)|cases h
   ·have hcc:((!decide ((n.m:Int)=3)&&decide ((n.s:Int)=0))&&decide ((k:Int)<3))=false:=by
     by_cases c1:n.m=3
     ·rw[decide_eq_true byO];rfl
     ·by_cases c2:n.s=0
      ·rw[decide_eq_false (by omega:¬ (k:Int)<3)];simp
      ·rw[decide_eq_false (by omega:¬ (n.s:Int)=0)];simp
    have hcc2:((decide ((n.m:Int)≠3)&&decide ((n.s:Int)=0))&&decide ((k:Int)<3))=false:=by
     rw[<-hcc];simp
    replace hc:False\/_:=.inr hc;refine an ?_;(try simp only[aD]);exact⟨hdm,f,⟨n.i+1,n.m,ph',0,false⟩,⟨hgc5,.inr (.inr ⟨hc.resolve_left id,rfl,rfl⟩)⟩,aH rfl⟩
  rintro S' H6 ⟨hk6,f',t,⟨hgt,hft⟩,z,rfl⟩;have hl6:=hk6.len;have hg6:=hk6.get hg5 byO;have hlb6:=Heap.get_lt hgt;clear hgc5 hg5;(try simp only[aD]);refine ba (fun S' H'=>(Keep H2.length H5 H'/\∃(f:Bool) (t:RN),(H'.get H2.length=some (rnC t)/\(False\/(f=true/\dW p n k=some t)\/(f=false/\dW p n k=none)))/\∃(z:Nat->Value),S'=[.slice ad p.length c,z 1,ptr H.length,z 3,w,aB cst0,aB ph',.int .i64 (k:Nat),ptr H2.length,z 9,.bool f,z 11,z 12,z 13,z 14,z 15,z 16,z 17,z 18,z 19])) ?_ ?_
  ·by_cases hc:n.m≠3/\n.s=2/\k=30/\n.u=false
   ·have hU1:=hU.resolve_left id
    rw[if_neg (fun h=>by omega),if_pos hc]at hU1;clear hU hft;replace hU1:False\/_:=.inr hU1;obtain⟨c0,c1,c2,c3⟩:=hc;rw[c3]at hg6;have hd:decide ((n.m:Int)=3)=false:=decide_eq_false byO;have hd3:decide ((n.s:Int)=2)=true:=decide_eq_true byO;have hd4:decide ((k:Int)=30)=true:=decide_eq_true byO;replace c1:n.s<=2/\2<=n.s:=byO;replace c2:k<=30/\30<=k:=byO;replace c3:False\/_:=.inr c3;refine aP ?_ ?_<;>intro h
    ·clear h
     refine aA ?_;exact⟨az hk6 (.inl rfl) keepSet,true,⟨n.i,n.m,ph',0,true⟩,⟨aG hlb6,.inr (.inl ⟨rfl,hU1.resolve_left id⟩)⟩,aH ncM⟩
    ·exfalso;first|(simp at h;done)|(simp at h;omega)|cases h
   ·have hfin:f'=true/\dW p n k=some t\/f'=false/\dW p n k=none:=by
     have hU1:=hU.resolve_left id;rcases hft.resolve_left id with ⟨k1,k2,k3⟩|⟨k1,k2,k3⟩
     ·rw[if_pos k1]at hU1
      exact .inl ⟨k2,by rw[hU1,k3]⟩
     ·rw[if_neg k1,if_neg hc]at hU1
      rw[k2,k3,hU1];cases hfv:f with
      | true=>exact .inl ⟨rfl,if_pos ((hf.resolve_left id).1 hfv)⟩
      | false=>exact .inr ⟨rfl,if_neg (fun h=>by have:=(hf.resolve_left id).2 h;rw[hfv]at this;cases this)⟩
    replace hfin:False\/_:=.inr hfin;have hcc:(((!decide ((n.m:Int)=3)&&decide ((n.s:Int)=2))&&decide ((k:Int)=30))&&!n.u)=false:=by
     by_cases c1:n.m=3
     ·rw[decide_eq_true (by omega:(n.m:Int)=3)];rfl
     ·by_cases c2:n.s=2
      ·by_cases c3:k=30
       ·cases hu:n.u with
        | true=>simp
        | false=>exact absurd ⟨c1,c2,c3,hu⟩ hc
       ·rw[decide_eq_false (by omega:¬ (k:Int)=30)];simp
      ·rw[decide_eq_false (by omega:¬ (n.s:Int)=2)];simp
    have hcc2:(((decide ((n.m:Int)≠3)&&decide ((n.s:Int)=2))&&decide ((k:Int)=30))&&!n.u)=false:=by
     rw[<-hcc];simp
    clear hU hft hf hc;refine an ?_;(try simp only[aD]);exact⟨hk6,f',t,⟨hgt,hfin⟩,aH ncM⟩
  rintro S' H7 ⟨hk7,f2,t2,⟨hgt2,hft2⟩,z,rfl⟩;have hx7:=hk7.ext hx5b hl2;have hl7:=hk7.len;have hg7:H7.get H.length=some [aB n.i,aB n.m,aB n.ph,aB n.s,.bool n.u]:=hx7.get hgb;have ho7:OwnG lo 9 H7 w b (cat rsC L):=ho.over (hxc.trans (hx4.trans hx5k)) hk7 (Nat.le_refl _);clear hg6 hgt hft hU hf hk6 hl6 hlb6;rcases hft2.resolve_left id with ⟨rfl,hu⟩|⟨rfl,hu⟩
  ·rw[hu]
   (try simp only[aD]);refine bL ?_;refine aA ?_;change wpS cp lo _ _ _ (H7++[some (rsC ⟨k,-1,-1,cst0,t2⟩)]);refine aT ?_;refine uu (o:=⟨k,-1,-1,cst0,t2⟩) ho7 byO byO ?_;intro w8 H8 hap;have hx8:=hap.ext hx7 hb;obtain⟨b8,k1,k2,k3,k4⟩:=hap;refine aA ?_;exact⟨hx8,w8,b8,⟨byO,k3⟩,aH ncM⟩
  ·rw[hu]
   (try simp only[aD]);refine aP ?_ ?_<;>intro h
   ·cases h
   ·clear h
    refine aA ?_;exact⟨hx7,w,b,⟨hb,by rw[List.append_nil];exact ho7⟩,aH ncM⟩
 ·rintro S H2 ⟨hx2,w,b,⟨hb,ho⟩,z,rfl⟩
  refine aA ?_;refine aK ?_;exact⟨hxb.trans hx2,b,byO,ho⟩
end
theorem u9(p:List UInt8)(i:Nat):(iN p i).length<=1:=by grind[iN]
theorem yI(p:List UInt8)(i:Nat):(oU p i).length<=1:=by grind[oU]
theorem uM(p:List UInt8)(i:Nat):(jw p i).length<=1:=by grind[jw]
theorem DE(i k:Nat):nP i (k+1)=nP i k++[⟨yF (k+1),-1,-1,1,⟨i,k+1,0,0,false⟩⟩]:=by
 grind[nP,List.range_succ]
theorem Ab(i k:Nat):l6 i (k+1)=l6 i k++[dJ i (k+1)]:=by
 grind[l6,List.range_succ]
section
variable {lo:Nat}{H:Heap}{v:Value}{p:List UInt8}
theorem OwnG.away{n b c A:Nat}{w:Value}{X:List Value}(h:OwnG lo n H w b X)(hb:A<=b)(hc:H.length<=c)(hA:A<=c)(hlo:lo<=c):∃b',(A<=b'/\b'≠c)/\OwnG lo n H w b' X:=by
 rcases h with ⟨h1,h|⟨m,h2,h3,h4,h5⟩⟩|⟨h1,m,h2,h3,h4,h5⟩
 ·exact⟨c+1,byO,.inl ⟨byO,.inl h⟩⟩
 ·have:=Heap.get_lt h5
  exact⟨b,byO,.inl ⟨h1,.inr ⟨m,h2,h3,h4,h5⟩⟩⟩
 ·have:=Heap.get_lt h5
  exact⟨b,byO,.inr ⟨h1,m,h2,h3,h4,h5⟩⟩
open XYe
theorem KO{i:Nat}(hv:SlU H v p)(hi:i<=p.length)(hl:p.length<=4096)(hlo:lo<=H.length):Ev cp lo 146 [v,aB i] H (fun r H'=>Ext H H'/\∃b,H.length<=b/\OwnG lo 9 H' r b (cat rsC (dI p i))):=by
 obtain⟨ad,c,ev⟩:=hv.len;rw[ev]at hv ⊢;clear ev;have p1:=u9 p i;have p2:=yI p i;have p3:=uM p i;refine stG rfl rfl ?_;unfold LB;simp only[kB,aD];refine aA ?_;rw[<-lI,<-lI];refine ba (fun S' H'=>Ext H H'/\∃w b,(H.length<=b/\OwnG lo 9 H' w b (cat rsC (iN p i)))/\∃(z:Nat->Value),S'=[.slice ad p.length c,aB i,z 2,w,z 4,z 5,z 6,z 7,z 8,z 9,z 10,z 11,z 12,z 13,z 14,z 15,z 16,z 17,z 18,z 19,z 20,z 21,z 22,z 23,z 24,z 25,z 26,z 27,z 28]) ?_ ?_
 ·by_cases h2:i+1<p.length
  ·have hd2:decide ((i:Int)+1<(p.length:Nat))=true:=decide_eq_true byO
   obtain⟨bb,oo,xs,hia,hgx,hxx⟩:=gN hv (k:=i) byO;have hby:=(p.getD i 0).toNat_lt;replace hxx:xs[oo]?=some (.int .u8 ((p.getD i 0).toNat:Nat)):=hxx;obtain⟨bb2,oo2,xs2,hia2,hgx2,hxx2⟩:=gN hv (k:=i+1) byO;have hby2:=(p.getD (i+1) 0).toNat_lt;replace hxx2:xs2[oo2]?=some (.int .u8 ((p.getD (i+1) 0).toNat:Nat)):=hxx2;simp only[ap₀,Int.natCast_one]at hia2;have hP:iN p i=if i+1<p.length/\jr (p.getD i 0).toNat=true/\jr (p.getD (i+1) 0).toNat=true then[⟨130+10*((p.getD i 0).toNat-48)+((p.getD (i+1) 0).toNat-48),-1,-1,1,asR (i+2)⟩] else[]:=rfl
   replace hP:False\/_:=.inr hP;obtain⟨y,hy⟩:∃y,False\/(p.getD i 0).toNat=y:=⟨_,.inr rfl⟩;obtain⟨y2,hy2⟩:∃y,False\/(p.getD (i+1) 0).toNat=y:=⟨_,.inr rfl⟩;rw[hy.resolve_left id]at hxx hby hP;rw[hy2.resolve_left id]at hxx2 hby2 hP;(try simp only[aD]);refine aU (t:=true) aN dP e9 (fun _=>⟨_,aN,?_⟩) (fun h=>by cases h);refine aC (Lr (lo:=lo) (k:=y) hby hlo) ?_;rintro r H2 ⟨rfl,hx2⟩;have hl2:=hx2.1;clear hia hia2 hgx hgx2 hxx hxx2;obtain⟨bb2,oo2,xs2,hia2,hgx2,hxx2⟩:=gN (hv.mono hx2) (k:=i+1) byO;replace hxx2:xs2[oo2]?=some (.int .u8 ((p.getD (i+1) 0).toNat:Nat)):=hxx2;rw[hy2.resolve_left id]at hxx2;simp only[ap₀,Int.natCast_one]at hia2;by_cases hdq:jr y=true
   ·rw[hdq]
    (try simp only[aD]);refine aU (t:=true) aN dP e9 (fun _=>⟨_,aN,?_⟩) (fun h=>by cases h);refine aC (Lr (lo:=lo) (k:=y2) hby2 byO) ?_;rintro r H3 ⟨rfl,hx3⟩;have hx13:=hx2.trans hx3;have hl3:=hx13.1;clear hia2 hgx2 hxx2;by_cases hdq2:jr y2=true
    ·have hr1:=dF.1 hdq
     have hr2:=dF.1 hdq2;have hP2:=hP.resolve_left id;rw[if_pos ⟨h2,hdq,hdq2⟩]at hP2;rw[hP2,hdq2];clear hP hP2;obtain⟨bb,oo,xs,hia,hgx,hxx⟩:=gN (hv.mono hx13) (k:=i) byO;replace hxx:xs[oo]?=some (.int .u8 ((p.getD i 0).toNat:Nat)):=hxx;rw[hy.resolve_left id]at hxx;obtain⟨bb2,oo2,xs2,hia2,hgx2,hxx2⟩:=gN (hv.mono hx13) (k:=i+1) byO;replace hxx2:xs2[oo2]?=some (.int .u8 ((p.getD (i+1) 0).toNat:Nat)):=hxx2;rw[hy2.resolve_left id]at hxx2;simp only[ap₀,Int.natCast_one]at hia2;have e1:(y:Int)-48=((y-48:Nat):Int):=byO;have e2:(y2:Int)-48=((y2-48:Nat):Int):=byO;have hm1:y-48<=9:=byO;have hm2:y2-48<=9:=byO;clear hdq hdq2 hr1 hr2;generalize y-48=m1 at e1 hm1 ⊢;generalize y2-48=m2 at e2 hm2 ⊢;(try simp only[aD]);refine bL ?_;refine aA ?_;refine⟨hx13.trans (Ext.app _ _),_,H3.length+1,⟨byO,.inl ⟨byO,.inr ⟨1,byO,rfl,rfl,?_⟩⟩⟩,aH ncM⟩;rw[bC];rfl
    ·have hP2:=hP.resolve_left id
     rw[if_neg (fun h=>hdq2 h.2.2)]at hP2;rw[hP2,Bool.eq_false_iff.2 hdq2];clear hP hP2;(try simp only[aD]);refine an ?_
     ·(try simp only[aD])
      exact⟨hx13,_,H.length,⟨Nat.le_refl _,OwnG.nil hlo⟩,aH ncM⟩
   ·have hP2:=hP.resolve_left id
    rw[if_neg (fun h=>hdq h.2.1)]at hP2;rw[hP2,Bool.eq_false_iff.2 hdq];clear hP hP2;(try simp only[aD]);refine aU (t:=false) aN dP e9 (fun h=>by cases h) (fun _=>?_);(try simp only[aD]);refine an ?_
    ·(try simp only[aD])
     exact⟨hx2,_,H.length,⟨Nat.le_refl _,OwnG.nil hlo⟩,aH ncM⟩
  ·have hd2:decide ((i:Int)+1<(p.length:Nat))=false:=decide_eq_false byO
   have hP:iN p i=[]:=by grind[iN]
   rw[hP];clear hP;(try simp only[aD]);refine aU (t:=false) aN dP e9 (fun h=>by cases h) (fun _=>?_);(try simp only[aD]);refine aU (t:=false) aN dP e9 (fun h=>by cases h) (fun _=>?_);(try simp only[aD]);refine an ?_
   ·(try simp only[aD])
    exact⟨Ext.refl _,_,H.length,⟨Nat.le_refl _,OwnG.nil hlo⟩,aH ncM⟩
 rintro S' H1 ⟨hx1,w,b,⟨hb,ho⟩,z,rfl⟩;have hl1:=hx1.1;(try simp only[aD]);refine ba (fun S' H'=>Ext H H'/\∃w b,(H.length<=b/\OwnG lo 9 H' w b (cat rsC (iN p i++oU p i)))/\∃(z:Nat->Value),S'=[.slice ad p.length c,aB i,z 2,w,z 4,z 5,z 6,z 7,z 8,z 9,z 10,z 11,z 12,z 13,z 14,z 15,z 16,z 17,z 18,z 19,z 20,z 21,z 22,z 23,z 24,z 25,z 26,z 27,z 28]) ?_ ?_
 ·have hP:oU p i=if i<p.length/\(p.getD i 0).toNat<128 then[⟨(p.getD i 0).toNat+1,-1,-1,1,asR (i+1)⟩] else[]:=rfl
  rw[hP];clear hP;by_cases hil:i<p.length
  ·have hd:decide ((i:Int)<(p.length:Nat))=true:=decide_eq_true byO
   obtain⟨bb,oo,xs,hia,hgx,hxx⟩:=gN (hv.mono hx1) hil;have hby:=(p.getD i 0).toNat_lt;replace hxx:xs[oo]?=some (.int .u8 ((p.getD i 0).toNat:Nat)):=hxx;generalize (p.getD i 0).toNat=y at hxx hby ⊢;by_cases hc:y<128
   ·have hd2:decide ((y:Int)<128)=true:=decide_eq_true byO
    rw[if_pos ⟨hil,hc⟩];refine bL ?_;clear hd hd2;refine aA ?_;change wpS cp lo _ _ _ (H1++[some (rsC ⟨y+1,-1,-1,1,asR (i+1)⟩)]);refine aT ?_;refine uu (o:=⟨y+1,-1,-1,1,asR (i+1)⟩) ho byO byO ?_;intro w3 H3 hap;have hx3:=hap.ext hx1 hb;obtain⟨b3,k1,k2,k3,k4⟩:=hap;refine aA ?_;exact⟨hx3,w3,b3,⟨byO,k3⟩,aH ncM⟩
   ·have hd2:decide ((y:Int)<128)=false:=decide_eq_false byO
    rw[if_neg (fun h=>hc h.2),List.append_nil];refine an ?_
    ·(try simp only[aD])
     grind
  ·have hd:decide ((i:Int)<(p.length:Nat))=false:=decide_eq_false byO
   rw[if_neg (fun h=>hil h.1),List.append_nil];refine an ?_
   ·(try simp only[aD])
    grind
 clear hx1 ho hb hl1;rintro S' H1 ⟨hx1,w,b,⟨hb,ho⟩,z,rfl⟩;have hl1:=hx1.1;(try simp only[aD]);refine ba (fun S' H'=>Ext H H'/\∃w b,(H.length<=b/\OwnG lo 9 H' w b (cat rsC (iN p i++oU p i++jw p i)))/\∃(z:Nat->Value),S'=[.slice ad p.length c,aB i,z 2,w,z 4,z 5,z 6,z 7,z 8,z 9,z 10,z 11,z 12,z 13,z 14,z 15,z 16,z 17,z 18,z 19,z 20,z 21,z 22,z 23,z 24,z 25,z 26,z 27,z 28]) ?_ ?_
 ·have hP:jw p i=if i<p.length/\128<=(p.getD i 0).toNat then[⟨235,((p.getD i 0).toNat-127:Nat),-1,2,asR (i+1)⟩] else[]:=rfl
  rw[hP];clear hP;by_cases hil:i<p.length
  ·have hd:decide ((i:Int)<(p.length:Nat))=true:=decide_eq_true byO
   obtain⟨bb,oo,xs,hia,hgx,hxx⟩:=gN (hv.mono hx1) hil;have hby:=(p.getD i 0).toNat_lt;replace hxx:xs[oo]?=some (.int .u8 ((p.getD i 0).toNat:Nat)):=hxx;generalize (p.getD i 0).toNat=y at hxx hby ⊢;by_cases hc:128<=y
   ·have hd2:decide ((y:Int)>=128)=true:=decide_eq_true byO
    have hd3:decide ((128:Int)<=(y:Nat))=true:=decide_eq_true byO;have e1:(y:Int)-127=((y-127:Nat):Int):=byO;rw[if_pos ⟨hil,hc⟩];refine bL ?_;clear hd hd2 hd3;refine aA ?_;change wpS cp lo _ _ _ (H1++[some (rsC ⟨235,(y-127:Nat),-1,2,asR (i+1)⟩)]);refine aT ?_;refine uu (o:=⟨235,(y-127:Nat),-1,2,asR (i+1)⟩) ho byO (by simp;omega) ?_;intro w3 H3 hap;have hx3:=hap.ext hx1 hb;obtain⟨b3,k1,k2,k3,k4⟩:=hap;refine aA ?_;exact⟨hx3,w3,b3,⟨byO,k3⟩,aH ncM⟩
   ·have hd2:decide ((y:Int)>=128)=false:=decide_eq_false byO
    have hd3:decide ((128:Int)<=(y:Nat))=false:=decide_eq_false byO;rw[if_neg (fun h=>hc h.2),List.append_nil];refine an ?_
    ·(try simp only[aD])
     grind
  ·have hd:decide ((i:Int)<(p.length:Nat))=false:=decide_eq_false byO
   rw[if_neg (fun h=>hil h.1),List.append_nil];refine an ?_
   ·(try simp only[aD])
    grind
 clear hx1 ho hb hl1;rintro S' H1 ⟨hx1,w,b,⟨hb,ho⟩,z,rfl⟩;have hl1:=hx1.1;have hLl:(iN p i++oU p i++jw p i).length<=3:=by simp;omega
 unfold dI;generalize iN p i++oU p i++jw p i=L at ho hLl ⊢;clear p1 p2 p3;refine aA ?_;have hxc:Ext H1 (H1++[some [aB 0,aB 230,aB 239,aB 238,aB 240]]):=Ext.app _ _;have hgc:(H1++[some [aB 0,aB 230,aB 239,aB 238,aB 240]]).get H1.length=some [aB 0,aB 230,aB 239,aB 238,aB 240]:=aF;change wpS cp lo _ _ _ (H1++[some [aB 0,aB 230,aB 239,aB 238,aB 240]]);generalize H1++[some [aB 0,aB 230,aB 239,aB 238,aB 240]]=H2 at hxc hgc;obtain⟨X,hX,hXi⟩:∃X:List Value,(H2.get H1.length=some X/\X.length=5)/\(False\/∀j,j<4->X[j+1]?=some (aB (yF (j+1)))):=⟨_,⟨hgc,rfl⟩,.inr (by
  intro j hj;have:j=0\/j=1\/j=2\/j=3:=byO;rcases this with rfl|rfl|rfl|rfl<;>rfl)⟩
 obtain⟨hgX,hX5⟩:=hX;clear hgc;replace hX5:X.length<=5/\5<=X.length:=byO;have hl2:=hxc.1;have hgl:=Heap.get_lt hgX;obtain⟨b',⟨hb',hbne⟩,ho'⟩:=ho.away hb (Nat.le_refl _) byO byO;have ho2:=ho'.mono hxc;have hx2:=hx1.trans hxc;clear ho ho' hb;refine aA ?_;refine c8 (fun S' H'=>Ext H H'/\∃w b,(H.length<=b/\OwnG lo 9 H' w b (cat rsC (L++nP i 4)))/\∃(z:Nat->Value),S'=[.slice ad p.length c,aB i,z 2,w,z 4,z 5,z 6,z 7,z 8,z 9,z 10,z 11,z 12,z 13,z 14,z 15,z 16,z 17,z 18,z 19,z 20,z 21,z 22,z 23,z 24,z 25,z 26,z 27,z 28]) ?_ ?_
 ·refine aS (fun k S H'=>(Ext H H'/\H'.get H1.length=some X)/\∃w b,((H.length<=b/\b≠H1.length)/\OwnG lo 9 H' w b (cat rsC (L++nP i k)))/\∃(z:Nat->Value),S=[.slice ad p.length c,aB i,z 2,w,.slice (some ⟨H1.length,0,none⟩) 5 5,.int .i64 ((k+1:Nat):Int),z 6,z 7,z 8,z 9,z 10,z 11,z 12,z 13,z 14,z 15,z 16,z 17,z 18,z 19,z 20,z 21,z 22,z 23,z 24,z 25,z 26,z 27,z 28]) 4 ⟨⟨hx2,hgX⟩,w,b',⟨⟨hb',hbne⟩,by grind[nP]⟩,aH rfl⟩ ?_ ?_ ?_
  ·rintro k S H' hk ⟨_,w,b,_,z,rfl⟩
   exact⟨decide (((k+1:Nat):Int)<=4),by rfl,by simp;omega⟩
  ·rintro k S H3 hk ⟨⟨hx3,hg3⟩,w,b,⟨⟨hb,hbn⟩,ho⟩,z,rfl⟩
   clear hgX ho2 hx2;have hl3:=hx3.1;have hat:=hXi.resolve_left id k hk;have hll:(L++nP i k).length<=10:=by grind[nP]
   have hlw:=Bc (k+1);rw[DE,<-ba₀];generalize L++nP i k=L2 at ho hll ⊢;generalize yF (k+1)=lw at hat hlw ⊢;refine aA ?_;change wpS cp lo _ _ _ (H3++[some (rsC ⟨lw,-1,-1,1,⟨i,k+1,0,0,false⟩⟩)]);refine aT ?_;refine uu (o:=⟨lw,-1,-1,1,⟨i,k+1,0,0,false⟩⟩) ho byO byO ?_;intro w4 H4 hap;have hx4:=hap.ext hx3 hb;obtain⟨b4,k1,k2,k3,k4⟩:=hap;have hg4:=k4.get hg3 (fun e=>hbn e.symm);have hgl3:=Heap.get_lt hg3;refine aA ?_;exact⟨⟨hx4,hg4⟩,w4,b4,⟨byO,k3⟩,aH ncM⟩
  ·rintro S H3 ⟨⟨hx3,hg3⟩,w,b,⟨⟨hb,hbn⟩,ho⟩,z,rfl⟩
   (try simp only[aD]);exact⟨hx3,w,b,⟨hb,ho⟩,aH rfl⟩
 clear hgX ho2 hx2 hXi hX5 hgl hl2 hxc;rintro S' H2 ⟨hx2,w,b,⟨hb,ho⟩,z,rfl⟩;have hl2:=hx2.1;have hLl2:(L++nP i 4).length<=7:=by grind[nP]
 generalize L++nP i 4=L2 at ho hLl2 ⊢;refine aA ?_;refine aS (fun k S H'=>Ext H H'/\∃w b,(H.length<=b/\OwnG lo 9 H' w b (cat rsC (L2++l6 i k)))/\∃(z:Nat->Value),S=[.slice ad p.length c,aB i,z 2,w,z 4,z 5,.int .i64 ((k+1:Nat):Int),z 7,z 8,z 9,z 10,z 11,z 12,z 13,z 14,z 15,z 16,z 17,z 18,z 19,z 20,z 21,z 22,z 23,z 24,z 25,z 26,z 27,z 28]) (min 1749 (p.length-i)) ⟨hx2,w,b,⟨hb,by grind[l6]⟩,aH rfl⟩ ?_ ?_ ?_
 ·rintro k S H' hk ⟨_,w,b,_,z,rfl⟩
  refine⟨decide (k<min 1749 (p.length-i)),?_,by simp⟩;by_cases h1:k+1<=1749
  ·have hd1:decide (((k+1:Nat):Int)<=1749)=true:=decide_eq_true byO
   by_cases h2:i+(k+1)<=p.length
   ·rw[decide_eq_true byO]
    have hd2:decide ((i:Int)+((k+1:Nat):Int)<=(p.length:Nat))=true:=decide_eq_true byO;simp(disch:=try exact dO)only[evB,xtr,Nat.reduceAdd,Nat.reduceBEq,Int.reduceToNat, *]
   ·rw[decide_eq_false byO]
    have hd2:decide ((i:Int)+((k+1:Nat):Int)<=(p.length:Nat))=false:=decide_eq_false byO;simp(disch:=try exact dO)only[evB,xtr,Nat.reduceAdd,Nat.reduceBEq,Int.reduceToNat, *]
  ·rw[decide_eq_false byO]
   have hd1:decide (((k+1:Nat):Int)<=1749)=false:=decide_eq_false byO;simp(disch:=try exact dO)only[evB,xtr,Nat.reduceAdd,Nat.reduceBEq,Int.reduceToNat, *]
 ·rintro k S H3 hk ⟨hx3,w,b,⟨hb,ho⟩,z,rfl⟩
  clear hx2;have hl3:=hx3.1;have hk1:k+1<=p.length-i:=byO;have hk2:k+1<=1749:=byO;clear hk;have hll:(L2++l6 i k).length<=2000:=by grind[l6]
  rw[Ab,<-ba₀];generalize L2++l6 i k=L3 at ho hll ⊢;have hrun:False\/dJ i (k+1)=if k+1<250 then⟨231,((k+1:Nat):Nat),-1,2+(k+1),asR (i+(k+1))⟩ else⟨231,((k+1)/250+249:Nat),((k+1)%250:Nat),3+(k+1),asR (i+(k+1))⟩:=.inr rfl
  generalize dJ i (k+1)=st at hrun ⊢;refine aA ?_;change wpS cp lo _ _ _ (H3++[some [aB 231,aB (k+1),.int .i64 (-1),aB (2+(k+1)),aB (i+(k+1)),aB 0,aB 0,aB 0,.bool false]]);have hxd:Ext H3 (H3++[some [aB 231,aB (k+1),.int .i64 (-1),aB (2+(k+1)),aB (i+(k+1)),aB 0,aB 0,aB 0,.bool false]]):=Ext.app _ _;have hgd:(H3++[some [aB 231,aB (k+1),.int .i64 (-1),aB (2+(k+1)),aB (i+(k+1)),aB 0,aB 0,aB 0,.bool false]]).get H3.length=some [aB 231,aB (k+1),.int .i64 (-1),aB (2+(k+1)),aB (i+(k+1)),aB 0,aB 0,aB 0,.bool false]:=aF;generalize H3++[some [aB 231,aB (k+1),.int .i64 (-1),aB (2+(k+1)),aB (i+(k+1)),aB 0,aB 0,aB 0,.bool false]]=H4 at hxd hgd;have hgl4:=Heap.get_lt hgd;refine ba (fun S' H'=>(Keep H3.length H4 H'/\H'.get H3.length=some (rsC st))/\∃(z:Nat->Value),S'=[.slice ad p.length c,aB i,z 2,w,z 4,z 5,.int .i64 ((k+1:Nat):Int),ptr H3.length,z 8,z 9,z 10,z 11,z 12,z 13,z 14,z 15,z 16,z 17,z 18,z 19,z 20,z 21,z 22,z 23,z 24,z 25,z 26,z 27,z 28]) ?_ ?_
  ·by_cases h250:k+1<250
   ·have hdd:decide (((k+1:Nat):Int)>=250)=false:=decide_eq_false byO
    have hr:=hrun.resolve_left id;rw[if_pos h250]at hr;subst hr;clear hrun;refine aP ?_ ?_<;>intro h
    ·simp_all
    ·clear h hdd
     (try simp only[aD]);exact⟨⟨Ext.keep (Ext.refl _),hgd⟩,aH ncM⟩
   ·have hdd:decide (((k+1:Nat):Int)>=250)=true:=decide_eq_true byO
    have hr:=hrun.resolve_left id;rw[if_neg h250]at hr;clear hrun;have eq1:((k+1:Nat):Int).tdiv 250=(((k+1)/250:Nat):Int):=by grind
    have eq2:((k+1:Nat):Int).tmod 250=(((k+1)%250:Nat):Int):=by grind
    have hq1:(k+1)/250<=10:=byO;have hq2:(k+1)%250<250:=byO;generalize (k+1)/250=q1 at eq1 hq1 hr;subst hr;refine bL ?_;clear hdd;refine aA ?_;exact⟨⟨az (az keepSet (.inl rfl) keepSet) (.inl rfl) keepSet,aG (by simp;omega)⟩,aH ncM⟩
  rintro S' H5 ⟨⟨hk5,hg5⟩,z,rfl⟩;have ho5:=ho.over hxd hk5 (Nat.le_refl _);have hx5:=hk5.ext (hx3.trans hxd) hl3;have hl5:=hk5.len;have hl4:=hxd.1;refine aA ?_;refine aT ?_;refine uu (o:=st) ho5 byO byO ?_;intro w6 H6 hap;have hx6:=hap.ext hx5 hb;obtain⟨b6,k1,k2,k3,k4⟩:=hap;refine aA ?_;exact⟨hx6,w6,b6,⟨byO,k3⟩,aH ncM⟩
 ·rintro S H3 ⟨hx3,w,b,⟨hb,ho⟩,z,rfl⟩
  refine aA ?_;exact⟨hx3,b,hb,ho⟩
end
theorem tC(p:List UInt8)(n:RN):(bx p n).length<=2000:=by
 unfold bx;split
 ·unfold dI
  have:=u9 p n.i;have:=yI p n.i;have:=uM p n.i;simp[nP,l6];omega
 ·split
  ·have:=pr p n 40
   unfold Al;omega
  ·unfold xi
   split<;>simp
structure CoH (H:Heap)(kb:Nat)(v:Value)(p:List UInt8)(C:List Nat):Prop where
 c:H.get kb=some (uN C)
 pl:SlU H v p
 len:C.length=(p.length+1)*128
 hi:p.length<=4096
 le:∀i,C.getD i 0<=1099511627776
theorem CoH.ext{H H':Heap}{kb:Nat}{v:Value}{p:List UInt8}{C:List Nat}(h:CoH H kb v p C)(e:Ext H H'):CoH H' kb v p C:=
 ⟨e.get h.c,h.pl.mono e,h.len,h.hi,h.le⟩
abbrev coV(kb:Nat)(p:List UInt8):Value:=.slice (some ⟨kb,0,none⟩) (p.length+1) (p.length+1)
def eX(C:List Nat)(x:RS):Nat:=x.c+C.getD (x.to.i*128+fV x.to) 0
def je(C:List Nat)(b:Nat)(x:RS):Nat:=if eX C x<b then eX C x else b
def mi(p:List UInt8)(n:RN):Nat:=if n.m=0/\n.i=p.length then 0 else 1099511627776
def eK(p:List UInt8)(n:RN)(C:List Nat):Nat:=(bx p n).foldl (je C) (mi p n)
section
variable {lo:Nat}{H:Heap}{v:Value}{p:List UInt8}
open XYe
theorem HS{n:RN}(hv:SlU H v p)(hn:n.ok p.length)(hl:p.length<=4096)(hlo:lo<=H.length):Ev cp lo 97 [v,rnV n] H (fun r H'=>Ext H H'/\∃b,H.length<=b/\OwnG lo 9 H' r b (cat rsC (bx p n))):=by
 obtain⟨ad,c,ev⟩:=hv.len;rw[ev]at hv ⊢;clear ev;have h1:=hn.i;have h2:=hn.m;obtain⟨h3,h4,h5⟩:=hn.ph;unfold bx;refine stG rfl rfl ?_;unfold Qp;simp only[kB,aD];refine aA ?_;have hxb:Ext H (H++[some (rnC n)]):=Ext.app _ _;have hgb:(H++[some (rnC n)]).get H.length=some [aB n.i,aB n.m,aB n.ph,aB n.s,.bool n.u]:=aF;change wpS cp lo _ _ _ (H++[some (rnC n)]);generalize H++[some (rnC n)]=Hb at hxb hgb;have hlb:=hxb.1;by_cases hm0:n.m=0
 ·have hd:decide ((n.m:Int)=0)=true:=decide_eq_true byO
  rw[if_pos hm0];replace hm0:n.m<=0:=byO;refine bL ?_;clear hd;refine bF ?_;refine aC (KO (hv.mono hxb) h1 hl byO) ?_;rintro r H1 ⟨hx,b,hb,ho⟩;refine aA ?_;refine aK ?_;exact⟨hxb.trans hx,b,byO,ho⟩
 have hd:decide ((n.m:Int)=0)=false:=decide_eq_false byO;rw[if_neg hm0];refine an ?_;clear hd;(try simp only[aD]);by_cases hm4:n.m≠4
 ·have hd:decide ((n.m:Int)=4)=false:=decide_eq_false byO
  rw[if_pos hm4];refine aP ?_ ?_<;>intro h
  ·clear h hd
   refine bF ?_;refine aC (Pc (n:=n) (hv.mono hxb) hn byO hl byO) ?_;rintro r H1 ⟨hx,b,hb,ho⟩;refine aA ?_;refine aK ?_;exact⟨hxb.trans hx,b,byO,ho⟩
  ·exfalso;simp at h;omega
 have hd:decide ((n.m:Int)=4)=true:=decide_eq_true byO;rw[if_neg hm4];refine aP ?_ ?_<;>intro h
 ·exfalso;simp at h;omega
 clear h hd hm4 hm0;refine aA ?_;have hed:False\/me n=if n.ph=3 then 0 else 1:=.inr rfl
 have hel:me n<=1:=by rw[hed.resolve_left id];split<;>omega
 unfold xi;refine ba (fun S' H'=>Hb=H'/\∃(z:Nat->Value),S'=[.slice ad p.length c,z 1,ptr H.length,z 3,aB (me n),z 5,z 6,z 7,z 8,z 9,z 10,z 11]) ?_ ?_
 ·generalize me n=e at hed ⊢
  by_cases hp3:n.ph=3
  ·have hd:decide ((n.ph:Int)=3)=true:=decide_eq_true byO
   have he:=hed.resolve_left id;rw[if_pos hp3]at he;subst he;replace hp3:n.ph<=3/\3<=n.ph:=byO;refine bL ?_;clear hd;refine aA ?_;exact⟨by trivial,aH rfl⟩
  ·have hd:decide ((n.ph:Int)=3)=false:=decide_eq_false byO
   have he:=hed.resolve_left id;rw[if_neg hp3]at he;subst he;refine aP ?_ ?_<;>intro h
   ·simp at h
   ·clear h hd
    (try simp only[aD]);exact⟨by trivial,aH rfl⟩
 rintro S' Hc ⟨rfl,z,rfl⟩;clear hed;generalize me n=e at hel ⊢;refine aA ?_;change wpS cp lo _ _ _ (Hb++[some (rsC ⟨31,-1,-1,e,asR n.i⟩)]);have hxc:Ext Hb (Hb++[some (rsC ⟨31,-1,-1,e,asR n.i⟩)]):=Ext.app _ _;have hgc:(Hb++[some (rsC ⟨31,-1,-1,e,asR n.i⟩)]).get Hb.length=some (rsC ⟨31,-1,-1,e,asR n.i⟩):=aF;generalize Hb++[some (rsC ⟨31,-1,-1,e,asR n.i⟩)]=H1 at hxc hgc;have ho:OwnG lo 9 H1 (.slice (some ⟨Hb.length,0,none⟩) 1 1) Hb.length (cat rsC [⟨31,-1,-1,e,asR n.i⟩]):=.inr ⟨byO,1,byO,rfl,rfl,hgc⟩;have hg1:=hxc.get hgb;have hx1:=hxb.trans hxc;have hl1:=hx1.1;clear hgc;by_cases hil:n.i<p.length
 ·have hd:decide ((n.i:Int)<(p.length:Nat))=true:=decide_eq_true byO
  obtain⟨bb,oo,xs,hia,hgx,hxx⟩:=gN (hv.mono hx1) hil;have hby:=(p.getD n.i 0).toNat_lt;replace hxx:xs[oo]?=some (.int .u8 ((p.getD n.i 0).toNat:Nat)):=hxx;have hbe:by' p n.i=(p.getD n.i 0).toNat:=rfl;rw[hbe];clear hbe;generalize (p.getD n.i 0).toNat=y at hxx hby ⊢;by_cases hc:32<=y/\y<=94
  ·rw[if_pos ⟨hil,hc⟩]
   obtain⟨c1,c2⟩:=hc;have d1:decide ((y:Int)>=32)=true:=decide_eq_true byO;have d2:decide ((32:Int)<=(y:Nat))=true:=decide_eq_true byO;have d3:decide ((y:Int)<=94)=true:=decide_eq_true byO;have q1:(y:Int).tmod 64=((y%64:Nat):Int):=by rw[Int.tmod_eq_emod_of_nonneg byO];omega
   have q2:((n.ph:Int)+1).tmod 4=(((n.ph+1)%4:Nat):Int):=by rw[Int.tmod_eq_emod_of_nonneg byO];omega
   have r1:y%64<=63:=byO;have r2:(n.ph+1)%4<=3:=byO;generalize y%64=y6 at q1 r1 ⊢;generalize (n.ph+1)%4=ph4 at q2 r2 ⊢;refine bL ?_;clear hd d1 d2 d3;refine aA ?_;change wpS cp lo _ _ _ (H1++[some (rsC ⟨y6,-1,-1,e,⟨n.i+1,4,ph4,0,false⟩⟩)]);refine aT ?_;refine uu (o:=⟨y6,-1,-1,e,⟨n.i+1,4,ph4,0,false⟩⟩) ho byO (by simp) ?_;intro w3 H3 hap;have hx3:=hap.ext hx1 byO;obtain⟨b3,k1,k2,k3,k4⟩:=hap;refine aA ?_;refine aK ?_;exact⟨hx3,b3,byO,k3⟩
  ·rw[if_neg (fun h=>hc h.2),List.append_nil]
   have hcc:(decide ((y:Int)>=32)&&decide ((y:Int)<=94))=false:=by simp only[Bool.and_eq_false_iff,ai₀];omega
   refine an ?_
   ·refine aA ?_
    refine aK ?_;exact⟨hx1,_,byO,ho⟩
 ·have hd:decide ((n.i:Int)<(p.length:Nat))=false:=decide_eq_false byO
  rw[if_neg (fun h=>hil h.1),List.append_nil];refine an ?_
  ·refine aA ?_
   refine aK ?_;exact⟨hx1,_,byO,ho⟩
theorem Qu{n:RN}{kb:Nat}{C:List Nat}(hs:CoH H kb v p C)(hn:n.ok p.length)(hlo:lo<=H.length):Ev cp lo 95 [v,rnV n,coV kb p] H (fun r H'=>Ext H H'/\r=aB (eK p n C)):=by
 obtain⟨ad,c,ev⟩:=hs.pl.len;rw[ev]at hs ⊢;clear ev;have h1:=hn.i;have hl:=hs.hi;refine stG rfl rfl ?_;unfold Qn;simp only[kB,aD];refine aA ?_;have hxb:Ext H (H++[some (rnC n)]):=Ext.app _ _;have hgb:(H++[some (rnC n)]).get H.length=some [aB n.i,aB n.m,aB n.ph,aB n.s,.bool n.u]:=aF;change wpS cp lo _ _ _ (H++[some (rnC n)]);generalize H++[some (rnC n)]=Hb at hxb hgb;have hlb:=hxb.1;have hbs:False\/mi p n=if n.m=0/\n.i=p.length then 0 else 1099511627776:=.inr rfl
 have hbl:mi p n<=1099511627776:=by rw[hbs.resolve_left id];split<;>omega
 unfold eK;generalize mi p n=b0 at hbs hbl ⊢;refine ba (fun S' H'=>Hb=H'/\∃(z:Nat->Value),S'=[.slice ad p.length c,z 1,coV kb p,ptr H.length,z 4,aB b0,z 6,z 7,z 8,z 9,z 10,z 11,z 12]) ?_ ?_
 ·by_cases hc:n.m=0/\n.i=p.length
  ·have hb2:=hbs.resolve_left id
   rw[if_pos hc]at hb2;subst hb2;obtain⟨c1,c2⟩:=hc;have d1:decide ((n.m:Int)=0)=true:=decide_eq_true byO;have d2:decide ((n.i:Int)=(p.length:Nat))=true:=decide_eq_true byO;replace c1:n.m<=0:=byO;replace c2:n.i<=p.length/\p.length<=n.i:=byO;refine bL ?_;refine aA ?_;exact⟨by trivial,aH rfl⟩
  ·have hb2:=hbs.resolve_left id
   rw[if_neg hc]at hb2;subst hb2;have hcc:(decide ((n.m:Int)=0)&&decide ((n.i:Int)=(p.length:Nat)))=false:=by simp only[Bool.and_eq_false_iff,ai₀];omega
   refine an ?_
   ·(try simp only[aD])
    exact⟨by trivial,aH rfl⟩
 rintro S' Hc ⟨rfl,z,rfl⟩;clear hbs;refine bF ?_;refine aC (HS (n:=n) (hs.ext hxb).pl hn hl byO) ?_;rintro r H1 ⟨hx1,b,hb,ho⟩;have hok:=mY hn;have hsl:=tC p n;generalize bx p n=L at ho hok hsl ⊢;obtain⟨aw,rfl⟩:=ho.len byO om;have hs1:=hs.ext (hxb.trans hx1);have hx01:=hxb.trans hx1;refine aA ?_;refine aS (fun k S H'=>(Ext H1 H'/\(L.take k).foldl (je C) b0<=1099511627776)/\∃(z:Nat->Value),S=[.slice ad p.length c,z 1,coV kb p,z 3,z 4,aB ((L.take k).foldl (je C) b0),.slice aw L.length L.length,.int .i64 (k:Nat),z 8,z 9,z 10,z 11,z 12]) L.length ⟨⟨Ext.refl _,hbl⟩,aH rfl⟩ ?_ ?_ ?_
 ·rintro k S H' hk ⟨_,z,rfl⟩
  exact⟨decide ((k:Int)<(L.length:Nat)),by simp(disch:=try exact dO)only[evB,xtr,Nat.reduceAdd,Nat.reduceBEq,Int.reduceToNat, *],by simp⟩
 ·rintro k S H2 hk ⟨⟨hx2,hmx⟩,z,rfl⟩
  have hs2:=hs1.ext hx2;have ho2:=ho.mono hx2;obtain⟨p4,o4,X4,i4,g4,l4,e4⟩:=ho2.at byO om hk;have hoo:=hok _ (List.getElem_mem hk);have hr:(L.take (k+1)).foldl (je C) b0=je C ((L.take k).foldl (je C) b0) L[k]:=by
   rw[List.take_succ_eq_append_getElem hk,List.foldl_append];rfl
  rw[hr];clear hr;generalize (L.take k).foldl (je C) b0=m at hmx ⊢;generalize L[k]=x at e4 hoo ⊢;have hj:∀j,j<9->X4[o4+j]?=(rsC x)[j]?:=fun j hj=>by rw[<-e4,List.getElem?_take,if_pos hj,List.getElem?_drop]
  have f3:X4[o4+3]?=some (aB x.c):=hj 3 byO;have f4:X4[o4+4]?=some (aB x.to.i):=hj 4 byO;have f5:(X4.drop (o4+4)).take 5=rnC x.to:=by
   have h5:(X4.drop (o4+4)).take 5=((X4.drop o4).take 9).drop 4:=by rw[List.drop_take,List.drop_drop]
   rw[h5,e4];rfl
  have hil:=hoo.to.i;have hnl:=j1 hoo.to;have hxc:=hoo.c;clear hj e4;have hgc:=hs2.c;have hlen:=hs2.len;have hidx:x.to.i*128+fV x.to<C.length:=byO;have hat:=nC hidx;have hle:=hs2.le (x.to.i*128+fV x.to);have hul:(uN C).length<=C.length/\C.length<=(uN C).length:=by simp
  have hm2:je C m x=if x.c+C.getD (x.to.i*128+fV x.to) 0<m then x.c+C.getD (x.to.i*128+fV x.to) 0 else m:=rfl
  rw[hm2];clear hm2;generalize C.getD (x.to.i*128+fV x.to) 0=y at hat hle ⊢;obtain⟨U,hU⟩:∃U,False\/uN C=U:=⟨_,.inr rfl⟩;rw[hU.resolve_left id]at hgc hat hul;replace hlen:C.length<=(p.length+1)*128/\(p.length+1)*128<=C.length:=byO;have hno:=J5 (lo:=H2.length) (H:=H2) hoo.to byO;generalize fV x.to=nx at hat hidx hnl hno;(try simp only[aD]);refine aU (t:=true) aN dP e9 (fun _=>⟨_,aN,?_⟩) (fun h=>by cases h);refine bS hno ?_;rintro r H3 ⟨hx3,rfl⟩;have hgc3:=hx3.get hgc;clear hno;have e:False\/(if (x.c:Int)+(y:Nat)<(m:Nat) then(x.c:Int)+(y:Nat) else(m:Nat))=((if x.c+y<m then x.c+y else m:Nat):Int):=.inr (by
   by_cases hc:x.c+y<m
   ·rw[if_pos hc,if_pos byO];omega
   ·rw[if_neg hc,if_neg byO])
  have hmm:(if x.c+y<m then x.c+y else m:Nat)<=1099511627776:=by split<;>omega
  refine aA ?_;rw[e.resolve_left id];exact⟨⟨hx2.trans hx3,hmm⟩,aH rfl⟩
 ·rintro S H2 ⟨⟨hx2,hmx⟩,z,rfl⟩
  rw[List.take_length]at hmx ⊢;refine aA ?_;refine aK ?_;exact⟨hx01.trans hx2,rfl⟩
end
section
variable {α:Type}{enc:α->List Value}{n:Nat}
theorem J8(h1:∀x,oneCells (enc x)=true)(rs:List α):oneCells (cat enc rs)=true:=by
 induction rs with
 | nil=>rfl
 | cons x l ih=>
  have:cat enc (x::l)=enc x++cat enc l:=by simp[cat]
  rw[this];have h2:=h1 x;unfold oneCells at h2 ih ⊢;rw[List.all_append,h2,ih];rfl
theorem Dw{cp:FuncId->Option CF}{lo:Nat}{z:List Value}{H:Heap}{v:Value}{b t:Nat}{sp:Option Nat}{m d:Nat}{L:List α}{rs:List α}{R:Value->Heap->Prop}(hd:0<d)(hr:rs.length=d)(hn:0<n)(hn2:n<=100)(he:∀x,(enc x).length=n)(h1:∀x,oneCells (enc x)=true)(ho:OwnG lo n H v b (cat enc L))(hlo:lo<=H.length)(hbig:L.length<=10000000)(hd2:d<=10000)(ht:H.get t=some (cat enc rs))
  (k:∀v' H',AppG lo n H b (cat enc (L++rs)) v' H'->R v' H'):wpH cp lo (.app n z) [v,.slice (some ⟨t,0,sp⟩) d m] H R:=by
 have hcl:=kS he L;have hcb:(cat enc L).length<=1000000000:=by
  rw[hcl];exact Nat.le_trans (Nat.mul_le_mul hbig hn2) (by decide)
 have hl1:(cat enc rs).length=d*n:=by rw[kS he,hr]
 have ho1:=J8 h1 rs;have happ:cat enc (L++rs)=cat enc L++cat enc rs:=jS _ _;rw[happ]at k;rcases ho with ho|⟨hb,q,hq0,hq,rfl,hg⟩
 ·refine di ho byO hn byO byO ht byO (c:=cat enc rs) (by rw[List.drop_zero,List.take_of_length_le byO]) ho1 ?_
  intro v' H' ho' hk hl';exact k v' H' ⟨H.length,.inr (Nat.le_refl _),byO,.inl ho',hk⟩
 ·have e1:H.cells t 0 (d*n)=some (cat enc rs):=by rw[cells_get ht byO,List.drop_zero,List.take_of_length_le byO]
  have e2:H.cells b 0 (q*n)=some (cat enc L):=by rw[cells_get hg byO,List.drop_zero,List.take_of_length_le byO]
  have hq1:q<=(cat enc L).length:=by rw[<-hq];exact Nat.le_mul_of_pos_right q hn
  simp only[wpH,cK,hsem,e1,ao₀,ho1,if_true,aZ];rw[if_neg byO,if_neg (by show ¬ br<_;unfold br;omega),e2];simp only[Option.map_some];refine k _ _ ⟨H.length,.inr (Nat.le_refl _),by simp,.inl ⟨byO,.inr ⟨q+d,byO,?_,rfl,?_⟩⟩,Ext.keep (Ext.app _ _)⟩
  ·rw[as₀,<-hq,Nat.add_mul,hl1]
  ·rw[aF]
end
def nd2(i m ph s:Nat):List RN:=[⟨i,m,ph,s,false⟩,⟨i,m,ph,s,true⟩]
def ndS(i m ph k:Nat):List RN:=(List.range k).flatMap fun s=>nd2 i m ph s
def ndP(i m k:Nat):List RN:=(List.range k).flatMap fun ph=>ndS i m ph 4
def ndM(i k:Nat):List RN:=(List.range k).flatMap fun m=>ndP i (m+1) 3
def ndE(i k:Nat):List RN:=(List.range k).flatMap fun ph=>(if ph<3 then[⟨i,3,ph,0,false⟩] else[])++[⟨i,4,ph,0,false⟩]
def gS(i:Nat):List RN:=[asR i]++ndM i 2++ndE i 4
theorem qh{β:Type}(f:Nat->List β)(k:Nat):(List.range (k+1)).flatMap f=(List.range k).flatMap f++f k:=by
 rw[List.range_succ,List.flatMap_append];simp
theorem GQ(i m ph k:Nat):ndS i m ph (k+1)=ndS i m ph k++nd2 i m ph k:=qh _ _
theorem GP(i m k:Nat):ndP i m (k+1)=ndP i m k++ndS i m k 4:=qh _ _
theorem GO(i k:Nat):ndM i (k+1)=ndM i k++ndP i (k+1) 3:=qh _ _
theorem GN(i k:Nat):ndE i (k+1)=ndE i k++((if k<3 then[⟨i,3,k,0,false⟩] else[])++[⟨i,4,k,0,false⟩]):=qh _ _
theorem Bm(i m ph k:Nat):(ndS i m ph k).length<=k*2:=by
 have:=fR (f:=fun s=>nd2 i m ph s) (c:=2) (l:=List.range k) (fun x _=>by simp[nd2]);simpa[ndS]using this
theorem Bl(i m k:Nat):(ndP i m k).length<=k*8:=by
 have:=fR (f:=fun ph=>ndS i m ph 4) (c:=8) (l:=List.range k) (fun x _=>Bm _ _ _ _);simpa[ndP]using this
theorem vx(i k:Nat):(ndM i k).length<=k*24:=by
 have:=fR (f:=fun m=>ndP i (m+1) 3) (c:=24) (l:=List.range k) (fun x _=>Bl _ _ _);simpa[ndM]using this
theorem Bk(i k:Nat):(ndE i k).length<=k*2:=by
 have:=fR (f:=fun ph=>(if ph<3 then[(⟨i,3,ph,0,false⟩:RN)] else[])++[⟨i,4,ph,0,false⟩]) (c:=2) (l:=List.range k) (fun x _=>by split<;>simp);simpa[ndE]using this
section
variable {lo:Nat}{H:Heap}
open XYe
theorem O4{i:Nat}(hi:i<=4096)(hlo:lo<=H.length):Ev cp lo 94 [aB i] H (fun r H'=>Ext H H'/\∃b,H.length<=b/\OwnG lo 5 H' r b (cat rnC (gS i))):=by
 refine stG rfl rfl ?_;unfold Qm;simp only[kB,aD];refine aA ?_;have hxb:Ext H (H++[some (rnC (asR i))]):=Ext.app _ _;have hgb:(H++[some (rnC (asR i))]).get H.length=some (rnC (asR i)):=aF;change wpS cp lo _ _ _ (H++[some (rnC (asR i))]);generalize H++[some (rnC (asR i))]=Hb at hxb hgb;have ho:OwnG lo 5 Hb (.slice (some ⟨H.length,0,none⟩) 1 1) H.length (cat rnC [asR i]):=.inr ⟨byO,1,byO,rfl,rfl,hgb⟩;refine c8 (fun S' H'=>Ext H H'/\∃w b,(H.length<=b/\OwnG lo 5 H' w b (cat rnC ([asR i]++ndM i 2)))/\∃(z:Nat->Value),S'=[aB i,z 1,w,z 3,z 4,z 5,z 6,z 7,z 8,z 9,z 10,z 11,z 12,z 13,z 14,z 15,z 16]) ?_ ?_
 ·refine aS (fun k S H'=>Ext H H'/\∃w b,(H.length<=b/\OwnG lo 5 H' w b (cat rnC ([asR i]++ndM i k)))/\∃(z:Nat->Value),S=[aB i,z 1,w,.int .i64 ((k+1:Nat):Int),z 4,z 5,z 6,z 7,z 8,z 9,z 10,z 11,z 12,z 13,z 14,z 15,z 16]) 2 ⟨hxb,_,H.length,⟨Nat.le_refl _,by simpa[ndM]using ho⟩,aH rfl⟩ ?_ ?_ ?_
  ·rintro k S H' hk ⟨_,w,b,_,z,rfl⟩
   exact⟨decide (((k+1:Nat):Int)<=2),by simp(disch:=try exact dO)only[evB,xtr,Nat.reduceAdd,Nat.reduceBEq,Int.reduceToNat, *],by simp;omega⟩
  ·rintro m S H1 hm ⟨hx1,w,b,⟨hb,ho⟩,z,rfl⟩
   have hLl:([asR i]++ndM i m).length<=50:=by have:=vx i m;simp;omega
   rw[GO,<-ba₀];generalize [asR i]++ndM i m=L at ho hLl ⊢;clear hxb hgb;refine aA ?_;refine aS (fun k S H'=>Ext H H'/\∃w b,(H.length<=b/\OwnG lo 5 H' w b (cat rnC (L++ndP i (m+1) k)))/\∃(z:Nat->Value),S=[aB i,z 1,w,.int .i64 ((m+1:Nat):Int),.int .i64 (k:Nat),z 5,z 6,z 7,z 8,z 9,z 10,z 11,z 12,z 13,z 14,z 15,z 16]) 3 ⟨hx1,w,b,⟨hb,by simpa[ndP]using ho⟩,aH rfl⟩ ?_ ?_ ?_
   ·rintro k S H' hk ⟨_,w,b,_,z,rfl⟩
    exact⟨decide (((k:Nat):Int)<3),by simp(disch:=try exact dO)only[evB,xtr,Nat.reduceAdd,Nat.reduceBEq,Int.reduceToNat, *],by simp;omega⟩
   ·rintro ph S H2 hph ⟨hx2,w,b,⟨hb,ho⟩,z,rfl⟩
    have hLl2:(L++ndP i (m+1) ph).length<=100:=by have:=Bl i (m+1) ph;simp;omega
    rw[GP,<-ba₀];generalize L++ndP i (m+1) ph=L2 at ho hLl2 ⊢;clear hx1 hLl;refine aA ?_;refine aS (fun k S H'=>Ext H H'/\∃w b,(H.length<=b/\OwnG lo 5 H' w b (cat rnC (L2++ndS i (m+1) ph k)))/\∃(z:Nat->Value),S=[aB i,z 1,w,.int .i64 ((m+1:Nat):Int),.int .i64 (ph:Nat),.int .i64 (k:Nat),z 6,z 7,z 8,z 9,z 10,z 11,z 12,z 13,z 14,z 15,z 16]) 4 ⟨hx2,w,b,⟨hb,by simpa[ndS]using ho⟩,aH rfl⟩ ?_ ?_ ?_
    ·rintro k S H' hk ⟨_,w,b,_,z,rfl⟩
     exact⟨decide (((k:Nat):Int)<4),by simp(disch:=try exact dO)only[evB,xtr,Nat.reduceAdd,Nat.reduceBEq,Int.reduceToNat, *],by simp;omega⟩
    ·rintro k S H3 hk ⟨hx3,w,b,⟨hb,ho⟩,z,rfl⟩
     have hLl3:(L2++ndS i (m+1) ph k).length<=200:=by have:=Bm i (m+1) ph k;simp;omega
     rw[GQ,<-ba₀];generalize L2++ndS i (m+1) ph k=L3 at ho hLl3 ⊢;clear hx2 hLl2;have hl3:=hx3.1;refine aA ?_;change wpS cp lo _ _ _ (H3++[some (cat rnC (nd2 i (m+1) ph k))]);have hxc:Ext H3 (H3++[some (cat rnC (nd2 i (m+1) ph k))]):=Ext.app _ _;have hgc:(H3++[some (cat rnC (nd2 i (m+1) ph k))]).get H3.length=some (cat rnC (nd2 i (m+1) ph k)):=aF;have hlc:=hxc.1;have hx4:=hx3.trans hxc;generalize H3++[some (cat rnC (nd2 i (m+1) ph k))]=H4 at hxc hgc hlc hx4;refine aT ?_;refine Dw (enc:=rnC) (rs:=nd2 i (m+1) ph k) byO rfl byO byO oi wW (ho.mono hxc) byO byO byO hgc ?_;intro w5 H5 hap;have hx5:=hap.ext hx4 hb;obtain⟨b5,k1,k2,k3,k4⟩:=hap;have hl4:=hx4.1;refine aA ?_;exact⟨hx5,w5,b5,⟨byO,k3⟩,aH ncM⟩
    ·rintro S H3 ⟨hx3,w,b,⟨hb,ho⟩,z,rfl⟩
     refine aA ?_;exact⟨hx3,w,b,⟨hb,ho⟩,aH ncM⟩
   ·rintro S H3 ⟨hx3,w,b,⟨hb,ho⟩,z,rfl⟩
    refine aA ?_;exact⟨hx3,w,b,⟨hb,ho⟩,aH ncM⟩
  ·rintro S H3 ⟨hx3,w,b,⟨hb,ho⟩,z,rfl⟩
   (try simp only[aD]);exact⟨hx3,w,b,⟨hb,ho⟩,aH rfl⟩
 clear hxb hgb ho;rintro S' H2 ⟨hx2,w,b,⟨hb,ho⟩,z,rfl⟩;have hLl:([asR i]++ndM i 2).length<=50:=by have:=vx i 2;simp;omega
 unfold gS;generalize [asR i]++ndM i 2=L at ho hLl ⊢;refine aA ?_;refine aS (fun k S H'=>Ext H H'/\∃w b,(H.length<=b/\OwnG lo 5 H' w b (cat rnC (L++ndE i k)))/\∃(z:Nat->Value),S=[aB i,z 1,w,z 3,z 4,z 5,.int .i64 (k:Nat),z 7,z 8,z 9,z 10,z 11,z 12,z 13,z 14,z 15,z 16]) 4 ⟨hx2,w,b,⟨hb,by simpa[ndE]using ho⟩,aH rfl⟩ ?_ ?_ ?_
 ·rintro k S H' hk ⟨_,w,b,_,z,rfl⟩
  exact⟨decide (((k:Nat):Int)<4),by simp(disch:=try exact dO)only[evB,xtr,Nat.reduceAdd,Nat.reduceBEq,Int.reduceToNat, *],by simp;omega⟩
 ·rintro k S H3 hk ⟨hx3,w,b,⟨hb,ho⟩,z,rfl⟩
  have hLl3:(L++ndE i k).length<=100:=by have:=Bk i k;simp;omega
  rw[GN,<-ba₀,<-ba₀];generalize L++ndE i k=L3 at ho hLl3 ⊢;clear hx2 hLl;have hl3:=hx3.1;(try simp only[aD]);refine ba (fun S' H'=>Ext H H'/\∃w b,(H.length<=b/\OwnG lo 5 H' w b (cat rnC (L3++if k<3 then[⟨i,3,k,0,false⟩] else[])))/\∃(z:Nat->Value),S'=[aB i,z 1,w,z 3,z 4,z 5,.int .i64 (k:Nat),z 7,z 8,z 9,z 10,z 11,z 12,z 13,z 14,z 15,z 16]) ?_ ?_
  ·by_cases hk3:k<3
   ·have hd:decide ((k:Int)<3)=true:=decide_eq_true byO
    rw[if_pos hk3];refine bL ?_;clear hd;refine aA ?_;change wpS cp lo _ _ _ (H3++[some (rnC ⟨i,3,k,0,false⟩)]);have hxc:Ext H3 (H3++[some (rnC ⟨i,3,k,0,false⟩)]):=Ext.app _ _;have hgc:(H3++[some (rnC ⟨i,3,k,0,false⟩)]).get H3.length=some (cat rnC [⟨i,3,k,0,false⟩]):=aF;have hlc:=hxc.1;have hx4:=hx3.trans hxc;generalize H3++[some (rnC ⟨i,3,k,0,false⟩)]=H4 at hxc hgc hlc hx4;refine aT ?_;refine Dw (enc:=rnC) (rs:=[⟨i,3,k,0,false⟩]) byO rfl byO byO oi wW (ho.mono hxc) byO byO byO hgc ?_;intro w5 H5 hap;have hx5:=hap.ext hx4 hb;obtain⟨b5,k1,k2,k3,k4⟩:=hap;have hl4:=hx4.1;refine aA ?_;exact⟨hx5,w5,b5,⟨byO,k3⟩,aH ncM⟩
   ·have hd:decide ((k:Int)<3)=false:=decide_eq_false byO
    rw[if_neg hk3];refine aP ?_ ?_<;>intro h
    ·simp at h
    ·clear h hd
     (try simp only[aD]);exact⟨hx3,w,b,⟨hb,by simpa using ho⟩,aH rfl⟩
  clear hx3 ho hb hl3;rintro S' H3 ⟨hx3,w,b,⟨hb,ho⟩,z,rfl⟩;have hl3:=hx3.1;have hLl4:(L3++if k<3 then[(⟨i,3,k,0,false⟩:RN)] else[]).length<=101:=by split<;>simp<;>omega
  generalize (L3++if k<3 then[(⟨i,3,k,0,false⟩:RN)] else[])=L4 at ho hLl4 ⊢;refine aA ?_;change wpS cp lo _ _ _ (H3++[some (rnC ⟨i,4,k,0,false⟩)]);have hxc:Ext H3 (H3++[some (rnC ⟨i,4,k,0,false⟩)]):=Ext.app _ _;have hgc:(H3++[some (rnC ⟨i,4,k,0,false⟩)]).get H3.length=some (cat rnC [⟨i,4,k,0,false⟩]):=aF;have hlc:=hxc.1;have hx4:=hx3.trans hxc;generalize H3++[some (rnC ⟨i,4,k,0,false⟩)]=H4 at hxc hgc hlc hx4;refine aT ?_;refine Dw (enc:=rnC) (rs:=[⟨i,4,k,0,false⟩]) byO rfl byO byO oi wW (ho.mono hxc) byO byO byO hgc ?_;intro w5 H5 hap;have hx5:=hap.ext hx4 hb;obtain⟨b5,k1,k2,k3,k4⟩:=hap;have hl4:=hx4.1;refine aA ?_;exact⟨hx5,w5,b5,⟨byO,k3⟩,aH ncM⟩
 ·rintro S H3 ⟨hx3,w,b,⟨hb,ho⟩,z,rfl⟩
  refine aA ?_;refine aK ?_;exact⟨hx3,b,hb,ho⟩
end
end Go.Proofs.YtmnlgdpdgjbfgaaGreat
