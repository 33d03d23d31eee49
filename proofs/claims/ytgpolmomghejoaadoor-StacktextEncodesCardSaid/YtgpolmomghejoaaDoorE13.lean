/- Lemmas. -/
import Derived.Test.YtgpolmomghejoaaDoorE10
import Derived.Test.YtgpolmomghejoaaDoorE12
import Derived.Shelf.Strings.Builder1
import Derived.Shelf.LaysM
import Derived.Shelf.Strconv.Itoa3
import Derived.Lib.AppendStr
import Derived.Laws.Externs
import Derived.BigCall
import Derived.BigGuard
import Derived.Deep.LoopGhost
import Derived.Deep.DeepFit
import Derived.Lib.AppendIntMem
set_option linter.unusedVariables false
set_option linter.unusedSimpArgs false
set_option linter.unusedSectionVars false
namespace Go.Proofs.YtgpolmomghejoaaDoor
open Go.Abs
set_option maxRecDepth 20000
theorem Le{lo:Nat}{H:Heap}:∀(k:Nat),k≤8→Ev cp lo 66 [.string ⟨#[48]⟩,.int .i64 (k:Nat)] H (fun v H'=>v=.string ⟨(List.replicate k (48:UInt8)).toArray⟩∧H'=H)
 | 0,_=>eR 40 (v:=.string ⟨#[]⟩) (H':=H) (by kernel_rfl) ⟨rfl,rfl⟩
 | 1,_=>eR 40 (v:=.string ⟨#[48]⟩) (H':=H) (by kernel_rfl) ⟨rfl,rfl⟩
 | 2,_=>eR 40 (v:=.string ⟨#[48,48]⟩) (H':=H) (by kernel_rfl) ⟨rfl,rfl⟩
 | 3,_=>eR 40 (v:=.string ⟨#[48,48,48]⟩) (H':=H) (by kernel_rfl) ⟨rfl,rfl⟩
 | 4,_=>eR 40 (v:=.string ⟨#[48,48,48,48]⟩) (H':=H) (by kernel_rfl) ⟨rfl,rfl⟩
 | 5,_=>eR 40 (v:=.string ⟨#[48,48,48,48,48]⟩) (H':=H) (by kernel_rfl) ⟨rfl,rfl⟩
 | 6,_=>eR 40 (v:=.string ⟨#[48,48,48,48,48,48]⟩) (H':=H) (by kernel_rfl) ⟨rfl,rfl⟩
 | 7,_=>eR 40 (v:=.string ⟨#[48,48,48,48,48,48,48]⟩) (H':=H) (by kernel_rfl) ⟨rfl,rfl⟩
 | 8,_=>eR 40 (v:=.string ⟨#[48,48,48,48,48,48,48,48]⟩) (H':=H) (by kernel_rfl) ⟨rfl,rfl⟩
 | k+9,h=>by omega
def dM(P:Program)(tr:List Nat):Nat→Code→Option Stm
 | 0,_=>some .skip
 | n+1,.seq a b=>match ay P tr a,dM P tr n b with
  | some x,some y=>some (.seq x y)
  | _,_=>none
 | _,_=>none
def ur(P:Program)(nt:Nat):Nat→Code→Bool
 | 0,_=>true
 | n+1,.seq a b=>bQ P nt a&&ur P nt n b
 | _,_=>false
def rD:Nat→Code→Code
 | 0,c=>c
 | n+1,.seq _ b=>rD n b
 | _,_=>.skip
theorem py{P:Program}{cp:FuncId→Option CF}{base lo m:Nat}(hrun:RunOK P base P.globals.size (run cp m))(hdraw:jm P (run cp m) base)(hbl:base≤lo){tr:List Nat}(hnd:Nd tr){nt:Nat}{ds:List Deferred}{Q:Exit→Act→World→Prop} :
  ∀(n:Nat) (c:Code) (s:Stm),dM P tr n c=some s→ur P nt n c=true→∀(φ:Map) (H:Heap) (w:World) (T:Raw) (a:Act) (S:List Value),cF tr S T→Tmps ds φ nt T a→HRel φ base P.globals.size H w→lo≤H.length →
   ∀S' H',exec (run cp m) lo m s S H=some (.normal,S',H')→(∀a' w' φ' T',cF tr S' T'→Tmps ds φ' nt T' a'→Eff φ base P.globals.size lo H w φ' H' w'→(rD n c).wp P Q a' w')→c.wp P Q a w
 | 0,c,s,hs,_,φ,H,w,T,a,S,hS,hT,hH,hlo,S',H',hx,hK=>by
  simp only[dM,Option.some.injEq]at hs;subst hs;simp only[exec,Option.some.injEq,Prod.mk.injEq,true_and]at hx;obtain⟨rfl,rfl⟩:=hx;exact hK a w φ T hS hT (Eff.refl hH)
 | n+1,.seq x y,s,hs,hok,φ,H,w,T,a,S,hS,hT,hH,hlo,S',H',hx,hK=>by
  simp only[dM]at hs;split at hs<;>try (simp at hs;done)
  rename_i sx sy h1 h2;simp only[Option.some.injEq]at hs;subst hs;simp only[ur,Bool.and_eq_true]at hok;simp only[exec]at hx;split at hx
  ·rename_i S1 H1 hx1
   refine wp_seq ?_;refine kZ (n:=m) hrun.toRet hrun.toPan hdraw hbl hnd (SizeOf.sizeOf x+1) x (by omega) sx h1 hok.1 ds _ φ H w T a S hS hT hH hlo .normal S1 H1 hx1 (KOK.normal fun a1 w1 φ1 T1 k1 k2 k3=>?_);exact py hrun hdraw hbl hnd n y sy h2 hok.2 φ1 H1 w1 T1 a1 S1 k1 k2 k3.rel (Nat.le_trans hlo k3.keeps.1) S' H' hx fun a' w' φ' T' q1 q2 q3=>hK a' w' φ' T' q1 q2 (Eff.trans k3 q3)
  ·rename_i hne
   exact absurd hx (hne S' H')
 | n+1,.region ..,s,hs,_,_,_,_,_,_,_,_,_,_,_,_,_,_,_=>by simp[dM]at hs
 | n+1,.cond ..,s,hs,_,_,_,_,_,_,_,_,_,_,_,_,_,_,_=>by simp[dM]at hs
 | n+1,.block ..,s,hs,_,_,_,_,_,_,_,_,_,_,_,_,_,_,_=>by simp[dM]at hs
 | n+1,.loop ..,s,hs,_,_,_,_,_,_,_,_,_,_,_,_,_,_,_=>by simp[dM]at hs
 | n+1,.exit ..,s,hs,_,_,_,_,_,_,_,_,_,_,_,_,_,_,_=>by simp[dM]at hs
 | n+1,.ret,s,hs,_,_,_,_,_,_,_,_,_,_,_,_,_,_,_=>by simp[dM]at hs
 | n+1,.skip,s,hs,_,_,_,_,_,_,_,_,_,_,_,_,_,_,_=>by simp[dM]at hs
 | n+1,.label ..,s,hs,_,_,_,_,_,_,_,_,_,_,_,_,_,_,_=>by simp[dM]at hs
 | n+1,.goto ..,s,hs,_,_,_,_,_,_,_,_,_,_,_,_,_,_,_=>by simp[dM]at hs
 | n+1,.scope ..,s,hs,_,_,_,_,_,_,_,_,_,_,_,_,_,_,_=>by simp[dM]at hs
 | n+1,.rangeFunc ..,s,hs,_,_,_,_,_,_,_,_,_,_,_,_,_,_,_=>by simp[dM]at hs
 | n+1,.refuse ..,s,hs,_,_,_,_,_,_,_,_,_,_,_,_,_,_,_=>by simp[dM]at hs
theorem tq{P:Program}{cp:FuncId→Option CF}(hm:P.follows .mixedOrders=true)(hcp:iB P cp){f:FuncId}{fn:Func}{c:Code}{tr:List Nat}{n:Nat}{s:Stm}(hfn:P.funcs[f]?=some fn)(hbody:fn.body=some c)
  (htr:nodup tr=true) {np:Nat} (h1:tr.take np=List.range np) (h2:np≤tr.length) (h3:np≤fn.ntmps) (hs:dM P tr n c=some s) (hok:ur P fn.ntmps n c=true) {base:Nat} {args cargs:List Value} {H:Heap} {φ:Map} {w:World} {R:Ending→World→Prop}
  (hargs:LRel φ args cargs) (hlen:args.length=np) (hH:HRel φ base P.globals.size H w) (hb:base≤H.length) {K:List Value→Heap→Prop}
  (hx:wpS cp H.length s (fun ex S' H'=>ex=.normal∧K S' H') (args++List.replicate (tr.length-np) undef) H)
  (hK:∀S' H' a' w' φ' T',K S' H'→cF tr S' T'→Tmps [] φ' fn.ntmps T' a'→Eff φ base P.globals.size H.length H w φ' H' w'→(rD n c).wp P (bodyPost P fn R) a' w'):Calls P f cargs.toArray w R:=by
 obtain⟨N,ex,S',H',hx1,rfl,hk⟩:=eI _ _ _ _ hx;have hrun:=sound hm hcp base N;refine calls_of_wp hfn hbody ?_;refine py hrun (uY hm (sP cp N) hrun.toRet hrun.toPan) hb (jg htr) n c s hs hok φ H w _ _ _ (iX hlen h1 h2 (jg htr)) (jO hargs (by omega)) hH (Nat.le_refl _) S' H' (hx1 N (Nat.le_refl _)) fun a' w' φ' T' q1 q2 q3=>hK S' H' a' w' φ' T' hk q1 q2 q3
def Ak:Nat→Stm→Stm
 | 0,_=>.skip
 | n+1,.seq a b=>.seq a (Ak n b)
 | _,s=>s
set_option exponentiation.threshold 20000 in
theorem pP{N:Nat}(h:(aj N).length≤512):(dD 1000000000 N).length≤565:=by
 refine cz (by omega) 565 N ?_;have h0:∀n,(aj N).length≤n→N<W32^n:=by
  intro n h;have:=uE (mA (B:=W32) (by decide) N);rw[eT (by decide)]at this;exact Nat.lt_of_lt_of_le this (Nat.pow_le_pow_right (by decide) h)
 have h1:=h0 512 h;refine Nat.lt_of_lt_of_le h1 ?_;have h2:W32^512=2^16384:=by
  unfold W32;rw[show 4294967296=2^32 by decide,←Nat.pow_mul]
 rw[h2];refine Nat.le_trans (Nat.pow_le_pow_right (by decide) (show 16384≤29*565 by decide)) ?_;rw[Nat.pow_mul];exact Nat.pow_le_pow_left (by decide) _
theorem xN{lo:Nat}{H:Heap}{v:Value}{b:Nat}{l:List Nat}(h:Own lo 1 H v b (l.map dX)):∃a,v=.slice a l.length l.length:=by
 obtain⟨a,n,rfl,h1,_⟩:=h.len (by omega);exact⟨a,by rw[show n=l.length by simpa using h1]⟩
def Fc(N:Nat)(H:Heap)(S':List Value)(H':Heap):Prop:=
 Ext H H'∧(∃b,S'[3]?=some (.slice (some ⟨b,0,some 1⟩) (dD 1000000000 N).length (dD 1000000000 N).length)∧H'.get b=some ((dD 1000000000 N).map dX)) ∧
 S'[1]?=some (.pointer (some ⟨H.length,0,none⟩))∧∃u,H'.get H.length=some [.bool false,u]
theorem IV{lo:Nat}{H:Heap}{v:Value}{N:Nat}(hlo:lo≤H.length)(hv:IsN H v N)(hN:(aj N).length≤512)(h0:N≠0) :
  wpS cp lo (Ak 5 wH) (fun ex S' H'=>ex=.normal∧Fc N H S' H') [v,undef,undef,undef,undef,undef,undef,undef,undef,undef,undef,undef,undef,undef,undef,undef,undef] H:=by
 have hv0:=hv;obtain⟨m,rfl,hm⟩:=hv;have hm0:=hm;obtain⟨ad,c0,rfl⟩:=hm.len;have hpos:=kN h0;unfold wH;simp only[kB,Ak,aA];repeat' ((first|refine eX ?_|refine eW rfl ?_);(try simp only[aA]))
 refine pJ ?_;have hx0:=Ext.push H (some [.bool false,.slice ad (aj N).length c0]);refine aC (tM (by simp;omega) (hv0.mono hx0) hN) ?_;rintro r H1 ⟨hx1,rfl⟩;have g0:=hx1.get (aQ H _);have hx1:=hx1.of_push;have hlen1:=hx1.1;(try simp only[aA]);refine ky (fun h=>?_) (fun h=>?_)
 ·simp at h
 clear h;(try simp only[aA]);refine ky (fun h=>?_) (fun h=>?_)
 ·exact absurd (mJ.1 (by simpa using h)) h0
 clear h;(try simp only[aA]);repeat' ((first|refine eX ?_|refine eW rfl ?_);(try simp only[aA]))
 have hsm0:SlW H1 (.slice ad (aj N).length c0) (aj N):=hm0.mono hx1;clear hm hm0 hv0;refine bk (fun m S H'=>Ext H1 H'∧∃(M:Nat) (d:List Nat) (w q:Value) (b:Nat),m=M∧(d++dD 1000000000 M=dD 1000000000 N∨False)∧H1.length≤b∧Own lo 1 H' w b (d.map dX)∧SlW H' q (aj M)∧(aj M).length≤512∧(∃(z:Nat→Value),S=[z 0,.pointer (some ⟨H.length,0,none⟩),z 2,w,q,z 5,z 6,z 7,z 8,z 9,z 10,z 11,z 12,z 13,z 14,z 15,z 16])) N ?_ ?_
 ·exact⟨Ext.refl _,N,[],_,_,H1.length,rfl,.inl rfl,Nat.le_refl _,Own.nil (by omega),hsm0,hN,aE rfl⟩
 rintro M S H' ⟨hx,_,d,w,q,b,rfl,hs,hb,ho,hq,hql,z,rfl⟩;obtain⟨aw,rfl⟩:=xN ho;have hq0:=hq;obtain⟨aq,cq,rfl⟩:=hq.len;have hlen2:=hx.1;have hdl:d.length≤565:=by
  have:=congrArg List.length (hs.resolve_right id);have h9:=pP hN;rw[List.length_append]at this;omega
 (try simp only[aA]);refine ky (fun h=>?_) (fun h=>?_)
 ·have hM:M≠0:=by
   rintro rfl;rw[show aj 0=[] from bM _]at h;simp at h
  clear h;(try simp only[aA]);repeat' ((first|refine eX ?_|refine eW rfl ?_);(try simp only[aA]))
  refine pJ ?_;refine aC (FE (by_:=1000000000) (by omega) hq0 (by omega) (iE M) (by unfold W32;omega) (by omega)) ?_;obtain⟨e1,e2⟩:=pQ (N:=M) (by_:=1000000000) (by omega);rw[e1,e2];rintro r H2 ⟨hx2,q',rfl,hq',hqe⟩;replace hqe:=Or.inr (a:=False) hqe;have hrem:M%1000000000<1000000000:=Nat.mod_lt _ (by omega);have hlen3:=hx2.1;obtain⟨b',ho,hb,hbo⟩:=qU ho (A:=H1.length) hb (n:=H2.length+1) (by omega) (by omega);generalize hR:M%1000000000=R at *;(try simp only[aA]);repeat' ((first|refine eX ?_|refine eW rfl ?_);(try simp only[aA]))
  have hxd:Ext H2 (H2++[some [dX R]]):=Ext.app _ _;refine pJ ?_;refine eG (c:=[dX R]) ((ho.mono hx2).mono hxd) (by simp;omega) (by omega) (by omega) (by simp;omega) aH (by simp) rfl rfl ?_;intro w' H4 ho4 hk4 hl4;have hx4:=hk4.ext (hx.trans (hx2.trans hxd)) hb;have ho5:Own lo 1 H4 w' (H2.length+1) ((d++[R]).map dX):=by simpa using ho4
  clear ho4;have hqq:SlW H4 q' (aj (M/1000000000)):=uz (hq'.mono hxd) hk4 (fun b2 o2 sp2 n2 c2 e=>by rw[hqe.resolve_left id]at e;cases e;omega);clear hq' hqe;(try simp only[aA]);repeat' ((first|refine eX ?_|refine eW rfl ?_);(try simp only[aA]))
  simp only[dP];refine⟨M/1000000000,Nat.div_lt_self (by omega) (by omega),hx4,_,d++[R],w',q',H2.length+1,rfl,.inl ?_,by omega,ho5,hqq,?_,aE rfl⟩
  ·rw[←hs.resolve_right id,cJ (by omega) hM,hR];simp
  ·refine Nat.le_trans (oo (Nat.div_le_self M 1000000000)) hql
 ·have hM:M=0:=by
   apply Decidable.byContradiction;intro hM;have:=kN hM;simp only[decide_eq_false_iff_not]at h;omega
  clear h;subst hM;have hs:=hs.resolve_right id;rw[bM,List.append_nil]at hs;obtain⟨hb0,⟨hw,hd0⟩|⟨n,hn0,hn,hw,hg⟩⟩:=ho
  ·have:d=[]:=by simpa using hd0
   rw[this]at hs;have:=cJ (by omega) h0 (B:=1000000000);rw[←hs]at this;cases this
  cases hw;(try simp only[aA]);simp only[hs]at hg ⊢;exact⟨trivial,hx1.trans hx,⟨b,rfl,hg⟩,rfl,_,hx.get g0⟩
open Go.Shelf Go.RowKit
def qI:Go.Shelf.Ren:=⟨fun|169=>67|n=>n,fun|70=>110|9=>9|0=>0|72=>112|37=>31|127=>144|3=>3|5=>5|n=>n,fun|n=>n⟩
theorem FY:Go.Proofs.Lays.n169 Tryd.prog qI:={
 mixed:=by kernel_rfl
 f169:=Tryd.func67.trans (congrArg some (by kernel_rfl))
 t0:=Tryd.underlying0
 a0:=Tryd.isAgg0
 z0:=Tryd.sizeOf0
 v0:=Tryd.zeroValue0
 t3:=Tryd.underlying3
 a3:=Tryd.isAgg3
 z3:=Tryd.sizeOf3
 v3:=Tryd.zeroValue3
 t9:=Tryd.underlying9
 a9:=Tryd.isAgg9
 z9:=Tryd.sizeOf9
 v9:=Tryd.zeroValue9
 t37:=Tryd.underlying31
 a37:=Tryd.isAgg31
 z37:=Tryd.sizeOf31
 v37:=Tryd.zeroValue31
 t70:=Tryd.underlying110
 a70:=Tryd.isAgg110
 z70:=Tryd.sizeOf110
 v70:=Tryd.zeroValue110
 t72:=Tryd.underlying112
 a72:=Tryd.isAgg112
 z72:=Tryd.sizeOf112
 v72:=Tryd.zeroValue112
 t127:=Tryd.underlying144
 a127:=Tryd.isAgg144
 z127:=Tryd.sizeOf144
 v127:=Tryd.zeroValue144 }
theorem x5:Builder.Extra Tryd.prog qI:={
 sizeBuilder:=by kernel_rfl
 liesBuilder:=by kernel_rfl
 t5:=Tryd.underlying5
 a5:=Tryd.isAgg5
 z5:=Tryd.sizeOf5
 v5:=Tryd.zeroValue5
 infoByte:=by kernel_rfl
 cellsByte:=by kernel_rfl
 sizeByte:=by kernel_rfl
 neB5:=by decide }
theorem we(B b:Nat)(l:List UInt8)(w:World)(h:Lib.IsBuilder 112 5 B b (Lib.byteCells l) w)(hBw:B≤w.heap.size) :
  Calls Tryd.prog 67 #[.pointer (some ⟨b,0,none⟩)] w fun e w'=>e=.returned (.string ⟨l.toArray⟩)∧Below B w w':=Any.Builder_String_any FY x5 B b l w h hBw
def tJ:Go.Shelf.Ren:=⟨fun|171=>64|243=>81|246=>95|283=>99|284=>100|285=>101|286=>102|129=>105|317=>104|318=>106|319=>107|320=>108|337=>109|338=>110|n=>n,fun|3=>3|9=>9|2=>2|4=>4|171=>158|0=>0|53=>138|37=>31|5=>5|173=>161|212=>165|51=>104|20=>20|213=>166|46=>124|232=>170|233=>171|n=>n,fun|17=>0|18=>2|19=>3|n=>n⟩
theorem CX:Go.Proofs.LaysM.n171 Tryd.prog tJ:={
 mixed:=by kernel_rfl
 f129:=Tryd.func105.trans (congrArg some (by kernel_rfl))
 f171:=Tryd.func64.trans (congrArg some (by kernel_rfl))
 f243:=Tryd.func81.trans (congrArg some (by kernel_rfl))
 f246:=Tryd.func95.trans (congrArg some (by kernel_rfl))
 f283:=Tryd.func99.trans (congrArg some (by kernel_rfl))
 f284:=Tryd.func100.trans (congrArg some (by kernel_rfl))
 f285:=Tryd.func101.trans (congrArg some (by kernel_rfl))
 f286:=Tryd.func102.trans (congrArg some (by kernel_rfl))
 f317:=Tryd.func104.trans (congrArg some (by kernel_rfl))
 f318:=Tryd.func106.trans (congrArg some (by kernel_rfl))
 f319:=Tryd.func107.trans (congrArg some (by kernel_rfl))
 f320:=Tryd.func108.trans (congrArg some (by kernel_rfl))
 f337:=Tryd.func109.trans (congrArg some (by kernel_rfl))
 f338:=Tryd.func110.trans (congrArg some (by kernel_rfl))
 t0:=Tryd.underlying0
 a0:=Tryd.isAgg0
 z0:=Tryd.sizeOf0
 v0:=Tryd.zeroValue0
 t2:=Tryd.underlying2
 a2:=Tryd.isAgg2
 z2:=Tryd.sizeOf2
 v2:=Tryd.zeroValue2
 t3:=Tryd.underlying3
 a3:=Tryd.isAgg3
 z3:=Tryd.sizeOf3
 v3:=Tryd.zeroValue3
 t4:=Tryd.underlying4
 a4:=Tryd.isAgg4
 z4:=Tryd.sizeOf4
 v4:=Tryd.zeroValue4
 t5:=Tryd.underlying5
 a5:=Tryd.isAgg5
 z5:=Tryd.sizeOf5
 v5:=Tryd.zeroValue5
 t9:=Tryd.underlying9
 a9:=Tryd.isAgg9
 z9:=Tryd.sizeOf9
 v9:=Tryd.zeroValue9
 t20:=Tryd.underlying20
 a20:=Tryd.isAgg20
 z20:=Tryd.sizeOf20
 v20:=Tryd.zeroValue20
 t37:=Tryd.underlying31
 a37:=Tryd.isAgg31
 z37:=Tryd.sizeOf31
 v37:=Tryd.zeroValue31
 t46:=Tryd.underlying124
 a46:=Tryd.isAgg124
 z46:=Tryd.sizeOf124
 v46:=Tryd.zeroValue124
 t51:=Tryd.underlying104
 a51:=Tryd.isAgg104
 z51:=Tryd.sizeOf104
 v51:=Tryd.zeroValue104
 t53:=Tryd.underlying138
 a53:=Tryd.isAgg138
 z53:=Tryd.sizeOf138
 v53:=Tryd.zeroValue138
 t171:=Tryd.underlying158
 a171:=Tryd.isAgg158
 z171:=Tryd.sizeOf158
 v171:=Tryd.zeroValue158
 t173:=Tryd.underlying161
 a173:=Tryd.isAgg161
 z173:=Tryd.sizeOf161
 v173:=Tryd.zeroValue161
 t212:=Tryd.underlying165
 a212:=Tryd.isAgg165
 z212:=Tryd.sizeOf165
 v212:=Tryd.zeroValue165
 t213:=Tryd.underlying166
 a213:=Tryd.isAgg166
 z213:=Tryd.sizeOf166
 t232:=Tryd.underlying170
 a232:=Tryd.isAgg170
 z232:=Tryd.sizeOf170
 v232:=Tryd.zeroValue170
 t233:=Tryd.underlying171
 a233:=Tryd.isAgg171
 z233:=Tryd.sizeOf171
 v233:=Tryd.zeroValue171
 g17:=by kernel_rfl
 g18:=by kernel_rfl
 g19:=by kernel_rfl
 i0:=by kernel_rfl
 i2:=by kernel_rfl
 i3:=by kernel_rfl
 i4:=by kernel_rfl
 i5:=by kernel_rfl
 i9:=by kernel_rfl
 i20:=by kernel_rfl
 i37:=by kernel_rfl
 i46:=by kernel_rfl
 i51:=by kernel_rfl
 i53:=by kernel_rfl
 i171:=by kernel_rfl
 i173:=by kernel_rfl
 i212:=by kernel_rfl
 i232:=by kernel_rfl
 i233:=by kernel_rfl
 m17:=by kernel_rfl
 m18:=by kernel_rfl
 m19:=by kernel_rfl }
set_option maxHeartbeats 1000000 in
set_option maxRecDepth 100000 in
theorem og(b:Nat)(w:World)(h0:w.cell? ⟨b,0,none⟩=some (.pointer (some ⟨b,0,none⟩))) :
  Calls Tryd.prog 80 #[.pointer (some ⟨b,0,none⟩)] w fun e w'=>e=.returned (.tuple #[])∧w'=w:=by
 obtain⟨j,hj,_⟩:=Option.map_eq_some_iff.1 (x5).sizeBuilder;have mixed:Tryd.prog.follows .mixedOrders=true:=by kernel_rfl
 go_enter Tryd.func80,Tryd.ntmps80
 go_wp2
 rw[Lib.run_neq_ptr_same w _ Tryd.underlying110 hj]
 go_wp2
 go_end0
 exact⟨rfl,rfl⟩
set_option maxHeartbeats 1000000 in
set_option maxRecDepth 100000 in
theorem nT(b:Nat)(w:World)(h0:w.cell? ⟨b,0,none⟩=some (.pointer none))(hsh:w.shape? b=some (112,2))(hfz:w.frozen? ⟨b,0,none⟩=false) :
  Calls Tryd.prog 80 #[.pointer (some ⟨b,0,none⟩)] w fun e w'=>e=.returned (.tuple #[])∧w'=w.setCell ⟨b,0,none⟩ (.pointer (some ⟨b,0,none⟩)):=by
 obtain⟨j,hj,hjs⟩:=Option.map_eq_some_iff.1 (x5).sizeBuilder;have mixed:Tryd.prog.follows .mixedOrders=true:=by kernel_rfl
 go_enter Tryd.func80,Tryd.ntmps80
 go_wp2
 rw[Lib.run_to_unsafe w ⟨b,0,none⟩ Tryd.underlying110 Tryd.underlying149 hj (by rw[hjs];decide) hsh (Nat.zero_lt_succ 1)];simp only[Result.andThen];rw[Oper.upon_value]
 go_wp2
 rw[run_callFunc_extern Tryd.func94 (by kernel_rfl) (by kernel_rfl) (by kernel_rfl) (e:=Extern.AbiNoEscape.same) (by kernel_rfl)];rw[Lib.run_noEscape];simp only[Result.andThen];rw[Oper.upon_value]
 go_wp2
 rw[Lib.run_from_unsafe w ⟨b,0,none⟩ Tryd.underlying149 Tryd.underlying110 hj hsh (x5).liesBuilder];simp only[Result.andThen];rw[Oper.upon_value]
 go_wp2
 go_end0
 exact⟨rfl,rfl⟩
theorem wP(B b:Nat)(bs:List Value)(w:World)(h:Lib.IsBuilder 112 5 B b bs w) :
  Calls Tryd.prog 80 #[.pointer (some ⟨b,0,none⟩)] w fun e w'=>e=.returned (.tuple #[])∧(Lib.BuilderAt 112 5 B b (.pointer (some ⟨b,0,none⟩)) bs w'∧Below B w w'):=by
 rcases h with h|h
 ·refine(nT b w h.cell0 h.shape h.frozen0).mono ?_
  rintro e w' ⟨rfl,rfl⟩;exact⟨rfl,h.used _,(Below.refl B w).setCell (p:=⟨b,0,none⟩) h.1 _⟩
 ·refine(og b w h.cell0).mono ?_
  rintro e w' ⟨rfl,rfl⟩;exact⟨rfl,h,Below.refl B _⟩
set_option maxHeartbeats 2000000 in
set_option maxRecDepth 100000 in
theorem writeString(B b:Nat)(bs:List Value)(s:ByteArray)(w:World)(h:Lib.IsBuilder 112 5 B b bs w)(hlen:bs.length+s.size≤140737488355328)(hBw:B≤w.heap.size) :
  Calls Tryd.prog 65 #[.pointer (some ⟨b,0,none⟩),.string s] w fun e w'=>e=.returned (.tuple #[.int .i64 s.size,.nilIface])∧(Lib.BuilderAt 112 5 B b (.pointer (some ⟨b,0,none⟩)) (bs++Lib.strCells s) w'∧Below B w w'):=by
 obtain⟨i0,hi,hz0,hz1,hz2⟩:=info_parts (x5).infoByte;have mixed:Tryd.prog.follows .mixedOrders=true:=by kernel_rfl
 have e80:∀args w,(callFunc 80 args).run Tryd.prog w=.ok (.enter 80 args) w:=enters_of Tryd.func80 (by kernel_rfl) rfl
 go_enter Tryd.func65,Tryd.ntmps65
 go_wp2_with (go_at_fn 80;refine(wP B b bs _ h).mono ?_)
 rintro e w1 ⟨rfl,h1,hb1⟩;obtain⟨hB,v,hbk,hown,hne⟩:=h1;have c0:w1.cell? ⟨b,0,none⟩=some (.pointer (some ⟨b,0,none⟩)):=by rw[Lib.cell_of_heap hbk];rfl
 have c1:w1.cell? ⟨b,1,none⟩=some v:=by rw[Lib.cell_of_heap hbk];rfl
 go_wp2_with (at_builtin;refine Lib.wpList_append_own_string _ rfl _ _ 31 9 rfl B 5 i0 Tryd.underlying31 Tryd.underlying9 hi hz0 hz1 hz2 _ _ _ rfl hown s rfl ?c3 ?c4 ?c5 ?_)
 case c3=>unfold maxLen;omega
 case c4=>omega
 case c5=>have:=hb1.size;omega
 intro v' w2 hown' hgrow _;have hlt:b<w1.heap.size:=by
  rcases Nat.lt_or_ge b w1.heap.size with h'|h'
  ·exact h'
  ·simp[Array.getElem?_eq_none h']at hbk
 have hb2:w2.heap[b]?=some (.cells #[.pointer (some ⟨b,0,none⟩),v] 112 (0,0)):=by
  rw[hgrow.block b hlt (fun e=>hne e.symm)];exact hbk
 have d0:w2.cell? ⟨b,0,none⟩=some (.pointer (some ⟨b,0,none⟩)):=by rw[Lib.cell_of_heap hb2];rfl
 have d1:w2.cell? ⟨b,1,none⟩=some v:=by rw[Lib.cell_of_heap hb2];rfl
 have f1:w2.frozen? ⟨b,1,none⟩=false:=Lib.frozen_of_heap hb2 1;obtain⟨ao,n',cap,rfl⟩:∃ao n' cap,v'=.slice ao n' cap:=by
  rcases hown'.2 with ⟨hv,_⟩|⟨g,cap,cur,hv,_⟩
  ·exact⟨_,_,_,hv⟩
  ·exact⟨_,_,_,hv⟩
 go_wp2
 go_ret2
 refine⟨rfl,?_,?_⟩
 ·exact Lib.BuilderAt.put (T:=112) (e:=5) hB hb2 (bs':=bs++Lib.strCells s) (by simpa[Lib.strCells_length]using hown') (by decide)
 ·exact(hb1.grown hgrow (by have:=hb1.size;omega) (fun k hk=>(hown.lt k hk).1)).setCell (p:=⟨b,1,none⟩) hB _
end Go.Proofs.YtgpolmomghejoaaDoor
namespace Go.Proofs.YtgpolmomghejoaaDoor
open Go.Shelf Go.RowKit Go.Sort Go.Lib
section
variable {P:Program}{ρ:Ren}
set_option maxHeartbeats 2000000 in
set_option maxRecDepth 100000 in
theorem so(L:LaysM.n284 P ρ)(u:Nat)(h1:1≤u)(h2:u<18446744073709551616)(w:World)
  (htab:∀i,i<20→w.cell? ⟨ρ.g 17,i,none⟩=some (.int .u64 ((10^i:Nat):Int))) :
  Calls P (ρ.f 284) #[.int .u64 u] w fun e w'=>e=.returned (.int .i64 (Lib.nDigits u))∧w'=w:=by
 have mixed:=L.mixed;have t53:=L.t53;have a53:=L.a53;have z53:=L.z53;have v53:=L.v53;have t3:=L.t3;have a3:=L.a3;have z3:=L.z3;have v3:=L.v3;have t212:=L.t212;have a212:=L.a212;have z212:=L.z212;have v212:=L.v212;have t0:=L.t0;have a0:=L.a0;have z0:=L.z0;have v0:=L.v0;have t4:=L.t4;have a4:=L.a4;have z4:=L.z4;have v4:=L.v4;have e129:∀args w,(callFunc (ρ.f 129) args).run P w=.ok (.enter (ρ.f 129) args) w:=enters_of L.f129 (by kernel_rfl) rfl;have e317:∀args w,(callFunc (ρ.f 317) args).run P w=.ok (.enter (ρ.f 317) args) w:=enters_of L.f317 (by kernel_rfl) rfl;have e318:∀args w,(callFunc (ρ.f 318) args).run P w=.ok (.enter (ρ.f 318) args) w:=enters_of L.f318 (by kernel_rfl) rfl;obtain⟨hnd,h19⟩:=Lib.numDigits_eq u h1 h2;have hL:Lib.bitLen u≤64:=Lib.bitLen_le u 64 (Nat.le_refl _) h2;have hcell:w.cell? ⟨(ρ.g 17),Lib.l10 (Lib.bitLen u),none⟩=some (.int .u64 ((10^Lib.l10 (Lib.bitLen u):Nat):Int)):=by
  exact htab _ (by omega)
 have hto:((u:Int)).toNat=u:=by omega
 generalize hq:Lib.l10 (Lib.bitLen u)=q at hnd h19 hcell;generalize hT:10^q=T at hnd hcell;have h20:q<20:=by omega
 have Hnd:=Lib.hid hnd;clear hnd htab
 go_enter L.f284,Body.n284_ntmps ρ
 go_wp2_with (first
  | (go_at_fn (ρ.f 129);refine(Any.bits_Len64 { L with } _ _ (by omega) (by omega)).mono ?_;rintro e w' ⟨rfl,rfl⟩)
  | (go_at_fn (ρ.f 317);refine(Any.internal_strconv_log10Pow2 { L with } _ (by first|exact hL|(rw[hto];exact hL)) _).mono ?_;rintro e w' ⟨rfl,rfl⟩)
  | (go_at_fn (ρ.f 318);refine(Any.internal_strconv_bool2_int { L with } _ _).mono ?_;rintro e w' ⟨rfl,rfl⟩))
 all_goals go_ret
 all_goals (
  refine⟨?_,rfl⟩;have hnd:=Hnd.out;congr 2;split at hnd<;>simp_all<;>omega)
set_option maxHeartbeats 6400000 in
set_option maxRecDepth 100000 in
theorem tW(L:LaysM.n246 P ρ)(u:Nat)(hu64:u<9223372036854775808)(w:World)
  (htab:∀i,i<20→w.cell? ⟨ρ.g 17,i,none⟩=some (.int .u64 ((10^i:Nat):Int))) :
  Calls P (ρ.f 246) #[.int .i64 u,.int .i64 10] w fun e w'=>e=.returned (.string ⟨(Lib.decDigits u).toArray⟩)∧∃k os,w'=grow (w.drewN k) os:=by
 have mixed:=L.mixed;have t2:=L.t2;have a2:=L.a2;have z2:=L.z2;have v2:=L.v2;have t3:=L.t3;have a3:=L.a3;have z3:=L.z3;have v3:=L.v3;have t9:=L.t9;have a9:=L.a9;have z9:=L.z9;have v9:=L.v9;have t4:=L.t4;have a4:=L.a4;have z4:=L.z4;have v4:=L.v4;have t171:=L.t171;have a171:=L.a171;have z171:=L.z171;have v171:=L.v171;have t0:=L.t0;have a0:=L.a0;have z0:=L.z0;have v0:=L.v0;have t53:=L.t53;have a53:=L.a53;have z53:=L.z53;have v53:=L.v53;have t37:=L.t37;have a37:=L.a37;have z37:=L.z37;have v37:=L.v37;have t5:=L.t5;have a5:=L.a5;have z5:=L.z5;have v5:=L.v5;have t173:=L.t173;have a173:=L.a173;have z173:=L.z173;have v173:=L.v173;have e283:∀args w,(callFunc (ρ.f 283) args).run P w=.ok (.enter (ρ.f 283) args) w:=enters_of L.f283 (by kernel_rfl) rfl;have e284:∀args w,(callFunc (ρ.f 284) args).run P w=.ok (.enter (ρ.f 284) args) w:=enters_of L.f284 (by kernel_rfl) rfl;have e285:∀args w,(callFunc (ρ.f 285) args).run P w=.ok (.enter (ρ.f 285) args) w:=enters_of L.f285 (by kernel_rfl) rfl;by_cases hs:u<100
 ·
  go_enter L.f246,Body.n246_ntmps ρ
  go_wp2_with (go_at_fn (ρ.f 283);refine(Any.internal_strconv_small { L with } u hs _).mono ?_;rintro e w' ⟨rfl,rfl⟩)
  go_ret
  refine⟨?_,0,#[],by simp[World.drewN_zero]⟩;rfl
 ·have hu1:1≤u:=by omega
  have htab':∀i,i<20→(w.alloc (.cells Lib.zeros24 (ρ.t 171))).cell? ⟨ρ.g 17,i,none⟩=some (.int .u64 ((10^i:Nat):Int)):=fun i hi=>by
   have hlt:ρ.g 17<w.heap.size:=by
    refine Decidable.byContradiction fun hc=>?_;have:=htab i hi;simp[World.cell?,Array.getElem?_eq_none (Nat.le_of_not_lt hc)]at this
   exact(World.cell?_of_block (w:=w) (Below.heap_alloc w _ _ hlt)).trans (htab i hi)
  have hu64:u<18446744073709551616:=by omega
  have hnd20:Lib.nDigits u≤20:=by have:=Lib.numDigits_eq u hu1 hu64;split at this<;>omega
  have hb3:Lib.nDigits u≤23:=by omega
  have hal:P.arrayLen (ρ.t 171)=24:=by simp[Program.arrayLen,L.t171]
  have hsl1:∀W,(Instr.sliceAt (ρ.t 171) (.pointer (some ⟨w.heap.size,0,none⟩)) (some (.int .i64 1)) (some (.int .i64 (1+(Lib.nDigits u:Int)))) none).run P W=.ok (.slice (some ⟨w.heap.size,1,none⟩) (Lib.nDigits u) 23) W:=fun W=>by
   rw[run_sliceAt_array_lh W (ρ.t 171) ⟨w.heap.size,0,none⟩ (by simp[Program.arrayLen,Program.elem,L.t171]) .i64 .i64 1 (1+(Lib.nDigits u:Int)) (by omega) (by omega) (by rw[hal];omega)]
   go_simp
   omega
  have hH0:=Lib.holds_zero w (ρ.t 171) (Lib.nDigits u) (by omega);have hfmt:=Any.internal_strconv_formatBase10 { L with } w.heap.size 1 23 u (Array.replicate (Lib.nDigits u) 0) (w.alloc (.cells Lib.zeros24 (ρ.t 171))) hH0 (by rw[Array.size_replicate];exact Lib.lt_pow_nDigits u) hu64 (by rw[Array.size_replicate];omega);rw[Array.size_replicate]at hfmt;have HH0:=Lib.hid hH0;clear hH0 hal
  go_enter L.f246,Body.n246_ntmps ρ
  go_wp2_with (first
   | (go_at_fn (ρ.f 284);refine(so { L with } u hu1 hu64 _ htab').mono ?_;rintro e w' ⟨rfl,rfl⟩))
  go_at_fn (ρ.f 285)
  refine hfmt.mono ?_;rintro e w' ⟨rfl,k,v',dk,rfl,hF⟩;have hcv:(convert (ρ.t 37) (ρ.t 9) (.slice (some ⟨w.heap.size,1,none⟩) (Lib.nDigits u) 23)).run P ((putRow (fun(b:UInt8)=>Value.int .u8 (b.toNat:Int)) (w.alloc (.cells Lib.zeros24 (ρ.t 171))) w.heap.size 1 dk).drewN k)=.ok (.string ⟨(Lib.decDigits u).toArray⟩) ((putRow (fun(b:UInt8)=>Value.int .u8 (b.toNat:Int)) (w.alloc (.cells Lib.zeros24 (ρ.t 171))) w.heap.size 1 dk).drewN k):=by
   have h:=run_convert_bytes_back (P:=P) ((putRow (fun(b:UInt8)=>Value.int .u8 (b.toNat:Int)) (w.alloc (.cells Lib.zeros24 (ρ.t 171))) w.heap.size 1 dk).drewN k) (ρ.t 37) (ρ.t 9) (ρ.t 5) ⟨w.heap.size,1,none⟩ 23 (Lib.decDigits u) L.t37 L.t5 L.t9 (fun j hj=>by
    rw[Lib.row_is_numeral hF j hj,Lib.add_plain,World.cell?_drewN];exact cell?_putRow (fun(b:UInt8)=>Value.int .u8 (b.toNat:Int)) _ w.heap.size 1 _ dk HH0.out (by rw[hF.size,Array.size_replicate]) j (by rw[hF.size];rw[Lib.decDigits_length]at hj;exact hj))
   rw[Lib.decDigits_length]at h;exact h
  go_wp2
  go_ret
  obtain⟨os,eo⟩:=Lib.fin_pos w (.cells Lib.zeros24 (ρ.t 171)) dk k;refine⟨?_,k,os,eo⟩;rfl
set_option maxRecDepth 100000 in
theorem Df(L:LaysM.n243 P ρ)(u:Nat)(hu:u<9223372036854775808)(w:World)
  (htab:∀i,i<20→w.cell? ⟨ρ.g 17,i,none⟩=some (.int .u64 ((10^i:Nat):Int))) :
  Calls P (ρ.f 243) #[.int .i64 u] w fun e w'=>e=.returned (.string ⟨(Lib.decDigits u).toArray⟩)∧∃k os,w'=grow (w.drewN k) os:=by
 have mixed:=L.mixed;have HT:=Lib.hid htab;clear htab;have t3:=L.t3;have a3:=L.a3;have z3:=L.z3;have v3:=L.v3;have t9:=L.t9;have a9:=L.a9;have z9:=L.z9;have v9:=L.v9;have t2:=L.t2;have a2:=L.a2;have z2:=L.z2;have v2:=L.v2;have e246:∀args w,(callFunc (ρ.f 246) args).run P w=.ok (.enter (ρ.f 246) args) w:=enters_of L.f246 (by kernel_rfl) rfl
 go_enter L.f243,Body.n243_ntmps ρ
 go_wp2_with (go_at_fn (ρ.f 246);refine(tW { L with } u hu _ HT.out).mono ?_;rintro e w' ⟨rfl,k,os,rfl⟩)
 go_ret
 exact⟨rfl,k,os,rfl⟩
set_option maxRecDepth 100000 in
theorem Dp(L:LaysM.n171 P ρ)(u:Nat)(hu:u<9223372036854775808)(w:World)
  (htab:∀i,i<20→w.cell? ⟨ρ.g 17,i,none⟩=some (.int .u64 ((10^i:Nat):Int))) :
  Calls P (ρ.f 171) #[.int .i64 u] w fun e w'=>e=.returned (.string ⟨(Lib.decDigits u).toArray⟩)∧∃k os,w'=grow (w.drewN k) os:=by
 have mixed:=L.mixed;have HT:=Lib.hid htab;clear htab;have t3:=L.t3;have a3:=L.a3;have z3:=L.z3;have v3:=L.v3;have t9:=L.t9;have a9:=L.a9;have z9:=L.z9;have v9:=L.v9;have e243:∀args w,(callFunc (ρ.f 243) args).run P w=.ok (.enter (ρ.f 243) args) w:=enters_of L.f243 (by kernel_rfl) rfl
 go_enter L.f171,Body.n171_ntmps ρ
 go_wp2_with (go_at_fn (ρ.f 243);refine(Df { L with } u hu _ HT.out).mono ?_;rintro e w' ⟨rfl,k,os,rfl⟩)
 go_ret
 exact⟨rfl,k,os,rfl⟩
end
theorem Gd(u:Nat)(hu:u<9223372036854775808)(w:World)(htab:∀i,i<20→w.cell? ⟨0,i,none⟩=some (.int .u64 ((10^i:Nat):Int))) :
  Calls Tryd.prog 64 #[.int .i64 u] w fun e w'=>e=.returned (.string ⟨(Lib.decDigits u).toArray⟩)∧∃k os,w'=grow (w.drewN k) os:=Dp CX u hu w htab
open Go.Shelf Go.RowKit Go.Lib
structure Kp (w w':World):Prop where
 size:w.heap.size≤w'.heap.size
 block:∀b,b<w.heap.size→w'.heap[b]?=w.heap[b]?
 os:w'.os=w.os
 out:w'.output=w.output
theorem Kp.refl(w:World):Kp w w:=⟨Nat.le_refl _,fun _ _=>rfl,rfl,rfl⟩
theorem Kp.trans{a b c:World}(h:Kp a b)(k:Kp b c):Kp a c:=
 ⟨Nat.le_trans h.size k.size,fun i hi=>(k.block i (Nat.lt_of_lt_of_le hi h.size)).trans (h.block i hi),k.os.trans h.os,k.out.trans h.out⟩
theorem Kp.below{w0 w w':World}(h:Kp w0 w)(k:Below w0.heap.size w w'):Kp w0 w':=
 ⟨Nat.le_trans h.size k.size,fun i hi=>(k.block i hi).trans (h.block i hi),k.os.trans h.os,k.output.trans h.out⟩
theorem Kp.cell{w w':World}(h:Kp w w'){p:Addr}{v:Value}(hc:w.cell? p=some v):w'.cell? p=some v:=by
 have hlt:p.block<w.heap.size:=by
  refine Decidable.byContradiction fun hn=>?_;simp[World.cell?,Array.getElem?_eq_none (Nat.le_of_not_lt hn)]at hc
 rw[World.cell?_of_block (w:=w) (h.block _ hlt)];exact hc
theorem Kp.builder{w w':World}(h:Kp w w'){T e:TypeId}{B b:Nat}{p:Value}{bs:List Value}(hB:Lib.BuilderAt T e B b p bs w):Lib.BuilderAt T e B b p bs w':=by
 have lt:∀{g:Nat} {o:Obj},w.heap[g]?=some o→w'.heap[g]?=some o:=fun {g o} hg=>by
  rw[h.block g (Array.getElem?_eq_some_iff.1 hg).1];exact hg
 obtain⟨h1,v,h2,⟨h3,h4⟩,h5⟩:=hB;refine⟨h1,v,lt h2,⟨h3,?_⟩,h5⟩;rcases h4 with h4|⟨g,cap,cur,a1,a2,a3,a4⟩
 ·exact .inl h4
 ·exact .inr ⟨g,cap,cur,a1,a2,lt a3,a4⟩
theorem Kp.isB{w w':World}(h:Kp w w'){T e:TypeId}{B b:Nat}{bs:List Value}(hB:Lib.IsBuilder T e B b bs w):Lib.IsBuilder T e B b bs w':=hB.imp h.builder h.builder
def nine(g:Nat):List UInt8:=List.replicate (9-(Lib.decDigits g).length) 48++Lib.decDigits g
def k9(g:Nat→Nat)(n:Nat):Nat→List UInt8
 | 0=>[]
 | k+1=>k9 g n k++(if k=0 then Lib.decDigits (g (n-1)) else nine (g (n-1-k)))
theorem tS{g:Nat}(h:g<1000000000):(Lib.decDigits g).length≤9:=by
 rw[Lib.decDigits_length];refine Decidable.byContradiction fun hc=>?_;have hp:1≤g:=by
  refine Decidable.byContradiction fun hg=>?_;rw[Lib.nDigits_small (by omega)]at hc;omega
 have:∀k,10^k≤g→g<10^(k+1)→k≤8:=fun k h1 _=>by
  refine Decidable.byContradiction fun hk=>?_;have:10^9≤10^k:=Nat.pow_le_pow_right (by decide) (by omega);omega
 have ex:∃k,10^k≤g∧g<10^(k+1):=by
  have:∀m,g<10^m→∃k,10^k≤g∧g<10^(k+1):=by
   intro m
   induction m with
   | zero=>intro h;omega
   | succ m ih=>
    intro h;by_cases h2:g<10^m
    ·exact ih h2
    ·exact⟨m,by omega,h⟩
  exact this 9 (by omega)
 obtain⟨k,h1,h2⟩:=ex;have h3:=this k h1 h2;rw[Lib.nDigits_unique k g h1 h2]at hc;omega
theorem Cs(g:Nat):1≤(Lib.decDigits g).length:=by
 rw[Lib.decDigits_length];exact Lib.nDigits_pos g
theorem o5{g:Nat→Nat}{n:Nat}(hg:∀j,g j<1000000000):∀k,(k9 g n k).length≤9*k
 | 0=>by simp[k9]
 | k+1=>by
  have:=o5 hg (n:=n) k;have h1:=tS (hg (n-1));have h2:=tS (hg (n-1-k));simp only[k9];split
  ·simp;omega
  ·simp[nine];omega
set_option maxHeartbeats 4000000 in
set_option maxRecDepth 100000 in
theorem G2{fn:Func}(hres:fn.results=#[.tmp 2])(z:Nat→Value)(wx:World)(pb ps gb gs n cap:Nat)(g:Nat→Nat)(R:Ending→World→Prop)(hn:0<n)(hn2:n≤565)
  (hneg:wx.cell? ⟨pb,ps,none⟩=some (.bool false)) (hgc:∀j,j<n→wx.cell? ⟨gb,gs+j,none⟩=some (.int .u32 (g j:Nat))) (hg:∀j,g j<1000000000)
  (htab:∀i,i<20→wx.cell? ⟨0,i,none⟩=some (.int .u64 ((10^i:Nat):Int)))
  (hrep:∀W k,k≤8→Kp wx W→Calls Tryd.prog 66 #[.string ⟨#[48]⟩,.int .i64 (k:Nat)] W fun e W'=>e=.returned (.string ⟨(List.replicate k (48:UInt8)).toArray⟩)∧Kp W W')
  (hR:∀W',Kp wx W'→R (.returned (.string ⟨(k9 g n n).toArray⟩)) W') :
  (rD 5 (Tryd.f45.body.getD .skip)).wp Tryd.prog (bodyPost Tryd.prog fn R)
   { tmps:=#[z 0,.pointer (some ⟨pb,ps,none⟩),z 2,.slice (some ⟨gb,gs,none⟩) n cap,z 4,z 5,z 6,z 7,z 8,z 9,z 10,z 11,z 12,z 13,z 14,z 15,z 16,z 17,z 18,z 19,z 20,z 21,z 22,z 23,z 24,z 25,z 26,z 27,z 28,z 29,z 30,z 31,z 32,z 33,z 34,z 35,z 36,z 37,z 38,z 39,z 40,z 41,z 42,z 43,z 44,z 45,z 46,z 47,z 48,z 49,z 50,z 51,z 52,z 53,z 54,z 55,z 56,z 57,z 58],defers:=[] } wx:=by
 have mixed:Tryd.prog.follows .mixedOrders=true:=by kernel_rfl
 have e64:∀args w,(callFunc 64 args).run Tryd.prog w=.ok (.enter 64 args) w:=enters_of Tryd.func64 (by kernel_rfl) rfl;have e65:∀args w,(callFunc 65 args).run Tryd.prog w=.ok (.enter 65 args) w:=enters_of Tryd.func65 (by kernel_rfl) rfl;have e66:∀args w,(callFunc 66 args).run Tryd.prog w=.ok (.enter 66 args) w:=enters_of Tryd.func66 (by kernel_rfl) rfl;have e67:∀args w,(callFunc 67 args).run Tryd.prog w=.ok (.enter 67 args) w:=enters_of Tryd.func67 (by kernel_rfl) rfl;have HGC:=Lib.hid hgc;have HG:=Lib.hid hg;have HT:=Lib.hid htab;have HR:=Lib.hid hrep;have HRR:=Lib.hid hR;clear hgc hg htab hrep hR;unfold Tryd.f45;simp only[Option.getD,rD];have b0:Kp wx (wx.alloc (.cells #[.pointer none,.slice none 0 0] 112)):=(Kp.refl wx).below ((Below.refl _ wx).alloc (Nat.le_refl _) _);have hneg':=b0.cell hneg;have hB0:Lib.IsBuilder 112 5 wx.heap.size wx.heap.size [] (wx.alloc (.cells #[.pointer none,.slice none 0 0] 112)):=Lib.fresh_isBuilder 112 5 wx;have H0:=Lib.hid b0;have HB0:=Lib.hid hB0;clear hB0 b0
 go_wp2
 go_loopg [7] n (fun k s7 wr=>k≤n∧s7=.int .i64 ((k:Int)-1)∧Lib.IsBuilder 112 5 wx.heap.size wx.heap.size (Lib.byteCells (k9 g n (n-k))) wr∧Kp wx wr)
 case atStart=>exact⟨Nat.le_refl _,rfl,by rw[Nat.sub_self];exact HB0.out,H0.out⟩
 case round=>
  obtain⟨hk,rfl,hB,hkp⟩:=hrel;cases gk with
  | zero=>
   rw[Nat.sub_zero]at hB;have cS:=we wx.heap.size wx.heap.size (k9 g n n) wr hB hkp.size
   go_wp2_with (go_at_fn 67;go_fit cS;rintro e W3 ⟨rfl,b3⟩)
   refine bodyPost_ret (results_tmp hres _ _ _) rfl ?_;exact HRR.out _ (hkp.below b3)
  | succ k=>
   have e1:(((k+1:Nat):Int)-1)=(k:Int):=by omega
   rw[e1];have hkn:k<n:=by omega
   have hc:=hkp.cell (HGC.out k hkn);have hgk:=HG.out k;generalize hG:g k=G at *;have hw:IntKind.i64.wrap (G:Int)=(G:Int):=by rw[IntKind.wrap_i64];omega
   have cI:=Gd G (by omega) wr (fun i hi=>hkp.cell (HT.out i hi));have hdl:=tS hgk;obtain⟨S,hS⟩:∃S:ByteArray,(⟨(Lib.decDigits G).toArray⟩:ByteArray)=S:=⟨_,rfl⟩;have hSd:S.data.toList=Lib.decDigits G:=by rw[←hS]
   have hSz:S.size=(Lib.decDigits G).length:=by rw[Lib.size_eq,hSd]
   rw[hS]at cI;generalize hL:(Lib.decDigits G).length=L at *;have HSd:=Lib.hid hSd;have HS:=Lib.hid hS;have HG2:=Lib.hid hG;clear hSd hS hG
   go_wp2_with (go_at_fn 64;go_fit cI;rintro e W1 ⟨rfl,kk,os,rfl⟩)
   all_goals have k1:Kp wr (Sort.grow (wr.drewN kk) os):=(Kp.refl wr).below (Lib.below_grow wr.heap.size wr (Nat.le_refl _) kk os)
   all_goals have hk1:=hkp.trans k1
   all_goals have hB1:=k1.isB hB
   all_goals generalize Sort.grow (wr.drewN kk) os=W1 at *
   ·have hlt:k+1≠n:=by omega
    have hl1:=Cs G;rw[hL]at hl1;have cR:=HR.out W1 (9-L) (by omega) hk1;rw[show((9-L:Nat):Int)=9-(L:Int) by omega]at cR
    go_fit cR
    rintro e W2 ⟨rfl,k2⟩;have hk2:=hk1.trans k2;have hB2:=k2.isB hB1;have ho:=o5 HG.out (n:=n) (n-(k+1));have cW:=writeString wx.heap.size wx.heap.size _ ⟨(List.replicate (9-L) (48:UInt8)).toArray⟩ W2 hB2 (by
     rw[Lib.byteCells_length,Lib.size_eq];simp;omega) hk2.size
    obtain⟨Z,hZ⟩:∃Z:ByteArray,(⟨(List.replicate (9-L) (48:UInt8)).toArray⟩:ByteArray)=Z:=⟨_,rfl⟩;have hZd:Z.data.toList=List.replicate (9-L) 48:=by rw[←hZ]
    rw[hZ]at cW ⊢;have HZd:=Lib.hid hZd;clear hZd hZ
    go_wp2_with (go_at_fn 65;go_fit cW;rintro e W3 ⟨rfl,h3,b3⟩)
    have hk3:=hk2.below b3;have cV:=writeString wx.heap.size wx.heap.size _ S W3 (Or.inr h3) (by
     rw[List.length_append,Lib.byteCells_length,Lib.strCells_length,Lib.size_eq,HZd.out,hSz];simp;omega) hk3.size
    go_wp2_with (go_at_fn 65;go_fit cV;rintro e W4 ⟨rfl,h4,b4⟩)
    go_roundg k
    case measure=>omega
    case rel=>
     refine⟨by omega,rfl,Or.inr ?_,hk3.below b4⟩;rw[show n-k=(n-(k+1))+1 by omega];simp only[k9];rw[if_neg (by omega),show n-1-(n-(k+1))=k by omega,HG2.out,nine,hL];rw[Lib.strCells_eq,Lib.strCells_eq,HZd.out,HSd.out,←Lib.byteCells_append,←Lib.byteCells_append,List.append_assoc]at h4;exact h4
   ·have hlt:k+1=n:=by omega
    have ho:=o5 HG.out (n:=n) (n-(k+1));have cV:=writeString wx.heap.size wx.heap.size _ S W1 hB1 (by
     rw[Lib.byteCells_length];omega) hk1.size
    go_fit cV
    rintro e W4 ⟨rfl,h4,b4⟩
    go_wp2
    go_roundg k
    case measure=>omega
    case rel=>
     refine⟨by omega,rfl,Or.inr ?_,hk1.below b4⟩;rw[show n-k=(n-(k+1))+1 by omega];simp only[k9];rw[if_pos (by omega),show n-1=k by omega,HG2.out];rw[Lib.strCells_eq,HSd.out,←Lib.byteCells_append]at h4;exact h4
open Go.Abs
def iU:List Value→Option (List Nat)
 | []=>some []
 | .int .u32 (.ofNat k)::r=>match iU r with
  | some l=>if k<W32 then some (k::l) else none
  | none=>none
 | _=>none
def rK(H:Heap):Value→Option (List Nat)
 | .slice none 0 0=>some []
 | .slice (some ⟨b,o,sp⟩) n cap=>match H.get b with
  | some xs=>if o+n≤xs.length∧n≤cap∧(sp=none∨sp=some 1) then iU ((xs.drop o).take n) else none
  | none=>none
 | _=>none
def ni:Nat→List Value→Bool
 | i,[]=>decide (i=20)
 | i,.int .u64 v::r=>decide (v=((10^i:Nat):Int))&&ni (i+1) r
 | _,_=>false
def sf(N:Nat):List UInt8:=if N=0 then[48] else k9 (fun j=>(dD 1000000000 N).getD j 0) (dD 1000000000 N).length (dD 1000000000 N).length
def g45:List Value→Heap→Option Value
 | [.agg cs],H=>match cs.toList with
  | [.bool false,m]=>match rK H m,H.get 0 with
   | some l,some t=>if ni 0 t&&(decide (l.length≤512)&&decide (dD W32 (dA W32 l)=l)) then some (bh (sf (dA W32 l))) else none
   | _,_=>none
  | _=>none
 | _,_=>none
theorem ng:∀{l:List Nat},(∀d ∈ l,d<W32)→iU (l.map dX)=some l
 | [],_=>rfl
 | k::l,h=>by
  have ih:=ng (l:=l) fun d hd=>h d (by simp[hd]);have e:iU ((k::l).map dX)=match iU (l.map dX)with
   | some l=>if k<W32 then some (k::l) else none
   | none=>none:=rfl
  rw[e,ih];simp[h k (by simp)]
theorem ou:∀{c:List Value} {l:List Nat},iU c=some l→c=l.map dX∧∀d ∈ l,d<W32
 | [],l,h=>by simp[iU]at h;subst h;simp
 | x::c,l,h=>by
  unfold iU at h;split at h<;>try (simp at h;done)
  ·rename_i e;cases e
  rename_i k r e;cases e;split at h<;>try (simp at h;done)
  rename_i l' hl';split at h<;>try (simp at h;done)
  rename_i hk;simp at h;subst h;obtain⟨rfl,h2⟩:=ou hl';exact⟨rfl,by simpa using⟨hk,h2⟩⟩
theorem z7{H:Heap}{v:Value}{l:List Nat}(h:SlW H v l)(hd:∀d ∈ l,d<W32):rK H v=some l:=by
 rcases h with ⟨rfl,rfl⟩|⟨b,o,sp,cap,xs,rfl,h2,h3,h4,h5,h6⟩
 ·rfl
 ·simp only[rK,h2]
  rw[if_pos ⟨h4,h6,h5⟩,h3];exact ng hd
theorem yL{H:Heap}{v:Value}{l:List Nat}(h:rK H v=some l):SlW H v l∧∀d ∈ l,d<W32:=by
 unfold rK at h;split at h
 ·simp at h;subst h;exact⟨.inl ⟨rfl,rfl⟩,by simp⟩
 ·rename_i b o sp n cap
  split at h<;>try (simp at h;done)
  rename_i xs hxs;split at h<;>try (simp at h;done)
  rename_i hc;obtain⟨e,h2⟩:=ou h;have hn:n=l.length:=by
   have:=congrArg List.length e;simp at this;omega
  subst hn;exact⟨.inr ⟨b,o,sp,cap,xs,rfl,hxs,e,hc.1,hc.2.2,hc.2.1⟩,h2⟩
 ·simp at h
theorem rV:∀{c:List Value} {i:Nat},ni i c=true→∀j,i+j<20→c[j]?=some (.int .u64 ((10^(i+j):Nat):Int))
 | [],i,h,j,hj=>by simp[ni]at h;omega
 | x::c,i,h,j,hj=>by
  unfold ni at h;split at h
  ·rename_i e;cases e
  ·rename_i i v r e
   cases e;simp only[Bool.and_eq_true,decide_eq_true_eq]at h;cases j with
   | zero=>simp[h.1]
   | succ j=>
    have:=rV h.2 j (by omega);simp only[List.getElem?_cons_succ];rw[this];congr 4;omega
  ·simp at h
def gQ:List Value:=(List.range 20).map fun i=>.int .u64 ((10^i:Nat):Int)
theorem vY:ni 0 gQ=true:=by decide
theorem DZ{H:Heap}{v:Value}{N:Nat}(h:IsN H v N)(hN:(aj N).length≤512)(ht:H.get 0=some gQ):g45 [v] H=some (bh (sf N)):=by
 obtain⟨m,rfl,hm⟩:=h;have e:dA W32 (aj N)=N:=eT (by decide) N;have e2:dD W32 N=aj N:=rfl;simp only[g45,z7 hm (iE N),ht,vY,e,e2];simp[hN]
theorem DB{args:List Value}{H:Heap}{r:Value}(h:g45 args H=some r):∃v N t,args=[v]∧IsN H v N∧(aj N).length≤512∧H.get 0=some t∧ni 0 t=true∧r=bh (sf N):=by
 unfold g45 at h;split at h<;>try (simp at h;done)
 rename_i _ cs;split at h<;>try (simp at h;done)
 rename_i m hm;split at h<;>try (simp at h;done)
 rename_i l t hl ht;split at h<;>try (simp at h;done)
 rename_i hc;simp only[Bool.and_eq_true,decide_eq_true_eq]at hc;simp at h;subst h;have e:aj (dA W32 l)=l:=hc.2.2;refine⟨_,dA W32 l,t,rfl,⟨m,?_,by rw[e];exact(yL hl).1⟩,by rw[e];exact hc.2.1,ht,hc.1,rfl⟩;rw[show cs=#[.bool false,m] from by rw[←Array.toArray_toList (xs:=cs),hm]]
def cpf(f:FuncId):Option CF:=if f=45 then some xw else cp f
theorem Af:Sub cp cpf:=fun f cf h=>by
 unfold cpf;split
 ·rename_i e;subst e;cases h
 ·exact h
theorem vO:iB Tryd.prog cpf:=fun f cf h=>by
 unfold cpf at h;split at h
 ·rename_i e;subst e;cases h;exact .inl ⟨_,Lp⟩
 ·exact l8 f cf h
theorem Du(base n:Nat):RunOK Tryd.prog base Tryd.prog.globals.size (run cpf n):=sound mixed vO base n
theorem KC{lo:Nat}{H:Heap}{R:Value→Heap→Prop}{a0:Value}(h:wpS cpf lo wH (aS xw R) [a0,undef,undef,undef,undef,undef,undef,undef,undef,undef,undef,undef,undef,undef,undef,undef,undef] H):Ev cpf lo 45 [a0] H R:=aI (cf:=xw) rfl rfl rfl h
theorem Gi{lo:Nat}{H:Heap}{v:Value}(hlo:lo≤H.length)(hv:IsN H v 0) :
  Ev cpf lo 45 [v] H (fun r H'=>r=bh [48]):=by
 have hv0:=hv;obtain⟨m,rfl,hm⟩:=hv;have hm0:=hm;have el:aj 0=[]:=bM _;obtain⟨ad,c0,rfl⟩:=hm.len;rw[el]at hm0 hv0 hm;refine KC ?_;unfold wH xw;simp only[kB,aA];rw[el];repeat' ((first|refine eX ?_|refine eW rfl ?_);(try simp only[aA]))
 refine pJ ?_;have hx0:=Ext.push H (some [.bool false,.slice ad ([]:List Nat).length c0]);refine aC ((tM (N:=0) (by simp;omega) ⟨_,rfl,by rw[el];exact hm0.mono hx0⟩ (by rw[el];simp)).sub Af) ?_;rintro r H1 ⟨hx1,rfl⟩;have g0:=hx1.get (aQ H _);(try simp only[aA]);refine ky (fun h=>?_) (fun h=>?_)
 ·simp at h
 clear h;(try simp only[aA]);refine ky (fun h=>?_) (fun h=>?_)
 ·clear h
  (try simp only[aA]);repeat' ((first|refine eX ?_|refine eW rfl ?_);(try simp only[aA]))
  refine tV ?_;rfl
 ·simp at h
theorem qV{φ:Map}{base base' G:Nat}{H:Heap}{w:World}(h:HRel φ base G H w)(hb:H.length≤base'):HRel φ base' G H w:=
 ⟨fun i c hc=>by
  obtain⟨p,e1,e2⟩:=h.cell i c hc;exact⟨p,e1,e2.mono (Map.le_refl φ) fun hi=>absurd (Heap.get_lt hc) (by omega)⟩,fun i j c d p q hc _ _ _ hi=>absurd (Heap.get_lt hc) (by omega),h.dom,h.glob,h.plc⟩
theorem sN{φ:Map}{base G lo:Nat}{H:Heap}{w w':World}(h:HRel φ base G H w)(k:Kp w w'):Eff φ base G lo H w φ H w':=
 ⟨Map.le_refl φ,h.ext k.size k.block,Heap.keeps_refl H,k.size,fun b hb _=>k.block b hb,fun i p hi hp=>by rw[hi]at hp;simp at hp,k.os,k.out⟩
theorem m9{φ φ':Map}{base G:Nat}{H H':Heap}{w w':World}(e:Eff φ base G H.length H w φ' H' w'):Kp w w':=
 ⟨e.size,fun b hb=>e.keep b hb fun i c p hi hc _=>absurd (Heap.get_lt hc) (by omega),e.os,e.out⟩
theorem Hk{φ:Map}{base:Nat}{H:Heap}{W:World}(hH:HRel φ base Tryd.prog.globals.size H W){k:Nat}(hk:k≤8) :
  Calls Tryd.prog 66 #[.string ⟨#[48]⟩,.int .i64 (k:Nat)] W fun e W'=>e=.returned (.string ⟨(List.replicate k (48:UInt8)).toArray⟩)∧Kp W W':=by
 refine(jn (cargs:=[.string ⟨#[48]⟩,.int .i64 (k:Nat)]) FJ (qV hH (Nat.le_refl _)) (LRel.cons (.string _) (LRel.cons (.int _ _) (LRel.nil φ))) (Le k hk)).mono ?_;rintro e W' ⟨v,cv,H',φ',⟨rfl,_⟩,rfl,he,hv⟩;cases hv;exact⟨rfl,m9 he⟩
theorem B3{φ:Map}{i o:Nat}{y:Value}(h:VRel φ (.pointer (some ⟨i,o,none⟩)) y):∃p,φ.c i=some p∧y=.pointer (some ⟨p.b,p.s+o,none⟩):=by
 cases h with
 | ptr i o p h=>exact⟨p,h,rfl⟩
theorem wB{φ:Map}{i z n:Nat}{y:Value}(h:VRel φ (.slice (some ⟨i,0,some z⟩) n n) y)(h0:0<n):∃p c',φ.c i=some p∧y=.slice (some ⟨p.b,p.s,none⟩) n c':=by
 cases h with
 | sliceIn i o l c z p o' c' e hc hl ho hn=>
  rcases ho with rfl|ho
  ·exact⟨p,c',e,by rw[Nat.add_zero]⟩
  ·omega
 | empty=>omega
theorem qw{φ:Map}{base G:Nat}{H:Heap}{w:World}(h:HRel φ base G H w){i:Nat}{c:List Value}{p:Abs.Place}(hc:H.get i=some c)(hp:φ.c i=some p){j:Nat}{v:Value}(hj:c[j]?=some v) :
  ∃u,w.cell? ⟨p.b,p.s+j,none⟩=some u∧VRel φ v u:=by
 obtain⟨arr,ty,fr,e1,e2,e3,e4⟩:=h.crel.cell hc hp;obtain⟨u,hu,hr⟩:=e4 j v hj;exact⟨u,by simp[World.cell?,e1,hu],hr⟩
theorem Av(a:Act)(hs:a.tmps.size=59)(hd:a.defers=[])(z:Nat→Value)(hz:∀i,z i=a.tmps.getD i undef) :
  a={ tmps:=#[z 0,z 1,z 2,z 3,z 4,z 5,z 6,z 7,z 8,z 9,z 10,z 11,z 12,z 13,z 14,z 15,z 16,z 17,z 18,z 19,z 20,z 21,z 22,z 23,z 24,z 25,z 26,z 27,z 28,z 29,z 30,z 31,z 32,z 33,z 34,z 35,z 36,z 37,z 38,z 39,z 40,z 41,z 42,z 43,z 44,z 45,z 46,z 47,z 48,z 49,z 50,z 51,z 52,z 53,z 54,z 55,z 56,z 57,z 58],defers:=[] }:=by
 have h1:a.tmps=((List.range 59).map z).toArray:=by
  apply Array.ext_getElem?;intro i;simp only[List.getElem?_toArray,List.getElem?_map];by_cases hi:i<59
  ·rw[List.getElem?_range hi,Array.getElem?_eq_getElem (by omega)]
   simp only[Option.map_some,hz,Array.getD_eq_getD_getElem?];rw[Array.getElem?_eq_getElem (by omega)];rfl
  ·rw[Array.getElem?_eq_none (by omega),List.getElem?_eq_none (by simp;omega)];rfl
 cases a with
 | mk tm df=>
  simp only at hd h1;rw[hd,h1];rfl
theorem vi:xf Tryd.prog 45 1 g45:=by
 refine⟨⟨Tryd.f45,Tryd.func45,rfl,by decide⟩,?_⟩;intro base args H r hlen hg φ w cargs hH hargs;obtain⟨v,N,t,rfl,hv,hN,ht,htab,rfl⟩:=DB hg;by_cases h0:N=0
 ·subst h0
  refine(jn Du (qV hH (Nat.le_refl _)) hargs (Gi (Nat.le_refl _) hv)).mono ?_;rintro e w' ⟨v',cv,H',φ',rfl,rfl,he,hv'⟩;cases hv';exact⟨_,φ,rfl,.string _,sN hH (m9 he)⟩
 ·have e59:Tryd.f45.ntmps=59:=by kernel_rfl
  refine tq (cp:=cp) mixed l8 (f:=45) (fn:=Tryd.f45) (c:=Tryd.f45.body.getD .skip) (tr:=FW) (n:=5) (s:=Ak 5 wH) Tryd.func45 rfl (by decide) (np:=1) rfl (by decide) (by decide) (by kernel_rfl) (by kernel_rfl) hargs rfl (qV hH (Nat.le_refl _)) (Nat.le_refl _) (K:=Fc N H) (IV (Nat.le_refl _) hv hN h0) ?_;rintro S' H' a' w' φ' T' ⟨hx,⟨b,h3,hb⟩,h1,u,hbox⟩ hS hT he;have q1:=hT.rel 1;have q3:=hT.rel 3;have s1:=hS.2 1 1 rfl;have s3:=hS.2 3 3 rfl;rw[h1]at s1;rw[h3]at s3;rw[←Option.some.inj s1]at q1;rw[←Option.some.inj s3]at q3;have hn0:0<(dD 1000000000 N).length:=by
   rw[cJ (by omega) h0];simp
  have hn1:=pP hN;obtain⟨p1,hp1,r1⟩:=B3 q1;obtain⟨p3,c3,hp3,r3⟩:=wB q3 hn0;obtain⟨x1,hx1,hv1⟩:=qw he.rel hbox hp1 (j:=0) rfl;cases hv1;have hfr:=Av a' (by rw[hT.size,e59]) hT.defers (fun i=>a'.tmps.getD i undef) (fun _=>rfl);rw[hfr];simp only[r1,r3];refine G2 rfl (fun i=>a'.tmps.getD i undef) w' p1.b (p1.s+0) p3.b p3.s (dD 1000000000 N).length c3 (fun j=>(dD 1000000000 N).getD j 0) _ hn0 hn1 hx1 ?_ ?_ ?_ ?_ ?_
  ·intro j hj
   obtain⟨x,hxc,hxv⟩:=qw he.rel hb hp3 (j:=j) (v:=dX ((dD 1000000000 N).getD j 0)) (by simp[hj]);cases hxv;exact hxc
  ·intro j
   rw[List.getD_eq_getElem?_getD];by_cases hj:j<(dD 1000000000 N).length
   ·rw[List.getElem?_eq_getElem hj]
    exact mA (by omega) N _ (List.getElem_mem hj)
   ·rw[List.getElem?_eq_none (by omega)];simp
  ·intro i hi
   obtain⟨m,hm⟩:=he.rel.glob 0 (by rw[show Tryd.prog.globals.size=4 by kernel_rfl];omega);obtain⟨x,hxc,hxv⟩:=qw he.rel (hx.get ht) (Map.of_some.2 ⟨hm,rfl⟩) (rV htab i (by omega));rw[Nat.zero_add]at hxc hxv;cases hxv;exact hxc
  ·intro W k hk kp
   exact Hk (he.rel.ext kp.size kp.block) hk
  ·intro W' kp
   refine⟨_,φ,rfl,?_,sN hH ((m9 he).trans kp)⟩;simp only[sf,if_neg h0];exact .string _
end Go.Proofs.YtgpolmomghejoaaDoor
