/- Lemmas. -/
import Derived.Test.YtgiojnobcjnibaaGreatDoorH9
import Derived.Test.YtgiojnobcjnibaaGreatDoorH11
import Derived.Shelf.Strings.Builder1
import Derived.Shelf.LaysM
import Derived.Shelf.Strconv.Itoa3
import Derived.Lib.AppendStr
import Derived.Laws.Externs
import Derived.BigCall
import Derived.BigGuard
set_option linter.all false
set_option maxHeartbeats 6400000
def Wt{P:Prop}(h:P:=by simp only[af₀]at h;omega):P:=h
def Xv{P:Prop}(h:P:=by simpa only[aR,ite_self]using f):P:=h
theorem XC{P:Prop}(h:P:=by unfold W32;omega):P:=h
def We{P:Prop}(h:P:=by trivial):P:=h
namespace Go.Proofs.YtgiojnobcjnibaaGreatDoor
section
open Go.Shelf Go.RowKit
def wQ:Go.Shelf.Ren:=⟨fun|169=>220|n=>n,fun|70=>281|9=>9|0=>0|72=>283|37=>34|127=>298|3=>3|5=>5|n=>n,fun|n=>n⟩
def Sk:Go.Proofs.Lays.n169 Tryz.prog wQ:={
 mixed:=Wf
 f169:=Tryz.func220.trans (congrArg some Wf)
 t0:=Tryz.underlying0
 a0:=Tryz.isAgg0
 z0:=Tryz.sizeOf0
 v0:=Tryz.zeroValue0
 t3:=Tryz.underlying3
 a3:=Tryz.isAgg3
 z3:=Tryz.sizeOf3
 v3:=Tryz.zeroValue3
 t9:=Tryz.underlying9
 a9:=Tryz.isAgg9
 z9:=Tryz.sizeOf9
 v9:=Tryz.zeroValue9
 t37:=Tryz.underlying34
 a37:=Tryz.isAgg34
 z37:=Tryz.sizeOf34
 v37:=Tryz.zeroValue34
 t70:=Tryz.underlying281
 a70:=Tryz.isAgg281
 z70:=Tryz.sizeOf281
 v70:=Tryz.zeroValue281
 t72:=Tryz.underlying283
 a72:=Tryz.isAgg283
 z72:=Tryz.sizeOf283
 v72:=Tryz.zeroValue283
 t127:=Tryz.underlying298
 a127:=Tryz.isAgg298
 z127:=Tryz.sizeOf298
 v127:=Tryz.zeroValue298 }
theorem GF:Builder.Extra Tryz.prog wQ:={
 sizeBuilder:=Wf
 liesBuilder:=Wf
 t5:=Tryz.underlying5
 a5:=Tryz.isAgg5
 z5:=Tryz.sizeOf5
 v5:=Tryz.zeroValue5
 infoByte:=Wf
 cellsByte:=Wf
 sizeByte:=Wf
 neB5:=by decide }
def Du(B b:Nat)(l:XU)(w:World)(h:Lib.IsBuilder 283 5 B b (Lib.byteCells l) w)(a:B<=w.heap.size) :
  Calls Tryz.prog 220 #[.pointer<|some ⟨b,0,none⟩] w λe w'=>e=.returned (.string ⟨l.toArray⟩)/\Below B w w':=Any.Builder_String_any Sk GF B b l w h a
def BS:Go.Shelf.Ren:=⟨fun|171=>217|243=>226|246=>233|283=>237|284=>238|285=>239|286=>240|129=>211|317=>242|318=>243|319=>244|320=>245|337=>246|338=>247|n=>n,fun|3=>3|9=>9|2=>2|4=>4|171=>304|0=>0|53=>247|37=>34|5=>5|173=>306|212=>310|51=>244|20=>20|213=>311|46=>56|232=>312|233=>313|n=>n,fun|17=>0|18=>2|19=>3|n=>n⟩
def QJ:Go.Proofs.LaysM.n171 Tryz.prog BS:={
 mixed:=Wf
 f129:=Tryz.func211.trans (congrArg some Wf)
 f171:=Tryz.func217.trans (congrArg some Wf)
 f243:=Tryz.func226.trans (congrArg some Wf)
 f246:=Tryz.func233.trans (congrArg some Wf)
 f283:=Tryz.func237.trans (congrArg some Wf)
 f284:=Tryz.func238.trans (congrArg some Wf)
 f285:=Tryz.func239.trans (congrArg some Wf)
 f286:=Tryz.func240.trans (congrArg some Wf)
 f317:=Tryz.func242.trans (congrArg some Wf)
 f318:=Tryz.func243.trans (congrArg some Wf)
 f319:=Tryz.func244.trans (congrArg some Wf)
 f320:=Tryz.func245.trans (congrArg some Wf)
 f337:=Tryz.func246.trans (congrArg some Wf)
 f338:=Tryz.func247.trans (congrArg some Wf)
 t0:=Tryz.underlying0
 a0:=Tryz.isAgg0
 z0:=Tryz.sizeOf0
 v0:=Tryz.zeroValue0
 t2:=Tryz.underlying2
 a2:=Tryz.isAgg2
 z2:=Tryz.sizeOf2
 v2:=Tryz.zeroValue2
 t3:=Tryz.underlying3
 a3:=Tryz.isAgg3
 z3:=Tryz.sizeOf3
 v3:=Tryz.zeroValue3
 t4:=Tryz.underlying4
 a4:=Tryz.isAgg4
 z4:=Tryz.sizeOf4
 v4:=Tryz.zeroValue4
 t5:=Tryz.underlying5
 a5:=Tryz.isAgg5
 z5:=Tryz.sizeOf5
 v5:=Tryz.zeroValue5
 t9:=Tryz.underlying9
 a9:=Tryz.isAgg9
 z9:=Tryz.sizeOf9
 v9:=Tryz.zeroValue9
 t20:=Tryz.underlying20
 a20:=Tryz.isAgg20
 z20:=Tryz.sizeOf20
 v20:=Tryz.zeroValue20
 t37:=Tryz.underlying34
 a37:=Tryz.isAgg34
 z37:=Tryz.sizeOf34
 v37:=Tryz.zeroValue34
 t46:=Tryz.underlying56
 a46:=Tryz.isAgg56
 z46:=Tryz.sizeOf56
 v46:=Tryz.zeroValue56
 t51:=Tryz.underlying244
 a51:=Tryz.isAgg244
 z51:=Tryz.sizeOf244
 v51:=Tryz.zeroValue244
 t53:=Tryz.underlying247
 a53:=Tryz.isAgg247
 z53:=Tryz.sizeOf247
 v53:=Tryz.zeroValue247
 t171:=Tryz.underlying304
 a171:=Tryz.isAgg304
 z171:=Tryz.sizeOf304
 v171:=Tryz.zeroValue304
 t173:=Tryz.underlying306
 a173:=Tryz.isAgg306
 z173:=Tryz.sizeOf306
 v173:=Tryz.zeroValue306
 t212:=Tryz.underlying310
 a212:=Tryz.isAgg310
 z212:=Tryz.sizeOf310
 v212:=Tryz.zeroValue310
 t213:=Tryz.underlying311
 a213:=Tryz.isAgg311
 z213:=Tryz.sizeOf311
 t232:=Tryz.underlying312
 a232:=Tryz.isAgg312
 z232:=Tryz.sizeOf312
 v232:=Tryz.zeroValue312
 t233:=Tryz.underlying313
 a233:=Tryz.isAgg313
 z233:=Tryz.sizeOf313
 v233:=Tryz.zeroValue313
 g17:=Wf
 g18:=Wf
 g19:=Wf
 i0:=Wf
 i2:=Wf
 i3:=Wf
 i4:=Wf
 i5:=Wf
 i9:=Wf
 i20:=Wf
 i37:=Wf
 i46:=Wf
 i51:=Wf
 i53:=Wf
 i171:=Wf
 i173:=Wf
 i212:=Wf
 i232:=Wf
 i233:=Wf
 m17:=Wf
 m18:=Wf
 m19:=by kernel_rfl }
set_option maxRecDepth 100000 in
theorem tF(b:Nat)(w:World)(c:w.cell? ⟨b,0,none⟩=some (.pointer<|some ⟨b,0,none⟩)) :
  Calls Tryz.prog 225 #[.pointer<|some ⟨b,0,none⟩] w λe w'=>e=.returned (.tuple #[])/\w'=w:=by
 have⟨j,a,_⟩:=Option.map_eq_some_iff.1 GF.sizeBuilder;go_wp2
 rw[Lib.run_neq_ptr_same w _ Tryz.underlying281 a]
 go_wp2
 go_end0
 simp_all
set_option maxRecDepth 100000 in
def re(b:Nat)(w:World)(g:w.cell? ⟨b,0,none⟩=some (.pointer none))(a:w.shape? b=some (283,2))(f:w.frozen? ⟨b,0,none⟩=false) :
  Calls Tryz.prog 225 #[.pointer<|some ⟨b,0,none⟩] w λe w'=>e=.returned (.tuple #[])/\w'=w.setCell ⟨b,0,none⟩ (.pointer<|some ⟨b,0,none⟩):=by
 have⟨j,d,c⟩:=Option.map_eq_some_iff.1 GF.sizeBuilder;have mixed:Tryz.prog.follows .mixedOrders=true:=Wf
 go_enter Tryz.func225,Tryz.ntmps225
 go_wp2
 rw[Lib.run_to_unsafe w ⟨b,0,none⟩ Tryz.underlying281 Tryz.underlying301 d (by rw[c];decide) a<|Nat.zero_lt_succ 1];go_wp2
 rw[run_callFunc_extern Tryz.func232 Wf Wf Wf (e:=Extern.AbiNoEscape.same) Wf];rw[Lib.run_noEscape];go_wp2
 rw[Lib.run_from_unsafe w ⟨b,0,none⟩ Tryz.underlying301 Tryz.underlying281 d a GF.liesBuilder];go_wp2
 go_end0
 simp_all
def EE(B b:Nat)(a:XV)(w:World)(h:Lib.IsBuilder 283 5 B b a w) :
  Calls Tryz.prog 225 #[.pointer<|some ⟨b,0,none⟩] w λe w'=>e=.returned (.tuple #[])/\(Lib.BuilderAt 283 5 B b (.pointer<|some ⟨b,0,none⟩) a w'/\Below B w w'):=by
 rcases h with h|h
 .refine(re b w h.cell0 h.shape h.frozen0).mono ?_
  rintro e w' ⟨rfl,rfl⟩;exact⟨rfl,h.used _,(Below.refl B w).setCell (p:=⟨b,0,none⟩) h.1 _⟩
 grind[tF,Below.refl,Calls.mono,Lib.BuilderAt.cell0]
set_option maxRecDepth 100000 in
def writeString(B b:Nat)(m:XV)(s:ByteArray)(w:World)(h:Lib.IsBuilder 283 5 B b m w)(D:m.length+s.size<=140737488355328)(I:B<=w.heap.size) :
  Calls Tryz.prog 218 #[.pointer<|some ⟨b,0,none⟩,.string s] w λe w'=>e=.returned (.tuple #[.int .i64 s.size,.nilIface])/\(Lib.BuilderAt 283 5 B b (.pointer<|some ⟨b,0,none⟩) (m++Lib.strCells s) w'/\Below B w w'):=by
 have⟨L,J,x,y,z⟩:=info_parts GF.infoByte;have mixed:Tryz.prog.follows .mixedOrders=true:=Wf
 have G:∀args w,(callFunc 225 args).run Tryz.prog w=.ok (.enter 225 args) w:=enters_of Tryz.func225 Wf rfl
 go_enter Tryz.func218,Tryz.ntmps218
 go_wp2_with (go_at_fn 225;refine(EE B b m _ h).mono ?_)
 rintro e n ⟨rfl,H,l⟩;have⟨C,v,f,i,t⟩:=H;have N:n.cell? ⟨b,0,none⟩=some (.pointer<|some ⟨b,0,none⟩):=by rw[Lib.cell_of_heap f];rfl
 have O:n.cell? ⟨b,1,none⟩=some v:=by rw[Lib.cell_of_heap f];rfl
 go_wp2_with (at_builtin;refine Lib.wpList_append_own_string _ rfl _ _ 34 9 rfl B 5 L Tryz.underlying34 Tryz.underlying9 J x y z _ _ _ rfl i s rfl ?c3 ?c4 ?c5 ?_)
 case c3=>grind[maxLen]
 case c4=>omega
 case c5=>grind
 intro M o c a _;have r:b<n.heap.size:=by
  grind
 have d:o.heap[b]?=some (.cells #[.pointer<|some ⟨b,0,none⟩,v] 283 (0,0)):=by
  grind[World.grownBy.block]
 have P:o.cell? ⟨b,0,none⟩=some (.pointer<|some ⟨b,0,none⟩):=by rw[Lib.cell_of_heap d];rfl
 have Q:o.cell? ⟨b,1,none⟩=some v:=by rw[Lib.cell_of_heap d];rfl
 have R:o.frozen? ⟨b,1,none⟩=false:=Lib.frozen_of_heap d 1;obtain⟨A,E,j,rfl⟩:∃A E j,M=.slice A E j:=by
  rcases c.2 with ⟨u,_⟩|⟨g,j,F,u,_⟩
  all_goals simp_all
 go_wp2
 go_ret2
 refine⟨rfl,?_,?_⟩
 all_goals grind[Lib.BuilderAt.put,Lib.strCells_length,Below.setCell,Below.grown,World.ownsRow.lt]
end
section
open Go.Shelf Go.RowKit Go.Sort Go.Lib
section
variable {P:Program}{ρ:Ren}
set_option maxRecDepth 100000 in
def BX(L:LaysM.n284 P ρ)(u:Nat)(m:1<=u)(h:u<18446744073709551616)(w:World)
  (j:∀i,i<20->w.cell? ⟨ρ.g 17,i,none⟩=some (.int .u64 ((10^i:Nat):Int))) :
  Calls P (ρ.f 284) #[.int .u64 u] w λe w'=>e=.returned (.int .i64<|Lib.nDigits u)/\w'=w:=by
 have l:=L.a53;have n:=L.z53;have k:=L.t212;have d:∀args w,(callFunc (ρ.f 129) args).run P w=.ok (.enter (ρ.f 129) args) w:=enters_of L.f129 Wf rfl;have f:∀args w,(callFunc (ρ.f 317) args).run P w=.ok (.enter (ρ.f 317) args) w:=enters_of L.f317 Wf rfl;have g:∀args w,(callFunc (ρ.f 318) args).run P w=.ok (.enter (ρ.f 318) args) w:=enters_of L.f318 Wf rfl;have⟨b,c⟩:=Lib.numDigits_eq u m h;have o:Lib.bitLen u<=64:=Lib.bitLen_le u 64 (Nat.le_refl _) h;have a:w.cell? ⟨(ρ.g 17),Lib.l10<|Lib.bitLen u,none⟩=some (.int .u64 ((10^Lib.l10 (Lib.bitLen u):Nat):Int)):=by
  grind
 generalize r:Lib.l10 (Lib.bitLen u)=q at b c a;generalize p:10^q=T at b a
 go_enter L.f284,Body.n284_ntmps ρ
 go_wp2_with (first
  | (refine(Any.bits_Len64 { L with } _ _ byO byO).mono ?_;rintro e w' ⟨rfl,rfl⟩)
  | (refine(Any.internal_strconv_log10Pow2 { L with } _ byO _).mono ?_;rintro e w' ⟨rfl,rfl⟩)
  | (refine(Any.internal_strconv_bool2_int { L with } _ _).mono ?_))
 all_goals go_ret
 all_goals (
  split at b<;>simp_all<;>omega)
set_option maxRecDepth 100000 in
def BH(L:LaysM.n246 P ρ)(u:Nat)(a:u<9223372036854775808)(w:World)
  (x:∀i,i<20->w.cell? ⟨ρ.g 17,i,none⟩=some (.int .u64 ((10^i:Nat):Int))) :
  Calls P (ρ.f 246) #[.int .i64 u,.int .i64 10] w λe w'=>e=.returned (.string ⟨(Lib.decDigits u).toArray⟩)/\∃k os,w'=grow (w.drewN k) os:=by
 have mixed:=L.mixed;have t2:=L.t2;have U:=L.a2;have z2:=L.z2;have v2:=L.v2;have t3:=L.t3;have V:=L.a3;have z3:=L.z3;have v3:=L.v3;have t9:=L.t9;have Z:=L.a9;have z9:=L.z9;have v9:=L.v9;have t4:=L.t4;have X:=L.a4;have z4:=L.z4;have v4:=L.v4;have y:=L.t171;have o:=L.a171;have C:=L.z171;have A:=L.v171;have t0:=L.t0;have T:=L.a0;have z0:=L.z0;have v0:=L.v0;have N:=L.t53;have F:=L.a53;have S:=L.z53;have Q:=L.v53;have M:=L.t37;have E:=L.a37;have R:=L.z37;have O:=L.v37;have t5:=L.t5;have Y:=L.a5;have z5:=L.z5;have v5:=L.v5;have z:=L.t173;have p:=L.a173;have D:=L.z173;have B:=L.v173;have q:∀args w,(callFunc (ρ.f 283) args).run P w=.ok (.enter (ρ.f 283) args) w:=enters_of L.f283 Wf rfl;have r:∀args w,(callFunc (ρ.f 284) args).run P w=.ok (.enter (ρ.f 284) args) w:=enters_of L.f284 Wf rfl;have s:∀args w,(callFunc (ρ.f 285) args).run P w=.ok (.enter (ρ.f 285) args) w:=enters_of L.f285 Wf rfl;by_cases K:u<100
 .
  go_enter L.f246,Body.n246_ntmps ρ
  go_wp2_with (go_at_fn (ρ.f 283);refine(Any.internal_strconv_small { L with } u K _).mono ?_;rintro e w' ⟨rfl,rfl⟩)
  go_ret
  refine⟨?_,0,#[],by rfl⟩;rfl
 .have g:1<=u:=byO
  have f:∀i,i<20->(w.alloc<|.cells Lib.zeros24<|ρ.t 171).cell? ⟨ρ.g 17,i,none⟩=some (.int .u64 ((10^i:Nat):Int)):=λi hi=>by
   grind[World.cell?,Below.heap_alloc]
  have a:u<18446744073709551616:=byO;have n:Lib.nDigits u<=20:=by have:=Lib.numDigits_eq u g a;grind
  have H:Lib.nDigits u<=23:=byO;have m:P.arrayLen (ρ.t 171)=24:=by simp[Program.arrayLen,L.t171]
  have v:∀W,(Instr.sliceAt (ρ.t 171) (.pointer<|some ⟨w.heap.size,0,none⟩) (some<|.int .i64 1) (some<|.int .i64<|1+(Lib.nDigits u:Int)) none).run P W=.ok (.slice (some ⟨w.heap.size,1,none⟩) (Lib.nDigits u) 23) W:=λW=>by
   rw[run_sliceAt_array_lh W (ρ.t 171) ⟨w.heap.size,0,none⟩ (by simp[Program.arrayLen,Program.elem,L.t171]) .i64 .i64 1 (1+(Lib.nDigits u:Int)) byO byO byO]
   go_simp
   omega
  have d:=Lib.holds_zero w (ρ.t 171) (Lib.nDigits u) byO;have c:=Any.internal_strconv_formatBase10 { L with } w.heap.size 1 23 u (Array.replicate (Lib.nDigits u) 0) (w.alloc<|.cells Lib.zeros24<|ρ.t 171) d (by grind[lt_pow_nDigits]) a Xu;rw[Array.size_replicate]at c;have l:=Lib.hid d
  go_enter L.f246,Body.n246_ntmps ρ
  go_wp2_with (first
   | (go_at_fn (ρ.f 284);refine(BX { L with } u g a _ f).mono ?_;rintro e w' ⟨rfl,rfl⟩))
  go_at_fn (ρ.f 285)
  apply c.mono;rintro e w' ⟨rfl,k,v',dk,rfl,t⟩;have I:(convert (ρ.t 37) (ρ.t 9)<|.slice (some ⟨w.heap.size,1,none⟩) (Lib.nDigits u) 23).run P ((putRow (λ(b:UInt8)=>Value.int .u8 (b.toNat:Int)) (w.alloc<|.cells Lib.zeros24<|ρ.t 171) w.heap.size 1 dk).drewN k)=.ok (.string ⟨(Lib.decDigits u).toArray⟩) ((putRow (λ(b:UInt8)=>Value.int .u8 (b.toNat:Int)) (w.alloc<|.cells Lib.zeros24<|ρ.t 171) w.heap.size 1 dk).drewN k):=by
   have h:=run_convert_bytes_back (P:=P) ((putRow (λ(b:UInt8)=>Value.int .u8 (b.toNat:Int)) (w.alloc<|.cells Lib.zeros24<|ρ.t 171) w.heap.size 1 dk).drewN k) (ρ.t 37) (ρ.t 9) (ρ.t 5) ⟨w.heap.size,1,none⟩ 23 (Lib.decDigits u) L.t37 L.t5 L.t9 (λj J=>by
    rw[Lib.row_is_numeral t j J,Lib.add_plain,World.cell?_drewN];exact cell?_putRow (λ(b:UInt8)=>Value.int .u8 (b.toNat:Int)) _ w.heap.size 1 _ dk l.out (by rw[t.size,Array.size_replicate]) j (by grind[decDigits_length,FmtInv.size]))
   grind[decDigits_length]
  go_wp2
  go_ret
  have⟨os,G⟩:=Lib.fin_pos w (.cells Lib.zeros24<|ρ.t 171) dk k;refine⟨?_,k,os,G⟩;rfl
set_option maxRecDepth 100000 in
def Pa(L:LaysM.n243 P ρ)(u:Nat)(d:u<9223372036854775808)(w:World)
  (a:∀i,i<20->w.cell? ⟨ρ.g 17,i,none⟩=some (.int .u64 ((10^i:Nat):Int))) :
  Calls P (ρ.f 243) #[.int .i64 u] w λe w'=>e=.returned (.string ⟨(Lib.decDigits u).toArray⟩)/\∃k os,w'=grow (w.drewN k) os:=by
 have c:=Lib.hid a;have b:∀args w,(callFunc (ρ.f 246) args).run P w=.ok (.enter (ρ.f 246) args) w:=enters_of L.f246 Wf rfl
 go_enter L.f243,Body.n243_ntmps ρ
 go_wp2_with (refine(BH { L with } u d _ c.out).mono ?_;rintro e w' ⟨rfl,k,os,rfl⟩)
 go_ret
 exact⟨rfl,k,os,rfl⟩
set_option maxRecDepth 100000 in
def Pb(L:LaysM.n171 P ρ)(u:Nat)(d:u<9223372036854775808)(w:World)
  (a:∀i,i<20->w.cell? ⟨ρ.g 17,i,none⟩=some (.int .u64 ((10^i:Nat):Int))) :
  Calls P (ρ.f 171) #[.int .i64 u] w λe w'=>e=.returned (.string ⟨(Lib.decDigits u).toArray⟩)/\∃k os,w'=grow (w.drewN k) os:=by
 have c:=Lib.hid a;have b:∀args w,(callFunc (ρ.f 243) args).run P w=.ok (.enter (ρ.f 243) args) w:=enters_of L.f243 Wf rfl
 go_enter L.f171,Body.n171_ntmps ρ
 go_wp2_with (refine(Pa { L with } u d _ c.out).mono ?_;rintro e w' ⟨rfl,k,os,rfl⟩)
 go_ret
 exact⟨rfl,k,os,rfl⟩
end
def Sb(u:Nat)(b:u<9223372036854775808)(w:World)(a:∀i,i<20->w.cell? ⟨0,i,none⟩=some (.int .u64 ((10^i:Nat):Int))) :
  Calls Tryz.prog 217 #[.int .i64 u] w λe w'=>e=.returned (.string ⟨(Lib.decDigits u).toArray⟩)/\∃k os,w'=grow (w.drewN k) os:=Pb QJ u b w a
def dZ(B N:Nat):XN:=if h:N=0\/B<2 then[] else N%B::dZ B (N/B)
 termination_by N
 decreasing_by exact Nat.div_lt_self byO byO
def dX(B:Nat):XN->Nat
 | []=>0
 | d::l=>d+B*dX B l
def gJ:XN->XN
 | []=>[]
 | d::l=>match gJ l with
  | []=>if d=0 then[] else[d]
  | r=>d::r
theorem cQ(B:Nat):dZ B 0=[]:=by grind[dZ]
theorem dF{B N:Nat}(a:2<=B)(h:N≠0):dZ B N=N%B::dZ B (N/B):=by grind[dZ]
def tJ{B:Nat}(b:2<=B){p:Nat->Prop}(a:p 0)(c:∀N,N≠0->p (N/B)->p N):∀N,p N:=by
 intro N
 induction N using Nat.strongRecOn with
 | _ N d=>
  grind[Nat.div_lt_self]
theorem gj{B:Nat}(a:2<=B):∀N,dX B (dZ B N)=N:=by
 refine tJ a (by rw[cQ];rfl) λN h b=>?_
 grind[dF,dX,Nat.mod_add_div]
def nP{B:Nat}(a:2<=B):∀N,∀d ∈ dZ B N,d<B:=by
 refine tJ a (by grind[cQ]) λN h b=>?_
 grind[dF,Nat.mod_lt]
theorem xD{B:Nat}(c:2<=B):∀{l:XN},dX B l=0->gJ l=[]
 | [],_=>rfl
 | d::l,h=>by
  simp[dX]at h;have a:d=0:=byO;have b:dX B l=0:=by
   grind[Nat.mul_eq_zero]
  simp[gJ,xD c b,a]
theorem mR{B:Nat}(a:2<=B):∀{l:XN},(∀d ∈ l,d<B)->dZ B (dX B l)=gJ l
 | [],_=>by grind[dX,cQ,gJ]
 | d::l,h=>by
  have c:=h d Wc;have g:=mR a (λx e=>h x Yf:∀d ∈ l,d<B);by_cases b:dX B (d::l)=0
  .grind[cQ,xD]
  .rw[dF a b]
   have f:dX B (d::l)%B=d:=by simp[dX,Nat.mod_eq_of_lt c]
   grind[dX,Nat.add_mul_div_left,Nat.div_eq_of_lt,gJ,gj]
theorem yd{B:Nat}:∀{l:XN},(∀d ∈ l,d<B)->dX B l<B^l.length
 | [],_=>by simp[dX]
 | d::l,h=>by
  have e:=h d Wc;have b:=yd (λx a=>h x (by simp[a]):∀d ∈ l,d<B);simp[dX,Nat.pow_succ];have c:B*dX B l+B<=B^l.length*B:=by
   rw[bb₀ (B^l.length) B,<-Nat.mul_succ];exact Nat.mul_le_mul_left B b
  omega
theorem nJ{B:Nat}:∀(l m:XN),dX B (l++m)=dX B l+B^l.length*dX B m
 | [],m=>by simp[dX]
 | d::l,m=>by
  simp[am₀,dX,nJ l m]
  grind
theorem cU{B:Nat}(a:2<=B):∀(k N:Nat),N<B^k->(dZ B N).length<=k
 | 0,N,h=>by
  grind[cQ]
 | k+1,N,h=>by
  by_cases b:N=0
  .grind[cQ]
  .rw[dF a b,ak₀]
   have:=cU a k (N/B) (by rw[Nat.div_lt_iff_lt_mul byO];grind);omega
theorem vg{B:Nat}(b:2<=B):∀N,(dZ B N).getLast?≠some 0:=by
 refine tJ b (by grind[cQ]) λN h d=>?_;rw[dF b h];by_cases c:N/B=0
 .have:N<B:=by
   rcases Nat.lt_or_ge N B with a|a
   .exact a
   .have:=Nat.div_pos a byO;omega
  grind[Nat.mod_eq_of_lt]
 grind[dF]
theorem Bw{l:XN}{n:Nat}(a:n<=l.length)(b:∀i,n<=i->i<l.length->l.getD i 0=0)(g:n=0\/l.getD (n-1) 0≠0):gJ l=l.take n:=by
 induction l generalizing n with
 | nil=>simp at a;subst a;rfl
 | cons d l c=>
  cases n with
  | zero=>
   have e:=c (n:=0) (Nat.zero_le _) (λi _ f=>by have:=b (i+1) (Nat.zero_le _) Wr;grind)<|.inl rfl;have h:=b 0 (Nat.le_refl _) Wc
   grind[gJ]
  | succ n=>
   simp at a;have e:=c (n:=n) a (λi f g=>by have:=b (i+1) byO Wr;grind) (by
    grind)
   grind[gJ,List.take_eq_nil_iff]
def nB(B by_:Nat):XN->Nat->XN
 | [],c=>[c]
 | a::l,c=>(a*by_+c)%B::nB B by_ l ((a*by_+c)/B)
theorem AS(B by_:Nat):∀(l:XN) (c:Nat),dX B (nB B by_ l c)=dX B l*by_+c
 | [],c=>by simp[nB,dX]
 | a::l,c=>by
  simp[nB,dX,AS B by_ l]
  grind[Nat.mod_add_div]
def wo{B a by_ c:Nat}(d:a<B)(e:by_<B)(f:c<B):(a*by_+c)/B<B:=by
 rw[Nat.div_lt_iff_lt_mul byO];have:a*by_<=(B-1)*(B-1):=Nat.mul_le_mul byO byO;obtain⟨b,rfl⟩:∃b,B=b+1:=⟨B-1,byO⟩
 grind
theorem yW{B by_:Nat}(e:by_<B):∀(l:XN) (c:Nat),(∀d ∈ l,d<B)->c<B->∀d ∈ nB B by_ l c,d<B
 | [],c,_,f=>by grind[nB]
 | a::l,c,h,f=>by
  intro d b;simp[nB,List.mem_cons]at b;rcases b with rfl|b
  .exact Nat.mod_lt _ byO
  .exact yW e l _ (λx g=>h x (by simp[g])) (wo (h a Wc) e f) d b
theorem AR(B by_:Nat):∀(l:XN) (c:Nat),(nB B by_ l c).length=l.length+1
 | [],c=>rfl
 | a::l,c=>by simp[nB,AR B by_ l]
def iN(B by_:Nat):XN->XN×Nat
 | []=>([],0)
 | a::l=>(((iN B by_ l).2*B+a)/by_::(iN B by_ l).1,((iN B by_ l).2*B+a)%by_)
def zB{B by_:Nat}(b:0<by_):∀l,dX B (iN B by_ l).1=dX B l/by_/\(iN B by_ l).2=dX B l%by_
 | []=>by simp[iN,dX]
 | a::l=>by
  have⟨c,d⟩:=zB (B:=B) b l;simp[iN,dX];have e:a+B*dX B l=(dX B l%by_*B+a)+by_*(B*(dX B l/by_)):=by
   grind[Nat.mod_add_div]
  simp_all[Nat.add_mul_div_left]
theorem tL(B by_:Nat):∀l,(iN B by_ l).1.length=l.length
 | []=>rfl
 | a::l=>by simp[iN,tL B by_ l]
def zA{B by_:Nat}(b:0<by_):∀l,(iN B by_ l).2<by_
 | []=>b
 | a::l=>Nat.mod_lt _ b
theorem xN{B by_:Nat}(c:0<by_):∀l,(∀d ∈ l,d<B)->∀d ∈ (iN B by_ l).1,d<B
 | [],_=>by simp[iN]
 | a::l,h=>by
  intro d b;simp[iN,List.mem_cons]at b;rcases b with rfl|b
  .have e:=zA (B:=B) c l
   have g:=h a Wc;rw[Nat.div_lt_iff_lt_mul c];have:((iN B by_ l).2+1)*B<=by_*B:=Nat.mul_le_mul_right B e
   grind
  .exact xN c l (λx f=>h x (by simp[f])) d b
abbrev W32:Nat:=4294967296
abbrev ba(N:Nat):XN:=dZ W32 N
theorem mi(N:Nat):∀d ∈ ba N,d<W32:=nP Wd N
theorem zg{N by_ c:Nat}(a:by_<W32)(b:c<W32):gJ (nB W32 by_ (ba N) c)=ba (N*by_+c):=by rw[<-mR Wd<|yW a _ _ (mi N) b,AS,gj Wd]
def Ea{N by_:Nat}(c:0<by_):gJ (iN W32 by_<|ba N).1=ba (N/by_)/\(iN W32 by_<|ba N).2=N%by_:=by have⟨a,b⟩:=zB (B:=W32) c<|ba N;rw[gj Wd]at a b;exact⟨by rw[<-mR Wd<|xN c _<|mi N,a],b⟩
open Go.Abs
set_option maxRecDepth 20000
abbrev ed(n:Nat):Value:=.int .u32 (n:Nat)
abbrev SlW:=Sl ed
def RC{d:Type}{enc:d->Value}{H:Heap}{b o:Nat}{sp:Option Nat}{xs:XV}{l:List d}{n a:Nat}(e:H.get b=some xs)(i:(xs.drop o).take l.length=l.map enc)(g:o+l.length<=xs.length)(c:sp=none\/sp=some 1)(h:n<=l.length)(f:n<=a) :
  Sl enc H (.slice (some ⟨b,o,sp⟩) n a)<|l.take n:=by
 refine .inr ⟨b,o,sp,a,xs,Wx,e,?_,Xu,c,Wx⟩
 grind[List.map_take]
namespace XCSb
def xtr:=zzi @Int.cast_ofNat_Int @ite_self.{1}
end XCSb
open XCSb
def Wg{lo:Nat}{H:Heap}{v:Value}{l:XN}(s:SlW H v l)(G:l.length<=1000000000)(I:∀d ∈ l,d<W32):Ev cp lo 224 [v] H λr H'=>H'=H/\SlW H r (gJ l)/\∀a n c,v=.slice a n c->r=.slice a (gJ l).length c:=by
 rcases s with ⟨rfl,rfl⟩|⟨b,o,sp,g,xs,rfl,C,y,w,p,x⟩
 .apply stG rfl rfl;unfold GC;simp only[kB,aC]
  refine aA ?_;apply aj (λm S H'=>H=H'/\S=[.slice none 0 0,.slice none 0 0,.int .i64 0]) 0 ⟨rfl,rfl⟩;rintro m S H' ⟨rfl,rfl⟩;(try simp only[aC]);refine aK ?_ ?_<;>intro h
  .simp at h
  clear h;refine aA ?_;refine aL ?_;exact⟨rfl,.inl ⟨rfl,rfl⟩,λa n c e=>by cases e;rfl⟩
 have k:∀i,i<l.length->xs[o+i]?=some (ed<|l.getD i 0):=by
  intro i q;have e:((xs.drop o).take l.length)[i]?=(l.map ed)[i]?:=by rw[y]
  rw[List.getElem?_take,if_pos q,List.getElem?_drop]at e;rw[e,az₀,bc₀ q,au₀,bc₀ q];rfl
 apply stG rfl rfl;unfold GC;simp only[kB,aC];refine aA ?_;apply aj (λm S H'=>H=H'/\m<=l.length/\(∀i,m<=i->i<l.length->l.getD i 0=0)/\∃A,S=[.slice (some ⟨b,o,sp⟩) l.length g,A,.int .i64 m]) l.length
 .exact⟨rfl,Nat.le_refl _,λi q h=>byO,_,rfl⟩
 rintro m S H' ⟨rfl,t,z,A,rfl⟩;have f:(m=0\/l.getD (m-1) 0≠0)->SlW H (.slice (some ⟨b,o,sp⟩) m g) (gJ l)/\∀a n c,Value.slice (some ⟨b,o,sp⟩) l.length g=.slice a n c->Value.slice (some ⟨b,o,sp⟩) m g=.slice a (gJ l).length c:=λh=>by
  rw[Bw t z h];exact⟨RC C y w p t byO,λa n c e=>by cases e;rw[List.length_take,Nat.min_eq_left t]⟩
 by_cases u:m=0
 .subst u
  have f:=f<|.inl rfl;(try simp only[aC]);refine aK ?_ ?_<;>intro h
  .simp at h
  clear h;(try simp only[aC]);rcases p with rfl|rfl
  .refine aA ?_
   refine aL ?_;exact⟨rfl,Xv⟩
  .refine aA ?_
   refine aL ?_;exact⟨rfl,Xv⟩
 have j:=k (m-1) byO;have F:((m:Int)-1)=((m-1:Nat):Int):=byO;have D:(0:Int)<m:=byO;(try simp only[aC]);refine aK ?_ ?_<;>intro h
 .have B:l.getD (m-1) 0=0:=Wt
  clear h k j f;refine aA ?_;simp only[bJ];refine⟨m-1,byO,We,byO,λi q s=>?_,_,rfl⟩;by_cases e:i=m-1
  .rw[e];exact B
  .exact z i byO s
 .have f:=f<|.inr λe=>by rw[e]at h;simp at h
  clear h k j;(try simp only[aC]);rcases p with rfl|rfl
  .refine aA ?_
   refine aL ?_;exact⟨rfl,Xv⟩
  .refine aA ?_
   refine aL ?_;exact⟨rfl,Xv⟩
theorem pn(p:Nat):IntKind.u32.wrap (p:Nat)=((p%W32:Nat):Int):=by rfl
def nu{p:Nat}(h:p<4294967296):IntKind.u32.wrap (p:Nat)=((p:Nat):Int):=by rw[pn,Nat.mod_eq_of_lt h]
theorem PT(p:Nat):Int.fdiv (p:Nat) (2^min 32 IntKind.u64.bits)=((p/W32:Nat):Int):=by
 have:(2:Int)^min 32 IntKind.u64.bits=((W32:Nat):Int):=Wd
 grind
def split{lo:Nat}{H:Heap}{p:Nat}(a:lo<=H.length)(b:p<18446744073709551616):Ev cp lo 223 [.int .u64 p] H λr H'=>Ext H H'/\r=.agg #[ed<|p%W32,ed<|p/W32]:=by apply stG rfl rfl;unfold Nl;simp[kB,aC];refine aA ?_;refine aL ?_;rw[PT,pn,pn,Nat.mod_eq_of_lt (show p/W32<W32 by unfold W32;omega)];exact⟨Ext.push _ _,rfl⟩
theorem Jq(n:Nat):bK [.int .u32 0] n=(List.replicate n 0).map ed:=by
 induction n with
 | zero=>rfl
 | succ n a=>rw[List.replicate_succ,ag₀,<-a];rfl
theorem AV{d z:XN}{x y:Nat}:((d++x::z).map ed).set d.length (ed y)=((d++[y])++z).map ed:=Wx
def scale{lo:Nat}{H:Heap}{v:Value}{l:XN}{by_ f:Nat}(U:lo<=H.length)(O:SlW H v l)(hb:l.length<=1000000)(N:∀d ∈ l,d<W32)(j:by_<W32)(P:f<W32) :
  Ev cp lo 212 [v,ed by_,ed f] H λr H'=>Ext H H'/\SlW H' r (gJ<|nB W32 by_ l f):=by
 have G:=O;obtain⟨K,L,rfl⟩:=O.len;have en:((l.length:Int)+1).toNat=l.length+1:=byO;apply stG rfl rfl;unfold Nh;simp[kB,aC];refine aA ?_;apply aP (λi S H'=>Ext H H'/\∃(d:XN) (c:Nat),i<=d.length/\d.length<=i/\H'.get H.length=some ((d++List.replicate (l.length+1-i) 0).map ed)/\c<W32/\(d++nB W32 by_ (l.drop i) c=nB W32 by_ l f\/False)/\∃(z:Nat->Value),S=[.slice K l.length L,ed by_,z 2,z 3,.slice (some ⟨H.length,0,none⟩) (l.length+1)<|l.length+1,ed c,z 6,z 7,z 8,z 9,.slice K l.length L,.int .i64 l.length,.int .i64 i,z 13,z 14,z 15,z 16,z 17]) l.length
 .exact⟨Ext.push _ _,[],f,Wc,Wc,by rw[aX,Jq];rfl,P,.inl rfl,aH rfl⟩
 .rintro i S H' u ⟨w,d,c,-,-,-,-,-,z,rfl⟩
  exact⟨_,aM,Wc⟩
 .rintro i S H' u ⟨w,d,c,D,F,t,C,h,z,rfl⟩
  obtain⟨b,o,sp,Q,xs,e,g,x,Z⟩:=G.els 0 byO;cases e;have g:=w.get g;have m:=x i u;clear x;generalize M:l.getD i 0=a at m;have q:a<W32:=by
   rw[<-M,au₀,bc₀ u];exact N _<|List.getElem_mem u
  have hm:a*by_<=4294967295*4294967295:=Nat.mul_le_mul (by unfold W32 at q;omega) (by unfold W32 at j;omega);have V:(a:Int)*by_=((a*by_:Nat):Int):=Wc
  unfold W32 at C q j;have n:=w.1;have I:=Heap.get_lt t;refine aA ?_;refine ay ?_;have T:((a*by_:Nat):Int)+(c:Nat)=((a*by_+c:Nat):Int):=byO;rw[T];apply aB (split byO byO);rintro v H1 ⟨s,rfl⟩;have y:=s.get t;have A:=Heap.get_lt y;have J:=s.1;generalize k:(d++List.replicate (l.length+1-i) 0).map ed=X at y;have B:i<X.length:=by rw[<-k];simp;omega
  clear m;refine aA ?_;refine rp aM aM (.inr ?_) ?_
  .simp[aT];omega
  refine aA ?_;have p:X.set i (ed<|(a*by_+c)%W32)=((d++[(a*by_+c)%W32])++List.replicate (l.length+1-(i+1)) 0).map ed:=by
   rw[<-k,show l.length+1-i=(l.length+1-(i+1))+1 by omega,List.replicate_succ,show i=d.length by omega,AV]
  refine⟨((w.trans s).set<|Nat.le_refl _).push' _,d++[(a*by_+c)%W32],(a*by_+c)/W32,Wr,Wr,?_,?_,?_,aH ncM⟩
  .rw[kG (by simpa using A),aE A,p]
  .exact wo q j C
  .left
   have h:=h.resolve_right id;rw[List.drop_eq_getElem_cons u,nB]at h;have R:l[i]=a:=by rw[<-M,au₀,bc₀ u];rfl
   rw[R]at h;rw[ba₀];exact h
 .rintro S H' ⟨w,d,c,D,F,t,C,h,z,rfl⟩
  have h:=h.resolve_right id;rw[List.drop_length,nB]at h;have k:(d++List.replicate (l.length+1-l.length) 0).map ed=(d++0::[]).map ed:=by rw[show l.length+1-l.length=1 by omega];rfl
  rw[k]at t;clear k;generalize k:(d++0::[]).map ed=X at t;have B:l.length<X.length:=by rw[<-k];simp;omega
  have I:=Heap.get_lt t;refine aA ?_;have p:X.set l.length (ed c)=(nB W32 by_ l f).map ed:=by
   rw[<-k,show l.length=d.length by omega,AV,List.append_nil,h]
  rw[p];refine ay ?_;have n:=AR W32 by_ l f;apply aB (Wg (l:=nB W32 by_ l f) (Sl.whole (aE byO) n) byO<|yW j l f N P);rintro v H2 ⟨rfl,W,Y⟩;refine aA ?_;refine aL ?_;exact⟨w.set<|Nat.le_refl _,W⟩
def Q7{r a:Nat}(f:r<W32)(e:a<W32):IntKind.u64.wrap ((BitVec.ofInt IntKind.u64.bits (IntKind.u64.wrap<|(r:Int)*2^min 32 IntKind.u64.bits) ||| BitVec.ofInt IntKind.u64.bits (a:Int)).toNat)=((r*W32+a:Nat):Int):=by
 have d:IntKind.u64.wrap ((r:Int)*2^min 32 IntKind.u64.bits)=(r:Int)*2^min 32 64:=by
  have:(2:Int)^min 32 64=4294967296:=Wd
  show IntKind.u64.wrap ((r:Int)*2^min 32 64)=_;rw[this];unfold W32 at *;simp[IntKind.wrap,IntKind.bits,IntKind.signed];omega
 rw[d];show IntKind.u64.wrap ((BitVec.ofInt 64 ((r:Int)*2^min 32 64) ||| BitVec.ofInt 64 (a:Int)).toNat)=((r*W32+a:Nat):Int);have c:(r:Int)*2^min 32 64=((r*W32:Nat):Int):=by
  have:(2:Int)^min 32 64=((W32:Nat):Int):=Wd
  rw[this];simp
 rw[c,BitVec.ofInt_natCast,BitVec.ofInt_natCast,BitVec.toNat_or,BitVec.toNat_ofNat,BitVec.toNat_ofNat];unfold W32 at *;rw[Nat.mod_eq_of_lt byO,Nat.mod_eq_of_lt byO];have h:r*4294967296 ||| a=r*4294967296+a:=by
  have:=Nat.two_pow_add_eq_or_of_lt (i:=32) (b:=a) byO r;rw[bb₀];exact this.symm
 rw[h];simp[IntKind.wrap,IntKind.bits,IntKind.signed];omega
def Ur{lo:Nat}{H:Heap}{v:Value}{l:XN}{by_:Nat}(g0:lo<=H.length)(N:SlW H v l)(hb:l.length<=1000000)(M:∀d ∈ l,d<W32)(y:by_<W32)(u:0<by_) :
  Ev cp lo 215 [v,ed by_] H λr H'=>Ext H H'/\∃q,r=.tuple #[q,ed (iN W32 by_ l).2]/\SlW H' q (gJ (iN W32 by_ l).1)/\q=.slice (some ⟨H.length,0,none⟩) (gJ (iN W32 by_ l).1).length l.length:=by
 have C:=N;obtain⟨O,P,rfl⟩:=N.len;have en:((l.length:Int)).toNat=l.length:=byO;apply stG rfl rfl;unfold Nk;simp only[kB,aC];refine aA ?_;apply aP (λi S H'=>Ext H H'/\H'.get H.length=some ((List.replicate (l.length-i) 0++(iN W32 by_<|l.drop<|l.length-i).1).map ed)/\∃(z:Nat->Value),S=[.slice O l.length P,ed by_,.slice (some ⟨H.length,0,none⟩) l.length l.length,ed (iN W32 by_<|l.drop<|l.length-i).2,.int .i64<|(l.length:Int)-1-(i:Nat),z 5,z 6,z 7,z 8]) l.length
 .refine⟨Ext.push _ _,by rw[aX,Jq];simp[iN],aH ?_⟩
  simp[iN]
 .rintro i S H' hi ⟨t,-,z,rfl⟩
  exact⟨_,aM,Wr⟩
 .rintro i S H' hi ⟨t,f,z,rfl⟩
  obtain⟨b,o,sp,U,xs,e,g,k,j0⟩:=C.els 0 byO;cases e;have g:=t.get g;obtain⟨j,hj,b0⟩:∃j,j+1+i<=l.length/\l.length<=j+1+i:=⟨l.length-1-i,byO,byO⟩;have c:j<l.length:=byO;have m:=k j c;clear k;generalize L:l.getD j 0=a at m;have h:a<W32:=by
   rw[<-L,au₀,bc₀ c];exact M _<|List.getElem_mem c
  have A:l.drop (l.length-(i+1))=a::l.drop (l.length-i):=by
   rw[show l.length-(i+1)=j by omega,show l.length-i=j+1 by omega,List.drop_eq_getElem_cons c];rw[<-L,au₀,bc₀ c];rfl
  have I:=zA (B:=W32) u<|l.drop<|l.length-i;have G:=tL W32 by_<|l.drop<|l.length-i;rw[List.length_drop]at G;rw[A];simp only[iN];generalize (iN W32 by_<|l.drop<|l.length-i).1=q at *;generalize (iN W32 by_<|l.drop<|l.length-i).2=r at *;have s:r<W32:=byO;have p:(r*W32+a)/by_<W32:=by
   rw[Nat.div_lt_iff_lt_mul u];have:(r+1)*W32<=by_*W32:=Nat.mul_le_mul_right W32 I;rw[Nat.add_mul,Nat.one_mul]at this;rw[bb₀ W32 by_];omega
  have F:(r*W32+a)%by_<by_:=Nat.mod_lt _ u;have eo:=Q7 s h;generalize hT:r*W32+a=T at *;have ej:(l.length:Int)-1-(i:Nat)=(j:Nat):=byO;have D:=Heap.get_lt f;generalize K:(List.replicate (l.length-i) 0++q).map ed=X at f;have a0:j<X.length:=by rw[<-K];simp;omega
  unfold W32 at h y s p;have et:(T:Int).tdiv (by_:Int)=((T/by_:Nat):Int):=Int.ofNat_tdiv T by_;have em:(T:Int).tmod (by_:Int)=((T%by_:Nat):Int):=Int.ofNat_tmod T by_;generalize T/by_=Q at *;generalize T%by_=R at *;have w:R<4294967296:=byO;clear F;have Y:=nu p;have Z:=nu w;refine aA ?_;have x:X.set j (ed Q)=(List.replicate (l.length-(i+1)) 0++Q::q).map ed:=by
   rw[<-K,show l.length-i=j+1 by omega,show l.length-(i+1)=j by omega,List.replicate_succ',<-List.map_set,ba₀,List.set_append_right _ _ Wc];simp
  have W:(j:Int)-1=(l.length:Int)-1-((i+1:Nat):Int):=byO;exact⟨t.set<|Nat.le_refl _,by rw[aE D,x],aH (by rw[W];rfl)⟩
 .rintro S H' ⟨t,f,z,rfl⟩
  have V:l.length-l.length=0:=byO;rw[V]at f ⊢;simp only[List.drop_zero,List.replicate_zero,List.nil_append]at f ⊢;refine bV ?_;have n:=tL W32 by_ l;apply aB (Wg (l:=(iN W32 by_ l).1) (Sl.whole f n) byO<|xN u l M);rintro v H2 ⟨rfl,hv,J⟩;refine aA ?_;refine aL ?_;exact⟨t,_,rfl,hv,J _ _ _ rfl⟩
end
open Go.Abs
variable{H:Heap}{lo:Nat}{v:Value}
def sP(a b:Value):(Value.agg #[a,b]).cells=#[a,b]:=rfl
abbrev eQ(n:Nat):Value:=.int .i64 n
abbrev SlN:=Sl eQ
def IsN(H:Heap)(v:Value)(N:Nat):Prop:=∃m,v=.agg #[.bool false,m]/\SlW H m (ba N)
theorem IsN.mono{H H':Heap}{v:Value}{N:Nat}(h:IsN H v N)(e:Ext H H'):IsN H' v N:=by obtain⟨m,rfl,h⟩:=h;exact⟨m,rfl,h.mono e⟩
namespace XCSc
def xtr:=zzi @Int.cast_ofNat_Int<|zzi @ite_self.{1} @sP
end XCSc
open XCSc
def IF{N:Nat}(d:lo<=H.length)(b:SlW H v<|ba N):Ev cp lo 213 [.bool false,v] H λr H'=>Ext H H'/\IsN H' r N:=by
 have a:=b;obtain⟨e,f,rfl⟩:=b.len;apply stG rfl rfl;unfold Ni;simp[kB,aC];refine aA ?_;refine aK ?_ ?_<;>intro h
 .have c:ba N=[]:=by
   have:(ba N).length=0:=by simp at h;simp[h]
   exact List.length_eq_zero_iff.1 this
  refine aA ?_;refine aL ?_;exact⟨Ext.push _ _,_,rfl,.inl ⟨rfl,c⟩⟩
 .clear h
  refine aA ?_;refine aL ?_;exact⟨Ext.push _ _,_,rfl,a.mono<|Ext.push _ _⟩
def Jb{N:Nat}(q:lo<=H.length)(p:IsN H v N)(A:(ba N).length<=512):Ev cp lo 214 [v] H λr H'=>Ext H H'/\r=.bool true:=by
 obtain⟨m,rfl,k⟩:=p;have i:=k;obtain⟨w,y,rfl⟩:=k.len;apply stG rfl rfl;unfold Nj;simp[kB,aC];refine aA ?_;refine aK ?_ ?_<;>intro h
 .clear h
  refine aA ?_;refine aL ?_;exact⟨Ext.push _ _,rfl⟩
 .have f:0<(ba N).length:=by simp at h;have:=List.length_pos_iff.2 h;omega
  have⟨b,o,sp,l,xs,e,g,c,u⟩:=i.els 0 f;cases e;have j:=c ((ba N).length-1) byO;clear c;have d:(ba N).length-1<(ba N).length:=byO;have a:=vg (B:=W32) Wd N;rw[List.getLast?_eq_getElem?,bc₀ d]at a;have s:(ba N).getD ((ba N).length-1) 0≠0:=by
   rw[au₀,bc₀ d];intro e;apply a;simp[aq₀]at e;rw[e]
  generalize (ba N).getD ((ba N).length-1) 0=x at *;have z:((ba N).length:Int)-1=(((ba N).length-1:Nat):Int):=byO;have t:((ba N).length:Int)<=512:=byO;have n:=Heap.get_lt g;refine aA ?_;refine aL ?_;refine⟨Ext.push _ _,?_⟩;simp[aR];omega
theorem gI{d:Nat}{c:XV}(h:H.get d=some c):H.set d (some c)=H:=by
 have a:=Heap.get_lt h;apply List.ext_getElem Wc;intro i b f;rw[List.getElem_set];split
 next e=>
  subst e;rw[dv,bc₀ a]at h;revert h;cases H[d]with
  | none=>intro h;grind
  | some x=>intro h;simp at h;rw[h]
 .rfl
def wK{N:Nat}:ba N=[]↔N=0:=by grind[dZ]
def wL{N:Nat}(h:N≠0):0<(ba N).length:=List.length_pos_iff.2 λe=>h<|wK.1 e
def wJ{k N:Nat}(h:N<W32^k):(ba N).length<=k:=cU Wd k N h
def Lh{lo sz A:Nat}{b:Nat}{c:XV}(h:Own lo sz H v b c)(k:A<=b){n:Nat}(l:A<=n)(f:lo<=n):∃a,Own lo sz H v a c/\A<=a/\(a<H.length\/n<=a):=by
 obtain⟨i,⟨d,e⟩|⟨m,d,e,j,g⟩⟩:=h
 .exact⟨n,⟨f,.inl ⟨d,e⟩⟩,l,.inr<|Nat.le_refl _⟩
 .exact⟨b,⟨i,.inr ⟨m,d,e,j,g⟩⟩,k,.inl<|Heap.get_lt g⟩
def JZ{g:Type}{enc:g->Value}{H H':Heap}{l:List g}{b:Nat}(h:Sl enc H v l)(k:Keep b H H')(e:∀a o sp n c,v=.slice (some ⟨a,o,sp⟩) n c->a≠b):Sl enc H' v l:=by
 rcases h with h|⟨a,o,sp,d,xs,f,i,j⟩
 .exact .inl h
 .exact .inr ⟨a,o,sp,d,xs,f,k.get i<|e _ _ _ _ _ f,j⟩
def vh{B:Nat}(a:2<=B):∀(k:Nat) {M N:Nat},M<=N->N<B^k->(dZ B M).length<=(dZ B N).length
 | 0,M,N,h,c=>by
  simp_all
 | k+1,M,N,h,c=>by
  by_cases b:M=0
  .grind[cQ]
  .rw[dF a b,dF a (show N≠0 by omega)]
   have:=vh a k (Nat.div_le_div_right h:M/B<=N/B) (by rw[Nat.div_lt_iff_lt_mul byO];grind)
   simp_all
def BP{M N:Nat}(h:M<=N):(ba M).length<=(ba N).length:=
 vh Wd N h<|Nat.lt_pow_self Wd
def aa(B:Nat)(l:XN):Nat:=l.foldl (λn d=>n*B+d) 0
theorem wU(B:Nat)(l:XN)(d:Nat):aa B (l++[d])=aa B l*B+d:=by simp[aa]
theorem jb{B:Nat}{l:XN}{i:Nat}(h:i<l.length):aa B (l.take<|i+1)=aa B (l.take i)*B+l.getD i 0:=by rw[List.take_add_one,bc₀ h,Option.toList_some,wU,au₀,bc₀ h];rfl
def iZ{B:Nat}{l:XN}(h:∀d ∈ l,d<B):∀i,i<=l.length->aa B (l.take i)<B^i:=by
 intro i
 induction i with
 | zero=>grind[aa]
 | succ i b=>
  intro e;have a:=b byO;rw[jb byO,Nat.pow_succ];have c:l.getD i 0<B:=by
   grind[List.getElem_mem]
  have:(aa B (l.take i)+1)*B<=B^i*B:=Nat.mul_le_mul_right B a
  grind
def xP{l:XN}(h:SlN H v l){i:Nat}(d:i<l.length):∃b o sp a xs,v=.slice (some ⟨b,o,sp⟩) l.length a/\H.get b=some xs/\xs[o+i]?=some (eQ<|l.getD i 0):=by have⟨b,o,sp,a,xs,e,g,c,_⟩:=h.els 0 byO;exact⟨b,o,sp,a,xs,e,g,c i d⟩
def D3{s:Type}{enc:s->Value}{l:List s}{d:Nat}{c c':XV}(h:Sl enc H v l)(r:H.get d=some c)(f:c'.length=c.length)(k:∀x ∈ c,∀a,x≠enc a):Sl enc (H.set d<|some c') v l:=by
 rcases h with h|⟨g,o,sp,b,xs,m,j,n,p,q⟩
 .exact .inl h
 .by_cases e:g=d
  .subst e
   rw[r]at j;cases j;cases l with
   | nil=>exact .inr ⟨g,o,sp,b,c',m,aE<|Heap.get_lt r,Wc,by rw[f];exact p,q⟩
   | cons a l=>
    have i:((c.drop o).take (a::l).length)[0]?=((a::l).map enc)[0]?:=by rw[n]
    rw[List.getElem?_take,if_pos Wc,List.getElem?_drop]at i;simp at i;exact absurd rfl<|k _ (List.mem_of_getElem? i) a
  .exact .inr ⟨g,o,sp,b,xs,m,(aQ λt=>e t.symm).trans j,n,p,q⟩
def PW{l:XN}{B:Nat}(Y:lo<=H.length)(P:SlN H v l)(hb:l.length<=500)(hB:2<=B/\B<=65536)(L:∀d ∈ l,d<B) :
  Ev cp lo 207 [v,.int .i64 B] H λr H'=>Ext H H'/\∃w,r=.tuple #[w,.int .i64 0]/\IsN H' w (aa B l):=by
 have A:=P;obtain⟨F,G,rfl⟩:=P.len;have U:=nu (p:=B) byO;apply stG rfl rfl;unfold Nf;simp only[kB,aC];refine aA ?_;refine aK ?_ ?_<;>intro h
 .simp only[ar₀,af₀]at h;omega
 clear h;refine aA ?_;refine aK ?_ ?_<;>intro h
 .simp only[af₀]at h;omega
 clear h;refine aA ?_;apply aP (λi S H'=>H++[some [.bool false,.slice none 0 0]]=H'/\∃(z:Nat->Value),S=[.slice F l.length G,.int .i64 B,.pointer<|some ⟨H.length,0,none⟩,.int .i64 0,z 4,z 5,z 6,.slice F l.length G,.int .i64 l.length,.int .i64 i,z 10,z 11,z 12,z 13,z 14]) l.length
 .exact⟨rfl,aH rfl⟩
 .rintro i S H' n ⟨rfl,z,rfl⟩
  exact⟨_,aM,Wc⟩
 .rintro i S H' n ⟨rfl,z,rfl⟩
  obtain⟨b,o,sp,K,xs,e,g,s⟩:=xP A n;cases e;have y:=Heap.get_lt g;have t:l.getD i 0<B:=by
   rw[au₀,bc₀ n];exact L _<|List.getElem_mem _
  generalize l.getD i 0=x at s t;refine aA ?_;refine aK ?_ ?_<;>intro h
  .simp only[ar₀,af₀]at h;omega
  clear h;refine aA ?_;exact⟨We,aH ncM⟩
 .rintro S H' ⟨rfl,z,rfl⟩
  refine aA ?_;apply aP (λi S H'=>Ext (H++[some [.bool false,.slice none 0 0]]) H'/\∃q,SlW H' q (ba<|aa B<|l.take i)/\∃(z:Nat->Value),S=[.slice F l.length G,.int .i64 B,.pointer<|some ⟨H.length,0,none⟩,.int .i64 0,z 4,q,z 6,z 7,z 8,z 9,.slice F l.length G,.int .i64 l.length,.int .i64 i,z 13,z 14]) l.length
  .exact⟨Ext.refl _,_,.inl ⟨rfl,by simp[aa,cQ]⟩,aH rfl⟩
  .rintro i S H' n ⟨c,q,-,z,rfl⟩
   exact⟨_,aM,Wc⟩
  .rintro i S H' n ⟨c,q,J,z,rfl⟩
   obtain⟨b,o,sp,K,xs,e,g,s⟩:=xP A n;cases e;have y:=Heap.get_lt g;have g:=c.get (kG y▸g:Heap.get (H++_) b=some xs);have t:l.getD i 0<B:=by
    rw[au₀,bc₀ n];exact L _<|List.getElem_mem _
   have C:=jb (B:=B) n;have u:∀j,j<=l.length->(ba<|aa B<|l.take j).length<=j:=λj W=>wJ<|bd₀ (iZ L j W)<|Nat.pow_le_pow_left XC j;have Z:=u i byO;have D:=u (i+1) byO;rw[C]at D ⊢;clear C u;generalize l.getD i 0=x at s t D ⊢;generalize aa B (l.take i)=N at *;have V:=nu (p:=x) byO;have f:=c.1;simp at f;refine aA ?_;refine ay ?_;refine aB (scale byO J byO (mi N) XC XC) ?_;rw[zg XC XC];rintro r T ⟨k,R⟩;have O:=R;obtain⟨ar,cr,rfl⟩:=R.len;refine aA ?_;refine aK ?_ ?_<;>intro h
   .simp only[af₀]at h;omega
   clear h;refine aA ?_;exact⟨c.trans k,_,O,aH ncM⟩
  .rintro S H' ⟨c,q,J,z,rfl⟩
   rw[List.take_length]at J;have f:=c.1;simp at f;have I:=c.get<|aX H _;have c:=c.of_push;refine aA ?_;refine ay ?_;refine aB (IF byO J) ?_;rintro r T ⟨k,m,rfl,Q⟩;have M:=Q;obtain⟨am,cm,rfl⟩:=Q.len;have I:=k.get I;have X:=Heap.get_lt I;refine aA ?_;refine aL ?_;exact⟨(c.trans k).set<|Nat.le_refl _,_,rfl,_,rfl,D3 M I rfl λx c a=>by simp at c;rcases c with rfl|rfl<;>simp⟩
abbrev eI(l:XU):Value:=.string ⟨l.toArray⟩
theorem iF(l:XU):(ByteArray.mk l.toArray).size=l.length:=by rfl
def IZ(H:Heap)(l:XU):aG .lenS [eI l] H=some (.int .i64 l.length):=by simp[aG,iF]
theorem bytes_beq(a b:XU):((ByteArray.mk a.toArray).toList==(ByteArray.mk b.toArray).toList)=(a==b):=Wx
theorem I1(H:Heap)(a b:XU):aG (.bin .eql) [eI a,eI b] H=some (.bool<|decide<|a=b):=by grind[aG,aZ,oP,bytes_beq]
def QG(H:Heap)(a b:XU):aG (.bin .neq) [eI a,eI b] H=some (.bool<|decide<|a≠b):=by simp[aG,aZ,oP,bytes_beq];by_cases h:a=b<;>simp[h]
theorem RF(l:XU)(i:Nat):(ByteArray.mk l.toArray)[i]?=l[i]?:=by
 by_cases h:i<l.length
 .rw[bc₀ h]
  have a:i<(ByteArray.mk l.toArray).size:=Xf
  rw[getElem?_pos (ByteArray.mk l.toArray) i a];rfl
 grind[iF]
def fV{H:Heap}{l:XU}{k:IntKind}{i:Nat}(h:i<l.length):aG .idxS [eI l,.int k (i:Nat)] H=some (.int .u8 ((l.getD i 0).toNat:Nat)):=by grind[aG,RF]
def IY{H:Heap}{l:XU}{k:IntKind}(h:0<l.length):aG .idxS [eI l,.int k 0] H=some (.int .u8 ((l.getD 0 0).toNat:Nat)):=fV h
theorem y5(l:XU)(a b:Nat):(ByteArray.mk l.toArray).extract a b=⟨((l.take b).drop a).toArray⟩:=by
 apply ByteArray.ext
 grind[ByteArray.data_extract]
def xm{H:Heap}{l:XU}{k:IntKind}{a:Nat}(h:a<=l.length):aG (.slS true false) [eI l,.int k (a:Nat)] H=some (eI<|l.drop a):=by grind[aG,iF,CL,y5]
def LY{H:Heap}{l:XU}{k:IntKind}{b:Nat}(h:b<=l.length):aG (.slS false true) [eI l,.int k (b:Nat)] H=some (eI<|l.take b):=by simp only[aG,iF];rw[CJ byO byO];simp[y5]
def LZ{H:Heap}{l:XU}{k c:IntKind}{a b:Nat}(h:a<=b)(d:b<=l.length):aG (.slS true true) [eI l,.int k (a:Nat),.int c (b:Nat)] H=some (eI<|(l.take b).drop a):=by grind[aG,iF,rq,y5]
def dgt(l:XU):XN:=l.map λb=>b.toNat-48
def rj(b:UInt8):Bool:=decide (48<=b.toNat)&&decide (b.toNat<=57)
theorem HM{l:XU}(h:∀b ∈ l,rj b=true):∀d ∈ dgt l,d<10:=by
 intro d a;obtain⟨b,c,rfl⟩:=List.mem_map.1 a
 grind[rj]
def dec(N:Nat):XN:=(dZ 10 N).reverse
def rZ(N:Nat):XN:=(dZ 900 N).reverse
theorem mP:dec 0=[]:=by simp[dec,cQ]
theorem yx{a b:Nat}(c:b<10)(h:10*a+b≠0):dec (10*a+b)=dec a++[b]:=by grind[dec,dF]
def sB{N:Nat}:dec N=[]↔N=0:=by grind[dZ,dec]
theorem vO:rZ 0=[]:=by simp[rZ,cQ]
def Ft{N:Nat}(h:N≠0):rZ N=rZ (N/900)++[N%900]:=by grind[rZ,dF]
theorem uF(B:Nat):∀l:XN,aa B l.reverse=dX B l
 | []=>rfl
 | d::l=>by rw[List.reverse_cons,wU,uF B l,dX,bb₀];omega
theorem uE(N:Nat):aa 10 (dec N)=N:=by grind[dec,uF,gj]
theorem uw:∀{l:XN},l.getLast?≠some 0->gJ l=l
 | [],_=>rfl
 | [d],h=>by
  grind[gJ]
 | d::e::l,h=>by
  have a:=uw (l:=e::l) Wy
  grind[gJ]
def C0{B:Nat}(b:2<=B){l:XN}(h:∀d ∈ l,d<B)(a:l.head?≠some 0):(dZ B<|aa B l).reverse=l:=by
 have e:aa B l=dX B l.reverse:=by grind[uF,List.reverse_reverse]
 grind[mR,uw]
theorem PH{l:XN}(h:∀d ∈ l,d<10)(a:l.head?≠some 0):dec (aa 10 l)=l:=C0 Wd h a
def CI{l:XN}(h:∀d ∈ l,d<900)(a:l.head?≠some 0):rZ (aa 900 l)=l:=C0 Wd h a
theorem dec_lt(N:Nat):∀d ∈ dec N,d<10:=λd a=>nP Wd N d<|List.mem_reverse.1 a
def Dq(N:Nat):(rZ N).head?≠some 0:=by grind[rZ,vg]
theorem Er(B d:Nat)(l:XN):aa B (d::l)=d*B^l.length+aa B l:=by
 have a:∀(l:XN) (x:Nat),l.foldl (λn d=>n*B+d) x=x*B^l.length+l.foldl (λn d=>n*B+d) 0:=by
  intro l
  induction l with
  | nil=>simp
  | cons e l b=>
   grind
 grind[aa]
def BK(l:XU):XN:=rZ<|aa 10 (1::dgt l)
theorem Ld{l:XU}(h:∀b ∈ l,rj b=true):dec (aa 10 (1::dgt l))=1::dgt l:=by grind[PH,HM]
def Cj{l:XU}(h:∀b ∈ l,rj b=true):aa 10 (1::dgt l)<2*10^l.length/\10^l.length<=aa 10 (1::dgt l):=by
 rw[Er];have:=iZ (HM h) (dgt l).length<|Nat.le_refl _
 grind[dgt]
def rI{l:XU}(h:∀b ∈ l,rj b=true):(BK l).length<=l.length+1:=by
 unfold BK rZ;rw[List.length_reverse];refine cU Wd _ _<|bd₀ (Cj h).1 ?_
 simp_all[Nat.mul_le_mul,Nat.pow_le_pow_left,Nat.pow_succ,bb₀]
def eH(l:XN):XU:=l.map λd=>UInt8.ofNat<|48+d
def kX(last:Bool)(p:XN):Bool:=
 decide (p.getD 0 0≠0)&&(decide ((dec<|aa 900 p).getD 0 0=1)&&(decide (2<=(dec<|aa 900 p).length)&&(decide ((dec<|aa 900 p).length<=45)&&(last || decide ((dec<|aa 900 p).length=45)))))
def uR(p:XN):XU:=eH<|(dec<|aa 900 p).drop 1
def fS(l:XN):Option XU:=if h:l=[] then some [] else
 if kX (decide<|l.length<=15) (l.take 15) then(fS<|l.drop 15).map (uR (l.take 15)++·) else none
 termination_by l.length
 decreasing_by
  have:0<l.length:=List.length_pos_iff.2 h;simp;omega
theorem qK:fS []=some []:=by grind[fS]
theorem qL{l:XN}(h:l≠[]):fS l=if kX (decide<|l.length<=15) (l.take 15) then(fS<|l.drop 15).map (uR (l.take 15)++·) else none:=by grind[fS]
def ML(l:XN)(h:∀d ∈ l,d<10):∀b ∈ eH l,rj b=true:=by
 intro b a;obtain⟨d,c,rfl⟩:=List.mem_map.1 a
 grind[rj,UInt8.toNat_ofNat']
theorem HN{l:XN}(h:∀d ∈ l,d<10):dgt (eH l)=l:=by
 unfold dgt eH;have:l.map ((λb:UInt8=>b.toNat-48) ∘ λd=>UInt8.ofNat<|48+d)=l.map id:=List.map_congr_left λd a=>by
  grind[UInt8.toNat_ofNat']
 simp_all
end Go.Proofs.YtgiojnobcjnibaaGreatDoor
