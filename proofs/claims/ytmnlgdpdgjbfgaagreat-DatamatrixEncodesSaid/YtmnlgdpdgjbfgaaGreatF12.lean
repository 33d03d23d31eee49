/- Lemmas. -/
import Derived.Test.YtmnlgdpdgjbfgaaGreatF9
import Derived.Test.YtmnlgdpdgjbfgaaGreatF11
import Derived.Test.YtmnlgdpdgjbfgaaGreatRows
set_option linter.all false
namespace Go.Proofs.YtmnlgdpdgjbfgaaGreat
open Go.Abs
variable{H:Heap}{v:Value}
set_option maxRecDepth 100000
theorem iy:∀f cf,cp f=some cf->aL cf=true:=mT
abbrev FC(b:UInt8):Value:=.int .u8 (b.toNat:Nat)
abbrev SlU:=Sl FC
abbrev aB(n:Nat):Value:=.int .i64 (n:Nat)
abbrev SlN:=Sl aB
abbrev uN(l:List Nat):List Value:=l.map aB
theorem P0{k:Mv}{l:List Value}{v':Value}(h:l.all bN=true)(s:Sh k (.tuple l.toArray) v'):v'=.tuple l.toArray:=by
 cases s with
 | tuple c d hs hr=>
  congr 1;refine(Array.ext (by simpa using hs) fun i h1 h2=>?_).symm;have h3:=hr i _ _ (Array.getElem?_eq_getElem h1) (Array.getElem?_eq_getElem h2);have h4:bN l.toArray[i]=true:=List.all_eq_true.1 h _ (by simp);exact(sx h4 h3).symm
theorem zk{cp:FuncId->Option CF}(hp:∀f cf,cp f=some cf->aL cf=true){f:FuncId}{n:Nat}{args:List Value}{l:List Value}(ha:args.all fX=true)(h:((run cp n).ret 0 f args []).map (·.1)=some (.tuple l.toArray))(hv:l.all bN=true)
  {lo:Nat} {H:Heap} (hlo:lo<=H.length):Ev cp lo f args H (fun v' H'=>v'=.tuple l.toArray/\Ext H H'):=by
 obtain⟨⟨v,H0⟩,hr,rfl⟩:=Option.map_eq_some_iff.1 h;refine oI hp ha n (nZ hr) hlo fun v' H' hv' hH hpre=>⟨P0 hv hv',nL hH hpre⟩
def isInt(n:Int):Option (Value×Heap)->Bool
 | some (.int .i64 m,_)=>m==n
 | _=>false
theorem oO{n:Int}{r:Option (Value×Heap)}(h:isInt n r=true):r.map (·.1)=some (.int .i64 n):=by
 match r,h with
 | some (.int .i64 m,_),h=>
  have h':m=n:=by simpa[isInt]using h
  rw[h'];rfl
def isB(n:Bool):Option (Value×Heap)->Bool
 | some (.bool m,_)=>m==n
 | _=>false
theorem Fk{n:Bool}{r:Option (Value×Heap)}(h:isB n r=true):r.map (·.1)=some (.bool n):=by
 match r,h with
 | some (.bool m,_),h=>
  have h':m=n:=by simpa[isB]using h
  rw[h'];rfl
def Nn(a b:Int):Option (Value×Heap)->Bool
 | some (.tuple cs,_)=>match cs.toList with
  | [.int .i64 x,.int .i64 y]=>x==a&&y==b
  | _=>false
 | _=>false
theorem Iu{a b:Int}{r:Option (Value×Heap)}(h:Nn a b r=true):r.map (·.1)=some (.tuple [Value.int .i64 a,Value.int .i64 b].toArray):=by
 match r,h with
 | some (.tuple cs,H),h=>
  simp only[Nn]at h;split at h
  ·rename_i x y e
   simp only[ac₀,beq_iff_eq]at h;obtain⟨rfl,rfl⟩:=h;have:cs=[Value.int .i64 x,Value.int .i64 y].toArray:=by rw[<-e]
   rw[this];rfl
  ·cases h
def c9(lower:Bool)(n:Nat):Nat×Nat:=
 if n=32 then(0,3) else if 48<=n/\n<=57 then(0,n-48+4)
 else if 65<=n/\n<=90/\lower=false then(0,n-65+14) else if 97<=n/\n<=122/\lower=true then(0,n-97+14)
 else if 65<=n/\n<=90 then(3,n-65+1) else if n<=31 then(1,n) else if n<=47 then(2,n-33) else if n<=64 then(2,n-58+15) else if n<=95 then(2,n-91+22) else(3,n-96)
theorem PF:(List.range 128).all (fun k=>[false,true].all fun b=>Nn (c9 b k).1 (c9 b k).2 ((run cp 4).ret 0 212 [.bool b,.int .u8 (k:Nat)] []))=true:=by kernel_rfl
def dL(n:Nat):Nat:=if 65<=n/\n<=90 then n-65+15 else if 48<=n/\n<=57 then n-48+5 else if n=13 then 1 else if n=42 then 2 else if n=62 then 3 else if n=32 then 4 else 0
theorem VV:(List.range 256).all (fun k=>isInt ((dL k:Nat)-1) ((run cp 4).ret 0 209 [.int .u8 (k:Nat)] []))=true:=by kernel_rfl
def jr(n:Nat):Bool:=decide (48<=n)&&decide (n<=57)
theorem Tt:(List.range 256).all (fun k=>isB (jr k) ((run cp 4).ret 0 205 [.int .u8 (k:Nat)] []))=true:=by kernel_rfl
section
variable {lo:Nat}{H:Heap}
theorem PE{b:Bool}{k:Nat}(hk:k<128)(hlo:lo<=H.length):Ev cp lo 212 [.bool b,.int .u8 (k:Nat)] H (fun v H'=>v=.tuple #[.int .i64 ((c9 b k).1:Nat),.int .i64 ((c9 b k).2:Nat)]/\Ext H H'):=by
 have h:=List.all_eq_true.1 PF k (List.mem_range.2 hk);have h2:=List.all_eq_true.1 h b (by cases b<;>simp);exact zk iy (n:=4) rfl (Iu h2) rfl hlo
theorem VU{k:Nat}(hk:k<256)(hlo:lo<=H.length):Ev cp lo 209 [.int .u8 (k:Nat)] H (fun v H'=>v=.int .i64 ((dL k:Nat)-1)/\Ext H H'):=
 iu iy (n:=4) (v:=.int .i64 ((dL k:Nat)-1)) rfl (oO (List.all_eq_true.1 VV k (List.mem_range.2 hk))) rfl hlo
theorem RI{k:Nat}(hk:k<256)(hlo:lo<=H.length):Ev cp lo 205 [.int .u8 (k:Nat)] H (fun v H'=>v=.bool (jr k)/\Ext H H'):=
 iu iy (n:=4) (v:=.bool (jr k)) rfl (Fk (List.all_eq_true.1 Tt k (List.mem_range.2 hk))) rfl hlo
end
theorem own:ownKnob Tryz.prog.godebug=none:=by kernel_rfl
theorem laidOut:laidOutB Tryz.prog=true:=by kernel_rfl
theorem DQ:Tryz.prog.globals.size=0:=by kernel_rfl
theorem TW{l:List Int}(h:∀x ∈ l,IntKind.u8.min<=x/\x<=IntKind.u8.max):∃r:List UInt8,l.map (Value.int .u8)=r.map FC/\r.length=l.length:=by
 refine⟨l.map (fun x=>UInt8.ofNat x.toNat),?_,by simp⟩;rw[List.map_map];refine List.map_congr_left fun x hx=>?_;have hm:IntKind.u8.min=0:=by decide
 have hM:IntKind.u8.max=255:=by decide
 show Value.int .u8 x=.int .u8 ((UInt8.ofNat x.toNat).toNat:Nat)
 grind[UInt8.toNat_ofNat_of_lt']
theorem Ia{B:Nat}(h:Has B H (.sl (.int .u8)) [v]):∃l:List UInt8,SlU H v l/\l.length<=B:=by
 simp only[Has]at h;rcases h with h|⟨i,len,cap,c,h1,h2,h3,h4,h5,h6⟩
 ·cases h
  exact⟨[],.inl ⟨rfl,rfl⟩,by simp⟩
 ·cases h1
  obtain⟨xs,hl,rfl,hr⟩:=xy (B:=B) (H:=H) _ _ h6;obtain⟨us,e,hul⟩:=TW hr;have hlen:(us.take len).length=len:=by simp;omega
  exact⟨us.take len,.inr ⟨i,0,none,cap,_,by rw[hlen],h5,by rw[List.drop_zero,hlen,e,List.map_take],by simp;omega,.inl rfl,by simp;omega⟩,byO⟩
theorem EY{B:Nat}(h:HasArg B H (.sl (.int .u8)) v):∃l:List UInt8,SlU H v l:=by
 simp only[HasArg]at h;obtain⟨l,h1,_⟩:=Ia h;exact⟨l,h1⟩
theorem ER{B:Nat}(h:HasArg B H .bool v):∃b,v=.bool b:=by
 simp only[HasArg,Has]at h;obtain⟨b,e⟩:=h;cases e;exact⟨b,rfl⟩
end Go.Proofs.YtmnlgdpdgjbfgaaGreat
namespace Go.Abs
noncomputable section
inductive T (α:Type) where
 | e
 | nd (a:α) (l r:T α)
def oB{α:Type}(o:Option α)(k:α->Bool):Bool:=Option.rec false k o
def bB(b x y:Bool):Bool:=Bool.rec y x b
def T.get{α:Type}(t:T α):Nat->Option α:=
 T.rec (motive:=fun _=>Nat->Option α) (fun _=>none) (fun a _ _ gl gr i=>Nat.rec (some a) (fun j _=>bB' (gl (Nat.div j 2)) (gr (Nat.div j 2)) (Nat.beq (Nat.mod j 2) 0)) i) t
where bB' (x y:Option α) (b:Bool):Option α:=Bool.rec y x b
def T.set{α:Type}(t:T α):Nat->α->(T α->Bool)->Bool:=
 T.rec (motive:=fun _=>Nat->α->(T α->Bool)->Bool) (fun _ _ _=>false)
  (fun a l r il ir i v k=>Nat.rec (k (.nd v l r)) (fun j _=>Bool.rec (ir (Nat.div j 2) v (fun r'=>k (.nd a l r'))) (il (Nat.div j 2) v (fun l'=>k (.nd a l' r))) (Nat.beq (Nat.mod j 2) 0)) i) t
def T.ins{α:Type}(t:T α):Nat->α->(T α->Bool)->Bool:=
 T.rec (motive:=fun _=>Nat->α->(T α->Bool)->Bool) (fun i v k=>Nat.rec (k (.nd v .e .e)) (fun _ _=>false) i)
  (fun a l r il ir i v k=>Nat.rec (k (.nd v l r)) (fun j _=>Bool.rec (ir (Nat.div j 2) v (fun r'=>k (.nd a l r'))) (il (Nat.div j 2) v (fun l'=>k (.nd a l' r))) (Nat.beq (Nat.mod j 2) 0)) i) t
def T.path{α:Type}(d v:α)(f:Nat):Nat->(T α->Bool)->Bool:=
 Nat.rec (motive:=fun _=>Nat->(T α->Bool)->Bool) (fun _ _=>false)
  (fun _ ih i k=>Nat.rec (k (.nd v .e .e)) (fun j _=>ih (Nat.div j 2) (fun t=>Bool.rec (k (.nd d .e t)) (k (.nd d t .e)) (Nat.beq (Nat.mod j 2) 0))) i) f
def T.insD{α:Type}(d:α)(t:T α):Nat->α->(T α->Bool)->Bool:=
 T.rec (motive:=fun _=>Nat->α->(T α->Bool)->Bool) (fun i v k=>T.path d v 40 i k)
  (fun a l r il ir i v k=>Nat.rec (k (.nd v l r)) (fun j _=>Bool.rec (ir (Nat.div j 2) v (fun r'=>k (.nd a l r'))) (il (Nat.div j 2) v (fun l'=>k (.nd a l' r))) (Nat.beq (Nat.mod j 2) 0)) i) t
def T.setL{α:Type}(l:List α):Nat->T α->(T α->Bool)->Bool:=
 List.rec (motive:=fun _=>Nat->T α->(T α->Bool)->Bool) (fun _ t k=>k t) (fun v _ ih i t k=>t.set i v (fun t'=>ih (Nat.succ i) t' k)) l
def T.insL{α:Type}(l:List α):Nat->T α->(T α->Bool)->Bool:=
 List.rec (motive:=fun _=>Nat->T α->(T α->Bool)->Bool) (fun _ t k=>k t) (fun v _ ih i t k=>t.ins i v (fun t'=>ih (Nat.succ i) t' k)) l
def T.rep{α:Type}(v:α)(f:Nat):Nat->(T α->Bool)->Bool:=
 Nat.rec (motive:=fun _=>Nat->(T α->Bool)->Bool) (fun _ _=>false)
  (fun _ ih n k=>Nat.rec (k .e) (fun m _=>ih (Nat.div m 2) (fun r=>Bool.rec (r.ins (Nat.div m 2) v (fun l=>k (.nd v l r))) (k (.nd v r r)) (Nat.beq (Nat.mod m 2) 0))) n) f
def T.rd{α:Type}(t:T α)(o n:Nat):List α->(List α->Bool)->Bool:=
 Nat.rec (motive:=fun _=>List α->(List α->Bool)->Bool) (fun l k=>k l) (fun m ih l k=>oB (t.get (Nat.add o m)) (fun v=>ih (v::l) k)) n
inductive FV where
 | i (k:IntKind) (n:Nat)
 | b (t:Bool)
 | p (b o:Nat)
 | s (b o l c:Nat) (sp:Option Nat)
 | o (v:Value)
def toV(x:FV):Value:=FV.casesOn x (fun k n=>.int k (.ofNat n)) (fun t=>.bool t) (fun b o=>.pointer (some ⟨b,o,none⟩)) (fun b o l c sp=>.slice (some ⟨b,o,sp⟩) l c) (fun v=>v)
def fN(n:Nat)(k:Nat->Bool):Bool:=Nat.rec (k 0) (fun m _=>k (Nat.succ m)) n
def Ka(b:Bool)(k:FV->Bool):Bool:=Bool.rec (k (.b false)) (k (.b true)) b
def Pq(kd:IntKind)(z:Int)(k:FV->Bool):Bool:=Int.rec (fun n=>fN n fun n=>k (.i kd n)) (fun n=>fN n fun n=>k (.o (.int kd (.negSucc n)))) z
def Ps(a:Option Addr)(k:FV->Bool):Bool:=Option.rec (k (.o (.pointer none))) (fun a=>Addr.rec (fun b o sp=>Option.rec (fN b fun b=>fN o fun o=>k (.p b o)) (fun _=>k (.o (.pointer (some a)))) sp) a) a
def Mm(a:Option Addr)(l c:Nat)(k:FV->Bool):Bool:=fN l fun l=>fN c fun c=>Option.rec (k (.o (.slice none l c))) (fun a=>Addr.rec (fun b o sp=>fN b fun b=>fN o fun o=>Option.rec (k (.s b o l c none)) (fun z=>fN z fun z=>k (.s b o l c (some z))) sp) a) a
abbrev VF:=(FV->Bool)->Bool
def aO(v:Value):VF:=fun k=>k (.o v)
def ofV(v:Value):VF:=Value.casesOn (motive_1:=fun _=>VF) v Ka Pq (fun k b=>aO (.float k b)) (fun k b c=>aO (.complex k b c)) (fun s=>aO (.string s)) Ps Mm (fun r=>aO (.map r)) (fun r=>aO (.chan r)) (fun f a b=>aO (.func f a b)) (aO .nilFunc) (fun t v=>aO (.iface t v)) (aO .nilIface) (fun c=>aO (.agg c)) (fun c=>aO (.tuple c))
def ofL(l:List Value):(List FV->Bool)->Bool:=List.rec (motive:=fun _=>(List FV->Bool)->Bool) (fun k=>k []) (fun v _ ih k=>ofV v fun v=>ih fun l=>k (v::l)) l
def toL(l:List FV):List Value:=List.rec [] (fun v _ ih=>toV v::ih) l
def Hw(p:FV->Bool)(l:List FV)(k:Bool):Bool:=List.rec k (fun v _ ih=>bB (p v) ih false) l
def GY(x:FV):Bool:=FV.casesOn x (fun _ _=>true) (fun _=>true) (fun _ _=>true) (fun _ _ _ _ _=>true) (fun v=>v.oneCell')
def Dh:FV:=.o undef
inductive Blk where
 | mk (n:Nat) (t:T FV)
 | no
 | un
inductive FH where
 | mk (n:Nat) (t:T Blk)
abbrev FS:=T FV
def FH.size(H:FH):Nat:=FH.rec (fun n _=>n) H
def FH.blk(H:FH)(b:Nat)(k:Nat->T FV->Bool):Bool:=FH.rec (fun _ t=>oB (t.get b) fun x=>Blk.rec k false false x) H
def FH.setB(H:FH)(b:Nat)(x:Blk)(k:FH->Bool):Bool:=FH.rec (fun n t=>t.set b x fun t'=>k (.mk n t')) H
def FH.push(H:FH)(x:Blk)(k:Nat->FH->Bool):Bool:=FH.rec (fun n t=>t.insD .un n x fun t'=>k n (.mk (Nat.succ n) t')) H
def FH.rd(H:FH)(b o n:Nat)(k:List FV->Bool):Bool:=H.blk b fun m t=>bB (Nat.ble (Nat.add o n) m) (t.rd o n [] k) false
def FH.wr(H:FH)(lo b o:Nat)(vs:List FV)(k:FH->Bool):Bool:=
 bB (Nat.ble lo b) (H.blk b fun m t=>bB (Nat.ble (Nat.add o vs.length) m) (T.setL vs o t fun t'=>H.setB b (.mk m t') k) false) false
def FH.pushL(H:FH)(vs:List FV)(k:Nat->FH->Bool):Bool:=T.insL vs 0 .e fun t=>fN vs.length fun n=>H.push (.mk n t) k
abbrev LF:=List FV->FH->(FV->Bool)->Bool
def fK(o:LOp):LF:=fun vs _ k=>oB (aJ o (toL vs) []) fun v=>ofV v k
def sJ(k:IntKind):Nat:=IntKind.casesOn k 127 32767 2147483647 9223372036854775807 255 65535 4294967295 18446744073709551615
def NG(k:IntKind):Nat:=IntKind.casesOn k 8 16 32 64 8 16 32 64
def idI(k:IntKind):Nat:=IntKind.casesOn k 0 1 2 3 4 5 6 7
def okN(kd:IntKind)(n:Nat)(k:FV->Bool)(d:Bool):Bool:=bB (Nat.ble n (sJ kd)) (fN n fun n=>k (.i kd n)) d
def tf(b:Bool)(k:FV->Bool):Bool:=bB b (k (.b true)) (k (.b false))
def tn(b:Bool)(k:FV->Bool):Bool:=bB b (k (.b false)) (k (.b true))
abbrev NF:=IntKind->Nat->Nat->(FV->Bool)->Bool->Bool
def U2:NF:=fun kd a b k d=>okN kd (Nat.add a b) k d
def Uf:NF:=fun kd a b k d=>bB (Nat.ble b a) (okN kd (Nat.sub a b) k d) d
def Ub:NF:=fun kd a b k d=>okN kd (Nat.mul a b) k d
def U4:NF:=fun kd a b k d=>bB (Nat.beq b 0) d (okN kd (Nat.div a b) k d)
def Ua:NF:=fun kd a b k d=>bB (Nat.beq b 0) d (okN kd (Nat.mod a b) k d)
def U3:NF:=fun kd a b k d=>bB (Nat.ble a (sJ kd)) (bB (Nat.ble b (sJ kd)) (okN kd (Nat.land a b) k d) d) d
def nOr:NF:=fun kd a b k d=>bB (Nat.ble a (sJ kd)) (bB (Nat.ble b (sJ kd)) (okN kd (Nat.lor a b) k d) d) d
def Ug:NF:=fun kd a b k d=>bB (Nat.ble a (sJ kd)) (bB (Nat.ble b (sJ kd)) (okN kd (Nat.xor a b) k d) d) d
def Rg:NF:=fun _ _ _ _ d=>d
def U5:NF:=fun _ a b k _=>tf (Nat.beq a b) k
def Uc:NF:=fun _ a b k _=>tn (Nat.beq a b) k
def U9:NF:=fun _ a b k _=>tn (Nat.ble b a) k
def U8:NF:=fun _ a b k _=>tf (Nat.ble a b) k
def U7:NF:=fun _ a b k _=>tn (Nat.ble a b) k
def U6:NF:=fun _ a b k _=>tf (Nat.ble b a) k
def Ud:NF:=fun kd a b k d=>bB (Nat.ble b (NG kd)) (okN kd (Nat.mul a (Nat.pow 2 b)) k d) d
def Ue:NF:=fun kd a b k d=>bB (Nat.ble b (NG kd)) (fN (Nat.div a (Nat.pow 2 b)) fun n=>k (.i kd n)) d
def Qw(op:BinOp):NF:=BinOp.casesOn (motive:=fun _=>NF) op U2 Uf Ub U4 Ua U3 nOr Ug Ud Ue Rg U5 Uc U9 U8 U7 U6
def lE(op:BinOp):Bool:=BinOp.casesOn (motive:=fun _=>Bool) op false false false false false false false false true true false false false false false false false
def cI{α:Type}(x:FV)(f:IntKind->Nat->α)(d:α):α:=FV.casesOn x f (fun _=>d) (fun _ _=>d) (fun _ _ _ _ _=>d) (fun _=>d)
def cB{α:Type}(x:FV)(f:Bool->α)(d:α):α:=FV.casesOn x (fun _ _=>d) f (fun _ _=>d) (fun _ _ _ _ _=>d) (fun _=>d)
def cP{α:Type}(x:FV)(f:Nat->Nat->α)(d:α):α:=FV.casesOn x (fun _ _=>d) (fun _=>d) f (fun _ _ _ _ _=>d) (fun _=>d)
def cS{α:Type}(x:FV)(f:Nat->Nat->Nat->Nat->Option Nat->α)(d:α):α:=FV.casesOn x (fun _ _=>d) (fun _=>d) (fun _ _=>d) f (fun _=>d)
def cO{α:Type}(x:FV)(f:Value->α)(d:α):α:=FV.casesOn x (fun _ _=>d) (fun _=>d) (fun _ _=>d) (fun _ _ _ _ _=>d) f
def l1{α β:Type}(l:List β)(f:β->α)(d:α):α:=List.casesOn l d fun x r=>List.casesOn r (f x) fun _ _=>d
def l2{α β:Type}(l:List β)(f:β->β->α)(d:α):α:=List.casesOn l d fun x r=>List.casesOn r d fun y r=>List.casesOn r (f x y) fun _ _=>d
def UI(op:BinOp):LF:=fun vs H k=>
 (fun(d:Bool)=>l2 vs (fun x y=>cI x (fun kd a=>cI y (fun kd' b=>bB (bB (lE op) true (Nat.beq (idI kd) (idI kd'))) (Qw op kd a b k d) d) d) d) d) (fK (.bin op) vs H k)
def fLd(n:Nat)(agg:Bool):LF:=Bool.casesOn (motive:=fun _=>LF) agg
 (fun vs H k=>l1 vs (fun x=>cP x (fun b o=>H.blk b fun _ t=>oB (t.get o) k) false) false)
 (fun vs H k=>l1 vs (fun x=>cP x (fun b o=>H.rd b o n fun l=>k (.o (.agg ⟨toL l⟩))) false) false)
def N8(off:Nat):LF:=fun vs _ k=>l1 vs (fun x=>cP x (fun b o=>fN (Nat.add o off) fun o=>k (.p b o)) false) false
def N9(sz:Nat):LF:=fun vs _ k=>l2 vs (fun x y=>cS x (fun b o l _ _=>cI y (fun _ i=>bB (Nat.ble (Nat.succ i) l) (fN (Nat.add o (Nat.mul i sz)) fun o=>k (.p b o)) false) false) false) false
def UP:LF:=fun vs H k=>l1 vs (fun x=>cS x (fun _ _ l _ _=>k (.i .i64 l)) (fK .len vs H k)) false
def fMv:LF:=fun vs _ k=>l1 vs k false
def UN(i:Nat):LF:=fun vs H k=>fK (.ext i) vs H k
def UG:LF:=fun vs H k=>l1 vs (fun x=>cS x (fun b o l _ _=>H.rd b o l fun c=>oB (bytesOf (toL c)) fun c=>k (.o (.string ⟨c.toArray⟩))) (fK .b2s vs H k)) false
def UQ:LF:=fun vs H k=>l1 vs (fun x=>cP x (fun b o=>k (.p b o)) (fK .nilChk vs H k)) false
def fUn(u:UnOp):LF:=fun vs H k=>l1 vs (fun x=>cB x (fun b=>UnOp.casesOn (motive:=fun _=>Bool) u (fK (.un u) vs H k) (fK (.un u) vs H k) (tn b k) (fK (.un u) vs H k)) (fK (.un u) vs H k)) false
def UM(kd:IntKind):LF:=fun vs H k=>l1 vs (fun x=>cI x (fun _ n=>okN kd n k (fK (.cvt kd) vs H k)) (fK (.cvt kd) vs H k)) false
def Lw(o:LOp):LF:=LOp.casesOn (motive:=fun _=>LF) o fMv UI (fun n=>fK (.eqB n)) (fun n k=>fK (.eqA n k)) (fun n=>fK (.eqN n)) (fun n=>fK (.eqP n)) fUn UM UG
 (fK .cvtS) UQ N8 (fun a b c=>fK (.fld a b c)) N9 (fun a b=>fK (.iAddrA a b)) (fun a b c=>fK (.idx a b c)) (fK .idxS) fLd UP (fK .lenS) (fun n=>fK (.lenC n))
 (fun a b c d=>fK (.sl a b c d)) (fun a b c d e=>fK (.slA a b c d e)) (fun a b=>fK (.slS a b)) UN (fun a b=>fK (.build a b)) (fun a b=>fK (.mkF a b)) (fun a=>fK (.mkI a)) (fun a=>fK (.minmax a)) (fK .pk) (fun a b=>fK (.tas a b))
abbrev EV:=FS->FH->List FV->(List FV->Bool)->Bool
def UA(j:Nat):EV:=fun S _ acc k=>oB (S.get j) fun v=>k (v::acc)
def Tw(v:Value):EV:=fun _ _ acc k=>ofV v fun v=>k (v::acc)
def Tz:EV:=fun _ _ acc k=>k acc
def RM(_a _b:E)(fa fb:EV):EV:=fun S H acc k=>fb S H acc fun acc=>fa S H acc k
def RP(o:LOp)(_a:E)(fa:EV):EV:=fun S H acc k=>fa S H [] fun vs=>Lw o vs H fun v=>k (v::acc)
def isB(l:List FV)(a b:Bool):Bool:=l1 l (fun x=>cB x (fun c=>bB c a b) false) false
def RQ(_c _a _b:E)(fc fa fb:EV):EV:=fun S H acc k=>fc S H [] fun l=>isB l (fa S H acc k) (fb S H acc k)
def fev(e:E):EV:=E.rec (motive:=fun _=>EV) UA Tw Tz RM RP RQ e
def one(l:List FV)(k:FV->Bool):Bool:=l1 l k false
def zn(e:E)(S:FS)(H:FH)(k:FV->Bool):Bool:=fev e S H [] fun l=>one l k
def BV(l:List (Nat×E)):FS->FH->FS->(FS->Bool)->Bool:=
 List.rec (motive:=fun _=>FS->FH->FS->(FS->Bool)->Bool) (fun _ _ A k=>k A) (fun p _ ih S H A k=>zn p.2 S H fun v=>A.set p.1 v fun A'=>ih S H A' k) l
def I3(l:List E):FS->FH->Bool->Bool:=
 List.rec (motive:=fun _=>FS->FH->Bool->Bool) (fun _ _ k=>k) (fun e _ ih S H k=>fev e S H [] fun _=>ih S H k) l
def fpc(l:PC):FS->FH->Bool->Bool->Bool:=
 List.rec (motive:=fun _=>FS->FH->Bool->Bool->Bool) (fun _ _ y _=>y) (fun p _ ih S H y n=>fev p.1 S H [] fun l=>isB l (bB p.2 (ih S H y n) n) (bB p.2 n (ih S H y n))) l
abbrev lG:=Nat->FuncId->List FV->FH->(FV->FH->Bool)->Bool
abbrev HF:=lG->Nat->List FV->FH->(FV->FH->Bool)->Bool
def noH:HF:=fun _ _ _ _ _=>false
def RW(lo sz:Nat)(b o len cap:Nat)(sp:Option Nat)(new:List FV)(n:Nat)(H:FH)(k:FV->FH->Bool):Bool:=
 bB (Nat.ble (Nat.add len n) cap)
  (bB (Option.rec true (fun z=>Nat.beq z sz) sp) (H.wr lo b (Nat.add o (Nat.mul len sz)) new fun H=>fN (Nat.add len n) fun l=>k (.s b o l cap sp) H) false)
  (bB (Nat.ble (Nat.add len n) 4294967296)
   (H.blk b fun m t=>
    (fun(go:FH->Bool)=>Option.rec (go H) (fun z=>bB (Nat.beq z sz) (bB (Nat.ble lo b) (H.setB b .no go) false) false) sp) fun H=>
    fN (Nat.mul len sz) fun ln=>
    (fun(go:T FV->Bool)=>bB (Nat.beq o 0) (bB (Nat.beq ln m) (go t) (bB (Nat.ble ln m) (t.rd o ln [] fun l=>T.insL l 0 .e go) false)) (bB (Nat.ble (Nat.add o ln) m) (t.rd o ln [] fun l=>T.insL l 0 .e go) false)) fun t=>
    T.insL new ln t fun t=>fN (Nat.add ln new.length) fun m=>H.push (.mk m t) fun c H=>fN (Nat.add len n) fun l=>k (.s c 0 l l (some sz)) H)
   false)
def Ls(sz:Nat)(len cap:Nat)(new:List FV)(n:Nat)(H:FH)(k:FV->FH->Bool):Bool:=
 bB (Nat.ble (Nat.add len n) cap) (fN (Nat.add len n) fun l=>k (.o (.slice none l cap)) H)
  (bB (Nat.ble (Nat.add len n) 4294967296) (bB (Nat.beq len 0) (H.pushL new fun b H=>k (.s b 0 n n (some sz)) H) false) false)
def BP(lo sz:Nat)(s:FV)(new:List FV)(n:Nat)(H:FH)(k:FV->FH->Bool):Bool:=
 FV.casesOn s (fun _ _=>false) (fun _=>false) (fun _ _=>false) (fun b o l c sp=>RW lo sz b o l c sp new n H k)
  (fun v=>match v with
   | .slice none l c=>Ls sz l c new n H k
   | _=>false)
def fCall(raise:Bool):HF:=fun cf lo vs H k=>List.casesOn vs false fun x r=>cO x (fun v=>match v with
 | .func (.func f) first cap=>ofL first.toList fun a=>ofL cap.toList fun c=>cf (bB' raise H.size lo) f (a++r++c) H k
 | _=>false) false
where bB' (b:Bool) (x y:Nat):Nat:=Bool.rec y x b
def N7(zero:List Value):HF:=fun _ _ vs H k=>List.casesOn vs (ofL zero fun l=>H.pushL l fun b H=>k (.p b 0) H) fun _ _=>false
def zQ(x:FV)(k:List FV->Bool):Bool:=cO x (fun v=>ofL v.cells.toList k) (k [x])
def UJ:HF:=fun _ _ vs H k=>l1 vs (fun x=>zQ x fun l=>H.pushL l fun b H=>k (.p b 0) H) false
def fMk(zero:List Value):HF:=fun _ _ vs H k=>l2 vs (fun x y=>cI x (fun _ l=>cI y (fun _ c=>bB (Nat.ble l c) (bB (Nat.ble c 4294967296)
 (l1 zero (fun z=>ofV z fun z=>T.rep z 40 c fun t=>H.push (.mk c t) fun b H=>k (.s b 0 l c none) H) (ofL (bH zero c) fun z=>H.pushL z fun b H=>k (.s b 0 l c none) H)) false) false) false) false) false
def UH(zero:List Value)(len:Nat)(idx:List Nat):HF:=fun _ _ vs H k=>oB (buildL (bH zero len) (idx.map fun i=>(i*zero.length,zero.length)) (toL vs)) fun l=>ofL l fun l=>H.pushL l fun b H=>k (.s b 0 len len none) H
def fSt(n:Nat):HF:=fun _ lo vs H k=>l2 vs (fun x y=>cP x (fun b o=>zQ y fun l=>bB (Nat.beq l.length n) (Hw GY l (H.wr lo b o l fun H=>k Dh H)) false) false) false
def RX(sz:Nat):HF:=fun _ lo vs H k=>l2 vs (fun s x=>FV.casesOn x (fun _ _=>false) (fun _=>false) (fun _ _=>false)
 (fun b o n _ _=>H.rd b o (Nat.mul n sz) fun new=>Hw GY new (BP lo sz s new n H k))
 (fun v=>match v with
  | .slice none n _=>bB (Nat.beq n 0) (BP lo sz s [] 0 H k) false
  | _=>false)) false
def RY:HF:=fun _ lo vs H k=>l2 vs (fun s x=>cO x (fun v=>match v with
  | .string x=>ofL (x.data.toList.map fun b=>.int .u8 b.toNat) fun l=>fN x.size fun n=>BP lo 1 s l n H k
  | _=>false) false) false
def UK(sz:Nat):HF:=fun _ lo vs H k=>l2 vs (fun d a=>cS d (fun b o n _ _=>cS a (fun b' o' m _ _=>fN (min m n) fun l=>H.rd b' o' (Nat.mul l sz) fun new=>Hw GY new (H.wr lo b o new fun H=>k (.i .i64 l) H))
  (cO a (fun v=>match v with
   | .slice none m _=>bB (Nat.beq m 0) (k (.i .i64 0) H) false
   | _=>false) false))
 (cO d (fun v=>match v with
  | .slice none n _=>bB (Nat.beq n 0) (bB (isS a) (k (.i .i64 0) H) false) false
  | _=>false) false)) false
where isS (a:FV):Bool:=FV.casesOn a (fun _ _=>false) (fun _=>false) (fun _ _=>false) (fun _ _ _ _ _=>true) (fun v=>match v with
 | .slice none _ _=>true
 | _=>false)
def UR:HF:=fun _ _ vs H k=>l1 vs (fun x=>cO x (fun v=>match v with
  | .string x=>ofL (x.data.toList.map fun b=>.int .u8 b.toNat) fun l=>fN x.size fun n=>H.pushL l fun b H=>k (.s b 0 n n (some 1)) H
  | _=>false) false) false
def UO:HF:=fun _ lo vs H k=>l1 vs (fun x=>cS x (fun b o n c sp=>Option.rec (H.blk b fun _ _=>bB (Nat.ble lo b) (k (.s b o n c none) H) false) (fun _=>false) sp) false) false
def Lv(o:HOp):HF:=HOp.casesOn (motive:=fun _=>HF) o fCall N7 UJ fMk UH fSt (fun sz _=>RX sz) (fun _=>RY) UK UR noH (fCall false) noH UO
abbrev FX:=Nat->FS->FH->(Ex->FS->FH->Bool)->Bool
abbrev FP:=FX×(Nat->FX)
def noX:FX:=fun _ _ _ _=>false
def noL:Nat->FX:=fun _=>noX
def Tg:FP:=(fun _ S H k=>k .normal S H,noL)
def Tf(l:List (Nat×E))(chk:List E):FP:=(fun _ S H k=>BV l S H S fun A=>I3 chk S H (k .normal A H),noL)
def RL(d:Option Nat)(v:FV)(A:FS)(k:FS->Bool):Bool:=Option.rec (k A) (fun d=>A.set d v k) d
def xHv(callF:lG)(l:List (Nat×E))(chk:List E)(pc:PC)(dst:Option Nat)(o:HOp)(a:E):FP:=(fun lo S H k=>
 BV l S H S fun A=>I3 chk S H (fpc pc S H (fev a S H [] fun xs=>Lv o callF lo xs H fun v H'=>RL dst v A fun A=>k .normal A H') (RL dst Dh A fun A=>k .normal A H)),noL)
def NJ(x:FV):Option Nat:=FV.casesOn x (fun _ _=>none) (fun _=>none) (fun b _=>some b) (fun b _ _ _ _=>some b) (fun v=>ae v)
def T7(a b:E):FP:=(fun _ S H k=>zn a S H fun x=>zn b S H fun y=>
 Option.rec (k .normal S H) (fun i=>Option.rec (k .normal S H) (fun j=>bB (Nat.beq i j) false (k .normal S H)) (NJ y)) (NJ x),noL)
def cEx{α:Type}(x:Ex)(n:α)(e:Nat->α)(r:α):α:=Ex.rec n e r x
def V4(_ _:Stm)(fa fb:FP):FP:=(fun lo S H k=>fa.1 lo S H fun x S H=>cEx x (fb.1 lo S H k) (fun i=>k (.exit i) S H) (k .ret S H),noL)
def T6(c:E)(_ _:Stm)(fa fb:FP):FP:=(fun lo S H k=>fev c S H [] fun l=>isB l (fa.1 lo S H k) (fb.1 lo S H k),noL)
def Pl(i:Nat)(_:Stm)(fb:FP):FP:=(fun lo S H k=>fb.1 lo S H fun x S H=>cEx x (k .normal S H) (fun j=>bB (Nat.beq j i) (k .normal S H) (k (.exit j) S H)) (k .ret S H),noL)
def itF(f:FX)(n:Nat):FX:=Nat.rec (motive:=fun _=>FX) noX (fun _ ih lo S H k=>f lo S H fun x S H=>cEx x (ih lo S H k) (fun i=>k (.exit i) S H) (k .ret S H)) n
def Tb(n:Nat)(_:Stm)(fb:FP):FP:=(itF fb.1 n,noL)
def T8(i:Nat):FP:=(fun _ S H k=>k (.exit i) S H,noL)
def V3:FP:=(fun _ S H k=>k .ret S H,noL)
abbrev HX:=Ex->FS->FH->(Ex->FS->FH->Bool)->Bool
def Ib(f:Nat->FX)(lo n:Nat):HX:=
 Nat.rec (motive:=fun _=>HX) (fun _ _ _ _=>false)
  (fun _ ih x S H k=>cEx x (k .normal S H) (fun j=>bB (Nat.ble 1000000 j) (f (Nat.sub j 1000000) lo S H fun x S H=>ih x S H k) (k (.exit j) S H)) (k .ret S H)) n
def Pn(n:Nat)(_ _:Stm)(fb fa:FP):FP:=(fun lo S H k=>fb.1 lo S H fun x S H=>Ib fa.2 lo n x S H k,noL)
def xAlt(l:Nat)(_ _:Stm)(fs fr:FP):FP:=(noX,fun t=>bX (fs.1) (fr.2 t) (Nat.beq t l))
where bX (x y:FX) (b:Bool):FX:=Bool.rec y x b
def ju(callF:lG)(n:Nat)(s:Stm):FP:=
 Stm.rec (motive:=fun _=>FP) Tg Tf (xHv callF) T7 V4 T6 Pl (Tb n) T8 V3 (Pn n) xAlt s
def FY(l:List E):FS->FH->(List FV->Bool)->Bool:=
 List.rec (motive:=fun _=>FS->FH->(List FV->Bool)->Bool) (fun _ _ k=>k []) (fun e _ ih S H k=>zn e S H fun v=>ih S H fun l=>k (v::l)) l
def KC(l:List FV)(k:FV->Bool):Bool:=List.casesOn l (k (.o (.tuple #[]))) fun x r=>List.casesOn r (k x) fun _ _=>k (.o (.tuple ⟨toL l⟩))
abbrev SC:=FuncId->List FV->(FV->Nat->Bool)->Bool->Bool
def O3:SC:=fun _ _ _ d=>d
def FH.skip(H:FH)(lo g:Nat)(k:FH->Bool):Bool:=FH.rec (fun n t=>bB (Nat.ble lo n) (fN (Nat.add n g) fun m=>k (.mk m t)) false) H
def R2(cp:FuncId->Option CF)(sc:SC)(n:Nat)(ih:lG):lG:=fun lo f args H k=>
 sc f args (fun v g=>H.skip lo g fun H=>k v H)
 (oB (cp f) fun cf=>bB (Nat.beq args.length cf.np)
  (T.rep Dh 12 cf.ns fun S=>T.setL args 0 S fun S=>CK.casesOn cf.kind
   ((ju ih n cf.body).1 lo S H fun x S H=>cEx x (FY cf.res S H fun l=>KC l fun v=>k v H) (fun _=>false) (FY cf.res S H fun l=>KC l fun v=>k v H))
   (fun _ _ _=>false) (fun _=>false)) false)
def zw(cp:FuncId->Option CF)(sc:SC)(N n:Nat):lG:=Nat.rec (motive:=fun _=>lG) (fun _ _ _ _ _=>false) (fun m ih=>R2 cp sc (Nat.add N m) ih) n
end
theorem fG(n:Nat)(k:Nat->Bool):fN n k=k n:=by cases n<;>rfl
theorem qM{α:Type}{o:Option α}{k:α->Bool}(h:oB o k=true):∃v,o=some v/\k v=true:=by
 cases o with
 | none=>grind[oB]
 | some v=>exact⟨v,rfl,h⟩
theorem eJ{b x:Bool}(h:bB b x false=true):b=true/\x=true:=by cases b<;>simp_all [bB]
theorem dr{α:Prop}{b x y:Bool}(h:bB b x y=true)(h1:b=true->x=true->α)(h2:b=false->y=true->α):α:=by
 cases b
 ·exact h2 rfl h
 ·exact h1 rfl h
theorem T.get_z{α:Type}(a:α)(l r:T α):(T.nd a l r).get 0=some a:=rfl
theorem T.get_s{α:Type}(a:α)(l r:T α)(j:Nat):(T.nd a l r).get (j+1)=if j%2=0 then l.get (j/2) else r.get (j/2):=by
 show T.get.bB' (l.get (j/2)) (r.get (j/2)) (Nat.beq (j%2) 0)=_;rcases Nat.mod_two_eq_zero_or_one j with h|h<;>rw[h]<;>rfl
theorem T.get_e{α:Type}(j:Nat):(T.e:T α).get j=none:=rfl
theorem T.get_n{α:Type}{a b:α}{l r l' r':T α}{i:Nat}{v:α}(h0:i=0->b=v/\l'=l/\r'=r)(h1:∀j,i=j+1->b=a/\(if j%2=0 then(∀m,l'.get m=if m=j/2 then some v else l.get m)/\r'=r else l'=l/\∀m,r'.get m=if m=j/2 then some v else r.get m)) :
  ∀m,(T.nd b l' r').get m=if m=i then some v else(T.nd a l r).get m:=by
 intro m;cases i with
 | zero=>
  obtain⟨rfl,rfl,rfl⟩:=h0 rfl;cases m with
  | zero=>rfl
  | succ m=>rfl
 | succ j=>
  obtain⟨rfl,h⟩:=h1 j rfl;cases m with
  | zero=>rfl
  | succ m=>
   grind[get_s]
theorem T.ins_ok{α:Type}:∀(t:T α) (i:Nat) (v:α) (k:T α->Bool),t.ins i v k=true->∃t',k t'=true/\∀m,t'.get m=if m=i then some v else t.get m
 | .e,0,v,k,h=>⟨_,h,fun m=>by
   cases m with
   | zero=>rfl
   | succ m=>grind[get_s,get_e]⟩
 | .e,i+1,v,k,h=>by cases h
 | .nd a l r,0,v,k,h=>⟨_,h,T.get_n (fun _=>⟨rfl,rfl,rfl⟩) (fun j hj=>by cases hj)⟩
 | .nd a l r,j+1,v,k,h=>by
  have h:bB (Nat.beq (j%2) 0) (l.ins (j/2) v (fun l'=>k (.nd a l' r))) (r.ins (j/2) v (fun r'=>k (.nd a l r')))=true:=h;refine dr h (fun hb h=>?_) (fun hb h=>?_)
  ·obtain⟨t',h1,h2⟩:=T.ins_ok l _ _ _ h
   refine⟨_,h1,T.get_n (fun h=>by cases h) fun m hm=>?_⟩
   simp_all
  ·obtain⟨t',h1,h2⟩:=T.ins_ok r _ _ _ h
   refine⟨_,h1,T.get_n (fun h=>by cases h) fun m hm=>?_⟩
   grind[Nat.ne_of_beq_eq_false]
theorem T.path_ok{α:Type}{d v:α}:∀(f i:Nat) (k:T α->Bool),T.path d v f i k=true->∃t',k t'=true/\t'.get i=some v/\∀m,m≠i->t'.get m=none\/m<i/\t'.get m=some d
 | 0,i,k,h=>by cases h
 | f+1,0,k,h=>⟨_,h,rfl,fun m hm=>by
   obtain⟨m,rfl⟩:∃q,m=q+1:=⟨m-1,byO⟩
   grind[get_s,get_e]⟩
 | f+1,j+1,k,h=>by
  obtain⟨t,h1,h2,h3⟩:=T.path_ok f (j/2) _ (show T.path d v f (j/2) (fun t=>bB (Nat.beq (j%2) 0) (k (.nd d t .e)) (k (.nd d .e t)))=true from h);refine dr h1 (fun hb h=>?_) (fun hb h=>?_)
  ·have hb:=Nat.eq_of_beq_eq_true hb
   refine⟨_,h,by grind[get_s],fun m hm=>?_⟩;cases m with
   | zero=>exact .inr ⟨byO,rfl⟩
   | succ m=>
    grind[get_s,get_e]
  ·have hb:=Nat.ne_of_beq_eq_false hb
   refine⟨_,h,by grind[get_s],fun m hm=>?_⟩;cases m with
   | zero=>exact .inr ⟨byO,rfl⟩
   | succ m=>
    grind[get_s,get_e]
theorem T.insD_ok{α:Type}{d:α}:∀(t:T α) (i:Nat) (v:α) (k:T α->Bool),t.insD d i v k=true->∃t',k t'=true/\t'.get i=some v/\∀m,m≠i->t'.get m=t.get m\/m<i/\t'.get m=some d
 | .e,i,v,k,h=>by
  obtain⟨t,h1,h2,h3⟩:=T.path_ok 40 i k h
  grind[get_e]
 | .nd a l r,0,v,k,h=>⟨_,h,rfl,fun m hm=>by
   obtain⟨m,rfl⟩:∃q,m=q+1:=⟨m-1,byO⟩
   grind[get_s]⟩
 | .nd a l r,j+1,v,k,h=>by
  have h:bB (Nat.beq (j%2) 0) (l.insD d (j/2) v (fun l'=>k (.nd a l' r))) (r.insD d (j/2) v (fun r'=>k (.nd a l r')))=true:=h;refine dr h (fun hb h=>?_) (fun hb h=>?_)
  ·have hb:=Nat.eq_of_beq_eq_true hb
   obtain⟨t',h1,h2,h3⟩:=T.insD_ok l _ _ _ h;refine⟨_,h1,by grind[get_s],fun m hm=>?_⟩;cases m with
   | zero=>exact .inl rfl
   | succ m=>
    grind[get_s]
  ·have hb:=Nat.ne_of_beq_eq_false hb
   obtain⟨t',h1,h2,h3⟩:=T.insD_ok r _ _ _ h;refine⟨_,h1,by grind[get_s],fun m hm=>?_⟩;cases m with
   | zero=>exact .inl rfl
   | succ m=>
    grind[get_s]
theorem T.set_ok{α:Type}:∀(t:T α) (i:Nat) (v:α) (k:T α->Bool),t.set i v k=true->∃t',k t'=true/\t.get i≠none/\∀m,t'.get m=if m=i then some v else t.get m
 | .e,i,v,k,h=>by cases h
 | .nd a l r,0,v,k,h=>⟨_,h,by grind[get_z],T.get_n (fun _=>⟨rfl,rfl,rfl⟩) (fun j hj=>by cases hj)⟩
 | .nd a l r,j+1,v,k,h=>by
  have h:bB (Nat.beq (j%2) 0) (l.set (j/2) v (fun l'=>k (.nd a l' r))) (r.set (j/2) v (fun r'=>k (.nd a l r')))=true:=h;refine dr h (fun hb h=>?_) (fun hb h=>?_)
  ·obtain⟨t',h1,h0,h2⟩:=T.set_ok l _ _ _ h
   refine⟨_,h1,by grind[get_s,Nat.eq_of_beq_eq_true],T.get_n (fun h=>by cases h) fun m hm=>?_⟩
   simp_all
  ·obtain⟨t',h1,h0,h2⟩:=T.set_ok r _ _ _ h
   refine⟨_,h1,by grind[get_s,Nat.ne_of_beq_eq_false],T.get_n (fun h=>by cases h) fun m hm=>?_⟩
   grind[Nat.ne_of_beq_eq_false]
def Rep{α:Type}(t:T α)(l:List α):Prop:=∀i,t.get i=l[i]?
theorem Gm{α:Type}:Rep (T.e:T α) []:=fun i=>by rfl
theorem T.set_rep{α:Type}{t:T α}{l:List α}(r:Rep t l){i:Nat}{v:α}{k:T α->Bool}(h:t.set i v k=true):∃t',k t'=true/\i<l.length/\Rep t' (l.set i v):=by
 obtain⟨t',h1,h0,h2⟩:=T.set_ok _ _ _ _ h;rw[r i]at h0;have hi:i<l.length:=by
  simp_all
 refine⟨t',h1,hi,fun m=>?_⟩;rw[h2 m,r m,List.getElem?_set]
 grind
theorem T.ins_rep{α:Type}{t:T α}{l:List α}(r:Rep t l){v:α}{k:T α->Bool}(h:t.ins l.length v k=true):∃t',k t'=true/\Rep t' (l++[v]):=by
 obtain⟨t',h1,h2⟩:=T.ins_ok _ _ _ _ h;refine⟨t',h1,fun m=>?_⟩;rw[h2 m,r m]
 grind
theorem T.insL_rep{α:Type}:∀(vs:List α) {t:T α} {l:List α} (_:Rep t l) {n:Nat} (_:n=l.length) {k:T α->Bool} (_:T.insL vs n t k=true),∃t',k t'=true/\Rep t' (l++vs)
 | [],t,l,r,n,hn,k,h=>⟨t,h,by simpa using r⟩
 | v::vs,t,l,r,n,hn,k,h=>by
  subst hn;obtain⟨t',h1,r1⟩:=T.ins_rep r h;obtain⟨t2,h2,r2⟩:=T.insL_rep vs r1 (by simp) h1
  grind
def wO{α:Type}(c:List α)(o:Nat)(vs:List α):List α:=c.take o++(vs++c.drop (o+vs.length))
theorem D2{α:Type}(v:α)(vs:List α)(c:List α)(o:Nat)(h:o<c.length):wO (c.set o v) (o+1) vs=wO c o (v::vs):=by
 grind[wO,List.take_succ_eq_append_getElem,List.take_set_of_le,List.drop_set_of_lt]
theorem T.setL_rep{α:Type}:∀(vs:List α) {t:T α} {l:List α} (_:Rep t l) {o:Nat} {k:T α->Bool} (_:T.setL vs o t k=true),∃t',k t'=true/\Rep t' (wO l o vs)
 | [],t,l,r,o,k,h=>⟨t,h,by simp_all[wO]⟩
 | v::vs,t,l,r,o,k,h=>by
  obtain⟨t',h1,ho,r1⟩:=T.set_rep r h;obtain⟨t2,h2,r2⟩:=T.setL_rep vs r1 h1
  grind[D2]
theorem T.rd_rep{α:Type}{t:T α}{l:List α}(r:Rep t l)(o:Nat):∀(n:Nat) (acc:List α) {k:List α->Bool},t.rd o n acc k=true->∃c,c.length=n/\k (c++acc)=true/\(n=0\/o+n<=l.length)/\c=(l.drop o).take n
 | 0,acc,k,h=>⟨[],rfl,h,.inl rfl,by simp⟩
 | n+1,acc,k,h=>by
  have h:oB (t.get (o+n)) (fun v=>t.rd o n (v::acc) k)=true:=h;obtain⟨v,hv,h⟩:=qM h;obtain⟨c,h1,h2,h3,h4⟩:=T.rd_rep r o n _ h;rw[r]at hv;obtain⟨hl,hv⟩:=List.getElem?_eq_some_iff.1 hv;refine⟨c++[v],by simp[h1],by simp_all,.inr byO,?_⟩
  grind[List.take_succ_eq_append_getElem]
theorem ME{α:Type}{v:α}{l r:T α}{m:Nat}(hl:Rep l (List.replicate ((m+1)/2) v))(hr:Rep r (List.replicate (m/2) v)):Rep (T.nd v l r) (List.replicate (m+1) v):=by
 intro i;cases i with
 | zero=>rfl
 | succ j=>
  rw[T.get_s,hl,hr]
  grind
theorem T.rep_rep{α:Type}(v:α):∀(f n:Nat) {k:T α->Bool},T.rep v f n k=true->∃t,k t=true/\Rep t (List.replicate n v)
 | 0,n,k,h=>by cases h
 | f+1,0,k,h=>⟨.e,h,Gm⟩
 | f+1,m+1,k,h=>by
  have h:T.rep v f (m/2) (fun r=>bB (Nat.beq (m%2) 0) (k (.nd v r r)) (r.ins (m/2) v (fun l=>k (.nd v l r))))=true:=h;obtain⟨r,h,hr⟩:=T.rep_rep v f _ h;refine dr h (fun hb h=>?_) (fun hb h=>?_)
  ·grind[Nat.eq_of_beq_eq_true,ME]
  ·have hb:=Nat.ne_of_beq_eq_false hb
   have h2:r.ins (List.replicate (m/2) v).length v (fun l=>k (.nd v l r))=true:=by simpa using h
   obtain⟨l,h1,hl⟩:=T.ins_rep hr h2;exact⟨_,h1,ME (by rw[show(m+1)/2=m/2+1 by omega,List.replicate_succ'];exact hl) hr⟩
theorem gK(l:List FV):toL l=l.map toV:=by
 induction l with
 | nil=>rfl
 | cons v l ih=>grind[toL]
theorem Dt{b:Bool}{k:FV->Bool}(h:Ka b k=true):∃x,toV x=.bool b/\k x=true:=by cases b<;>exact⟨_,rfl,h⟩
theorem Ht{kd:IntKind}{z:Int}{k:FV->Bool}(h:Pq kd z k=true):∃x,toV x=.int kd z/\k x=true:=by
 cases z with
 | ofNat n=>exact⟨.i kd n,rfl,by have h:fN n (fun n=>k (.i kd n))=true:=h;grind[fG]⟩
 | negSucc n=>exact⟨.o (.int kd (.negSucc n)),rfl,by have h:fN n (fun n=>k (.o (.int kd (.negSucc n))))=true:=h;grind[fG]⟩
theorem Hu{a:Option Addr}{k:FV->Bool}(h:Ps a k=true):∃x,toV x=.pointer a/\k x=true:=by
 rcases a with _|⟨b,o,_|z⟩
 ·exact⟨_,rfl,h⟩
 ·have h:fN b (fun b=>fN o fun o=>k (.p b o))=true:=h
  simp only[fG]at h;exact⟨_,rfl,h⟩
 ·exact⟨_,rfl,h⟩
theorem Hv{a:Option Addr}{l c:Nat}{k:FV->Bool}(h:Mm a l c k=true):∃x,toV x=.slice a l c/\k x=true:=by
 unfold Mm at h;simp only[fG]at h;rcases a with _|⟨b,o,_|z⟩
 ·exact⟨_,rfl,h⟩
 ·exact⟨_,rfl,h⟩
 ·exact⟨_,rfl,h⟩
theorem wC{v:Value}{k:FV->Bool}(h:ofV v k=true):∃x,toV x=v/\k x=true:=by
 cases v
 case bool b=>exact Dt h
 case int kd z=>exact Ht h
 case pointer a=>exact Hu h
 case slice a l c=>exact Hv h
 all_goals exact⟨_,rfl,h⟩
theorem ki:∀{l:List Value} {k:List FV->Bool},ofL l k=true->∃x,toL x=l/\k x=true
 | [],k,h=>⟨[],rfl,h⟩
 | v::l,k,h=>by
  obtain⟨x,hx,h1⟩:=wC h;obtain⟨xs,hxs,h2⟩:=ki h1;exact⟨x::xs,by rw[<-hx,<-hxs];rfl,h2⟩
theorem m7(l:List FV):(toL l).length=l.length:=by simp[gK]
theorem wo(l m:List FV):toL (l++m)=toL l++toL m:=by simp[gK]
theorem qZ{p:FV->Bool}:∀{l:List FV} {k:Bool},Hw p l k=true->(l.all p=true)/\k=true
 | [],k,h=>⟨rfl,h⟩
 | v::l,k,h=>by
  obtain⟨h1,h2⟩:=eJ h;obtain⟨h3,h4⟩:=qZ h2
  simp_all
theorem J7{x:FV}(h:GY x=true):(toV x).oneCell'=true:=by cases x<;>first|rfl|exact h
theorem wH{l:List FV}(h:l.all GY=true):oneCells (toL l)=true:=by
 grind[gK,oneCells,J7]
def RO:Option Blk->Option (Option (List Value))->Prop
 | some (.mk m u),some (some c)=>∃l,Rep u l/\l.length=m/\c=toL l
 | some .no,some none=>True
 | some .un,some _=>True
 | none,_=>True
 | _,_=>False
def RH(F:FH)(H:Heap):Prop:=∃t,F=.mk H.length t/\∀b,RO (t.get b) H[b]?
theorem RH.size{F:FH}{H:Heap}(r:RH F H):F.size=H.length:=by obtain⟨t,rfl,_⟩:=r;rfl
theorem rC{F:FH}{H:Heap}(r:RH F H){b:Nat}{k:Nat->T FV->Bool}(h:F.blk b k=true):∃u l,k l.length u=true/\Rep u l/\H.get b=some (toL l)/\b<H.length:=by
 obtain⟨t,rfl,hr⟩:=r;obtain⟨x,hx,h⟩:=qM h;have:=hr b;rw[hx]at this;rcases x with ⟨m,u⟩|_|_
 ·rcases hb:H[b]? with _|_|c
  ·rw[hb]at this;exact this.elim
  ·rw[hb]at this;exact this.elim
  ·rw[hb]at this
   obtain⟨l,r1,rfl,rfl⟩:=this
   grind[Heap.get]
 all_goals simp_all
theorem CI{F:FH}{H:Heap}(r:RH F H){b:Nat}{x:Blk}{y:Option (List Value)}(hx:RO (some x) (some y)){k:FH->Bool}(h:F.setB b x k=true):∃F',k F'=true/\RH F' (H.set b y):=by
 obtain⟨t,rfl,hr⟩:=r;obtain⟨t',h1,h0,h2⟩:=T.set_ok _ _ _ _ h;refine⟨_,h1,t',by simp,fun i=>?_⟩;have hb:b<H.length:=by
  apply Decidable.byContradiction;intro hc;have:=hr b;rw[av₀ byO]at this;rcases hg:t.get b with _|_|_|_
  ·exact h0 hg
  ·rw[hg]at this;exact this
  ·rw[hg]at this;exact this
  ·rw[hg]at this;exact this
 grind
theorem wM{F:FH}{H:Heap}(r:RH F H){x:Blk}{y:Option (List Value)}(hx:RO (some x) (some y)){k:Nat->FH->Bool}(h:F.push x k=true):∃F',k H.length F'=true/\RH F' (H++[y]):=by
 obtain⟨t,rfl,hr⟩:=r;obtain⟨t',h1,h2,h3⟩:=T.insD_ok _ _ _ _ h;refine⟨_,h1,t',by simp,fun i=>?_⟩;by_cases hi:i=H.length
 ·simp_all
 ·by_cases hl:i<H.length
  ·rw[ax₀ hl]
   rcases h3 i hi with h|⟨-,h⟩
   ·grind
   ·rw[h,bc₀ hl];exact trivial
  grind
theorem CA{F:FH}{H:Heap}(r:RH F H){b o n:Nat}{k:List FV->Bool}(h:F.rd b o n k=true):∃l,k l=true/\l.length=n/\H.cells b o n=some (toL l):=by
 obtain⟨u,l,h,r1,hg,_⟩:=rC r h;obtain⟨hn,h⟩:=eJ h;obtain⟨c,h1,h2,_,h4⟩:=T.rd_rep r1 o n [] h;rw[List.append_nil]at h2;refine⟨c,h2,h1,?_⟩
 simp_all[Heap.cells,gK]
theorem Hm{F:FH}{H:Heap}(r:RH F H){lo b o:Nat}{vs:List FV}{k:FH->Bool}(h:F.wr lo b o vs k=true):∃F' H',k F'=true/\H.put lo b o (toL vs)=some H'/\RH F' H':=by
 obtain⟨hlo,h⟩:=eJ h;obtain⟨u,l,h,r1,hg,hb⟩:=rC r h;obtain⟨hn,h⟩:=eJ h;have hn:o+vs.length<=l.length:=Nat.le_of_ble_eq_true hn;obtain⟨t',h1,r2⟩:=T.setL_rep vs r1 h;have hl:(wO l o vs).length=l.length:=by grind[wO]
 obtain⟨F',h2,r3⟩:=CI r (x:=.mk l.length t') (y:=some (putCells (toL l) o (toL vs))) ⟨_,r2,hl,by simp[putCells,wO,gK]⟩ h1
 grind[Heap.put,m7,Nat.le_of_ble_eq_true]
theorem kG{F:FH}{H:Heap}(r:RH F H){vs:List FV}{k:Nat->FH->Bool}(h:F.pushL vs k=true):∃F',k H.length F'=true/\RH F' (H++[some (toL vs)]):=by
 obtain⟨t,h,r1⟩:=T.insL_rep vs Gm rfl h;rw[fG]at h;exact wM r (x:=.mk vs.length t) (y:=some (toL vs)) ⟨vs,by simp_all,rfl,rfl⟩ h
theorem jZ{β:Type}{l:List β}{f:β->Bool}(h:l1 l f false=true):∃x,l=[x]/\f x=true:=by
 rcases l with _|⟨x,_|⟨y,r⟩⟩
 ·cases h
 ·exact⟨x,rfl,h⟩
 ·cases h
theorem sG{β:Type}{l:List β}{f:β->β->Bool}{d:Bool}(h:l2 l f d=true):(∃x y,l=[x,y]/\f x y=true)\/d=true:=by
 rcases l with _|⟨x,_|⟨y,_|⟨z,r⟩⟩⟩
 ·exact .inr h
 ·exact .inr h
 ·exact .inl ⟨x,y,rfl,h⟩
 ·exact .inr h
theorem tj{x:FV}{f:IntKind->Nat->Bool}{d:Bool}(h:cI x f d=true):(∃k n,x=.i k n/\f k n=true)\/d=true:=by
 cases x<;>first|exact .inl ⟨_,_,rfl,h⟩|exact .inr h
theorem Lm{x:FV}{f:Bool->Bool}{d:Bool}(h:cB x f d=true):(∃b,x=.b b/\f b=true)\/d=true:=by
 cases x<;>first|exact .inl ⟨_,rfl,h⟩|exact .inr h
theorem xF{x:FV}{f:Nat->Nat->Bool}{d:Bool}(h:cP x f d=true):(∃b o,x=.p b o/\f b o=true)\/d=true:=by
 cases x<;>first|exact .inl ⟨_,_,rfl,h⟩|exact .inr h
theorem tl{x:FV}{f:Nat->Nat->Nat->Nat->Option Nat->Bool}{d:Bool}(h:cS x f d=true):(∃b o l c s,x=.s b o l c s/\f b o l c s=true)\/d=true:=by
 cases x<;>first|exact .inl ⟨_,_,_,_,_,rfl,h⟩|exact .inr h
theorem xE{x:FV}{f:Value->Bool}{d:Bool}(h:cO x f d=true):(∃v,x=.o v/\f v=true)\/d=true:=by
 cases x<;>first|exact .inl ⟨_,rfl,h⟩|exact .inr h
theorem tq(b o n:Nat):Heap.cells [] b o n=none:=by simp[Heap.cells,Heap.get]
theorem Fy{o:LOp}{vs:List Value}{H:Heap}{v:Value}(h:aJ o vs []=some v):aJ o vs H=some v:=by
 cases hr:fH o
 ·rw[<-qK hr vs [] H];exact h
 ·cases o<;>simp only[fH]at hr<;>try cases hr
  all_goals
   simp only[aJ]at h ⊢;split at h
   all_goals (try rename_i heq)
   all_goals first
    | (cases heq;done)
    | (simp only[tq]at h;simp at h;done)
    | (split at h<;>simp only[tq]at h<;>simp at h;done)
    | exact h
    | (simp at h;done)
    | (simp only[reduceCtorEq]at h)
theorem ej{o:LOp}{vs:List FV}{F:FH}{H:Heap}{k:FV->Bool}(h:fK o vs F k=true):∃x,aJ o (toL vs) H=some (toV x)/\k x=true:=by
 obtain⟨v,hv,h⟩:=qM h;obtain⟨x,hx,h2⟩:=wC h;subst hx;exact⟨x,Fy hv,h2⟩
theorem Pk{kd:IntKind}{n:Nat}(h:n<=sJ kd):kd.wrap (n:Int)=n:=by
 cases kd<;>simp only[sJ]at h<;>simp[IntKind.wrap,IntKind.bits,IntKind.signed]<;>omega
theorem jf{kd:IntKind}{n:Nat}{k:FV->Bool}{d:Bool}(h:okN kd n k d=true):(kd.wrap (n:Int)=n/\k (.i kd n)=true)\/d=true:=by
 refine dr h (fun hb h=>.inl ?_) (fun _ h=>.inr h);rw[fG]at h;exact⟨Pk (Nat.le_of_ble_eq_true hb),h⟩
theorem mA{kd:IntKind}{n:Nat}(h:n<=sJ kd):n<2^kd.bits:=by
 cases kd<;>simp only[sJ]at h<;>simp[IntKind.bits]<;>omega
theorem EL(kd:IntKind):NG kd=kd.bits:=by cases kd<;>rfl
theorem id_eq{k k':IntKind}(h:Nat.beq (idI k) (idI k')=true):k=k':=by cases k<;>cases k'<;>first|rfl|cases h
theorem HY{b:Bool}{k:FV->Bool}(h:tf b k=true):k (.b b)=true:=by cases b<;>exact h
theorem CR{b:Bool}{k:FV->Bool}(h:tn b k=true):k (.b !b)=true:=by cases b<;>exact h
theorem Bj(a b:Nat):Nat.beq a b=decide (a=b):=by
 by_cases h:a=b
 ·subst h;simp
 ·simp only[h,decide_false];cases hb:Nat.beq a b
  ·rfl
  ·exact absurd (Nat.eq_of_beq_eq_true hb) h
theorem iX(a b:Nat):Nat.ble a b=decide (a<=b):=by
 by_cases h:a<=b
 ·simp only[h,decide_true];exact Nat.ble_eq_true_of_le h
 ·simp only[h,decide_false];cases hb:Nat.ble a b
  ·rfl
  ·exact absurd (Nat.le_of_ble_eq_true hb) h
theorem bvn{n w:Nat}(h:n<2^w):(BitVec.ofInt w (n:Int)).toNat=n:=by
 simp only[BitVec.toNat_ofInt];have:((n:Int)%((2^w:Nat):Int)).toNat=n:=by
  rw[<-Int.natCast_emod,Nat.mod_eq_of_lt h];rfl
 simpa using this
theorem IC{op:BinOp}{kd kd':IntKind}{a b:Nat}{k:FV->Bool}{d:Bool}(hk:lE op=true\/kd=kd')(h:Qw op kd a b k d=true):(∃x,bD op (.int kd a) (.int kd' b)=some (toV x)/\k x=true)\/d=true:=by
 cases op
 case add=>
  obtain rfl:=hk.resolve_left (by simp[lE]);rcases jf h with ⟨h1,h2⟩|h
  ·exact .inl ⟨_,by simpa[bD,bQ,toV]using h1,h2⟩
  ·exact .inr h
 case sub=>
  obtain rfl:=hk.resolve_left (by simp[lE]);refine dr h (fun hb h=>?_) (fun _ h=>.inr h);rcases jf h with ⟨h1,h2⟩|h
  ·have hb:b<=a:=Nat.le_of_ble_eq_true hb
   have e:((Nat.sub a b:Nat):Int)=(a:Int)-b:=Int.ofNat_sub hb;rw[e]at h1;exact .inl ⟨_,by simp only[bD,bQ,toV,if_true,h1];rw[<-e];rfl,h2⟩
  ·exact .inr h
 case mul=>
  obtain rfl:=hk.resolve_left (by simp[lE]);rcases jf h with ⟨h1,h2⟩|h
  ·exact .inl ⟨_,by simpa[bD,bQ,toV]using h1,h2⟩
  ·exact .inr h
 case quo=>
  obtain rfl:=hk.resolve_left (by simp[lE]);refine dr h (fun _ h=>.inr h) (fun hb h=>?_);rcases jf h with ⟨h1,h2⟩|h
  ·have hb:b≠0:=Nat.ne_of_beq_eq_false hb
   have e:(a:Int).tdiv b=((Nat.div a b:Nat):Int):=rfl;exact .inl ⟨_,by simp only[bD,bQ,toV,if_true,e,h1];simp[hb],h2⟩
  ·exact .inr h
 case rem=>
  obtain rfl:=hk.resolve_left (by simp[lE]);refine dr h (fun _ h=>.inr h) (fun hb h=>?_);rcases jf h with ⟨h1,h2⟩|h
  ·have hb:b≠0:=Nat.ne_of_beq_eq_false hb
   exact .inl ⟨_,by simp[bD,bQ,toV,hb];rfl,h2⟩
  ·exact .inr h
 case and=>
  obtain rfl:=hk.resolve_left (by simp[lE]);refine dr h (fun ha h=>?_) (fun _ h=>.inr h);refine dr h (fun hb h=>?_) (fun _ h=>.inr h);rcases jf h with ⟨h1,h2⟩|h
  ·refine .inl ⟨_,?_,h2⟩
   have h1:kd.wrap ((a &&& b:Nat):Int)=((a &&& b:Nat):Int):=h1;simp only[bD,bQ,if_true,toV,BitVec.toNat_and,bvn (mA (Nat.le_of_ble_eq_true ha)),bvn (mA (Nat.le_of_ble_eq_true hb)),h1];rfl
  ·exact .inr h
 case or=>
  obtain rfl:=hk.resolve_left (by simp[lE]);refine dr h (fun ha h=>?_) (fun _ h=>.inr h);refine dr h (fun hb h=>?_) (fun _ h=>.inr h);rcases jf h with ⟨h1,h2⟩|h
  ·refine .inl ⟨_,?_,h2⟩
   have h1:kd.wrap ((a ||| b:Nat):Int)=((a ||| b:Nat):Int):=h1;simp only[bD,bQ,if_true,toV,BitVec.toNat_or,bvn (mA (Nat.le_of_ble_eq_true ha)),bvn (mA (Nat.le_of_ble_eq_true hb)),h1];rfl
  ·exact .inr h
 case xor=>
  obtain rfl:=hk.resolve_left (by simp[lE]);refine dr h (fun ha h=>?_) (fun _ h=>.inr h);refine dr h (fun hb h=>?_) (fun _ h=>.inr h);rcases jf h with ⟨h1,h2⟩|h
  ·refine .inl ⟨_,?_,h2⟩
   have h1:kd.wrap ((a ^^^ b:Nat):Int)=((a ^^^ b:Nat):Int):=h1;simp only[bD,bQ,if_true,toV,BitVec.toNat_xor,bvn (mA (Nat.le_of_ble_eq_true ha)),bvn (mA (Nat.le_of_ble_eq_true hb)),h1];rfl
  ·exact .inr h
 case andNot=>exact .inr h
 case shl=>
  refine dr h (fun hb h=>?_) (fun _ h=>.inr h);have hb:=Nat.le_of_ble_eq_true hb;rw[EL]at hb;rcases jf h with ⟨h1,h2⟩|h
  ·refine .inl ⟨_,?_,h2⟩
   have h1:kd.wrap ((a*2^b:Nat):Int)=((a*2^b:Nat):Int):=h1;have e:(a:Int)*2^b=((a*2^b:Nat):Int):=by simp
   simp only[bD,gz,toV,Int.toNat_natCast,Nat.min_eq_left hb,e,h1];rw[if_neg byO];rfl
  ·exact .inr h
 case shr=>
  refine dr h (fun hb h=>?_) (fun _ h=>.inr h);have hb:=Nat.le_of_ble_eq_true hb;rw[EL]at hb;rw[fG]at h;refine .inl ⟨_,?_,h⟩;have e:(a:Int).fdiv (2^b)=((a/2^b:Nat):Int):=by
   rw[Int.fdiv_eq_ediv_of_nonneg _ (by exact_mod_cast Nat.zero_le _)];simp
  simp only[bD,gz,toV,Int.toNat_natCast,Nat.min_eq_left hb,e];rw[if_neg byO];rfl
 case eql=>
  obtain rfl:=hk.resolve_left (by simp[lE]);refine .inl ⟨_,?_,HY h⟩;simp only[bD,bQ,if_true,toV,Bj,ab₀,Value.bool.injEq];by_cases e:a=b
  ·simp[e]
  ·simp[e];omega
 case neq=>
  obtain rfl:=hk.resolve_left (by simp[lE]);refine .inl ⟨_,?_,CR h⟩;simp only[bD,bQ,if_true,toV,Bj,ab₀,Value.bool.injEq];by_cases e:a=b
  ·simp[e,bne]
  ·simp[e,bne];omega
 case lss=>
  obtain rfl:=hk.resolve_left (by simp[lE]);refine .inl ⟨_,?_,CR h⟩;simp only[bD,bQ,if_true,toV,iX,ab₀,Value.bool.injEq];by_cases e:a<b<;>simp[e]<;>omega
 case leq=>
  obtain rfl:=hk.resolve_left (by simp[lE]);refine .inl ⟨_,?_,HY h⟩;simp only[bD,bQ,if_true,toV,iX,ab₀,Value.bool.injEq];by_cases e:a<=b<;>simp[e]
 case gtr=>
  obtain rfl:=hk.resolve_left (by simp[lE]);refine .inl ⟨_,?_,CR h⟩;simp only[bD,bQ,if_true,toV,iX,ab₀,Value.bool.injEq];by_cases e:a<=b<;>simp[e]<;>omega
 case geq=>
  obtain rfl:=hk.resolve_left (by simp[lE]);refine .inl ⟨_,?_,HY h⟩;simp only[bD,bQ,if_true,toV,iX,ab₀,Value.bool.injEq];by_cases e:b<=a<;>simp[e]
theorem kv(x:FV):toL [x]=[toV x]:=rfl
theorem yy(x y:FV):toL [x,y]=[toV x,toV y]:=rfl
theorem FT{o:LOp}{vs:List FV}{F:FH}{H:Heap}(r:RH F H){k:FV->Bool}(h:Lw o vs F k=true):∃x,aJ o (toL vs) H=some (toV x)/\k x=true:=by
 cases o
 case mv=>obtain⟨x,rfl,h1⟩:=jZ h;exact⟨x,rfl,h1⟩
 case bin op=>
  rcases sG h with ⟨x,y,rfl,h1⟩|h
  ·rcases tj h1 with ⟨kd,a,rfl,h2⟩|h
   ·rcases tj h2 with ⟨kd',b,rfl,h3⟩|h
    ·refine dr h3 (fun hb h=>?_) (fun _ h=>ej h)
     have hk:lE op=true\/kd=kd':=by
      cases hs:lE op
      ·rw[hs]at hb;exact .inr (id_eq hb)
      ·exact .inl rfl
     rcases IC hk h with ⟨x,h1,h2⟩|h
     ·exact⟨x,h1,h2⟩
     ·exact ej h
    ·exact ej h
   ·exact ej h
  ·exact ej h
 case ld n agg=>
  cases agg
  ·obtain⟨x,rfl,h1⟩:=jZ h
   obtain⟨b,o,rfl,h2⟩:=(xF h1).resolve_right (by simp);obtain⟨u,l,h3,r1,hg,_⟩:=rC r h2;obtain⟨x,hx,h4⟩:=qM h3;rw[r1]at hx;obtain⟨ho,he⟩:=List.getElem?_eq_some_iff.1 hx;refine⟨x,?_,h4⟩;simp[kv,toV,aJ,Heap.cells,hg,gK,show o+1<=l.length from ho,List.head?_take,hx]
  ·obtain⟨x,rfl,h1⟩:=jZ h
   obtain⟨b,o,rfl,h2⟩:=(xF h1).resolve_right (by simp);obtain⟨l,h3,_,hc⟩:=CA r h2;exact⟨_,by simp[kv,toV,aJ,hc],h3⟩
 case fAddr off=>
  obtain⟨x,rfl,h1⟩:=jZ h;obtain⟨b,o,rfl,h2⟩:=(xF h1).resolve_right (by simp);rw[fG]at h2;exact⟨_,rfl,h2⟩
 case iAddr sz=>
  obtain⟨x,y,rfl,h1⟩:=(sG h).resolve_right (by simp);obtain⟨b,o,l,c,s,rfl,h2⟩:=(tl h1).resolve_right (by simp);obtain⟨kd,i,rfl,h3⟩:=(tj h2).resolve_right (by simp);obtain⟨hb,h4⟩:=eJ h3;rw[fG]at h4;have hb:i<l:=Nat.le_of_ble_eq_true hb;refine⟨_,?_,h4⟩;simp[yy,toV,aJ,hb]
 case len=>
  obtain⟨x,rfl,h1⟩:=jZ h;rcases tl h1 with ⟨b,o,l,c,s,rfl,h2⟩|h2
  ·exact⟨_,rfl,h2⟩
  ·exact ej h2
 case b2s=>
  obtain⟨x,rfl,h1⟩:=jZ h;rcases tl h1 with ⟨b,o,l,c,s,rfl,h2⟩|h2
  ·obtain⟨m,h3,_,hc⟩:=CA r h2
   obtain⟨w,hw,h4⟩:=qM h3;exact⟨_,by simp[kv,toV,aJ,hc,hw],h4⟩
  ·exact ej h2
 case nilChk=>
  obtain⟨x,rfl,h1⟩:=jZ h;rcases xF h1 with ⟨b,o,rfl,h2⟩|h2
  ·exact⟨_,rfl,h2⟩
  ·exact ej h2
 case un u=>
  obtain⟨x,rfl,h1⟩:=jZ h;rcases Lm h1 with ⟨b,rfl,h2⟩|h2
  ·cases u
   case not=>exact⟨_,rfl,CR h2⟩
   all_goals exact ej h2
  ·exact ej h2
 case cvt kd=>
  obtain⟨x,rfl,h1⟩:=jZ h;rcases tj h1 with ⟨kd',n,rfl,h2⟩|h2
  ·rcases jf h2 with ⟨h3,h4⟩|h4
   ·exact⟨_,by simp only[kv,toV,aJ];rw[show Int.ofNat n=(n:Int) from rfl,h3],h4⟩
   ·exact ej h4
  ·exact ej h2
 all_goals exact ej (F:=F) h
def RS(F:FS)(S:List Value):Prop:=∃l,Rep F l/\S=toL l
theorem RS.get{F:FS}{S:List Value}(r:RS F S){j:Nat}{x:FV}(h:F.get j=some x):S[j]?=some (toV x):=by
 obtain⟨l,r,rfl⟩:=r;rw[r]at h;simp[gK,h]
theorem RS.set{F:FS}{S:List Value}(r:RS F S){j:Nat}{x:FV}{k:FS->Bool}(h:F.set j x k=true):∃F',k F'=true/\RS F' (S.set j (toV x)):=by
 obtain⟨l,r,rfl⟩:=r;obtain⟨F',h1,_,r1⟩:=T.set_rep r h;exact⟨F',h1,_,r1,by simp[gK]⟩
def Tj(e:E):Prop:=∀{F:FS} {S:List Value} {A:FH} {H:Heap} {acc:List FV} {k:List FV->Bool},RS F S->RH A H->fev e F A acc k=true->∃xs,ev S H e=some (toL xs)/\k (xs++acc)=true
theorem AD{l:List FV}{a b:Bool}(h:isB l a b=true):(l=[.b true]/\a=true)\/(l=[.b false]/\b=true):=by
 obtain⟨x,rfl,h1⟩:=jZ h;obtain⟨c,rfl,h2⟩:=(Lm h1).resolve_right (by simp);refine dr h2 (fun hc h=>.inl ?_) (fun hc h=>.inr ?_)
 ·subst hc;exact⟨rfl,h⟩
 ·subst hc;exact⟨rfl,h⟩
theorem ri(e:E):Tj e:=by
 induction e with
 | var j=>
  intro F S A H acc k rs rh h;obtain⟨x,hx,h1⟩:=qM h;exact⟨[x],by simp[ev,rs.get hx,kv],h1⟩
 | cst v=>
  intro F S A H acc k rs rh h;obtain⟨x,hx,h1⟩:=wC h;exact⟨[x],by simp[ev,kv,hx],h1⟩
 | nil=>intro F S A H acc k rs rh h;exact⟨[],rfl,h⟩
 | cons a b iha ihb=>
  intro F S A H acc k rs rh h;obtain⟨ys,h1,h2⟩:=ihb rs rh h;obtain⟨xs,h3,h4⟩:=iha rs rh h2;exact⟨xs++ys,by simp[ev,h1,h3,wo],by rw[ba₀];exact h4⟩
 | node o a ih=>
  intro F S A H acc k rs rh h;obtain⟨xs,h1,h2⟩:=ih rs rh h;rw[List.append_nil]at h2;obtain⟨x,h3,h4⟩:=FT rh h2;exact⟨[x],by simp[ev,h1,h3,kv],h4⟩
 | pick c a b ihc iha ihb=>
  intro F S A H acc k rs rh h;obtain⟨xs,h1,h2⟩:=ihc rs rh h;rw[List.append_nil]at h2;rcases AD h2 with ⟨rfl,h3⟩|⟨rfl,h3⟩
  ·obtain⟨ys,h4,h5⟩:=iha rs rh h3
   exact⟨ys,by simp[ev,h1,h4,kv,toV],h5⟩
  ·obtain⟨ys,h4,h5⟩:=ihb rs rh h3
   exact⟨ys,by simp[ev,h1,h4,kv,toV],h5⟩
theorem qg{e:E}{F:FS}{S:List Value}{A:FH}{H:Heap}(rs:RS F S)(rh:RH A H){k:FV->Bool}(h:zn e F A k=true):∃x,ev1 S H e=some (toV x)/\k x=true:=by
 obtain⟨xs,h1,h2⟩:=ri e rs rh h;rw[List.append_nil]at h2;obtain⟨x,rfl,h3⟩:=jZ h2;exact⟨x,by simp[ev1,h1,kv],h3⟩
theorem rp{F:FS}{S:List Value}{A:FH}{H:Heap}(rs:RS F S)(rh:RH A H):∀(l:List (Nat×E)) {G:FS} {B:List Value} {k:FS->Bool},RS G B->BV l F A G k=true->∃vs G',evSets S H l=some vs/\RS G' (setAll B vs)/\k G'=true
 | [],G,B,k,rg,h=>⟨[],G,rfl,rg,h⟩
 | (j,e)::l,G,B,k,rg,h=>by
  obtain⟨x,h1,h2⟩:=qg rs rh (show zn e F A (fun v=>G.set j v fun A'=>BV l F A A' k)=true from h);obtain⟨G1,h3,r1⟩:=rg.set h2;obtain⟨vs,G2,h4,r2,h5⟩:=rp rs rh l r1 h3;exact⟨(j,toV x)::vs,G2,by simp[evSets,h1,h4],r2,h5⟩
theorem vR{F:FS}{S:List Value}{A:FH}{H:Heap}(rs:RS F S)(rh:RH A H):∀(l:List E) {k:Bool},I3 l F A k=true->evChk S H l=true/\k=true
 | [],k,h=>⟨rfl,h⟩
 | e::l,k,h=>by
  obtain⟨xs,h1,h2⟩:=ri e rs rh (show fev e F A [] (fun _=>I3 l F A k)=true from h);obtain⟨h3,h4⟩:=vR rs rh l h2;exact⟨by simp[evChk,h1,h3],h4⟩
theorem zt{F:FS}{S:List Value}{A:FH}{H:Heap}(rs:RS F S)(rh:RH A H):∀(l:PC) {y n:Bool},fpc l F A y n=true->(holds S H l=some true/\y=true)\/(holds S H l=some false/\n=true)
 | [],y,n,h=>.inl ⟨rfl,h⟩
 | (c,w)::l,y,n,h=>by
  obtain⟨xs,h1,h2⟩:=ri c rs rh (show fev c F A [] (fun t=>isB t (bB w (fpc l F A y n) n) (bB w n (fpc l F A y n)))=true from h);rw[List.append_nil]at h2;rcases AD h2 with ⟨rfl,h3⟩|⟨rfl,h3⟩
  ·cases w
   ·exact .inr ⟨by simp[holds,ev1,h1,kv,toV],h3⟩
   ·rcases zt rs rh l h3 with ⟨h4,h5⟩|⟨h4,h5⟩
    ·exact .inl ⟨by simp[holds,ev1,h1,kv,toV,h4],h5⟩
    ·exact .inr ⟨by simp[holds,ev1,h1,kv,toV,h4],h5⟩
  ·cases w
   ·rcases zt rs rh l h3 with ⟨h4,h5⟩|⟨h4,h5⟩
    ·exact .inl ⟨by simp[holds,ev1,h1,kv,toV,h4],h5⟩
    ·exact .inr ⟨by simp[holds,ev1,h1,kv,toV,h4],h5⟩
   ·exact .inr ⟨by simp[holds,ev1,h1,kv,toV],h3⟩
def zH(sem:Option (Value×Heap))(k:FV->FH->Bool):Prop:=∃x A' H',sem=some (toV x,H')/\RH A' H'/\k x A'=true
theorem tp{x:FV}{k:List FV->Bool}(h:zQ x k=true):∃l,toL l=(toV x).cells.toList/\k l=true:=by
 rcases x with _|_|_|_|v
 ·exact⟨_,rfl,h⟩
 ·exact⟨_,rfl,h⟩
 ·exact⟨_,rfl,h⟩
 ·exact⟨_,rfl,h⟩
 ·exact ki h
theorem Dx{lo sz l c n:Nat}{new:List FV}{A:FH}{H:Heap}(rh:RH A H){k:FV->FH->Bool}(h:Ls sz l c new n A k=true):zH (aZ lo sz (.slice none l c) (toL new) n H) k:=by
 refine dr h (fun hb h=>?_) (fun hb h=>?_)
 ·rw[fG]at h
  exact⟨_,A,H,by simp only[aZ,if_pos (show l+n<=c from Nat.le_of_ble_eq_true hb)];rfl,rh,h⟩
 ·obtain⟨h1,h2⟩:=eJ h
  obtain⟨h3,h4⟩:=eJ h2;have h3:=Nat.eq_of_beq_eq_true h3;obtain⟨A',h5,r⟩:=kG rh h4;rw[iX]at hb h1;simp only[ai₀,af₀]at hb h1;have hn:¬ br<l+n:=by unfold br;exact Nat.not_lt.2 h1
  exact⟨_,A',_,by simp only[aZ,if_neg (show ¬ l+n<=c from hb),if_neg hn,if_pos h3];rfl,r,h5⟩
theorem Dy{lo sz b o l c n:Nat}{sp:Option Nat}{new:List FV}{A:FH}{H:Heap}(rh:RH A H){k:FV->FH->Bool}(h:RW lo sz b o l c sp new n A k=true):zH (aZ lo sz (.slice (some ⟨b,o,sp⟩) l c) (toL new) n H) k:=by
 refine dr h (fun hb h=>?_) (fun hb h=>?_)
 ·rw[iX]at hb
  simp only[af₀]at hb;obtain⟨h1,h2⟩:=eJ h;have hs:sp=none\/sp=some sz:=by
   cases sp with
   | none=>exact .inl rfl
   | some z=>exact .inr (by rw[Nat.eq_of_beq_eq_true h1])
  obtain⟨A',H',h3,h4,r⟩:=Hm rh h2;rw[fG]at h3;have h4:H.put lo b (o+l*sz) (toL new)=some H':=h4;exact⟨_,A',H',by simp only[aZ,if_pos (show l+n<=c from hb),if_pos hs,h4];rfl,r,h3⟩
 ·rw[iX]at hb
  simp only[ai₀]at hb;obtain⟨h1,h2⟩:=eJ h;rw[iX]at h1;simp only[af₀]at h1;obtain⟨u,old,h3,r1,hg,hlt⟩:=rC rh h2;have tail:∀{A2:FH} {H2:Heap},RH A2 H2->H2.length=H.length ->
    (fN (Nat.mul l sz) fun ln=>(fun(go:T FV->Bool)=>bB (Nat.beq o 0) (bB (Nat.beq ln old.length) (go u) (bB (Nat.ble ln old.length) (u.rd o ln [] fun l=>T.insL l 0 .e go) false)) (bB (Nat.ble (Nat.add o ln) old.length) (u.rd o ln [] fun l=>T.insL l 0 .e go) false)) fun t=>
     T.insL new ln t fun t=>fN (Nat.add ln new.length) fun m=>A2.push (.mk m t) fun c H=>fN (Nat.add l n) fun l=>k (.s c 0 l l (some sz)) H)=true ->
    ∃old',H.cells b o (l*sz)=some old'/\∃A',k (.s H.length 0 (l+n) (l+n) (some sz)) A'=true/\RH A' (H2++[some (old'++toL new)]):=by
   intro A2 H2 r2 hl h;rw[fG]at h;have fin:∀{t:T FV} {c:List FV},Rep t c->c.length=l*sz->H.cells b o (l*sz)=some (toL c) ->
     (T.insL new (Nat.mul l sz) t fun t=>fN (Nat.add (Nat.mul l sz) new.length) fun m=>A2.push (.mk m t) fun c H=>fN (Nat.add l n) fun l=>k (.s c 0 l l (some sz)) H)=true ->
     ∃old',H.cells b o (l*sz)=some old'/\∃A',k (.s H.length 0 (l+n) (l+n) (some sz)) A'=true/\RH A' (H2++[some (old'++toL new)]):=by
    intro t c hr hc hh h;obtain⟨t2,h5,r5⟩:=T.insL_rep new hr (show Nat.mul l sz=c.length from hc.symm) h;simp only[fG]at h5;obtain⟨A',h6,r6⟩:=wM r2 (x:=.mk (Nat.add (Nat.mul l sz) new.length) t2) (y:=some (toL c++toL new)) ⟨c++new,r5,by rw[as₀,hc];rfl,(wo _ _).symm⟩ h5;rw[hl]at h6;exact⟨_,hh,A',h6,r6⟩
   have rd:∀{g:T FV->Bool},o+l*sz<=old.length->(u.rd o (Nat.mul l sz) [] fun l=>T.insL l 0 .e g)=true->∃t c,Rep t c/\c.length=l*sz/\H.cells b o (l*sz)=some (toL c)/\g t=true:=by
    intro g hle h;obtain⟨c,h5,h6,_,h7⟩:=T.rd_rep r1 o _ [] h;rw[List.append_nil]at h6;obtain⟨t,h8,r8⟩:=T.insL_rep c Gm rfl h6;exact⟨t,c,by simpa using r8,h5,by subst h7;simp only[Heap.cells,hg,m7,if_pos hle];simp[gK],h8⟩
   refine dr h (fun hz h=>?_) (fun hz h=>?_)
   ·have hz:o=0:=Nat.eq_of_beq_eq_true hz
    subst hz;refine dr h (fun hm h=>?_) (fun hm h=>?_)
    ·have hm:l*sz=old.length:=Nat.eq_of_beq_eq_true hm
     refine fin r1 hm.symm ?_ h;simp only[Heap.cells,hg,m7,Nat.zero_add,if_pos (Nat.le_of_eq hm),List.drop_zero];rw[List.take_of_length_le (by rw[m7];omega)]
    ·obtain⟨h5,h6⟩:=eJ h
     obtain⟨t,c,q1,q2,q3,q4⟩:=rd (by rw[Nat.zero_add];exact Nat.le_of_ble_eq_true h5) h6;exact fin q1 q2 q3 q4
   ·obtain⟨h5,h6⟩:=eJ h
    obtain⟨t,c,q1,q2,q3,q4⟩:=rd (Nat.le_of_ble_eq_true h5) h6;exact fin q1 q2 q3 q4
  have hn:¬ br<l+n:=by unfold br;exact Nat.not_lt.2 h1
  cases sp with
  | none=>
   obtain⟨old',h4,A',h5,r5⟩:=tail rh rfl h3;exact⟨_,A',_,by simp only[aZ,if_neg (show ¬ l+n<=c from hb),if_neg hn,h4];rfl,r5,h5⟩
  | some z=>
   obtain⟨hz,h4⟩:=eJ h3;obtain⟨hlo,h5⟩:=eJ h4;obtain⟨A2,h6,r6⟩:=CI rh (x:=.no) (y:=none) trivial h5;obtain⟨old',h7,A',h8,r8⟩:=tail r6 (by simp) h6;exact⟨_,A',_,by simp only[aZ,if_neg (show ¬ l+n<=c from hb),if_neg hn,if_pos (zzi (Nat.eq_of_beq_eq_true hz) (Nat.le_of_ble_eq_true hlo)),h7];rfl,r8,h8⟩
theorem vC{lo sz n:Nat}{s:FV}{new:List FV}{A:FH}{H:Heap}(rh:RH A H){k:FV->FH->Bool}(h:BP lo sz s new n A k=true):zH (aZ lo sz (toV s) (toL new) n H) k:=by
 rcases s with _|_|_|⟨b,o,l,c,sp⟩|v
 ·cases h
 ·cases h
 ·cases h
 ·exact Dy rh h
 ·cases v<;>try cases h
  case slice a l c=>
   cases a
   ·exact Dx rh h
   ·cases h
end Go.Abs
