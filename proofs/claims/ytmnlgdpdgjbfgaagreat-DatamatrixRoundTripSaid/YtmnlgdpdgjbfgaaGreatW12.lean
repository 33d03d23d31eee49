/- Lemmas. -/
import Derived.Test.YtmnlgdpdgjbfgaaGreatW9
set_option linter.all false
namespace Go.Abs
noncomputable section
inductive T (α:Type) where
 | e
 | nd (a:α) (l r:T α)
def oB{α:Type}(o:Option α)(k:α->Bool):Bool:=Option.rec false k o
def bB(b x y:Bool):Bool:=Bool.rec y x b
def T.get{α:Type}(t:T α):Nat->Option α:=
 T.rec (motive:=fun _=>Nat->Option α) (fun _=>none) (fun a _ _ gl gr i=>Nat.rec (some a) (fun j _=>bB' (gl (Nat.div j 2)) (gr (Nat.div j 2)) (Nat.beq (Nat.mod j 2) 0)) i) t
where bB' (x y:Option α) (b:Bool):Option α:=Bool.rec y x b
def T.set{α:Type}(t:T α):Nat->α->(T α->Bool)->Bool:=
 T.rec (motive:=fun _=>Nat->α->(T α->Bool)->Bool) (fun _ _ _=>false)
  (fun a l r il ir i v k=>Nat.rec (k (.nd v l r)) (fun j _=>Bool.rec (ir (Nat.div j 2) v (fun r'=>k (.nd a l r'))) (il (Nat.div j 2) v (fun l'=>k (.nd a l' r))) (Nat.beq (Nat.mod j 2) 0)) i) t
def T.ins{α:Type}(t:T α):Nat->α->(T α->Bool)->Bool:=
 T.rec (motive:=fun _=>Nat->α->(T α->Bool)->Bool) (fun i v k=>Nat.rec (k (.nd v .e .e)) (fun _ _=>false) i)
  (fun a l r il ir i v k=>Nat.rec (k (.nd v l r)) (fun j _=>Bool.rec (ir (Nat.div j 2) v (fun r'=>k (.nd a l r'))) (il (Nat.div j 2) v (fun l'=>k (.nd a l' r))) (Nat.beq (Nat.mod j 2) 0)) i) t
def T.path{α:Type}(d v:α)(f:Nat):Nat->(T α->Bool)->Bool:=
 Nat.rec (motive:=fun _=>Nat->(T α->Bool)->Bool) (fun _ _=>false)
  (fun _ ih i k=>Nat.rec (k (.nd v .e .e)) (fun j _=>ih (Nat.div j 2) (fun t=>Bool.rec (k (.nd d .e t)) (k (.nd d t .e)) (Nat.beq (Nat.mod j 2) 0))) i) f
def T.insD{α:Type}(d:α)(t:T α):Nat->α->(T α->Bool)->Bool:=
 T.rec (motive:=fun _=>Nat->α->(T α->Bool)->Bool) (fun i v k=>T.path d v 40 i k)
  (fun a l r il ir i v k=>Nat.rec (k (.nd v l r)) (fun j _=>Bool.rec (ir (Nat.div j 2) v (fun r'=>k (.nd a l r'))) (il (Nat.div j 2) v (fun l'=>k (.nd a l' r))) (Nat.beq (Nat.mod j 2) 0)) i) t
def T.setL{α:Type}(l:List α):Nat->T α->(T α->Bool)->Bool:=
 List.rec (motive:=fun _=>Nat->T α->(T α->Bool)->Bool) (fun _ t k=>k t) (fun v _ ih i t k=>t.set i v (fun t'=>ih (Nat.succ i) t' k)) l
def T.insL{α:Type}(l:List α):Nat->T α->(T α->Bool)->Bool:=
 List.rec (motive:=fun _=>Nat->T α->(T α->Bool)->Bool) (fun _ t k=>k t) (fun v _ ih i t k=>t.ins i v (fun t'=>ih (Nat.succ i) t' k)) l
def T.rep{α:Type}(v:α)(f:Nat):Nat->(T α->Bool)->Bool:=
 Nat.rec (motive:=fun _=>Nat->(T α->Bool)->Bool) (fun _ _=>false)
  (fun _ ih n k=>Nat.rec (k .e) (fun m _=>ih (Nat.div m 2) (fun r=>Bool.rec (r.ins (Nat.div m 2) v (fun l=>k (.nd v l r))) (k (.nd v r r)) (Nat.beq (Nat.mod m 2) 0))) n) f
def T.rd{α:Type}(t:T α)(o n:Nat):List α->(List α->Bool)->Bool:=
 Nat.rec (motive:=fun _=>List α->(List α->Bool)->Bool) (fun l k=>k l) (fun m ih l k=>oB (t.get (Nat.add o m)) (fun v=>ih (v::l) k)) n
inductive FV where
 | i (k:IntKind) (n:Nat)
 | b (t:Bool)
 | p (b o:Nat)
 | s (b o l c:Nat) (sp:Option Nat)
 | o (v:Value)
def toV(x:FV):Value:=FV.casesOn x (fun k n=>.int k (.ofNat n)) (fun t=>.bool t) (fun b o=>.pointer (some ⟨b,o,none⟩)) (fun b o l c sp=>.slice (some ⟨b,o,sp⟩) l c) (fun v=>v)
def fN(n:Nat)(k:Nat->Bool):Bool:=Nat.rec (k 0) (fun m _=>k (Nat.succ m)) n
def KP(b:Bool)(k:FV->Bool):Bool:=Bool.rec (k (.b false)) (k (.b true)) b
def Oy(kd:IntKind)(z:Int)(k:FV->Bool):Bool:=Int.rec (fun n=>fN n fun n=>k (.i kd n)) (fun n=>fN n fun n=>k (.o (.int kd (.negSucc n)))) z
def Oz(a:Option Addr)(k:FV->Bool):Bool:=Option.rec (k (.o (.pointer none))) (fun a=>Addr.rec (fun b o sp=>Option.rec (fN b fun b=>fN o fun o=>k (.p b o)) (fun _=>k (.o (.pointer (some a)))) sp) a) a
def MH(a:Option Addr)(l c:Nat)(k:FV->Bool):Bool:=fN l fun l=>fN c fun c=>Option.rec (k (.o (.slice none l c))) (fun a=>Addr.rec (fun b o sp=>fN b fun b=>fN o fun o=>Option.rec (k (.s b o l c none)) (fun z=>fN z fun z=>k (.s b o l c (some z))) sp) a) a
abbrev VF:=(FV->Bool)->Bool
def aO(v:Value):VF:=fun k=>k (.o v)
def ofV(v:Value):VF:=Value.casesOn (motive_1:=fun _=>VF) v KP Oy (fun k b=>aO (.float k b)) (fun k b c=>aO (.complex k b c)) (fun s=>aO (.string s)) Oz MH (fun r=>aO (.map r)) (fun r=>aO (.chan r)) (fun f a b=>aO (.func f a b)) (aO .nilFunc) (fun t v=>aO (.iface t v)) (aO .nilIface) (fun c=>aO (.agg c)) (fun c=>aO (.tuple c))
def ofL(l:List Value):(List FV->Bool)->Bool:=List.rec (motive:=fun _=>(List FV->Bool)->Bool) (fun k=>k []) (fun v _ ih k=>ofV v fun v=>ih fun l=>k (v::l)) l
def toL(l:List FV):List Value:=List.rec [] (fun v _ ih=>toV v::ih) l
def Bm(p:FV->Bool)(l:List FV)(k:Bool):Bool:=List.rec k (fun v _ ih=>bB (p v) ih false) l
def Ce(x:FV):Bool:=FV.casesOn x (fun _ _=>true) (fun _=>true) (fun _ _=>true) (fun _ _ _ _ _=>true) (fun v=>v.oneCell')
def DM:FV:=.o undef
inductive Blk where
 | mk (n:Nat) (t:T FV)
 | no
 | un
inductive FH where
 | mk (n:Nat) (t:T Blk)
abbrev FS:=T FV
def FH.size(H:FH):Nat:=FH.rec (fun n _=>n) H
def FH.blk(H:FH)(b:Nat)(k:Nat->T FV->Bool):Bool:=FH.rec (fun _ t=>oB (t.get b) fun x=>Blk.rec k false false x) H
def FH.setB(H:FH)(b:Nat)(x:Blk)(k:FH->Bool):Bool:=FH.rec (fun n t=>t.set b x fun t'=>k (.mk n t')) H
def FH.push(H:FH)(x:Blk)(k:Nat->FH->Bool):Bool:=FH.rec (fun n t=>t.insD .un n x fun t'=>k n (.mk (Nat.succ n) t')) H
def FH.rd(H:FH)(b o n:Nat)(k:List FV->Bool):Bool:=H.blk b fun m t=>bB (Nat.ble (Nat.add o n) m) (t.rd o n [] k) false
def FH.wr(H:FH)(lo b o:Nat)(vs:List FV)(k:FH->Bool):Bool:=
 bB (Nat.ble lo b) (H.blk b fun m t=>bB (Nat.ble (Nat.add o vs.length) m) (T.setL vs o t fun t'=>H.setB b (.mk m t') k) false) false
def FH.pushL(H:FH)(vs:List FV)(k:Nat->FH->Bool):Bool:=T.insL vs 0 .e fun t=>fN vs.length fun n=>H.push (.mk n t) k
abbrev LF:=List FV->FH->(FV->Bool)->Bool
def fA(o:LOp):LF:=fun vs _ k=>oB (aI o (toL vs) []) fun v=>ofV v k
def sD(k:IntKind):Nat:=IntKind.casesOn k 127 32767 2147483647 9223372036854775807 255 65535 4294967295 18446744073709551615
def MW(k:IntKind):Nat:=IntKind.casesOn k 8 16 32 64 8 16 32 64
def idI(k:IntKind):Nat:=IntKind.casesOn k 0 1 2 3 4 5 6 7
def okN(kd:IntKind)(n:Nat)(k:FV->Bool)(d:Bool):Bool:=bB (Nat.ble n (sD kd)) (fN n fun n=>k (.i kd n)) d
def tf(b:Bool)(k:FV->Bool):Bool:=bB b (k (.b true)) (k (.b false))
def tn(b:Bool)(k:FV->Bool):Bool:=bB b (k (.b false)) (k (.b true))
abbrev NF:=IntKind->Nat->Nat->(FV->Bool)->Bool->Bool
def SQ:NF:=fun kd a b k d=>okN kd (Nat.add a b) k d
def Sc:NF:=fun kd a b k d=>bB (Nat.ble b a) (okN kd (Nat.sub a b) k d) d
def S8:NF:=fun kd a b k d=>okN kd (Nat.mul a b) k d
def SS:NF:=fun kd a b k d=>bB (Nat.beq b 0) d (okN kd (Nat.div a b) k d)
def SZ:NF:=fun kd a b k d=>bB (Nat.beq b 0) d (okN kd (Nat.mod a b) k d)
def SR:NF:=fun kd a b k d=>bB (Nat.ble a (sD kd)) (bB (Nat.ble b (sD kd)) (okN kd (Nat.land a b) k d) d) d
def nOr:NF:=fun kd a b k d=>bB (Nat.ble a (sD kd)) (bB (Nat.ble b (sD kd)) (okN kd (Nat.lor a b) k d) d) d
def Sd:NF:=fun kd a b k d=>bB (Nat.ble a (sD kd)) (bB (Nat.ble b (sD kd)) (okN kd (Nat.xor a b) k d) d) d
def Q0:NF:=fun _ _ _ _ d=>d
def SU:NF:=fun _ a b k _=>tf (Nat.beq a b) k
def S9:NF:=fun _ a b k _=>tn (Nat.beq a b) k
def SY:NF:=fun _ a b k _=>tn (Nat.ble b a) k
def SX:NF:=fun _ a b k _=>tf (Nat.ble a b) k
def SW:NF:=fun _ a b k _=>tn (Nat.ble a b) k
def SV:NF:=fun _ a b k _=>tf (Nat.ble b a) k
def Sa:NF:=fun kd a b k d=>bB (Nat.ble b (MW kd)) (okN kd (Nat.mul a (Nat.pow 2 b)) k d) d
def Sb:NF:=fun kd a b k d=>bB (Nat.ble b (MW kd)) (fN (Nat.div a (Nat.pow 2 b)) fun n=>k (.i kd n)) d
def Pe(op:BinOp):NF:=BinOp.casesOn (motive:=fun _=>NF) op SQ Sc S8 SS SZ SR nOr Sd Sa Sb Q0 SU S9 SY SX SW SV
def kt(op:BinOp):Bool:=BinOp.casesOn (motive:=fun _=>Bool) op false false false false false false false false true true false false false false false false false
def cI{α:Type}(x:FV)(f:IntKind->Nat->α)(d:α):α:=FV.casesOn x f (fun _=>d) (fun _ _=>d) (fun _ _ _ _ _=>d) (fun _=>d)
def cB{α:Type}(x:FV)(f:Bool->α)(d:α):α:=FV.casesOn x (fun _ _=>d) f (fun _ _=>d) (fun _ _ _ _ _=>d) (fun _=>d)
def cP{α:Type}(x:FV)(f:Nat->Nat->α)(d:α):α:=FV.casesOn x (fun _ _=>d) (fun _=>d) f (fun _ _ _ _ _=>d) (fun _=>d)
def cS{α:Type}(x:FV)(f:Nat->Nat->Nat->Nat->Option Nat->α)(d:α):α:=FV.casesOn x (fun _ _=>d) (fun _=>d) (fun _ _=>d) f (fun _=>d)
def cO{α:Type}(x:FV)(f:Value->α)(d:α):α:=FV.casesOn x (fun _ _=>d) (fun _=>d) (fun _ _=>d) (fun _ _ _ _ _=>d) f
def l1{α β:Type}(l:List β)(f:β->α)(d:α):α:=List.casesOn l d fun x r=>List.casesOn r (f x) fun _ _=>d
def l2{α β:Type}(l:List β)(f:β->β->α)(d:α):α:=List.casesOn l d fun x r=>List.casesOn r d fun y r=>List.casesOn r (f x y) fun _ _=>d
def Rz(op:BinOp):LF:=fun vs H k=>
 (fun(d:Bool)=>l2 vs (fun x y=>cI x (fun kd a=>cI y (fun kd' b=>bB (bB (kt op) true (Nat.beq (idI kd) (idI kd'))) (Pe op kd a b k d) d) d) d) d) (fA (.bin op) vs H k)
def fLd(n:Nat)(agg:Bool):LF:=Bool.casesOn (motive:=fun _=>LF) agg
 (fun vs H k=>l1 vs (fun x=>cP x (fun b o=>H.blk b fun _ t=>oB (t.get o) k) false) false)
 (fun vs H k=>l1 vs (fun x=>cP x (fun b o=>H.rd b o n fun l=>k (.o (.agg ⟨toL l⟩))) false) false)
def Mi(off:Nat):LF:=fun vs _ k=>l1 vs (fun x=>cP x (fun b o=>fN (Nat.add o off) fun o=>k (.p b o)) false) false
def Mj(sz:Nat):LF:=fun vs _ k=>l2 vs (fun x y=>cS x (fun b o l _ _=>cI y (fun _ i=>bB (Nat.ble (Nat.succ i) l) (fN (Nat.add o (Nat.mul i sz)) fun o=>k (.p b o)) false) false) false) false
def SG:LF:=fun vs H k=>l1 vs (fun x=>cS x (fun _ _ l _ _=>k (.i .i64 l)) (fA .len vs H k)) false
def fMv:LF:=fun vs _ k=>l1 vs k false
def SE(i:Nat):LF:=fun vs H k=>fA (.ext i) vs H k
def Rx:LF:=fun vs H k=>l1 vs (fun x=>cS x (fun b o l _ _=>H.rd b o l fun c=>oB (bytesOf (toL c)) fun c=>k (.o (.string ⟨c.toArray⟩))) (fA .b2s vs H k)) false
def SH:LF:=fun vs H k=>l1 vs (fun x=>cP x (fun b o=>k (.p b o)) (fA .nilChk vs H k)) false
def fUn(u:UnOp):LF:=fun vs H k=>l1 vs (fun x=>cB x (fun b=>UnOp.casesOn (motive:=fun _=>Bool) u (fA (.un u) vs H k) (fA (.un u) vs H k) (tn b k) (fA (.un u) vs H k)) (fA (.un u) vs H k)) false
def SD(kd:IntKind):LF:=fun vs H k=>l1 vs (fun x=>cI x (fun _ n=>okN kd n k (fA (.cvt kd) vs H k)) (fA (.cvt kd) vs H k)) false
def Ll(o:LOp):LF:=LOp.casesOn (motive:=fun _=>LF) o fMv Rz (fun n=>fA (.eqB n)) (fun n k=>fA (.eqA n k)) (fun n=>fA (.eqN n)) (fun n=>fA (.eqP n)) fUn SD Rx
 (fA .cvtS) SH Mi (fun a b c=>fA (.fld a b c)) Mj (fun a b=>fA (.iAddrA a b)) (fun a b c=>fA (.idx a b c)) (fA .idxS) fLd SG (fA .lenS) (fun n=>fA (.lenC n))
 (fun a b c d=>fA (.sl a b c d)) (fun a b c d e=>fA (.slA a b c d e)) (fun a b=>fA (.slS a b)) SE (fun a b=>fA (.build a b)) (fun a b=>fA (.mkF a b)) (fun a=>fA (.mkI a)) (fun a=>fA (.minmax a)) (fA .pk) (fun a b=>fA (.tas a b))
abbrev EV:=FS->FH->List FV->(List FV->Bool)->Bool
def Rs(j:Nat):EV:=fun S _ acc k=>oB (S.get j) fun v=>k (v::acc)
def Rq(v:Value):EV:=fun _ _ acc k=>ofV v fun v=>k (v::acc)
def Rr:EV:=fun _ _ acc k=>k acc
def Px(_a _b:E)(fa fb:EV):EV:=fun S H acc k=>fb S H acc fun acc=>fa S H acc k
def Py(o:LOp)(_a:E)(fa:EV):EV:=fun S H acc k=>fa S H [] fun vs=>Ll o vs H fun v=>k (v::acc)
def isB(l:List FV)(a b:Bool):Bool:=l1 l (fun x=>cB x (fun c=>bB c a b) false) false
def Pz(_c _a _b:E)(fc fa fb:EV):EV:=fun S H acc k=>fc S H [] fun l=>isB l (fa S H acc k) (fb S H acc k)
def fev(e:E):EV:=E.rec (motive:=fun _=>EV) Rs Rq Rr Px Py Pz e
def one(l:List FV)(k:FV->Bool):Bool:=l1 l k false
def zO(e:E)(S:FS)(H:FH)(k:FV->Bool):Bool:=fev e S H [] fun l=>one l k
def Ah(l:List (Nat×E)):FS->FH->FS->(FS->Bool)->Bool:=
 List.rec (motive:=fun _=>FS->FH->FS->(FS->Bool)->Bool) (fun _ _ A k=>k A) (fun p _ ih S H A k=>zO p.2 S H fun v=>A.set p.1 v fun A'=>ih S H A' k) l
def IZ(l:List E):FS->FH->Bool->Bool:=
 List.rec (motive:=fun _=>FS->FH->Bool->Bool) (fun _ _ k=>k) (fun e _ ih S H k=>fev e S H [] fun _=>ih S H k) l
def fpc(l:PC):FS->FH->Bool->Bool->Bool:=
 List.rec (motive:=fun _=>FS->FH->Bool->Bool->Bool) (fun _ _ y _=>y) (fun p _ ih S H y n=>fev p.1 S H [] fun l=>isB l (bB p.2 (ih S H y n) n) (bB p.2 n (ih S H y n))) l
abbrev ky:=Nat->FuncId->List FV->FH->(FV->FH->Bool)->Bool
abbrev HF:=ky->Nat->List FV->FH->(FV->FH->Bool)->Bool
def noH:HF:=fun _ _ _ _ _=>false
def QD(lo sz:Nat)(b o len cap:Nat)(sp:Option Nat)(new:List FV)(n:Nat)(H:FH)(k:FV->FH->Bool):Bool:=
 bB (Nat.ble (Nat.add len n) cap)
  (bB (Option.rec true (fun z=>Nat.beq z sz) sp) (H.wr lo b (Nat.add o (Nat.mul len sz)) new fun H=>fN (Nat.add len n) fun l=>k (.s b o l cap sp) H) false)
  (bB (Nat.ble (Nat.add len n) 4294967296)
   (H.blk b fun m t=>
    (fun(go:FH->Bool)=>Option.rec (go H) (fun z=>bB (Nat.beq z sz) (bB (Nat.ble lo b) (H.setB b .no go) false) false) sp) fun H=>
    fN (Nat.mul len sz) fun ln=>
    (fun(go:T FV->Bool)=>bB (Nat.beq o 0) (bB (Nat.beq ln m) (go t) (bB (Nat.ble ln m) (t.rd o ln [] fun l=>T.insL l 0 .e go) false)) (bB (Nat.ble (Nat.add o ln) m) (t.rd o ln [] fun l=>T.insL l 0 .e go) false)) fun t=>
    T.insL new ln t fun t=>fN (Nat.add ln new.length) fun m=>H.push (.mk m t) fun c H=>fN (Nat.add len n) fun l=>k (.s c 0 l l (some sz)) H)
   false)
def Li(sz:Nat)(len cap:Nat)(new:List FV)(n:Nat)(H:FH)(k:FV->FH->Bool):Bool:=
 bB (Nat.ble (Nat.add len n) cap) (fN (Nat.add len n) fun l=>k (.o (.slice none l cap)) H)
  (bB (Nat.ble (Nat.add len n) 4294967296) (bB (Nat.beq len 0) (H.pushL new fun b H=>k (.s b 0 n n (some sz)) H) false) false)
def xX(lo sz:Nat)(s:FV)(new:List FV)(n:Nat)(H:FH)(k:FV->FH->Bool):Bool:=
 FV.casesOn s (fun _ _=>false) (fun _=>false) (fun _ _=>false) (fun b o l c sp=>QD lo sz b o l c sp new n H k)
  (fun v=>match v with
   | .slice none l c=>Li sz l c new n H k
   | _=>false)
def fCall(raise:Bool):HF:=fun cf lo vs H k=>List.casesOn vs false fun x r=>cO x (fun v=>match v with
 | .func (.func f) first cap=>ofL first.toList fun a=>ofL cap.toList fun c=>cf (bB' raise H.size lo) f (a++r++c) H k
 | _=>false) false
where bB' (b:Bool) (x y:Nat):Nat:=Bool.rec y x b
def Mh(zero:List Value):HF:=fun _ _ vs H k=>List.casesOn vs (ofL zero fun l=>H.pushL l fun b H=>k (.p b 0) H) fun _ _=>false
def yp(x:FV)(k:List FV->Bool):Bool:=cO x (fun v=>ofL v.cells.toList k) (k [x])
def SA:HF:=fun _ _ vs H k=>l1 vs (fun x=>yp x fun l=>H.pushL l fun b H=>k (.p b 0) H) false
def fMk(zero:List Value):HF:=fun _ _ vs H k=>l2 vs (fun x y=>cI x (fun _ l=>cI y (fun _ c=>bB (Nat.ble l c) (bB (Nat.ble c 4294967296)
 (l1 zero (fun z=>ofV z fun z=>T.rep z 40 c fun t=>H.push (.mk c t) fun b H=>k (.s b 0 l c none) H) (ofL (bQ zero c) fun z=>H.pushL z fun b H=>k (.s b 0 l c none) H)) false) false) false) false) false
def Ry(zero:List Value)(len:Nat)(idx:List Nat):HF:=fun _ _ vs H k=>oB (buildL (bQ zero len) (idx.map fun i=>(i*zero.length,zero.length)) (toL vs)) fun l=>ofL l fun l=>H.pushL l fun b H=>k (.s b 0 len len none) H
def fSt(n:Nat):HF:=fun _ lo vs H k=>l2 vs (fun x y=>cP x (fun b o=>yp y fun l=>bB (Nat.beq l.length n) (Bm Ce l (H.wr lo b o l fun H=>k DM H)) false) false) false
def QE(sz:Nat):HF:=fun _ lo vs H k=>l2 vs (fun s x=>FV.casesOn x (fun _ _=>false) (fun _=>false) (fun _ _=>false)
 (fun b o n _ _=>H.rd b o (Nat.mul n sz) fun new=>Bm Ce new (xX lo sz s new n H k))
 (fun v=>match v with
  | .slice none n _=>bB (Nat.beq n 0) (xX lo sz s [] 0 H k) false
  | _=>false)) false
def QF:HF:=fun _ lo vs H k=>l2 vs (fun s x=>cO x (fun v=>match v with
  | .string x=>ofL (x.data.toList.map fun b=>.int .u8 b.toNat) fun l=>fN x.size fun n=>xX lo 1 s l n H k
  | _=>false) false) false
def SB(sz:Nat):HF:=fun _ lo vs H k=>l2 vs (fun d a=>cS d (fun b o n _ _=>cS a (fun b' o' m _ _=>fN (min m n) fun l=>H.rd b' o' (Nat.mul l sz) fun new=>Bm Ce new (H.wr lo b o new fun H=>k (.i .i64 l) H))
  (cO a (fun v=>match v with
   | .slice none m _=>bB (Nat.beq m 0) (k (.i .i64 0) H) false
   | _=>false) false))
 (cO d (fun v=>match v with
  | .slice none n _=>bB (Nat.beq n 0) (bB (isS a) (k (.i .i64 0) H) false) false
  | _=>false) false)) false
where isS (a:FV):Bool:=FV.casesOn a (fun _ _=>false) (fun _=>false) (fun _ _=>false) (fun _ _ _ _ _=>true) (fun v=>match v with
 | .slice none _ _=>true
 | _=>false)
def SI:HF:=fun _ _ vs H k=>l1 vs (fun x=>cO x (fun v=>match v with
  | .string x=>ofL (x.data.toList.map fun b=>.int .u8 b.toNat) fun l=>fN x.size fun n=>H.pushL l fun b H=>k (.s b 0 n n (some 1)) H
  | _=>false) false) false
def SF:HF:=fun _ lo vs H k=>l1 vs (fun x=>cS x (fun b o n c sp=>Option.rec (H.blk b fun _ _=>bB (Nat.ble lo b) (k (.s b o n c none) H) false) (fun _=>false) sp) false) false
def Lk(o:HOp):HF:=HOp.casesOn (motive:=fun _=>HF) o fCall Mh SA fMk Ry fSt (fun sz _=>QE sz) (fun _=>QF) SB SI noH (fCall false) noH SF
abbrev FX:=Nat->FS->FH->(Ex->FS->FH->Bool)->Bool
abbrev FP:=FX×(Nat->FX)
def noX:FX:=fun _ _ _ _=>false
def noL:Nat->FX:=fun _=>noX
def R6:FP:=(fun _ S H k=>k .normal S H,noL)
def R5(l:List (Nat×E))(chk:List E):FP:=(fun _ S H k=>Ah l S H S fun A=>IZ chk S H (k .normal A H),noL)
def Pv(d:Option Nat)(v:FV)(A:FS)(k:FS->Bool):Bool:=Option.rec (k A) (fun d=>A.set d v k) d
def xHv(callF:ky)(l:List (Nat×E))(chk:List E)(pc:PC)(dst:Option Nat)(o:HOp)(a:E):FP:=(fun lo S H k=>
 Ah l S H S fun A=>IZ chk S H (fpc pc S H (fev a S H [] fun xs=>Lk o callF lo xs H fun v H'=>Pv dst v A fun A=>k .normal A H') (Pv dst DM A fun A=>k .normal A H)),noL)
def MY(x:FV):Option Nat:=FV.casesOn x (fun _ _=>none) (fun _=>none) (fun b _=>some b) (fun b _ _ _ _=>some b) (fun v=>aW v)
def R2(a b:E):FP:=(fun _ S H k=>zO a S H fun x=>zO b S H fun y=>
 Option.rec (k .normal S H) (fun i=>Option.rec (k .normal S H) (fun j=>bB (Nat.beq i j) false (k .normal S H)) (MY y)) (MY x),noL)
def cEx{α:Type}(x:Ex)(n:α)(e:Nat->α)(r:α):α:=Ex.rec n e r x
def TP(_ _:Stm)(fa fb:FP):FP:=(fun lo S H k=>fa.1 lo S H fun x S H=>cEx x (fb.1 lo S H k) (fun i=>k (.exit i) S H) (k .ret S H),noL)
def R0(c:E)(_ _:Stm)(fa fb:FP):FP:=(fun lo S H k=>fev c S H [] fun l=>isB l (fa.1 lo S H k) (fb.1 lo S H k),noL)
def Oq(i:Nat)(_:Stm)(fb:FP):FP:=(fun lo S H k=>fb.1 lo S H fun x S H=>cEx x (k .normal S H) (fun j=>bB (Nat.beq j i) (k .normal S H) (k (.exit j) S H)) (k .ret S H),noL)
def itF(f:FX)(n:Nat):FX:=Nat.rec (motive:=fun _=>FX) noX (fun _ ih lo S H k=>f lo S H fun x S H=>cEx x (ih lo S H k) (fun i=>k (.exit i) S H) (k .ret S H)) n
def R4(n:Nat)(_:Stm)(fb:FP):FP:=(itF fb.1 n,noL)
def R3(i:Nat):FP:=(fun _ S H k=>k (.exit i) S H,noL)
def TO:FP:=(fun _ S H k=>k .ret S H,noL)
abbrev HX:=Ex->FS->FH->(Ex->FS->FH->Bool)->Bool
def I8(f:Nat->FX)(lo n:Nat):HX:=
 Nat.rec (motive:=fun _=>HX) (fun _ _ _ _=>false)
  (fun _ ih x S H k=>cEx x (k .normal S H) (fun j=>bB (Nat.ble 1000000 j) (f (Nat.sub j 1000000) lo S H fun x S H=>ih x S H k) (k (.exit j) S H)) (k .ret S H)) n
def Ou(n:Nat)(_ _:Stm)(fb fa:FP):FP:=(fun lo S H k=>fb.1 lo S H fun x S H=>I8 fa.2 lo n x S H k,noL)
def xAlt(l:Nat)(_ _:Stm)(fs fr:FP):FP:=(noX,fun t=>bX (fs.1) (fr.2 t) (Nat.beq t l))
where bX (x y:FX) (b:Bool):FX:=Bool.rec y x b
def je(callF:ky)(n:Nat)(s:Stm):FP:=
 Stm.rec (motive:=fun _=>FP) R6 R5 (xHv callF) R2 TP R0 Oq (R4 n) R3 TO (Ou n) xAlt s
def Es(l:List E):FS->FH->(List FV->Bool)->Bool:=
 List.rec (motive:=fun _=>FS->FH->(List FV->Bool)->Bool) (fun _ _ k=>k []) (fun e _ ih S H k=>zO e S H fun v=>ih S H fun l=>k (v::l)) l
def Ji(l:List FV)(k:FV->Bool):Bool:=List.casesOn l (k (.o (.tuple #[]))) fun x r=>List.casesOn r (k x) fun _ _=>k (.o (.tuple ⟨toL l⟩))
abbrev SC:=FuncId->List FV->(FV->Nat->Bool)->Bool->Bool
def Nn:SC:=fun _ _ _ d=>d
def FH.skip(H:FH)(lo g:Nat)(k:FH->Bool):Bool:=FH.rec (fun n t=>bB (Nat.ble lo n) (fN (Nat.add n g) fun m=>k (.mk m t)) false) H
def QH(cp:FuncId->Option CF)(sc:SC)(n:Nat)(ih:ky):ky:=fun lo f args H k=>
 sc f args (fun v g=>H.skip lo g fun H=>k v H)
 (oB (cp f) fun cf=>bB (Nat.beq args.length cf.np)
  (T.rep DM 12 cf.ns fun S=>T.setL args 0 S fun S=>CK.casesOn cf.kind
   ((je ih n cf.body).1 lo S H fun x S H=>cEx x (Es cf.res S H fun l=>Ji l fun v=>k v H) (fun _=>false) (Es cf.res S H fun l=>Ji l fun v=>k v H))
   (fun _ _ _=>false) (fun _=>false)) false)
def zV(cp:FuncId->Option CF)(sc:SC)(N n:Nat):ky:=Nat.rec (motive:=fun _=>ky) (fun _ _ _ _ _=>false) (fun m ih=>QH cp sc (Nat.add N m) ih) n
end
theorem en(n:Nat)(k:Nat->Bool):fN n k=k n:=by cases n<;>rfl
theorem qD{α:Type}{o:Option α}{k:α->Bool}(h:oB o k=true):∃v,o=some v/\k v=true:=by
 cases o with
 | none=>simp[oB]at h
 | some v=>exact⟨v,rfl,h⟩
theorem eI{b x:Bool}(h:bB b x false=true):b=true/\x=true:=by cases b<;>simp_all [bB]
theorem dr{α:Prop}{b x y:Bool}(h:bB b x y=true)(h1:b=true->x=true->α)(h2:b=false->y=true->α):α:=by
 cases b
 ·exact h2 rfl h
 ·exact h1 rfl h
theorem T.get_z{α:Type}(a:α)(l r:T α):(T.nd a l r).get 0=some a:=rfl
theorem T.get_s{α:Type}(a:α)(l r:T α)(j:Nat):(T.nd a l r).get (j+1)=if j%2=0 then l.get (j/2) else r.get (j/2):=by
 show T.get.bB' (l.get (j/2)) (r.get (j/2)) (Nat.beq (j%2) 0)=_;rcases Nat.mod_two_eq_zero_or_one j with h|h<;>rw[h]<;>rfl
theorem T.get_e{α:Type}(j:Nat):(T.e:T α).get j=none:=rfl
theorem T.get_n{α:Type}{a b:α}{l r l' r':T α}{i:Nat}{v:α}(h0:i=0->b=v/\l'=l/\r'=r)(h1:∀j,i=j+1->b=a/\(if j%2=0 then(∀m,l'.get m=if m=j/2 then some v else l.get m)/\r'=r else l'=l/\∀m,r'.get m=if m=j/2 then some v else r.get m)) :
  ∀m,(T.nd b l' r').get m=if m=i then some v else(T.nd a l r).get m:=by
 intro m;cases i with
 | zero=>
  obtain⟨rfl,rfl,rfl⟩:=h0 rfl;cases m with
  | zero=>simp[T.get_z]
  | succ m=>simp[T.get_s]
 | succ j=>
  obtain⟨rfl,h⟩:=h1 j rfl;cases m with
  | zero=>simp[T.get_z]
  | succ m=>
   simp only[T.get_s,Nat.add_right_cancel_iff];by_cases hj:j%2=0
   ·rw[if_pos hj]at h
    obtain⟨g,rfl⟩:=h;by_cases hm:m%2=0
    ·rw[if_pos hm,if_pos hm,g]
     by_cases he:m=j
     ·subst he;simp
     ·rw[if_neg he,if_neg byO]
    ·rw[if_neg hm,if_neg hm,if_neg byO]
   ·rw[if_neg hj]at h
    obtain⟨rfl,g⟩:=h;by_cases hm:m%2=0
    ·rw[if_pos hm,if_pos hm,if_neg byO]
    ·rw[if_neg hm,if_neg hm,g]
     by_cases he:m=j
     ·subst he;simp
     ·rw[if_neg he,if_neg byO]
theorem T.ins_ok{α:Type}:∀(t:T α) (i:Nat) (v:α) (k:T α->Bool),t.ins i v k=true->∃t',k t'=true/\∀m,t'.get m=if m=i then some v else t.get m
 | .e,0,v,k,h=>⟨_,h,fun m=>by
   cases m with
   | zero=>rfl
   | succ m=>simp[T.get_s,T.get_e]⟩
 | .e,i+1,v,k,h=>by cases h
 | .nd a l r,0,v,k,h=>⟨_,h,T.get_n (fun _=>⟨rfl,rfl,rfl⟩) (fun j hj=>by cases hj)⟩
 | .nd a l r,j+1,v,k,h=>by
  have h:bB (Nat.beq (j%2) 0) (l.ins (j/2) v (fun l'=>k (.nd a l' r))) (r.ins (j/2) v (fun r'=>k (.nd a l r')))=true:=h;refine dr h (fun hb h=>?_) (fun hb h=>?_)
  ·obtain⟨t',h1,h2⟩:=T.ins_ok l _ _ _ h
   refine⟨_,h1,T.get_n (fun h=>by cases h) fun m hm=>?_⟩;cases hm;exact⟨rfl,by rw[if_pos (Nat.eq_of_beq_eq_true hb)];exact⟨h2,rfl⟩⟩
  ·obtain⟨t',h1,h2⟩:=T.ins_ok r _ _ _ h
   refine⟨_,h1,T.get_n (fun h=>by cases h) fun m hm=>?_⟩;cases hm;exact⟨rfl,by rw[if_neg (Nat.ne_of_beq_eq_false hb)];exact⟨rfl,h2⟩⟩
theorem T.path_ok{α:Type}{d v:α}:∀(f i:Nat) (k:T α->Bool),T.path d v f i k=true->∃t',k t'=true/\t'.get i=some v/\∀m,m≠i->t'.get m=none\/m<i/\t'.get m=some d
 | 0,i,k,h=>by cases h
 | f+1,0,k,h=>⟨_,h,rfl,fun m hm=>by
   obtain⟨m,rfl⟩:∃q,m=q+1:=⟨m-1,byO⟩;exact .inl (by simp[T.get_s,T.get_e])⟩
 | f+1,j+1,k,h=>by
  obtain⟨t,h1,h2,h3⟩:=T.path_ok f (j/2) _ (show T.path d v f (j/2) (fun t=>bB (Nat.beq (j%2) 0) (k (.nd d t .e)) (k (.nd d .e t)))=true from h);refine dr h1 (fun hb h=>?_) (fun hb h=>?_)
  ·have hb:=Nat.eq_of_beq_eq_true hb
   refine⟨_,h,by rw[T.get_s,if_pos hb];exact h2,fun m hm=>?_⟩;cases m with
   | zero=>exact .inr ⟨byO,rfl⟩
   | succ m=>
    rw[T.get_s];by_cases hm2:m%2=0
    ·rw[if_pos hm2]
     rcases h3 (m/2) byO with h|⟨h,h4⟩
     ·exact .inl h
     ·exact .inr ⟨byO,h4⟩
    ·rw[if_neg hm2];exact .inl (T.get_e _)
  ·have hb:=Nat.ne_of_beq_eq_false hb
   refine⟨_,h,by rw[T.get_s,if_neg hb];exact h2,fun m hm=>?_⟩;cases m with
   | zero=>exact .inr ⟨byO,rfl⟩
   | succ m=>
    rw[T.get_s];by_cases hm2:m%2=0
    ·rw[if_pos hm2];exact .inl (T.get_e _)
    ·rw[if_neg hm2]
     rcases h3 (m/2) byO with h|⟨h,h4⟩
     ·exact .inl h
     ·exact .inr ⟨byO,h4⟩
theorem T.insD_ok{α:Type}{d:α}:∀(t:T α) (i:Nat) (v:α) (k:T α->Bool),t.insD d i v k=true->∃t',k t'=true/\t'.get i=some v/\∀m,m≠i->t'.get m=t.get m\/m<i/\t'.get m=some d
 | .e,i,v,k,h=>by
  obtain⟨t,h1,h2,h3⟩:=T.path_ok 40 i k h;exact⟨t,h1,h2,fun m hm=>by rw[T.get_e];exact h3 m hm⟩
 | .nd a l r,0,v,k,h=>⟨_,h,rfl,fun m hm=>by
   obtain⟨m,rfl⟩:∃q,m=q+1:=⟨m-1,byO⟩;exact .inl (by rw[T.get_s,T.get_s])⟩
 | .nd a l r,j+1,v,k,h=>by
  have h:bB (Nat.beq (j%2) 0) (l.insD d (j/2) v (fun l'=>k (.nd a l' r))) (r.insD d (j/2) v (fun r'=>k (.nd a l r')))=true:=h;refine dr h (fun hb h=>?_) (fun hb h=>?_)
  ·have hb:=Nat.eq_of_beq_eq_true hb
   obtain⟨t',h1,h2,h3⟩:=T.insD_ok l _ _ _ h;refine⟨_,h1,by rw[T.get_s,if_pos hb];exact h2,fun m hm=>?_⟩;cases m with
   | zero=>exact .inl rfl
   | succ m=>
    rw[T.get_s,T.get_s];by_cases hm2:m%2=0
    ·rw[if_pos hm2,if_pos hm2]
     rcases h3 (m/2) byO with h|⟨h,h4⟩
     ·exact .inl h
     ·exact .inr ⟨byO,h4⟩
    ·rw[if_neg hm2,if_neg hm2];exact .inl rfl
  ·have hb:=Nat.ne_of_beq_eq_false hb
   obtain⟨t',h1,h2,h3⟩:=T.insD_ok r _ _ _ h;refine⟨_,h1,by rw[T.get_s,if_neg hb];exact h2,fun m hm=>?_⟩;cases m with
   | zero=>exact .inl rfl
   | succ m=>
    rw[T.get_s,T.get_s];by_cases hm2:m%2=0
    ·rw[if_pos hm2,if_pos hm2];exact .inl rfl
    ·rw[if_neg hm2,if_neg hm2]
     rcases h3 (m/2) byO with h|⟨h,h4⟩
     ·exact .inl h
     ·exact .inr ⟨byO,h4⟩
theorem T.set_ok{α:Type}:∀(t:T α) (i:Nat) (v:α) (k:T α->Bool),t.set i v k=true->∃t',k t'=true/\t.get i≠none/\∀m,t'.get m=if m=i then some v else t.get m
 | .e,i,v,k,h=>by cases h
 | .nd a l r,0,v,k,h=>⟨_,h,by simp[T.get_z],T.get_n (fun _=>⟨rfl,rfl,rfl⟩) (fun j hj=>by cases hj)⟩
 | .nd a l r,j+1,v,k,h=>by
  have h:bB (Nat.beq (j%2) 0) (l.set (j/2) v (fun l'=>k (.nd a l' r))) (r.set (j/2) v (fun r'=>k (.nd a l r')))=true:=h;refine dr h (fun hb h=>?_) (fun hb h=>?_)
  ·obtain⟨t',h1,h0,h2⟩:=T.set_ok l _ _ _ h
   refine⟨_,h1,by rw[T.get_s,if_pos (Nat.eq_of_beq_eq_true hb)];exact h0,T.get_n (fun h=>by cases h) fun m hm=>?_⟩;cases hm;exact⟨rfl,by rw[if_pos (Nat.eq_of_beq_eq_true hb)];exact⟨h2,rfl⟩⟩
  ·obtain⟨t',h1,h0,h2⟩:=T.set_ok r _ _ _ h
   refine⟨_,h1,by rw[T.get_s,if_neg (Nat.ne_of_beq_eq_false hb)];exact h0,T.get_n (fun h=>by cases h) fun m hm=>?_⟩;cases hm;exact⟨rfl,by rw[if_neg (Nat.ne_of_beq_eq_false hb)];exact⟨rfl,h2⟩⟩
def Rep{α:Type}(t:T α)(l:List α):Prop:=∀i,t.get i=l[i]?
theorem G3{α:Type}:Rep (T.e:T α) []:=fun i=>by simp[T.get_e]
theorem T.set_rep{α:Type}{t:T α}{l:List α}(r:Rep t l){i:Nat}{v:α}{k:T α->Bool}(h:t.set i v k=true):∃t',k t'=true/\i<l.length/\Rep t' (l.set i v):=by
 obtain⟨t',h1,h0,h2⟩:=T.set_ok _ _ _ _ h;rw[r i]at h0;have hi:i<l.length:=by
  apply Decidable.byContradiction;intro hc;exact h0 (av₀ byO)
 refine⟨t',h1,hi,fun m=>?_⟩;rw[h2 m,r m,List.getElem?_set];by_cases hm:m=i
 ·subst hm;simp[hi]
 ·rw[if_neg hm,if_neg (fun h=>hm h.symm)]
theorem T.ins_rep{α:Type}{t:T α}{l:List α}(r:Rep t l){v:α}{k:T α->Bool}(h:t.ins l.length v k=true):∃t',k t'=true/\Rep t' (l++[v]):=by
 obtain⟨t',h1,h2⟩:=T.ins_ok _ _ _ _ h;refine⟨t',h1,fun m=>?_⟩;rw[h2 m,r m];by_cases hm:m=l.length
 ·subst hm;simp
 ·rw[if_neg hm]
  by_cases hl:m<l.length
  ·rw[ax₀ hl]
  ·rw[av₀ byO,av₀ (by simp;omega)]
theorem T.insL_rep{α:Type}:∀(vs:List α) {t:T α} {l:List α} (_:Rep t l) {n:Nat} (_:n=l.length) {k:T α->Bool} (_:T.insL vs n t k=true),∃t',k t'=true/\Rep t' (l++vs)
 | [],t,l,r,n,hn,k,h=>⟨t,h,by simpa using r⟩
 | v::vs,t,l,r,n,hn,k,h=>by
  have h:t.ins n v (fun t'=>T.insL vs (n+1) t' k)=true:=h;subst hn;obtain⟨t',h1,r1⟩:=T.ins_rep r h;obtain⟨t2,h2,r2⟩:=T.insL_rep vs r1 (by simp) h1;exact⟨t2,h2,by simpa using r2⟩
def wH{α:Type}(c:List α)(o:Nat)(vs:List α):List α:=c.take o++(vs++c.drop (o+vs.length))
theorem Cu{α:Type}(v:α)(vs:List α)(c:List α)(o:Nat)(h:o<c.length):wH (c.set o v) (o+1) vs=wH c o (v::vs):=by
 simp only[wH,ak₀,am₀];rw[List.take_succ_eq_append_getElem (by simpa using h),List.getElem_set_self,List.take_set_of_le byO,List.drop_set_of_lt byO];simp[Nat.add_assoc,Nat.add_comm 1]
theorem T.setL_rep{α:Type}:∀(vs:List α) {t:T α} {l:List α} (_:Rep t l) {o:Nat} {k:T α->Bool} (_:T.setL vs o t k=true),∃t',k t'=true/\Rep t' (wH l o vs)
 | [],t,l,r,o,k,h=>⟨t,h,by simpa[wH]using r⟩
 | v::vs,t,l,r,o,k,h=>by
  have h:t.set o v (fun t'=>T.setL vs (o+1) t' k)=true:=h;obtain⟨t',h1,ho,r1⟩:=T.set_rep r h;obtain⟨t2,h2,r2⟩:=T.setL_rep vs r1 h1;exact⟨t2,h2,by rw[<-Cu v vs l o ho];exact r2⟩
theorem T.rd_rep{α:Type}{t:T α}{l:List α}(r:Rep t l)(o:Nat):∀(n:Nat) (acc:List α) {k:List α->Bool},t.rd o n acc k=true->∃c,c.length=n/\k (c++acc)=true/\(n=0\/o+n<=l.length)/\c=(l.drop o).take n
 | 0,acc,k,h=>⟨[],rfl,h,.inl rfl,by simp⟩
 | n+1,acc,k,h=>by
  have h:oB (t.get (o+n)) (fun v=>t.rd o n (v::acc) k)=true:=h;obtain⟨v,hv,h⟩:=qD h;obtain⟨c,h1,h2,h3,h4⟩:=T.rd_rep r o n _ h;rw[r]at hv;obtain⟨hl,hv⟩:=List.getElem?_eq_some_iff.1 hv;refine⟨c++[v],by simp[h1],by simpa using h2,.inr byO,?_⟩;rw[h4,List.take_succ_eq_append_getElem (by simp;omega)];simp[hv]
theorem Lq{α:Type}{v:α}{l r:T α}{m:Nat}(hl:Rep l (List.replicate ((m+1)/2) v))(hr:Rep r (List.replicate (m/2) v)):Rep (T.nd v l r) (List.replicate (m+1) v):=by
 intro i;cases i with
 | zero=>simp[T.get_z]
 | succ j=>
  rw[T.get_s,hl,hr];simp only[List.getElem?_replicate];split<;>(repeat' split)<;>first|rfl|(exfalso;omega)
theorem T.rep_rep{α:Type}(v:α):∀(f n:Nat) {k:T α->Bool},T.rep v f n k=true->∃t,k t=true/\Rep t (List.replicate n v)
 | 0,n,k,h=>by cases h
 | f+1,0,k,h=>⟨.e,h,G3⟩
 | f+1,m+1,k,h=>by
  have h:T.rep v f (m/2) (fun r=>bB (Nat.beq (m%2) 0) (k (.nd v r r)) (r.ins (m/2) v (fun l=>k (.nd v l r))))=true:=h;obtain⟨r,h,hr⟩:=T.rep_rep v f _ h;refine dr h (fun hb h=>?_) (fun hb h=>?_)
  ·have hb:=Nat.eq_of_beq_eq_true hb
   exact⟨_,h,Lq (by rw[show(m+1)/2=m/2 by omega];exact hr) hr⟩
  ·have hb:=Nat.ne_of_beq_eq_false hb
   have h2:r.ins (List.replicate (m/2) v).length v (fun l=>k (.nd v l r))=true:=by simpa using h
   obtain⟨l,h1,hl⟩:=T.ins_rep hr h2;exact⟨_,h1,Lq (by rw[show(m+1)/2=m/2+1 by omega,List.replicate_succ'];exact hl) hr⟩
theorem fk(l:List FV):toL l=l.map toV:=by
 induction l with
 | nil=>rfl
 | cons v l ih=>show toV v::toL l=_;rw[ih];rfl
theorem DX{b:Bool}{k:FV->Bool}(h:KP b k=true):∃x,toV x=.bool b/\k x=true:=by cases b<;>exact⟨_,rfl,h⟩
theorem Ha{kd:IntKind}{z:Int}{k:FV->Bool}(h:Oy kd z k=true):∃x,toV x=.int kd z/\k x=true:=by
 cases z with
 | ofNat n=>exact⟨.i kd n,rfl,by have h:fN n (fun n=>k (.i kd n))=true:=h;rwa [en]at h⟩
 | negSucc n=>exact⟨.o (.int kd (.negSucc n)),rfl,by have h:fN n (fun n=>k (.o (.int kd (.negSucc n))))=true:=h;rwa [en]at h⟩
theorem Hc{a:Option Addr}{k:FV->Bool}(h:Oz a k=true):∃x,toV x=.pointer a/\k x=true:=by
 rcases a with _|⟨b,o,_|z⟩
 ·exact⟨_,rfl,h⟩
 ·have h:fN b (fun b=>fN o fun o=>k (.p b o))=true:=h
  simp only[en]at h;exact⟨_,rfl,h⟩
 ·exact⟨_,rfl,h⟩
theorem Hd{a:Option Addr}{l c:Nat}{k:FV->Bool}(h:MH a l c k=true):∃x,toV x=.slice a l c/\k x=true:=by
 unfold MH at h;simp only[en]at h;rcases a with _|⟨b,o,_|z⟩
 ·exact⟨_,rfl,h⟩
 ·exact⟨_,rfl,h⟩
 ·exact⟨_,rfl,h⟩
theorem vk{v:Value}{k:FV->Bool}(h:ofV v k=true):∃x,toV x=v/\k x=true:=by
 cases v
 case bool b=>exact DX h
 case int kd z=>exact Ha h
 case pointer a=>exact Hc h
 case slice a l c=>exact Hd h
 all_goals exact⟨_,rfl,h⟩
theorem kS:∀{l:List Value} {k:List FV->Bool},ofL l k=true->∃x,toL x=l/\k x=true
 | [],k,h=>⟨[],rfl,h⟩
 | v::l,k,h=>by
  have h:ofV v (fun v=>ofL l fun l=>k (v::l))=true:=h;obtain⟨x,hx,h1⟩:=vk h;obtain⟨xs,hxs,h2⟩:=kS h1;exact⟨x::xs,by rw[<-hx,<-hxs];rfl,h2⟩
theorem kh(l:List FV):(toL l).length=l.length:=by simp[fk]
theorem w8(l m:List FV):toL (l++m)=toL l++toL m:=by simp[fk]
theorem qW{p:FV->Bool}:∀{l:List FV} {k:Bool},Bm p l k=true->(l.all p=true)/\k=true
 | [],k,h=>⟨rfl,h⟩
 | v::l,k,h=>by
  have h:bB (p v) (Bm p l k) false=true:=h;obtain⟨h1,h2⟩:=eI h;obtain⟨h3,h4⟩:=qW h2;exact⟨by simp[h1,h3],h4⟩
theorem JT{x:FV}(h:Ce x=true):(toV x).oneCell'=true:=by cases x<;>first|rfl|exact h
theorem vz{l:List FV}(h:l.all Ce=true):oneCells (toL l)=true:=by
 rw[fk];simp only[oneCells,List.all_map,List.all_eq_true]at h ⊢;exact fun x hx=>JT (h x hx)
def RO:Option Blk->Option (Option (List Value))->Prop
 | some (.mk m u),some (some c)=>∃l,Rep u l/\l.length=m/\c=toL l
 | some .no,some none=>True
 | some .un,some _=>True
 | none,_=>True
 | _,_=>False
def RH(F:FH)(H:Heap):Prop:=∃t,F=.mk H.length t/\∀b,RO (t.get b) H[b]?
theorem RH.size{F:FH}{H:Heap}(r:RH F H):F.size=H.length:=by obtain⟨t,rfl,_⟩:=r;rfl
theorem qm{F:FH}{H:Heap}(r:RH F H){b:Nat}{k:Nat->T FV->Bool}(h:F.blk b k=true):∃u l,k l.length u=true/\Rep u l/\H.get b=some (toL l)/\b<H.length:=by
 obtain⟨t,rfl,hr⟩:=r;have h:oB (t.get b) (fun x=>Blk.rec k false false x)=true:=h;obtain⟨x,hx,h⟩:=qD h;have:=hr b;rw[hx]at this;rcases x with ⟨m,u⟩|_|_
 ·rcases hb:H[b]? with _|_|c
  ·rw[hb]at this;exact this.elim
  ·rw[hb]at this;exact this.elim
  ·rw[hb]at this
   obtain⟨l,r1,rfl,rfl⟩:=this;exact⟨u,l,h,r1,by simp[Heap.get,hb],(List.getElem?_eq_some_iff.1 hb).1⟩
 ·cases h
 ·cases h
theorem B0{F:FH}{H:Heap}(r:RH F H){b:Nat}{x:Blk}{y:Option (List Value)}(hx:RO (some x) (some y)){k:FH->Bool}(h:F.setB b x k=true):∃F',k F'=true/\RH F' (H.set b y):=by
 obtain⟨t,rfl,hr⟩:=r;have h:t.set b x (fun t'=>k (.mk H.length t'))=true:=h;obtain⟨t',h1,h0,h2⟩:=T.set_ok _ _ _ _ h;refine⟨_,h1,t',by simp,fun i=>?_⟩;rw[h2 i,List.getElem?_set];have hb:b<H.length:=by
  apply Decidable.byContradiction;intro hc;have:=hr b;rw[av₀ byO]at this;rcases hg:t.get b with _|_|_|_
  ·exact h0 hg
  ·rw[hg]at this;exact this
  ·rw[hg]at this;exact this
  ·rw[hg]at this;exact this
 by_cases hi:i=b
 ·subst hi;simp only[if_true,if_pos hb];exact hx
 ·rw[if_neg hi,if_neg (fun h=>hi h.symm)];exact hr i
theorem wF{F:FH}{H:Heap}(r:RH F H){x:Blk}{y:Option (List Value)}(hx:RO (some x) (some y)){k:Nat->FH->Bool}(h:F.push x k=true):∃F',k H.length F'=true/\RH F' (H++[y]):=by
 obtain⟨t,rfl,hr⟩:=r;have h:t.insD .un H.length x (fun t'=>k H.length (.mk (H.length+1) t'))=true:=h;obtain⟨t',h1,h2,h3⟩:=T.insD_ok _ _ _ _ h;refine⟨_,h1,t',by simp,fun i=>?_⟩;by_cases hi:i=H.length
 ·subst hi;rw[h2];simp only[aw₀ (Nat.le_refl _),Nat.sub_self,List.getElem?_cons_zero];exact hx
 ·by_cases hl:i<H.length
  ·rw[ax₀ hl]
   rcases h3 i hi with h|⟨-,h⟩
   ·rw[h];exact hr i
   ·rw[h,bc₀ hl];exact trivial
  ·have:=hr i
   rw[av₀ byO]at this;rw[av₀ (by simp;omega)];rcases h3 i hi with h|⟨h,-⟩
   ·rw[h];exact this
   ·omega
theorem BU{F:FH}{H:Heap}(r:RH F H){b o n:Nat}{k:List FV->Bool}(h:F.rd b o n k=true):∃l,k l=true/\l.length=n/\H.cells b o n=some (toL l):=by
 obtain⟨u,l,h,r1,hg,_⟩:=qm r h;obtain⟨hn,h⟩:=eI h;have hn:o+n<=l.length:=Nat.le_of_ble_eq_true hn;obtain⟨c,h1,h2,_,h4⟩:=T.rd_rep r1 o n [] h;rw[List.append_nil]at h2;refine⟨c,h2,h1,?_⟩;simp[Heap.cells,hg,fk,hn,h4]
theorem HS{F:FH}{H:Heap}(r:RH F H){lo b o:Nat}{vs:List FV}{k:FH->Bool}(h:F.wr lo b o vs k=true):∃F' H',k F'=true/\H.put lo b o (toL vs)=some H'/\RH F' H':=by
 obtain⟨hlo,h⟩:=eI h;obtain⟨u,l,h,r1,hg,hb⟩:=qm r h;obtain⟨hn,h⟩:=eI h;have hn:o+vs.length<=l.length:=Nat.le_of_ble_eq_true hn;obtain⟨t',h1,r2⟩:=T.setL_rep vs r1 h;have hl:(wH l o vs).length=l.length:=by simp[wH];omega
 obtain⟨F',h2,r3⟩:=B0 r (x:=.mk l.length t') (y:=some (putCells (toL l) o (toL vs))) ⟨_,r2,hl,by simp[putCells,wH,fk]⟩ h1;exact⟨F',_,h2,by simp[Heap.put,hg,kh,Nat.le_of_ble_eq_true hlo,hn],r3⟩
theorem jl{F:FH}{H:Heap}(r:RH F H){vs:List FV}{k:Nat->FH->Bool}(h:F.pushL vs k=true):∃F',k H.length F'=true/\RH F' (H++[some (toL vs)]):=by
 have h:T.insL vs 0 .e (fun t=>fN vs.length fun n=>F.push (.mk n t) k)=true:=h;obtain⟨t,h,r1⟩:=T.insL_rep vs G3 rfl h;rw[en]at h;exact wF r (x:=.mk vs.length t) (y:=some (toL vs)) ⟨vs,by simpa using r1,rfl,rfl⟩ h
theorem jN{β:Type}{l:List β}{f:β->Bool}(h:l1 l f false=true):∃x,l=[x]/\f x=true:=by
 rcases l with _|⟨x,_|⟨y,r⟩⟩
 ·cases h
 ·exact⟨x,rfl,h⟩
 ·cases h
theorem rp{β:Type}{l:List β}{f:β->β->Bool}{d:Bool}(h:l2 l f d=true):(∃x y,l=[x,y]/\f x y=true)\/d=true:=by
 rcases l with _|⟨x,_|⟨y,_|⟨z,r⟩⟩⟩
 ·exact .inr h
 ·exact .inr h
 ·exact .inl ⟨x,y,rfl,h⟩
 ·exact .inr h
theorem tZ{x:FV}{f:IntKind->Nat->Bool}{d:Bool}(h:cI x f d=true):(∃k n,x=.i k n/\f k n=true)\/d=true:=by
 cases x<;>first|exact .inl ⟨_,_,rfl,h⟩|exact .inr h
theorem Ld{x:FV}{f:Bool->Bool}{d:Bool}(h:cB x f d=true):(∃b,x=.b b/\f b=true)\/d=true:=by
 cases x<;>first|exact .inl ⟨_,rfl,h⟩|exact .inr h
theorem wo{x:FV}{f:Nat->Nat->Bool}{d:Bool}(h:cP x f d=true):(∃b o,x=.p b o/\f b o=true)\/d=true:=by
 cases x<;>first|exact .inl ⟨_,_,rfl,h⟩|exact .inr h
theorem ta{x:FV}{f:Nat->Nat->Nat->Nat->Option Nat->Bool}{d:Bool}(h:cS x f d=true):(∃b o l c s,x=.s b o l c s/\f b o l c s=true)\/d=true:=by
 cases x<;>first|exact .inl ⟨_,_,_,_,_,rfl,h⟩|exact .inr h
theorem wk{x:FV}{f:Value->Bool}{d:Bool}(h:cO x f d=true):(∃v,x=.o v/\f v=true)\/d=true:=by
 cases x<;>first|exact .inl ⟨_,rfl,h⟩|exact .inr h
theorem te(b o n:Nat):Heap.cells [] b o n=none:=by simp[Heap.cells,Heap.get]
theorem Fa{o:LOp}{vs:List Value}{H:Heap}{v:Value}(h:aI o vs []=some v):aI o vs H=some v:=by
 cases hr:ep o
 ·rw[<-qA hr vs [] H];exact h
 ·cases o<;>simp only[ep]at hr<;>try cases hr
  all_goals
   simp only[aI]at h ⊢;split at h
   all_goals (try rename_i heq)
   all_goals first
    | (cases heq;done)
    | (simp only[te]at h;simp at h;done)
    | (split at h<;>simp only[te]at h<;>simp at h;done)
    | exact h
    | (simp at h;done)
    | (simp only[reduceCtorEq]at h)
theorem eZ{o:LOp}{vs:List FV}{F:FH}{H:Heap}{k:FV->Bool}(h:fA o vs F k=true):∃x,aI o (toL vs) H=some (toV x)/\k x=true:=by
 obtain⟨v,hv,h⟩:=qD h;obtain⟨x,hx,h2⟩:=vk h;subst hx;exact⟨x,Fa hv,h2⟩
theorem Oo{kd:IntKind}{n:Nat}(h:n<=sD kd):kd.wrap (n:Int)=n:=by
 cases kd<;>simp only[sD]at h<;>simp[IntKind.wrap,IntKind.bits,IntKind.signed]<;>omega
theorem j2{kd:IntKind}{n:Nat}{k:FV->Bool}{d:Bool}(h:okN kd n k d=true):(kd.wrap (n:Int)=n/\k (.i kd n)=true)\/d=true:=by
 refine dr h (fun hb h=>.inl ?_) (fun _ h=>.inr h);rw[en]at h;exact⟨Oo (Nat.le_of_ble_eq_true hb),h⟩
theorem mA{kd:IntKind}{n:Nat}(h:n<=sD kd):n<2^kd.bits:=by
 cases kd<;>simp only[sD]at h<;>simp[IntKind.bits]<;>omega
theorem Df(kd:IntKind):MW kd=kd.bits:=by cases kd<;>rfl
theorem id_eq{k k':IntKind}(h:Nat.beq (idI k) (idI k')=true):k=k':=by cases k<;>cases k'<;>first|rfl|cases h
theorem HC{b:Bool}{k:FV->Bool}(h:tf b k=true):k (.b b)=true:=by cases b<;>exact h
theorem Bb{b:Bool}{k:FV->Bool}(h:tn b k=true):k (.b !b)=true:=by cases b<;>exact h
theorem BG(a b:Nat):Nat.beq a b=decide (a=b):=by
 by_cases h:a=b
 ·subst h;simp
 ·simp only[h,decide_false];cases hb:Nat.beq a b
  ·rfl
  ·exact absurd (Nat.eq_of_beq_eq_true hb) h
theorem iK(a b:Nat):Nat.ble a b=decide (a<=b):=by
 by_cases h:a<=b
 ·simp only[h,decide_true];exact Nat.ble_eq_true_of_le h
 ·simp only[h,decide_false];cases hb:Nat.ble a b
  ·rfl
  ·exact absurd (Nat.le_of_ble_eq_true hb) h
theorem bvn{n w:Nat}(h:n<2^w):(BitVec.ofInt w (n:Int)).toNat=n:=by
 simp only[BitVec.toNat_ofInt];have:((n:Int)%((2^w:Nat):Int)).toNat=n:=by
  rw[<-Int.natCast_emod,Nat.mod_eq_of_lt h];rfl
 simpa using this
theorem Hi{op:BinOp}{kd kd':IntKind}{a b:Nat}{k:FV->Bool}{d:Bool}(hk:kt op=true\/kd=kd')(h:Pe op kd a b k d=true):(∃x,bH op (.int kd a) (.int kd' b)=some (toV x)/\k x=true)\/d=true:=by
 cases op
 case add=>
  obtain rfl:=hk.resolve_left (by simp[kt]);rcases j2 h with ⟨h1,h2⟩|h
  ·exact .inl ⟨_,by simpa[bH,bS,toV]using h1,h2⟩
  ·exact .inr h
 case sub=>
  obtain rfl:=hk.resolve_left (by simp[kt]);refine dr h (fun hb h=>?_) (fun _ h=>.inr h);rcases j2 h with ⟨h1,h2⟩|h
  ·have hb:b<=a:=Nat.le_of_ble_eq_true hb
   have e:((Nat.sub a b:Nat):Int)=(a:Int)-b:=Int.ofNat_sub hb;rw[e]at h1;exact .inl ⟨_,by simp only[bH,bS,toV,if_true,h1];rw[<-e];rfl,h2⟩
  ·exact .inr h
 case mul=>
  obtain rfl:=hk.resolve_left (by simp[kt]);rcases j2 h with ⟨h1,h2⟩|h
  ·exact .inl ⟨_,by simpa[bH,bS,toV]using h1,h2⟩
  ·exact .inr h
 case quo=>
  obtain rfl:=hk.resolve_left (by simp[kt]);refine dr h (fun _ h=>.inr h) (fun hb h=>?_);rcases j2 h with ⟨h1,h2⟩|h
  ·have hb:b≠0:=Nat.ne_of_beq_eq_false hb
   have e:(a:Int).tdiv b=((Nat.div a b:Nat):Int):=rfl;exact .inl ⟨_,by simp only[bH,bS,toV,if_true,e,h1];simp[hb],h2⟩
  ·exact .inr h
 case rem=>
  obtain rfl:=hk.resolve_left (by simp[kt]);refine dr h (fun _ h=>.inr h) (fun hb h=>?_);rcases j2 h with ⟨h1,h2⟩|h
  ·have hb:b≠0:=Nat.ne_of_beq_eq_false hb
   exact .inl ⟨_,by simp[bH,bS,toV,hb];rfl,h2⟩
  ·exact .inr h
 case and=>
  obtain rfl:=hk.resolve_left (by simp[kt]);refine dr h (fun ha h=>?_) (fun _ h=>.inr h);refine dr h (fun hb h=>?_) (fun _ h=>.inr h);rcases j2 h with ⟨h1,h2⟩|h
  ·refine .inl ⟨_,?_,h2⟩
   have h1:kd.wrap ((a &&& b:Nat):Int)=((a &&& b:Nat):Int):=h1;simp only[bH,bS,if_true,toV,BitVec.toNat_and,bvn (mA (Nat.le_of_ble_eq_true ha)),bvn (mA (Nat.le_of_ble_eq_true hb)),h1];rfl
  ·exact .inr h
 case or=>
  obtain rfl:=hk.resolve_left (by simp[kt]);refine dr h (fun ha h=>?_) (fun _ h=>.inr h);refine dr h (fun hb h=>?_) (fun _ h=>.inr h);rcases j2 h with ⟨h1,h2⟩|h
  ·refine .inl ⟨_,?_,h2⟩
   have h1:kd.wrap ((a ||| b:Nat):Int)=((a ||| b:Nat):Int):=h1;simp only[bH,bS,if_true,toV,BitVec.toNat_or,bvn (mA (Nat.le_of_ble_eq_true ha)),bvn (mA (Nat.le_of_ble_eq_true hb)),h1];rfl
  ·exact .inr h
 case xor=>
  obtain rfl:=hk.resolve_left (by simp[kt]);refine dr h (fun ha h=>?_) (fun _ h=>.inr h);refine dr h (fun hb h=>?_) (fun _ h=>.inr h);rcases j2 h with ⟨h1,h2⟩|h
  ·refine .inl ⟨_,?_,h2⟩
   have h1:kd.wrap ((a ^^^ b:Nat):Int)=((a ^^^ b:Nat):Int):=h1;simp only[bH,bS,if_true,toV,BitVec.toNat_xor,bvn (mA (Nat.le_of_ble_eq_true ha)),bvn (mA (Nat.le_of_ble_eq_true hb)),h1];rfl
  ·exact .inr h
 case andNot=>exact .inr h
 case shl=>
  refine dr h (fun hb h=>?_) (fun _ h=>.inr h);have hb:=Nat.le_of_ble_eq_true hb;rw[Df]at hb;rcases j2 h with ⟨h1,h2⟩|h
  ·refine .inl ⟨_,?_,h2⟩
   have h1:kd.wrap ((a*2^b:Nat):Int)=((a*2^b:Nat):Int):=h1;have e:(a:Int)*2^b=((a*2^b:Nat):Int):=by simp
   simp only[bH,gZ,toV,Int.toNat_natCast,Nat.min_eq_left hb,e,h1];rw[if_neg byO];rfl
  ·exact .inr h
 case shr=>
  refine dr h (fun hb h=>?_) (fun _ h=>.inr h);have hb:=Nat.le_of_ble_eq_true hb;rw[Df]at hb;rw[en]at h;refine .inl ⟨_,?_,h⟩;have e:(a:Int).fdiv (2^b)=((a/2^b:Nat):Int):=by
   rw[Int.fdiv_eq_ediv_of_nonneg _ (by exact_mod_cast Nat.zero_le _)];simp
  simp only[bH,gZ,toV,Int.toNat_natCast,Nat.min_eq_left hb,e];rw[if_neg byO];rfl
 case eql=>
  obtain rfl:=hk.resolve_left (by simp[kt]);refine .inl ⟨_,?_,HC h⟩;simp only[bH,bS,if_true,toV,BG,ab₀,Value.bool.injEq];by_cases e:a=b
  ·simp[e]
  ·simp[e];omega
 case neq=>
  obtain rfl:=hk.resolve_left (by simp[kt]);refine .inl ⟨_,?_,Bb h⟩;simp only[bH,bS,if_true,toV,BG,ab₀,Value.bool.injEq];by_cases e:a=b
  ·simp[e,bne]
  ·simp[e,bne];omega
 case lss=>
  obtain rfl:=hk.resolve_left (by simp[kt]);refine .inl ⟨_,?_,Bb h⟩;simp only[bH,bS,if_true,toV,iK,ab₀,Value.bool.injEq];by_cases e:a<b<;>simp[e]<;>omega
 case leq=>
  obtain rfl:=hk.resolve_left (by simp[kt]);refine .inl ⟨_,?_,HC h⟩;simp only[bH,bS,if_true,toV,iK,ab₀,Value.bool.injEq];by_cases e:a<=b<;>simp[e]
 case gtr=>
  obtain rfl:=hk.resolve_left (by simp[kt]);refine .inl ⟨_,?_,Bb h⟩;simp only[bH,bS,if_true,toV,iK,ab₀,Value.bool.injEq];by_cases e:a<=b<;>simp[e]<;>omega
 case geq=>
  obtain rfl:=hk.resolve_left (by simp[kt]);refine .inl ⟨_,?_,HC h⟩;simp only[bH,bS,if_true,toV,iK,ab₀,Value.bool.injEq];by_cases e:b<=a<;>simp[e]
theorem kg(x:FV):toL [x]=[toV x]:=rfl
theorem yZ(x y:FV):toL [x,y]=[toV x,toV y]:=rfl
theorem Eo{o:LOp}{vs:List FV}{F:FH}{H:Heap}(r:RH F H){k:FV->Bool}(h:Ll o vs F k=true):∃x,aI o (toL vs) H=some (toV x)/\k x=true:=by
 cases o
 case mv=>obtain⟨x,rfl,h1⟩:=jN h;exact⟨x,rfl,h1⟩
 case bin op=>
  rcases rp h with ⟨x,y,rfl,h1⟩|h
  ·rcases tZ h1 with ⟨kd,a,rfl,h2⟩|h
   ·rcases tZ h2 with ⟨kd',b,rfl,h3⟩|h
    ·refine dr h3 (fun hb h=>?_) (fun _ h=>eZ h)
     have hk:kt op=true\/kd=kd':=by
      cases hs:kt op
      ·rw[hs]at hb;exact .inr (id_eq hb)
      ·exact .inl rfl
     rcases Hi hk h with ⟨x,h1,h2⟩|h
     ·exact⟨x,h1,h2⟩
     ·exact eZ h
    ·exact eZ h
   ·exact eZ h
  ·exact eZ h
 case ld n agg=>
  cases agg
  ·obtain⟨x,rfl,h1⟩:=jN h
   obtain⟨b,o,rfl,h2⟩:=(wo h1).resolve_right (by simp);obtain⟨u,l,h3,r1,hg,_⟩:=qm r h2;obtain⟨x,hx,h4⟩:=qD h3;rw[r1]at hx;obtain⟨ho,he⟩:=List.getElem?_eq_some_iff.1 hx;refine⟨x,?_,h4⟩;simp[kg,toV,aI,Heap.cells,hg,fk,show o+1<=l.length from ho,List.head?_take,hx]
  ·obtain⟨x,rfl,h1⟩:=jN h
   obtain⟨b,o,rfl,h2⟩:=(wo h1).resolve_right (by simp);obtain⟨l,h3,_,hc⟩:=BU r h2;exact⟨_,by simp[kg,toV,aI,hc],h3⟩
 case fAddr off=>
  obtain⟨x,rfl,h1⟩:=jN h;obtain⟨b,o,rfl,h2⟩:=(wo h1).resolve_right (by simp);rw[en]at h2;exact⟨_,rfl,h2⟩
 case iAddr sz=>
  obtain⟨x,y,rfl,h1⟩:=(rp h).resolve_right (by simp);obtain⟨b,o,l,c,s,rfl,h2⟩:=(ta h1).resolve_right (by simp);obtain⟨kd,i,rfl,h3⟩:=(tZ h2).resolve_right (by simp);obtain⟨hb,h4⟩:=eI h3;rw[en]at h4;have hb:i<l:=Nat.le_of_ble_eq_true hb;refine⟨_,?_,h4⟩;simp[yZ,toV,aI,hb]
 case len=>
  obtain⟨x,rfl,h1⟩:=jN h;rcases ta h1 with ⟨b,o,l,c,s,rfl,h2⟩|h2
  ·exact⟨_,rfl,h2⟩
  ·exact eZ h2
 case b2s=>
  obtain⟨x,rfl,h1⟩:=jN h;rcases ta h1 with ⟨b,o,l,c,s,rfl,h2⟩|h2
  ·obtain⟨m,h3,_,hc⟩:=BU r h2
   obtain⟨w,hw,h4⟩:=qD h3;exact⟨_,by simp[kg,toV,aI,hc,hw],h4⟩
  ·exact eZ h2
 case nilChk=>
  obtain⟨x,rfl,h1⟩:=jN h;rcases wo h1 with ⟨b,o,rfl,h2⟩|h2
  ·exact⟨_,rfl,h2⟩
  ·exact eZ h2
 case un u=>
  obtain⟨x,rfl,h1⟩:=jN h;rcases Ld h1 with ⟨b,rfl,h2⟩|h2
  ·cases u
   case not=>exact⟨_,rfl,Bb h2⟩
   all_goals exact eZ h2
  ·exact eZ h2
 case cvt kd=>
  obtain⟨x,rfl,h1⟩:=jN h;rcases tZ h1 with ⟨kd',n,rfl,h2⟩|h2
  ·rcases j2 h2 with ⟨h3,h4⟩|h4
   ·exact⟨_,by simp only[kg,toV,aI];rw[show Int.ofNat n=(n:Int) from rfl,h3],h4⟩
   ·exact eZ h4
  ·exact eZ h2
 all_goals exact eZ (F:=F) h
def RS(F:FS)(S:List Value):Prop:=∃l,Rep F l/\S=toL l
theorem RS.get{F:FS}{S:List Value}(r:RS F S){j:Nat}{x:FV}(h:F.get j=some x):S[j]?=some (toV x):=by
 obtain⟨l,r,rfl⟩:=r;rw[r]at h;simp[fk,h]
theorem RS.set{F:FS}{S:List Value}(r:RS F S){j:Nat}{x:FV}{k:FS->Bool}(h:F.set j x k=true):∃F',k F'=true/\RS F' (S.set j (toV x)):=by
 obtain⟨l,r,rfl⟩:=r;obtain⟨F',h1,_,r1⟩:=T.set_rep r h;exact⟨F',h1,_,r1,by simp[fk]⟩
def R7(e:E):Prop:=∀{F:FS} {S:List Value} {A:FH} {H:Heap} {acc:List FV} {k:List FV->Bool},RS F S->RH A H->fev e F A acc k=true->∃xs,ev S H e=some (toL xs)/\k (xs++acc)=true
theorem zd{l:List FV}{a b:Bool}(h:isB l a b=true):(l=[.b true]/\a=true)\/(l=[.b false]/\b=true):=by
 obtain⟨x,rfl,h1⟩:=jN h;obtain⟨c,rfl,h2⟩:=(Ld h1).resolve_right (by simp);refine dr h2 (fun hc h=>.inl ?_) (fun hc h=>.inr ?_)
 ·subst hc;exact⟨rfl,h⟩
 ·subst hc;exact⟨rfl,h⟩
theorem rQ(e:E):R7 e:=by
 induction e with
 | var j=>
  intro F S A H acc k rs rh h;obtain⟨x,hx,h1⟩:=qD h;exact⟨[x],by simp[ev,rs.get hx,kg],h1⟩
 | cst v=>
  intro F S A H acc k rs rh h;obtain⟨x,hx,h1⟩:=vk h;exact⟨[x],by simp[ev,kg,hx],h1⟩
 | nil=>intro F S A H acc k rs rh h;exact⟨[],rfl,h⟩
 | cons a b iha ihb=>
  intro F S A H acc k rs rh h;obtain⟨ys,h1,h2⟩:=ihb rs rh h;obtain⟨xs,h3,h4⟩:=iha rs rh h2;exact⟨xs++ys,by simp[ev,h1,h3,w8],by rw[ba₀];exact h4⟩
 | node o a ih=>
  intro F S A H acc k rs rh h;obtain⟨xs,h1,h2⟩:=ih rs rh h;rw[List.append_nil]at h2;obtain⟨x,h3,h4⟩:=Eo rh h2;exact⟨[x],by simp[ev,h1,h3,kg],h4⟩
 | pick c a b ihc iha ihb=>
  intro F S A H acc k rs rh h;obtain⟨xs,h1,h2⟩:=ihc rs rh h;rw[List.append_nil]at h2;rcases zd h2 with ⟨rfl,h3⟩|⟨rfl,h3⟩
  ·obtain⟨ys,h4,h5⟩:=iha rs rh h3
   exact⟨ys,by simp[ev,h1,h4,kg,toV],h5⟩
  ·obtain⟨ys,h4,h5⟩:=ihb rs rh h3
   exact⟨ys,by simp[ev,h1,h4,kg,toV],h5⟩
theorem qZ{e:E}{F:FS}{S:List Value}{A:FH}{H:Heap}(rs:RS F S)(rh:RH A H){k:FV->Bool}(h:zO e F A k=true):∃x,ev1 S H e=some (toV x)/\k x=true:=by
 obtain⟨xs,h1,h2⟩:=rQ e rs rh h;rw[List.append_nil]at h2;obtain⟨x,rfl,h3⟩:=jN h2;exact⟨x,by simp[ev1,h1,kg],h3⟩
theorem rW{F:FS}{S:List Value}{A:FH}{H:Heap}(rs:RS F S)(rh:RH A H):∀(l:List (Nat×E)) {G:FS} {B:List Value} {k:FS->Bool},RS G B->Ah l F A G k=true->∃vs G',evSets S H l=some vs/\RS G' (setAll B vs)/\k G'=true
 | [],G,B,k,rg,h=>⟨[],G,rfl,rg,h⟩
 | (j,e)::l,G,B,k,rg,h=>by
  obtain⟨x,h1,h2⟩:=qZ rs rh (show zO e F A (fun v=>G.set j v fun A'=>Ah l F A A' k)=true from h);obtain⟨G1,h3,r1⟩:=rg.set h2;obtain⟨vs,G2,h4,r2,h5⟩:=rW rs rh l r1 h3;exact⟨(j,toV x)::vs,G2,by simp[evSets,h1,h4],r2,h5⟩
theorem vE{F:FS}{S:List Value}{A:FH}{H:Heap}(rs:RS F S)(rh:RH A H):∀(l:List E) {k:Bool},IZ l F A k=true->evChk S H l=true/\k=true
 | [],k,h=>⟨rfl,h⟩
 | e::l,k,h=>by
  obtain⟨xs,h1,h2⟩:=rQ e rs rh (show fev e F A [] (fun _=>IZ l F A k)=true from h);obtain⟨h3,h4⟩:=vE rs rh l h2;exact⟨by simp[evChk,h1,h3],h4⟩
theorem zT{F:FS}{S:List Value}{A:FH}{H:Heap}(rs:RS F S)(rh:RH A H):∀(l:PC) {y n:Bool},fpc l F A y n=true->(holds S H l=some true/\y=true)\/(holds S H l=some false/\n=true)
 | [],y,n,h=>.inl ⟨rfl,h⟩
 | (c,w)::l,y,n,h=>by
  obtain⟨xs,h1,h2⟩:=rQ c rs rh (show fev c F A [] (fun t=>isB t (bB w (fpc l F A y n) n) (bB w n (fpc l F A y n)))=true from h);rw[List.append_nil]at h2;rcases zd h2 with ⟨rfl,h3⟩|⟨rfl,h3⟩
  ·cases w
   ·exact .inr ⟨by simp[holds,ev1,h1,kg,toV],h3⟩
   ·rcases zT rs rh l h3 with ⟨h4,h5⟩|⟨h4,h5⟩
    ·exact .inl ⟨by simp[holds,ev1,h1,kg,toV,h4],h5⟩
    ·exact .inr ⟨by simp[holds,ev1,h1,kg,toV,h4],h5⟩
  ·cases w
   ·rcases zT rs rh l h3 with ⟨h4,h5⟩|⟨h4,h5⟩
    ·exact .inl ⟨by simp[holds,ev1,h1,kg,toV,h4],h5⟩
    ·exact .inr ⟨by simp[holds,ev1,h1,kg,toV,h4],h5⟩
   ·exact .inr ⟨by simp[holds,ev1,h1,kg,toV],h3⟩
def yg(sem:Option (Value×Heap))(k:FV->FH->Bool):Prop:=∃x A' H',sem=some (toV x,H')/\RH A' H'/\k x A'=true
theorem td{x:FV}{k:List FV->Bool}(h:yp x k=true):∃l,toL l=(toV x).cells.toList/\k l=true:=by
 rcases x with _|_|_|_|v
 ·exact⟨_,rfl,h⟩
 ·exact⟨_,rfl,h⟩
 ·exact⟨_,rfl,h⟩
 ·exact⟨_,rfl,h⟩
 ·exact kS h
theorem D2{lo sz l c n:Nat}{new:List FV}{A:FH}{H:Heap}(rh:RH A H){k:FV->FH->Bool}(h:Li sz l c new n A k=true):yg (aZ lo sz (.slice none l c) (toL new) n H) k:=by
 refine dr h (fun hb h=>?_) (fun hb h=>?_)
 ·rw[en]at h
  exact⟨_,A,H,by simp only[aZ,if_pos (show l+n<=c from Nat.le_of_ble_eq_true hb)];rfl,rh,h⟩
 ·obtain⟨h1,h2⟩:=eI h
  obtain⟨h3,h4⟩:=eI h2;have h3:=Nat.eq_of_beq_eq_true h3;obtain⟨A',h5,r⟩:=jl rh h4;rw[iK]at hb h1;simp only[ai₀,af₀]at hb h1;have hn:¬ cV<l+n:=by unfold cV;exact Nat.not_lt.2 h1
  exact⟨_,A',_,by simp only[aZ,if_neg (show ¬ l+n<=c from hb),if_neg hn,if_pos h3];rfl,r,h5⟩
theorem D3{lo sz b o l c n:Nat}{sp:Option Nat}{new:List FV}{A:FH}{H:Heap}(rh:RH A H){k:FV->FH->Bool}(h:QD lo sz b o l c sp new n A k=true):yg (aZ lo sz (.slice (some ⟨b,o,sp⟩) l c) (toL new) n H) k:=by
 refine dr h (fun hb h=>?_) (fun hb h=>?_)
 ·rw[iK]at hb
  simp only[af₀]at hb;obtain⟨h1,h2⟩:=eI h;have hs:sp=none\/sp=some sz:=by
   cases sp with
   | none=>exact .inl rfl
   | some z=>exact .inr (by rw[Nat.eq_of_beq_eq_true h1])
  obtain⟨A',H',h3,h4,r⟩:=HS rh h2;rw[en]at h3;have h4:H.put lo b (o+l*sz) (toL new)=some H':=h4;exact⟨_,A',H',by simp only[aZ,if_pos (show l+n<=c from hb),if_pos hs,h4];rfl,r,h3⟩
 ·rw[iK]at hb
  simp only[ai₀]at hb;obtain⟨h1,h2⟩:=eI h;rw[iK]at h1;simp only[af₀]at h1;obtain⟨u,old,h3,r1,hg,hlt⟩:=qm rh h2;have tail:∀{A2:FH} {H2:Heap},RH A2 H2->H2.length=H.length ->
    (fN (Nat.mul l sz) fun ln=>(fun(go:T FV->Bool)=>bB (Nat.beq o 0) (bB (Nat.beq ln old.length) (go u) (bB (Nat.ble ln old.length) (u.rd o ln [] fun l=>T.insL l 0 .e go) false)) (bB (Nat.ble (Nat.add o ln) old.length) (u.rd o ln [] fun l=>T.insL l 0 .e go) false)) fun t=>
     T.insL new ln t fun t=>fN (Nat.add ln new.length) fun m=>A2.push (.mk m t) fun c H=>fN (Nat.add l n) fun l=>k (.s c 0 l l (some sz)) H)=true ->
    ∃old',H.cells b o (l*sz)=some old'/\∃A',k (.s H.length 0 (l+n) (l+n) (some sz)) A'=true/\RH A' (H2++[some (old'++toL new)]):=by
   intro A2 H2 r2 hl h;rw[en]at h;have fin:∀{t:T FV} {c:List FV},Rep t c->c.length=l*sz->H.cells b o (l*sz)=some (toL c) ->
     (T.insL new (Nat.mul l sz) t fun t=>fN (Nat.add (Nat.mul l sz) new.length) fun m=>A2.push (.mk m t) fun c H=>fN (Nat.add l n) fun l=>k (.s c 0 l l (some sz)) H)=true ->
     ∃old',H.cells b o (l*sz)=some old'/\∃A',k (.s H.length 0 (l+n) (l+n) (some sz)) A'=true/\RH A' (H2++[some (old'++toL new)]):=by
    intro t c hr hc hh h;obtain⟨t2,h5,r5⟩:=T.insL_rep new hr (show Nat.mul l sz=c.length from hc.symm) h;simp only[en]at h5;obtain⟨A',h6,r6⟩:=wF r2 (x:=.mk (Nat.add (Nat.mul l sz) new.length) t2) (y:=some (toL c++toL new)) ⟨c++new,r5,by rw[as₀,hc];rfl,(w8 _ _).symm⟩ h5;rw[hl]at h6;exact⟨_,hh,A',h6,r6⟩
   have rd:∀{g:T FV->Bool},o+l*sz<=old.length->(u.rd o (Nat.mul l sz) [] fun l=>T.insL l 0 .e g)=true->∃t c,Rep t c/\c.length=l*sz/\H.cells b o (l*sz)=some (toL c)/\g t=true:=by
    intro g hle h;obtain⟨c,h5,h6,_,h7⟩:=T.rd_rep r1 o _ [] h;rw[List.append_nil]at h6;obtain⟨t,h8,r8⟩:=T.insL_rep c G3 rfl h6;exact⟨t,c,by simpa using r8,h5,by subst h7;simp only[Heap.cells,hg,kh,if_pos hle];simp[fk],h8⟩
   refine dr h (fun hz h=>?_) (fun hz h=>?_)
   ·have hz:o=0:=Nat.eq_of_beq_eq_true hz
    subst hz;refine dr h (fun hm h=>?_) (fun hm h=>?_)
    ·have hm:l*sz=old.length:=Nat.eq_of_beq_eq_true hm
     refine fin r1 hm.symm ?_ h;simp only[Heap.cells,hg,kh,Nat.zero_add,if_pos (Nat.le_of_eq hm),List.drop_zero];rw[List.take_of_length_le (by rw[kh];omega)]
    ·obtain⟨h5,h6⟩:=eI h
     obtain⟨t,c,q1,q2,q3,q4⟩:=rd (by rw[Nat.zero_add];exact Nat.le_of_ble_eq_true h5) h6;exact fin q1 q2 q3 q4
   ·obtain⟨h5,h6⟩:=eI h
    obtain⟨t,c,q1,q2,q3,q4⟩:=rd (Nat.le_of_ble_eq_true h5) h6;exact fin q1 q2 q3 q4
  have hn:¬ cV<l+n:=by unfold cV;exact Nat.not_lt.2 h1
  cases sp with
  | none=>
   obtain⟨old',h4,A',h5,r5⟩:=tail rh rfl h3;exact⟨_,A',_,by simp only[aZ,if_neg (show ¬ l+n<=c from hb),if_neg hn,h4];rfl,r5,h5⟩
  | some z=>
   obtain⟨hz,h4⟩:=eI h3;obtain⟨hlo,h5⟩:=eI h4;obtain⟨A2,h6,r6⟩:=B0 rh (x:=.no) (y:=none) trivial h5;obtain⟨old',h7,A',h8,r8⟩:=tail r6 (by simp) h6;exact⟨_,A',_,by simp only[aZ,if_neg (show ¬ l+n<=c from hb),if_neg hn,if_pos (zzi (Nat.eq_of_beq_eq_true hz) (Nat.le_of_ble_eq_true hlo)),h7];rfl,r8,h8⟩
theorem uf{lo sz n:Nat}{s:FV}{new:List FV}{A:FH}{H:Heap}(rh:RH A H){k:FV->FH->Bool}(h:xX lo sz s new n A k=true):yg (aZ lo sz (toV s) (toL new) n H) k:=by
 rcases s with _|_|_|⟨b,o,l,c,sp⟩|v
 ·cases h
 ·cases h
 ·cases h
 ·exact D3 rh h
 ·cases v<;>try cases h
  case slice a l c=>
   cases a
   ·exact D2 rh h
   ·cases h
def HY(cf:ky)(ca:CallR):Prop:=∀(lo f:Nat) (args:List FV) (A:FH) (H:Heap) (k:FV->FH->Bool),RH A H->cf lo f args A k=true->∃x A' H',ca lo f (toL args) H=some (.inl (toV x),H')/\RH A' H'/\k x A'=true
theorem xY{cf:ky}{ca:CallR}(hc:HY cf ca){lo:Nat}{vs:List FV}{A:FH}{H:Heap}(rh:RH A H){k:FV->FH->Bool}{raise:Bool}(h:fCall raise cf lo vs A k=true) :
  ∃f first cap r,toL vs=.func (.func f) first cap::r/\yg (ca.ret (if raise then H.length else lo) f (first.toList++r++cap.toList) H) k:=by
 rcases vs with _|⟨x,r⟩
 ·cases h
 have e:fCall.bB' raise A.size lo=if raise then H.length else lo:=by rw[rh.size];cases raise<;>rfl
 obtain⟨v,rfl,h1⟩:=(wk h).resolve_right (by simp);cases v<;>try cases h1
 case func fn first cap=>
  cases fn<;>try cases h1
  case func f=>
   obtain⟨a,ha,h2⟩:=kS (show ofL first.toList (fun a=>ofL cap.toList fun c=>cf (fCall.bB' raise A.size lo) f (a++r++c) A k)=true from h1);obtain⟨c,hc',h3⟩:=kS h2;rw[e]at h3;obtain⟨y,A',H',h4,r4,h5⟩:=hc _ _ _ _ _ _ rh h3;refine⟨f,first,cap,toL r,rfl,y,A',H',?_,r4,h5⟩;simp only[w8,ha,hc']at h4;simp only[CallR.ret,h4]
theorem Em{cf:ky}{ca:CallR}(hc:HY cf ca){o:HOp}{lo:Nat}{vs:List FV}{A:FH}{H:Heap}(rh:RH A H){k:FV->FH->Bool}(h:Lk o cf lo vs A k=true):yg (hsem ca.ret lo o (toL vs) H) k:=by
 cases o
 case call raise=>
  obtain⟨f,first,cap,r,h1,h2⟩:=xY hc rh (show fCall raise cf lo vs A k=true from h);rw[h1];exact h2
 case callC=>
  obtain⟨f,first,cap,r,h1,h2⟩:=xY hc rh (show fCall false cf lo vs A k=true from h);rw[h1];exact h2
 case alloc zero=>
  rcases vs with _|⟨x,r⟩
  ·obtain⟨l,h1,h2⟩:=kS (show ofL zero (fun l=>A.pushL l fun b H=>k (.p b 0) H)=true from h)
   obtain⟨A',h3,r3⟩:=jl rh h2;rw[h1]at r3;exact⟨_,A',_,rfl,r3,h3⟩
  ·cases h
 case box=>
  obtain⟨x,rfl,h1⟩:=jN h;obtain⟨l,h2,h3⟩:=td h1;obtain⟨A',h4,r4⟩:=jl rh h3;rw[h2]at r4;exact⟨_,A',_,rfl,r4,h4⟩
 case mkSl zero=>
  obtain⟨x,y,rfl,h1⟩:=(rp h).resolve_right (by simp);obtain⟨kd,l,rfl,h2⟩:=(tZ h1).resolve_right (by simp);obtain⟨kd',c,rfl,h3⟩:=(tZ h2).resolve_right (by simp);obtain⟨hl,h4⟩:=eI h3;obtain⟨hm,h5⟩:=eI h4;have hl:l<=c:=Nat.le_of_ble_eq_true hl;have hm:c<=cV:=Nat.le_of_ble_eq_true hm;have key:∀{A':FH},RH A' (H++[some (bQ zero c)])->k (.s H.length 0 l c none) A'=true->yg (hsem ca.ret lo (.mkSl zero) (toL [.i kd l,.i kd' c]) H) k:=by
   intro A' r h;refine⟨_,A',_,?_,r,h⟩;simp only[yZ,toV,hsem];rw[if_pos ⟨Int.natCast_nonneg _,Int.ofNat_le.2 hl,Int.ofNat_le.2 hm⟩];rfl
  have gen:ofL (bQ zero c) (fun z=>A.pushL z fun b H=>k (.s b 0 l c none) H)=true->yg (hsem ca.ret lo (.mkSl zero) (toL [.i kd l,.i kd' c]) H) k:=by
   intro h;obtain⟨z,h6,h7⟩:=kS h;obtain⟨A',h8,r8⟩:=jl rh h7;rw[h6]at r8;exact key r8 h8
  rcases zero with _|⟨z,_|⟨z',zs⟩⟩
  ·exact gen h5
  ·obtain⟨x,hx,h6⟩:=vk (show ofV z (fun z=>T.rep z 40 c fun t=>A.push (.mk c t) fun b H=>k (.s b 0 l c none) H)=true from h5)
   obtain⟨t,h7,r7⟩:=T.rep_rep x 40 c h6;obtain⟨A',h8,r8⟩:=wF rh (x:=.mk c t) (y:=some (bQ [z] c)) ⟨_,r7,by simp,by simp[bQ,fk,<-hx]⟩ h7;exact key r8 h8
  ·exact gen h5
 case bSl zero len idx=>
  obtain⟨l,h1,h2⟩:=qD (show oB (buildL (bQ zero len) (idx.map fun i=>(i*zero.length,zero.length)) (toL vs)) (fun l=>ofL l fun l=>A.pushL l fun b H=>k (.s b 0 len len none) H)=true from h);obtain⟨m,h3,h4⟩:=kS h2;obtain⟨A',h5,r5⟩:=jl rh h4;rw[h3]at r5;exact⟨_,A',_,by simp only[hsem,h1];rfl,r5,h5⟩
 case st n=>
  obtain⟨x,y,rfl,h1⟩:=(rp h).resolve_right (by simp);obtain⟨b,o,rfl,h2⟩:=(wo h1).resolve_right (by simp);obtain⟨l,h3,h4⟩:=td h2;obtain⟨hn,h5⟩:=eI h4;obtain⟨h6,h7⟩:=qW h5;obtain⟨A',H',h8,h9,r9⟩:=HS rh h7;have hn:(toV y).cells.size=n:=by rw[<-Nat.eq_of_beq_eq_true hn,<-kh,h3];simp
  have ho:=vz h6;rw[h3]at h9 ho;refine⟨DM,A',H',?_,r9,h8⟩;simp only[yZ,toV,hsem];rw[if_pos ⟨hn,ho⟩];exact congrArg (Option.map fun H'=>(undef,H')) h9
 case app sz z=>
  obtain⟨s,x,rfl,h1⟩:=(rp h).resolve_right (by simp);rcases x with _|_|_|⟨b,o,n,c,sp⟩|v
  ·cases h1
  ·cases h1
  ·cases h1
  ·obtain⟨new,h2,_,h3⟩:=BU rh (show A.rd b o (Nat.mul n sz) (fun new=>Bm Ce new (xX lo sz s new n A k))=true from h1)
   obtain⟨h4,h5⟩:=qW h2;obtain⟨y,A',H',h6,h7⟩:=uf rh h5;have h3:H.cells b o (n*sz)=some (toL new):=h3;refine⟨y,A',H',?_,h7⟩;simp only[yZ,toV,hsem,h3,ao₀];rw[if_pos (vz h4)];exact h6
  ·cases v<;>try cases h1
   case slice a n c=>
    cases a
    ·obtain⟨h2,h3⟩:=eI h1
     obtain⟨y,A',H',h6,h7⟩:=uf rh h3;refine⟨y,A',H',?_,h7⟩;simp only[yZ,toV,hsem];rw[if_pos (Nat.eq_of_beq_eq_true h2)];exact h6
    ·cases h1
 case appS z=>
  obtain⟨s,x,rfl,h1⟩:=(rp h).resolve_right (by simp);obtain⟨v,rfl,h2⟩:=(wk h1).resolve_right (by simp);cases v<;>try cases h2
  case string b=>
   obtain⟨l,h3,h4⟩:=kS h2;rw[en]at h4;obtain⟨y,A',H',h6,h7⟩:=uf rh h4;rw[h3]at h6;exact⟨y,A',H',h6,h7⟩
 case cpy sz=>
  obtain⟨d,a,rfl,h1⟩:=(rp h).resolve_right (by simp);rcases ta h1 with ⟨b,o,n,c,sp,rfl,h2⟩|h2
  ·rcases ta h2 with ⟨b',o',m,c',sp',rfl,h3⟩|h3
   ·rw[en]at h3
    obtain⟨new,h4,_,h5⟩:=BU rh h3;obtain⟨h6,h7⟩:=qW h4;obtain⟨A',H',h8,h9,r9⟩:=HS rh h7;have h5:H.cells b' o' (min m n*sz)=some (toL new):=h5;refine⟨_,A',H',?_,r9,h8⟩;simp only[yZ,toV,hsem,h5,ao₀];rw[if_pos (vz h6),h9];rfl
   ·obtain⟨v,rfl,h4⟩:=(wk h3).resolve_right (by simp)
    cases v<;>try cases h4
    case slice a m c'=>
     cases a
     ·obtain⟨h5,h6⟩:=eI h4
      refine⟨_,A,H,?_,rh,h6⟩;simp only[yZ,toV,hsem];rw[if_pos (Nat.eq_of_beq_eq_true h5)];rfl
     ·cases h4
  ·obtain⟨v,rfl,h3⟩:=(wk h2).resolve_right (by simp)
   cases v<;>try cases h3
   case slice a' n c=>
    cases a'
    ·obtain⟨h4,h5⟩:=eI h3
     obtain⟨h6,h7⟩:=eI h5;have ha:∃p l c,toV a=.slice p l c:=by
      rcases a with _|_|_|⟨b,o,l,c,sp⟩|v
      ·cases h6
      ·cases h6
      ·cases h6
      ·exact⟨_,_,_,rfl⟩
      ·cases v<;>first|exact⟨_,_,_,rfl⟩|cases h6
     obtain⟨p,l,c',ha⟩:=ha;refine⟨_,A,H,?_,rh,h7⟩;simp only[yZ,ha];simp only[toV,hsem];rw[if_pos (Nat.eq_of_beq_eq_true h4)];rfl
    ·cases h3
 case s2b=>
  obtain⟨x,rfl,h1⟩:=jN h;obtain⟨v,rfl,h2⟩:=(wk h1).resolve_right (by simp);cases v<;>try cases h2
  case string b=>
   obtain⟨l,h3,h4⟩:=kS h2;rw[en]at h4;obtain⟨A',h5,r5⟩:=jl rh h4;rw[h3]at r5;exact⟨_,A',_,rfl,r5,h5⟩
 case frz=>
  obtain⟨x,rfl,h1⟩:=jN h;obtain⟨b,o,n,c,sp,rfl,h2⟩:=(ta h1).resolve_right (by simp);cases sp with
  | none=>
   obtain⟨u,l,h3,_,hg,_⟩:=qm rh (show A.blk b (fun _ _=>bB (Nat.ble lo b) (k (.s b o n c none) A) false)=true from h2);obtain⟨h4,h5⟩:=eI h3;refine⟨_,A,H,?_,rh,h5⟩;simp only[kg,toV,hsem,kL,hg];rw[if_pos (Nat.le_of_ble_eq_true h4)]
  | some z=>cases h2
 case fail=>cases h
 case pan=>cases h
def XO1(fx:FS->FH->(Ex->FS->FH->Bool)->Bool)(ex:List Value->Heap->Out):Prop:=∀(F:FS) (S:List Value) (A:FH) (H:Heap) (k:Ex->FS->FH->Bool),RS F S->RH A H->fx F A k=true ->
 ∃x F' S' A' H',ex S H=some (x,S',H')/\RS F' S'/\RH A' H'/\k x F' A'=true
def XOK(fx:FX)(ex:Nat->List Value->Heap->Out):Prop:=∀lo,XO1 (fx lo) (ex lo)
theorem gn{ex:Nat->List Value->Heap->Out}:XOK noX ex:=fun _ _ _ _ _ _ _ _ h=>by cases h
theorem qu{x:Ex}{n r:Bool}{e:Nat->Bool}(h:cEx x n e r=true):(x=.normal/\n=true)\/(∃i,x=.exit i/\e i=true)\/(x=.ret/\r=true):=by
 cases x
 ·exact .inl ⟨rfl,h⟩
 ·exact .inr (.inl ⟨_,rfl,h⟩)
 ·exact .inr (.inr ⟨rfl,h⟩)
theorem FZ{fx:FX}{ex:Nat->List Value->Heap->Out}(hx:XOK fx ex):∀n,XOK (itF fx n) (fun lo=>iter (ex lo) n)
 | 0=>fun _ _ _ _ _ _ _ _ h=>by cases h
 | n+1=>fun lo F S A H k rs rh h=>by
  obtain⟨x,F',S',A',H',h1,r1,r2,h2⟩:=hx lo F S A H _ rs rh (show fx lo F A (fun x S H=>cEx x (itF fx n lo S H k) (fun i=>k (.exit i) S H) (k .ret S H))=true from h);rcases qu h2 with ⟨rfl,h3⟩|⟨i,rfl,h3⟩|⟨rfl,h3⟩
  ·obtain⟨x2,F2,S2,A2,H2,h4,h5⟩:=FZ hx n _ _ _ _ _ _ r1 r2 h3
   exact⟨x2,F2,S2,A2,H2,by simp[iter,h1,h4],h5⟩
  ·exact⟨_,F',S',A',H',by simp[iter,h1],r1,r2,h3⟩
  ·exact⟨_,F',S',A',H',by simp[iter,h1],r1,r2,h3⟩
theorem Ak{f:Nat->FX}{lo:Nat}{g:List Value->Heap->Out}(hf:∀t:Nat,XO1 (f t lo) (fun S H=>g (.int .i64 (t:Int)::S) H)) :
  ∀n {x:Ex} {F:FS} {S:List Value} {A:FH} {H:Heap} {k:Ex->FS->FH->Bool},RS F S->RH A H->I8 f lo n x F A k=true ->
   ∃x' F' S' A' H',hop g n (some (x,S,H))=some (x',S',H')/\RS F' S'/\RH A' H'/\k x' F' A'=true
 | 0,x,F,S,A,H,k,rs,rh,h=>by cases h
 | n+1,x,F,S,A,H,k,rs,rh,h=>by
  rcases qu (show cEx x (k .normal F A) (fun j=>bB (Nat.ble 1000000 j) (f (Nat.sub j 1000000) lo F A fun x S H=>I8 f lo n x S H k) (k (.exit j) F A)) (k .ret F A)=true from h)with ⟨rfl,h3⟩|⟨j,rfl,h3⟩|⟨rfl,h3⟩
  ·exact⟨_,F,S,A,H,rfl,rs,rh,h3⟩
  ·refine dr h3 (fun hb h=>?_) (fun hb h=>?_)
   ·have hb:aU<=j:=Nat.le_of_ble_eq_true hb
    obtain⟨x1,F1,S1,A1,H1,h4,r1,r2,h5⟩:=hf _ _ _ _ _ _ rs rh h;obtain⟨x2,F2,S2,A2,H2,h6,h7⟩:=Ak hf n r1 r2 h5;refine⟨x2,F2,S2,A2,H2,?_,h7⟩;simp only[hop,if_pos hb];have h4:g (.int .i64 ((j-aU:Nat):Int)::S) H=some (x1,S1,H1):=h4;rw[h4];exact h6
   ·rw[iK]at hb
    simp only[ai₀]at hb;exact⟨_,F,S,A,H,by simp only[hop];rw[if_neg (show ¬ aU<=j from hb)],rs,rh,h⟩
  ·exact⟨_,F,S,A,H,rfl,rs,rh,h3⟩
theorem Ek{cf:ky}{ca:CallR}(hc:HY cf ca)(n:Nat)(s:Stm):XOK (je cf n s).1 (fun lo=>exec ca lo n s)/\∀t:Nat,XOK ((je cf n s).2 t) (fun lo S H=>exec ca lo n s (.int .i64 (t:Int)::S) H):=by
 induction s with
 | skip=>exact⟨fun _ _ _ _ _ _ rs rh h=>⟨_,_,_,_,_,rfl,rs,rh,h⟩,fun _=>gn⟩
 | sets l chk=>
  refine⟨fun lo F S A H k rs rh h=>?_,fun _=>gn⟩;obtain⟨vs,G,h1,r1,h2⟩:=rW rs rh l rs h;obtain⟨h3,h4⟩:=vE rs rh chk h2;exact⟨_,G,_,A,H,by simp only[exec,h1,h3,if_true],r1,rh,h4⟩
 | hv l chk pc dst o a=>
  refine⟨fun lo F S A H k rs rh h=>?_,fun _=>gn⟩;obtain⟨vs,G,h1,r1,h2⟩:=rW rs rh l rs h;obtain⟨h3,h4⟩:=vE rs rh chk h2;rcases zT rs rh pc h4 with ⟨h5,h6⟩|⟨h5,h6⟩
  ·obtain⟨xs,h7,h8⟩:=rQ a rs rh h6
   rw[List.append_nil]at h8;obtain⟨x,A',H',h9,r9,h10⟩:=Em (cf:=cf) (ca:=ca) hc rh h8;cases dst with
   | none=>exact⟨_,G,_,A',H',by simp only[exec,h1,h3,if_true,h5,h7,h9],r1,r9,h10⟩
   | some d=>
    obtain⟨F',h11,r11⟩:=r1.set h10;exact⟨_,F',_,A',H',by simp only[exec,h1,h3,if_true,h5,h7,h9],r11,r9,h11⟩
  ·cases dst with
   | none=>exact⟨_,G,_,A,H,by simp only[exec,h1,h3,if_true,h5],r1,rh,h6⟩
   | some d=>
    obtain⟨F',h11,r11⟩:=r1.set h6;exact⟨_,F',_,A,H,by simp only[exec,h1,h3,if_true,h5];rfl,r11,rh,h11⟩
 | dist a b=>
  refine⟨fun lo F S A H k rs rh h=>?_,fun _=>gn⟩;obtain⟨x,h1,h2⟩:=qZ rs rh h;obtain⟨y,h3,h4⟩:=qZ rs rh h2;have hb:∀z:FV,MY z=aW (toV z):=by intro z;cases z<;>rfl
  rw[hb,hb]at h4;have:(aW (toV x)=none\/aW (toV x)≠aW (toV y))/\k .normal F A=true:=by
   rcases hx:aW (toV x)with _|i
   ·rw[hx]at h4;exact⟨.inl rfl,h4⟩
   ·rcases hy:aW (toV y)with _|j
    ·rw[hx,hy]at h4;exact⟨.inr (by simp),h4⟩
    ·rw[hx,hy]at h4
     refine dr h4 (fun _ h=>by cases h) (fun hb h=>⟨.inr ?_,h⟩);simp only[ne_eq,ab₀];exact Nat.ne_of_beq_eq_false hb
  exact⟨_,F,S,A,H,by simp only[exec,h1,h3,if_pos this.1],rs,rh,this.2⟩
 | seq a b iha ihb=>
  refine⟨fun lo F S A H k rs rh h=>?_,fun _=>gn⟩;obtain⟨x,F1,S1,A1,H1,h1,r1,r2,h2⟩:=iha.1 _ _ _ _ _ _ rs rh (show(je cf n a).1 lo F A (fun x S H=>cEx x ((je cf n b).1 lo S H k) (fun i=>k (.exit i) S H) (k .ret S H))=true from h);rcases qu h2 with ⟨rfl,h3⟩|⟨i,rfl,h3⟩|⟨rfl,h3⟩
  ·obtain⟨x2,F2,S2,A2,H2,h4,h5⟩:=ihb.1 _ _ _ _ _ _ r1 r2 h3
   exact⟨x2,F2,S2,A2,H2,by simp only[exec,h1,h4],h5⟩
  ·exact⟨_,F1,S1,A1,H1,by simp only[exec,h1],r1,r2,h3⟩
  ·exact⟨_,F1,S1,A1,H1,by simp only[exec,h1],r1,r2,h3⟩
 | cond c a b iha ihb=>
  refine⟨fun lo F S A H k rs rh h=>?_,fun _=>gn⟩;obtain⟨xs,h1,h2⟩:=rQ c rs rh (show fev c F A [] (fun l=>isB l ((je cf n a).1 lo F A k) ((je cf n b).1 lo F A k))=true from h);rw[List.append_nil]at h2;rcases zd h2 with ⟨rfl,h3⟩|⟨rfl,h3⟩
  ·obtain⟨x2,F2,S2,A2,H2,h4,h5⟩:=iha.1 _ _ _ _ _ _ rs rh h3
   exact⟨x2,F2,S2,A2,H2,by simp only[exec,ev1,h1,kg,toV,h4],h5⟩
  ·obtain⟨x2,F2,S2,A2,H2,h4,h5⟩:=ihb.1 _ _ _ _ _ _ rs rh h3
   exact⟨x2,F2,S2,A2,H2,by simp only[exec,ev1,h1,kg,toV,h4],h5⟩
 | block i b ih=>
  refine⟨fun lo F S A H k rs rh h=>?_,fun _=>gn⟩;obtain⟨x,F1,S1,A1,H1,h1,r1,r2,h2⟩:=ih.1 _ _ _ _ _ _ rs rh (show(je cf n b).1 lo F A (fun x S H=>cEx x (k .normal S H) (fun j=>bB (Nat.beq j i) (k .normal S H) (k (.exit j) S H)) (k .ret S H))=true from h);rcases qu h2 with ⟨rfl,h3⟩|⟨j,rfl,h3⟩|⟨rfl,h3⟩
  ·exact⟨_,F1,S1,A1,H1,by simp only[exec,h1],r1,r2,h3⟩
  ·refine dr h3 (fun hb h=>?_) (fun hb h=>?_)
   ·exact⟨_,F1,S1,A1,H1,by simp only[exec,h1,if_pos (Nat.eq_of_beq_eq_true hb)],r1,r2,h⟩
   ·exact⟨_,F1,S1,A1,H1,by simp only[exec,h1,if_neg (Nat.ne_of_beq_eq_false hb)],r1,r2,h⟩
  ·exact⟨_,F1,S1,A1,H1,by simp only[exec,h1],r1,r2,h3⟩
 | loop b ih=>
  refine⟨fun lo F S A H k rs rh h=>?_,fun _=>gn⟩;obtain⟨x2,F2,S2,A2,H2,h4,h5⟩:=FZ ih.1 n _ _ _ _ _ _ rs rh h;exact⟨x2,F2,S2,A2,H2,by simp only[exec];exact h4,h5⟩
 | exit i=>exact⟨fun _ _ _ _ _ _ rs rh h=>⟨_,_,_,_,_,rfl,rs,rh,h⟩,fun _=>gn⟩
 | ret=>exact⟨fun _ _ _ _ _ _ rs rh h=>⟨_,_,_,_,_,rfl,rs,rh,h⟩,fun _=>gn⟩
 | scope b alts ihb iha=>
  refine⟨fun lo F S A H k rs rh h=>?_,fun _=>gn⟩;obtain⟨x,F1,S1,A1,H1,h1,r1,r2,h2⟩:=ihb.1 _ _ _ _ _ _ rs rh (show(je cf n b).1 lo F A (fun x S H=>I8 (je cf n alts).2 lo n x S H k)=true from h);obtain⟨x2,F2,S2,A2,H2,h4,h5⟩:=Ak (f:=(je cf n alts).2) (lo:=lo) (g:=exec ca lo n alts) (fun t=>iha.2 t lo) n r1 r2 h2;exact⟨x2,F2,S2,A2,H2,by simp only[exec,h1];exact h4,h5⟩
 | alt l s r ihs ihr=>
  refine⟨gn,fun t {lo F S A H k} rs rh h=>?_⟩;have h:xAlt.bX (je cf n s).1 ((je cf n r).2 t) (Nat.beq t l) lo F A k=true:=h;cases hb:Nat.beq t l
  ·rw[hb]at h
   obtain⟨x2,F2,S2,A2,H2,h4,h5⟩:=ihr.2 t _ _ _ _ _ _ rs rh h;exact⟨x2,F2,S2,A2,H2,by simp only[exec];rw[if_neg (fun e=>Nat.ne_of_beq_eq_false hb (by exact_mod_cast e))];exact h4,h5⟩
  ·rw[hb]at h
   obtain⟨x2,F2,S2,A2,H2,h4,h5⟩:=ihs.1 _ _ _ _ _ _ rs rh h;exact⟨x2,F2,S2,A2,H2,by simp only[exec];rw[if_pos (by rw[Nat.eq_of_beq_eq_true hb])];exact h4,h5⟩
theorem Ag{F:FS}{S:List Value}{A:FH}{H:Heap}(rs:RS F S)(rh:RH A H):∀(l:List E) {k:List FV->Bool},Es l F A k=true->∃xs,evList S H l=some (toL xs)/\k xs=true
 | [],k,h=>⟨[],rfl,h⟩
 | e::l,k,h=>by
  obtain⟨x,h1,h2⟩:=qZ rs rh (show zO e F A (fun v=>Es l F A fun l=>k (v::l))=true from h);obtain⟨xs,h3,h4⟩:=Ag rs rh l h2;exact⟨x::xs,by simp only[evList,h1,h3];rfl,h4⟩
theorem Jj{l:List FV}{k:FV->Bool}(h:Ji l k=true):∃x,aM (toL l)=toV x/\k x=true:=by
 rcases l with _|⟨x,_|⟨y,l⟩⟩
 ·exact⟨_,rfl,h⟩
 ·exact⟨_,rfl,h⟩
 ·exact⟨_,rfl,h⟩
def qi(cp:FuncId->Option CF)(sc:SC)(N:Nat):Prop:=∀f args k d,sc f args k d=true->d=true\/∃v g,k v g=true /\
 ∀m,N<=m->∀(lo:Nat) (H:Heap),lo<=H.length->∃G:Heap,G.length=g/\run cp m lo f (toL args) H=some (.inl (toV v),H++G)
theorem BK(cp:FuncId->Option CF):qi cp Nn 0:=fun _ _ _ _ h=>.inl h
theorem vH{cp:FuncId->Option CF}{sc:SC}{N:Nat}(hsc:qi cp sc N):∀n,HY (zV cp sc N n) (run cp (N+n))
 | 0=>fun _ _ _ _ _ _ _ h=>by cases h
 | n+1=>fun lo f args A H k rh h=>by
  rcases hsc _ _ _ _ (show sc f args (fun v g=>A.skip lo g fun H=>k v H) _=true from h)with h|⟨v,g,hk,hr⟩;rotate_left
  ·obtain⟨t,rfl,ht⟩:=rh
   obtain⟨h1,h2⟩:=eI (show bB (Nat.ble lo H.length) (fN (Nat.add H.length g) fun m=>k v (.mk m t)) false=true from hk);rw[en]at h2;obtain⟨G,hG,hr⟩:=hr (N+(n+1)) byO lo H (Nat.le_of_ble_eq_true h1);refine⟨v,_,H++G,hr,⟨t,by rw[as₀,hG];rfl,fun b=>?_⟩,h2⟩;have:=ht b;by_cases hb:b<H.length
   ·rw[ax₀ hb];exact this
   ·rw[av₀ byO]at this
    rcases hg:t.get b with _|x
    ·exact trivial
    ·rw[hg]at this;cases x<;>exact this.elim
  show ∃x A' H',run cp ((N+n)+1) lo f (toL args) H=_/\_;obtain⟨cf,h1,h2⟩:=qD (show oB (cp f) _=true from h);obtain⟨hn,h3⟩:=eI h2;have hn:args.length=cf.np:=Nat.eq_of_beq_eq_true hn;obtain⟨t,h4,r4⟩:=T.rep_rep DM 12 cf.ns h3;obtain⟨t2,h5,r5⟩:=T.setL_rep args r4 h4;have rs:RS t2 (toL args++List.replicate (cf.ns-cf.np) undef):=⟨_,r5,by
   have e:toV DM=undef:=rfl;simp[wH,fk,hn,e]⟩
  cases hk:cf.kind with
  | plain=>
   rw[hk]at h5;obtain⟨x,F1,S1,A1,H1,h6,r6,r7,h7⟩:=(Ek (vH hsc n) (N+n) cf.body).1 _ _ _ _ _ _ rs rh h5;have fin:(Es cf.res F1 A1 fun l=>Ji l fun v=>k v A1)=true->∃x,(match evList S1 H1 cf.res with
     | some vs=>some (Sum.inl (β:=Value) (aM vs),H1)
     | none=>none)=some (.inl (toV x),H1)/\k x A1=true:=by
    intro h;obtain⟨xs,h8,h9⟩:=Ag r6 r7 cf.res h;obtain⟨y,h10,h11⟩:=Jj h9;exact⟨y,by rw[h8];simp only[h10],h11⟩
   rcases qu h7 with ⟨rfl,h8⟩|⟨i,rfl,h8⟩|⟨rfl,h8⟩
   ·obtain⟨y,h9,h10⟩:=fin h8
    exact⟨y,A1,H1,by simp only[run,h1,kh,hn,if_true,hk,h6];exact h9,r7,h10⟩
   ·cases h8
   ·obtain⟨y,h9,h10⟩:=fin h8
    exact⟨y,A1,H1,by simp only[run,h1,kh,hn,if_true,hk,h6];exact h9,r7,h10⟩
  | dfr mid j rst=>rw[hk]at h5;cases h5
  | rcv j=>rw[hk]at h5;cases h5
theorem G6:RH (.mk 0 .e) []:=⟨.e,rfl,fun b=>by simp[T.get_e,RO]⟩
def eq1(a b:Value):Bool:=
 match a,b with
 | .bool a,.bool b=>a==b
 | .int k a,.int k' b=>Nat.beq (idI k) (idI k')&&decide (a=b)
 | .slice none l c,.slice none l' c'=>Nat.beq l l'&&Nat.beq c c'
 | .slice (some ⟨b,o,none⟩) l c,.slice (some ⟨b',o',none⟩) l' c'=>Nat.beq b b'&&Nat.beq o o'&&Nat.beq l l'&&Nat.beq c c'
 | .slice (some ⟨b,o,some z⟩) l c,.slice (some ⟨b',o',some z'⟩) l' c'=>Nat.beq b b'&&Nat.beq o o'&&Nat.beq l l'&&Nat.beq c c'&&Nat.beq z z'
 | _,_=>false
theorem Ed{a b:Value}(h:eq1 a b=true):a=b:=by
 unfold eq1 at h;split at h
 ·rw[eq_of_beq h]
 ·simp only[ac₀,af₀]at h;rw[id_eq h.1,h.2]
 ·simp only[ac₀]at h;rw[Nat.eq_of_beq_eq_true h.1,Nat.eq_of_beq_eq_true h.2]
 ·simp only[ac₀]at h;rw[Nat.eq_of_beq_eq_true h.1.1.1,Nat.eq_of_beq_eq_true h.1.1.2,Nat.eq_of_beq_eq_true h.1.2,Nat.eq_of_beq_eq_true h.2]
 ·simp only[ac₀]at h;rw[Nat.eq_of_beq_eq_true h.1.1.1.1,Nat.eq_of_beq_eq_true h.1.1.1.2,Nat.eq_of_beq_eq_true h.1.1.2,Nat.eq_of_beq_eq_true h.1.2,Nat.eq_of_beq_eq_true h.2]
 ·cases h
def eqL(eq:Value->Value->Bool):List Value->List Value->Bool
 | [],[]=>true
 | a::l,b::m=>eq a b&&eqL eq l m
 | _,_=>false
theorem zK{eq:Value->Value->Bool}(he:∀{a b},eq a b=true->a=b):∀{l m:List Value},eqL eq l m=true->l=m
 | [],[],_=>rfl
 | a::l,b::m,h=>by
  simp only[eqL,ac₀]at h;rw[he h.1,zK he h.2]
 | [],_::_,h=>by cases h
 | _::_,[],h=>by cases h
def eq2(a b:Value):Bool:=match a,b with
 | .agg a,.agg b=>eqL eq1 a.toList b.toList
 | a,b=>eq1 a b
theorem Ee{a b:Value}(h:eq2 a b=true):a=b:=by
 unfold eq2 at h;split at h
 ·rw[Array.toList_inj.1 (zK Ed h)]
 ·exact Ed h
def eq3(a b:Value):Bool:=match a,b with
 | .tuple a,.tuple b=>eqL eq2 a.toList b.toList
 | a,b=>eq2 a b
theorem rJ{a b:Value}(h:eq3 a b=true):a=b:=by
 unfold eq3 at h;split at h
 ·rw[Array.toList_inj.1 (zK Ee h)]
 ·exact Ee h
def Fu(k:Mv)(v:Value):Value:=match v with
 | .slice (some ⟨b,o,s⟩) l c=>.slice (some ⟨k.f b,o,s⟩) l c
 | .pointer (some ⟨b,o,s⟩)=>.pointer (some ⟨k.f b,o,s⟩)
 | v=>v
def Fv(k:Mv)(v:Value):Value:=match v with
 | .agg a=>.agg (a.toList.map (Fu k)).toArray
 | v=>Fu k v
def JR(k:Mv)(v:Value):Value:=match v with
 | .tuple a=>.tuple (a.toList.map (Fv k)).toArray
 | v=>Fv k v
theorem vZ{k:Mv}{g:Value->Value}{eq:Value->Value->Bool}(hg:∀{v v':Value},eq v v=true->Sh k v v'->v'=g v):∀{l l':List Value},eqL eq l l=true->LSh k l l'->l'=l.map g
 | [],l',_,s=>by rw[s.of_nil];rfl
 | v::l,l',h,s=>by
  simp only[eqL,ac₀]at h;obtain⟨y,r,rfl,h1,h2⟩:=s.of_cons;rw[hg h.1 h1,vZ hg h.2 h2];rfl
theorem Gk{k:Mv}{v v':Value}(h:eq1 v v=true)(s:Sh k v v'):v'=Fu k v:=by
 cases s<;>first|rfl|(simp[eq1]at h)
theorem Gl{k:Mv}{v v':Value}(h:eq2 v v=true)(s:Sh k v v'):v'=Fv k v:=by
 cases s
 case agg a a' ha ra=>
  have:=vZ (k:=k) (eq:=eq1) (g:=Fu k) Gk (l:=a.toList) (l':=a'.toList) h (LSh.arr.2 ⟨ha,ra⟩);show Value.agg a'=.agg (a.toList.map (Fu k)).toArray;rw[<-this]
 case tuple=>simp[eq2,eq1]at h
 all_goals exact Gk (k:=k) (by simpa only[eq2]using h) (by constructor<;>assumption)
theorem Gm{k:Mv}{v v':Value}(h:eq3 v v=true)(s:Sh k v v'):v'=JR k v:=by
 cases s
 case tuple a a' ha ra=>
  have:=vZ (k:=k) (eq:=eq2) (g:=Fv k) Gl (l:=a.toList) (l':=a'.toList) h (LSh.arr.2 ⟨ha,ra⟩);show Value.tuple a'=.tuple (a.toList.map (Fv k)).toArray;rw[<-this]
 all_goals exact Gl (k:=k) (by simpa only[eq3]using h) (by constructor<;>assumption)
def KR(v0:Value)(v:FV)(_:FH):Bool:=eq3 (toV v) v0
theorem zM{k:Mv}{H H' H0:Heap}(hn:k.n=H.length)(h:HSh k H0 H')(hp:∀i,i<H.length->H'[i]?=H[i]?):Ext H H':=⟨by have:=h.len;omega,fun i hi=>by unfold Heap.get;rw[hp i hi]⟩
theorem Eh{cp:FuncId->Option CF}{sc:SC}{N:Nat}(hp:∀f cf,cp f=some cf->bA cf=true)(hsc:qi cp sc N){n f:Nat}{args:List FV}{v0:Value}(h:zV cp sc N n 0 f args (.mk 0 .e) (KR v0)=true)(ha:(toL args).all fO=true)(hv:eq3 v0 v0=true)
  {lo:Nat} {H:Heap} (hlo:lo<=H.length):Ev cp lo f (toL args) H (fun v H'=>Ext H H'/\v=JR (mv0 H.length) v0):=by
 obtain⟨x,A',H1,h1,r1,h2⟩:=vH hsc n _ _ _ _ _ _ G6 h;have h2:toV x=v0:=rJ h2;rw[h2]at h1;exact oH hp ha (N+n) h1 hlo fun v' H' hs hh hpre=>⟨zM rfl hh hpre,Gm hv hs⟩
theorem DD{cp:FuncId->Option CF}(hp:∀f cf,cp f=some cf->bA cf=true){f:FuncId}{args:List Value}(ha:args.all fO=true){v:Value}(hv:eq3 v v=true)(hm:∀n,JR (mv0 n) v=v){H0:Heap}{n:Nat}(h:run cp n 0 f args []=some (.inl v,H0)) :
  ∀m,n<=m->∀(lo:Nat) (H:Heap),lo<=H.length->∃G:Heap,G.length=H0.length/\run cp m lo f args H=some (.inl v,H++G):=by
 intro m hmn lo H hlo;have hargs:LSh (mv0 H.length) args args:=by
  refine⟨rfl,fun j x y hx hy=>?_⟩;rw[hx]at hy;cases hy;exact gC (List.all_eq_true.1 ha _ (List.mem_of_getElem? hx))
 obtain⟨r',B',h1,h2,h3⟩:=pV hp n 0 lo f args args [] H _ H0 ⟨Nat.le_refl _,by simp only[mv0];omega⟩ hargs ⟨by simp[mv0],fun i c hc=>by simp[Heap.get]at hc⟩ h;have hl:=h3.sh.newf;rw[Lp]at hl;cases r' with
 | inr u=>exact h2.elim
 | inl u=>
  have e:u=v:=(Gm hv h2).trans (hm _);subst e;refine⟨B'.drop H.length,by rw[List.length_drop];omega,?_⟩;have hB:B'=H++B'.drop H.length:=by
   refine List.ext_getElem? fun i=>?_;by_cases hi:i<H.length
   ·rw[ax₀ hi];exact h3.pre i hi
   ·rw[aw₀ byO,List.getElem?_drop,show H.length+(i-H.length)=i by omega]
  rw[<-hB];exact pU hmn _ _ _ _ _ h1
noncomputable def AW(v0:Value)(g:Nat)(v:FV)(A:FH):Bool:=bB (eq3 (toV v) v0) (Nat.beq A.size g) false
theorem nN{cp:FuncId->Option CF}{sc:SC}{N:Nat}(hp:∀f cf,cp f=some cf->bA cf=true)(hsc:qi cp sc N){n f:Nat}{args:List FV}{v0:Value}{g:Nat}(h:zV cp sc N n 0 f args (.mk 0 .e) (AW v0 g)=true)(ha:(toL args).all fO=true)(hv:eq3 v0 v0=true)(hm:∀n,JR (mv0 n) v0=v0) :
  ∀m,N+n<=m->∀(lo:Nat) (H:Heap),lo<=H.length->∃G:Heap,G.length=g/\run cp m lo f (toL args) H=some (.inl v0,H++G):=by
 obtain⟨x,A',H1,h1,r1,h2⟩:=vH hsc n _ _ _ _ _ _ G6 h;obtain⟨h3,h4⟩:=eI h2;have h3:toV x=v0:=rJ h3;rw[h3]at h1;have hg:H1.length=g:=by rw[<-r1.size];exact Nat.eq_of_beq_eq_true h4
 have:=DD hp ha hv hm h1;rw[hg]at this;exact this
noncomputable def scF(sc:SC)(f0 g:Nat)(c:Value)(v:FV):SC:=fun f args k d=>bB (Nat.beq f f0) (l1 args (fun x=>bB (eq3 (toV x) c) (k v g) d) d) (sc f args k d)
noncomputable def scM(sc:SC)(f0 g K:Nat)(c c2:Value)(v:Nat->Nat):SC:=fun f args k d=>bB (Nat.beq f f0)
 (l3' args (fun x y z=>bB (eq3 (toV x) c) (cI y (fun ka a=>bB (Nat.beq (idI ka) 3) (bB (Nat.ble a K) (bB (eq3 (toV z) c2) (fN (v a) fun n=>k (.o (.tuple #[.int .i64 (.ofNat n),.int .i64 0])) g) d) d) d) d) d) d) (sc f args k d)
where l3' {α β:Type} (l:List β) (f:β->β->β->α) (d:α):α:=List.casesOn l d fun x r=>List.casesOn r d fun y r=>List.casesOn r d fun z r=>List.casesOn r (f x y z) fun _ _=>d
def KO(cp:FuncId->Option CF)(N f:Nat)(args:List Value)(v:Value)(g:Nat):Prop:=∀m,N<=m->∀(lo:Nat) (H:Heap),lo<=H.length->∃G:Heap,G.length=g/\run cp m lo f args H=some (.inl v,H++G)
theorem SL{k:IntKind}(h:Nat.beq (idI k) 3=true):k=.i64:=by cases k<;>first|rfl|cases h
theorem bBs{b x y:Bool}(h:bB b x y=true):b=true/\x=true\/y=true:=by
 cases b
 ·exact .inr h
 ·exact .inl ⟨rfl,h⟩
theorem Gf{cp:FuncId->Option CF}{sc:SC}{N N' f0 g:Nat}{c:Value}{v:FV}(h:qi cp sc N)(hr:KO cp N' f0 [c] (toV v) g):qi cp (scF sc f0 g c v) (max N N'):=by
 intro f args k d hk;rcases hf:Nat.beq f f0 with _|_
 ·unfold scF at hk;rw[hf]at hk
  rcases h f args k d hk with h1|⟨v',g',h1,h2⟩
  ·exact .inl h1
  ·exact .inr ⟨v',g',h1,fun m hm=>h2 m byO⟩
 ·unfold scF at hk;rw[hf]at hk
  have e:=Nat.eq_of_beq_eq_true hf;subst e
  match args,hk with
  | [],hk=>exact .inl hk
  | x::y::r,hk=>exact .inl hk
  | [x],hk=>
   rcases bBs (show bB (eq3 (toV x) c) (k v g) d=true from hk)with ⟨h0,h1⟩|h1
   ·have hx:toV x=c:=rJ h0
    refine .inr ⟨_,_,h1,fun m hm lo H hlo=>?_⟩;show ∃G:Heap,G.length=g/\run cp m lo f [toV x] H=_;rw[hx];exact hr m byO lo H hlo
   ·exact .inl h1
theorem O3{cp:FuncId->Option CF}{sc:SC}{N N' f0 g K:Nat}{c c2:Value}{v:Nat->Nat}(h:qi cp sc N)(hr:∀a,a<=K->KO cp N' f0 [c,.int .i64 a,c2] (.tuple #[.int .i64 (v a:Nat),.int .i64 0]) g):qi cp (scM sc f0 g K c c2 v) (max N N'):=by
 intro f args k d hk;rcases hf:Nat.beq f f0 with _|_
 ·unfold scM at hk;rw[hf]at hk
  rcases h f args k d hk with h1|⟨v',g',h1,h2⟩
  ·exact .inl h1
  ·exact .inr ⟨v',g',h1,fun m hm=>h2 m byO⟩
 ·unfold scM at hk;rw[hf]at hk
  have e:=Nat.eq_of_beq_eq_true hf;subst e
  match args,hk with
  | [],hk=>exact .inl hk
  | [x],hk=>exact .inl hk
  | [x,y],hk=>exact .inl hk
  | x::y::z::w::r,hk=>exact .inl hk
  | [x,y,z],hk=>
   rcases bBs (show bB (eq3 (toV x) c) (cI y (fun ka a=>bB (Nat.beq (idI ka) 3) (bB (Nat.ble a K) (bB (eq3 (toV z) c2) (fN (v a) fun n=>k (.o (.tuple #[.int .i64 (.ofNat n),.int .i64 0])) g) d) d) d) d) d=true from hk)with ⟨h0,h1⟩|h1
   ·cases y with
    | i ka a=>
     rcases bBs (show bB (Nat.beq (idI ka) 3) (bB (Nat.ble a K) (bB (eq3 (toV z) c2) (fN (v a) fun n=>k (.o (.tuple #[.int .i64 (.ofNat n),.int .i64 0])) g) d) d) d=true from h1)with ⟨h2,h3⟩|h3
     ·rcases bBs h3 with ⟨h4,h5⟩|h5
      ·rcases bBs h5 with ⟨h6,h7⟩|h7
       ·rw[en]at h7
        have hx:toV x=c:=rJ h0;have hz:toV z=c2:=rJ h6;have hka:=SL h2;subst hka;refine .inr ⟨_,_,h7,fun m hm lo H hlo=>?_⟩;show ∃G:Heap,G.length=g/\run cp m lo f [toV x,.int .i64 a,toV z] H=_;rw[hx,hz];exact hr a (Nat.le_of_ble_eq_true h4) m byO lo H hlo
       ·exact .inl h7
      ·exact .inl h5
     ·exact .inl h3
    | _=>exact .inl h1
   ·exact .inl h1
end Go.Abs
