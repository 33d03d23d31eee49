/- QR blocks: the tables of versions and levels. QR blocks: interleaving, and the list of places (plain lists). QR blocks: versions and levels that do not exist; the sizes of blocks; the code. Appends to slices with room, slices of slices, slices of points. QR blocks: what interleave answers (integers). QR blocks: what interleave answers (points). QR blocks: the places of the program. QR blocks: the places of the program (Place). QR blocks: the places of the reference (Place). -/
import Derived.Test.YtkeagffmmhllcaaGreatPD9
import Derived.Test.YtkeagffmmhllcaaGreatPD11
import Derived.Test.YtkeagffmmhllcaaGreatPD17
import Derived.Test.YtkeagffmmhllcaaGreatPD18
set_option linter.unusedVariables false
set_option linter.unusedSimpArgs false
set_option linter.unusedSectionVars false
namespace Go.Proofs.YtkeagffmmhllcaaGreat
open Go.Abs
set_option linter.unusedSimpArgs false
set_option linter.unusedVariables false
set_option maxRecDepth 20000
theorem plainAll:∀f cf,cp f=some cf→plainCF cf=true:=by
 intro f cf h
 unfold cp at h
 split at h
 all_goals first|(cases h;kernel_rfl)|(simp at h)
def qT:List (List Nat):=[[26,7,1,10,1,13,1,17,1],[44,10,1,16,1,22,1,28,1],[70,15,1,26,1,18,2,22,2],[100,20,1,18,2,26,2,16,4],[134,26,1,24,2,18,4,22,4],[172,18,2,16,4,24,4,28,4],[196,20,2,18,4,18,6,26,5],[242,24,2,22,4,22,6,26,6],[292,30,2,22,5,20,8,24,8],[346,18,4,26,5,24,8,28,8],[404,20,4,30,5,28,8,24,11],[466,24,4,22,8,26,10,28,11],[532,26,4,22,9,24,12,22,16],[581,30,4,24,9,20,16,24,16],[655,22,6,24,10,30,12,24,18],[733,24,6,28,10,24,17,30,16],[815,28,6,28,11,28,16,28,19],[901,30,6,26,13,28,18,28,21],[991,28,7,26,14,26,21,26,25],[1085,28,8,26,16,30,20,28,25],[1156,28,8,26,17,28,23,30,25],[1258,28,9,28,17,30,23,24,34],[1364,30,9,28,18,30,25,30,30],[1474,30,10,28,20,30,27,30,32],[1588,26,12,28,21,30,29,30,35],[1706,28,12,28,23,28,34,30,37],[1828,30,12,28,25,30,34,30,40],[1921,30,13,28,26,30,35,30,42],[2051,30,14,28,28,30,38,30,45],[2185,30,15,28,29,30,40,30,48],[2323,30,16,28,31,30,43,30,51],[2465,30,17,28,33,30,45,30,54],[2611,30,18,28,35,30,48,30,57],[2761,30,19,28,37,30,51,30,60],[2876,30,19,28,38,30,53,30,63],[3034,30,20,28,40,30,56,30,66],[3196,30,21,28,43,30,59,30,70],[3362,30,22,28,45,30,62,30,74],[3532,30,24,28,47,30,65,30,77],[3706,30,25,28,49,30,68,30,81]]
structure Bk where
 sh:Nat
 lg:Nat
 da:Nat
 ck:Nat
def bkOf(t c b:Nat):Bk:=⟨b-(t-c*b)%b,(t-c*b)%b,(t-c*b)/b,c⟩
def bk(i:Nat):Bk:=bkOf ((qT.getD (i/4) []).getD 0 0) ((qT.getD (i/4) []).getD (2*(i%4)+1) 0) ((qT.getD (i/4) []).getD (2*(i%4)+2) 0)
def Bk.n(b:Bk):Nat:=b.sh+b.lg
def Bk.cap(b:Bk):Nat:=b.n*b.da+b.lg
def Bk.all(b:Bk):Nat:=b.cap+b.n*b.ck
def Bk.val(b:Bk):Value:=.agg #[.int .i64 (b.sh:Nat),.int .i64 (b.lg:Nat),.int .i64 (b.da:Nat),.int .i64 (b.ck:Nat)]
def Bk.cells(b:Bk):List Value:=[.int .i64 (b.sh:Nat),.int .i64 (b.lg:Nat),.int .i64 (b.da:Nat),.int .i64 (b.ck:Nat)]
def Bk.okB(b:Bk):Bool:=decide (1≤b.sh)&&(decide (b.n≤81)&&(decide (1≤b.da)&&(decide (1≤b.ck)&&(decide (b.ck≤30)&&(decide (b.da+1+b.ck≤255)&&decide (b.all≤3706))))))
theorem bk_okB:(List.range 160).all (fun i=>(bk i).okB)=true:=by decide +kernel
structure Bk.Ok (b:Bk):Prop where
 sh:1≤b.sh
 n:b.n≤81
 da:1≤b.da
 ck:1≤b.ck
 ck2:b.ck≤30
 len:b.da+1+b.ck≤255
 all:b.all≤3706
theorem bk_ok{i:Nat}(h:i<160):(bk i).Ok:=by
 have:=List.all_eq_true.1 bk_okB i (List.mem_range.2 h)
 unfold Bk.okB at this
 simp only[Bool.and_eq_true,decide_eq_true_eq]at this
 obtain⟨h1,h2,h3,h4,h5,h6,h7⟩:=this
 exact⟨h1,h2,h3,h4,h5,h6,h7⟩
def asInt1:Value→Option Int
 | .int .i64 n=>some n
 | _=>none
theorem asInt1_eq{v:Value}{n:Int}(h:asInt1 v=some n):v=.int .i64 n:=by
 unfold asInt1 at h
 split at h
 ·simp at h;rw[h]
 ·simp at h
def asInts:List Value→Option (List Int)
 | []=>some []
 | v::r=>match asInt1 v,asInts r with
  | some n,some l=>some (n::l)
  | _,_=>none
theorem asInts_eq:∀{l:List Value} {m:List Int},asInts l=some m→l=m.map (Value.int .i64)
 | [],m,h=>by simp[asInts]at h;subst h;rfl
 | v::r,m,h=>by
  unfold asInts at h
  split at h
  ·rename_i n l h1 h2
   simp at h;subst h
   rw[asInt1_eq h1,asInts_eq h2];rfl
  ·simp at h
def tupL:List Value→Option (List Int)
 | [.agg a,.int .i64 n]=>if n=0 then asInts a.toList else none
 | _=>none
def tupA(r:Option (Value×Heap)):Option (List Int):=match r with
 | some (.tuple t,_)=>tupL t.toList
 | _=>none
def tupI(r:Option (Value×Heap)):Option (List Int):=match r with
 | some (.tuple t,_)=>asInts t.toList
 | _=>none
def Bk.ints(b:Bk):List Int:=[(b.sh:Nat),(b.lg:Nat),(b.da:Nat),(b.ck:Nat)]
def capI(i:Nat):List Int:=[((bk i).cap:Nat),0]
def arg(i:Nat):List Value:=[.int .i64 ((i/4+1:Nat):Int),.int .i64 ((i%4+1:Nat):Int)]
set_option maxRecDepth 100000 in
theorem run_stP:(List.range 160).all (fun i=>decide (tupA (run cp 40 0 14 (arg i) [])=some (bk i).ints))=true:=by kernel_rfl
set_option maxRecDepth 100000 in
theorem run_stV:(List.range 160).all (fun i=>decide (tupA (run cp 40 0 19 (arg i) [])=some (bk i).ints))=true:=by kernel_rfl
set_option maxRecDepth 100000 in
theorem run_cpP:(List.range 160).all (fun i=>decide (tupI (run cp 40 0 30 (arg i) [])=some (capI i)))=true:=by kernel_rfl
theorem sh_agg{k:Nat}{a:Array Value}{v':Value}(h:a.toList.all plain1=true)(s:Sh k (.agg a) v'):v'=.agg a:=by
 cases s
 rename_i a' h1 h2
 have:=lsh_plain h (LSh.arr.2 ⟨h1,h2⟩)
 rw[Array.toList_inj.1 this]
theorem ints_plain(m:List Int):(m.map (Value.int .i64)).all plain1=true:=by simp[plain1]
theorem tupL_eq{l:List Value}{m:List Int}(h:tupL l=some m):l=[.agg (m.map (Value.int .i64)).toArray,.int .i64 0]:=by
 unfold tupL at h
 split at h
 ·rename_i a n
  split at h
  ·rename_i e
   have:=asInts_eq h
   rw[e]
   have e2:a=(m.map (Value.int .i64)).toArray:=Array.toList_inj.1 (by rw[this])
   rw[e2]
  ·simp at h
 ·simp at h
theorem closedA{f:FuncId}{args:List Value}{n:Nat}{m:List Int}(ha:args.all plainV=true)(h:tupA (run cp n 0 f args [])=some m){lo:Nat}{H:Heap}(hlo:lo≤H.length):Ev cp lo f args H (fun v H'=>Ext H H'∧v=.tuple #[.agg (m.map (Value.int .i64)).toArray,.int .i64 0]):=by
 unfold tupA at h
 split at h
 ·rename_i t H0 hr
  have ht:=tupL_eq h
  refine ev_moved plainAll ha n hr hlo fun v' H' hv hH hpre=>⟨ext_of_pre hH hpre,?_⟩
  cases hv
  rename_i t' h1 h2
  have hl:LSh H.length t.toList t'.toList:=LSh.arr.2 ⟨h1,h2⟩
  rw[ht]at hl
  obtain⟨y,r,e1,s1,l1⟩:=hl.of_cons
  obtain⟨y2,r2,e2,s2,l2⟩:=l1.of_cons
  have e3:=l2.of_nil
  subst e3
  have e4:=sh_agg (by simpa using ints_plain m) s1
  subst e4
  have e5:y2=.int .i64 0:=sh_plain rfl s2
  subst e5 e2
  have:t'=#[.agg (m.map (Value.int .i64)).toArray,.int .i64 0]:=Array.toList_inj.1 (by rw[e1])
  rw[this]
 ·simp at h
theorem closedI{f:FuncId}{args:List Value}{n:Nat}{m:List Int}(ha:args.all plainV=true)(h:tupI (run cp n 0 f args [])=some m){lo:Nat}{H:Heap}(hlo:lo≤H.length):Ev cp lo f args H (fun v H'=>Ext H H'∧v=.tuple (m.map (Value.int .i64)).toArray):=by
 unfold tupI at h
 split at h
 ·rename_i t H0 hr
  have ht:=asInts_eq h
  refine ev_moved plainAll ha n hr hlo fun v' H' hv hH hpre=>⟨ext_of_pre hH hpre,?_⟩
  cases hv
  rename_i t' h1 h2
  have:=lsh_plain (by rw[ht];exact ints_plain m) (LSh.arr.2 ⟨h1,h2⟩)
  rw[ht]at this
  rw[Array.toList_inj.1 (show t'.toList=(m.map (Value.int .i64)).toArray.toList by rw[this])]
 ·simp at h
theorem arg_plain(i:Nat):(arg i).all plainV=true:=rfl
theorem stP_ok{i:Nat}(hi:i<160){lo:Nat}{H:Heap}(hlo:lo≤H.length):Ev cp lo 14 (arg i) H (fun v H'=>Ext H H'∧v=.tuple #[(bk i).val,.int .i64 0]):=
 closedA (arg_plain i) (of_decide_eq_true (List.all_eq_true.1 run_stP i (List.mem_range.2 hi))) hlo
theorem stV_ok{i:Nat}(hi:i<160){lo:Nat}{H:Heap}(hlo:lo≤H.length):Ev cp lo 19 (arg i) H (fun v H'=>Ext H H'∧v=.tuple #[(bk i).val,.int .i64 0]):=
 closedA (arg_plain i) (of_decide_eq_true (List.all_eq_true.1 run_stV i (List.mem_range.2 hi))) hlo
theorem cpP_ok{i:Nat}(hi:i<160){lo:Nat}{H:Heap}(hlo:lo≤H.length):Ev cp lo 30 (arg i) H (fun v H'=>Ext H H'∧v=.tuple #[.int .i64 ((bk i).cap:Nat),.int .i64 0]):=
 closedI (arg_plain i) (of_decide_eq_true (List.all_eq_true.1 run_cpP i (List.mem_range.2 hi))) hlo
def Vl(v l:Int):Prop:=(1≤v∧v≤40)∧1≤l∧l≤4
theorem vl_arg{v l:Int}(h:Vl v l):∃i,i<160∧[Value.int .i64 v,Value.int .i64 l]=arg i:=by
 obtain⟨⟨h1,h2⟩,h3,h4⟩:=h
 refine⟨(v.toNat-1)*4+(l.toNat-1),by omega,?_⟩
 have e1:(((((v.toNat-1)*4+(l.toNat-1))/4+1:Nat)):Int)=v:=by omega
 have e2:(((((v.toNat-1)*4+(l.toNat-1))%4+1:Nat)):Int)=l:=by omega
 unfold arg
 rw[e1,e2]
end Go.Proofs.YtkeagffmmhllcaaGreat
namespace Go.Proofs.YtkeagffmmhllcaaGreat
open Go.Abs
set_option linter.unusedSimpArgs false
set_option linter.unusedVariables false
def Bk.len(b:Bk)(x:Nat):Nat:=if b.sh≤x then b.da+1 else b.da
def Bk.lens(b:Bk):List Int:=(List.range b.n).map fun x=>((b.len x:Nat):Int)
section
variable {α:Type}{d:α}
def rowI(d:α)(L:List (List α))(i:Nat):List α:=(L.filter fun l=>decide (i<l.length)).map fun l=>l.getD i d
def ilv(d:α)(L:List (List α))(k:Nat):List α:=(List.range k).flatMap (rowI d L)
def tot(L:List (List α)):Nat:=(L.map List.length).sum
def mxl(L:List (List α)):Nat:=L.foldl (fun m l=>max m l.length) 0
theorem take_getD{β:Type}{l:List β}{i:Nat}(e:β)(h:i<l.length):l.take (i+1)=l.take i++[l.getD i e]:=by
 rw[List.take_succ_eq_append_getElem h,List.getD_eq_getElem?_getD,List.getElem?_eq_getElem h];rfl
theorem rowI_take{L:List (List α)}{i j:Nat}(h:j<L.length):rowI d (L.take (j+1)) i=rowI d (L.take j) i++if i<(L.getD j []).length then[(L.getD j []).getD i d] else[]:=by
 unfold rowI
 rw[take_getD [] h,List.filter_append,List.map_append]
 congr 1
 by_cases hi:i<(L.getD j []).length
 ·rw[if_pos hi,List.filter_cons,if_pos (by simpa using hi)];rfl
 ·rw[if_neg hi,List.filter_cons,if_neg (by simpa using hi)];rfl
theorem ilv_zero(L:List (List α)):ilv d L 0=[]:=rfl
theorem ilv_succ(L:List (List α))(k:Nat):ilv d L (k+1)=ilv d L k++rowI d L k:=by
 unfold ilv;rw[List.range_succ,List.flatMap_append];simp
theorem rowI_zero(i:Nat):rowI d ([]:List (List α)) i=[]:=rfl
theorem rowI_len(L:List (List α))(i:Nat):(rowI d L i).length=(L.filter fun l=>decide (i<l.length)).length:=by simp[rowI]
theorem min_row(L:List (List α))(k:Nat):(L.map fun l=>min (k+1) l.length).sum=(L.map fun l=>min k l.length).sum+(L.filter fun l=>decide (k<l.length)).length:=by
 induction L with
 | nil=>rfl
 | cons l L ih=>
  rw[List.map_cons,List.sum_cons,ih,List.map_cons,List.sum_cons,List.filter_cons]
  by_cases h:k<l.length
  ·rw[if_pos (by simpa using h),List.length_cons];omega
  ·rw[if_neg (by simpa using h)];omega
theorem ilv_len(L:List (List α)):∀k,(ilv d L k).length=(L.map fun l=>min k l.length).sum
 | 0=>by
  rw[ilv_zero]
  induction L with
  | nil=>rfl
  | cons l L ih=>rw[List.map_cons,List.sum_cons,←ih];simp
 | k+1=>by rw[ilv_succ,List.length_append,ilv_len L k,rowI_len,min_row]
theorem ilv_le(L:List (List α))(k:Nat):(ilv d L k).length≤tot L:=by
 rw[ilv_len]
 unfold tot
 induction L with
 | nil=>simp
 | cons l L ih=>rw[List.map_cons,List.sum_cons,List.map_cons,List.sum_cons];omega
theorem rowI_le(L:List (List α))(i j:Nat):(rowI d (L.take j) i).length≤(rowI d L i).length:=by
 rw[rowI_len,rowI_len]
 exact((List.take_sublist j L).filter _).length_le
theorem part_le(L:List (List α))(k j:Nat):(ilv d L k++rowI d (L.take j) k).length≤tot L:=by
 have h:=ilv_le (d:=d) L (k+1)
 rw[ilv_succ,List.length_append]at h
 have:=rowI_le (d:=d) L k j
 rw[List.length_append];omega
theorem mxl_take{L:List (List α)}{j:Nat}(h:j<L.length):mxl (L.take (j+1))=max (mxl (L.take j)) (L.getD j []).length:=by
 unfold mxl;rw[take_getD [] h,List.foldl_append];rfl
theorem tot_take{L:List (List α)}{j:Nat}(h:j<L.length):tot (L.take (j+1))=tot (L.take j)+(L.getD j []).length:=by
 unfold tot;rw[take_getD [] h,List.map_append,List.sum_append];simp
theorem tot_le(L:List (List α))(j:Nat):tot (L.take j)≤tot L:=by
 have e:tot (L.take j)+tot (L.drop j)=tot L:=by
  unfold tot;rw[←List.sum_append,←List.map_append,List.take_append_drop]
 omega
theorem mxl_mono(L:List (List α)):∀m:Nat,m≤L.foldl (fun m l=>max m l.length) m∧∀l ∈ L,l.length≤L.foldl (fun m l=>max m l.length) m:=by
 induction L with
 | nil=>intro m;simp
 | cons l L ih=>
  intro m
  obtain⟨h1,h2⟩:=ih (max m l.length)
  refine⟨by rw[List.foldl_cons];omega,fun x hx=>?_⟩
  rw[List.foldl_cons]
  rcases List.mem_cons.1 hx with rfl|hx
  ·omega
  ·exact h2 x hx
theorem le_mxl{L:List (List α)}{l:List α}(h:l ∈ L):l.length≤mxl L:=(mxl_mono L 0).2 l h
theorem mxl_le_tot(L:List (List α)):mxl L≤tot L:=by
 have:∀m:Nat,L.foldl (fun m l=>max m l.length) m≤m+tot L:=by
  unfold tot
  induction L with
  | nil=>intro m;simp
  | cons l L ih=>intro m;rw[List.foldl_cons,List.map_cons,List.sum_cons];have:=ih (max m l.length);omega
 have:=this 0
 unfold mxl;omega
theorem ilv_more(L:List (List α)){k:Nat}(h:∀l ∈ L,l.length≤k):∀n,ilv d L (k+n)=ilv d L k
 | 0=>rfl
 | n+1=>by
  rw[←Nat.add_assoc,ilv_succ,ilv_more L h n]
  have:rowI d L (k+n)=[]:=by
   unfold rowI
   rw[List.filter_eq_nil_iff.2 (fun l hl=>by have:=h l hl;simp;omega)];rfl
  rw[this,List.append_nil]
theorem ilv_to(L:List (List α)){k k':Nat}(h:∀l ∈ L,l.length≤k)(h':∀l ∈ L,l.length≤k'):ilv d L k=ilv d L k':=by
 rcases Nat.le_total k k' with e|e
 ·have:=ilv_more (d:=d) L h (k'-k)
  rw[show k+(k'-k)=k' by omega]at this;exact this.symm
 ·have:=ilv_more (d:=d) L h' (k-k')
  rw[show k'+(k-k')=k by omega]at this;exact this
theorem ilv_full(L:List (List α)){k:Nat}(h:∀l ∈ L,l.length≤k):(ilv d L k).length=tot L:=by
 rw[ilv_len];unfold tot
 congr 1
 exact List.map_congr_left fun l hl=>by have:=h l hl;omega
end
def plc0(len:Nat→Nat)(n k:Nat):List (Nat×Nat):=(List.range k).flatMap fun y=>((List.range n).filter fun x=>decide (y<len x)).map fun x=>(x,y)
theorem ilv_plc{α:Type}{d:α}(f:Nat→List α)(n k:Nat):ilv d ((List.range n).map f) k=(plc0 (fun x=>(f x).length) n k).map fun p=>(f p.1).getD p.2 d:=by
 unfold ilv plc0 rowI
 rw[List.map_flatMap]
 congr 1
 funext y
 rw[List.filter_map,List.map_map,List.map_map];rfl
theorem plc0_ilv(len:Nat→Nat)(n k:Nat):plc0 len n k=ilv (0,0) ((List.range n).map fun x=>(List.range (len x)).map fun y=>(x,y)) k:=by
 rw[ilv_plc]
 have e:plc0 (fun x=>((List.range (len x)).map fun y=>(x,y)).length) n k=plc0 len n k:=by
  congr 1;funext x;simp
 rw[e]
 rw[List.map_congr_left (g:=id)]
 ·simp
 ·intro p hp
  unfold plc0 at hp
  rw[List.mem_flatMap]at hp
  obtain⟨y,_,hp⟩:=hp
  rw[List.mem_map]at hp
  obtain⟨x,hx,rfl⟩:=hp
  have h2:=(List.mem_filter.1 hx).2
  simp only[decide_eq_true_eq]at h2
  simp[List.getD_eq_getElem?_getD,h2]
theorem mem_plc0{len:Nat→Nat}{n k:Nat}{p:Nat×Nat}:p ∈ plc0 len n k↔p.1<n∧p.2<k∧p.2<len p.1:=by
 unfold plc0
 simp only[List.mem_flatMap,List.mem_map,List.mem_filter,List.mem_range,decide_eq_true_eq]
 constructor
 ·rintro⟨y,hy,x,⟨hx,h⟩,rfl⟩;exact⟨hx,hy,h⟩
 ·rintro⟨h1,h2,h3⟩;exact⟨p.2,h2,p.1,⟨h1,h3⟩,rfl⟩
theorem nodup_plc0(len:Nat→Nat)(n k:Nat):(plc0 len n k).Nodup:=by
 unfold plc0
 refine List.pairwise_flatMap.2 ⟨fun y _=>?_,?_⟩
 ·rw[List.pairwise_map]
  exact(List.nodup_range.sublist List.filter_sublist).imp fun h e=>h (by simpa using e)
 ·refine List.nodup_range.imp fun h=>?_
  intro x hx y hy e
  simp only[List.mem_map]at hx hy
  obtain⟨_,_,rfl⟩:=hx
  obtain⟨_,_,rfl⟩:=hy
  exact h (by simpa using congrArg Prod.snd e)
def Bk.plD(b:Bk):List (Nat×Nat):=plc0 b.len b.n (b.da+1)
def Bk.plC(b:Bk):List (Nat×Nat):=(plc0 (fun _=>b.ck) b.n b.ck).map fun p=>(p.1,b.len p.1+p.2)
def Bk.pl(b:Bk):List (Nat×Nat):=b.plD++b.plC
theorem Bk.len_le(b:Bk)(x:Nat):b.len x≤b.da+1:=by unfold Bk.len;split<;>omega
theorem Bk.len_ge(b:Bk)(x:Nat):b.da≤b.len x:=by unfold Bk.len;split<;>omega
theorem Bk.mem_pl{b:Bk}{p:Nat×Nat}:p ∈ b.pl↔p.1<b.n∧p.2<b.len p.1+b.ck:=by
 unfold Bk.pl Bk.plD Bk.plC
 rw[List.mem_append,mem_plc0,List.mem_map]
 constructor
 ·rintro(⟨h1,h2,h3⟩|⟨q,hq,rfl⟩)
  ·exact⟨h1,by omega⟩
  ·rw[mem_plc0]at hq
   exact⟨hq.1,by simp only;omega⟩
 ·rintro⟨h1,h2⟩
  by_cases h:p.2<b.len p.1
  ·have:=b.len_le p.1
   exact .inl ⟨h1,by omega,h⟩
  ·refine .inr ⟨(p.1,p.2-b.len p.1),mem_plc0.2 ⟨h1,by simp only;omega,by simp only;omega⟩,?_⟩
   simp only
   rw[show b.len p.1+(p.2-b.len p.1)=p.2 by omega]
theorem Bk.nodup_pl(b:Bk):b.pl.Nodup:=by
 unfold Bk.pl
 rw[List.nodup_append]
 refine⟨nodup_plc0 _ _ _,?_,?_⟩
 ·unfold Bk.plC
  refine List.pairwise_map.2 ((nodup_plc0 _ _ _).imp fun h e=>h ?_)
  rename_i p q
  obtain⟨e1,e2⟩:=Prod.mk.inj e
  rw[e1]at e2
  exact Prod.ext e1 (by omega)
 ·intro p hp q hq e
  subst e
  have h1:=(mem_plc0.1 hp).2.2
  unfold Bk.plC at hq
  obtain⟨r,hr,rfl⟩:=List.mem_map.1 hq
  simp only at h1
  omega
theorem sum_const(n c:Nat):((List.range n).map fun _=>c).sum=n*c:=by
 induction n with
 | zero=>simp
 | succ n ih=>rw[List.range_succ,List.map_append,List.sum_append,ih,Nat.succ_mul];simp
theorem sum_lens(s a:Nat):∀n,((List.range (s+n)).map fun x=>if s≤x then a+1 else a).sum=(s+n)*a+n
 | 0=>by
  rw[Nat.add_zero,List.map_congr_left (g:=fun _=>a) (fun x hx=>if_neg (by have:=List.mem_range.1 hx;omega)),sum_const]
  omega
 | n+1=>by
  rw[←Nat.add_assoc,List.range_succ,List.map_append,List.sum_append,sum_lens s a n,Nat.succ_mul]
  simp
  omega
theorem plc0_len(len:Nat→Nat)(n k:Nat)(h:∀x,x<n→len x≤k):(plc0 len n k).length=((List.range n).map len).sum:=by
 rw[plc0_ilv,ilv_len,List.map_map]
 congr 1
 refine List.map_congr_left fun x hx=>?_
 have:=h x (List.mem_range.1 hx)
 simp
 omega
theorem Bk.plD_len(b:Bk):b.plD.length=b.cap:=by
 unfold Bk.plD
 rw[plc0_len _ _ _ (fun x _=>b.len_le x)]
 exact sum_lens b.sh b.da b.lg
theorem Bk.pl_len(b:Bk):b.pl.length=b.all:=by
 unfold Bk.pl Bk.plC
 rw[List.length_append,List.length_map,plD_len,plc0_len _ _ _ (fun _ _=>Nat.le_refl _),sum_const];rfl
def Bk.off(b:Bk)(x:Nat):Nat:=x*b.da+(x-b.sh)
theorem Bk.off_succ(b:Bk)(x:Nat):b.off (x+1)=b.off x+b.len x:=by
 unfold Bk.off Bk.len
 rw[Nat.succ_mul]
 split<;>omega
theorem Bk.off_n(b:Bk):b.off b.n=b.cap:=by
 unfold Bk.off Bk.cap Bk.n
 omega
theorem Bk.off_mono(b:Bk){x y:Nat}(h:x≤y):b.off x≤b.off y:=by
 unfold Bk.off
 have:=Nat.mul_le_mul_right b.da h
 omega
theorem Bk.off_in(b:Bk){x:Nat}(h:x<b.n):b.off x+b.len x≤b.cap:=by
 rw[←b.off_succ,←b.off_n]
 exact b.off_mono h
def blk{α:Type}(b:Bk)(l:List α)(x:Nat):List α:=(l.drop (b.off x)).take (b.len x)
theorem blk_len{α:Type}{b:Bk}{l:List α}{x:Nat}(hl:l.length=b.cap)(hx:x<b.n):(blk b l x).length=b.len x:=by
 have:=b.off_in hx
 unfold blk
 rw[List.length_take,List.length_drop];omega
end Go.Proofs.YtkeagffmmhllcaaGreat
namespace Go.Proofs.YtkeagffmmhllcaaGreat
open Go.Abs Go.RS
set_option linter.unusedSimpArgs false
set_option linter.unusedVariables false
set_option maxRecDepth 20000
def eVl(v:Int):Int:=if 1≤v∧v≤40 then 15 else 14
def bk0:Bk:=⟨0,0,0,0⟩
section
variable {lo:Nat}{H:Heap}{v l:Int}
set_option linter.defProp false in
def xBQb:=And.intro @Int.cast_ofNat_Int (And.intro @fv.eq_1 (And.intro @fvf.eq_1 (And.intro @ite_self.{1} (And.intro @ite_st (And.intro @ite_sf (And.intro @ite_nt (And.intro @cdC.eq_1 (And.intro @arC.eq_1 @Bk.cells.eq_1))))))))
theorem xEQb{P:Prop}(h:P:=by simp(disch:=first|omega|(simp only[lenB];omega))only[evB,xBQb,Nat.reduceAdd,Nat.reduceBEq, *];rfl):P:=h
theorem xSQb{cp:FuncId→Option CF}{lo:Nat}{l:List (Nat×E)}{chk:List E}{Q:Post}{S:List Value}{H:Heap}{vs:List (Nat×Value)}{S':List Value}(k:Q .normal S' H)(h:evSets S H l=some vs:=by exact xEQb)(hc:evChk S H chk=true:=by simp(disch:=first|omega|(simp only[lenB];omega))only[evB,xBQb,Nat.reduceAdd,Nat.reduceBEq, *])(hS:setAll S vs=S':=by exact xEQb):wpS cp lo (.sets l chk) Q S H:=aw_sets h hc hS k
theorem xHQb{cp:FuncId→Option CF}{lo:Nat}{l:List (Nat×E)}{chk:List E}{Q:Post}{S:List Value}{H:Heap}{vs:List (Nat×Value)}{dst:Option Nat}{o:HOp}{a:E}{xs:List Value}(k:wpH cp lo o xs H fun v H'=>Q .normal (setD (setAll S vs) dst v) H')(h:evSets S H l=some vs:=by exact xEQb)(hc:evChk S H chk=true:=by simp(disch:=first|omega|(simp only[lenB];omega))only[evB,xBQb,Nat.reduceAdd,Nat.reduceBEq, *])(ha:ev S H a=some xs:=by exact xEQb):wpS cp lo (.hv l chk [] dst o a) Q S H:=aw_hv h hc ha k
theorem xOQb{cp:FuncId→Option CF}{lo:Nat}{l:List (Nat×E)}{chk:List E}{Q:Post}{S:List Value}{H:Heap}{vs:List (Nat×Value)}{dst:Option Nat}{o:HOp}{a:E}{xs:List Value}{S':List Value}{H':Heap}{v:Value}(hcall:o.isCall=false)(k:Q .normal S' H')(h:evSets S H l=some vs:=by exact xEQb)(hc:evChk S H chk=true:=by simp(disch:=first|omega|(simp only[lenB];omega))only[evB,xBQb,Nat.reduceAdd,Nat.reduceBEq, *])(ha:ev S H a=some xs:=by exact xEQb)(ho:hsem0 lo o xs H=some (v,H'):=by exact xEQb)(hS:setD (setAll S vs) dst v=S':=by exact xEQb):wpS cp lo (.hv l chk [] dst o a) Q S H:=aw_op hcall h hc ha ho hS k
theorem xCQb{cp:FuncId→Option CF}{lo:Nat}{c:E}{a b:Stm}{Q:Post}{S:List Value}{H:Heap}{t:Bool}(k1:t=true→wpS cp lo a Q S H)(k2:t=false→wpS cp lo b Q S H)(h:ev1 S H c=some (.bool t):=by exact xEQb):wpS cp lo (.cond c a b) Q S H:=aw_cond h k1 k2
theorem xRQb{cf:CF}{R:Value→Heap→Prop}{S:List Value}{H:Heap}{vs:List Value}(k:R (resultOf vs) H)(h:evList S H cf.res=some vs:=by exact xEQb):bodyQ cf R .ret S H:=body_ret h k
theorem existsP:Ev cp lo 54 [.int .i64 v] H (fun r H'=>H'=H∧r=.bool (decide (1≤v)&&decide (v≤40))):=by
 refine st54 ?_;unfold bd54 cf54;simp only[kB,ctlB]
 repeat' ((first|refine xSQb ?_|refine xOQb rfl ?_);(try simp only[ctlB]))
 refine xRQb ?_
 exact⟨by trivial,rfl⟩
theorem shares_bad(hno:¬ Vl v l):Ev cp lo 31 [.int .i64 v,.int .i64 l] H (fun r H'=>H'=H∧r=.tuple #[.int .i64 0,.int .i64 0,.int .i64 0,.int .i64 (eVl v)]):=by
 refine st31 ?_;unfold bd31 cf31;simp only[kB,ctlB]
 repeat' ((first|refine xSQb ?_|refine xOQb rfl ?_);(try simp only[ctlB]))
 refine xHQb ?_
 refine wpH_call0 existsP ?_
 rintro r H1 ⟨rfl,rfl⟩
 by_cases hv:1≤v∧v≤40
 ·have he:eVl v=15:=if_pos hv
  have hl:¬ (1≤l∧l≤4):=fun h=>hno ⟨hv,h⟩
  rw[he]
  clear he
  (try simp only[ctlB])
  refine xCQb (fun h=>?_) (fun h=>?_)
  ·exfalso;simp at h<;>omega
  clear h
  (try simp only[ctlB])
  refine xCQb (fun h=>?_) (fun h=>?_)
  case refine_2=>exfalso;simp at h<;>omega
  clear h
  (try simp only[ctlB])
  repeat' ((first|refine xSQb ?_|refine xOQb rfl ?_);(try simp only[ctlB]))
  refine xRQb ?_
  exact⟨by trivial,rfl⟩
 ·have he:eVl v=14:=if_neg hv
  rw[he]
  clear he
  (try simp only[ctlB])
  refine xCQb (fun h=>?_) (fun h=>?_)
  case refine_2=>exfalso;simp at h<;>omega
  clear h
  (try simp only[ctlB])
  repeat' ((first|refine xSQb ?_|refine xOQb rfl ?_);(try simp only[ctlB]))
  refine xRQb ?_
  exact⟨by trivial,rfl⟩
theorem eVl_ne:eVl v≠0:=by unfold eVl;split<;>decide
theorem stP_bad(hlo:lo≤H.length)(hno:¬ Vl v l):Ev cp lo 14 [.int .i64 v,.int .i64 l] H (fun r H'=>Ext H H'∧r=.tuple #[bk0.val,.int .i64 (eVl v)]):=by
 have hne:=eVl_ne (v:=v)
 refine st14 ?_;unfold bd14 cf14;simp only[kB,ctlB]
 repeat' ((first|refine xSQb ?_|refine xOQb rfl ?_);(try simp only[ctlB]))
 refine xHQb ?_
 refine wpH_call0 (shares_bad (v:=v) (l:=l) hno) ?_
 rintro r H1 ⟨rfl,rfl⟩
 generalize eVl v=e at *
 (try simp only[ctlB])
 repeat' ((first|refine xSQb ?_|refine xOQb rfl ?_);(try simp only[ctlB]))
 refine xCQb (fun h=>?_) (fun h=>?_)
 case refine_2=>exfalso;simp at h<;>omega
 clear h
 (try simp only[ctlB])
 repeat' ((first|refine xSQb ?_|refine xOQb rfl ?_);(try simp only[ctlB]))
 refine xRQb ?_
 exact⟨Ext.app _ _,rfl⟩
theorem right_bad(hno:¬ Vl v l):Ev cp lo 40 [.int .i64 v,.int .i64 l] H (fun r H'=>H'=H∧r=.int .i64 (eVl v)):=by
 refine st40 ?_;unfold bd40 cf40;simp only[kB,ctlB]
 repeat' ((first|refine xSQb ?_|refine xOQb rfl ?_);(try simp only[ctlB]))
 by_cases hv:1≤v∧v≤40
 ·have he:eVl v=15:=if_pos hv
  have hl:¬ (1≤l∧l≤4):=fun h=>hno ⟨hv,h⟩
  rw[he]
  clear he
  refine xCQb (fun h=>?_) (fun h=>?_)
  ·exfalso;simp at h<;>omega
  clear h
  (try simp only[ctlB])
  refine xCQb (fun h=>?_) (fun h=>?_)
  case refine_2=>exfalso;simp at h<;>omega
  clear h
  (try simp only[ctlB])
  repeat' ((first|refine xSQb ?_|refine xOQb rfl ?_);(try simp only[ctlB]))
  refine xRQb ?_
  exact⟨by trivial,rfl⟩
 ·have he:eVl v=14:=if_neg hv
  rw[he]
  clear he
  refine xCQb (fun h=>?_) (fun h=>?_)
  case refine_2=>exfalso;simp at h<;>omega
  clear h
  (try simp only[ctlB])
  repeat' ((first|refine xSQb ?_|refine xOQb rfl ?_);(try simp only[ctlB]))
  refine xRQb ?_
  exact⟨by trivial,rfl⟩
theorem stV_bad(hlo:lo≤H.length)(hno:¬ Vl v l):Ev cp lo 19 [.int .i64 v,.int .i64 l] H (fun r H'=>Ext H H'∧r=.tuple #[bk0.val,.int .i64 (eVl v)]):=by
 have hne:=eVl_ne (v:=v)
 refine st19 ?_;unfold bd19 cf19;simp only[kB,ctlB]
 repeat' ((first|refine xSQb ?_|refine xOQb rfl ?_);(try simp only[ctlB]))
 refine xHQb ?_
 refine wpH_call0 (right_bad (v:=v) (l:=l) hno) ?_
 rintro r H1 ⟨rfl,rfl⟩
 generalize eVl v=e at *
 (try simp only[ctlB])
 repeat' ((first|refine xSQb ?_|refine xOQb rfl ?_);(try simp only[ctlB]))
 refine xCQb (fun h=>?_) (fun h=>?_)
 case refine_2=>exfalso;simp at h<;>omega
 clear h
 (try simp only[ctlB])
 repeat' ((first|refine xSQb ?_|refine xOQb rfl ?_);(try simp only[ctlB]))
 refine xRQb ?_
 exact⟨Ext.app _ _,rfl⟩
theorem range_set{n k:Nat}{F G:Nat→Int}(hk:k<n)(h:∀i,i<n→i≠k→G i=F i):((List.range n).map F).set k (G k)=(List.range n).map G:=by
 refine List.ext_getElem (by simp) fun i h1 h2=>?_
 rw[List.getElem_set]
 simp only[List.getElem_map,List.getElem_range]
 split
 ·rename_i e;rw[e]
 ·rename_i e
  rw[h i (by simpa using h2) (fun e2=>e e2.symm)]
theorem sizesP{b:Bk}(hb:b.Ok)(hlo:lo≤H.length):Ev cp lo 27 [b.val] H (fun r H'=>Ext H H'∧∃s,H.length≤s∧r=.slice (some ⟨s,0,none⟩) b.n b.n∧H'.get s=some (intL b.lens)):=by
 have hn:=hb.n
 have hl:=hb.len
 obtain⟨h1,h2,h3,h4,h5,h6,h7⟩:=hb
 have hbn:b.sh≤b.n∧b.lg≤b.n:=by unfold Bk.n;omega
 have hs:(b.sh:Int)+(b.lg:Int)=(b.n:Nat):=by unfold Bk.n;omega
 unfold Bk.val
 refine st27 ?_;unfold bd27 cf27;simp only[kB,ctlB]
 repeat' ((first|refine xSQb ?_|refine xOQb rfl ?_);(try simp only[ctlB]))
 generalize hG:H++_=G at *
 obtain⟨g0,hxG⟩:=box_facts hG
 have g1:Heap.get G (H.length+1)=some (intL ((List.range b.n).map fun x=>if x<0 then((b.len x:Nat):Int) else 0)):=by
  rw[←hG,get_appS]
  have:(List.range b.n).map (fun x=>if x<0 then((b.len x:Nat):Int) else 0)=List.replicate b.n 0:=by
   rw[List.map_congr_left (g:=fun _=>(0:Int)) (fun x _=>if_neg (by omega))]
   simp[List.map_const']
  rw[this];rfl
 clear hG
 have hlG:=Heap.get_lt g1
 (try simp only[ctlB])
 repeat' ((first|refine xSQb ?_|refine xOQb rfl ?_);(try simp only[ctlB]))
 refine aw_for (fun i S H'=>Keep (H.length+1) G H'∧Heap.get H' (H.length+1)=some (intL ((List.range b.n).map fun x=>if x<i then((b.len x:Nat):Int) else 0))∧∃(z:Nat→Value),S=[z 0,.pointer (some ⟨H.length,0,none⟩),z 2,.slice (some ⟨H.length+1,0,none⟩) b.n b.n,z 4,z 5,.int .i64 (b.n:Nat),.int .i64 (i:Nat)]) b.n ?_ ?_ ?_ ?_
 ·exact⟨keep_ext (Ext.refl _),g1,exZGc rfl⟩
 ·rintro i S H' hi ⟨-,-,z,rfl⟩
  exact⟨_,xEQb,by simp⟩
 ·clear g1
  rintro i S H2 hi ⟨k1,k2,z,rfl⟩
  have g0:=k1.get g0 (by omega)
  have hl2:=Heap.get_lt k2
  have hset:((List.range b.n).map fun x=>if x<i then((b.len x:Nat):Int) else 0).set i ((b.len i:Nat):Int)=(List.range b.n).map fun x=>if x<i+1 then((b.len x:Nat):Int) else 0:=by
   have:=range_set (F:=fun x=>if x<i then((b.len x:Nat):Int) else 0) (G:=fun x=>if x<i+1 then((b.len x:Nat):Int) else 0) hi (fun j _ hj=>by
    by_cases h:j<i
    ·rw[if_pos h,if_pos (by omega)]
    ·rw[if_neg h,if_neg (by omega)])
   rw[if_pos (by omega)]at this
   exact this
  have hbl:b.len i=if b.sh≤i then b.da+1 else b.da:=rfl
  have hll:((List.range b.n).map fun x=>if x<i then((b.len x:Nat):Int) else 0).length=b.n:=by simp
  generalize ((List.range b.n).map fun x=>if x<i then((b.len x:Nat):Int) else 0)=L1 at *
  generalize ((List.range b.n).map fun x=>if x<i+1 then((b.len x:Nat):Int) else 0)=L2 at *
  by_cases hsh:b.sh≤i
  ·rw[if_pos hsh]at hbl
   rw[hbl]at hset
   clear hbl
   have hgs:(L1.set i ((b.da:Nat):Int)).getD i 0=((b.da:Nat):Int):=getD_set_self' (by omega)
   have hss:(L1.set i ((b.da:Nat):Int)).set i (((b.da:Nat):Int)+1)=L2:=by rw[List.set_set];exact hset
   clear hset
   (try simp only[ctlB])
   repeat' ((first|refine xSQb ?_|refine xOQb rfl ?_);(try simp only[ctlB]))
   refine xCQb (fun h=>?_) (fun h=>?_)
   case refine_2=>exfalso;simp at h<;>omega
   clear h
   (try simp only[ctlB])
   repeat' ((first|refine xSQb ?_|refine xOQb rfl ?_);(try simp only[ctlB]))
   refine⟨keep_set' (keep_set' k1 _) _,?_,exZGc (by first|rfl|(simp only[Int.natCast_add,Int.natCast_one];rfl)|simp only[Int.natCast_add,Int.natCast_one])⟩
   rw[get_set_self (by simp;omega)]
  ·rw[if_neg hsh]at hbl
   rw[hbl]at hset
   clear hbl
   (try simp only[ctlB])
   repeat' ((first|refine xSQb ?_|refine xOQb rfl ?_);(try simp only[ctlB]))
   refine xCQb (fun h=>?_) (fun h=>?_)
   ·exfalso;simp at h<;>omega
   clear h
   (try simp only[ctlB])
   repeat' ((first|refine xSQb ?_|refine xOQb rfl ?_);(try simp only[ctlB]))
   refine⟨keep_set' k1 _,?_,exZGc (by first|rfl|(simp only[Int.natCast_add,Int.natCast_one];rfl)|simp only[Int.natCast_add,Int.natCast_one])⟩
   rw[get_set_self (by omega)]
 ·rintro S H2 ⟨k1,k2,z,rfl⟩
  have hfin:(List.range b.n).map (fun x=>if x<b.n then((b.len x:Nat):Int) else 0)=b.lens:=List.map_congr_left fun x hx=>if_pos (List.mem_range.1 hx)
  rw[hfin]at k2
  (try simp only[ctlB])
  repeat' ((first|refine xSQb ?_|refine xOQb rfl ?_);(try simp only[ctlB]))
  refine xRQb ?_
  exact⟨k1.ext hxG (by omega),_,by omega,rfl,k2⟩
theorem okf285:OkF 2 256 285 (fB 285):=⟨OkC.ok,rfl,rfl,rfl⟩
theorem gn285:Gn (OkC.ok (f:=fB 285)) (eB 285 2):=by
 refine⟨by decide,ord_two bf285 gen285,fun x h1 h2 h=>?_⟩
 have h3:x.val=1:=by
  have:x.val<2:=h2
  omega
 have:x=eB 285 1:=El.ext h3
 subst this
 exact one_not_ord h
theorem binaryP(hlo:lo≤H.length):Ev cp lo 32 [.int .i64 8,.int .i64 285] H (fun r H'=>Ext H H'∧r=.tuple #[fv 2 256 285,.int .i64 0]):=by
 have hsh:IntKind.i64.wrap (1*2^(min (8:Int).toNat IntKind.i64.bits))=256:=by decide
 refine st32 ?_;unfold bd32 cf32;simp only[kB,ctlB]
 repeat' ((first|refine xSQb ?_|refine xOQb rfl ?_);(try simp only[ctlB]))
 refine xCQb (fun h=>?_) (fun h=>?_)
 ·exfalso;simp at h
 clear h
 (try simp only[ctlB])
 repeat' ((first|refine xSQb ?_|refine xOQb rfl ?_);(try simp only[ctlB]))
 generalize hG:H++_=G at *
 obtain⟨g0,hxG⟩:=box_facts hG
 have g1:Heap.get G (H.length+1)=some [Value.int .i64 2,Value.int .i64 256,Value.int .i64 285]:=by rw[←hG,get_appS];rfl
 clear hG
 refine xHQb ?_
 refine wpH_call0 (valid (ch:=2) (sz:=256) (po:=285) (by decide)) ?_
 rintro r H1 ⟨hx1,t,rfl,ht⟩
 have htt:t=true:=ht.2 ⟨_,okf285⟩
 subst htt
 clear ht
 have g0:=(hx1).get g0;have g1:=(hx1).get g1
 have hx1:=hxG.trans hx1
 have hl1:=Heap.get_lt g1
 (try simp only[ctlB])
 refine xCQb (fun h=>?_) (fun h=>?_)
 ·cases h
 clear h
 (try simp only[ctlB])
 repeat' ((first|refine xSQb ?_|refine xOQb rfl ?_);(try simp only[ctlB]))
 refine xRQb ?_
 exact⟨hx1.set (by omega),rfl⟩
theorem codeP{c:Nat}(hlo:lo≤H.length)(h1:1≤c)(h2:c≤254):Ev cp lo 15 [.int .i64 (c:Nat)] H (fun r H'=>Ext H H'∧r=.tuple #[cdV (fB 285) c 0,.int .i64 0]):=by
 have hok:OkCd 2 256 285 (c:Nat) 0:=⟨⟨_,okf285⟩,by omega,by omega,by omega,by omega⟩
 refine st15 ?_;unfold bd15 cf15;simp only[kB,ctlB]
 repeat' ((first|refine xSQb ?_|refine xOQb rfl ?_);(try simp only[ctlB]))
 refine xHQb ?_
 refine wpH_call0 (binaryP (by simp;omega)) ?_
 rintro r H1 ⟨hx1,rfl⟩
 have g0:H1.get H.length=some _:=hx1.get (xEQb)
 have hx1:=hx1.of_app
 have hl1:=hx1.1
 have hlt:=Heap.get_lt g0
 unfold fv
 (try simp only[ctlB])
 repeat' ((first|refine xSQb ?_|refine xOQb rfl ?_);(try simp only[ctlB]))
 generalize hG:H1++_=G at *
 obtain⟨g1,hxG⟩:=box_facts hG
 clear hG
 have g0:=(hxG).get g0
 have hx2:=hx1.trans hxG
 have hl2:=hx2.1
 refine xCQb (fun h=>?_) (fun h=>?_)
 ·cases h
 clear h
 (try simp only[ctlB])
 refine xHQb ?_
 refine wpH_call0 (newR (ch:=2) (sz:=256) (po:=285) (r:=(c:Nat)) (b:=0) (by omega) (by omega)) ?_
 rintro r H3 ⟨hx3,-,-,hv⟩
 rw[hv hok]
 clear hv
 have g0:=(hx3).get g0
 have hx3:=hx2.trans hx3
 have hl3:=Heap.get_lt g0
 unfold cdI
 (try simp only[ctlB])
 repeat' ((first|refine xSQb ?_|refine xOQb rfl ?_);(try simp only[ctlB]))
 refine xRQb ?_
 exact⟨hx3.set (by omega),rfl⟩
end
end Go.Proofs.YtkeagffmmhllcaaGreat
namespace Go.Proofs.YtkeagffmmhllcaaGreat
open Go.Abs Go.RS
set_option linter.unusedSimpArgs false
set_option linter.unusedVariables false
theorem box_facts2{H G:Heap}{c e:List Value}{L:Heap}(h:H++some c::some e::L=G):G.get H.length=some c∧G.get (H.length+1)=some e∧Ext H G:=by
 subst h
 exact⟨get_app0,by rw[get_appS];rfl,Ext.app _ _⟩
section
variable {cp:FuncId→Option CF}{lo:Nat}
theorem wpH_app_room{sz:Nat}{z:List Value}{H:Heap}{b n cap t o k m:Nat}{sp:Option Nat}{D c' c:List Value}{R:Value→Heap→Prop}(hlo:lo≤b)(hk:n+k≤cap)(hb:H.get b=some D)(hd:n*sz+k*sz≤D.length)(ht:H.get t=some c')(hlen:o+k*sz≤c'.length)(hc:(c'.drop o).take (k*sz)=c)(h1:oneCells c=true)
  (kk:R (.slice (some ⟨b,0,none⟩) (n+k) cap) (H.set b (some (putCells D (n*sz) c)))):wpH cp lo (.app sz z) [.slice (some ⟨b,0,none⟩) n cap,.slice (some ⟨t,o,sp⟩) k m] H R:=by
 have hcl:c.length=k*sz:=by rw[←hc];simp;omega
 simp only[wpH,hsem0,hsem,Heap.cells,ht,hlen,if_true,Option.bind_some,hc,h1]
 simp only[appendSem,hk,if_true,Nat.zero_add,Heap.put,hb,hcl,hlo,hd,and_self,true_or,Option.map_some]
 exact kk
theorem wpH_app_full{sz:Nat}{z:List Value}{H:Heap}{b n cap t o k m:Nat}{sp:Option Nat}{D c' c:List Value}{R:Value→Heap→Prop}(hk:cap<n+k)(hbig:n+k≤4294967296)(hb:H.get b=some D)(hd:n*sz≤D.length)(ht:H.get t=some c')(hlen:o+k*sz≤c'.length)(hc:(c'.drop o).take (k*sz)=c)(h1:oneCells c=true)
  (kk:R (.slice (some ⟨H.length,0,some sz⟩) (n+k) (n+k)) (H++[some (D.take (n*sz)++c)])):wpH cp lo (.app sz z) [.slice (some ⟨b,0,none⟩) n cap,.slice (some ⟨t,o,sp⟩) k m] H R:=by
 simp only[wpH,hsem0,hsem,Heap.cells,ht,hlen,if_true,Option.bind_some,hc,h1]
 simp only[appendSem,Nat.zero_add]
 rw[if_neg (by omega),if_neg (by unfold mostNeed;omega)]
 simp only[Heap.cells,hb,Nat.zero_add,hd,if_true,List.drop_zero,Option.map_some]
 exact kk
end
theorem sl_head{α:Type}{enc:α→Value}{H:Heap}{v:Value}{l:List α}{k:Nat}(h:Sl enc H v l)(hk:k≤l.length):∃v',(∀H',lsem (.sl 1 false true false) [v,.int .i64 (k:Nat)] H'=some v')∧Sl enc H v' (l.take k):=by
 rcases h with ⟨rfl,rfl⟩|⟨b,o,sp,cap,xs,rfl,h2,h3,h4,h5,h6⟩
 ·have:k=0:=by simpa using hk
  subst this
  exact⟨.slice none 0 0,fun _=>rfl,.inl ⟨rfl,rfl⟩⟩
 ·have hl:(l.take k).length=k:=by rw[List.length_take];omega
  have hb:bounds l.length cap false true false [.int .i64 (k:Nat)]=some (0,k,cap):=by
   rw[bd_hi (by omega) (by omega)];rfl
  have hm:(xs.drop o).take k=(l.take k).map enc:=by
   rw[List.map_take,←h3,List.take_take,Nat.min_eq_left hk]
  rcases h5 with rfl|rfl
  ·refine⟨.slice (some ⟨b,o,none⟩) k cap,fun H'=>?_,.inr ⟨b,o,none,cap,xs,by rw[hl],h2,by rw[hl];exact hm,by omega,.inl rfl,by omega⟩⟩
   rw[ls_slx,hb]
   simp
  ·refine⟨.slice (some ⟨b,o,some 1⟩) k cap,fun H'=>?_,.inr ⟨b,o,some 1,cap,xs,by rw[hl],h2,by rw[hl];exact hm,by omega,.inr rfl,by omega⟩⟩
   rw[ls_sli,hb]
   simp
theorem sl_drop{α:Type}{enc:α→Value}{H:Heap}{v:Value}{l:List α}{k:Nat}(h:Sl enc H v l)(hk:k≤l.length):∃v',(∀H',lsem (.sl 1 true false false) [v,.int .i64 (k:Nat)] H'=some v')∧Sl enc H v' (l.drop k):=by
 rcases h with ⟨rfl,rfl⟩|⟨b,o,sp,cap,xs,rfl,h2,h3,h4,h5,h6⟩
 ·have:k=0:=by simpa using hk
  subst this
  exact⟨.slice none 0 0,fun _=>rfl,.inl ⟨rfl,rfl⟩⟩
 ·have hl:(l.drop k).length=l.length-k:=List.length_drop
  have hb:bounds l.length cap true false false [.int .i64 (k:Nat)]=some (k,l.length,cap):=by
   rw[bd_lo (by omega) (by omega)];rfl
  have hm:∀o',(o'=o+k∨l.length=k)→(xs.drop o').take (l.length-k)=(l.drop k).map enc:=by
   intro o' ho
   rw[List.map_drop,←h3]
   rcases ho with rfl|ho
   ·rw[List.drop_take,List.drop_drop]
   ·rw[ho,Nat.sub_self,List.take_zero,List.drop_of_length_le (by rw[List.length_take];omega)]
  rcases h5 with rfl|rfl
  ·refine⟨.slice (some ⟨b,if cap=k then o else o+k*1,none⟩) (l.length-k) (cap-k),fun H'=>?_,.inr ⟨b,_,none,cap-k,xs,by rw[hl],h2,by rw[hl];exact hm _ (by split<;>omega),by rw[hl];split<;>omega,.inl rfl,by omega⟩⟩
   rw[ls_slx,hb]
   simp
  ·refine⟨.slice (some ⟨b,o+k*1,some 1⟩) (l.length-k) (cap-k),fun H'=>?_,.inr ⟨b,_,some 1,cap-k,xs,by rw[hl],h2,by rw[hl];exact hm _ (by omega),by omega,.inr rfl,by omega⟩⟩
   rw[ls_sli,hb]
   simp
theorem wpH_cpyI{cp:FuncId→Option CF}{lo:Nat}{H:Heap}{v:Value}{p D:List Int}{d n c:Nat}{R:Value→Heap→Prop}(hlo:lo≤d)(hd:H.get d=some (intL D))(hn:D.length=n)(hp:SlI H v p)(k:∀w,R w (H.set d (some (intL (p.take n++D.drop (min p.length n)))))):wpH cp lo (.cpy 1) [.slice (some ⟨d,0,none⟩) n c,v] H R:=by
 simp only[wpH]
 rcases hp with ⟨rfl,rfl⟩|⟨b,o,sp,cap,xs,rfl,hb,hx,hlen,-⟩
 ·simp only[hsem0,hsem,if_true]
  have:=k (.int .i64 0)
  simp only[List.length_nil,Nat.zero_min,List.take_nil,List.drop_zero,List.nil_append]at this
  rwa [set_get_self hd]at this
 ·rw[hs_cpy hlo,hb,hd]
  have hx2:(xs.drop o).take (min p.length n*1)=intL (p.take n):=by
   have:((xs.drop o).take p.length).take n=(p.map (Value.int .i64)).take n:=by rw[hx]
   rw[List.take_take,←List.map_take]at this
   rw[Nat.mul_one,Nat.min_comm];exact this
  have h1:o+min p.length n*1≤xs.length:=by omega
  have h2:0+min p.length n*1≤(intL D).length:=by rw[intL_len];omega
  simp only[h1,h2,hx2,intL_one',and_self,if_true]
  have hpc:putCells (intL D) 0 (intL (p.take n))=intL (p.take n++D.drop (min p.length n)):=by
   rw[putCells_0,intL_app,intL_drop,intL_len,List.length_take,Nat.min_comm]
  rw[hpc]
  exact k _
def SlS(H:Heap)(v:Value)(vs:List Value):Prop:=(v=.slice none 0 0∧vs=[])∨∃b sp cap,v=.slice (some ⟨b,0,sp⟩) vs.length cap∧H.get b=some vs
theorem SlS.mono{H H':Heap}{v:Value}{vs:List Value}(h:SlS H v vs)(e:Ext H H'):SlS H' v vs:=by
 rcases h with h|⟨b,sp,cap,h1,h2⟩
 ·exact .inl h
 ·exact .inr ⟨b,sp,cap,h1,e.get h2⟩
theorem SlS.len{H:Heap}{v:Value}{vs:List Value}(h:SlS H v vs):∃a c,v=.slice a vs.length c:=by
 rcases h with ⟨rfl,rfl⟩|⟨b,sp,cap,rfl,_⟩
 ·exact⟨_,_,rfl⟩
 ·exact⟨_,_,rfl⟩
theorem SlS.els{H:Heap}{v:Value}{vs:List Value}(h:SlS H v vs)(hl:0<vs.length):∃b sp cap,v=.slice (some ⟨b,0,sp⟩) vs.length cap∧H.get b=some vs:=by
 rcases h with ⟨rfl,rfl⟩|h
 ·simp at hl
 ·exact h
theorem SlS.ofOwn{lo:Nat}{H:Heap}{v:Value}{b:Nat}{vs:List Value}(h:Own lo 1 H v b vs):SlS H v vs:=by
 obtain⟨_,⟨rfl,h⟩|⟨n,_,h1,rfl,h2⟩⟩:=h
 ·exact .inl ⟨rfl,h⟩
 ·have:n=vs.length:=by simpa using h1
  subst this
  exact .inr ⟨b,some 1,_,rfl,h2⟩
theorem SlS.keep{H H':Heap}{v:Value}{vs:List Value}{d:Nat}(h:SlS H v vs)(e:Keep d H H')(hd:H.get d≠some vs):SlS H' v vs:=by
 rcases h with h|⟨b,sp,cap,h1,h2⟩
 ·exact .inl h
 ·exact .inr ⟨b,sp,cap,h1,e.get h2 (fun e=>hd (by rw[←e];exact h2))⟩
def SlL(H:Heap)(v:Value)(L:List (List Int)):Prop:=∃vs,SlS H v vs∧vs.length=L.length∧∀i,i<L.length→SlI H (vs.getD i nl) (L.getD i [])
theorem SlL.mono{H H':Heap}{v:Value}{L:List (List Int)}(h:SlL H v L)(e:Ext H H'):SlL H' v L:=by
 obtain⟨vs,h1,h2,h3⟩:=h
 exact⟨vs,h1.mono e,h2,fun i hi=>(h3 i hi).mono e⟩
theorem SlL.len{H:Heap}{v:Value}{L:List (List Int)}(h:SlL H v L):∃a c,v=.slice a L.length c:=by
 obtain⟨vs,h1,h2,_⟩:=h
 rw[←h2];exact h1.len
theorem vs_at{vs:List Value}{i:Nat}(h:i<vs.length):vs[i]?=some (vs.getD i nl):=by
 rw[List.getD_eq_getElem?_getD,List.getElem?_eq_getElem h];rfl
theorem SlL.els{H:Heap}{v:Value}{L:List (List Int)}(h:SlL H v L)(hl:0<L.length):∃b sp cap vs,v=.slice (some ⟨b,0,sp⟩) L.length cap∧H.get b=some vs∧vs.length=L.length∧∀i,i<L.length→vs[i]?=some (vs.getD i nl)∧SlI H (vs.getD i nl) (L.getD i []):=by
 obtain⟨vs,h1,h2,h3⟩:=h
 obtain⟨b,sp,cap,rfl,h4⟩:=h1.els (by omega)
 exact⟨b,sp,cap,vs,by rw[h2],h4,h2,fun i hi=>⟨vs_at (by omega),h3 i hi⟩⟩
def penc(p:Int×Int):List Value:=[.int .i64 p.1,.int .i64 p.2]
def ptL(l:List (Int×Int)):List Value:=l.flatMap penc
theorem ptL_len(l:List (Int×Int)):(ptL l).length=l.length*2:=by
 unfold ptL
 induction l with
 | nil=>rfl
 | cons p l ih=>rw[List.flatMap_cons,List.length_append,ih,List.length_cons];simp[penc];omega
theorem ptL_app(l m:List (Int×Int)):ptL (l++m)=ptL l++ptL m:=by simp[ptL]
theorem ptL_cons(p:Int×Int)(l:List (Int×Int)):ptL (p::l)=.int .i64 p.1::.int .i64 p.2::ptL l:=rfl
theorem ptL_one(l:List (Int×Int)):oneCells (ptL l)=true:=by
 induction l with
 | nil=>rfl
 | cons p l ih=>rw[ptL_cons,oneCells_cons,oneCells_cons,ih];rfl
theorem ptL_two:∀{l:List (Int×Int)} {i:Nat},i<l.length→((ptL l).drop (i*2)).take 2=[.int .i64 (l.getD i (0,0)).1,.int .i64 (l.getD i (0,0)).2]
 | [],i,h=>by simp at h
 | p::l,0,_=>rfl
 | p::l,i+1,h=>by
  have ih:=ptL_two (l:=l) (i:=i) (by simpa using h)
  rw[ptL_cons,show(i+1)*2=(i*2+1)+1 by omega,List.drop_succ_cons,List.drop_succ_cons]
  exact ih
theorem ptL_put:∀{l:List (Int×Int)} {i:Nat} {x y:Int},i<l.length→putCells (ptL l) (i*2) [.int .i64 x,.int .i64 y]=ptL (l.set i (x,y))
 | [],i,_,_,h=>by simp at h
 | p::l,0,x,y,_=>by
  rw[ptL_cons,List.set_cons_zero,ptL_cons,Nat.zero_mul,putCells_0];rfl
 | p::l,i+1,x,y,h=>by
  rw[ptL_cons,show(i+1)*2=(i*2+1)+1 by omega,putCells_S,putCells_S,ptL_put (by simpa using h),List.set_cons_succ,ptL_cons]
theorem zeros_pt(n:Nat):zeros [.int .i64 0,.int .i64 0] n=ptL (List.replicate n (0,0)):=by
 unfold zeros
 induction n with
 | zero=>rfl
 | succ n ih=>rw[List.replicate_succ,List.flatten_cons,ih,List.replicate_succ,ptL_cons];rfl
def SlPt(H:Heap)(v:Value)(l:List (Int×Int)):Prop:=(v=.slice none 0 0∧l=[])∨∃b sp cap,v=.slice (some ⟨b,0,sp⟩) l.length cap∧H.get b=some (ptL l)
theorem SlPt.mono{H H':Heap}{v:Value}{l:List (Int×Int)}(h:SlPt H v l)(e:Ext H H'):SlPt H' v l:=by
 rcases h with h|⟨b,sp,cap,h1,h2⟩
 ·exact .inl h
 ·exact .inr ⟨b,sp,cap,h1,e.get h2⟩
theorem SlPt.len{H:Heap}{v:Value}{l:List (Int×Int)}(h:SlPt H v l):∃a c,v=.slice a l.length c:=by
 rcases h with ⟨rfl,rfl⟩|⟨b,sp,cap,rfl,_⟩
 ·exact⟨_,_,rfl⟩
 ·exact⟨_,_,rfl⟩
theorem SlPt.els{H:Heap}{v:Value}{l:List (Int×Int)}(h:SlPt H v l)(hl:0<l.length):∃b sp cap,v=.slice (some ⟨b,0,sp⟩) l.length cap∧H.get b=some (ptL l):=by
 rcases h with ⟨rfl,rfl⟩|h
 ·simp at hl
 ·exact h
theorem SlPt.ofOwn{lo:Nat}{H:Heap}{v:Value}{b:Nat}{l:List (Int×Int)}(h:Own lo 2 H v b (ptL l)):SlPt H v l:=by
 obtain⟨_,⟨rfl,h⟩|⟨n,_,h1,rfl,h2⟩⟩:=h
 ·refine .inl ⟨rfl,?_⟩
  cases l with
  | nil=>rfl
  | cons p l=>rw[ptL_cons]at h;cases h
 ·rw[ptL_len]at h1
  have:n=l.length:=by omega
  subst this
  exact .inr ⟨b,some 2,_,rfl,h2⟩
def SlLp(H:Heap)(v:Value)(L:List (List (Int×Int))):Prop:=∃vs,SlS H v vs∧vs.length=L.length∧∀i,i<L.length→SlPt H (vs.getD i nl) (L.getD i [])
theorem SlLp.mono{H H':Heap}{v:Value}{L:List (List (Int×Int))}(h:SlLp H v L)(e:Ext H H'):SlLp H' v L:=by
 obtain⟨vs,h1,h2,h3⟩:=h
 exact⟨vs,h1.mono e,h2,fun i hi=>(h3 i hi).mono e⟩
theorem SlLp.len{H:Heap}{v:Value}{L:List (List (Int×Int))}(h:SlLp H v L):∃a c,v=.slice a L.length c:=by
 obtain⟨vs,h1,h2,_⟩:=h
 rw[←h2];exact h1.len
theorem SlLp.els{H:Heap}{v:Value}{L:List (List (Int×Int))}(h:SlLp H v L)(hl:0<L.length):∃b sp cap vs,v=.slice (some ⟨b,0,sp⟩) L.length cap∧H.get b=some vs∧vs.length=L.length∧∀i,i<L.length→vs[i]?=some (vs.getD i nl)∧SlPt H (vs.getD i nl) (L.getD i []):=by
 obtain⟨vs,h1,h2,h3⟩:=h
 obtain⟨b,sp,cap,rfl,h4⟩:=h1.els (by omega)
 exact⟨b,sp,cap,vs,by rw[h2],h4,h2,fun i hi=>⟨vs_at (by omega),h3 i hi⟩⟩
end Go.Proofs.YtkeagffmmhllcaaGreat
namespace Go.Proofs.YtkeagffmmhllcaaGreat
open Go.Abs Go.RS
set_option linter.unusedSimpArgs false
set_option linter.unusedVariables false
set_option maxRecDepth 20000
theorem put_room{X:List Int}{T:Nat}{v:Int}(h:X.length<T):putCells (intL (X++List.replicate (T-X.length) 0)) (X.length*1) [.int .i64 v]=intL ((X++[v])++List.replicate (T-(X++[v]).length) 0):=by
 obtain⟨k,hk⟩:∃k,T-X.length=k+1:=⟨T-X.length-1,by omega⟩
 have e:T-(X++[v]).length=k:=by simp;omega
 rw[e,hk,Nat.mul_one]
 unfold putCells intL
 simp[List.replicate_succ,List.drop_append]
section
variable {lo:Nat}{H:Heap}
set_option linter.defProp false in
def xBQd:=And.intro @Int.cast_ofNat_Int @ite_self.{1}
theorem xEQd{P:Prop}(h:P:=by simp(disch:=first|omega|(simp only[lenB];omega))only[evB,xBQd,Nat.reduceAdd,Nat.reduceBEq, *];rfl):P:=h
theorem xSQd{cp:FuncId→Option CF}{lo:Nat}{l:List (Nat×E)}{chk:List E}{Q:Post}{S:List Value}{H:Heap}{vs:List (Nat×Value)}{S':List Value}(k:Q .normal S' H)(h:evSets S H l=some vs:=by exact xEQd)(hc:evChk S H chk=true:=by simp(disch:=first|omega|(simp only[lenB];omega))only[evB,xBQd,Nat.reduceAdd,Nat.reduceBEq, *])(hS:setAll S vs=S':=by exact xEQd):wpS cp lo (.sets l chk) Q S H:=aw_sets h hc hS k
theorem xHQd{cp:FuncId→Option CF}{lo:Nat}{l:List (Nat×E)}{chk:List E}{Q:Post}{S:List Value}{H:Heap}{vs:List (Nat×Value)}{dst:Option Nat}{o:HOp}{a:E}{xs:List Value}(k:wpH cp lo o xs H fun v H'=>Q .normal (setD (setAll S vs) dst v) H')(h:evSets S H l=some vs:=by exact xEQd)(hc:evChk S H chk=true:=by simp(disch:=first|omega|(simp only[lenB];omega))only[evB,xBQd,Nat.reduceAdd,Nat.reduceBEq, *])(ha:ev S H a=some xs:=by exact xEQd):wpS cp lo (.hv l chk [] dst o a) Q S H:=aw_hv h hc ha k
theorem xOQd{cp:FuncId→Option CF}{lo:Nat}{l:List (Nat×E)}{chk:List E}{Q:Post}{S:List Value}{H:Heap}{vs:List (Nat×Value)}{dst:Option Nat}{o:HOp}{a:E}{xs:List Value}{S':List Value}{H':Heap}{v:Value}(hcall:o.isCall=false)(k:Q .normal S' H')(h:evSets S H l=some vs:=by exact xEQd)(hc:evChk S H chk=true:=by simp(disch:=first|omega|(simp only[lenB];omega))only[evB,xBQd,Nat.reduceAdd,Nat.reduceBEq, *])(ha:ev S H a=some xs:=by exact xEQd)(ho:hsem0 lo o xs H=some (v,H'):=by exact xEQd)(hS:setD (setAll S vs) dst v=S':=by exact xEQd):wpS cp lo (.hv l chk [] dst o a) Q S H:=aw_op hcall h hc ha ho hS k
theorem xCQd{cp:FuncId→Option CF}{lo:Nat}{c:E}{a b:Stm}{Q:Post}{S:List Value}{H:Heap}{t:Bool}(k1:t=true→wpS cp lo a Q S H)(k2:t=false→wpS cp lo b Q S H)(h:ev1 S H c=some (.bool t):=by exact xEQd):wpS cp lo (.cond c a b) Q S H:=aw_cond h k1 k2
theorem xRQd{cf:CF}{R:Value→Heap→Prop}{S:List Value}{H:Heap}{vs:List Value}(k:R (resultOf vs) H)(h:evList S H cf.res=some vs:=by exact xEQd):bodyQ cf R .ret S H:=body_ret h k
theorem ilvP{v:Value}{L:List (List Int)}(hlo:lo≤H.length)(hL:SlL H v L)(hpos:0<L.length)(hlen:L.length≤100000)(ht:tot L≤100000):Ev cp lo 17 [v] H (fun r H'=>Ext H H'∧∃b,H.length≤b∧r=.slice (some ⟨b,0,none⟩) (tot L) (tot L)∧H'.get b=some (intL (ilv 0 L (mxl L)))):=by
 obtain⟨bv,spv,capv,vs,rfl,gv,hvl,hat⟩:=hL.els hpos
 have hmt:=mxl_le_tot L
 have hbv:=Heap.get_lt gv
 refine st17 ?_;unfold bd17 cf17;simp only[kB,ctlB]
 repeat' ((first|refine xSQd ?_|refine xOQd rfl ?_);(try simp only[ctlB]))
 refine aw_for (fun j S H'=>H'=H∧∃(z:Nat→Value),S=[.slice (some ⟨bv,0,spv⟩) L.length capv,.slice none 0 0,.int .i64 (mxl (L.take j):Nat),.int .i64 (tot (L.take j):Nat),z 4,z 5,z 6,z 7,.slice (some ⟨bv,0,spv⟩) L.length capv,.int .i64 (L.length:Nat),.int .i64 (j:Nat),z 11,z 12,z 13,z 14,z 15,z 16,z 17,z 18,z 19]) L.length ?_ ?_ ?_ ?_
 ·exact⟨rfl,exZGc rfl⟩
 ·rintro j S H' hj ⟨rfl,z,rfl⟩
  exact⟨_,xEQd,by simp⟩
 ·rintro j S H' hj ⟨rfl,z,rfl⟩
  obtain⟨h1,h2⟩:=hat j hj
  obtain⟨a,c,e⟩:=h2.len
  rw[e]at h1
  clear h2 e hat
  have hmx:(if ((mxl (L.take j):Nat):Int)<((L.getD j []).length:Nat) then(((L.getD j []).length:Nat):Int) else((mxl (L.take j):Nat):Int))=((mxl (L.take (j+1)):Nat):Int):=by
   rw[mxl_take hj];split<;>omega
  have htt:((tot (L.take j):Nat):Int)+((L.getD j []).length:Nat)=((tot (L.take (j+1)):Nat):Int):=by
   rw[tot_take hj];omega
  have hle:=tot_le L (j+1)
  rw[tot_take hj]at hle
  generalize (L.getD j []).length=ll at *
  (try simp only[ctlB])
  repeat' ((first|refine xSQd ?_|refine xOQd rfl ?_);(try simp only[ctlB]))
  exact⟨by trivial,exZGc (by first|rfl|(simp only[Int.natCast_add,Int.natCast_one];rfl)|simp only[Int.natCast_add,Int.natCast_one])⟩
 ·rintro S H' ⟨rfl,z,rfl⟩
  rw[List.take_length]
  (try simp only[ctlB])
  repeat' ((first|refine xSQd ?_|refine xOQd rfl ?_);(try simp only[ctlB]))
  generalize hG:H'++_=G at *
  obtain⟨g1,hxG⟩:=box_facts hG
  clear hG
  have gv:=hxG.get gv
  have hlG:=hxG.1
  have hlt:=Heap.get_lt g1
  have g1:Heap.get G H'.length=some (intL (ilv 0 L 0++List.replicate (tot L-(ilv 0 L 0).length) 0)):=by
   rw[g1,ilv_zero];rfl
  have hne:bv≠H'.length:=by omega
  refine aw_for (fun i S H2=>Keep H'.length G H2∧Heap.get H2 H'.length=some (intL (ilv 0 L i++List.replicate (tot L-(ilv 0 L i).length) 0))∧∃(z:Nat→Value),S=[.slice (some ⟨bv,0,spv⟩) L.length capv,.slice none 0 0,z 2,z 3,z 4,.slice (some ⟨H'.length,0,none⟩) (ilv 0 L i).length (tot L),z 6,z 7,z 8,z 9,z 10,z 11,.int .i64 (mxl L:Nat),.int .i64 (i:Nat),z 14,z 15,z 16,z 17,z 18,z 19]) (mxl L) ?_ ?_ ?_ ?_
  ·exact⟨keep_ext (Ext.refl _),g1,exZGc rfl⟩
  ·rintro i S H2 hi ⟨-,-,z,rfl⟩
   exact⟨_,xEQd,by simp⟩
  ·clear g1
   rintro i S H2 hi ⟨k1,k2,z,rfl⟩
   (try simp only[ctlB])
   repeat' ((first|refine xSQd ?_|refine xOQd rfl ?_);(try simp only[ctlB]))
   refine aw_for (fun j S H2=>Keep H'.length G H2∧Heap.get H2 H'.length=some (intL ((ilv 0 L i++rowI 0 (L.take j) i)++List.replicate (tot L-(ilv 0 L i++rowI 0 (L.take j) i).length) 0))∧∃(z:Nat→Value),S=[.slice (some ⟨bv,0,spv⟩) L.length capv,.slice none 0 0,z 2,z 3,z 4,.slice (some ⟨H'.length,0,none⟩) (ilv 0 L i++rowI 0 (L.take j) i).length (tot L),.int .i64 (i:Nat),z 7,z 8,z 9,z 10,z 11,.int .i64 (mxl L:Nat),.int .i64 (i:Nat),.slice (some ⟨bv,0,spv⟩) L.length capv,.int .i64 (L.length:Nat),.int .i64 (j:Nat),z 17,z 18,z 19]) L.length ?_ ?_ ?_ ?_
   ·refine⟨k1,?_,?_⟩
    ·rw[List.take_zero,rowI_zero,List.append_nil];exact k2
    ·rw[List.take_zero,rowI_zero,List.append_nil];exact exZGc rfl
   ·rintro j S H2 hj ⟨-,-,z,rfl⟩
    exact⟨_,xEQd,by simp⟩
   ·clear k1 k2
    rintro j S H2 hj ⟨k1,k2,z,rfl⟩
    have gv:=k1.get gv hne
    obtain⟨h1,h2⟩:=hat j hj
    have hp:=part_le (d:=(0:Int)) L i (j+1)
    rw[rowI_take hj]at hp
    have hnx:=rowI_take (d:=(0:Int)) (i:=i) hj
    have hlt:=Heap.get_lt k2
    by_cases hi2:i<(L.getD j []).length
    ·obtain⟨xb,xo,xsp,xc,xs,e1,g2,f1,l1⟩:=h2.els 0 (by omega)
     rw[e1]at h1
     have hx:=f1 i hi2
     rw[if_pos hi2,←List.append_assoc]at hp
     rw[if_pos hi2]at hnx
     have hlX:(ilv 0 L i++rowI 0 (L.take j) i).length<tot L:=by
      rw[List.length_append]at hp;simp only[List.length_singleton]at hp;omega
     have g2:=k1.get (hxG.get g2) (by
      have:=Heap.get_lt g2;omega)
     clear f1 hat e1 h2
     generalize hX:ilv 0 L i++rowI 0 (L.take j) i=X at *
     rw[hnx,←List.append_assoc,hX]
     generalize (L.getD j []).getD i 0=x at *
     generalize (L.getD j []).length=ll at *
     clear hnx hp
     have hX':=hlX
     have hpr:=put_room (v:=x) hlX
     (try simp only[ctlB])
     repeat' ((first|refine xSQd ?_|refine xOQd rfl ?_);(try simp only[ctlB]))
     refine xCQd (fun h=>?_) (fun h=>?_)
     case refine_2=>exfalso;simp at h;omega
     clear h
     (try simp only[ctlB])
     repeat' ((first|refine xSQd ?_|refine xOQd rfl ?_);(try simp only[ctlB]))
     refine xHQd ?_
     refine wpH_app_room (b:=H'.length) (n:=X.length) (cap:=tot L) (k:=1) (c:=[.int .i64 x]) (by omega) (by omega) (by rw[get_app_lt (by omega)];exact k2) (by rw[intL_len,List.length_append,List.length_replicate];omega) get_app0 (by simp) (by simp) rfl ?_
     rw[hpr]
     (try simp only[ctlB])
     repeat' ((first|refine xSQd ?_|refine xOQd rfl ?_);(try simp only[ctlB]))
     refine⟨keep_set' (keep_trans k1 (keep_ext (Ext.app _ _))) _,?_,?_⟩
     ·rw[get_set_self (by simp;omega)]
     ·rw[show(X++[x]).length=X.length+1 by simp]
      exact exZGc (by first|rfl|(simp only[Int.natCast_add,Int.natCast_one];rfl)|simp only[Int.natCast_add,Int.natCast_one])
    ·rw[if_neg hi2,List.append_nil]at hnx
     obtain⟨a,c,e⟩:=h2.len
     rw[e]at h1
     clear h2 e hat hp
     rw[hnx]
     clear hnx
     generalize ilv 0 L i++rowI 0 (L.take j) i=X at *
     generalize (L.getD j []).length=ll at *
     (try simp only[ctlB])
     repeat' ((first|refine xSQd ?_|refine xOQd rfl ?_);(try simp only[ctlB]))
     refine xCQd (fun h=>?_) (fun h=>?_)
     ·exfalso;simp at h;omega
     clear h
     (try simp only[ctlB])
     repeat' ((first|refine xSQd ?_|refine xOQd rfl ?_);(try simp only[ctlB]))
     exact⟨k1,k2,exZGc (by first|rfl|(simp only[Int.natCast_add,Int.natCast_one];rfl)|simp only[Int.natCast_add,Int.natCast_one])⟩
   ·rintro S H3 ⟨k1,k2,z,rfl⟩
    rw[List.take_length]at *
    rw[←ilv_succ]at *
    (try simp only[ctlB])
    repeat' ((first|refine xSQd ?_|refine xOQd rfl ?_);(try simp only[ctlB]))
    exact⟨k1,k2,exZGc (by first|rfl|(simp only[Int.natCast_add,Int.natCast_one];rfl)|simp only[Int.natCast_add,Int.natCast_one])⟩
  ·clear g1
   rintro S H2 ⟨k1,k2,z,rfl⟩
   have hfull:=ilv_full (d:=(0:Int)) L (fun l hl=>le_mxl hl)
   rw[hfull,Nat.sub_self,List.replicate_zero,List.append_nil]at k2
   rw[hfull]
   (try simp only[ctlB])
   repeat' ((first|refine xSQd ?_|refine xOQd rfl ?_);(try simp only[ctlB]))
   refine xRQd ?_
   exact⟨k1.ext hxG (by omega),_,Nat.le_refl _,rfl,k2⟩
end
end Go.Proofs.YtkeagffmmhllcaaGreat
namespace Go.Proofs.YtkeagffmmhllcaaGreat
open Go.Abs Go.RS
set_option linter.unusedSimpArgs false
set_option linter.unusedVariables false
set_option maxRecDepth 20000
theorem put_roomp{X:List (Int×Int)}{T:Nat}{x y:Int}(h:X.length<T):putCells (ptL (X++List.replicate (T-X.length) (0,0))) (X.length*2) [.int .i64 x,.int .i64 y]=ptL ((X++[(x,y)])++List.replicate (T-(X++[(x,y)]).length) (0,0)):=by
 obtain⟨k,hk⟩:∃k,T-X.length=k+1:=⟨T-X.length-1,by omega⟩
 have e:T-(X++[(x,y)]).length=k:=by simp;omega
 rw[e,hk,ptL_put (by simp)]
 simp[List.replicate_succ]
section
variable {lo:Nat}{H:Heap}
set_option linter.defProp false in
def xBQe:=And.intro @Int.cast_ofNat_Int (And.intro @ite_self.{1} @zeros_pt)
theorem xEQe{P:Prop}(h:P:=by simp(disch:=first|omega|(simp only[lenB];omega))only[evB,xBQe,Nat.reduceAdd,Nat.reduceBEq, *];rfl):P:=h
theorem xSQe{cp:FuncId→Option CF}{lo:Nat}{l:List (Nat×E)}{chk:List E}{Q:Post}{S:List Value}{H:Heap}{vs:List (Nat×Value)}{S':List Value}(k:Q .normal S' H)(h:evSets S H l=some vs:=by exact xEQe)(hc:evChk S H chk=true:=by simp(disch:=first|omega|(simp only[lenB];omega))only[evB,xBQe,Nat.reduceAdd,Nat.reduceBEq, *])(hS:setAll S vs=S':=by exact xEQe):wpS cp lo (.sets l chk) Q S H:=aw_sets h hc hS k
theorem xHQe{cp:FuncId→Option CF}{lo:Nat}{l:List (Nat×E)}{chk:List E}{Q:Post}{S:List Value}{H:Heap}{vs:List (Nat×Value)}{dst:Option Nat}{o:HOp}{a:E}{xs:List Value}(k:wpH cp lo o xs H fun v H'=>Q .normal (setD (setAll S vs) dst v) H')(h:evSets S H l=some vs:=by exact xEQe)(hc:evChk S H chk=true:=by simp(disch:=first|omega|(simp only[lenB];omega))only[evB,xBQe,Nat.reduceAdd,Nat.reduceBEq, *])(ha:ev S H a=some xs:=by exact xEQe):wpS cp lo (.hv l chk [] dst o a) Q S H:=aw_hv h hc ha k
theorem xOQe{cp:FuncId→Option CF}{lo:Nat}{l:List (Nat×E)}{chk:List E}{Q:Post}{S:List Value}{H:Heap}{vs:List (Nat×Value)}{dst:Option Nat}{o:HOp}{a:E}{xs:List Value}{S':List Value}{H':Heap}{v:Value}(hcall:o.isCall=false)(k:Q .normal S' H')(h:evSets S H l=some vs:=by exact xEQe)(hc:evChk S H chk=true:=by simp(disch:=first|omega|(simp only[lenB];omega))only[evB,xBQe,Nat.reduceAdd,Nat.reduceBEq, *])(ha:ev S H a=some xs:=by exact xEQe)(ho:hsem0 lo o xs H=some (v,H'):=by exact xEQe)(hS:setD (setAll S vs) dst v=S':=by exact xEQe):wpS cp lo (.hv l chk [] dst o a) Q S H:=aw_op hcall h hc ha ho hS k
theorem xCQe{cp:FuncId→Option CF}{lo:Nat}{c:E}{a b:Stm}{Q:Post}{S:List Value}{H:Heap}{t:Bool}(k1:t=true→wpS cp lo a Q S H)(k2:t=false→wpS cp lo b Q S H)(h:ev1 S H c=some (.bool t):=by exact xEQe):wpS cp lo (.cond c a b) Q S H:=aw_cond h k1 k2
theorem xRQe{cf:CF}{R:Value→Heap→Prop}{S:List Value}{H:Heap}{vs:List Value}(k:R (resultOf vs) H)(h:evList S H cf.res=some vs:=by exact xEQe):bodyQ cf R .ret S H:=body_ret h k
theorem ilvPt{v:Value}{L:List (List (Int×Int))}(hlo:lo≤H.length)(hL:SlLp H v L)(hpos:0<L.length)(hlen:L.length≤100000)(ht:tot L≤100000):Ev cp lo 29 [v] H (fun r H'=>Ext H H'∧∃b,H.length≤b∧r=.slice (some ⟨b,0,none⟩) (tot L) (tot L)∧H'.get b=some (ptL (ilv (0,0) L (mxl L)))):=by
 obtain⟨bv,spv,capv,vs,rfl,gv,hvl,hat⟩:=hL.els hpos
 have hmt:=mxl_le_tot L
 have hbv:=Heap.get_lt gv
 refine st29 ?_;unfold bd29 cf29;simp only[kB,ctlB]
 repeat' ((first|refine xSQe ?_|refine xOQe rfl ?_);(try simp only[ctlB]))
 refine aw_for (fun j S H'=>H'=H∧∃(z:Nat→Value),S=[.slice (some ⟨bv,0,spv⟩) L.length capv,.slice none 0 0,.int .i64 (mxl (L.take j):Nat),.int .i64 (tot (L.take j):Nat),z 4,z 5,z 6,z 7,.slice (some ⟨bv,0,spv⟩) L.length capv,.int .i64 (L.length:Nat),.int .i64 (j:Nat),z 11,z 12,z 13,z 14,z 15,z 16,z 17,z 18,z 19]) L.length ?_ ?_ ?_ ?_
 ·exact⟨rfl,exZGc rfl⟩
 ·rintro j S H' hj ⟨rfl,z,rfl⟩
  exact⟨_,xEQe,by simp⟩
 ·rintro j S H' hj ⟨rfl,z,rfl⟩
  obtain⟨h1,h2⟩:=hat j hj
  obtain⟨a,c,e⟩:=h2.len
  rw[e]at h1
  clear h2 e hat
  have hmx:(if ((mxl (L.take j):Nat):Int)<((L.getD j []).length:Nat) then(((L.getD j []).length:Nat):Int) else((mxl (L.take j):Nat):Int))=((mxl (L.take (j+1)):Nat):Int):=by
   rw[mxl_take hj];split<;>omega
  have htt:((tot (L.take j):Nat):Int)+((L.getD j []).length:Nat)=((tot (L.take (j+1)):Nat):Int):=by
   rw[tot_take hj];omega
  have hle:=tot_le L (j+1)
  rw[tot_take hj]at hle
  generalize (L.getD j []).length=ll at *
  (try simp only[ctlB])
  repeat' ((first|refine xSQe ?_|refine xOQe rfl ?_);(try simp only[ctlB]))
  exact⟨by trivial,exZGc (by first|rfl|(simp only[Int.natCast_add,Int.natCast_one];rfl)|simp only[Int.natCast_add,Int.natCast_one])⟩
 ·rintro S H' ⟨rfl,z,rfl⟩
  rw[List.take_length]
  (try simp only[ctlB])
  repeat' ((first|refine xSQe ?_|refine xOQe rfl ?_);(try simp only[ctlB]))
  generalize hG:H'++_=G at *
  obtain⟨g1,hxG⟩:=box_facts hG
  clear hG
  have gv:=hxG.get gv
  have hlG:=hxG.1
  have hlt:=Heap.get_lt g1
  have g1:Heap.get G H'.length=some (ptL (ilv (0,0) L 0++List.replicate (tot L-(ilv (0,0) L 0).length) (0,0))):=by
   rw[g1,ilv_zero];rfl
  have hne:bv≠H'.length:=by omega
  refine aw_for (fun i S H2=>Keep H'.length G H2∧Heap.get H2 H'.length=some (ptL (ilv (0,0) L i++List.replicate (tot L-(ilv (0,0) L i).length) (0,0)))∧∃(z:Nat→Value),S=[.slice (some ⟨bv,0,spv⟩) L.length capv,.slice none 0 0,z 2,z 3,z 4,.slice (some ⟨H'.length,0,none⟩) (ilv (0,0) L i).length (tot L),z 6,z 7,z 8,z 9,z 10,z 11,.int .i64 (mxl L:Nat),.int .i64 (i:Nat),z 14,z 15,z 16,z 17,z 18,z 19]) (mxl L) ?_ ?_ ?_ ?_
  ·exact⟨keep_ext (Ext.refl _),g1,exZGc rfl⟩
  ·rintro i S H2 hi ⟨-,-,z,rfl⟩
   exact⟨_,xEQe,by simp⟩
  ·clear g1
   rintro i S H2 hi ⟨k1,k2,z,rfl⟩
   (try simp only[ctlB])
   repeat' ((first|refine xSQe ?_|refine xOQe rfl ?_);(try simp only[ctlB]))
   refine aw_for (fun j S H2=>Keep H'.length G H2∧Heap.get H2 H'.length=some (ptL ((ilv (0,0) L i++rowI (0,0) (L.take j) i)++List.replicate (tot L-(ilv (0,0) L i++rowI (0,0) (L.take j) i).length) (0,0)))∧∃(z:Nat→Value),S=[.slice (some ⟨bv,0,spv⟩) L.length capv,.slice none 0 0,z 2,z 3,z 4,.slice (some ⟨H'.length,0,none⟩) (ilv (0,0) L i++rowI (0,0) (L.take j) i).length (tot L),.int .i64 (i:Nat),z 7,z 8,z 9,z 10,z 11,.int .i64 (mxl L:Nat),.int .i64 (i:Nat),.slice (some ⟨bv,0,spv⟩) L.length capv,.int .i64 (L.length:Nat),.int .i64 (j:Nat),z 17,z 18,z 19]) L.length ?_ ?_ ?_ ?_
   ·refine⟨k1,?_,?_⟩
    ·rw[List.take_zero,rowI_zero,List.append_nil];exact k2
    ·rw[List.take_zero,rowI_zero,List.append_nil];exact exZGc rfl
   ·rintro j S H2 hj ⟨-,-,z,rfl⟩
    exact⟨_,xEQe,by simp⟩
   ·clear k1 k2
    rintro j S H2 hj ⟨k1,k2,z,rfl⟩
    have gv:=k1.get gv hne
    obtain⟨h1,h2⟩:=hat j hj
    have hp:=part_le (d:=((0:Int),(0:Int))) L i (j+1)
    rw[rowI_take hj]at hp
    have hnx:=rowI_take (d:=((0:Int),(0:Int))) (i:=i) hj
    have hlt:=Heap.get_lt k2
    by_cases hi2:i<(L.getD j []).length
    ·obtain⟨xb,xsp,xc,e1,g2⟩:=h2.els (by omega)
     rw[e1]at h1
     have hx:=ptL_two hi2
     have hcl:(L.getD j []).length*2≤(ptL (L.getD j [])).length:=by rw[ptL_len];omega
     rw[if_pos hi2,←List.append_assoc]at hp
     rw[if_pos hi2]at hnx
     have hlX:(ilv (0,0) L i++rowI (0,0) (L.take j) i).length<tot L:=by
      rw[List.length_append]at hp;simp only[List.length_singleton]at hp;omega
     have g2:=k1.get (hxG.get g2) (by
      have:=Heap.get_lt g2;omega)
     clear hat e1 h2
     generalize ptL (L.getD j [])=cs at *
     generalize hX:ilv (0,0) L i++rowI (0,0) (L.take j) i=X at *
     rw[hnx,←List.append_assoc,hX]
     obtain⟨x,y,hxy⟩:∃x y:Int,(L.getD j []).getD i (0,0)=(x,y):=⟨_,_,rfl⟩
     rw[hxy]at hx
     rw[hxy]
     clear hxy
     generalize (L.getD j []).length=ll at *
     clear hnx hp
     have hX':=hlX
     have hpr:=put_roomp (x:=x) (y:=y) hlX
     (try simp only[ctlB])
     repeat' ((first|refine xSQe ?_|refine xOQe rfl ?_);(try simp only[ctlB]))
     refine xCQe (fun h=>?_) (fun h=>?_)
     case refine_2=>exfalso;simp at h;omega
     clear h
     (try simp only[ctlB])
     repeat' ((first|refine xSQe ?_|refine xOQe rfl ?_);(try simp only[ctlB]))
     refine xHQe ?_
     refine wpH_app_room (b:=H'.length) (n:=X.length) (cap:=tot L) (k:=1) (c:=[.int .i64 x,.int .i64 y]) (by omega) (by omega) (by rw[get_app_lt (by omega)];exact k2) (by rw[ptL_len,List.length_append,List.length_replicate];omega) get_app0 (by simp) (by simp) rfl ?_
     rw[hpr]
     (try simp only[ctlB])
     repeat' ((first|refine xSQe ?_|refine xOQe rfl ?_);(try simp only[ctlB]))
     refine⟨keep_set' (keep_trans k1 (keep_ext (Ext.app _ _))) _,?_,?_⟩
     ·rw[get_set_self (by simp;omega)]
     ·rw[show(X++[(x,y)]).length=X.length+1 by simp]
      exact exZGc (by first|rfl|(simp only[Int.natCast_add,Int.natCast_one];rfl)|simp only[Int.natCast_add,Int.natCast_one])
    ·rw[if_neg hi2,List.append_nil]at hnx
     obtain⟨a,c,e⟩:=h2.len
     rw[e]at h1
     clear h2 e hat hp
     rw[hnx]
     clear hnx
     generalize ilv (0,0) L i++rowI (0,0) (L.take j) i=X at *
     generalize (L.getD j []).length=ll at *
     (try simp only[ctlB])
     repeat' ((first|refine xSQe ?_|refine xOQe rfl ?_);(try simp only[ctlB]))
     refine xCQe (fun h=>?_) (fun h=>?_)
     ·exfalso;simp at h;omega
     clear h
     (try simp only[ctlB])
     repeat' ((first|refine xSQe ?_|refine xOQe rfl ?_);(try simp only[ctlB]))
     exact⟨k1,k2,exZGc (by first|rfl|(simp only[Int.natCast_add,Int.natCast_one];rfl)|simp only[Int.natCast_add,Int.natCast_one])⟩
   ·rintro S H3 ⟨k1,k2,z,rfl⟩
    rw[List.take_length]at *
    rw[←ilv_succ]at *
    (try simp only[ctlB])
    repeat' ((first|refine xSQe ?_|refine xOQe rfl ?_);(try simp only[ctlB]))
    exact⟨k1,k2,exZGc (by first|rfl|(simp only[Int.natCast_add,Int.natCast_one];rfl)|simp only[Int.natCast_add,Int.natCast_one])⟩
  ·clear g1
   rintro S H2 ⟨k1,k2,z,rfl⟩
   have hfull:=ilv_full (d:=((0:Int),(0:Int))) L (fun l hl=>le_mxl hl)
   rw[hfull,Nat.sub_self,List.replicate_zero,List.append_nil]at k2
   rw[hfull]
   (try simp only[ctlB])
   repeat' ((first|refine xSQe ?_|refine xOQe rfl ?_);(try simp only[ctlB]))
   refine xRQe ?_
   exact⟨k1.ext hxG (by omega),_,Nat.le_refl _,rfl,k2⟩
end
end Go.Proofs.YtkeagffmmhllcaaGreat
namespace Go.Proofs.YtkeagffmmhllcaaGreat
open Go.Abs Go.RS
set_option linter.unusedSimpArgs false
set_option linter.unusedVariables false
set_option maxRecDepth 20000
def isSl:Value→Bool
 | .slice _ _ _=>true
 | _=>false
def leafy(c:List Value):Bool:=c.all fun v=>!isSl v
def spiny(c:List Value):Bool:=c.all isSl
theorem leafy_ne{c D:List Value}(h:leafy c=true)(h2:spiny D=true)(h3:D≠[]):c≠D:=by
 rintro rfl
 cases c with
 | nil=>exact h3 rfl
 | cons v l=>
  simp only[leafy,spiny,List.all_cons,Bool.and_eq_true]at h h2
  rw[h2.1]at h;simp at h
theorem leafy_int(l:List Int):leafy (intL l)=true:=by simp[leafy,intL,isSl]
theorem leafy_pt(l:List (Int×Int)):leafy (ptL l)=true:=by
 induction l with
 | nil=>rfl
 | cons p l ih=>rw[ptL_cons];exact ih
theorem spiny_snoc{D:List Value}{x:Value}(h:spiny D=true)(hx:isSl x=true):spiny (D++[x])=true:=by simp[spiny]at *;exact⟨h,hx⟩
theorem spine_app{cp:FuncId→Option CF}{lo base:Nat}{z:List Value}{H:Heap}{v x:Value}{b t m:Nat}{sp:Option Nat}{D:List Value}{R:Value→Heap→Prop}(ho:Own base 1 H v b D)(hlo:lo≤base)(hbl:base≤H.length)(hD:spiny D=true)(hx:isSl x=true)(ht:H.get t=some [x])(hbig:D.length+1≤4294967296)
  (k:∀v' H',Own base 1 H' v' H.length (D++[x])→H'.length=H.length+1→(∀i,i<base→H'.get i=H.get i)→(∀i c,H.get i=some c→(leafy c=true∨i≠b)→H'.get i=some c)→R v' H'):wpH cp lo (.app 1 z) [v,.slice (some ⟨t,0,sp⟩) 1 m] H R:=by
 have hone:oneCells [x]=true:=by
  cases x<;>simp[isSl]at hx;rfl
 obtain⟨hb,⟨rfl,rfl⟩|⟨n,h1,h2,rfl,h4⟩⟩:=ho
 ·refine wpH_app (b:=H.length) (cells:=[]) (c:=[x]) (Own.nil (by omega)) (by omega) (by omega) (by omega) (by simp) ht (by simp) (by simp) hone ?_
  intro v' H' a1 a2 a3
  refine k v' H' ⟨hbl,a1.2⟩ a3 (fun i hi=>a2.eq i (by omega) (by omega)) fun i c hi _=>?_
  exact a2.get hi (by have:=Heap.get_lt hi;omega)
 ·refine wpH_app (b:=b) (cells:=D) (c:=[x]) ⟨by omega,.inr ⟨n,h1,h2,rfl,h4⟩⟩ (by omega) (by omega) (by omega) hbig ht (by simp) (by simp) hone ?_
  intro v' H' a1 a2 a3
  refine k v' H' ⟨hbl,a1.2⟩ a3 (fun i hi=>a2.eq i (by omega) (by omega)) fun i c hi hc=>a2.get hi ?_
  rcases hc with hc|hc
  ·rintro rfl
   rw[h4]at hi;cases hi
   exact leafy_ne hc hD (by rintro rfl;simp at h2;omega) rfl
  ·exact hc
theorem own_other{lo b b':Nat}{H H':Heap}{v:Value}{D:List Value}(h:Own lo 1 H v b D)(e:∀c,H.get b=some c→(leafy c=true∨b≠b')→H'.get b=some c)(hne:b≠b'):Own lo 1 H' v b D:=by
 obtain⟨q1,q2|⟨n,q2,q3,q4,q5⟩⟩:=h
 ·exact⟨q1,.inl q2⟩
 ·exact⟨q1,.inr ⟨n,q2,q3,q4,e _ q5 (.inr hne)⟩⟩
theorem SlPt.move{H H':Heap}{v:Value}{l:List (Int×Int)}(h:SlPt H v l)(e:∀i c,H.get i=some c→leafy c=true→H'.get i=some c):SlPt H' v l:=by
 rcases h with h|⟨b,sp,cap,h1,h2⟩
 ·exact .inl h
 ·exact .inr ⟨b,sp,cap,h1,e _ _ h2 (leafy_pt l)⟩
theorem SlPt.isSl{H:Heap}{v:Value}{l:List (Int×Int)}(h:SlPt H v l):isSl v=true:=by
 obtain⟨a,c,rfl⟩:=h.len;rfl
theorem range_setG{α:Type}{n k:Nat}{F G:Nat→α}{x:α}(hk:k<n)(hx:G k=x)(h:∀i,i<n→i≠k→G i=F i):((List.range n).map F).set k x=(List.range n).map G:=by
 refine List.ext_getElem (by simp) fun i h1 h2=>?_
 rw[List.getElem_set]
 simp only[List.getElem_map,List.getElem_range]
 split
 ·rename_i e;rw[←e,hx]
 ·rename_i e
  rw[h i (by simpa using h2) (fun e2=>e e2.symm)]
def ptsI(x f n:Nat):List (Int×Int):=(List.range n).map fun i=>(((x:Nat):Int),((f+i:Nat):Int))
theorem ptsI_len(x f n:Nat):(ptsI x f n).length=n:=by simp[ptsI]
section
variable {lo:Nat}{H:Heap}
set_option linter.defProp false in
def xBQf:=And.intro @Int.cast_ofNat_Int (And.intro @ite_self.{1} (And.intro @zeros_pt @Bk.cells.eq_1))
theorem xEQf{P:Prop}(h:P:=by simp(disch:=first|omega|(simp only[lenB];omega))only[evB,xBQf,Nat.reduceAdd,Nat.reduceBEq, *];rfl):P:=h
theorem xSQf{cp:FuncId→Option CF}{lo:Nat}{l:List (Nat×E)}{chk:List E}{Q:Post}{S:List Value}{H:Heap}{vs:List (Nat×Value)}{S':List Value}(k:Q .normal S' H)(h:evSets S H l=some vs:=by exact xEQf)(hc:evChk S H chk=true:=by simp(disch:=first|omega|(simp only[lenB];omega))only[evB,xBQf,Nat.reduceAdd,Nat.reduceBEq, *])(hS:setAll S vs=S':=by exact xEQf):wpS cp lo (.sets l chk) Q S H:=aw_sets h hc hS k
theorem xHQf{cp:FuncId→Option CF}{lo:Nat}{l:List (Nat×E)}{chk:List E}{Q:Post}{S:List Value}{H:Heap}{vs:List (Nat×Value)}{dst:Option Nat}{o:HOp}{a:E}{xs:List Value}(k:wpH cp lo o xs H fun v H'=>Q .normal (setD (setAll S vs) dst v) H')(h:evSets S H l=some vs:=by exact xEQf)(hc:evChk S H chk=true:=by simp(disch:=first|omega|(simp only[lenB];omega))only[evB,xBQf,Nat.reduceAdd,Nat.reduceBEq, *])(ha:ev S H a=some xs:=by exact xEQf):wpS cp lo (.hv l chk [] dst o a) Q S H:=aw_hv h hc ha k
theorem xOQf{cp:FuncId→Option CF}{lo:Nat}{l:List (Nat×E)}{chk:List E}{Q:Post}{S:List Value}{H:Heap}{vs:List (Nat×Value)}{dst:Option Nat}{o:HOp}{a:E}{xs:List Value}{S':List Value}{H':Heap}{v:Value}(hcall:o.isCall=false)(k:Q .normal S' H')(h:evSets S H l=some vs:=by exact xEQf)(hc:evChk S H chk=true:=by simp(disch:=first|omega|(simp only[lenB];omega))only[evB,xBQf,Nat.reduceAdd,Nat.reduceBEq, *])(ha:ev S H a=some xs:=by exact xEQf)(ho:hsem0 lo o xs H=some (v,H'):=by exact xEQf)(hS:setD (setAll S vs) dst v=S':=by exact xEQf):wpS cp lo (.hv l chk [] dst o a) Q S H:=aw_op hcall h hc ha ho hS k
theorem xCQf{cp:FuncId→Option CF}{lo:Nat}{c:E}{a b:Stm}{Q:Post}{S:List Value}{H:Heap}{t:Bool}(k1:t=true→wpS cp lo a Q S H)(k2:t=false→wpS cp lo b Q S H)(h:ev1 S H c=some (.bool t):=by exact xEQf):wpS cp lo (.cond c a b) Q S H:=aw_cond h k1 k2
theorem xRQf{cf:CF}{R:Value→Heap→Prop}{S:List Value}{H:Heap}{vs:List Value}(k:R (resultOf vs) H)(h:evList S H cf.res=some vs:=by exact xEQf):bodyQ cf R .ret S H:=body_ret h k
theorem pointsP{x f n:Nat}(hlo:lo≤H.length)(hx:x≤100000)(hf:f≤100000)(hn:n≤100000):Ev cp lo 28 [.int .i64 x,.int .i64 f,.int .i64 n] H (fun r H'=>Ext H H'∧SlPt H' r (ptsI x f n)):=by
 refine st28 ?_;unfold bd28 cf28;simp only[kB,ctlB]
 repeat' ((first|refine xSQf ?_|refine xOQf rfl ?_);(try simp only[ctlB]))
 generalize hG:H++_=G at *
 obtain⟨g1,hxG⟩:=box_facts hG
 clear hG
 have hlt:=Heap.get_lt g1
 have g1:Heap.get G H.length=some (ptL ((List.range n).map fun j=>if j<0 then(((x:Nat):Int),((f+j:Nat):Int)) else(0,0))):=by
  rw[g1]
  rw[List.map_congr_left (g:=fun _=>((0:Int),(0:Int))) (fun x _=>if_neg (by omega))]
  simp[List.map_const']
 (try simp only[ctlB])
 repeat' ((first|refine xSQf ?_|refine xOQf rfl ?_);(try simp only[ctlB]))
 refine aw_for (fun i S H'=>Keep H.length G H'∧Heap.get H' H.length=some (ptL ((List.range n).map fun j=>if j<i then(((x:Nat):Int),((f+j:Nat):Int)) else(0,0)))∧∃(z:Nat→Value),S=[.int .i64 (x:Nat),.int .i64 (f:Nat),z 2,z 3,.slice (some ⟨H.length,0,none⟩) n n,z 5,z 6,.int .i64 (n:Nat),.int .i64 (i:Nat)]) n ?_ ?_ ?_ ?_
 ·exact⟨keep_ext (Ext.refl _),g1,exZGc rfl⟩
 ·rintro i S H' hi ⟨-,-,z,rfl⟩
  exact⟨_,xEQf,by simp⟩
 ·clear g1
  rintro i S H2 hi ⟨k1,k2,z,rfl⟩
  have hl2:=Heap.get_lt k2
  have hset:=range_setG (F:=fun j=>if j<i then(((x:Nat):Int),((f+j:Nat):Int)) else(0,0)) (G:=fun j=>if j<i+1 then(((x:Nat):Int),((f+j:Nat):Int)) else(0,0)) (x:=(((x:Nat):Int),(((f:Nat):Int)+((i:Nat):Int)))) hi (by rw[if_pos (by omega)];simp) (fun j _ hj=>by
    by_cases h:j<i
    ·rw[if_pos h,if_pos (by omega)]
    ·rw[if_neg h,if_neg (by omega)])
  have hll:(ptL ((List.range n).map fun j=>if j<i then(((x:Nat):Int),((f+j:Nat):Int)) else(0,0))).length=n*2:=by rw[ptL_len];simp
  have hput:=ptL_put (l:=(List.range n).map fun j=>if j<i then(((x:Nat):Int),((f+j:Nat):Int)) else(0,0)) (i:=i) (x:=((x:Nat):Int)) (y:=((f:Nat):Int)+((i:Nat):Int)) (by simpa using hi)
  rw[hset]at hput
  clear hset
  generalize ptL ((List.range n).map fun j=>if j<i then(((x:Nat):Int),((f+j:Nat):Int)) else(0,0))=L1 at *
  generalize ptL ((List.range n).map fun j=>if j<i+1 then(((x:Nat):Int),((f+j:Nat):Int)) else(0,0))=L2 at *
  (try simp only[ctlB])
  repeat' ((first|refine xSQf ?_|refine xOQf rfl ?_);(try simp only[ctlB]))
  refine⟨keep_set' k1 _,?_,exZGc (by first|rfl|(simp only[Int.natCast_add,Int.natCast_one];rfl)|simp only[Int.natCast_add,Int.natCast_one])⟩
  rw[get_set_self (by omega)]
 ·clear g1
  rintro S H2 ⟨k1,k2,z,rfl⟩
  have hfin:(List.range n).map (fun j=>if j<n then(((x:Nat):Int),((f+j:Nat):Int)) else(0,0))=ptsI x f n:=List.map_congr_left fun j hj=>if_pos (List.mem_range.1 hj)
  rw[hfin]at k2
  (try simp only[ctlB])
  repeat' ((first|refine xSQf ?_|refine xOQf rfl ?_);(try simp only[ctlB]))
  refine xRQf ?_
  exact⟨k1.ext hxG (by omega),.inr ⟨H.length,none,n,by rw[ptsI_len];rfl,k2⟩⟩
end
end Go.Proofs.YtkeagffmmhllcaaGreat
namespace Go.Proofs.YtkeagffmmhllcaaGreat
open Go.Abs Go.RS
set_option linter.unusedSimpArgs false
set_option linter.unusedVariables false
set_option maxRecDepth 20000
theorem ilv_all{α:Type}{d:α}(f:Nat→List α)(n K:Nat)(h:∀x,x<n→(f x).length≤K):ilv d ((List.range n).map f) (mxl ((List.range n).map f))=(plc0 (fun x=>(f x).length) n K).map fun p=>(f p.1).getD p.2 d:=by
 rw[←ilv_plc]
 refine ilv_to _ (fun l hl=>le_mxl hl) fun l hl=>?_
 obtain⟨x,hx,rfl⟩:=List.mem_map.1 hl
 exact h x (List.mem_range.1 hx)
theorem range_getD{α:Type}{d:α}(f:Nat→α){n x:Nat}(h:x<n):((List.range n).map f).getD x d=f x:=by
 simp[List.getD_eq_getElem?_getD,h]
def ipt(p:Nat×Nat):Int×Int:=(((p.1:Nat):Int),((p.2:Nat):Int))
def Bk.plI(b:Bk):List (Int×Int):=b.pl.map ipt
def Bk.LD(b:Bk):List (List (Int×Int)):=(List.range b.n).map fun x=>ptsI x 0 (b.len x)
def Bk.LC(b:Bk):List (List (Int×Int)):=(List.range b.n).map fun x=>ptsI x (b.len x) b.ck
theorem ptsI_at{x f n i:Nat}(h:i<n):(ptsI x f n).getD i (0,0)=(((x:Nat):Int),((f+i:Nat):Int)):=range_getD _ h
theorem LD_ilv(b:Bk):ilv (0,0) b.LD (mxl b.LD)=b.plD.map ipt:=by
 unfold Bk.LD
 rw[ilv_all _ _ (b.da+1) (fun x hx=>by rw[ptsI_len];exact b.len_le x)]
 have e:(fun x=>(ptsI x 0 (b.len x)).length)=b.len:=by funext x;rw[ptsI_len]
 rw[e]
 refine List.map_congr_left fun p hp=>?_
 rw[ptsI_at (mem_plc0.1 hp).2.2,Nat.zero_add];rfl
theorem LC_ilv(b:Bk):ilv (0,0) b.LC (mxl b.LC)=b.plC.map ipt:=by
 unfold Bk.LC Bk.plC
 rw[ilv_all _ _ b.ck (fun x hx=>by rw[ptsI_len];exact Nat.le_refl _),List.map_map]
 have e:(fun x=>(ptsI x (b.len x) b.ck).length)=fun _=>b.ck:=by funext x;rw[ptsI_len]
 rw[e]
 refine List.map_congr_left fun p hp=>?_
 rw[ptsI_at (mem_plc0.1 hp).2.2];rfl
theorem LD_tot(b:Bk):tot b.LD=b.cap:=by
 rw[←ilv_full (d:=(0,0)) b.LD (fun l hl=>le_mxl hl),LD_ilv,List.length_map,b.plD_len]
theorem plC_len(b:Bk):b.plC.length=b.n*b.ck:=by
 have:=b.pl_len
 unfold Bk.pl Bk.all at this
 rw[List.length_append,b.plD_len]at this
 omega
theorem LC_tot(b:Bk):tot b.LC=b.n*b.ck:=by
 rw[←ilv_full (d:=(0,0)) b.LC (fun l hl=>le_mxl hl),LC_ilv,List.length_map,plC_len]
section
variable {lo:Nat}{H:Heap}{v l:Int}
theorem stP_vl{i:Nat}(hi:i<160)(ha:[Value.int .i64 v,Value.int .i64 l]=arg i)(hlo:lo≤H.length):Ev cp lo 14 [.int .i64 v,.int .i64 l] H (fun v H'=>Ext H H'∧v=.tuple #[(bk i).val,.int .i64 0]):=by
 rw[ha];exact stP_ok hi hlo
theorem lens_at(b:Bk){x:Nat}(h:x<b.n):b.lens.getD x 0=((b.len x:Nat):Int):=range_getD _ h
theorem lens_len(b:Bk):b.lens.length=b.n:=by simp[Bk.lens]
theorem getD_snoc_lt{α:Type}{D:List α}{x d:α}{i:Nat}(h:i<D.length):(D++[x]).getD i d=D.getD i d:=by
 rw[List.getD_eq_getElem?_getD,List.getElem?_append_left h,List.getD_eq_getElem?_getD]
theorem getD_snoc_eq{α:Type}{D:List α}{x d:α}{i:Nat}(h:i=D.length):(D++[x]).getD i d=x:=by
 subst h;simp[List.getD_eq_getElem?_getD]
theorem placeP_bad(hlo:lo≤H.length)(hno:¬ Vl v l):Ev cp lo 12 [.int .i64 v,.int .i64 l] H (fun r H'=>Ext H H'∧r=.tuple #[.slice none 0 0,.int .i64 (eVl v)]):=by
 have hne:=eVl_ne (v:=v)
 refine st12 ?_;unfold bd12 cf12;simp only[kB,ctlB]
 repeat' ((first|refine xSQf ?_|refine xOQf rfl ?_);(try simp only[ctlB]))
 refine xHQf ?_
 refine wpH_call0 (stP_bad (v:=v) (l:=l) hlo hno) ?_
 rintro r H1 ⟨hx1,rfl⟩
 have hl1:=hx1.1
 unfold Bk.val bk0
 generalize eVl v=e at *
 (try simp only[ctlB])
 repeat' ((first|refine xSQf ?_|refine xOQf rfl ?_);(try simp only[ctlB]))
 refine xCQf (fun h=>?_) (fun h=>?_)
 case refine_2=>exfalso;simp at h<;>omega
 clear h
 (try simp only[ctlB])
 repeat' ((first|refine xSQf ?_|refine xOQf rfl ?_);(try simp only[ctlB]))
 refine xRQf ?_
 exact⟨hx1.trans (Ext.app _ _),rfl⟩
set_option maxHeartbeats 1000000 in
theorem placeP{i:Nat}(hi:i<160)(ha:[Value.int .i64 v,Value.int .i64 l]=arg i)(hlo:lo≤H.length):Ev cp lo 12 [.int .i64 v,.int .i64 l] H (fun r H'=>Ext H H'∧∃vp,r=.tuple #[vp,.int .i64 0]∧SlPt H' vp (bk i).plI):=by
 have hb:=bk_ok hi
 have hst:=stP_vl hi ha hlo
 clear ha
 refine st12 ?_;unfold bd12 cf12;simp only[kB,ctlB]
 repeat' ((first|refine xSQf ?_|refine xOQf rfl ?_);(try simp only[ctlB]))
 refine xHQf ?_
 refine wpH_call0 hst ?_
 rintro r H1 ⟨hx1,rfl⟩
 clear hst
 generalize bk i=b at *
 have h1:=hb.sh
 have h2:=hb.n
 have h3:=hb.da
 have h4:=hb.ck
 have h5:=hb.ck2
 have h6:=hb.len
 have h7:=hb.all
 have hbn:b.sh≤b.n:=by unfold Bk.n;omega
 have hsum:b.cap+b.n*b.ck=b.all:=rfl
 have hpos:0<b.n*b.ck:=Nat.mul_pos (by omega) (by omega)
 have hl1:=hx1.1
 unfold Bk.val
 (try simp only[ctlB])
 repeat' ((first|refine xSQf ?_|refine xOQf rfl ?_);(try simp only[ctlB]))
 generalize hG:H1++_=G at *
 obtain⟨g0,hxG⟩:=box_facts hG
 clear hG
 have hxG:=hx1.trans hxG
 have hlG:=hxG.1
 have hl0:=Heap.get_lt g0
 refine xCQf (fun h=>?_) (fun h=>?_)
 ·cases h
 clear h
 (try simp only[ctlB])
 repeat' ((first|refine xSQf ?_|refine xOQf rfl ?_);(try simp only[ctlB]))
 refine xHQf ?_
 refine wpH_call0 (sizesP (b:=b) hb (by omega)) ?_
 rintro r H2 ⟨hx2,s,hs,rfl,gs⟩
 have g0:=(hx2).get g0
 have hxG:=hxG.trans hx2
 have hlG:=hxG.1
 have hs0:=Heap.get_lt gs
 clear hx1 hx2
 (try simp only[ctlB])
 repeat' ((first|refine xSQf ?_|refine xOQf rfl ?_);(try simp only[ctlB]))
 refine aw_for (fun j S H'=>Ext H2 H'∧∃v6 v7 b6 b7 D C,Own H2.length 1 H' v6 b6 D∧Own H2.length 1 H' v7 b7 C∧b6≠b7∧(b6<H2.length+2∨b6<H'.length)∧(b7<H2.length+1∨b7<H'.length)∧spiny D=true∧spiny C=true∧D.length=j∧C.length=j∧(∀x,x<j→SlPt H' (D.getD x nl) (ptsI x 0 (b.len x))∧SlPt H' (C.getD x nl) (ptsI x (b.len x) b.ck))∧∃(z:Nat→Value),S=[.int .i64 v,.int .i64 l,z 2,z 3,.pointer (some ⟨H1.length,0,none⟩),z 5,v6,v7,z 8,z 9,z 10,z 11,z 12,.slice (some ⟨s,0,none⟩) b.n b.n,.int .i64 (b.n:Nat),.int .i64 (j:Nat),z 16,z 17,z 18,z 19,z 20,z 21,z 22,z 23,z 24,z 25,z 26]) b.n ?_ ?_ ?_ ?_
 ·exact⟨Ext.refl _,_,_,_,_,[],[],Own.nil (b:=H2.length+1) (by omega),Own.nil (b:=H2.length) (by omega),by omega,by omega,by omega,rfl,rfl,rfl,rfl,by omega,exZGc rfl⟩
 ·rintro j S H' hj ⟨-,v6,v7,b6,b7,D,C,-,-,-,-,-,-,-,-,-,-,z,rfl⟩
  exact⟨_,xEQf,by simp⟩
 ·rintro j S H3 hj ⟨hx3,v6,v7,b6,b7,D,C,o6,o7,hne,hb6,hb7,sD,sC,lD,lC,hall,z,rfl⟩
  have g0':=g0
  have gs':=gs
  have g0:=(hx3).get g0;have gs:=(hx3).get gs
  have hat:=lens_at b hj
  have hln:=lens_len b
  have hle:=b.len_le j
  have hl3:=hx3.1
  generalize b.lens=LE at *
  (try simp only[ctlB])
  repeat' ((first|refine xSQf ?_|refine xOQf rfl ?_);(try simp only[ctlB]))
  refine xHQf ?_
  refine wpH_call0 (pointsP (x:=j) (f:=0) (n:=b.len j) (by omega) (by omega) (by omega) (by omega)) ?_
  rintro p1 H4 ⟨hx4,hp1⟩
  have g0:=(hx4).get g0;have gs:=(hx4).get gs
  have hl4:=hx4.1
  have o6:=o6.mono hx4
  have o7:=o7.mono hx4
  have hall:∀x,x<j→SlPt H4 (D.getD x nl) (ptsI x 0 (b.len x))∧SlPt H4 (C.getD x nl) (ptsI x (b.len x) b.ck):=fun x hx=>⟨(hall x hx).1.mono hx4,(hall x hx).2.mono hx4⟩
  have hq:=hp1.isSl
  obtain⟨pa,pc,e1⟩:=hp1.len
  rw[e1]
  (try simp only[ctlB])
  repeat' ((first|refine xSQf ?_|refine xOQf rfl ?_);(try simp only[ctlB]))
  refine xHQf ?_
  refine spine_app (b:=b6) (D:=D) (x:=.slice pa (ptsI j 0 (b.len j)).length pc) (base:=H2.length) (o6.mono (Ext.app _ _)) (by omega) (by simp;omega) sD rfl get_app0 (by omega) ?_
  intro v6' H5 o6' hl5 low mv
  clear o6
  have hl5:H5.length=H4.length+2:=by simpa using hl5
  have mv:∀i c,Heap.get H4 i=some c→(leafy c=true∨i≠b6)→Heap.get H5 i=some c:=fun i c hi hc=>mv i c (by rw[get_app_lt (Heap.get_lt hi)];exact hi) hc
  have hx5:Ext H2 H5:=⟨by omega,fun i hi=>(low i hi).trans (by rw[get_app_lt (by omega)];exact(hx3.trans hx4).2 i hi)⟩
  have o7:=own_other o7 (fun c=>mv b7 c) (Ne.symm hne)
  have hall:∀x,x<j→SlPt H5 (D.getD x nl) (ptsI x 0 (b.len x))∧SlPt H5 (C.getD x nl) (ptsI x (b.len x) b.ck):=fun x hx=>⟨(hall x hx).1.move fun i c h1 h2=>mv i c h1 (.inl h2),(hall x hx).2.move fun i c h1 h2=>mv i c h1 (.inl h2)⟩
  rw[←e1]at o6'
  have hp1:SlPt H5 p1 (ptsI j 0 (b.len j)):=hp1.move fun i c h1 h2=>mv i c h1 (.inl h2)
  clear mv low e1 hx3 hx4
  have g0:=hx5.get g0'
  have gs:=hx5.get gs'
  (try simp only[ctlB])
  repeat' ((first|refine xSQf ?_|refine xOQf rfl ?_);(try simp only[ctlB]))
  refine xHQf ?_
  refine wpH_call0 (pointsP (x:=j) (f:=b.len j) (n:=b.ck) (by omega) (by omega) (by omega) (by omega)) ?_
  rintro p2 H6 ⟨hx6,hp2⟩
  have g0:=(hx6).get g0;have gs:=(hx6).get gs
  have hl6:=hx6.1
  have o6:=o6'.mono hx6
  have o7:=o7.mono hx6
  have hall:∀x,x<j→SlPt H6 (D.getD x nl) (ptsI x 0 (b.len x))∧SlPt H6 (C.getD x nl) (ptsI x (b.len x) b.ck):=fun x hx=>⟨(hall x hx).1.mono hx6,(hall x hx).2.mono hx6⟩
  have hp1:=hp1.mono hx6
  have hq2:=hp2.isSl
  obtain⟨pa2,pc2,e2⟩:=hp2.len
  rw[e2]
  (try simp only[ctlB])
  repeat' ((first|refine xSQf ?_|refine xOQf rfl ?_);(try simp only[ctlB]))
  refine xHQf ?_
  refine spine_app (b:=b7) (D:=C) (x:=.slice pa2 (ptsI j (b.len j) b.ck).length pc2) (base:=H2.length) (o7.mono (Ext.app _ _)) (by omega) (by simp;omega) sC rfl get_app0 (by omega) ?_
  intro v7' H7 o7' hl7 low mv
  clear o7
  have hl7:H7.length=H6.length+2:=by simpa using hl7
  have mv:∀i c,Heap.get H6 i=some c→(leafy c=true∨i≠b7)→Heap.get H7 i=some c:=fun i c hi hc=>mv i c (by rw[get_app_lt (Heap.get_lt hi)];exact hi) hc
  have hx7:Ext H2 H7:=⟨by omega,fun i hi=>(low i hi).trans (by rw[get_app_lt (by omega)];exact(hx5.trans hx6).2 i hi)⟩
  have o6:=own_other o6 (fun c=>mv _ c) (by simp;omega)
  have hall:∀x,x<j→SlPt H7 (D.getD x nl) (ptsI x 0 (b.len x))∧SlPt H7 (C.getD x nl) (ptsI x (b.len x) b.ck):=fun x hx=>⟨(hall x hx).1.move fun i c h1 h2=>mv i c h1 (.inl h2),(hall x hx).2.move fun i c h1 h2=>mv i c h1 (.inl h2)⟩
  rw[←e2]at o7'
  have hp1:SlPt H7 p1 (ptsI j 0 (b.len j)):=hp1.move fun i c h1 h2=>mv i c h1 (.inl h2)
  have hp2:SlPt H7 p2 (ptsI j (b.len j) b.ck):=hp2.move fun i c h1 h2=>mv i c h1 (.inl h2)
  clear mv low e2
  (try simp only[ctlB])
  repeat' ((first|refine xSQf ?_|refine xOQf rfl ?_);(try simp only[ctlB]))
  refine⟨hx7,v6',v7',_,_,_,_,o6,o7',by simp;omega,by simp;omega,by simp;omega,spiny_snoc sD hq,spiny_snoc sC hq2,by simp[lD],by simp[lC],fun x hx=>?_,exZGc (by first|rfl|(simp only[Int.natCast_add,Int.natCast_one];rfl)|simp only[Int.natCast_add,Int.natCast_one])⟩
  by_cases hxj:x<j
  ·have:=hall x hxj
   rw[getD_snoc_lt (by omega),getD_snoc_lt (by omega)];exact this
  ·have:x=j:=by omega
   subst this
   rw[getD_snoc_eq lD.symm,getD_snoc_eq lC.symm]
   exact⟨hp1,hp2⟩
 ·rintro S H3 ⟨hx3,v6,v7,b6,b7,D,C,o6,o7,hne,hb6,hb7,sD,sC,lD,lC,hall,z,rfl⟩
  have hLD:SlLp H3 v6 b.LD:=⟨D,SlS.ofOwn o6,by simp[lD,Bk.LD],fun x hx=>by
   have hx:x<b.n:=by simpa[Bk.LD]using hx
   unfold Bk.LD
   rw[range_getD _ hx];exact(hall x hx).1⟩
  have hLC:SlLp H3 v7 b.LC:=⟨C,SlS.ofOwn o7,by simp[lC,Bk.LC],fun x hx=>by
   have hx:x<b.n:=by simpa[Bk.LC]using hx
   unfold Bk.LC
   rw[range_getD _ hx];exact(hall x hx).2⟩
  have hl3:=hx3.1
  have hDl:b.LD.length=b.n:=by simp[Bk.LD]
  have hCl:b.LC.length=b.n:=by simp[Bk.LC]
  have hDt:=LD_tot b
  have hCt:=LC_tot b
  clear hall o6 o7 hb6 hb7 sD sC lD lC g0 gs
  (try simp only[ctlB])
  refine xHQf ?_
  refine wpH_call0 (ilvPt (L:=b.LD) (by omega) hLD (by omega) (by omega) (by omega)) ?_
  rintro r H4 ⟨hx4,t1,ht1,rfl,c1⟩
  have hLC:=hLC.mono hx4
  have hl4:=hx4.1
  (try simp only[ctlB])
  refine xHQf ?_
  refine wpH_call0 (ilvPt (L:=b.LC) (by omega) hLC (by omega) (by omega) (by omega)) ?_
  rintro r H5 ⟨hx5,t2,ht2,rfl,c2⟩
  have c1:=hx5.get c1
  have hl5:=hx5.1
  rw[LD_ilv]at c1
  rw[LC_ilv]at c2
  have hm1:(b.plD.map ipt).length=b.cap:=by rw[List.length_map,b.plD_len]
  have hm2:(b.plC.map ipt).length=b.n*b.ck:=by rw[List.length_map,plC_len]
  have hxx:=((hxG.trans hx3).trans hx4).trans hx5
  rw[hDt,hCt]
  clear hDt hCt hDl hCl hLD hLC
  (try simp only[ctlB])
  refine xHQf ?_
  refine wpH_app_full (b:=t1) (D:=ptL (b.plD.map ipt)) (n:=b.cap) (k:=b.n*b.ck) (c:=ptL (b.plC.map ipt)) (by omega) (by omega) c1 (by rw[ptL_len,hm1];omega) c2 (by rw[ptL_len,hm2];omega) (by rw[List.drop_zero,List.take_of_length_le (by rw[ptL_len,hm2];omega)]) (ptL_one _) ?_
  have hfin:SlPt (H5++[some (ptL (b.plI))]) (.slice (some ⟨H5.length,0,some 2⟩) (b.cap+b.n*b.ck) (b.cap+b.n*b.ck)) b.plI:=by
   have hl:b.plI.length=b.cap+b.n*b.ck:=by unfold Bk.plI;rw[List.length_map,b.pl_len];exact hsum.symm
   exact .inr ⟨H5.length,some 2,_,by rw[hl],get_app0⟩
  have hcat:(ptL (b.plD.map ipt)).take (b.cap*2)++ptL (b.plC.map ipt)=ptL b.plI:=by
   rw[List.take_of_length_le (by rw[ptL_len,hm1];omega),←ptL_app,←List.map_append];rfl
  rw[hcat]
  clear hcat c1 c2 hm1 hm2 hsum
  generalize b.cap+b.n*b.ck=T at *
  (try simp only[ctlB])
  repeat' ((first|refine xSQf ?_|refine xOQf rfl ?_);(try simp only[ctlB]))
  refine xRQf ?_
  exact⟨hxx.trans (Ext.app _ _),_,rfl,hfin⟩
end
end Go.Proofs.YtkeagffmmhllcaaGreat
namespace Go.Proofs.YtkeagffmmhllcaaGreat
open Go.Abs Go.RS
set_option linter.unusedSimpArgs false
set_option linter.unusedVariables false
set_option maxRecDepth 20000
def rowP(len:Nat→Nat)(n y:Nat):List (Nat×Nat):=((List.range n).filter fun x=>decide (y<len x)).map fun x=>(x,y)
theorem plc0_succ(len:Nat→Nat)(n k:Nat):plc0 len n (k+1)=plc0 len n k++rowP len n k:=by
 unfold plc0 rowP;rw[List.range_succ,List.flatMap_append];simp
theorem rowP_succ(len:Nat→Nat)(n y:Nat):rowP len (n+1) y=rowP len n y++if y<len n then[(n,y)] else[]:=by
 unfold rowP
 rw[List.range_succ,List.filter_append,List.map_append]
 congr 1
 by_cases h:y<len n
 ·rw[if_pos h,List.filter_cons,if_pos (by simpa using h)];rfl
 ·rw[if_neg h,List.filter_cons,if_neg (by simpa using h)];rfl
theorem rowP_zero(len:Nat→Nat)(y:Nat):rowP len 0 y=[]:=rfl
theorem rowP_le(len:Nat→Nat)(n y:Nat):(rowP len n y).length≤n:=by
 unfold rowP;rw[List.length_map]
 exact Nat.le_trans (List.length_filter_le _ _) (by simp)
theorem plc0_le(len:Nat→Nat)(n:Nat):∀k,(plc0 len n k).length≤n*k
 | 0=>by simp[plc0]
 | k+1=>by
  rw[plc0_succ,List.length_append,Nat.mul_succ]
  have:=plc0_le len n k
  have:=rowP_le len n k
  omega
section
variable {lo:Nat}{H:Heap}{v l:Int}
theorem stV_vl{i:Nat}(hi:i<160)(ha:[Value.int .i64 v,Value.int .i64 l]=arg i)(hlo:lo≤H.length):Ev cp lo 19 [.int .i64 v,.int .i64 l] H (fun v H'=>Ext H H'∧v=.tuple #[(bk i).val,.int .i64 0]):=by
 rw[ha];exact stV_ok hi hlo
set_option maxHeartbeats 1000000 in
theorem placeV{i:Nat}(hi:i<160)(ha:[Value.int .i64 v,Value.int .i64 l]=arg i)(hlo:lo≤H.length):Ev cp lo 22 [.int .i64 v,.int .i64 l] H (fun r H'=>Ext H H'∧∃vp,r=.tuple #[vp,.int .i64 0]∧SlPt H' vp (bk i).plI):=by
 have hb:=bk_ok hi
 have hst:=stV_vl hi ha hlo
 clear ha
 refine st22 ?_;unfold bd22 cf22;simp only[kB,ctlB]
 repeat' ((first|refine xSQf ?_|refine xOQf rfl ?_);(try simp only[ctlB]))
 refine xHQf ?_
 refine wpH_call0 hst ?_
 rintro r H1 ⟨hx1,rfl⟩
 clear hst
 generalize bk i=b at *
 have h1:=hb.sh
 have h2:=hb.n
 have h6:=hb.len
 have hbn:b.sh≤b.n:=by unfold Bk.n;omega
 have hs:(b.sh:Int)+(b.lg:Int)=(b.n:Nat):=by unfold Bk.n;omega
 have hl1:=hx1.1
 clear hb
 unfold Bk.val
 (try simp only[ctlB])
 repeat' ((first|refine xSQf ?_|refine xOQf rfl ?_);(try simp only[ctlB]))
 generalize hG:H1++_=G at *
 obtain⟨g0,hxG⟩:=box_facts hG
 clear hG
 have hxG:=hx1.trans hxG
 have hlG:=hxG.1
 have hl0:=Heap.get_lt g0
 refine xCQf (fun h=>?_) (fun h=>?_)
 ·cases h
 clear h
 (try simp only[ctlB])
 repeat' ((first|refine xSQf ?_|refine xOQf rfl ?_);(try simp only[ctlB]))
 refine aw_for (fun y S H'=>Ext G H'∧∃vo bo,Own G.length 2 H' vo bo (ptL ((plc0 b.len b.n y).map ipt))∧∃(z:Nat→Value),S=[.int .i64 v,.int .i64 l,z 2,z 3,.pointer (some ⟨H1.length,0,none⟩),z 5,vo,.int .i64 (y:Nat),z 8,z 9,z 10,z 11,z 12,z 13,z 14,z 15,z 16,z 17,z 18,z 19,z 20,z 21]) (b.da+1) ?_ ?_ ?_ ?_
 ·exact⟨Ext.refl _,_,_,Own.nil (Nat.le_refl _),exZGc rfl⟩
 ·rintro y S H' hy ⟨hx,vo,bo,ho,z,rfl⟩
  have g0:=hx.get g0
  exact⟨_,xEQf,by simp;omega⟩
 ·rintro y S H2 hy ⟨hx2,vo,bo,ho,z,rfl⟩
  have hpl:=plc0_le b.len b.n y
  have hm:b.n*y≤81*254:=Nat.mul_le_mul h2 (by omega)
  (try simp only[ctlB])
  repeat' ((first|refine xSQf ?_|refine xOQf rfl ?_);(try simp only[ctlB]))
  refine aw_for (fun x S H'=>Ext G H'∧∃vo bo,Own G.length 2 H' vo bo (ptL ((plc0 b.len b.n y++rowP b.len x y).map ipt))∧∃(z:Nat→Value),S=[.int .i64 v,.int .i64 l,z 2,z 3,.pointer (some ⟨H1.length,0,none⟩),z 5,vo,.int .i64 (y:Nat),.int .i64 (x:Nat),z 9,z 10,z 11,z 12,z 13,z 14,z 15,z 16,z 17,z 18,z 19,z 20,z 21]) b.n ?_ ?_ ?_ ?_
  ·exact⟨hx2,vo,bo,by rw[rowP_zero,List.append_nil];exact ho,exZGc rfl⟩
  ·rintro x S H' hx ⟨hx',vo,bo,ho,z,rfl⟩
   have g0:=hx'.get g0
   exact⟨_,xEQf,by simp⟩
  ·clear ho hx2 vo bo
   rintro x S H3 hx ⟨hx3,vo,bo,ho,z,rfl⟩
   have g0:=hx3.get g0
   have hl3:=hx3.1
   have hrl:=rowP_le b.len x y
   rw[rowP_succ]
   (try simp only[ctlB])
   have hcond:(y<b.len x)↔(y<b.da∨b.sh≤x):=by unfold Bk.len;split<;>omega
   by_cases hc:y<b.len x
   ·rw[if_pos hc,←List.append_assoc]
    have hc:=hcond.1 hc
    clear hcond
    refine xCQf (fun h=>?_) (fun h=>?_)
    case refine_2=>exfalso;simp at h<;>omega
    clear h
    (try simp only[ctlB])
    repeat' ((first|refine xSQf ?_|refine xOQf rfl ?_);(try simp only[ctlB]))
    refine xHQf ?_
    refine wpH_app (b:=bo) (cells:=ptL ((plc0 b.len b.n y++rowP b.len x y).map ipt)) (c:=penc (ipt (x,y))) ((ho.mono (Ext.app _ _)).lower (by omega)) (by simp;omega) (by omega) (by omega) (by rw[ptL_len,List.length_map,List.length_append];omega) get_app0 (by simp) rfl rfl ?_
    intro vo' H4 ho' hk hl4
    have ho':Own G.length 2 H4 vo' (H3++[some [Value.int IntKind.i64 (x:Nat),Value.int IntKind.i64 (y:Nat)]]).length (ptL ((plc0 b.len b.n y++rowP b.len x y++[(x,y)]).map ipt)):=by
     rw[List.map_append,ptL_app]
     exact⟨by simp;omega,ho'.2⟩
    have hx4:=hk.ext (hx3.trans (Ext.app H3 _)) ho.1
    (try simp only[ctlB])
    repeat' ((first|refine xSQf ?_|refine xOQf rfl ?_);(try simp only[ctlB]))
    exact⟨hx4,vo',_,ho',exZGc (by first|rfl|(simp only[Int.natCast_add,Int.natCast_one];rfl)|simp only[Int.natCast_add,Int.natCast_one])⟩
   ·rw[if_neg hc,List.append_nil]
    have hc:¬ (y<b.da∨b.sh≤x):=fun h=>hc (hcond.2 h)
    clear hcond
    refine xCQf (fun h=>?_) (fun h=>?_)
    ·exfalso;simp at h<;>omega
    clear h
    (try simp only[ctlB])
    repeat' ((first|refine xSQf ?_|refine xOQf rfl ?_);(try simp only[ctlB]))
    exact⟨hx3,vo,bo,ho,exZGc (by first|rfl|(simp only[Int.natCast_add,Int.natCast_one];rfl)|simp only[Int.natCast_add,Int.natCast_one])⟩
  ·clear ho hx2 vo bo
   rintro S H3 ⟨hx3,vo,bo,ho,z,rfl⟩
   rw[←plc0_succ]at ho
   (try simp only[ctlB])
   repeat' ((first|refine xSQf ?_|refine xOQf rfl ?_);(try simp only[ctlB]))
   exact⟨hx3,vo,bo,ho,exZGc (by first|rfl|(simp only[Int.natCast_add,Int.natCast_one];rfl)|simp only[Int.natCast_add,Int.natCast_one])⟩
 ·rintro S H2 ⟨hx2,vo,bo,ho,z,rfl⟩
  have hpl:=plc0_le b.len b.n (b.da+1)
  have hm:b.n*(b.da+1)≤81*255:=Nat.mul_le_mul h2 (by omega)
  have ho:Own G.length 2 H2 vo bo (ptL (b.plD.map ipt)):=ho
  have hpl:b.plD.length≤b.n*(b.da+1):=hpl
  have e0:∀y,(plc0 (fun _=>b.ck) b.n y).length≤b.n*y:=plc0_le _ _
  have hsh:∀q:List (Nat×Nat),(q.map fun p=>(p.1,b.len p.1+p.2)).length=q.length:=fun q=>List.length_map _
  (try simp only[ctlB])
  repeat' ((first|refine xSQf ?_|refine xOQf rfl ?_);(try simp only[ctlB]))
  refine aw_for (fun y S H'=>Ext G H'∧∃vo bo,Own G.length 2 H' vo bo (ptL ((b.plD++(plc0 (fun _=>b.ck) b.n y).map fun p=>(p.1,b.len p.1+p.2)).map ipt))∧∃(z:Nat→Value),S=[.int .i64 v,.int .i64 l,z 2,z 3,.pointer (some ⟨H1.length,0,none⟩),z 5,vo,z 7,z 8,.int .i64 (y:Nat),z 10,z 11,z 12,z 13,z 14,z 15,z 16,z 17,z 18,z 19,z 20,z 21]) b.ck ?_ ?_ ?_ ?_
  ·exact⟨hx2,vo,bo,by simpa[plc0]using ho,exZGc rfl⟩
  ·rintro y S H' hy ⟨hx,vo,bo,ho,z,rfl⟩
   have g0:=hx.get g0
   exact⟨_,xEQf,by simp⟩
  ·clear ho hx2
   rintro y S H2 hy ⟨hx2,vo,bo,ho,z,rfl⟩
   have e1:=e0 y
   have hm2:b.n*y≤81*254:=Nat.mul_le_mul h2 (by omega)
   have g0':=hx2.get g0
   have hl2:=hx2.1
   (try simp only[ctlB])
   repeat' ((first|refine xSQf ?_|refine xOQf rfl ?_);(try simp only[ctlB]))
   refine aw_for (fun x S H'=>Ext G H'∧∃vo bo,Own G.length 2 H' vo bo (ptL ((b.plD++(plc0 (fun _=>b.ck) b.n y++rowP (fun _=>b.ck) x y).map fun p=>(p.1,b.len p.1+p.2)).map ipt))∧∃(z:Nat→Value),S=[.int .i64 v,.int .i64 l,z 2,z 3,.pointer (some ⟨H1.length,0,none⟩),z 5,vo,z 7,z 8,.int .i64 (y:Nat),.int .i64 (x:Nat),z 11,z 12,z 13,z 14,z 15,z 16,z 17,z 18,z 19,z 20,z 21]) b.n ?_ ?_ ?_ ?_
   ·exact⟨hx2,vo,bo,by rw[rowP_zero,List.append_nil];exact ho,exZGc rfl⟩
   ·rintro x S H' hx ⟨hx',vo,bo,ho,z,rfl⟩
    have g0:=hx'.get g0
    exact⟨_,xEQf,by simp⟩
   ·clear ho hx2 vo bo g0' hl2
    rintro x S H3 hx ⟨hx3,vo,bo,ho,z,rfl⟩
    have g0:=hx3.get g0
    have hl3:=hx3.1
    have hrl:=rowP_le (fun _=>b.ck) x y
    have hlen:((b.plD++(plc0 (fun _=>b.ck) b.n y++rowP (fun _=>b.ck) x y).map fun p=>(p.1,b.len p.1+p.2)).map ipt).length≤100000:=by
     rw[List.length_map,List.length_append,hsh,List.length_append];omega
    have hz:b.plD++(plc0 (fun _=>b.ck) b.n y++rowP (fun _=>b.ck) (x+1) y).map (fun p=>(p.1,b.len p.1+p.2))=(b.plD++(plc0 (fun _=>b.ck) b.n y++rowP (fun _=>b.ck) x y).map (fun p=>(p.1,b.len p.1+p.2)))++[(x,b.len x+y)]:=by
     rw[rowP_succ,if_pos hy,←List.append_assoc,List.map_append,←List.append_assoc];rfl
    rw[hz]
    clear hz
    generalize b.plD++(plc0 (fun _=>b.ck) b.n y++rowP (fun _=>b.ck) x y).map (fun p=>(p.1,b.len p.1+p.2))=Z at *
    clear hrl hsh
    (try simp only[ctlB])
    repeat' ((first|refine xSQf ?_|refine xOQf rfl ?_);(try simp only[ctlB]))
    by_cases hc:b.sh≤x
    ·have e3:b.len x=b.da+1:=if_pos hc
     refine xCQf (fun h=>?_) (fun h=>?_)
     case refine_2=>exfalso;simp at h<;>omega
     clear h
     (try simp only[ctlB])
     repeat' ((first|refine xSQf ?_|refine xOQf rfl ?_);(try simp only[ctlB]))
     refine xHQf ?_
     refine wpH_app (b:=bo) (cells:=ptL (Z.map ipt)) (c:=penc (ipt (x,b.len x+y))) ((ho.mono (Ext.app _ _)).lower (by omega)) (by simp;omega) (by omega) (by omega) (by rw[ptL_len];omega) (by rw[get_appS];rfl) (by simp) (by rw[e3];simp[penc,ipt];omega) rfl ?_
     intro vo' H4 ho' hk hl4
     have ho':∃nb,Own G.length 2 H4 vo' nb (ptL ((Z++[(x,b.len x+y)]).map ipt)):=by
      rw[List.map_append,ptL_app]
      exact⟨_,by simp;omega,ho'.2⟩
     obtain⟨nb,ho'⟩:=ho'
     have hx4:=hk.ext (hx3.trans (Ext.app H3 _)) ho.1
     (try simp only[ctlB])
     repeat' ((first|refine xSQf ?_|refine xOQf rfl ?_);(try simp only[ctlB]))
     exact⟨hx4,vo',_,ho',exZGc (by first|rfl|(simp only[Int.natCast_add,Int.natCast_one];rfl)|simp only[Int.natCast_add,Int.natCast_one])⟩
    ·have e3:b.len x=b.da:=if_neg hc
     refine xCQf (fun h=>?_) (fun h=>?_)
     ·exfalso;simp at h<;>omega
     clear h
     (try simp only[ctlB])
     repeat' ((first|refine xSQf ?_|refine xOQf rfl ?_);(try simp only[ctlB]))
     refine xHQf ?_
     refine wpH_app (b:=bo) (cells:=ptL (Z.map ipt)) (c:=penc (ipt (x,b.len x+y))) ((ho.mono (Ext.app _ _)).lower (by omega)) (by simp;omega) (by omega) (by omega) (by rw[ptL_len];omega) (by rw[get_appS];rfl) (by simp) (by rw[e3];simp[penc,ipt]) rfl ?_
     intro vo' H4 ho' hk hl4
     have ho':∃nb,Own G.length 2 H4 vo' nb (ptL ((Z++[(x,b.len x+y)]).map ipt)):=by
      rw[List.map_append,ptL_app]
      exact⟨_,by simp;omega,ho'.2⟩
     obtain⟨nb,ho'⟩:=ho'
     have hx4:=hk.ext (hx3.trans (Ext.app H3 _)) ho.1
     (try simp only[ctlB])
     repeat' ((first|refine xSQf ?_|refine xOQf rfl ?_);(try simp only[ctlB]))
     exact⟨hx4,vo',_,ho',exZGc (by first|rfl|(simp only[Int.natCast_add,Int.natCast_one];rfl)|simp only[Int.natCast_add,Int.natCast_one])⟩
   ·clear ho hx2 vo bo
    rintro S H3 ⟨hx3,vo,bo,ho,z,rfl⟩
    rw[←plc0_succ]at ho
    (try simp only[ctlB])
    repeat' ((first|refine xSQf ?_|refine xOQf rfl ?_);(try simp only[ctlB]))
    exact⟨hx3,vo,bo,ho,exZGc (by first|rfl|(simp only[Int.natCast_add,Int.natCast_one];rfl)|simp only[Int.natCast_add,Int.natCast_one])⟩
  ·clear ho hx2
   rintro S H2 ⟨hx2,vo,bo,ho,z,rfl⟩
   have ho:SlPt H2 vo b.plI:=SlPt.ofOwn ho
   (try simp only[ctlB])
   repeat' ((first|refine xSQf ?_|refine xOQf rfl ?_);(try simp only[ctlB]))
   refine xRQf ?_
   exact⟨hxG.trans hx2,vo,rfl,ho⟩
end
end Go.Proofs.YtkeagffmmhllcaaGreat
